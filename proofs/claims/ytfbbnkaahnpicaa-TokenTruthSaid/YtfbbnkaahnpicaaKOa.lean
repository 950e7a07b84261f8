/- What one call of the closed example comes to, by computing. No condition. -/
import Derived.Test.YtfbbnkaahnpicaaQc
namespace Go.Proofs.Try.Kn
open Go Go.Pg
theorem kOa:call0 Try.prog ex0 21 [SS 4,i 4] = some (.tup [.list false [[i 1],[i 1],[i 2]],.list false [[i 1],[i 2],[i 1]],e 0]):=by kernel_rfl
end Go.Proofs.Try.Kn
