/- What one call of the closed example comes to, by computing. No condition. -/
import Derived.Test.YtfbbnkaahnpicaaQc
namespace Go.Proofs.Try.Kn
open Go Go.Pg
theorem kFa:call0 Try.prog ex0 37 [SS 5] = some (.tup [i 4,e 0]):=by kernel_rfl
end Go.Proofs.Try.Kn
