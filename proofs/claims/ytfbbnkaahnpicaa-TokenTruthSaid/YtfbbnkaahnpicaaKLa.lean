/- What one call of the closed example comes to, by computing. No condition. -/
import Derived.Test.YtfbbnkaahnpicaaQc
namespace Go.Proofs.Try.Kn
open Go Go.Pg
theorem kLa:call0 Try.prog ex0 38 [SS 5] = some (.tup [.list false [[i 3]],e 0]):=by kernel_rfl
end Go.Proofs.Try.Kn
