/- What one call of the closed example comes to, by computing. No condition. -/
import Derived.Test.YtfbbnkaahnpicaaQc
namespace Go.Proofs.Try.Kn
open Go Go.Pg
theorem kFb : call0 Try.prog ex0 37 [late] = some (.tup [i 0, e 7]) := by kernel_rfl
end Go.Proofs.Try.Kn
