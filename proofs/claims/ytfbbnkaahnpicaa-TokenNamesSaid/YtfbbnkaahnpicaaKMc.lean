/- What one call of the closed example comes to, by computing. No condition. -/
import Derived.Test.YtfbbnkaahnpicaaQc
namespace Go.Proofs.Try.Kn
open Go Go.Pg
theorem kMc : call0 Try.prog ex0 28 [late, i 0] = some (.tup [.agg [i 0, i 0], e 11]) := by kernel_rfl
end Go.Proofs.Try.Kn
