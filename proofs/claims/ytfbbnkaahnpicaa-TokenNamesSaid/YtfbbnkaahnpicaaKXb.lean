/- What one call of the closed example comes to, by computing. No condition. -/
import Derived.Test.YtfbbnkaahnpicaaQc
namespace Go.Proofs.Try.Kn
open Go Go.Pg
theorem kXb : call0 Try.prog ex0 29 [SS 4] = some (.tup [.agg [i 0, i 0], e 0]) := by kernel_rfl
end Go.Proofs.Try.Kn
