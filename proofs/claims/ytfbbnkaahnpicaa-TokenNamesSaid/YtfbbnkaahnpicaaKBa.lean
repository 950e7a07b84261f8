/- What one call of the closed example comes to, by computing. No condition. -/
import Derived.Test.YtfbbnkaahnpicaaQc
namespace Go.Proofs.Try.Kn
open Go Go.Pg
theorem kBa : call0 Try.prog ex0 55 [.agg [i 3, i 5, i 20, .list false (l5.take 4), .list false [[i 5, i 0, i 0]]]] = some (e 1) := by kernel_rfl
end Go.Proofs.Try.Kn
