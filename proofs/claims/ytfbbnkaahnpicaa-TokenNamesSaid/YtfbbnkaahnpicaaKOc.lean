/- What one call of the closed example comes to, by computing. No condition. -/
import Derived.Test.YtfbbnkaahnpicaaQc
namespace Go.Proofs.Try.Kn
open Go Go.Pg
theorem kOc : call0 Try.prog ex0 21 [SS 5, i 6] = some (.tup [.nil, .nil, e 2]) := by kernel_rfl
end Go.Proofs.Try.Kn
