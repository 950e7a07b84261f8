/- What one call of the closed example comes to, by computing. No condition. -/
import Derived.Test.YtfbbnkaahnpicaaQc
namespace Go.Proofs.Try.Kn
open Go Go.Pg
theorem kWd : call0 Try.prog ex0 33 [SS 5, i 5] = some (.tup [.nil, e 2]) := by kernel_rfl
end Go.Proofs.Try.Kn
