/- What one call of the closed example comes to, by computing. No condition. -/
import Derived.Test.YtfbbnkaahnpicaaQc
namespace Go.Proofs.Try.Kn
open Go Go.Pg
theorem kLc : call0 Try.prog ex0 38 [poor] = some (.tup [.nil, e 10]) := by kernel_rfl
end Go.Proofs.Try.Kn
