/- What one call of the closed example comes to, by computing. No condition. -/
import Derived.Test.YtkemmiljbaneoaaQc
namespace Go.Proofs.Try.Kn
open Go Go.Pg
set_option maxRecDepth 100000
theorem kVc:call0 Try.prog ex0 36 [BB 0,turn,i 5,i 2] = some (.bool false):=by kernel_rfl
end Go.Proofs.Try.Kn
