/- What one call of the closed example comes to, by computing. No condition. -/
import Derived.Test.YtkemmiljbaneoaaQc
namespace Go.Proofs.Try.Kn
open Go Go.Pg
set_option maxRecDepth 100000
theorem kVe:call0 Try.prog ex0 36 [BB 2,stay,i 9,i 0] = some (.bool false):=by kernel_rfl
end Go.Proofs.Try.Kn
