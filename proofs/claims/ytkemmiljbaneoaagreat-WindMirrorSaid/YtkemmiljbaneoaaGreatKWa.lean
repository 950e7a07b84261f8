/- What one call of the closed example comes to, by computing. No condition. -/
import Derived.Test.YtkemmiljbaneoaaGreatQc
namespace Go.Proofs.Tryz.Kn
open Go Go.Pg
set_option maxRecDepth 100000
theorem kWa:call0 Tryz.prog ex0 16 [BB 0,turn] = some (.tup [i 6,i 0]):=by kernel_rfl
end Go.Proofs.Tryz.Kn
