/- What one call of the closed example comes to, by computing. No condition. -/
import Derived.Test.YtkemmiljbaneoaaGreatQc
namespace Go.Proofs.Tryz.Kn
open Go Go.Pg
set_option maxRecDepth 100000
theorem kTa:call0 Tryz.prog ex0 29 [BB 0,turn] = some (.tup [.agg [i 2,i 2],i 0]):=by kernel_rfl
end Go.Proofs.Tryz.Kn
