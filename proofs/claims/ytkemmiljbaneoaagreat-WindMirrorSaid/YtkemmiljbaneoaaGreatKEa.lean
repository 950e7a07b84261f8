/- What one call of the closed example comes to, by computing. No condition. -/
import Derived.Test.YtkemmiljbaneoaaGreatKg
namespace Go.Proofs.Tryz.Kn
open Go Go.Pg
set_option maxRecDepth 100000
theorem kEa:call0 Tryz.prog (execA Tryz.prog annC (knX tabE) 300) 36 [BB 0,i 6] = some (.tup [.list false [[.list false [[i 2],[i 2]]],[.list false [[i 3],[i 3]]]],i 2,i 0]):=by kernel_rfl
end Go.Proofs.Tryz.Kn
