/- What one call of the closed example comes to, by computing. No condition. -/
import Derived.Test.YtkemmiljbaneoaaGreatQc
namespace Go.Proofs.Tryz.Kn
open Go Go.Pg
set_option maxRecDepth 100000
theorem kVa:call0 Tryz.prog ex0 37 [BB 0,.list false [[.list false [[i 2],[i 2]]],[.list false [[i 3],[i 3]]]],i 6,i 2] = some (.bool true):=by kernel_rfl
end Go.Proofs.Tryz.Kn
