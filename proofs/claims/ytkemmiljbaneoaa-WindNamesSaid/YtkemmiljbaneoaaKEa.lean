/- What one call of the closed example comes to, by computing. No condition. -/
import Derived.Test.YtkemmiljbaneoaaKg
namespace Go.Proofs.Try.Kn
open Go Go.Pg
set_option maxRecDepth 100000
theorem kEa:call0 Try.prog (execA Try.prog annC (knX tabE) 300) 21 [BB 0,i 6] = some (.tup [.list false [[.list false [[i 2],[i 2]]],[.list false [[i 3],[i 3]]]],i 2,i 0]):=by kernel_rfl
end Go.Proofs.Try.Kn
