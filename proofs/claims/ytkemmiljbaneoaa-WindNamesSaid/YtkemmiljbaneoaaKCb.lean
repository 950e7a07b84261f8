/- What one call of the closed example comes to, by computing. No condition. -/
import Derived.Test.YtkemmiljbaneoaaQc
namespace Go.Proofs.Try.Kn
open Go Go.Pg
set_option maxRecDepth 100000
theorem kCb:call0 Try.prog ex0 24 [BB 0,stay,.agg [i 0,i 1],i 0] = some (.tup [i 1,i 0]):=by kernel_rfl
end Go.Proofs.Try.Kn
