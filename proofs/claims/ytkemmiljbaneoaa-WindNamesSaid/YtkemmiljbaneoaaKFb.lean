/- What one call of the closed example comes to, by computing. No condition. -/
import Derived.Test.YtkemmiljbaneoaaQc
namespace Go.Proofs.Try.Kn
open Go Go.Pg
set_option maxRecDepth 100000
theorem kFb:call0 Try.prog ex0 27 [BB 1] = some (.tup [i 0,i 7]):=by kernel_rfl
end Go.Proofs.Try.Kn
