/- What one call of the closed example comes to, by computing. No condition. -/
import Derived.Test.YtkemmiljbaneoaaQc
namespace Go.Proofs.Try.Kn
open Go Go.Pg
set_option maxRecDepth 100000
theorem kWa:call0 Try.prog ex0 34 [BB 0,turn] = some (.tup [i 6,i 0]):=by kernel_rfl
end Go.Proofs.Try.Kn
