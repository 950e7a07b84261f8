/- What one call of the closed example comes to, by computing. No condition. -/
import Derived.Test.YtkemmiljbaneoaaQc
namespace Go.Proofs.Try.Kn
open Go Go.Pg
set_option maxRecDepth 100000
theorem kTb:call0 Try.prog ex0 13 [BB 0,stay] = some (.tup [.agg [i 1,i 1],i 0]):=by kernel_rfl
end Go.Proofs.Try.Kn
