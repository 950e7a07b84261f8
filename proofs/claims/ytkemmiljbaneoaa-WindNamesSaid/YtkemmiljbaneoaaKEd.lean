/- What one call of the closed example comes to, by computing. No condition. -/
import Derived.Test.YtkemmiljbaneoaaQc
namespace Go.Proofs.Try.Kn
open Go Go.Pg
set_option maxRecDepth 100000
theorem kEd:call0 Try.prog ex0 21 [BB 2,i 100] = some (.tup [.nil,i 0,i 2]):=by kernel_rfl
end Go.Proofs.Try.Kn
