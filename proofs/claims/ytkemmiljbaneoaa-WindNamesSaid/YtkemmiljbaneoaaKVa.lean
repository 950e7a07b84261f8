/- What one call of the closed example comes to, by computing. No condition. -/
import Derived.Test.YtkemmiljbaneoaaQc
namespace Go.Proofs.Try.Kn
open Go Go.Pg
set_option maxRecDepth 100000
theorem kVa:call0 Try.prog ex0 36 [BB 0,.list false [[.list false [[i 2],[i 2]]],[.list false [[i 3],[i 3]]]],i 6,i 2] = some (.bool true):=by kernel_rfl
end Go.Proofs.Try.Kn
