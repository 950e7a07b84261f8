/- What the seat's types come to. No condition. -/
import Derived.Test.YtkemmiljbaneoaaChecked
import Derived.Test.YtkemmiljbaneoaaSx
namespace Go.Proofs.Try.Op
open Go Go.Pg
end Go.Proofs.Try.Op
