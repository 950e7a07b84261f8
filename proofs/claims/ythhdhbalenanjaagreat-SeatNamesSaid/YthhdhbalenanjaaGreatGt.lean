/- What the seat's types come to. No condition. -/
import Derived.Test.YthhdhbalenanjaaGreatChecked
import Derived.Test.YthhdhbalenanjaaGreatSx
namespace Go.Proofs.Tryz.Op
open Go Go.Pg
end Go.Proofs.Tryz.Op
