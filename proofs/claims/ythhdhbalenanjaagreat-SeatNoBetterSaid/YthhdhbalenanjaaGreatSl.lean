/- Plain law: Bounds and Content over the reference's truths. -/
import Derived.Test.YthhdhbalenanjaaGreatSk
import Derived.Test.YthhdhbalenanjaaGreatD1
set_option maxRecDepth 100000
open Go Go.Pg Go.Proofs Go.Wind
namespace Go.Proofs.Tryz.Op
end Go.Proofs.Tryz.Op
