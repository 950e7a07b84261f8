/- Contracts: what Content asks of a place. No condition. -/
import Derived.Test.YthhdhbalenanjaaGreatSg
import Derived.Test.YthhdhbalenanjaaGreatA1
import Derived.Test.YthhdhbalenanjaaGreatFz
set_option maxRecDepth 100000
set_option linter.unusedSimpArgs false
open Go Go.Pg Go.Proofs Go.Wind
namespace Go.Proofs.Tryz.Op
end Go.Proofs.Tryz.Op
