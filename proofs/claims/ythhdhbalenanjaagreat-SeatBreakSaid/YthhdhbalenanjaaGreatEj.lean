/- Contract of the reference: Bounds. No condition but a valid beach. -/
import Derived.Test.YthhdhbalenanjaaGreatEa
set_option maxRecDepth 100000
set_option linter.unusedSimpArgs false
open Go Go.Pg Go.Proofs Go.Wind
namespace Go.Proofs.Tryz.Op
section
variable {b:AK}{P:List (List Int)}
end
end Go.Proofs.Tryz.Op
