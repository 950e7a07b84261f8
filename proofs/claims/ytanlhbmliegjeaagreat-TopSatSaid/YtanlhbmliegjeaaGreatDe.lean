/- Contract of the reference: Sits, place by place. No condition but groups whose families are there, and earlier spots on the beach. -/
import Derived.Test.YtanlhbmliegjeaaGreatDd
set_option maxRecDepth 100000
set_option linter.unusedSimpArgs false
open Go Go.Pg Go.Proofs Go.Wind
namespace Go.Wind
end Go.Wind
namespace Go.Proofs.Tryz.Op
section
variable (c:A0)(G:List (Nat×Int))(ss:List (Int×Int))(t q:Nat)
end
end Go.Proofs.Tryz.Op
