/- Plain law: the ranges and the counts of a seating, over the truths in any order. -/
import Derived.Test.YthhdhbalenanjaaGreatS2
import Derived.Test.YthhdhbalenanjaaGreatD1
set_option maxRecDepth 100000
open Go Go.Pg Go.Proofs Go.Wind
namespace Go.Wind
end Go.Wind
namespace Go.Proofs.Tryz.Op
end Go.Proofs.Tryz.Op
