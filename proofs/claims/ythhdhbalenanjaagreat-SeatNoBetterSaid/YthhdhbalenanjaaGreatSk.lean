/- Plain law: the ranges and the counts of a seating, over the truths in any order. -/
import Derived.Test.YthhdhbalenanjaaGreatSj
import Derived.Test.YthhdhbalenanjaaGreatI1
set_option maxRecDepth 100000
open Go Go.Pg Go.Proofs Go.Wind
namespace Go.Wind
end Go.Wind
namespace Go.Proofs.Tryz.Op
def BXQ(c:AO)(ss:List (Int×Int))(q:Nat)(t:List Int):Bool:=BB4 ((c.fams.map (·.good)).getD q 0) (O1 c t) ((A2 c ss).getD q ⟨0,0,0,0⟩)
end Go.Proofs.Tryz.Op
