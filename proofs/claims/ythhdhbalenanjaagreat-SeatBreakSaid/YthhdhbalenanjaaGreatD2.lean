/- Contracts of the reference: Enough, IsAllowed. No condition but a valid case, sure hours for each place. -/
import Derived.Test.YthhdhbalenanjaaGreatA2
import Derived.Test.YthhdhbalenanjaaGreatEj
set_option maxRecDepth 100000
set_option linter.unusedSimpArgs false
open Go Go.Pg Go.Proofs Go.Wind
namespace Go.Proofs.Tryz.Op
structure ABA(c:AP)(s:List (List Int)):Prop where
 ln:s.length=c.beach.rows.toNat
 rw':∀l∈s,l.length=c.beach.places.toNat
 bd:∀l∈s,∀x∈l,0<=x/\x<=5
section
variable (c:AP)(hc:BZ c)(s:List (List Int))(hs:ABA c s)(G:List (Nat×Int))(ss:List (Int×Int))(hf:∀g∈G,g.1<c.fams.length/\0<=g.2/\g.2<=4)(hl:ss.length<=G.length)(hl2:ss.length<=100)(hfit:∀k,k<ss.length->JB c (A8V G ss k)=true)
include hc hs hf hl hl2 hfit
omit hl2 in
end
end Go.Proofs.Tryz.Op
