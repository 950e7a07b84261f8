/- Contracts of the reference: Enough, IsAllowed. No condition but a valid case, sure hours for each place. -/
import Derived.Test.YthhdhbalenanjaaGreatA2
set_option maxRecDepth 100000
set_option linter.unusedSimpArgs false
open Go Go.Pg Go.Proofs Go.Wind
namespace Go.Proofs.Tryz.Op
structure ACZ(c:AR)(s:List (List Int)):Prop where
 ln:s.length=c.beach.rows.toNat
 rw':∀l∈s,l.length=c.beach.places.toNat
 bd:∀l∈s,∀x∈l,0<=x/\x<=5
section
variable (c:AR)(hc:B7 c)(s:List (List Int))(hs:ACZ c s)(G:List (Nat×Int))(ss:List (Int×Int))(hf:∀g∈G,g.1<c.fams.length/\0<=g.2/\g.2<=4)(hl:ss.length<=G.length)(hl2:ss.length<=100)(hfit:∀k,k<ss.length->JL c (BA3 G ss k)=true)
include hc hs hf hl hl2 hfit
omit hl2 in
end
end Go.Proofs.Tryz.Op
