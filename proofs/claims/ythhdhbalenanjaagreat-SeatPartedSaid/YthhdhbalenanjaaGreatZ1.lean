/- The walk of SeatPlays. No condition. -/
import Derived.Test.YthhdhbalenanjaaGreatD1
set_option maxRecDepth 100000
set_option linter.unusedSimpArgs false
open Go Go.Pg Go.Proofs Go.Wind
namespace Go.Proofs.Tryz.Op
theorem W3(n:Nat)(d:Option Tmp)(st:XS):HK (BI Tryz.prog ann kn n) d st 19 []=D0 d st (some (.bool true)):=by rw[aF d rfl (by simp)];rfl
theorem QW{b:AN}(h:V9 b=true):b.face.length<=100/\b.sun.length<=100/\b.winds.length<=100/\(∀l∈b.winds,l.length<=40)/\b.breaks.length<=100/\b.notes.length<=100:=by simp only[V9,Bool.and_eq_true,Bool.not_eq_true',Bool.or_eq_false_iff,Bool.not_eq_false',decide_eq_false_iff_not]at h;obtain⟨⟨⟨⟨⟨h1,h2⟩,h3⟩,h4⟩,h5⟩,_⟩:=h;obtain⟨h6,h7⟩:=VE h3;exact⟨by omega,by omega,by omega,fun l hl=>by have:=h7 l hl;omega,by omega,by omega⟩
def gM(c:AV):Bool:=NK c&&decide (D6 c=0)
theorem AKE(n:Nat)(c:AV):A8 Tryz.prog kn (AF Tryz.prog ann kn (n+2600)) 54 [.agg (AG c)]=some (.bool (gM c)):=by
 rw[AP rfl,AQ Tryz.func54 b54 rfl (by simp[AG,AU,BH,AR,AJ,AM,AL])];have qT:=fun n=>ANQ n c;unfold gM;cases hT:NK c with
 |false=>
  rw[hT]at qT
  simp only[AG]at qT|-
  simp[c54,AD,qT,AJ,AM,AL,AU,BH,AR]
 |true=>
  rw[hT]at qT
  obtain⟨t1,t2,t3,t4,t5,t6⟩:=JM hT
  obtain⟨l1,l2,l3,l4,l5,l6⟩:=QW t1
  have qf:=fun n=>AF1 n c (fun l hl=>by have:=l4 l hl;omega) (by omega) (by omega)
  generalize D6 c=E at *
  simp only[AG]at qT qf|-
  simp[c54,AD,qT,qf,AJ,AM,AL,AU,BH,AR]
section
variable (c:AV)(hc:C5 c)(G:List (Nat×Int))(hG:G.length<=10)(hf:∀g∈G,g.1<c.fams.length/\0<=g.2/\g.2<=4)(ws:List Nat)(hws:∀w∈ws,w<=65535)
include hc hG hf hws
end
end Go.Proofs.Tryz.Op
