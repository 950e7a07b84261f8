/- The walk of SeatPlays. No condition. -/
import Derived.Test.YthhdhbalenanjaaGreatD1
set_option maxRecDepth 100000
set_option linter.unusedSimpArgs false
open Go Go.Pg Go.Proofs Go.Wind
namespace Go.Proofs.Tryz.Op
theorem iI(n:Nat)(d:Option Tmp)(st:XS):G8 (BH Tryz.prog ann kn n) d st 19 []=D4 d st (some (.bool true)):=by rw[bE d rfl (by simp)];rfl
theorem bK{b:AN}(h:WR b=true):b.face.length<=100/\b.sun.length<=100/\b.winds.length<=100/\(∀l∈b.winds,l.length<=40)/\b.breaks.length<=100/\b.notes.length<=100:=by simp only[WR,Bool.and_eq_true,Bool.not_eq_true',Bool.or_eq_false_iff,Bool.not_eq_false',decide_eq_false_iff_not]at h;obtain⟨⟨⟨⟨⟨h1,h2⟩,h3⟩,h4⟩,h5⟩,_⟩:=h;obtain⟨h6,h7⟩:=VU h3;exact⟨by omega,by omega,by omega,fun l hl=>by have:=h7 l hl;omega,by omega,by omega⟩
def iJ(c:AW):Bool:=P9 c&&decide (EG c=0)
theorem ALI(n:Nat)(c:AW):A3 Tryz.prog kn (AE Tryz.prog ann kn (n+2600)) 54 [.agg (AJ c)]=some (.bool (iJ c)):=by
 rw[AP rfl,AQ Tryz.func54 b54 rfl (by simp[AJ,AS,BM,AR,AG,AM,AL])];have qT:=fun n=>AOZ n c;unfold iJ;cases hT:P9 c with
 |false=>
  rw[hT]at qT
  simp only[AJ]at qT|-
  simp[c54,AD,qT,AG,AM,AL,AS,BM,AR]
 |true=>
  rw[hT]at qT
  obtain⟨t1,t2,t3,t4,t5,t6⟩:=MB hT
  obtain⟨l1,l2,l3,l4,l5,l6⟩:=bK t1
  have qf:=fun n=>AG6 n c (fun l hl=>by have:=l4 l hl;omega) (by omega) (by omega)
  generalize EG c=E at *
  simp only[AJ]at qT qf|-
  simp[c54,AD,qT,qf,AG,AM,AL,AS,BM,AR]
section
variable (c:AW)(hc:C0 c)(G:List (Nat×Int))(hG:G.length<=10)(hf:∀g∈G,g.1<c.fams.length/\0<=g.2/\g.2<=4)(ws:List Nat)(hws:∀w∈ws,w<=65535)
include hc hG hf hws
end
end Go.Proofs.Tryz.Op
