/- The walk of SeatPlays. No condition. -/
import Derived.Test.YthhdhbalenanjaaGreatD1
set_option maxRecDepth 100000
set_option linter.unusedSimpArgs false
open Go Go.Pg Go.Proofs Go.Wind
namespace Go.Proofs.Tryz.Op
theorem CH(n:Nat)(d:Option Tmp)(st:XS):HQ (BL Tryz.prog ann kn n) d st 19 []=EG d st (some (.bool true)):=by rw[bR d rfl (by simp)];rfl
theorem NL{b:AN}(h:W3 b=true):b.face.length<=100/\b.sun.length<=100/\b.winds.length<=100/\(∀l∈b.winds,l.length<=40)/\b.breaks.length<=100/\b.notes.length<=100:=by simp only[W3,Bool.and_eq_true,Bool.not_eq_true',Bool.or_eq_false_iff,Bool.not_eq_false',decide_eq_false_iff_not]at h;obtain⟨⟨⟨⟨⟨h1,h2⟩,h3⟩,h4⟩,h5⟩,_⟩:=h;obtain⟨h6,h7⟩:=V2 h3;exact⟨by omega,by omega,by omega,fun l hl=>by have:=h7 l hl;omega,by omega,by omega⟩
def jB(c:AU):Bool:=JD c&&decide (DE c=0)
theorem AL4(n:Nat)(c:AU):BA Tryz.prog kn (AF Tryz.prog ann kn (n+2600)) 54 [.agg (AE c)]=some (.bool (jB c)):=by
 rw[AR rfl,AS Tryz.func54 b54 rfl (by simp[AE,AO,AZ,AP,AH,AM,AL])];have qT:=fun n=>APD n c;unfold jB;cases hT:JD c with
 |false=>
  rw[hT]at qT
  simp only[AE]at qT|-
  simp[c54,AD,qT,AH,AM,AL,AO,AZ,AP]
 |true=>
  rw[hT]at qT
  obtain⟨t1,t2,t3,t4,t5,t6⟩:=G8 hT
  obtain⟨l1,l2,l3,l4,l5,l6⟩:=NL t1
  have qf:=fun n=>AHT n c (fun l hl=>by have:=l4 l hl;omega) (by omega) (by omega)
  generalize DE c=E at *
  simp only[AE]at qT qf|-
  simp[c54,AD,qT,qf,AH,AM,AL,AO,AZ,AP]
section
variable (c:AU)(hc:CW c)(G:List (Nat×Int))(hG:G.length<=10)(hf:∀g∈G,g.1<c.fams.length/\0<=g.2/\g.2<=4)(ws:List Nat)(hws:∀w∈ws,w<=65535)
include hc hG hf hws
end
end Go.Proofs.Tryz.Op
