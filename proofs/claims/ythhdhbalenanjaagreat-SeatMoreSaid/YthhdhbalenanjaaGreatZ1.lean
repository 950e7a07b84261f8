/- The walk of SeatPlays. No condition. -/
import Derived.Test.YthhdhbalenanjaaGreatD1
set_option maxRecDepth 100000
set_option linter.unusedSimpArgs false
open Go Go.Pg Go.Proofs Go.Wind
namespace Go.Proofs.Tryz.Op
theorem V8(n:Nat)(d:Option Tmp)(st:XS):HT (BQ Tryz.prog ann kn n) d st 19 []=EK d st (some (.bool true)):=by rw[eU d rfl (by simp)];rfl
theorem fA{b:AM}(h:YV b=true):b.face.length<=100/\b.sun.length<=100/\b.winds.length<=100/\(∀l∈b.winds,l.length<=40)/\b.breaks.length<=100/\b.notes.length<=100:=by simp only[YV,Bool.and_eq_true,Bool.not_eq_true',Bool.or_eq_false_iff,Bool.not_eq_false',decide_eq_false_iff_not]at h;obtain⟨⟨⟨⟨⟨h1,h2⟩,h3⟩,h4⟩,h5⟩,_⟩:=h;obtain⟨h6,h7⟩:=XT h3;exact⟨by omega,by omega,by omega,fun l hl=>by have:=h7 l hl;omega,by omega,by omega⟩
def fB(c:AO):Bool:=Z7 c&&decide (F4 c=0)
theorem AA4(n:Nat)(c:AO):A3 Tryz.prog kn (AE Tryz.prog ann kn (n+2600)) 54 [.agg (AD c)]=some (.bool (fB c)):=by
 rw[AP rfl,AQ Tryz.func54 b54 rfl (by simp[AD,AW,BH,AS,AH,AN,AJ])];have qT:=fun n=>ATV n c;unfold fB;cases hT:Z7 c with
 |false=>
  rw[hT]at qT
  simp only[AD]at qT|-
  simp[c54,AF,qT,AH,AN,AJ,AW,BH,AS]
 |true=>
  rw[hT]at qT
  obtain⟨t1,t2,t3,t4,t5,t6⟩:=SA hT
  obtain⟨l1,l2,l3,l4,l5,l6⟩:=fA t1
  have qf:=fun n=>ALK n c (fun l hl=>by have:=l4 l hl;omega) (by omega) (by omega)
  generalize F4 c=E at *
  simp only[AD]at qT qf|-
  simp[c54,AF,qT,qf,AH,AN,AJ,AW,BH,AS]
section
variable (c:AO)(hc:B7 c)(G:List (Nat×Int))(hG:G.length<=10)(hf:∀g∈G,g.1<c.fams.length/\0<=g.2/\g.2<=4)(ws:List Nat)(hws:∀w∈ws,w<=65535)
include hc hG hf hws
end
theorem AED(c:AO):JC c 0=AR c []:=by
 have:∀N,C9 0 N=[]:=fun N=>by unfold C9;simp
 unfold JC;rw[this]
end Go.Proofs.Tryz.Op
