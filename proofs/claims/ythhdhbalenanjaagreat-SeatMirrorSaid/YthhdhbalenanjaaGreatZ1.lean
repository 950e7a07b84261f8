/- The walk of SeatPlays. No condition. -/
import Derived.Test.YthhdhbalenanjaaGreatD1
set_option maxRecDepth 100000
set_option linter.unusedSimpArgs false
open Go Go.Pg Go.Proofs Go.Wind
namespace Go.Proofs.Tryz.Op
theorem yE(n:Nat)(d:Option Tmp)(st:XS):HC (BG Tryz.prog ann kn n) d st 19 []=EW d st (some (.bool true)):=by rw[cJ d rfl (by simp)];rfl
theorem RY{b:AL}(h:Q1 b=true):b.face.length<=100/\b.sun.length<=100/\b.winds.length<=100/\(∀l∈b.winds,l.length<=40)/\b.breaks.length<=100/\b.notes.length<=100:=by simp only[Q1,Bool.and_eq_true,Bool.not_eq_true',Bool.or_eq_false_iff,Bool.not_eq_false',decide_eq_false_iff_not]at h;obtain⟨⟨⟨⟨⟨h1,h2⟩,h3⟩,h4⟩,h5⟩,_⟩:=h;obtain⟨h6,h7⟩:=WH h3;exact⟨by omega,by omega,by omega,fun l hl=>by have:=h7 l hl;omega,by omega,by omega⟩
def jX(c:AR):Bool:=NM c&&decide (B5 c=0)
theorem ANF(n:Nat)(c:AR):A5 Tryz.prog kn (AE Tryz.prog ann kn (n+2600)) 54 [.agg (AF c)]=some (.bool (jX c)):=by
 rw[AN rfl,AP Tryz.func54 b54 rfl (by simp[AF,AS,BF,AY])];have qT:=fun n=>AQH n c;unfold jX;cases hT:NM c with
 |false=>
  rw[hT]at qT
  simp only[AF]at qT|-
  simp[c54,AD,qT,AS,BF,AY]
 |true=>
  rw[hT]at qT
  obtain⟨t1,t2,t3,t4,t5,t6⟩:=J6 hT
  obtain⟨l1,l2,l3,l4,l5,l6⟩:=RY t1
  have qf:=fun n=>AI8 n c (fun l hl=>by have:=l4 l hl;omega) (by omega) (by omega)
  generalize B5 c=E at *
  simp only[AF]at qT qf|-
  simp[c54,AD,qT,qf,AS,BF,AY]
section
variable (c:AR)(hc:B7 c)(G:List (Nat×Int))(hG:G.length<=10)(hf:∀g∈G,g.1<c.fams.length/\0<=g.2/\g.2<=4)(ws:List Nat)(hws:∀w∈ws,w<=65535)
include hc hG hf hws
end
end Go.Proofs.Tryz.Op
