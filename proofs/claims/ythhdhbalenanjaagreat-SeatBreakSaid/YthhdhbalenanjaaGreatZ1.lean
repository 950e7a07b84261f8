/- The walk of SeatPlays. No condition. -/
import Derived.Test.YthhdhbalenanjaaGreatD1
set_option maxRecDepth 100000
set_option linter.unusedSimpArgs false
open Go Go.Pg Go.Proofs Go.Wind
namespace Go.Proofs.Tryz.Op
theorem UF(n:Nat)(d:Option Tmp)(st:XS):G7 (BH Tryz.prog ann kn n) d st 19 []=EV d st (some (.bool true)):=by rw[bJ d rfl (by simp)];rfl
theorem KB{b:AK}(h:QG b=true):b.face.length<=100/\b.sun.length<=100/\b.winds.length<=100/\(∀l∈b.winds,l.length<=40)/\b.breaks.length<=100/\b.notes.length<=100:=by simp only[QG,Bool.and_eq_true,Bool.not_eq_true',Bool.or_eq_false_iff,Bool.not_eq_false',decide_eq_false_iff_not]at h;obtain⟨⟨⟨⟨⟨h1,h2⟩,h3⟩,h4⟩,h5⟩,_⟩:=h;obtain⟨h6,h7⟩:=VT h3;exact⟨by omega,by omega,by omega,fun l hl=>by have:=h7 l hl;omega,by omega,by omega⟩
def iT(c:AP):Bool:=M5 c&&decide (CZ c=0)
theorem ALL(n:Nat)(c:AP):A3 Tryz.prog kn (AF Tryz.prog ann kn (n+2600)) 54 [.agg (AE c)]=some (.bool (iT c)):=by
 rw[AQ rfl,AR Tryz.func54 b54 rfl (by simp[AE,AS,BU,AU])];have qT:=fun n=>AOK n c;unfold iT;cases hT:M5 c with
 |false=>
  rw[hT]at qT
  simp only[AE]at qT|-
  simp[c54,AD,qT,AS,BU,AU]
 |true=>
  rw[hT]at qT
  obtain⟨t1,t2,t3,t4,t5,t6⟩:=GJ hT
  obtain⟨l1,l2,l3,l4,l5,l6⟩:=KB t1
  have qf:=fun n=>AHG n c (fun l hl=>by have:=l4 l hl;omega) (by omega) (by omega)
  generalize CZ c=E at *
  simp only[AE]at qT qf|-
  simp[c54,AD,qT,qf,AS,BU,AU]
section
variable (c:AP)(hc:BZ c)(G:List (Nat×Int))(hG:G.length<=10)(hf:∀g∈G,g.1<c.fams.length/\0<=g.2/\g.2<=4)(ws:List Nat)(hws:∀w∈ws,w<=65535)
include hc hG hf hws
end
end Go.Proofs.Tryz.Op
