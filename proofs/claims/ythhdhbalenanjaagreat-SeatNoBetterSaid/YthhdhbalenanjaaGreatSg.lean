/- Contract: Bounds. No condition but a valid case. -/
import Derived.Test.YthhdhbalenanjaaGreatSf
import Derived.Test.YthhdhbalenanjaaGreatFz
set_option maxRecDepth 100000
set_option linter.unusedSimpArgs false
open Go Go.Pg Go.Proofs Go.Wind
namespace Go.Proofs.Tryz.Op
def NB(c:AO)(ss:List (Int×Int))(t:List Int):List Int:=(A2 c ss).map (LI (O1 c t))
def BHL(c:AO)(ss:List (Int×Int)):List (Int×Int):=(ABE c.beach).foldl (fun rs t=>DX rs (NB c ss t) (NB c ss t).length) []
theorem LvB.more{c:AO}{ss:List (Int×Int)}{o:List (Int×Int)}{L:AA}{k k':Nat}(h:LvB c ss o L k)(hk:k≤k'):LvB c ss o L k':=by obtain⟨p2,p6,⟨γ,h1,h2⟩,p4,p5,p6'⟩:=h;exact⟨p2,p6,⟨γ,by omega,h2⟩,p4,by omega,p6'⟩
theorem AS5(c:AO)(hc:BZ c)(ss:List (Int×Int))(hs:DL c ss=true):BBQ c (LvB c ss) (fun rs t=>DX rs (NB c ss t) (NB c ss t).length) 79 [.ptr 0 2 0 0,.ptr 0 6 1 0,.ptr 0 8 2 0] 2 2000:=by
 intro a L L1 rs cc fr t hL hg ht hst;have hlt:A5 t c.beach.winds=true:=NP (EU.2 ht);have qs:=fun n=>AVH n c hc ss hs t hlt;obtain⟨h1,h2⟩:=LV hc hs;have hfl:=hc.fl;have hsl:(A2 c ss).length=c.fams.length:=DO h1;have hnl:(NB c ss t).length=c.fams.length:=by simp[NB,hsl]
 by_cases hf:c.fams=[]
 ·have hs0:A2 c ss=[]:=List.eq_nil_of_length_eq_zero (by rw[hsl,hf];rfl);have hn0:NB c ss t=[]:=by rw[NB,hs0];rfl
  have hL0:=hL;obtain⟨p2,p6,_,pst,_,_⟩:=hL;obtain⟨⟨e1,e2,e3⟩,_⟩:=hst ⟨L::L1::(rs++[[]]),[]⟩ (by simp);refine⟨L,cc,by simpa [hn0,DX]using hL0,Nat.le_refl _,fun n=>?_⟩;rw[BA Tryz.func79 b79 rfl (by simp)];rw[hs0]at qs p6;have slnil:sl ([]:List (List V))=.nil:=rfl;simp only[List.map_nil,slnil]at qs p6;generalize O1 c t=H at *;simp only[AD,AC]at qs p2⊢;simp[c79,AG,AJ,AM,AF,AS,A3,AU,FN,EV,p2,p6,qs,AB,e1,e2,e3];done
 ·have hf3:=List.length_pos_iff.2 hf;have hne:NB c ss t≠[]:=fun e=>by rw[e]at hnl;simp at hnl;omega
  have hsne:(A2 c ss)≠[]:=fun e=>by rw[e]at hsl;simp at hsl;omega
  rw[show(A2 c ss).map (LI (O1 c t))=NB c ss t from rfl]at qs;have qs':=fun n=>(qs n).trans (congrArg some (slX hne));obtain⟨fr',L',c',i1,i2,ih⟩:=AP6 c ss a (NB c ss t) hL.le (by omega) L1 (rs++[[]]) (NB c ss t).length 0 L cc (by omega) hL;refine⟨L',c',i1,i2,fun n=>?_⟩;rw[BA Tryz.func79 b79 rfl (by simp)];obtain⟨p2,p6,_,pst,_,_⟩:=hL;obtain⟨_,_,_,pst',_,_⟩:=i1;rw[slX hsne]at p6;obtain⟨⟨_,e2,e3⟩,_⟩:=hst ⟨L'::L1::(rs++[[]]),[]⟩ (by simp);have e1:=pst' ⟨L'::L1::(rs++[[]]),[]⟩ (by simp);have ih:=ih (n+1497) (n+1997) (by omega);generalize NB c ss t=ns at *;generalize A2 c ss=S at *;generalize O1 c t=H at *;simp only[AD,AC]at qs' p2⊢;simp at ih;simp[c79,AG,AJ,AM,AF,AS,A3,AU,FN,EV,AQ,p2,p6,qs',ih,e1,e2,e3];done
end Go.Proofs.Tryz.Op
