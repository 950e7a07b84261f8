/- Contracts of the reference: Empty, Wider, Sum, Truths; of the law: sure, to. No condition but a valid beach. -/
import Derived.Test.YtanlhbmliegjeaaGreatX1
import Derived.Test.YtanlhbmliegjeaaGreatV1
open List renaming range'->bj
set_option maxRecDepth 100000
set_option linter.unusedSimpArgs false
open Go Go.Pg Go.Proofs Go.Wind
namespace Go.Proofs.Tryz.Op
theorem AZ4{k:Nat}{x:List Int}(h:k<=10000):CG Tryz.prog 22 k [AN x]=true:=by rw[C3 (by simp[AN]) (by simp)];simp[maxLen,AN];omega
theorem W6(b:AL)(hb:Valid b):∀(d j c γ:Nat) (out:List (List Int)),j+d=F6 b.winds->out.length<=j->∃fr c' γ',BQ fr 3=some (true,pv 21 γ' ((out++((bj j d).map (D5 b.winds)).filter (DE b)).map AN))/\∀n k,d<k->BG (AE Tryz.prog ann kn (n+1000) 23) jP (ann 23 (BX jP)) k ⟨c,[(1,true,.ptr 0 1 0 0),(3,true,pv 21 γ (out.map AN)),(4,true,i j)],⟨[],(1,0,.box (AB b))::pl 21 γ 22 (out.map AN)⟩⟩ =
  some (.exit 0,⟨c',fr,⟨[],(1,0,.box (AB b))::pl 21 γ' 22 ((out++((bj j d).map (D5 b.winds)).filter (DE b)).map AN)⟩⟩)
 |0,j,c,γ,out,hd,ho=>by
  have:j=F6 b.winds:=by omega
  subst this;have qm:=fun n=>AF2 n b hb;refine⟨?fr,c,γ,?g1,fun n k hk=>?g2⟩;case g2=>
   obtain⟨k,rfl⟩:∃k',k=k'+1:=⟨k-1,by omega⟩
   rw[AC]
   simp only[AB]at qm|-
   simp[AH,AN,AM,qm]
   rfl
  case g1=>simp
 |d+1,j,c,γ,out,hd,ho=>by
  have hm:=hb.many;have hj:j<F6 b.winds:=by omega
  have hw:=BS (k:=j) (by omega);have qm:=fun n=>AF2 n b hb;have qn:=fun n=>BES n b hb j (by omega);have qt:=fun n=>AJ9 n b hb (D5 b.winds j);have hln:(D5 b.winds j).length=b.winds.length:=CK (QK hb.ne j);have hne:D5 b.winds j≠[]:=fun e=>by have hla:=hb.la;have hwi:=hb.wi;rw[e]at hln;simp at hln;omega
  rw[slX hne]at qn;have er:(bj j (d+1)).map (D5 b.winds)=D5 b.winds j::(bj (j+1) d).map (D5 b.winds):=by rw[List.range'_succ,List.map_cons]
  rw[er,List.filter_cons];cases ht:DE b (D5 b.winds j)with
  |false=>
   rw[ht]at qt
   rw[if_neg (by decide)]
   obtain⟨fr,c',γ',e1,ih⟩:=W6 b hb d (j+1) c γ out (by omega) (by omega)
   refine⟨fr,c',γ',e1,fun n k hk=>?_⟩
   obtain⟨k,rfl⟩:∃k',k=k'+1:=⟨k-1,by omega⟩
   have ih:=ih n k (by omega)
   generalize ((bj (j+1) d).map (D5 b.winds)).filter (DE b)=F at ih|-
   generalize D5 b.winds j=T at qn qt
   rw[AC]
   simp only[AB]at qm qn qt ih|-
   simp at ih
   simp[hj,hw,AH,AN,AM,qm,qn,qt,ih]
  |true=>
   rw[ht]at qt
   rw[if_pos rfl]
   obtain⟨fr,c',γ',e1,ih⟩:=W6 b hb d (j+1) (c+1) c (out++[D5 b.winds j]) (by omega) (by simp;omega)
   rw[List.append_assoc,List.singleton_append]at e1 ih
   have happ:=AZ4 (k:=out.length) (x:=D5 b.winds j) (by omega)
   refine⟨fr,c',γ',e1,fun n k hk=>?_⟩
   obtain⟨k,rfl⟩:∃k',k=k'+1:=⟨k-1,by omega⟩
   have ih:=ih n k (by omega)
   generalize D5 b.winds j::((bj (j+1) d).map (D5 b.winds)).filter (DE b)=F at ih|-
   generalize D5 b.winds j=T at qn qt ih happ
   rw[AC]
   simp only[AB]at qm qn qt ih|-
   simp[AN]at ih happ
   simp[hj,hw,AH,AN,AM,qm,qn,qt,happ,ih]
theorem dA(n:Nat)(b:AL)(hb:Valid b):AZ Tryz.prog kn (AE Tryz.prog ann kn (n+2200)) 9 [.agg (AB b)]=some (sl ((BC b).map AN)):=by rw[AP rfl,AQ Tryz.func9 b9 rfl (by simp[AB,AH,AN,AM])];have hm:=hb.many;obtain⟨fr,c',γ',e1,q⟩:=W6 b hb (F6 b.winds) 0 1 0 [] (by omega) (by simp);have q:=fun n k=>q n (k+1100) (by omega);rw[List.nil_append,<-List.range_eq_range']at e1 q;change BQ fr 3=some (true,pv 21 γ' ((BC b).map AN))at e1;change ∀n k,_=some (Exit.exit 0,(⟨c',fr,⟨[],(1,0,.box (AB b))::pl 21 γ' 22 ((BC b).map AN)⟩⟩:XS))at q;generalize BC b=T at *;simp only[AB]at q|-;simp at q;simp[c9,AD,q,e1,AN,AH]
end Go.Proofs.Tryz.Op
