/- Contracts of the reference: Empty, Wider, Sum, Truths; of the law: sure, to. No condition but a valid beach. -/
import Derived.Test.YthhdhbalenanjaaGreatX1
import Derived.Test.YthhdhbalenanjaaGreatV1
open List renaming range'->bj
set_option maxRecDepth 100000
set_option linter.unusedSimpArgs false
open Go Go.Pg Go.Proofs Go.Wind
namespace Go.Proofs.Tryz.Op
theorem A0Q{k:Nat}{x:List Int}(h:k<=10000):BV Tryz.prog 22 k [AQ x]=true:=by rw[BS (by simp) (by simp)];simp[maxLen,AQ];omega
theorem YT(b:AL)(hb:Valid b):∀(d j c γ:Nat) (out:List (List Int)),j+d=E7 b.winds->out.length<=j->∃fr c' γ',BD fr 3=some (true,pv 21 γ' ((out++((bj j d).map (D0 b.winds)).filter (CZ b)).map AQ))/\∀n k,d<k->BJ (AE Tryz.prog ann kn (n+1000) 23) Y6 (ann 23 (B9 Y6)) k ⟨c,[(1,true,.ptr 0 1 0 0),(3,true,pv 21 γ (out.map AQ)),(4,true,i j)],⟨[],(1,0,.box (AC b))::pl 21 γ 22 (out.map AQ)⟩⟩ =
  some (.exit 0,⟨c',fr,⟨[],(1,0,.box (AC b))::pl 21 γ' 22 ((out++((bj j d).map (D0 b.winds)).filter (CZ b)).map AQ)⟩⟩)
 |0,j,c,γ,out,hd,ho=>by
  have:j=E7 b.winds:=by omega
  subst this;have qm:=fun n=>AIE n b hb;refine⟨?fr,c,γ,?g1,fun n k hk=>?g2⟩;case g2=>
   obtain⟨k,rfl⟩:∃k',k=k'+1:=⟨k-1,by omega⟩
   rw[AB]
   simp only[AC]at qm|-
   simp[qm]
   rfl
  case g1=>simp
 |d+1,j,c,γ,out,hd,ho=>by
  have hm:=hb.many;have hj:j<E7 b.winds:=by omega
  have hw:=BW (k:=j) (by omega);have qm:=fun n=>AIE n b hb;have qn:=fun n=>BE9 n b hb j (by omega);have qt:=fun n=>AM1 n b hb (D0 b.winds j);have hln:(D0 b.winds j).length=b.winds.length:=C6 (RA hb.ne j);have hne:D0 b.winds j≠[]:=fun e=>by have hla:=hb.la;have hwi:=hb.wi;rw[e]at hln;simp at hln;omega
  rw[slX hne]at qn;have er:(bj j (d+1)).map (D0 b.winds)=D0 b.winds j::(bj (j+1) d).map (D0 b.winds):=by rw[List.range'_succ,List.map_cons]
  rw[er,List.filter_cons];cases ht:CZ b (D0 b.winds j)with
  |false=>
   rw[ht]at qt
   rw[if_neg (by decide)]
   obtain⟨fr,c',γ',e1,ih⟩:=YT b hb d (j+1) c γ out (by omega) (by omega)
   refine⟨fr,c',γ',e1,fun n k hk=>?_⟩
   obtain⟨k,rfl⟩:∃k',k=k'+1:=⟨k-1,by omega⟩
   have ih:=ih n k (by omega)
   generalize ((bj (j+1) d).map (D0 b.winds)).filter (CZ b)=F at ih|-
   generalize D0 b.winds j=T at qn qt
   rw[AB]
   simp only[AC]at qm qn qt ih|-
   simp at ih
   simp[hj,hw,qm,qn,qt,ih]
  |true=>
   rw[ht]at qt
   rw[if_pos rfl]
   obtain⟨fr,c',γ',e1,ih⟩:=YT b hb d (j+1) (c+1) c (out++[D0 b.winds j]) (by omega) (by simp;omega)
   rw[List.append_assoc,List.singleton_append]at e1 ih
   have happ:=A0Q (k:=out.length) (x:=D0 b.winds j) (by omega)
   refine⟨fr,c',γ',e1,fun n k hk=>?_⟩
   obtain⟨k,rfl⟩:∃k',k=k'+1:=⟨k-1,by omega⟩
   have ih:=ih n k (by omega)
   generalize D0 b.winds j::((bj (j+1) d).map (D0 b.winds)).filter (CZ b)=F at ih|-
   generalize D0 b.winds j=T at qn qt ih happ
   rw[AB]
   simp only[AC]at qm qn qt ih|-
   simp[AQ]at ih happ
   simp[hj,hw,AQ,qm,qn,qt,happ,ih]
theorem yY(n:Nat)(b:AL)(hb:Valid b):A5 Tryz.prog kn (AE Tryz.prog ann kn (n+2200)) 55 [.agg (AC b)]=some (sl ((BQ b).map AQ)):=by rw[AN rfl,AP Tryz.func55 b55 rfl (by simp[AC])];have hm:=hb.many;obtain⟨fr,c',γ',e1,q⟩:=YT b hb (E7 b.winds) 0 1 0 [] (by omega) (by simp);have q:=fun n k=>q n (k+1100) (by omega);rw[List.nil_append,<-List.range_eq_range']at e1 q;change BD fr 3=some (true,pv 21 γ' ((BQ b).map AQ))at e1;change ∀n k,_=some (Exit.exit 0,(⟨c',fr,⟨[],(1,0,.box (AC b))::pl 21 γ' 22 ((BQ b).map AQ)⟩⟩:XS))at q;generalize BQ b=T at *;simp only[AC]at q|-;simp at q;simp[c55,AD,q,e1]
end Go.Proofs.Tryz.Op
