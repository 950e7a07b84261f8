/- Contracts of the reference: Empty, Wider, Sum, Truths; of the law: sure, to. No condition but a valid beach. -/
import Derived.Test.YthhdhbalenanjaaGreatX1
import Derived.Test.YthhdhbalenanjaaGreatV1
open List renaming range'->bj
set_option maxRecDepth 100000
set_option linter.unusedSimpArgs false
open Go Go.Pg Go.Proofs Go.Wind
namespace Go.Proofs.Tryz.Op
theorem AYO{k:Nat}{x:List Int}(h:k<=10000):B0 Tryz.prog 22 k [AW x]=true:=by rw[CC (by simp) (by simp)];simp[maxLen,AW];omega
theorem YG(b:AK)(hb:Valid b):∀(d j c γ:Nat) (out:List (List Int)),j+d=F3 b.winds->out.length<=j->∃fr c' γ',BL fr 3=some (true,pv 21 γ' ((out++((bj j d).map (DZ b.winds)).filter (C3 b)).map AW))/\∀n k,d<k->BM (AF Tryz.prog ann kn (n+1000) 23) YR (ann 23 (CG YR)) k ⟨c,[(1,true,.ptr 0 1 0 0),(3,true,pv 21 γ (out.map AW)),(4,true,i j)],⟨[],(1,0,.box (AC b))::pl 21 γ 22 (out.map AW)⟩⟩ =
  some (.exit 0,⟨c',fr,⟨[],(1,0,.box (AC b))::pl 21 γ' 22 ((out++((bj j d).map (DZ b.winds)).filter (C3 b)).map AW)⟩⟩)
 |0,j,c,γ,out,hd,ho=>by
  have:j=F3 b.winds:=by omega
  subst this;have qm:=fun n=>AGJ n b hb;refine⟨?fr,c,γ,?g1,fun n k hk=>?g2⟩;case g2=>
   obtain⟨k,rfl⟩:∃k',k=k'+1:=⟨k-1,by omega⟩
   rw[AB]
   simp only[AC]at qm|-
   simp[qm]
   rfl
  case g1=>simp
 |d+1,j,c,γ,out,hd,ho=>by
  have hm:=hb.many;have hj:j<F3 b.winds:=by omega
  have hw:=B7 (k:=j) (by omega);have qm:=fun n=>AGJ n b hb;have qn:=fun n=>BCY n b hb j (by omega);have qt:=fun n=>AK7 n b hb (DZ b.winds j);have hln:(DZ b.winds j).length=b.winds.length:=DD (QQ hb.ne j);have hne:DZ b.winds j≠[]:=fun e=>by have hla:=hb.la;have hwi:=hb.wi;rw[e]at hln;simp at hln;omega
  rw[slX hne]at qn;have er:(bj j (d+1)).map (DZ b.winds)=DZ b.winds j::(bj (j+1) d).map (DZ b.winds):=by rw[List.range'_succ,List.map_cons]
  rw[er,List.filter_cons];cases ht:C3 b (DZ b.winds j)with
  |false=>
   rw[ht]at qt
   rw[if_neg (by decide)]
   obtain⟨fr,c',γ',e1,ih⟩:=YG b hb d (j+1) c γ out (by omega) (by omega)
   refine⟨fr,c',γ',e1,fun n k hk=>?_⟩
   obtain⟨k,rfl⟩:∃k',k=k'+1:=⟨k-1,by omega⟩
   have ih:=ih n k (by omega)
   generalize ((bj (j+1) d).map (DZ b.winds)).filter (C3 b)=F at ih|-
   generalize DZ b.winds j=T at qn qt
   rw[AB]
   simp only[AC]at qm qn qt ih|-
   simp at ih
   simp[hj,hw,qm,qn,qt,ih]
  |true=>
   rw[ht]at qt
   rw[if_pos rfl]
   obtain⟨fr,c',γ',e1,ih⟩:=YG b hb d (j+1) (c+1) c (out++[DZ b.winds j]) (by omega) (by simp;omega)
   rw[List.append_assoc,List.singleton_append]at e1 ih
   have happ:=AYO (k:=out.length) (x:=DZ b.winds j) (by omega)
   refine⟨fr,c',γ',e1,fun n k hk=>?_⟩
   obtain⟨k,rfl⟩:∃k',k=k'+1:=⟨k-1,by omega⟩
   have ih:=ih n k (by omega)
   generalize DZ b.winds j::((bj (j+1) d).map (DZ b.winds)).filter (C3 b)=F at ih|-
   generalize DZ b.winds j=T at qn qt ih happ
   rw[AB]
   simp only[AC]at qm qn qt ih|-
   simp[AW]at ih happ
   simp[hj,hw,AW,qm,qn,qt,happ,ih]
theorem wV(n:Nat)(b:AK)(hb:Valid b):A3 Tryz.prog kn (AF Tryz.prog ann kn (n+2200)) 55 [.agg (AC b)]=some (sl ((CE b).map AW)):=by rw[AQ rfl,AR Tryz.func55 b55 rfl (by simp[AC])];have hm:=hb.many;obtain⟨fr,c',γ',e1,q⟩:=YG b hb (F3 b.winds) 0 1 0 [] (by omega) (by simp);have q:=fun n k=>q n (k+1100) (by omega);rw[List.nil_append,<-List.range_eq_range']at e1 q;change BL fr 3=some (true,pv 21 γ' ((CE b).map AW))at e1;change ∀n k,_=some (Exit.exit 0,(⟨c',fr,⟨[],(1,0,.box (AC b))::pl 21 γ' 22 ((CE b).map AW)⟩⟩:XS))at q;generalize CE b=T at *;simp only[AC]at q|-;simp at q;simp[c55,AD,q,e1]
section
variable {b:AK}{plan:List (List Int)}
end
end Go.Proofs.Tryz.Op
