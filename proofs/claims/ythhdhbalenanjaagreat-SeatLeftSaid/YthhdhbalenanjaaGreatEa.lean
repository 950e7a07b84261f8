/- Contracts of the reference: Empty, Wider, Sum, Truths; of the law: sure, to. No condition but a valid beach. -/
import Derived.Test.YthhdhbalenanjaaGreatX1
import Derived.Test.YthhdhbalenanjaaGreatV1
open List renaming range'->bj
set_option maxRecDepth 100000
set_option linter.unusedSimpArgs false
open Go Go.Pg Go.Proofs Go.Wind
namespace Go.Proofs.Tryz.Op
@[simp] theorem A0D:F3 Tryz.prog 130=false:=by kernel_rfl
@[simp] theorem AUY:F3 Tryz.prog 131=false:=by kernel_rfl
theorem A0E{k:Nat}{x:List Int}(h:k<=10000):B8 Tryz.prog 22 k [AM x]=true:=by rw[CE (by simp[AM]) (by simp)];simp[maxLen,AM];omega
theorem XU(b:AN)(hb:Valid b):∀(d j c γ:Nat) (out:List (List Int)),j+d=F8 b.winds->out.length<=j->∃fr c' γ',BR fr 3=some (true,pv 21 γ' ((out++((bj j d).map (DX b.winds)).filter (C4 b)).map AM))/\∀n k,d<k->BK (AE Tryz.prog ann kn (n+1000) 23) X8 (ann 23 (BU X8)) k ⟨c,[(1,true,.ptr 0 1 0 0),(3,true,pv 21 γ (out.map AM)),(4,true,i j)],⟨[],(1,0,.box (AC b))::pl 21 γ 22 (out.map AM)⟩⟩ =
  some (.exit 0,⟨c',fr,⟨[],(1,0,.box (AC b))::pl 21 γ' 22 ((out++((bj j d).map (DX b.winds)).filter (C4 b)).map AM)⟩⟩)
 |0,j,c,γ,out,hd,ho=>by
  have:j=F8 b.winds:=by omega
  subst this;have qm:=fun n=>AGD n b hb;refine⟨?fr,c,γ,?g1,fun n k hk=>?g2⟩;case g2=>
   obtain⟨k,rfl⟩:∃k',k=k'+1:=⟨k-1,by omega⟩
   rw[AB]
   simp only[AC]at qm|-
   simp[AG,AM,AL,qm]
   rfl
  case g1=>simp
 |d+1,j,c,γ,out,hd,ho=>by
  have hm:=hb.many;have hj:j<F8 b.winds:=by omega
  have hw:=BZ (k:=j) (by omega);have qm:=fun n=>AGD n b hb;have qn:=fun n=>BFO n b hb j (by omega);have qt:=fun n=>AK3 n b hb (DX b.winds j);have hln:(DX b.winds j).length=b.winds.length:=DE (QU hb.ne j);have hne:DX b.winds j≠[]:=fun e=>by have hla:=hb.la;have hwi:=hb.wi;rw[e]at hln;simp at hln;omega
  rw[slX hne]at qn;have er:(bj j (d+1)).map (DX b.winds)=DX b.winds j::(bj (j+1) d).map (DX b.winds):=by rw[List.range'_succ,List.map_cons]
  rw[er,List.filter_cons];cases ht:C4 b (DX b.winds j)with
  |false=>
   rw[ht]at qt
   rw[if_neg (by decide)]
   obtain⟨fr,c',γ',e1,ih⟩:=XU b hb d (j+1) c γ out (by omega) (by omega)
   refine⟨fr,c',γ',e1,fun n k hk=>?_⟩
   obtain⟨k,rfl⟩:∃k',k=k'+1:=⟨k-1,by omega⟩
   have ih:=ih n k (by omega)
   generalize ((bj (j+1) d).map (DX b.winds)).filter (C4 b)=F at ih|-
   generalize DX b.winds j=T at qn qt
   rw[AB]
   simp only[AC]at qm qn qt ih|-
   simp at ih
   simp[hj,hw,AG,AM,AL,qm,qn,qt,ih]
  |true=>
   rw[ht]at qt
   rw[if_pos rfl]
   obtain⟨fr,c',γ',e1,ih⟩:=XU b hb d (j+1) (c+1) c (out++[DX b.winds j]) (by omega) (by simp;omega)
   rw[List.append_assoc,List.singleton_append]at e1 ih
   have happ:=A0E (k:=out.length) (x:=DX b.winds j) (by omega)
   refine⟨fr,c',γ',e1,fun n k hk=>?_⟩
   obtain⟨k,rfl⟩:∃k',k=k'+1:=⟨k-1,by omega⟩
   have ih:=ih n k (by omega)
   generalize DX b.winds j::((bj (j+1) d).map (DX b.winds)).filter (C4 b)=F at ih|-
   generalize DX b.winds j=T at qn qt ih happ
   rw[AB]
   simp only[AC]at qm qn qt ih|-
   simp[AM]at ih happ
   simp[hj,hw,AG,AM,AL,qm,qn,qt,happ,ih]
theorem wK(n:Nat)(b:AN)(hb:Valid b):A3 Tryz.prog kn (AE Tryz.prog ann kn (n+2200)) 55 [.agg (AC b)]=some (sl ((B9 b).map AM)):=by rw[AP rfl,AQ Tryz.func55 b55 rfl (by simp[AC,AG,AM,AL])];have hm:=hb.many;obtain⟨fr,c',γ',e1,q⟩:=XU b hb (F8 b.winds) 0 1 0 [] (by omega) (by simp);have q:=fun n k=>q n (k+1100) (by omega);rw[List.nil_append,<-List.range_eq_range']at e1 q;change BR fr 3=some (true,pv 21 γ' ((B9 b).map AM))at e1;change ∀n k,_=some (Exit.exit 0,(⟨c',fr,⟨[],(1,0,.box (AC b))::pl 21 γ' 22 ((B9 b).map AM)⟩⟩:XS))at q;generalize B9 b=T at *;simp only[AC]at q|-;simp at q;simp[c55,AD,q,e1,AM,AG]
end Go.Proofs.Tryz.Op
