/- Contracts of the reference: Empty, Wider, Sum, Truths; of the law: sure, to. No condition but a valid beach. -/
import Derived.Test.YthhdhbalenanjaaGreatX1
import Derived.Test.YthhdhbalenanjaaGreatV1
open List renaming range'->bj
set_option maxRecDepth 100000
set_option linter.unusedSimpArgs false
open Go Go.Pg Go.Proofs Go.Wind
namespace Go.Proofs.Tryz.Op
@[simp] theorem A0N:GL Tryz.prog 130=false:=by kernel_rfl
@[simp] theorem AU7:GL Tryz.prog 131=false:=by kernel_rfl
theorem A0O{k:Nat}{x:List Int}(h:k<=10000):BZ Tryz.prog 22 k [AM x]=true:=by rw[CC (by simp[AM]) (by simp)];simp[maxLen,AM];omega
theorem YF(b:AN)(hb:Valid b):∀(d j c γ:Nat) (out:List (List Int)),j+d=GR b.winds->out.length<=j->∃fr c' γ',BS fr 3=some (true,pv 21 γ' ((out++((bj j d).map (EA b.winds)).filter (DB b)).map AM))/\∀n k,d<k->BT (AF Tryz.prog ann kn (n+1000) 23) YQ (ann 23 (CA YQ)) k ⟨c,[(1,true,.ptr 0 1 0 0),(3,true,pv 21 γ (out.map AM)),(4,true,i j)],⟨[],(1,0,.box (AC b))::pl 21 γ 22 (out.map AM)⟩⟩ =
  some (.exit 0,⟨c',fr,⟨[],(1,0,.box (AC b))::pl 21 γ' 22 ((out++((bj j d).map (EA b.winds)).filter (DB b)).map AM)⟩⟩)
 |0,j,c,γ,out,hd,ho=>by
  have:j=GR b.winds:=by omega
  subst this;have qm:=fun n=>AGX n b hb;refine⟨?fr,c,γ,?g1,fun n k hk=>?g2⟩;case g2=>
   obtain⟨k,rfl⟩:∃k',k=k'+1:=⟨k-1,by omega⟩
   rw[AB]
   simp only[AC]at qm|-
   simp[AH,AM,AL,qm]
   rfl
  case g1=>simp
 |d+1,j,c,γ,out,hd,ho=>by
  have hm:=hb.many;have hj:j<GR b.winds:=by omega
  have hw:=CB (k:=j) (by omega);have qm:=fun n=>AGX n b hb;have qn:=fun n=>BF0 n b hb j (by omega);have qt:=fun n=>ALP n b hb (EA b.winds j);have hln:(EA b.winds j).length=b.winds.length:=DM (Q7 hb.ne j);have hne:EA b.winds j≠[]:=fun e=>by have hla:=hb.la;have hwi:=hb.wi;rw[e]at hln;simp at hln;omega
  rw[slX hne]at qn;have er:(bj j (d+1)).map (EA b.winds)=EA b.winds j::(bj (j+1) d).map (EA b.winds):=by rw[List.range'_succ,List.map_cons]
  rw[er,List.filter_cons];cases ht:DB b (EA b.winds j)with
  |false=>
   rw[ht]at qt
   rw[if_neg (by decide)]
   obtain⟨fr,c',γ',e1,ih⟩:=YF b hb d (j+1) c γ out (by omega) (by omega)
   refine⟨fr,c',γ',e1,fun n k hk=>?_⟩
   obtain⟨k,rfl⟩:∃k',k=k'+1:=⟨k-1,by omega⟩
   have ih:=ih n k (by omega)
   generalize ((bj (j+1) d).map (EA b.winds)).filter (DB b)=F at ih|-
   generalize EA b.winds j=T at qn qt
   rw[AB]
   simp only[AC]at qm qn qt ih|-
   simp at ih
   simp[hj,hw,AH,AM,AL,qm,qn,qt,ih]
  |true=>
   rw[ht]at qt
   rw[if_pos rfl]
   obtain⟨fr,c',γ',e1,ih⟩:=YF b hb d (j+1) (c+1) c (out++[EA b.winds j]) (by omega) (by simp;omega)
   rw[List.append_assoc,List.singleton_append]at e1 ih
   have happ:=A0O (k:=out.length) (x:=EA b.winds j) (by omega)
   refine⟨fr,c',γ',e1,fun n k hk=>?_⟩
   obtain⟨k,rfl⟩:∃k',k=k'+1:=⟨k-1,by omega⟩
   have ih:=ih n k (by omega)
   generalize EA b.winds j::((bj (j+1) d).map (EA b.winds)).filter (DB b)=F at ih|-
   generalize EA b.winds j=T at qn qt ih happ
   rw[AB]
   simp only[AC]at qm qn qt ih|-
   simp[AM]at ih happ
   simp[hj,hw,AH,AM,AL,qm,qn,qt,happ,ih]
theorem xH(n:Nat)(b:AN)(hb:Valid b):BA Tryz.prog kn (AF Tryz.prog ann kn (n+2200)) 55 [.agg (AC b)]=some (sl ((CE b).map AM)):=by rw[AR rfl,AS Tryz.func55 b55 rfl (by simp[AC,AH,AM,AL])];have hm:=hb.many;obtain⟨fr,c',γ',e1,q⟩:=YF b hb (GR b.winds) 0 1 0 [] (by omega) (by simp);have q:=fun n k=>q n (k+1100) (by omega);rw[List.nil_append,<-List.range_eq_range']at e1 q;change BS fr 3=some (true,pv 21 γ' ((CE b).map AM))at e1;change ∀n k,_=some (Exit.exit 0,(⟨c',fr,⟨[],(1,0,.box (AC b))::pl 21 γ' 22 ((CE b).map AM)⟩⟩:XS))at q;generalize CE b=T at *;simp only[AC]at q|-;simp at q;simp[c55,AD,q,e1,AM,AH]
end Go.Proofs.Tryz.Op
