/- Contracts of the reference: Empty, Wider, Sum, Truths; of the law: sure, to. No condition but a valid beach. -/
import Derived.Test.YthhdhbalenanjaaGreatX1
import Derived.Test.YthhdhbalenanjaaGreatV1
open Go.Proofs.Tryz renaming prog->bk
open List renaming range'->bj
set_option maxRecDepth 100000
set_option linter.unusedSimpArgs false
open Go Go.Pg Go.Proofs Go.Wind
namespace Go.Proofs.Tryz.Op
@[simp] theorem A5M:H9 bk 130=false:=by kernel_rfl
@[simp] theorem AZE:H9 bk 131=false:=by kernel_rfl
theorem ATJ(n:Nat):A2 bk kn (AE bk ann kn (n+50)) 130 []=some (.agg (FW DQ)):=by rw[AO rfl,AP Tryz.func130 BIF rfl (by simp)];simp[A65,AG,FW,DQ]
theorem xA(n:Nat)(r:Int×Int)(x:Int):A2 bk kn (AE bk ann kn (n+50)) 131 [.agg (FW r),i x]=some (.agg (FW (min r.1 x,max r.2 x))):=by rw[AO rfl,AP Tryz.func131 BIG rfl (by simp[FW])];simp[A66,AG,FW,AJY,AJZ]
theorem A5N{k:Nat}{x:List Int}(h:k<=10000):B9 bk 22 k [AL x]=true:=by rw[CB (by simp[AL]) (by simp)];simp[maxLen,AL];omega
theorem ZJ(b:AN)(hb:Valid b):∀(d j c γ:Nat) (out:List (List Int)),j+d=GI b.winds->out.length<=j->∃fr c' γ',BC fr 3=some (true,pv 21 γ' ((out++((bj j d).map (EA b.winds)).filter (DF b)).map AL))/\∀n k,d<k->BF (AE bk ann kn (n+1000) 23) Z9 (ann 23 (BW Z9)) k ⟨c,[(1,true,.ptr 0 1 0 0),(3,true,pv 21 γ (out.map AL)),(4,true,i j)],⟨[],(1,0,.box (AC b))::pl 21 γ 22 (out.map AL)⟩⟩ =
  some (.exit 0,⟨c',fr,⟨[],(1,0,.box (AC b))::pl 21 γ' 22 ((out++((bj j d).map (EA b.winds)).filter (DF b)).map AL)⟩⟩)
 |0,j,c,γ,out,hd,ho=>by
  have:j=GI b.winds:=by omega
  subst this;have qm:=fun n=>AJR n b hb;refine⟨?fr,c,γ,?g1,fun n k hk=>?g2⟩;case g2=>
   obtain⟨k,rfl⟩:∃k',k=k'+1:=⟨k-1,by omega⟩
   rw[AB]
   simp only[AC]at qm|-
   simp[AJ,AL,AF,qm]
   rfl
  case g1=>simp
 |d+1,j,c,γ,out,hd,ho=>by
  have hm:=hb.many;have hj:j<GI b.winds:=by omega
  have hw:=BM (k:=j) (by omega);have qm:=fun n=>AJR n b hb;have qn:=fun n=>BLJ n b hb j (by omega);have qt:=fun n=>AOV n b hb (EA b.winds j);have hln:(EA b.winds j).length=b.winds.length:=CZ (R5 hb.ne j);have hne:EA b.winds j≠[]:=fun e=>by have hla:=hb.la;have hwi:=hb.wi;rw[e]at hln;simp at hln;omega
  rw[slX hne]at qn;have er:(bj j (d+1)).map (EA b.winds)=EA b.winds j::(bj (j+1) d).map (EA b.winds):=by rw[List.range'_succ,List.map_cons]
  rw[er,List.filter_cons];cases ht:DF b (EA b.winds j)with
  |false=>
   rw[ht]at qt
   rw[if_neg (by decide)]
   obtain⟨fr,c',γ',e1,ih⟩:=ZJ b hb d (j+1) c γ out (by omega) (by omega)
   refine⟨fr,c',γ',e1,fun n k hk=>?_⟩
   obtain⟨k,rfl⟩:∃k',k=k'+1:=⟨k-1,by omega⟩
   have ih:=ih n k (by omega)
   generalize ((bj (j+1) d).map (EA b.winds)).filter (DF b)=F at ih|-
   generalize EA b.winds j=T at qn qt
   rw[AB]
   simp only[AC]at qm qn qt ih|-
   simp at ih
   simp[hj,hw,AJ,AL,AF,qm,qn,qt,ih]
  |true=>
   rw[ht]at qt
   rw[if_pos rfl]
   obtain⟨fr,c',γ',e1,ih⟩:=ZJ b hb d (j+1) (c+1) c (out++[EA b.winds j]) (by omega) (by simp;omega)
   rw[List.append_assoc,List.singleton_append]at e1 ih
   have happ:=A5N (k:=out.length) (x:=EA b.winds j) (by omega)
   refine⟨fr,c',γ',e1,fun n k hk=>?_⟩
   obtain⟨k,rfl⟩:∃k',k=k'+1:=⟨k-1,by omega⟩
   have ih:=ih n k (by omega)
   generalize EA b.winds j::((bj (j+1) d).map (EA b.winds)).filter (DF b)=F at ih|-
   generalize EA b.winds j=T at qn qt ih happ
   rw[AB]
   simp only[AC]at qm qn qt ih|-
   simp[AL]at ih happ
   simp[hj,hw,AJ,AL,AF,qm,qn,qt,happ,ih]
theorem gC(n:Nat)(b:AN)(hb:Valid b):A2 bk kn (AE bk ann kn (n+2200)) 55 [.agg (AC b)]=some (sl ((BU b).map AL)):=by rw[AO rfl,AP Tryz.func55 b55 rfl (by simp[AC,AJ,AL,AF])];have hm:=hb.many;obtain⟨fr,c',γ',e1,q⟩:=ZJ b hb (GI b.winds) 0 1 0 [] (by omega) (by simp);have q:=fun n k=>q n (k+1100) (by omega);rw[List.nil_append,<-List.range_eq_range']at e1 q;change BC fr 3=some (true,pv 21 γ' ((BU b).map AL))at e1;change ∀n k,_=some (Exit.exit 0,(⟨c',fr,⟨[],(1,0,.box (AC b))::pl 21 γ' 22 ((BU b).map AL)⟩⟩:XS))at q;generalize BU b=T at *;simp only[AC]at q|-;simp at q;simp[c55,AG,q,e1,AL,AJ]
section
variable {b:AN}{plan:List (List Int)}
end
end Go.Proofs.Tryz.Op
