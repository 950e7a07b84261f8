/- Contracts of the reference: Empty, Wider, Sum, Truths; of the law: sure, to. No condition but a valid beach. -/
import Derived.Test.YthhdhbalenanjaaGreatX1
import Derived.Test.YthhdhbalenanjaaGreatV1
open Go.Proofs.Tryz renaming prog->bk
open List renaming range'->bj
set_option maxRecDepth 100000
set_option linter.unusedSimpArgs false
open Go Go.Pg Go.Proofs Go.Wind
namespace Go.Proofs.Tryz.Op
@[simp] theorem A54:GV bk 130=false:=by kernel_rfl
@[simp] theorem AZY:GV bk 131=false:=by kernel_rfl
theorem AT5(n:Nat):A3 bk kn (AE bk ann kn (n+50)) 130 []=some (.agg (F3 DQ)):=by rw[AP rfl,AQ Tryz.func130 BIW rfl (by simp)];simp[A7M,AF,F3,DQ]
theorem xO(n:Nat)(r:Int×Int)(x:Int):A3 bk kn (AE bk ann kn (n+50)) 131 [.agg (F3 r),i x]=some (.agg (F3 (min r.1 x,max r.2 x))):=by rw[AP rfl,AQ Tryz.func131 BIX rfl (by simp[F3])];simp[A7N,AF,F3,AKY,AKZ]
theorem A55{k:Nat}{x:List Int}(h:k<=10000):B5 bk 22 k [AN x]=true:=by rw[B9 (by simp[AN]) (by simp)];simp[maxLen,AN];omega
theorem Z8(b:AM)(hb:Valid b):∀(d j c γ:Nat) (out:List (List Int)),j+d=GQ b.winds->out.length<=j->∃fr c' γ',BJ fr 3=some (true,pv 21 γ' ((out++((bj j d).map (EB b.winds)).filter (DF b)).map AN))/\∀n k,d<k->BI (AE bk ann kn (n+1000) 23) aS (ann 23 (BZ aS)) k ⟨c,[(1,true,.ptr 0 1 0 0),(3,true,pv 21 γ (out.map AN)),(4,true,i j)],⟨[],(1,0,.box (AC b))::pl 21 γ 22 (out.map AN)⟩⟩ =
  some (.exit 0,⟨c',fr,⟨[],(1,0,.box (AC b))::pl 21 γ' 22 ((out++((bj j d).map (EB b.winds)).filter (DF b)).map AN)⟩⟩)
 |0,j,c,γ,out,hd,ho=>by
  have:j=GQ b.winds:=by omega
  subst this;have qm:=fun n=>AKR n b hb;refine⟨?fr,c,γ,?g1,fun n k hk=>?g2⟩;case g2=>
   obtain⟨k,rfl⟩:∃k',k=k'+1:=⟨k-1,by omega⟩
   rw[AB]
   simp only[AC]at qm|-
   simp[AH,AN,AJ,qm]
   rfl
  case g1=>simp
 |d+1,j,c,γ,out,hd,ho=>by
  have hm:=hb.many;have hj:j<GQ b.winds:=by omega
  have hw:=BS (k:=j) (by omega);have qm:=fun n=>AKR n b hb;have qn:=fun n=>BL0 n b hb j (by omega);have qt:=fun n=>APJ n b hb (EB b.winds j);have hln:(EB b.winds j).length=b.winds.length:=C0 (SI hb.ne j);have hne:EB b.winds j≠[]:=fun e=>by have hla:=hb.la;have hwi:=hb.wi;rw[e]at hln;simp at hln;omega
  rw[slX hne]at qn;have er:(bj j (d+1)).map (EB b.winds)=EB b.winds j::(bj (j+1) d).map (EB b.winds):=by rw[List.range'_succ,List.map_cons]
  rw[er,List.filter_cons];cases ht:DF b (EB b.winds j)with
  |false=>
   rw[ht]at qt
   rw[if_neg (by decide)]
   obtain⟨fr,c',γ',e1,ih⟩:=Z8 b hb d (j+1) c γ out (by omega) (by omega)
   refine⟨fr,c',γ',e1,fun n k hk=>?_⟩
   obtain⟨k,rfl⟩:∃k',k=k'+1:=⟨k-1,by omega⟩
   have ih:=ih n k (by omega)
   generalize ((bj (j+1) d).map (EB b.winds)).filter (DF b)=F at ih|-
   generalize EB b.winds j=T at qn qt
   rw[AB]
   simp only[AC]at qm qn qt ih|-
   simp at ih
   simp[hj,hw,AH,AN,AJ,qm,qn,qt,ih]
  |true=>
   rw[ht]at qt
   rw[if_pos rfl]
   obtain⟨fr,c',γ',e1,ih⟩:=Z8 b hb d (j+1) (c+1) c (out++[EB b.winds j]) (by omega) (by simp;omega)
   rw[List.append_assoc,List.singleton_append]at e1 ih
   have happ:=A55 (k:=out.length) (x:=EB b.winds j) (by omega)
   refine⟨fr,c',γ',e1,fun n k hk=>?_⟩
   obtain⟨k,rfl⟩:∃k',k=k'+1:=⟨k-1,by omega⟩
   have ih:=ih n k (by omega)
   generalize EB b.winds j::((bj (j+1) d).map (EB b.winds)).filter (DF b)=F at ih|-
   generalize EB b.winds j=T at qn qt ih happ
   rw[AB]
   simp only[AC]at qm qn qt ih|-
   simp[AN]at ih happ
   simp[hj,hw,AH,AN,AJ,qm,qn,qt,happ,ih]
theorem gU(n:Nat)(b:AM)(hb:Valid b):A3 bk kn (AE bk ann kn (n+2200)) 55 [.agg (AC b)]=some (sl ((BR b).map AN)):=by rw[AP rfl,AQ Tryz.func55 b55 rfl (by simp[AC,AH,AN,AJ])];have hm:=hb.many;obtain⟨fr,c',γ',e1,q⟩:=Z8 b hb (GQ b.winds) 0 1 0 [] (by omega) (by simp);have q:=fun n k=>q n (k+1100) (by omega);rw[List.nil_append,<-List.range_eq_range']at e1 q;change BJ fr 3=some (true,pv 21 γ' ((BR b).map AN))at e1;change ∀n k,_=some (Exit.exit 0,(⟨c',fr,⟨[],(1,0,.box (AC b))::pl 21 γ' 22 ((BR b).map AN)⟩⟩:XS))at q;generalize BR b=T at *;simp only[AC]at q|-;simp at q;simp[c55,AF,q,e1,AN,AH]
section
variable {b:AM}{plan:List (List Int)}
end
end Go.Proofs.Tryz.Op
