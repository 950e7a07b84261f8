/- Contracts of the reference: Empty, Wider, Sum, Truths; of the law: sure, to. No condition but a valid beach. -/
import Derived.Test.YthhdhbalenanjaaGreatX1
import Derived.Test.YthhdhbalenanjaaGreatV1
open Go.Proofs.Tryz renaming prog->bk
open List renaming range'->bj
set_option maxRecDepth 100000
set_option linter.unusedSimpArgs false
open Go Go.Pg Go.Proofs Go.Wind
namespace Go.Proofs.Tryz.Op
@[simp] theorem A2L:IF bk 130=false:=by kernel_rfl
@[simp] theorem AXJ:IF bk 131=false:=by kernel_rfl
theorem AR7(n:Nat):AY bk kn (AE bk ann kn (n+50)) 130 []=some (.agg (FU DD)):=by rw[AN rfl,AM Tryz.func130 BEU rfl (by simp)];simp[A35,AF,FU,DD]
theorem vV(n:Nat)(r:Int×Int)(x:Int):AY bk kn (AE bk ann kn (n+50)) 131 [.agg (FU r),i x]=some (.agg (FU (min r.1 x,max r.2 x))):=by rw[AN rfl,AM Tryz.func131 BEV rfl (by simp[FU])];simp[A36,AF,FU,AJB,AJC]
theorem A2M{k:Nat}{x:List Int}(h:k<=10000):BW bk 22 k [AV x]=true:=by rw[BQ (by simp) (by simp)];simp[maxLen,AV];omega
theorem ZH(b:AK)(hb:Valid b):∀(d j c γ:Nat) (out:List (List Int)),j+d=F7 b.winds->out.length<=j->∃fr c' γ',BG fr 3=some (true,pv 21 γ' ((out++((bj j d).map (DY b.winds)).filter (C0 b)).map AV))/\∀n k,d<k->A8 (AE bk ann kn (n+1000) 23) Z2 (ann 23 (BU Z2)) k ⟨c,[(1,true,.ptr 0 1 0 0),(3,true,pv 21 γ (out.map AV)),(4,true,i j)],⟨[],(1,0,.box (AC b))::pl 21 γ 22 (out.map AV)⟩⟩ =
  some (.exit 0,⟨c',fr,⟨[],(1,0,.box (AC b))::pl 21 γ' 22 ((out++((bj j d).map (DY b.winds)).filter (C0 b)).map AV)⟩⟩)
 |0,j,c,γ,out,hd,ho=>by
  have:j=F7 b.winds:=by omega
  subst this;have qm:=fun n=>AI4 n b hb;refine⟨?fr,c,γ,?g1,fun n k hk=>?g2⟩;case g2=>
   obtain⟨k,rfl⟩:∃k',k=k'+1:=⟨k-1,by omega⟩
   rw[AB]
   simp only[AC]at qm|-
   simp[qm]
   rfl
  case g1=>simp
 |d+1,j,c,γ,out,hd,ho=>by
  have hm:=hb.many;have hj:j<F7 b.winds:=by omega
  have hw:=BM (k:=j) (by omega);have qm:=fun n=>AI4 n b hb;have qn:=fun n=>BHJ n b hb j (by omega);have qt:=fun n=>AN4 n b hb (DY b.winds j);have hln:(DY b.winds j).length=b.winds.length:=CP (Q1 hb.ne j);have hne:DY b.winds j≠[]:=fun e=>by have hla:=hb.la;have hwi:=hb.wi;rw[e]at hln;simp at hln;omega
  rw[slX hne]at qn;have er:(bj j (d+1)).map (DY b.winds)=DY b.winds j::(bj (j+1) d).map (DY b.winds):=by rw[List.range'_succ,List.map_cons]
  rw[er,List.filter_cons];cases ht:C0 b (DY b.winds j)with
  |false=>
   rw[ht]at qt
   rw[if_neg (by decide)]
   obtain⟨fr,c',γ',e1,ih⟩:=ZH b hb d (j+1) c γ out (by omega) (by omega)
   refine⟨fr,c',γ',e1,fun n k hk=>?_⟩
   obtain⟨k,rfl⟩:∃k',k=k'+1:=⟨k-1,by omega⟩
   have ih:=ih n k (by omega)
   generalize ((bj (j+1) d).map (DY b.winds)).filter (C0 b)=F at ih|-
   generalize DY b.winds j=T at qn qt
   rw[AB]
   simp only[AC]at qm qn qt ih|-
   simp at ih
   simp[hj,hw,qm,qn,qt,ih]
  |true=>
   rw[ht]at qt
   rw[if_pos rfl]
   obtain⟨fr,c',γ',e1,ih⟩:=ZH b hb d (j+1) (c+1) c (out++[DY b.winds j]) (by omega) (by simp;omega)
   rw[List.append_assoc,List.singleton_append]at e1 ih
   have happ:=A2M (k:=out.length) (x:=DY b.winds j) (by omega)
   refine⟨fr,c',γ',e1,fun n k hk=>?_⟩
   obtain⟨k,rfl⟩:∃k',k=k'+1:=⟨k-1,by omega⟩
   have ih:=ih n k (by omega)
   generalize DY b.winds j::((bj (j+1) d).map (DY b.winds)).filter (C0 b)=F at ih|-
   generalize DY b.winds j=T at qn qt ih happ
   rw[AB]
   simp only[AC]at qm qn qt ih|-
   simp[AV]at ih happ
   simp[hj,hw,AV,qm,qn,qt,happ,ih]
theorem fP(n:Nat)(b:AK)(hb:Valid b):AY bk kn (AE bk ann kn (n+2200)) 55 [.agg (AC b)]=some (sl ((BL b).map AV)):=by rw[AN rfl,AM Tryz.func55 b55 rfl (by simp[AC])];have hm:=hb.many;obtain⟨fr,c',γ',e1,q⟩:=ZH b hb (F7 b.winds) 0 1 0 [] (by omega) (by simp);have q:=fun n k=>q n (k+1100) (by omega);rw[List.nil_append,<-List.range_eq_range']at e1 q;change BG fr 3=some (true,pv 21 γ' ((BL b).map AV))at e1;change ∀n k,_=some (Exit.exit 0,(⟨c',fr,⟨[],(1,0,.box (AC b))::pl 21 γ' 22 ((BL b).map AV)⟩⟩:XS))at q;generalize BL b=T at *;simp only[AC]at q|-;simp at q;simp[c55,AF,q,e1]
section
variable {b:AK}{plan:List (List Int)}
end
end Go.Proofs.Tryz.Op
