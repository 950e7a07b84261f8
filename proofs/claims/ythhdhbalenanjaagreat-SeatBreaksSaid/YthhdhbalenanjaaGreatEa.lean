/- Contracts of the reference: Empty, Wider, Sum, Truths; of the law: sure, to. No condition but a valid beach. -/
import Derived.Test.YthhdhbalenanjaaGreatX1
import Derived.Test.YthhdhbalenanjaaGreatV1
open Go.Proofs.Tryz renaming prog->bk
open List renaming range'->bj
set_option maxRecDepth 100000
set_option linter.unusedSimpArgs false
open Go Go.Pg Go.Proofs Go.Wind
namespace Go.Proofs.Tryz.Op
@[simp] theorem A36:IW bk 130=false:=by kernel_rfl
@[simp] theorem AYV:IW bk 131=false:=by kernel_rfl
theorem ATI(n:Nat):AZ bk kn (AE bk ann kn (n+50)) 130 []=some (.agg (F0 DN)):=by rw[AN rfl,AO Tryz.func130 BGB rfl (by simp)];simp[A5O,AF,F0,DN]
theorem xJ(n:Nat)(r:Int×Int)(x:Int):AZ bk kn (AE bk ann kn (n+50)) 131 [.agg (F0 r),i x]=some (.agg (F0 (min r.1 x,max r.2 x))):=by rw[AN rfl,AO Tryz.func131 BGC rfl (by simp[F0])];simp[A5P,AF,F0,AKH,AKI]
theorem A37{k:Nat}{x:List Int}(h:k<=10000):BZ bk 22 k [AY x]=true:=by rw[BT (by simp) (by simp)];simp[maxLen,AY];omega
theorem Z2(b:AK)(hb:Valid b):∀(d j c γ:Nat) (out:List (List Int)),j+d=GB b.winds->out.length<=j->∃fr c' γ',A3 fr 3=some (true,pv 21 γ' ((out++((bj j d).map (D4 b.winds)).filter (DA b)).map AY))/\∀n k,d<k->A9 (AE bk ann kn (n+1000) 23) aQ (ann 23 (BV aQ)) k ⟨c,[(1,true,.ptr 0 1 0 0),(3,true,pv 21 γ (out.map AY)),(4,true,i j)],⟨[],(1,0,.box (AC b))::pl 21 γ 22 (out.map AY)⟩⟩ =
  some (.exit 0,⟨c',fr,⟨[],(1,0,.box (AC b))::pl 21 γ' 22 ((out++((bj j d).map (D4 b.winds)).filter (DA b)).map AY)⟩⟩)
 |0,j,c,γ,out,hd,ho=>by
  have:j=GB b.winds:=by omega
  subst this;have qm:=fun n=>AKA n b hb;refine⟨?fr,c,γ,?g1,fun n k hk=>?g2⟩;case g2=>
   obtain⟨k,rfl⟩:∃k',k=k'+1:=⟨k-1,by omega⟩
   rw[AB]
   simp only[AC]at qm|-
   simp[qm]
   rfl
  case g1=>simp
 |d+1,j,c,γ,out,hd,ho=>by
  have hm:=hb.many;have hj:j<GB b.winds:=by omega
  have hw:=BH (k:=j) (by omega);have qm:=fun n=>AKA n b hb;have qn:=fun n=>BI8 n b hb j (by omega);have qt:=fun n=>AO8 n b hb (D4 b.winds j);have hln:(D4 b.winds j).length=b.winds.length:=CX (RZ hb.ne j);have hne:D4 b.winds j≠[]:=fun e=>by have hla:=hb.la;have hwi:=hb.wi;rw[e]at hln;simp at hln;omega
  rw[slX hne]at qn;have er:(bj j (d+1)).map (D4 b.winds)=D4 b.winds j::(bj (j+1) d).map (D4 b.winds):=by rw[List.range'_succ,List.map_cons]
  rw[er,List.filter_cons];cases ht:DA b (D4 b.winds j)with
  |false=>
   rw[ht]at qt
   rw[if_neg (by decide)]
   obtain⟨fr,c',γ',e1,ih⟩:=Z2 b hb d (j+1) c γ out (by omega) (by omega)
   refine⟨fr,c',γ',e1,fun n k hk=>?_⟩
   obtain⟨k,rfl⟩:∃k',k=k'+1:=⟨k-1,by omega⟩
   have ih:=ih n k (by omega)
   generalize ((bj (j+1) d).map (D4 b.winds)).filter (DA b)=F at ih|-
   generalize D4 b.winds j=T at qn qt
   rw[AB]
   simp only[AC]at qm qn qt ih|-
   simp at ih
   simp[hj,hw,qm,qn,qt,ih]
  |true=>
   rw[ht]at qt
   rw[if_pos rfl]
   obtain⟨fr,c',γ',e1,ih⟩:=Z2 b hb d (j+1) (c+1) c (out++[D4 b.winds j]) (by omega) (by simp;omega)
   rw[List.append_assoc,List.singleton_append]at e1 ih
   have happ:=A37 (k:=out.length) (x:=D4 b.winds j) (by omega)
   refine⟨fr,c',γ',e1,fun n k hk=>?_⟩
   obtain⟨k,rfl⟩:∃k',k=k'+1:=⟨k-1,by omega⟩
   have ih:=ih n k (by omega)
   generalize D4 b.winds j::((bj (j+1) d).map (D4 b.winds)).filter (DA b)=F at ih|-
   generalize D4 b.winds j=T at qn qt ih happ
   rw[AB]
   simp only[AC]at qm qn qt ih|-
   simp[AY]at ih happ
   simp[hj,hw,AY,qm,qn,qt,happ,ih]
theorem gO(n:Nat)(b:AK)(hb:Valid b):AZ bk kn (AE bk ann kn (n+2200)) 55 [.agg (AC b)]=some (sl ((BK b).map AY)):=by rw[AN rfl,AO Tryz.func55 b55 rfl (by simp[AC])];have hm:=hb.many;obtain⟨fr,c',γ',e1,q⟩:=Z2 b hb (GB b.winds) 0 1 0 [] (by omega) (by simp);have q:=fun n k=>q n (k+1100) (by omega);rw[List.nil_append,<-List.range_eq_range']at e1 q;change A3 fr 3=some (true,pv 21 γ' ((BK b).map AY))at e1;change ∀n k,_=some (Exit.exit 0,(⟨c',fr,⟨[],(1,0,.box (AC b))::pl 21 γ' 22 ((BK b).map AY)⟩⟩:XS))at q;generalize BK b=T at *;simp only[AC]at q|-;simp at q;simp[c55,AF,q,e1]
section
variable {b:AK}{plan:List (List Int)}
end
end Go.Proofs.Tryz.Op
