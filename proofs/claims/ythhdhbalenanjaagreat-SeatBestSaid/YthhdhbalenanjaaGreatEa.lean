/- Contracts of the reference: Empty, Wider, Sum, Truths; of the law: sure, to. No condition but a valid beach. -/
import Derived.Test.YthhdhbalenanjaaGreatX1
import Derived.Test.YthhdhbalenanjaaGreatV1
open Go.Proofs.Tryz renaming prog->bk
open List renaming range'->bj
set_option maxRecDepth 100000
set_option linter.unusedSimpArgs false
open Go Go.Pg Go.Proofs Go.Wind
namespace Go.Proofs.Tryz.Op
@[simp] theorem A3Z:LZ bk 130=false:=by kernel_rfl
@[simp] theorem AYI:LZ bk 131=false:=by kernel_rfl
theorem AS6(n:Nat):AY bk kn (AE bk ann kn (n+50)) 130 []=some (.agg (F0 DO)):=by rw[AN rfl,AO Tryz.func130 BF3 rfl (by simp)];simp[A5I,AF,F0,DO]
theorem xD(n:Nat)(r:Int×Int)(x:Int):AY bk kn (AE bk ann kn (n+50)) 131 [.agg (F0 r),i x]=some (.agg (F0 (min r.1 x,max r.2 x))):=by rw[AN rfl,AO Tryz.func131 BF4 rfl (by simp[F0])];simp[A5J,AF,F0,AJ5,AJ6]
theorem A30{k:Nat}{x:List Int}(h:k<=10000):B5 bk 22 k [AZ x]=true:=by rw[BZ (by simp) (by simp)];simp[maxLen,AZ];omega
theorem ZN(b:AL)(hb:Valid b):∀(d j c γ:Nat) (out:List (List Int)),j+d=GA b.winds->out.length<=j->∃fr c' γ',BD fr 3=some (true,pv 21 γ' ((out++((bj j d).map (D7 b.winds)).filter (DD b)).map AZ))/\∀n k,d<k->BA (AE bk ann kn (n+1000) 23) aG (ann 23 (BU aG)) k ⟨c,[(1,true,.ptr 0 1 0 0),(3,true,pv 21 γ (out.map AZ)),(4,true,i j)],⟨[],(1,0,.box (AC b))::pl 21 γ 22 (out.map AZ)⟩⟩ =
  some (.exit 0,⟨c',fr,⟨[],(1,0,.box (AC b))::pl 21 γ' 22 ((out++((bj j d).map (D7 b.winds)).filter (DD b)).map AZ)⟩⟩)
 |0,j,c,γ,out,hd,ho=>by
  have:j=GA b.winds:=by omega
  subst this;have qm:=fun n=>AJY n b hb;refine⟨?fr,c,γ,?g1,fun n k hk=>?g2⟩;case g2=>
   obtain⟨k,rfl⟩:∃k',k=k'+1:=⟨k-1,by omega⟩
   rw[AB]
   simp only[AC]at qm|-
   simp[qm]
   rfl
  case g1=>simp
 |d+1,j,c,γ,out,hd,ho=>by
  have hm:=hb.many;have hj:j<GA b.winds:=by omega
  have hw:=BJ (k:=j) (by omega);have qm:=fun n=>AJY n b hb;have qn:=fun n=>BIR n b hb j (by omega);have qt:=fun n=>AOU n b hb (D7 b.winds j);have hln:(D7 b.winds j).length=b.winds.length:=C3 (R3 hb.ne j);have hne:D7 b.winds j≠[]:=fun e=>by have hla:=hb.la;have hwi:=hb.wi;rw[e]at hln;simp at hln;omega
  rw[slX hne]at qn;have er:(bj j (d+1)).map (D7 b.winds)=D7 b.winds j::(bj (j+1) d).map (D7 b.winds):=by rw[List.range'_succ,List.map_cons]
  rw[er,List.filter_cons];cases ht:DD b (D7 b.winds j)with
  |false=>
   rw[ht]at qt
   rw[if_neg (by decide)]
   obtain⟨fr,c',γ',e1,ih⟩:=ZN b hb d (j+1) c γ out (by omega) (by omega)
   refine⟨fr,c',γ',e1,fun n k hk=>?_⟩
   obtain⟨k,rfl⟩:∃k',k=k'+1:=⟨k-1,by omega⟩
   have ih:=ih n k (by omega)
   generalize ((bj (j+1) d).map (D7 b.winds)).filter (DD b)=F at ih|-
   generalize D7 b.winds j=T at qn qt
   rw[AB]
   simp only[AC]at qm qn qt ih|-
   simp at ih
   simp[hj,hw,qm,qn,qt,ih]
  |true=>
   rw[ht]at qt
   rw[if_pos rfl]
   obtain⟨fr,c',γ',e1,ih⟩:=ZN b hb d (j+1) (c+1) c (out++[D7 b.winds j]) (by omega) (by simp;omega)
   rw[List.append_assoc,List.singleton_append]at e1 ih
   have happ:=A30 (k:=out.length) (x:=D7 b.winds j) (by omega)
   refine⟨fr,c',γ',e1,fun n k hk=>?_⟩
   obtain⟨k,rfl⟩:∃k',k=k'+1:=⟨k-1,by omega⟩
   have ih:=ih n k (by omega)
   generalize D7 b.winds j::((bj (j+1) d).map (D7 b.winds)).filter (DD b)=F at ih|-
   generalize D7 b.winds j=T at qn qt ih happ
   rw[AB]
   simp only[AC]at qm qn qt ih|-
   simp[AZ]at ih happ
   simp[hj,hw,AZ,qm,qn,qt,happ,ih]
theorem gE(n:Nat)(b:AL)(hb:Valid b):AY bk kn (AE bk ann kn (n+2200)) 55 [.agg (AC b)]=some (sl ((BS b).map AZ)):=by rw[AN rfl,AO Tryz.func55 b55 rfl (by simp[AC])];have hm:=hb.many;obtain⟨fr,c',γ',e1,q⟩:=ZN b hb (GA b.winds) 0 1 0 [] (by omega) (by simp);have q:=fun n k=>q n (k+1100) (by omega);rw[List.nil_append,<-List.range_eq_range']at e1 q;change BD fr 3=some (true,pv 21 γ' ((BS b).map AZ))at e1;change ∀n k,_=some (Exit.exit 0,(⟨c',fr,⟨[],(1,0,.box (AC b))::pl 21 γ' 22 ((BS b).map AZ)⟩⟩:XS))at q;generalize BS b=T at *;simp only[AC]at q|-;simp at q;simp[c55,AF,q,e1]
section
variable {b:AL}{plan:List (List Int)}
end
end Go.Proofs.Tryz.Op
