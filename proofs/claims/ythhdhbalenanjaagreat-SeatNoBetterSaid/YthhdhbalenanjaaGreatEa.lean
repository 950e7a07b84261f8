/- Contracts of the reference: Empty, Wider, Sum, Truths; of the law: sure, to. No condition but a valid beach. -/
import Derived.Test.YthhdhbalenanjaaGreatX1
import Derived.Test.YthhdhbalenanjaaGreatV1
import Derived.Test.YthhdhbalenanjaaGreatFz
set_option maxRecDepth 100000
set_option linter.unusedSimpArgs false
open Go Go.Pg Go.Proofs Go.Wind
namespace Go.Proofs.Tryz.Op
@[simp] theorem A77:IF Tryz.prog 130=false:=by kernel_rfl
@[simp] theorem A1W:IF Tryz.prog 131=false:=by kernel_rfl
theorem AVV(n:Nat):A0 Tryz.prog kn (AE Tryz.prog ann kn (n+50)) 130 []=some (.agg (DK DM)):=by rw[AP rfl,AR Tryz.func130 BLS rfl (by simp)];simp[A9S,AG,DK,DM]
theorem zD(n:Nat)(r:Int×Int)(x:Int):A0 Tryz.prog kn (AE Tryz.prog ann kn (n+50)) 131 [.agg (DK r),i x]=some (.agg (DK (min r.1 x,max r.2 x))):=by rw[AP rfl,AR Tryz.func131 BLT rfl (by simp[DK])];simp[A9T,AG,DK,ALR,yC]
def AF6(l:List JO):Nat→Int
 |0=>0
 |n+1=>AF6 l n+(l.getD n ⟨0,0,0⟩).good
def AVW(A:List (List JO)):Nat→Int
 |0=>0
 |n+1=>AVW A n+AF6 (A.getD n []) (A.getD n []).length
theorem A78{k:Nat}{x:List Int}(h:k≤10000):B9 Tryz.prog 22 k [AM x]=true:=by rw[CA (by simp[AM]) (by simp)];simp[maxLen,AM];omega
theorem aH(b:AK)(hb:Valid b):∀(d j c γ:Nat) (out:List (List Int)),j+d=GR b.winds→out.length≤j→∃fr c' γ',BE fr 3=some (true,pv 21 γ' ((out++((List.range' j d).map (EJ b.winds)).filter (DA b)).map AM))∧∀n k,d<k→BF (AE Tryz.prog ann kn (n+1000) 23) bK (ann 23 (BW bK)) k ⟨c,[(1,true,.ptr 0 1 0 0),(3,true,pv 21 γ (out.map AM)),(4,true,i j)],⟨[],(1,0,.box (AC b))::pl 21 γ 22 (out.map AM)⟩⟩ =
  some (.exit 0,⟨c',fr,⟨[],(1,0,.box (AC b))::pl 21 γ' 22 ((out++((List.range' j d).map (EJ b.winds)).filter (DA b)).map AM)⟩⟩)
 |0,j,c,γ,out,hd,ho=>by
  have:j=GR b.winds:=by omega
  subst this;have qm:=fun n=>ALI n b hb;refine⟨?fr,c,γ,?g1,fun n k hk=>?g2⟩;case g2=>
   obtain⟨k,rfl⟩:∃k',k=k'+1:=⟨k-1,by omega⟩
   rw[AB]
   simp only[AC]at qm⊢
   simp[AJ,AM,AF,qm]
   rfl
  case g1=>simp
 |d+1,j,c,γ,out,hd,ho=>by
  have hm:=hb.many;have hj:j<GR b.winds:=by omega
  have hw:=BM (k:=j) (by omega);have qm:=fun n=>ALI n b hb;have qn:=fun n=>BPC n b hb j (by omega);have qt:=fun n=>AQV n b hb (EJ b.winds j);have hln:(EJ b.winds j).length=b.winds.length:=CS (SY hb.ne j);have hne:EJ b.winds j≠[]:=fun e=>by have hla:=hb.la;have hwi:=hb.wi;rw[e]at hln;simp at hln;omega
  rw[slX hne]at qn;have er:(List.range' j (d+1)).map (EJ b.winds)=EJ b.winds j::(List.range' (j+1) d).map (EJ b.winds):=by rw[List.range'_succ,List.map_cons]
  rw[er,List.filter_cons];cases ht:DA b (EJ b.winds j)with
  |false=>
   rw[ht]at qt
   rw[if_neg (by decide)]
   obtain⟨fr,c',γ',e1,ih⟩:=aH b hb d (j+1) c γ out (by omega) (by omega)
   refine⟨fr,c',γ',e1,fun n k hk=>?_⟩
   obtain⟨k,rfl⟩:∃k',k=k'+1:=⟨k-1,by omega⟩
   have ih:=ih n k (by omega)
   generalize ((List.range' (j+1) d).map (EJ b.winds)).filter (DA b)=F at ih⊢
   generalize EJ b.winds j=T at qn qt
   rw[AB]
   simp only[AC]at qm qn qt ih⊢
   simp at ih
   simp[hj,hw,AJ,AM,AF,qm,qn,qt,ih]
  |true=>
   rw[ht]at qt
   rw[if_pos rfl]
   obtain⟨fr,c',γ',e1,ih⟩:=aH b hb d (j+1) (c+1) c (out++[EJ b.winds j]) (by omega) (by simp;omega)
   rw[List.append_assoc,List.singleton_append]at e1 ih
   have happ:=A78 (k:=out.length) (x:=EJ b.winds j) (by omega)
   refine⟨fr,c',γ',e1,fun n k hk=>?_⟩
   obtain⟨k,rfl⟩:∃k',k=k'+1:=⟨k-1,by omega⟩
   have ih:=ih n k (by omega)
   generalize EJ b.winds j::((List.range' (j+1) d).map (EJ b.winds)).filter (DA b)=F at ih⊢
   generalize EJ b.winds j=T at qn qt ih happ
   rw[AB]
   simp only[AC]at qm qn qt ih⊢
   simp[AM]at ih happ
   simp[hj,hw,AJ,AM,AF,qm,qn,qt,happ,ih]
theorem iM(n:Nat)(b:AK)(hb:Valid b):A0 Tryz.prog kn (AE Tryz.prog ann kn (n+2200)) 55 [.agg (AC b)]=some (sl ((BO b).map AM)):=by rw[AP rfl,AR Tryz.func55 b55 rfl (by simp[AC,AJ,AM,AF])];have hm:=hb.many;obtain⟨fr,c',γ',e1,q⟩:=aH b hb (GR b.winds) 0 1 0 [] (by omega) (by simp);have q:=fun n k=>q n (k+1100) (by omega);rw[List.nil_append,←List.range_eq_range']at e1 q;change BE fr 3=some (true,pv 21 γ' ((BO b).map AM))at e1;change ∀n k,_=some (Exit.exit 0,(⟨c',fr,⟨[],(1,0,.box (AC b))::pl 21 γ' 22 ((BO b).map AM)⟩⟩:XS))at q;generalize BO b=T at *;simp only[AC]at q⊢;simp at q;simp[c55,AG,q,e1,AM,AJ]
def BP1(b:AK):List (List Int)×Int:=if CV b=0 then(BO b,if BO b=[] then 11 else 0) else([],CV b)
section
variable {b:AK}{plan:List (List Int)}
end
end Go.Proofs.Tryz.Op
