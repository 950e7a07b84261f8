/- Contracts of the reference: Empty, Wider, Sum, Truths; of the law: sure, to. No condition but a valid beach. -/
import Derived.Test.YthhdhbalenanjaaGreatX1
import Derived.Test.YthhdhbalenanjaaGreatV1
import Derived.Test.YthhdhbalenanjaaGreatFz
set_option maxRecDepth 100000
set_option linter.unusedSimpArgs false
open Go Go.Pg Go.Proofs Go.Wind
namespace Go.Proofs.Tryz.Op
@[simp] theorem A0Y:J6 Tryz.prog 130=false:=by kernel_rfl
@[simp] theorem AU6:J6 Tryz.prog 131=false:=by kernel_rfl
def AAU(l:List EI):Nat→Int
 |0=>0
 |n+1=>AAU l n+(l.getD n ⟨0,0,0⟩).good
def APJ(A:List (List EI)):Nat→Int
 |0=>0
 |n+1=>APJ A n+AAU (A.getD n []) (A.getD n []).length
theorem A0Z{k:Nat}{x:List Int}(h:k≤10000):CA Tryz.prog 22 k [AM x]=true:=by rw[CH (by simp[AM]) (by simp)];simp[maxLen,AM];omega
theorem XN(b:AJ)(hb:Valid b):∀(d j c γ:Nat) (out:List (List Int)),j+d=F4 b.winds→out.length≤j→∃fr c' γ',BZ fr 3=some (true,pv 21 γ' ((out++((List.range' j d).map (D1 b.winds)).filter (CS b)).map AM))∧∀n k,d<k→BC (AE Tryz.prog ann kn (n+1000) 23) YI (ann 23 (BR YI)) k ⟨c,[(1,true,.ptr 0 1 0 0),(3,true,pv 21 γ (out.map AM)),(4,true,i j)],⟨[],(1,0,.box (AB b))::pl 21 γ 22 (out.map AM)⟩⟩ =
  some (.exit 0,⟨c',fr,⟨[],(1,0,.box (AB b))::pl 21 γ' 22 ((out++((List.range' j d).map (D1 b.winds)).filter (CS b)).map AM)⟩⟩)
 |0,j,c,γ,out,hd,ho=>by
  have:j=F4 b.winds:=by omega
  subst this;have qm:=fun n=>AF1 n b hb;refine⟨?fr,c,γ,?g1,fun n k hk=>?g2⟩;case g2=>
   obtain⟨k,rfl⟩:∃k',k=k'+1:=⟨k-1,by omega⟩
   rw[AC]
   simp only[AB]at qm⊢
   simp[AH,AM,AG,qm]
   rfl
  case g1=>simp
 |d+1,j,c,γ,out,hd,ho=>by
  have hm:=hb.many;have hj:j<F4 b.winds:=by omega
  have hw:=BH (k:=j) (by omega);have qm:=fun n=>AF1 n b hb;have qn:=fun n=>BHT n b hb j (by omega);have qt:=fun n=>AK8 n b hb (D1 b.winds j);have hln:(D1 b.winds j).length=b.winds.length:=BU (YR hb.ne j);have hne:D1 b.winds j≠[]:=fun e=>by have hla:=hb.la;have hwi:=hb.wi;rw[e]at hln;simp at hln;omega
  rw[slX hne]at qn;have er:(List.range' j (d+1)).map (D1 b.winds)=D1 b.winds j::(List.range' (j+1) d).map (D1 b.winds):=by rw[List.range'_succ,List.map_cons]
  rw[er,List.filter_cons];cases ht:CS b (D1 b.winds j)with
  |false=>
   rw[ht]at qt
   rw[if_neg (by decide)]
   obtain⟨fr,c',γ',e1,ih⟩:=XN b hb d (j+1) c γ out (by omega) (by omega)
   refine⟨fr,c',γ',e1,fun n k hk=>?_⟩
   obtain⟨k,rfl⟩:∃k',k=k'+1:=⟨k-1,by omega⟩
   have ih:=ih n k (by omega)
   generalize ((List.range' (j+1) d).map (D1 b.winds)).filter (CS b)=F at ih⊢
   generalize D1 b.winds j=T at qn qt
   rw[AC]
   simp only[AB]at qm qn qt ih⊢
   simp at ih
   simp[hj,hw,AH,AM,AG,qm,qn,qt,ih]
  |true=>
   rw[ht]at qt
   rw[if_pos rfl]
   obtain⟨fr,c',γ',e1,ih⟩:=XN b hb d (j+1) (c+1) c (out++[D1 b.winds j]) (by omega) (by simp;omega)
   rw[List.append_assoc,List.singleton_append]at e1 ih
   have happ:=A0Z (k:=out.length) (x:=D1 b.winds j) (by omega)
   refine⟨fr,c',γ',e1,fun n k hk=>?_⟩
   obtain⟨k,rfl⟩:∃k',k=k'+1:=⟨k-1,by omega⟩
   have ih:=ih n k (by omega)
   generalize D1 b.winds j::((List.range' (j+1) d).map (D1 b.winds)).filter (CS b)=F at ih⊢
   generalize D1 b.winds j=T at qn qt ih happ
   rw[AC]
   simp only[AB]at qm qn qt ih⊢
   simp[AM]at ih happ
   simp[hj,hw,AH,AM,AG,qm,qn,qt,happ,ih]
theorem cT(n:Nat)(b:AJ)(hb:Valid b):AW Tryz.prog kn (AE Tryz.prog ann kn (n+2200)) 55 [.agg (AB b)]=some (sl ((BJ b).map AM)):=by rw[AQ rfl,AP Tryz.func55 b55 rfl (by simp[AB,AH,AM,AG])];have hm:=hb.many;obtain⟨fr,c',γ',e1,q⟩:=XN b hb (F4 b.winds) 0 1 0 [] (by omega) (by simp);have q:=fun n k=>q n (k+1100) (by omega);rw[List.nil_append,←List.range_eq_range']at e1 q;change BZ fr 3=some (true,pv 21 γ' ((BJ b).map AM))at e1;change ∀n k,_=some (Exit.exit 0,(⟨c',fr,⟨[],(1,0,.box (AB b))::pl 21 γ' 22 ((BJ b).map AM)⟩⟩:XS))at q;generalize BJ b=T at *;simp only[AB]at q⊢;simp at q;simp[c55,AF,q,e1,AM,AH]
def BIG(b:AJ):List (List Int)×Int:=if CE b=0 then(BJ b,if BJ b=[] then 11 else 0) else([],CE b)
end Go.Proofs.Tryz.Op
