/- Contracts of the reference: Empty, Wider, Sum, Truths; of the law: sure, to. No condition but a valid beach. -/
import Derived.Test.YthhdhbalenanjaaGreatX1
import Derived.Test.YthhdhbalenanjaaGreatV1
import Derived.Test.YthhdhbalenanjaaGreatFz
open Go Go.Pg Go.Proofs Go.Wind
namespace Go.Proofs.Tryz.Op
set_option maxRecDepth 100000
set_option linter.unusedSimpArgs false
@[simp] theorem AXI:KJ Tryz.prog 130=false:=by kernel_rfl
@[simp] theorem ARW:KJ Tryz.prog 131=false:=by kernel_rfl
def xJ(l:List GD):Nat→Int
 | 0=>0
 | n+1=>xJ l n+(l.getD n ⟨0,0,0⟩).good
def AL9(A:List (List GD)):Nat→Int
 | 0=>0
 | n+1=>AL9 A n+xJ (A.getD n []) (A.getD n []).length
theorem AXJ{k:Nat}{x:List Int}(h:k≤10000):B4 Tryz.prog 22 k [AN x]=true:=by
 rw[CO (by simp[AN]) (by simp)]
 simp[maxLen,AN]; omega
theorem WN(b:AJ)(hb:Valid b):∀(d j c γ:Nat) (out:List (List Int)),j+d=FO b.winds→out.length≤j→∃fr c' γ',BT fr 3=some (true,pv 21 γ' ((out++((List.range' j d).map (DR b.winds)).filter (ED b)).map AN))∧∀n k,d<k→A9 (AE Tryz.prog ann kn (n+1000) 23) XC (ann 23 (BN XC)) k ⟨c,[(1,true,.ptr 0 1 0 0),(3,true,pv 21 γ (out.map AN)),(4,true,i j)],⟨[],(1,0,.box (AA b)) :: pl 21 γ 22 (out.map AN)⟩⟩ =
  some (.exit 0,⟨c',fr,⟨[],(1,0,.box (AA b)) :: pl 21 γ' 22 ((out++((List.range' j d).map (DR b.winds)).filter (ED b)).map AN)⟩⟩)
 | 0,j,c,γ,out,hd,ho=>by
  have:j=FO b.winds:=by omega
  subst this
  have qm:=fun n=>ADC n b hb
  refine⟨?fr,c,γ,?g1,fun n k hk=>?g2⟩
  case g2 =>
   obtain⟨k,rfl⟩:∃k',k=k'+1:=⟨k-1,by omega⟩
   rw[AC]
   simp only[AA]at qm ⊢
   simp[AH,AN,AG,qm]
   rfl
  case g1=>simp
 | d+1,j,c,γ,out,hd,ho=>by
  have hm:=hb.many
  have hj:j<FO b.winds:=by omega
  have hw:=BH (k:=j) (by omega)
  have qm:=fun n=>ADC n b hb
  have qn:=fun n=>BDU n b hb j (by omega)
  have qt:=fun n=>AH5 n b hb (DR b.winds j)
  have hln:(DR b.winds j).length=b.winds.length:=CE (XH hb.ne j)
  have hne:DR b.winds j≠[]:=fun e=>by
   have hla:=hb.la
   have hwi:=hb.wi
   rw[e]at hln
   simp at hln
   omega
  rw[slX hne]at qn
  have er:(List.range' j (d+1)).map (DR b.winds)=DR b.winds j :: (List.range' (j+1) d).map (DR b.winds):=by rw[List.range'_succ,List.map_cons]
  rw[er,List.filter_cons]
  cases ht:ED b (DR b.winds j)with
  | false =>
   rw[ht]at qt
   rw[if_neg (by decide)]
   obtain⟨fr,c',γ',e1,ih⟩:=WN b hb d (j+1) c γ out (by omega) (by omega)
   refine⟨fr,c',γ',e1,fun n k hk=>?_⟩
   obtain⟨k,rfl⟩:∃k',k=k'+1:=⟨k-1,by omega⟩
   have ih:=ih n k (by omega)
   generalize ((List.range' (j+1) d).map (DR b.winds)).filter (ED b)=F at ih ⊢
   generalize DR b.winds j=T at qn qt
   rw[AC]
   simp only[AA]at qm qn qt ih ⊢
   simp at ih
   simp[hj,hw,AH,AN,AG,qm,qn,qt,ih]
  | true =>
   rw[ht]at qt
   rw[if_pos rfl]
   obtain⟨fr,c',γ',e1,ih⟩:=WN b hb d (j+1) (c+1) c (out++[DR b.winds j]) (by omega) (by simp; omega)
   rw[List.append_assoc,List.singleton_append]at e1 ih
   have happ:=AXJ (k:=out.length) (x:=DR b.winds j) (by omega)
   refine⟨fr,c',γ',e1,fun n k hk=>?_⟩
   obtain⟨k,rfl⟩:∃k',k=k'+1:=⟨k-1,by omega⟩
   have ih:=ih n k (by omega)
   generalize DR b.winds j :: ((List.range' (j+1) d).map (DR b.winds)).filter (ED b)=F at ih ⊢
   generalize DR b.winds j=T at qn qt ih happ
   rw[AC]
   simp only[AA]at qm qn qt ih ⊢
   simp[AN]at ih happ
   simp[hj,hw,AH,AN,AG,qm,qn,qt,happ,ih]
theorem tM(n:Nat)(b:AJ)(hb:Valid b):AY Tryz.prog kn (AE Tryz.prog ann kn (n+2200)) 55 [.agg (AA b)]=some (sl ((DE b).map AN)):=by
 rw[AP rfl,AO Tryz.func55 b55 rfl (by simp[AA,AH,AN,AG])]
 have hm:=hb.many
 obtain⟨fr,c',γ',e1,q⟩:=WN b hb (FO b.winds) 0 1 0 [] (by omega) (by simp)
 have q:=fun n k=>q n (k+1100) (by omega)
 rw[List.nil_append,← List.range_eq_range']at e1 q
 change BT fr 3=some (true,pv 21 γ' ((DE b).map AN))at e1
 change ∀n k,_=some (Exit.exit 0,(⟨c',fr,⟨[],(1,0,.box (AA b)) :: pl 21 γ' 22 ((DE b).map AN)⟩⟩:XS))at q
 generalize DE b=T at *
 simp only[AA]at q ⊢
 simp at q
 simp[c55,AF,q,e1,AN,AH]
def BEG(b:AJ):List (List Int)×Int:=if CD b=0 then(DE b,if DE b=[] then 11 else 0) else([],CD b)
end Go.Proofs.Tryz.Op
