/- Contracts of the reference: Empty, Wider, Sum, Truths; of the law: sure, to. No condition but a valid beach. -/
import Derived.Test.YtkemmiljbaneoaaGreatX1
import Derived.Test.YtkemmiljbaneoaaGreatV1
import Derived.Test.YtkemmiljbaneoaaGreatFz
open Go Go.Pg Go.Proofs Go.Wind
namespace Go.Proofs.Tryz.Op
set_option maxRecDepth 100000
set_option linter.unusedSimpArgs false
@[simp] theorem sr_empty:sliceR Tryz.prog 84 = false:=by kernel_rfl
@[simp] theorem sr_widerR:sliceR Tryz.prog 85 = false:=by kernel_rfl
theorem kEmpty (n:Nat):callK Tryz.prog kn (execA Tryz.prog ann kn (n+50)) 84 [] = some (.agg (encR emptyR)):=by
 rw [callK_of rfl,call0_eq Tryz.func84 b84 rfl (by simp)]
 simp [c84,argFr,encR,emptyR]
theorem kWiderR (n:Nat) (r:Int × Int) (x:Int):callK Tryz.prog kn (execA Tryz.prog ann kn (n+50)) 85 [.agg (encR r),i x] = some (.agg (encR (min r.1 x,max r.2 x))):=by
 rw [callK_of rfl,call0_eq Tryz.func85 b85 rfl (by simp [encR])]
 simp [c85,argFr,encR,min_lt,max_lt]
theorem kTo (n:Nat) (r:Int × Int):callK Tryz.prog kn (execA Tryz.prog ann kn (n+50)) 26 [.agg (encR r)] = some (.agg (encR r)):=by
 rw [callK_of rfl,call0_eq Tryz.func26 b26 rfl (by simp [encR])]
 simp [c26,argFr,encR]
def sumRow (l:List Hrs):Nat→Int
 | 0=>0
 | n + 1=>sumRow l n + (l.getD n ⟨0,0,0⟩).good
def sumAll (A:List (List Hrs)):Nat→Int
 | 0=>0
 | n + 1=>sumAll A n + sumRow (A.getD n []) (A.getD n []).length
theorem appTs {k:Nat} {x:List Int} (h:k≤10000):appOK Tryz.prog 22 k [encL x] = true:=by
 rw [appOK_iff (by simp [encL]) (by simp)]
 simp [maxLen,encL]; omega
theorem lTruths3 (b:Beach) (hb:Valid b):∀ (d j c γ:Nat) (out:List (List Int)),j + d = manyN b.winds→out.length≤j→∃ fr c' γ',getF fr 3 = some (true,pv 21 γ' ((out ++ ((List.range' j d).map (nthGo b.winds)).filter (isTruthB b)).map encL))∧∀ n k,d < k→loopA (execA Tryz.prog ann kn (n+1000) 23) lb47_3 (ann 23 (fstR lb47_3)) k ⟨c,[(1,true,.ptr 0 1 0 0),(3,true,pv 21 γ (out.map encL)),(4,true,i j)],⟨[],(1,0,.box (cellsB b)) :: pl 21 γ 22 (out.map encL)⟩⟩ =
  some (.exit 0,⟨c',fr,⟨[],(1,0,.box (cellsB b)) :: pl 21 γ' 22 ((out ++ ((List.range' j d).map (nthGo b.winds)).filter (isTruthB b)).map encL)⟩⟩)
 | 0,j,c,γ,out,hd,ho=>by
  have:j = manyN b.winds:=by omega
  subst this
  have qm:=fun n=>kMany n b hb
  refine ⟨?fr,c,γ,?g1,fun n k hk=>?g2⟩
  case g2 =>
   obtain ⟨k,rfl⟩:∃ k',k = k' + 1:=⟨k - 1,by omega⟩
   rw [loopA_succ]
   simp only [cellsB] at qm ⊢
   simp [encI,encL,encP,qm]
   rfl
  case g1=>simp
 | d + 1,j,c,γ,out,hd,ho=>by
  have hm:=hb.many
  have hj:j < manyN b.winds:=by omega
  have hw:=wrapS (k:=j) (by omega)
  have qm:=fun n=>kMany n b hb
  have qn:=fun n=>kNth n b hb j (by omega)
  have qt:=fun n=>kTruthR n b hb (nthGo b.winds j)
  have hln:(nthGo b.winds j).length = b.winds.length:=listed_len (nth_listed hb.ne j)
  have hne:nthGo b.winds j ≠ []:=fun e=>by
   have hla:=hb.la
   have hwi:=hb.wi
   rw [e] at hln
   simp at hln
   omega
  rw [slX hne] at qn
  have er:(List.range' j (d + 1)).map (nthGo b.winds) = nthGo b.winds j :: (List.range' (j + 1) d).map (nthGo b.winds):=by rw [List.range'_succ,List.map_cons]
  rw [er,List.filter_cons]
  cases ht:isTruthB b (nthGo b.winds j) with
  | false =>
   rw [ht] at qt
   rw [if_neg (by decide)]
   obtain ⟨fr,c',γ',e1,ih⟩:=lTruths3 b hb d (j + 1) c γ out (by omega) (by omega)
   refine ⟨fr,c',γ',e1,fun n k hk=>?_⟩
   obtain ⟨k,rfl⟩:∃ k',k = k' + 1:=⟨k - 1,by omega⟩
   have ih:=ih n k (by omega)
   generalize ((List.range' (j + 1) d).map (nthGo b.winds)).filter (isTruthB b) = F at ih ⊢
   generalize nthGo b.winds j = T at qn qt
   rw [loopA_succ]
   simp only [cellsB] at qm qn qt ih ⊢
   simp at ih
   simp [hj,hw,encI,encL,encP,qm,qn,qt,ih]
  | true =>
   rw [ht] at qt
   rw [if_pos rfl]
   obtain ⟨fr,c',γ',e1,ih⟩:=lTruths3 b hb d (j + 1) (c + 1) c (out ++ [nthGo b.winds j]) (by omega) (by simp; omega)
   rw [List.append_assoc,List.singleton_append] at e1 ih
   have happ:=appTs (k:=out.length) (x:=nthGo b.winds j) (by omega)
   refine ⟨fr,c',γ',e1,fun n k hk=>?_⟩
   obtain ⟨k,rfl⟩:∃ k',k = k' + 1:=⟨k - 1,by omega⟩
   have ih:=ih n k (by omega)
   generalize nthGo b.winds j :: ((List.range' (j + 1) d).map (nthGo b.winds)).filter (isTruthB b) = F at ih ⊢
   generalize nthGo b.winds j = T at qn qt ih happ
   rw [loopA_succ]
   simp only [cellsB] at qm qn qt ih ⊢
   simp [encL] at ih happ
   simp [hj,hw,encI,encL,encP,qm,qn,qt,happ,ih]
theorem kTruthsRR (n:Nat) (b:Beach) (hb:Valid b):callK Tryz.prog kn (execA Tryz.prog ann kn (n+2200)) 47 [.agg (cellsB b)] = some (sl ((truthsR b).map encL)):=by
 rw [callK_of rfl,call0_eq Tryz.func47 b47 rfl (by simp [cellsB,encI,encL,encP])]
 have hm:=hb.many
 obtain ⟨fr,c',γ',e1,q⟩:=lTruths3 b hb (manyN b.winds) 0 1 0 [] (by omega) (by simp)
 have q:=fun n k=>q n (k + 1100) (by omega)
 rw [List.nil_append,← List.range_eq_range'] at e1 q
 change getF fr 3 = some (true,pv 21 γ' ((truthsR b).map encL)) at e1
 change ∀ n k,_ = some (Exit.exit 0,(⟨c',fr,⟨[],(1,0,.box (cellsB b)) :: pl 21 γ' 22 ((truthsR b).map encL)⟩⟩:XS)) at q
 generalize truthsR b = T at *
 simp only [cellsB] at q ⊢
 simp at q
 simp [c47,argFr,q,e1,encL,encI]
def sureV (b:Beach):List (List Int) × Int:=if faultB b = 0 then (truthsR b,if truthsR b = [] then 11 else 0) else ([],faultB b)
theorem kSure (n:Nat) (b:Beach) (h100:∀ l ∈ b.winds,l.length≤100):callK Tryz.prog kn (execA Tryz.prog ann kn (n+2500)) 20 [.agg (cellsB b)] = some (.tup [sl ((sureV b).1.map encL),i (sureV b).2]):=by
 rw [callK_of rfl,call0_eq Tryz.func20 b20 rfl (by simp [cellsB,encI,encL,encP])]
 have qf:=fun n=>kfault n b h100
 have slnil:sl ([]:List (List V)) = .nil:=rfl
 unfold sureV
 by_cases h:faultB b = 0
 ·have hb:=valid_of h
  have qt:=fun n=>kTruthsRR n b hb
  rw [h] at qf
  rw [if_pos h]
  by_cases hT:truthsR b = []
  ·rw [hT] at qt
   rw [if_pos hT,hT]
   simp only [cellsB,List.map_nil,slnil] at qf qt ⊢
   simp [c20,argFr,encI,encL,encP,qf,qt]
  ·rw [slX hT] at qt
   rw [if_neg hT,slX hT]
   have hl:0 < (truthsR b).length:=List.length_pos_iff.2 hT
   generalize truthsR b = T at *
   have hd:decide ((T.length:Int) = 0) = false:=decide_eq_false (by omega)
   simp only [cellsB] at qf qt ⊢
   simp [c20,argFr,encI,encL,encP,qf,qt,hd,hT]
 ·rw [if_neg h]
  simp only [cellsB,List.map_nil,slnil] at qf ⊢
  simp [c20,argFr,encI,encL,encP,qf,h]
end Go.Proofs.Tryz.Op
/- Contracts of the reference: Total, Calm. No condition but a valid beach. -/
open Go Go.Pg Go.Proofs Go.Wind
namespace Go.Proofs.Tryz.Op
set_option maxRecDepth 100000
set_option linter.unusedSimpArgs false
section
variable {b:Beach} {plan:List (List Int)}
end
end Go.Proofs.Tryz.Op
