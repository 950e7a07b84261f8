/- Contracts of the reference: Empty, Wider, Sum, Truths; of the law: sure, to. No condition but a valid beach. -/
import Derived.Test.YtkemmiljbaneoaaGreatX1
import Derived.Test.YtkemmiljbaneoaaGreatV1
import Derived.Test.YtkemmiljbaneoaaGreatFz
open Go Go.Pg Go.Proofs Go.Wind
namespace Go.Proofs.Tryz.Op
set_option maxRecDepth 100000
set_option linter.unusedSimpArgs false
@[simp] theorem sr_empty:sliceR Tryz.prog 84 = false:=by kernel_rfl
@[simp] theorem sr_widerR:sliceR Tryz.prog 85 = false:=by kernel_rfl
def sumRow (l:List Hrs):Nat→Int
 | 0=>0
 | n + 1=>sumRow l n + (l.getD n ⟨0,0,0⟩).good
def sumAll (A:List (List Hrs)):Nat→Int
 | 0=>0
 | n + 1=>sumAll A n + sumRow (A.getD n []) (A.getD n []).length
theorem sumRow_le {l:List Hrs} (hl:∀ x ∈ l,0≤x.good∧x.good≤100):∀ n,n≤l.length→0≤sumRow l n∧sumRow l n≤n * 100
 | 0,_=>by simp [sumRow]
 | n + 1,hn=>by
  have h1:=sumRow_le hl n (by omega)
  have e:l.getD n ⟨0,0,0⟩ = l[n]'(by omega):=by rw [List.getD_eq_getElem?_getD,List.getElem?_eq_getElem (by omega)]; rfl
  have h2:=hl _ (List.getElem_mem (by omega:n < l.length))
  simp only [sumRow,e]
  omega
theorem sumAll_le {A:List (List Hrs)} (hA:∀ l ∈ A,l.length≤100∧∀ x ∈ l,0≤x.good∧x.good≤100):∀ n,n≤A.length→0≤sumAll A n∧sumAll A n≤n * 10000
 | 0,_=>by simp [sumAll]
 | n + 1,hn=>by
  have h1:=sumAll_le hA n (by omega)
  have e:A.getD n [] = A[n]'(by omega):=by rw [List.getD_eq_getElem?_getD,List.getElem?_eq_getElem (by omega)]; rfl
  obtain ⟨h2,h3⟩:=hA _ (List.getElem_mem (by omega:n < A.length))
  have h4:=sumRow_le h3 _ (Nat.le_refl _)
  simp only [sumAll,e]
  omega
theorem lSum6 (A:List (List Hrs)) (r:Nat) (hr:r < A.length) (hl:A[r].length≤100) (hx:∀ x ∈ A[r],0≤x.good∧x.good≤100) (m:Int) (hm:0≤m∧m≤10000000):∀ (d q:Nat),q + d = A[r].length→∀ n k,d < k→loopA (execA Tryz.prog ann kn (n+100) 32) lb49_6 (ann 32 (fstR lb49_6)) k ⟨0,[(0,true,.list false (A.map encHs)),(3,true,i (m + sumRow A[r] q)),(4,true,i r),(5,true,i q)],⟨[],[]⟩⟩ =
  some (.exit 2,⟨0,[(18,true,.bool false),(17,true,i A[r].length),(16,true,.list false (A[r].map encH)),(15,true,.ref [.list false (A[r].map encH)]),(14,true,i r),(13,true,.list false (A.map encHs)),(12,true,i A[r].length),(0,true,.list false (A.map encHs)),(3,true,i (m + sumRow A[r] A[r].length)),(4,true,i r),(5,true,i A[r].length)],⟨[],[]⟩⟩)
 | 0,q,hd,n,k + 1,hk=>by
  have:q = A[r].length:=by omega
  subst this
  rw [loopA_succ]
  simp [hr,encHs]
 | d + 1,q,hd,n,k + 1,hk=>by
  have hq:q < A[r].length:=by omega
  have hw:=wrapS (k:=q) (by omega)
  have ih:=lSum6 A r hr hl hx m hm d (q + 1) (by omega) n k (by omega)
  have h1:=sumRow_le hx q (by omega)
  have h2:=hx _ (List.getElem_mem hq)
  have e:A[r].getD q ⟨0,0,0⟩ = A[r][q]:=by rw [List.getD_eq_getElem?_getD,List.getElem?_eq_getElem hq]; rfl
  have e1:sumRow A[r] (q + 1) = sumRow A[r] q + A[r][q].good:=by rw [← e]; rfl
  rw [e1,← Int.add_assoc] at ih
  have hwg:IntKind.i64.wrap (m + sumRow A[r] q + A[r][q].good) = m + sumRow A[r] q + A[r][q].good:=wrap_i64 (by omega) (by omega)
  generalize sumRow A[r] A[r].length = T at ih ⊢
  generalize sumRow A[r] q = S at ih hwg ⊢
  rw [loopA_succ]
  simp at ih
  simp [hr,hq,hw,hwg,encHs,encH,ih]
theorem lSum3 (A:List (List Hrs)) (hAl:A.length≤100) (hA:∀ l ∈ A,l.length≤100∧∀ x ∈ l,0≤x.good∧x.good≤100):∀ (d r:Nat),r + d = A.length→∀ n k,d < k→loopA (execA Tryz.prog ann kn (n+300) 32) lb49_3 (ann 32 (fstR lb49_3)) k ⟨0,[(0,true,.list false (A.map encHs)),(3,true,i (sumAll A r)),(4,true,i r)],⟨[],[]⟩⟩ =
  some (.exit 0,⟨0,[(9,true,.bool false),(8,true,i A.length),(7,true,.list false (A.map encHs)),(6,true,i A.length),(0,true,.list false (A.map encHs)),(3,true,i (sumAll A A.length)),(4,true,i A.length)],⟨[],[]⟩⟩)
 | 0,r,hd,n,k + 1,hk=>by
  have:r = A.length:=by omega
  subst this
  rw [loopA_succ]
  simp
 | d + 1,r,hd,n,k + 1,hk=>by
  have hr:r < A.length:=by omega
  have hw:=wrapS (k:=r) (by omega)
  have ih:=lSum3 A hAl hA d (r + 1) (by omega) n k (by omega)
  have e:A.getD r [] = A[r]:=by rw [List.getD_eq_getElem?_getD,List.getElem?_eq_getElem hr]; rfl
  obtain ⟨h2,h3⟩:=hA _ (List.getElem_mem hr)
  have h1:=sumAll_le hA r (by omega)
  have q:=lSum6 A r hr h2 h3 (sumAll A r) (by omega) A[r].length 0 (by omega)
  have q:=fun n k=>q n (k + 150) (by omega)
  have e0:sumRow A[r] 0 = 0:=rfl
  have e1:sumAll A (r + 1) = sumAll A r + sumRow A[r] A[r].length:=by rw [← e]; rfl
  rw [e0,Int.add_zero] at q
  rw [e1] at ih
  generalize sumAll A A.length = T at ih ⊢
  generalize sumAll A r = S at ih q ⊢
  generalize sumRow A[r] A[r].length = R at ih q
  rw [loopA_succ]
  simp at q ih
  simp [hr,hw,q,ih]
theorem kSum (n:Nat) (A:List (List Hrs)) (hAl:A.length≤100) (hA:∀ l ∈ A,l.length≤100∧∀ x ∈ l,0≤x.good∧x.good≤100):callK Tryz.prog kn (execA Tryz.prog ann kn (n+500)) 49 [.list false (A.map encHs)] = some (i (sumAll A A.length)):=by
 rw [callK_of rfl,call0_eq Tryz.func49 b49 rfl (by simp [encHs,encH])]
 have q:=lSum3 A hAl hA A.length 0 (by omega)
 have q:=fun n k=>q n (k + 150) (by omega)
 have e0:sumAll A 0 = 0:=rfl
 rw [e0] at q
 generalize sumAll A A.length = T at q ⊢
 simp at q
 simp [c49,argFr,q]
theorem appTs {k:Nat} {x:List Int} (h:k≤10000):appOK Tryz.prog 22 k [encL x] = true:=by
 rw [appOK_iff (by simp [encL]) (by simp)]
 simp [maxLen,encL]; omega
theorem lTruths3 (b:Beach) (hb:Valid b):∀ (d j c γ:Nat) (out:List (List Int)),j + d = manyN b.winds→out.length≤j→∃ fr c' γ',getF fr 3 = some (true,pv 21 γ' ((out ++ ((List.range' j d).map (nthGo b.winds)).filter (isTruthB b)).map encL))∧∀ n k,d < k→loopA (execA Tryz.prog ann kn (n+1000) 23) lb47_3 (ann 23 (fstR lb47_3)) k ⟨c,[(1,true,.ptr 0 1 0 0),(3,true,pv 21 γ (out.map encL)),(4,true,i j)],⟨[],(1,0,.box (cellsB b)) :: pl 21 γ 22 (out.map encL)⟩⟩ =
  some (.exit 0,⟨c',fr,⟨[],(1,0,.box (cellsB b)) :: pl 21 γ' 22 ((out ++ ((List.range' j d).map (nthGo b.winds)).filter (isTruthB b)).map encL)⟩⟩)
 | 0,j,c,γ,out,hd,ho=>by
  have:j = manyN b.winds:=by omega
  subst this
  have qm:=fun n=>kMany n b hb
  refine ⟨?fr,c,γ,?g1,fun n k hk=>?g2⟩
  case g2 =>
   obtain ⟨k,rfl⟩:∃ k',k = k' + 1:=⟨k - 1,by omega⟩
   rw [loopA_succ]
   simp only [cellsB] at qm ⊢
   simp [encI,encL,encP,qm]
   rfl
  case g1=>simp
 | d + 1,j,c,γ,out,hd,ho=>by
  have hm:=hb.many
  have hj:j < manyN b.winds:=by omega
  have hw:=wrapS (k:=j) (by omega)
  have qm:=fun n=>kMany n b hb
  have qn:=fun n=>kNth n b hb j (by omega)
  have qt:=fun n=>kTruthR n b hb (nthGo b.winds j)
  have hln:(nthGo b.winds j).length = b.winds.length:=listed_len (nth_listed hb.ne j)
  have hne:nthGo b.winds j ≠ []:=fun e=>by
   have hla:=hb.la
   have hwi:=hb.wi
   rw [e] at hln
   simp at hln
   omega
  rw [slX hne] at qn
  have er:(List.range' j (d + 1)).map (nthGo b.winds) = nthGo b.winds j :: (List.range' (j + 1) d).map (nthGo b.winds):=by rw [List.range'_succ,List.map_cons]
  rw [er,List.filter_cons]
  cases ht:isTruthB b (nthGo b.winds j) with
  | false =>
   rw [ht] at qt
   rw [if_neg (by decide)]
   obtain ⟨fr,c',γ',e1,ih⟩:=lTruths3 b hb d (j + 1) c γ out (by omega) (by omega)
   refine ⟨fr,c',γ',e1,fun n k hk=>?_⟩
   obtain ⟨k,rfl⟩:∃ k',k = k' + 1:=⟨k - 1,by omega⟩
   have ih:=ih n k (by omega)
   generalize ((List.range' (j + 1) d).map (nthGo b.winds)).filter (isTruthB b) = F at ih ⊢
   generalize nthGo b.winds j = T at qn qt
   rw [loopA_succ]
   simp only [cellsB] at qm qn qt ih ⊢
   simp at ih
   simp [hj,hw,encI,encL,encP,qm,qn,qt,ih]
  | true =>
   rw [ht] at qt
   rw [if_pos rfl]
   obtain ⟨fr,c',γ',e1,ih⟩:=lTruths3 b hb d (j + 1) (c + 1) c (out ++ [nthGo b.winds j]) (by omega) (by simp; omega)
   rw [List.append_assoc,List.singleton_append] at e1 ih
   have happ:=appTs (k:=out.length) (x:=nthGo b.winds j) (by omega)
   refine ⟨fr,c',γ',e1,fun n k hk=>?_⟩
   obtain ⟨k,rfl⟩:∃ k',k = k' + 1:=⟨k - 1,by omega⟩
   have ih:=ih n k (by omega)
   generalize nthGo b.winds j :: ((List.range' (j + 1) d).map (nthGo b.winds)).filter (isTruthB b) = F at ih ⊢
   generalize nthGo b.winds j = T at qn qt ih happ
   rw [loopA_succ]
   simp only [cellsB] at qm qn qt ih ⊢
   simp [encL] at ih happ
   simp [hj,hw,encI,encL,encP,qm,qn,qt,happ,ih]
theorem kTruthsRR (n:Nat) (b:Beach) (hb:Valid b):callK Tryz.prog kn (execA Tryz.prog ann kn (n+2200)) 47 [.agg (cellsB b)] = some (sl ((truthsR b).map encL)):=by
 rw [callK_of rfl,call0_eq Tryz.func47 b47 rfl (by simp [cellsB,encI,encL,encP])]
 have hm:=hb.many
 obtain ⟨fr,c',γ',e1,q⟩:=lTruths3 b hb (manyN b.winds) 0 1 0 [] (by omega) (by simp)
 have q:=fun n k=>q n (k + 1100) (by omega)
 rw [List.nil_append,← List.range_eq_range'] at e1 q
 change getF fr 3 = some (true,pv 21 γ' ((truthsR b).map encL)) at e1
 change ∀ n k,_ = some (Exit.exit 0,(⟨c',fr,⟨[],(1,0,.box (cellsB b)) :: pl 21 γ' 22 ((truthsR b).map encL)⟩⟩:XS)) at q
 generalize truthsR b = T at *
 simp only [cellsB] at q ⊢
 simp at q
 simp [c47,argFr,q,e1,encL,encI]
def sureV (b:Beach):List (List Int) × Int:=if faultB b = 0 then (truthsR b,if truthsR b = [] then 11 else 0) else ([],faultB b)
end Go.Proofs.Tryz.Op
/- Contracts of the reference: Total, Calm. No condition but a valid beach. -/
open Go Go.Pg Go.Proofs Go.Wind
namespace Go.Proofs.Tryz.Op
set_option maxRecDepth 100000
set_option linter.unusedSimpArgs false
section
variable {b:Beach} {plan:List (List Int)}
theorem getD_range {α:Type} (f:Nat→α) (N n:Nat) (z:α) (h:n < N):((List.range N).map f).getD n z = f n:=by
 simp [List.getD_eq_getElem?_getD,h]
theorem sumRow_row (b:Beach) (plan:List (List Int)) (t:List Int) (r:Nat):∀ n,n≤b.places.toNat→sumRow (rowP b plan t r) n = sumU (fun p=>(hoursP b plan t r p).good) n
 | 0,_=>rfl
 | n + 1,h=>by
  simp only [sumRow,sumU,sumRow_row b plan t r n (by omega)]
  congr 1
  rw [rowP,getD_range _ _ _ _ (by omega)]
theorem sumAll_play (b:Beach) (plan:List (List Int)) (t:List Int) (R:Nat):∀ n,n≤R→sumAll (playP b plan t R) n = sumU (fun r=>sumU (fun p=>(hoursP b plan t r p).good) b.places.toNat) n
 | 0,_=>rfl
 | n + 1,h=>by
  simp only [sumAll,sumU,sumAll_play b plan t R n (by omega)]
  congr 1
  rw [playP,getD_range _ _ _ _ (by omega)]
  have:(rowP b plan t n).length = b.places.toNat:=by simp [rowP]
  rw [this]
  exact sumRow_row b plan t n _ (Nat.le_refl _)
theorem sum_tot (b:Beach) (plan:List (List Int)) (t:List Int):sumAll (playP b plan t b.rows.toNat) (playP b plan t b.rows.toNat).length = totT b plan t:=by
 have:(playP b plan t b.rows.toNat).length = b.rows.toNat:=by simp [playP]
 rw [this]
 exact sumAll_play b plan t _ _ (Nat.le_refl _)
theorem play_small (hb:Valid b) (plan:List (List Int)) {t:List Int} (ht:listedGo t b.winds = true):(playP b plan t b.rows.toNat).length≤100∧∀ l ∈ playP b plan t b.rows.toNat,l.length≤100∧∀ x ∈ l,0≤x.good∧x.good≤100:=by
 have hro:=hb.ro
 have hpl:=hb.pl
 have h5:=hb.hl
 have hlt:=listed_len ht
 refine ⟨by simp [playP]; omega,fun l hl=>?_⟩
 simp only [playP,List.mem_map] at hl
 obtain ⟨r,_,rfl⟩:=hl
 refine ⟨by simp [rowP]; omega,fun x hx=>?_⟩
 simp only [rowP,List.mem_map] at hx
 obtain ⟨q,_,rfl⟩:=hx
 have:=hoursP_le b plan t r q
 omega
end
end Go.Proofs.Tryz.Op
