/- Contracts of the reference: Empty, Wider, Sum, Truths; of the law: sure, to. No condition but a valid beach. -/
import Derived.Test.YtkemmiljbaneoaaGreatX1
import Derived.Test.YtkemmiljbaneoaaGreatV1
import Derived.Test.YtkemmiljbaneoaaGreatFz
open Go Go.Pg Go.Proofs Go.Wind
namespace Go.Proofs.Tryz.Op
set_option maxRecDepth 100000
set_option linter.unusedSimpArgs false
@[simp] theorem sr_empty:sliceR Tryz.prog 84 = false:=by kernel_rfl
@[simp] theorem sr_widerR:sliceR Tryz.prog 85 = false:=by kernel_rfl
theorem kEmpty (n:Nat):callK Tryz.prog kn (execA Tryz.prog ann kn (n+50)) 84 [] = some (.agg (encR emptyR)):=by
 rw [callK_of rfl,call0_eq Tryz.func84 b84 rfl (by simp)]
 simp [c84,argFr,encR,emptyR]
theorem kWiderR (n:Nat) (r:Int × Int) (x:Int):callK Tryz.prog kn (execA Tryz.prog ann kn (n+50)) 85 [.agg (encR r),i x] = some (.agg (encR (min r.1 x,max r.2 x))):=by
 rw [callK_of rfl,call0_eq Tryz.func85 b85 rfl (by simp [encR])]
 simp [c85,argFr,encR,min_lt,max_lt]
theorem kTo (n:Nat) (r:Int × Int):callK Tryz.prog kn (execA Tryz.prog ann kn (n+50)) 26 [.agg (encR r)] = some (.agg (encR r)):=by
 rw [callK_of rfl,call0_eq Tryz.func26 b26 rfl (by simp [encR])]
 simp [c26,argFr,encR]
def sumRow (l:List Hrs):Nat→Int
 | 0=>0
 | n + 1=>sumRow l n + (l.getD n ⟨0,0,0⟩).good
def sumAll (A:List (List Hrs)):Nat→Int
 | 0=>0
 | n + 1=>sumAll A n + sumRow (A.getD n []) (A.getD n []).length
theorem sumRow_le {l:List Hrs} (hl:∀ x ∈ l,0≤x.good∧x.good≤100):∀ n,n≤l.length→0≤sumRow l n∧sumRow l n≤n * 100
 | 0,_=>by simp [sumRow]
 | n + 1,hn=>by
  have h1:=sumRow_le hl n (by omega)
  have e:l.getD n ⟨0,0,0⟩ = l[n]'(by omega):=by rw [List.getD_eq_getElem?_getD,List.getElem?_eq_getElem (by omega)]; rfl
  have h2:=hl _ (List.getElem_mem (by omega:n < l.length))
  simp only [sumRow,e]
  omega
theorem sumAll_le {A:List (List Hrs)} (hA:∀ l ∈ A,l.length≤100∧∀ x ∈ l,0≤x.good∧x.good≤100):∀ n,n≤A.length→0≤sumAll A n∧sumAll A n≤n * 10000
 | 0,_=>by simp [sumAll]
 | n + 1,hn=>by
  have h1:=sumAll_le hA n (by omega)
  have e:A.getD n [] = A[n]'(by omega):=by rw [List.getD_eq_getElem?_getD,List.getElem?_eq_getElem (by omega)]; rfl
  obtain ⟨h2,h3⟩:=hA _ (List.getElem_mem (by omega:n < A.length))
  have h4:=sumRow_le h3 _ (Nat.le_refl _)
  simp only [sumAll,e]
  omega
theorem lSum6 (A:List (List Hrs)) (r:Nat) (hr:r < A.length) (hl:A[r].length≤100) (hx:∀ x ∈ A[r],0≤x.good∧x.good≤100) (m:Int) (hm:0≤m∧m≤10000000):∀ (d q:Nat),q + d = A[r].length→∀ n k,d < k→loopA (execA Tryz.prog ann kn (n+100) 32) lb49_6 (ann 32 (fstR lb49_6)) k ⟨0,[(0,true,.list false (A.map encHs)),(3,true,i (m + sumRow A[r] q)),(4,true,i r),(5,true,i q)],⟨[],[]⟩⟩ =
  some (.exit 2,⟨0,[(18,true,.bool false),(17,true,i A[r].length),(16,true,.list false (A[r].map encH)),(15,true,.ref [.list false (A[r].map encH)]),(14,true,i r),(13,true,.list false (A.map encHs)),(12,true,i A[r].length),(0,true,.list false (A.map encHs)),(3,true,i (m + sumRow A[r] A[r].length)),(4,true,i r),(5,true,i A[r].length)],⟨[],[]⟩⟩)
 | 0,q,hd,n,k + 1,hk=>by
  have:q = A[r].length:=by omega
  subst this
  rw [loopA_succ]
  simp [hr,encHs]
 | d + 1,q,hd,n,k + 1,hk=>by
  have hq:q < A[r].length:=by omega
  have hw:=wrapS (k:=q) (by omega)
  have ih:=lSum6 A r hr hl hx m hm d (q + 1) (by omega) n k (by omega)
  have h1:=sumRow_le hx q (by omega)
  have h2:=hx _ (List.getElem_mem hq)
  have e:A[r].getD q ⟨0,0,0⟩ = A[r][q]:=by rw [List.getD_eq_getElem?_getD,List.getElem?_eq_getElem hq]; rfl
  have e1:sumRow A[r] (q + 1) = sumRow A[r] q + A[r][q].good:=by rw [← e]; rfl
  rw [e1,← Int.add_assoc] at ih
  have hwg:IntKind.i64.wrap (m + sumRow A[r] q + A[r][q].good) = m + sumRow A[r] q + A[r][q].good:=wrap_i64 (by omega) (by omega)
  generalize sumRow A[r] A[r].length = T at ih ⊢
  generalize sumRow A[r] q = S at ih hwg ⊢
  rw [loopA_succ]
  simp at ih
  simp [hr,hq,hw,hwg,encHs,encH,ih]
theorem lSum3 (A:List (List Hrs)) (hAl:A.length≤100) (hA:∀ l ∈ A,l.length≤100∧∀ x ∈ l,0≤x.good∧x.good≤100):∀ (d r:Nat),r + d = A.length→∀ n k,d < k→loopA (execA Tryz.prog ann kn (n+300) 32) lb49_3 (ann 32 (fstR lb49_3)) k ⟨0,[(0,true,.list false (A.map encHs)),(3,true,i (sumAll A r)),(4,true,i r)],⟨[],[]⟩⟩ =
  some (.exit 0,⟨0,[(9,true,.bool false),(8,true,i A.length),(7,true,.list false (A.map encHs)),(6,true,i A.length),(0,true,.list false (A.map encHs)),(3,true,i (sumAll A A.length)),(4,true,i A.length)],⟨[],[]⟩⟩)
 | 0,r,hd,n,k + 1,hk=>by
  have:r = A.length:=by omega
  subst this
  rw [loopA_succ]
  simp
 | d + 1,r,hd,n,k + 1,hk=>by
  have hr:r < A.length:=by omega
  have hw:=wrapS (k:=r) (by omega)
  have ih:=lSum3 A hAl hA d (r + 1) (by omega) n k (by omega)
  have e:A.getD r [] = A[r]:=by rw [List.getD_eq_getElem?_getD,List.getElem?_eq_getElem hr]; rfl
  obtain ⟨h2,h3⟩:=hA _ (List.getElem_mem hr)
  have h1:=sumAll_le hA r (by omega)
  have q:=lSum6 A r hr h2 h3 (sumAll A r) (by omega) A[r].length 0 (by omega)
  have q:=fun n k=>q n (k + 150) (by omega)
  have e0:sumRow A[r] 0 = 0:=rfl
  have e1:sumAll A (r + 1) = sumAll A r + sumRow A[r] A[r].length:=by rw [← e]; rfl
  rw [e0,Int.add_zero] at q
  rw [e1] at ih
  generalize sumAll A A.length = T at ih ⊢
  generalize sumAll A r = S at ih q ⊢
  generalize sumRow A[r] A[r].length = R at ih q
  rw [loopA_succ]
  simp at q ih
  simp [hr,hw,q,ih]
theorem kSum (n:Nat) (A:List (List Hrs)) (hAl:A.length≤100) (hA:∀ l ∈ A,l.length≤100∧∀ x ∈ l,0≤x.good∧x.good≤100):callK Tryz.prog kn (execA Tryz.prog ann kn (n+500)) 49 [.list false (A.map encHs)] = some (i (sumAll A A.length)):=by
 rw [callK_of rfl,call0_eq Tryz.func49 b49 rfl (by simp [encHs,encH])]
 have q:=lSum3 A hAl hA A.length 0 (by omega)
 have q:=fun n k=>q n (k + 150) (by omega)
 have e0:sumAll A 0 = 0:=rfl
 rw [e0] at q
 generalize sumAll A A.length = T at q ⊢
 simp at q
 simp [c49,argFr,q]
theorem appTs {k:Nat} {x:List Int} (h:k≤10000):appOK Tryz.prog 22 k [encL x] = true:=by
 rw [appOK_iff (by simp [encL]) (by simp)]
 simp [maxLen,encL]; omega
theorem lTruths3 (b:Beach) (hb:Valid b):∀ (d j c γ:Nat) (out:List (List Int)),j + d = manyN b.winds→out.length≤j→∃ fr c' γ',getF fr 3 = some (true,pv 21 γ' ((out ++ ((List.range' j d).map (nthGo b.winds)).filter (isTruthB b)).map encL))∧∀ n k,d < k→loopA (execA Tryz.prog ann kn (n+1000) 23) lb47_3 (ann 23 (fstR lb47_3)) k ⟨c,[(1,true,.ptr 0 1 0 0),(3,true,pv 21 γ (out.map encL)),(4,true,i j)],⟨[],(1,0,.box (cellsB b)) :: pl 21 γ 22 (out.map encL)⟩⟩ =
  some (.exit 0,⟨c',fr,⟨[],(1,0,.box (cellsB b)) :: pl 21 γ' 22 ((out ++ ((List.range' j d).map (nthGo b.winds)).filter (isTruthB b)).map encL)⟩⟩)
 | 0,j,c,γ,out,hd,ho=>by
  have:j = manyN b.winds:=by omega
  subst this
  have qm:=fun n=>kMany n b hb
  refine ⟨?fr,c,γ,?g1,fun n k hk=>?g2⟩
  case g2 =>
   obtain ⟨k,rfl⟩:∃ k',k = k' + 1:=⟨k - 1,by omega⟩
   rw [loopA_succ]
   simp only [cellsB] at qm ⊢
   simp [encI,encL,encP,qm]
   rfl
  case g1=>simp
 | d + 1,j,c,γ,out,hd,ho=>by
  have hm:=hb.many
  have hj:j < manyN b.winds:=by omega
  have hw:=wrapS (k:=j) (by omega)
  have qm:=fun n=>kMany n b hb
  have qn:=fun n=>kNth n b hb j (by omega)
  have qt:=fun n=>kTruthR n b hb (nthGo b.winds j)
  have hln:(nthGo b.winds j).length = b.winds.length:=listed_len (nth_listed hb.ne j)
  have hne:nthGo b.winds j ≠ []:=fun e=>by
   have hla:=hb.la
   have hwi:=hb.wi
   rw [e] at hln
   simp at hln
   omega
  rw [slX hne] at qn
  have er:(List.range' j (d + 1)).map (nthGo b.winds) = nthGo b.winds j :: (List.range' (j + 1) d).map (nthGo b.winds):=by rw [List.range'_succ,List.map_cons]
  rw [er,List.filter_cons]
  cases ht:isTruthB b (nthGo b.winds j) with
  | false =>
   rw [ht] at qt
   rw [if_neg (by decide)]
   obtain ⟨fr,c',γ',e1,ih⟩:=lTruths3 b hb d (j + 1) c γ out (by omega) (by omega)
   refine ⟨fr,c',γ',e1,fun n k hk=>?_⟩
   obtain ⟨k,rfl⟩:∃ k',k = k' + 1:=⟨k - 1,by omega⟩
   have ih:=ih n k (by omega)
   generalize ((List.range' (j + 1) d).map (nthGo b.winds)).filter (isTruthB b) = F at ih ⊢
   generalize nthGo b.winds j = T at qn qt
   rw [loopA_succ]
   simp only [cellsB] at qm qn qt ih ⊢
   simp at ih
   simp [hj,hw,encI,encL,encP,qm,qn,qt,ih]
  | true =>
   rw [ht] at qt
   rw [if_pos rfl]
   obtain ⟨fr,c',γ',e1,ih⟩:=lTruths3 b hb d (j + 1) (c + 1) c (out ++ [nthGo b.winds j]) (by omega) (by simp; omega)
   rw [List.append_assoc,List.singleton_append] at e1 ih
   have happ:=appTs (k:=out.length) (x:=nthGo b.winds j) (by omega)
   refine ⟨fr,c',γ',e1,fun n k hk=>?_⟩
   obtain ⟨k,rfl⟩:∃ k',k = k' + 1:=⟨k - 1,by omega⟩
   have ih:=ih n k (by omega)
   generalize nthGo b.winds j :: ((List.range' (j + 1) d).map (nthGo b.winds)).filter (isTruthB b) = F at ih ⊢
   generalize nthGo b.winds j = T at qn qt ih happ
   rw [loopA_succ]
   simp only [cellsB] at qm qn qt ih ⊢
   simp [encL] at ih happ
   simp [hj,hw,encI,encL,encP,qm,qn,qt,happ,ih]
theorem kTruthsRR (n:Nat) (b:Beach) (hb:Valid b):callK Tryz.prog kn (execA Tryz.prog ann kn (n+2200)) 47 [.agg (cellsB b)] = some (sl ((truthsR b).map encL)):=by
 rw [callK_of rfl,call0_eq Tryz.func47 b47 rfl (by simp [cellsB,encI,encL,encP])]
 have hm:=hb.many
 obtain ⟨fr,c',γ',e1,q⟩:=lTruths3 b hb (manyN b.winds) 0 1 0 [] (by omega) (by simp)
 have q:=fun n k=>q n (k + 1100) (by omega)
 rw [List.nil_append,← List.range_eq_range'] at e1 q
 change getF fr 3 = some (true,pv 21 γ' ((truthsR b).map encL)) at e1
 change ∀ n k,_ = some (Exit.exit 0,(⟨c',fr,⟨[],(1,0,.box (cellsB b)) :: pl 21 γ' 22 ((truthsR b).map encL)⟩⟩:XS)) at q
 generalize truthsR b = T at *
 simp only [cellsB] at q ⊢
 simp at q
 simp [c47,argFr,q,e1,encL,encI]
def sureV (b:Beach):List (List Int) × Int:=if faultB b = 0 then (truthsR b,if truthsR b = [] then 11 else 0) else ([],faultB b)
theorem kSure (n:Nat) (b:Beach) (h100:∀ l ∈ b.winds,l.length≤100):callK Tryz.prog kn (execA Tryz.prog ann kn (n+2500)) 20 [.agg (cellsB b)] = some (.tup [sl ((sureV b).1.map encL),i (sureV b).2]):=by
 rw [callK_of rfl,call0_eq Tryz.func20 b20 rfl (by simp [cellsB,encI,encL,encP])]
 have qf:=fun n=>kfault n b h100
 have slnil:sl ([]:List (List V)) = .nil:=rfl
 unfold sureV
 by_cases h:faultB b = 0
 ·have hb:=valid_of h
  have qt:=fun n=>kTruthsRR n b hb
  rw [h] at qf
  rw [if_pos h]
  by_cases hT:truthsR b = []
  ·rw [hT] at qt
   rw [if_pos hT,hT]
   simp only [cellsB,List.map_nil,slnil] at qf qt ⊢
   simp [c20,argFr,encI,encL,encP,qf,qt]
  ·rw [slX hT] at qt
   rw [if_neg hT,slX hT]
   have hl:0 < (truthsR b).length:=List.length_pos_iff.2 hT
   generalize truthsR b = T at *
   have hd:decide ((T.length:Int) = 0) = false:=decide_eq_false (by omega)
   simp only [cellsB] at qf qt ⊢
   simp [c20,argFr,encI,encL,encP,qf,qt,hd,hT]
 ·rw [if_neg h]
  simp only [cellsB,List.map_nil,slnil] at qf ⊢
  simp [c20,argFr,encI,encL,encP,qf,h]
end Go.Proofs.Tryz.Op
/- Contracts of the reference: Total, Calm. No condition but a valid beach. -/
open Go Go.Pg Go.Proofs Go.Wind
namespace Go.Proofs.Tryz.Op
set_option maxRecDepth 100000
set_option linter.unusedSimpArgs false
section
variable {b:Beach} {plan:List (List Int)}
theorem getD_range {α:Type} (f:Nat→α) (N n:Nat) (z:α) (h:n < N):((List.range N).map f).getD n z = f n:=by
 simp [List.getD_eq_getElem?_getD,h]
theorem sumRow_row (b:Beach) (plan:List (List Int)) (t:List Int) (r:Nat):∀ n,n≤b.places.toNat→sumRow (rowP b plan t r) n = sumU (fun p=>(hoursP b plan t r p).good) n
 | 0,_=>rfl
 | n + 1,h=>by
  simp only [sumRow,sumU,sumRow_row b plan t r n (by omega)]
  congr 1
  rw [rowP,getD_range _ _ _ _ (by omega)]
theorem sumAll_play (b:Beach) (plan:List (List Int)) (t:List Int) (R:Nat):∀ n,n≤R→sumAll (playP b plan t R) n = sumU (fun r=>sumU (fun p=>(hoursP b plan t r p).good) b.places.toNat) n
 | 0,_=>rfl
 | n + 1,h=>by
  simp only [sumAll,sumU,sumAll_play b plan t R n (by omega)]
  congr 1
  rw [playP,getD_range _ _ _ _ (by omega)]
  have:(rowP b plan t n).length = b.places.toNat:=by simp [rowP]
  rw [this]
  exact sumRow_row b plan t n _ (Nat.le_refl _)
theorem sum_tot (b:Beach) (plan:List (List Int)) (t:List Int):sumAll (playP b plan t b.rows.toNat) (playP b plan t b.rows.toNat).length = totT b plan t:=by
 have:(playP b plan t b.rows.toNat).length = b.rows.toNat:=by simp [playP]
 rw [this]
 exact sumAll_play b plan t _ _ (Nat.le_refl _)
theorem play_small (hb:Valid b) (plan:List (List Int)) {t:List Int} (ht:listedGo t b.winds = true):(playP b plan t b.rows.toNat).length≤100∧∀ l ∈ playP b plan t b.rows.toNat,l.length≤100∧∀ x ∈ l,0≤x.good∧x.good≤100:=by
 have hro:=hb.ro
 have hpl:=hb.pl
 have h5:=hb.hl
 have hlt:=listed_len ht
 refine ⟨by simp [playP]; omega,fun l hl=>?_⟩
 simp only [playP,List.mem_map] at hl
 obtain ⟨r,_,rfl⟩:=hl
 refine ⟨by simp [rowP]; omega,fun x hx=>?_⟩
 simp only [rowP,List.mem_map] at hx
 obtain ⟨q,_,rfl⟩:=hx
 have:=hoursP_le b plan t r q
 omega
theorem lTotR3 (hb:Valid b) (hp:PlanOf b plan) (T:List (List Int)) (hT:∀ t ∈ T,listedGo t b.winds = true) (hTl:T.length≤5000):∀ (d j c:Nat),j + d = T.length→3≤c→∃ c',3≤c'∧∀ n k,d < k→loopA (execA Tryz.prog ann kn (n+1800) 27) lb33_3 (ann 27 (fstR lb33_3)) k ⟨c,[(1,true,.list false (T.map encL)),(2,true,lli plan),(3,true,.ptr 0 3 0 0),(6,true,.ptr 0 6 1 0),(7,true,.ptr 0 7 3 0),(8,true,i j)],⟨[],[(3,0,.box (cellsB b)),(6,1,.box [i 0,i 0]),(7,3,.box (encR (rngF emptyR ((T.take j).map (totT b plan)))))]⟩⟩ =
  some (.exit 0,⟨c',[(13,true,.bool false),(12,true,i T.length),(11,true,.list false (T.map encL)),(10,true,i T.length),(1,true,.list false (T.map encL)),(2,true,lli plan),(3,true,.ptr 0 3 0 0),(6,true,.ptr 0 6 1 0),(7,true,.ptr 0 7 3 0),(8,true,i T.length)],⟨[],[(3,0,.box (cellsB b)),(6,1,.box [i 0,i 0]),(7,3,.box (encR (rngF emptyR (T.map (totT b plan)))))]⟩⟩)
 | 0,j,c,hd,hc=>by
  have:j = T.length:=by omega
  subst this
  refine ⟨c,hc,fun n k hk=>?_⟩
  obtain ⟨k,rfl⟩:∃ k',k = k' + 1:=⟨k - 1,by omega⟩
  rw [loopA_succ,List.take_length]
  simp [encR]
 | d + 1,j,c,hd,hc=>by
  have hj:j < T.length:=by omega
  have hw:=wrapS (k:=j) (by omega)
  obtain ⟨c',hc',ih⟩:=lTotR3 hb hp T hT hTl d (j + 1) (c + 1) (by omega) (by omega)
  refine ⟨c',hc',fun n k hk=>?_⟩
  obtain ⟨k,rfl⟩:∃ k',k = k' + 1:=⟨k - 1,by omega⟩
  have ih:=ih n k (by omega)
  have htj:=hT _ (List.getElem_mem hj)
  have hro:=hb.ro
  have qp:=fun n=>kRefPlay n b hb plan hp T[j] htj
  rw [refP_eq hb hp htj] at qp
  obtain ⟨s1,s2⟩:=play_small hb plan htj
  have hne:playP b plan T[j] b.rows.toNat ≠ []:=fun e=>by
   have:=congrArg List.length e
   simp [playP] at this
   omega
  rw [slX hne] at qp
  have qs:=fun n=>kSum n _ s1 s2
  rw [sum_tot] at qs
  have e2:rngF emptyR ((T.take (j + 1)).map (totT b plan)) = (min (rngF emptyR ((T.take j).map (totT b plan))).1 (totT b plan T[j]),max (rngF emptyR ((T.take j).map (totT b plan))).2 (totT b plan T[j])):=by
   rw [List.take_succ_eq_append_getElem hj,List.map_append,List.map_cons,List.map_nil]
   unfold rngF
   rw [List.foldl_append]
   rfl
  rw [e2] at ih
  have qw:=fun n=>kWiderR n (rngF emptyR ((T.take j).map (totT b plan))) (totT b plan T[j])
  have htl:li T[j] = .list false (T[j].map encI):=rfl
  rw [htl] at qp
  generalize rngF emptyR (T.map (totT b plan)) = RR at ih ⊢
  generalize rngF emptyR ((T.take j).map (totT b plan)) = R at ih qw ⊢
  generalize totT b plan T[j] = y at qs ih qw
  generalize hP:playP b plan T[j] b.rows.toNat = A at qs qp
  have hc1:3 < c + 1:=by omega
  rw [loopA_succ]
  simp only [cellsB,encR] at qp qs ih qw ⊢
  simp at ih
  simp [hj,hw,encI,encL,encP,qp,qs,qw,hc1,put_eqX,ih]
theorem kTotalR (n:Nat) (hb:Valid b) (hp:PlanOf b plan) (T:List (List Int)) (hT:∀ t ∈ T,listedGo t b.winds = true) (hTl:T.length≤1100):callK Tryz.prog kn (execA Tryz.prog ann kn (n+3300)) 33 [.agg (cellsB b),.list false (T.map encL),lli plan] = some (.agg (encR (rngF emptyR (T.map (totT b plan))))):=by
 rw [callK_of rfl,call0_eq Tryz.func33 b33 rfl (by simp [cellsB,encI,encL,encP])]
 obtain ⟨c',hc',q⟩:=lTotR3 hb hp T hT (by omega) T.length 0 4 (by omega) (by omega)
 have q:=fun n k=>q n (k + 1200) (by omega)
 have qe:=fun n=>kEmpty n
 rw [List.take_zero,List.map_nil] at q
 have e0:rngF emptyR [] = emptyR:=rfl
 rw [e0] at q
 generalize rngF emptyR (T.map (totT b plan)) = R at q ⊢
 simp only [cellsB,encR] at q qe ⊢
 simp at q
 simp [c33,argFr,encI,encL,encP,q,qe,put_eqX,show 1 < c' by omega]
theorem lCalR3 (hb:Valid b) (hp:PlanOf b plan) (s:Nat × Nat) (hs1:(s.1:Int) < b.rows) (hs2:(s.2:Int) < b.places) (h:Nat) (hh:h < plan.length) (T:List (List Int)) (hT:∀ t ∈ T,listedGo t b.winds = true) (hTl:T.length≤5000):∀ (d j c:Nat),j + d = T.length→∀ n k,d < k→loopA (execA Tryz.prog ann kn (n+800) 45) lb32_3 (ann 45 (fstR lb32_3)) k ⟨c,[(1,true,.list false (T.map encL)),(2,true,lli plan),(4,true,i h),(5,true,.ptr 0 5 0 0),(8,true,.ptr 0 8 1 0),(11,true,i (((T.take j).countP fun t=>calmP b (s.1,s.2) (planAt plan h s.1) (t.getD h 0):Nat):Int)),(12,true,i j)],⟨[],[(5,0,.box (cellsB b)),(8,1,.box [i s.1,i s.2])]⟩⟩ =
  some (.exit 0,⟨c,[(16,true,.bool false),(15,true,i T.length),(14,true,.list false (T.map encL)),(13,true,i T.length),(1,true,.list false (T.map encL)),(2,true,lli plan),(4,true,i h),(5,true,.ptr 0 5 0 0),(8,true,.ptr 0 8 1 0),(11,true,i ((T.countP fun t=>calmP b (s.1,s.2) (planAt plan h s.1) (t.getD h 0):Nat):Int)),(12,true,i T.length)],⟨[],[(5,0,.box (cellsB b)),(8,1,.box [i s.1,i s.2])]⟩⟩)
 | 0,j,c,hd,n,k + 1,hk=>by
  have:j = T.length:=by omega
  subst this
  rw [loopA_succ,List.take_length]
  simp
 | d + 1,j,c,hd,n,k + 1,hk=>by
  have hj:j < T.length:=by omega
  have hw:=wrapS (k:=j) (by omega)
  have ih:=lCalR3 hb hp s hs1 hs2 h hh T hT hTl d (j + 1) c (by omega) n k (by omega)
  have htj:=hT _ (List.getElem_mem hj)
  have hlt:=listed_len htj
  have hla:=hb.la
  have hro:=hb.ro
  have hpl:=hb.pl
  have hwi:=hb.wi
  have hlen:=hp.len
  have hht:h < T[j].length:=by omega
  have hdir:=listed_dir hb htj hht
  have htd:T[j].getD h 0 = T[j][h]:=by rw [List.getD_eq_getElem?_getD,List.getElem?_eq_getElem hht]; rfl
  rw [htd] at hdir
  obtain ⟨r1,r2,r3⟩:=row_inX hb hp hh
  have hsr:s.1 < plan[h].length:=by omega
  have hpa:planAt plan h s.1 = plan[h][s.1]:=by
   unfold planAt
   rw [show plan.getD h [] = plan[h] by rw [List.getD_eq_getElem?_getD,List.getElem?_eq_getElem hh]; rfl,List.getD_eq_getElem?_getD,List.getElem?_eq_getElem hsr]
   rfl
  have hpd:=hp.dir h s.1 hh (by rw [show plan.getD h [] = plan[h] by rw [List.getD_eq_getElem?_getD,List.getElem?_eq_getElem hh]; rfl]; exact hsr)
  have q:=fun n=>kShelt n b hb (s.1,s.2) (by simp only; omega) (planAt plan h s.1) T[j][h] (inI_iff.1 hpd) (inI_iff.1 hdir)
  rw [sh_eq hpd hdir,hpa] at q
  have ec:((T.take (j + 1)).countP fun t=>calmP b (s.1,s.2) (planAt plan h s.1) (t.getD h 0)) = ((T.take j).countP fun t=>calmP b (s.1,s.2) (planAt plan h s.1) (t.getD h 0)) + (if calmP b (s.1,s.2) plan[h][s.1] T[j][h] = true then 1 else 0):=by
   rw [List.take_succ_eq_append_getElem hj,List.countP_append,List.countP_cons,List.countP_nil,htd,hpa]
   simp
  rw [ec] at ih
  have hcp:=List.countP_le_length (p:=fun t:List Int=>calmP b (s.1,s.2) (planAt plan h s.1) (t.getD h 0)) (l:=T.take j)
  have hcl:(T.take j).length≤5000:=by rw [List.length_take]; omega
  generalize (T.countP fun t=>calmP b (s.1,s.2) (planAt plan h s.1) (t.getD h 0)) = TT at ih ⊢
  generalize ((T.take j).countP fun t=>calmP b (s.1,s.2) (planAt plan h s.1) (t.getD h 0)) = C at ih hcp ⊢
  have hwc:IntKind.i64.wrap ((C:Int) + 1) = ((C + 1:Nat):Int):=by rw [wrap_i64 (by omega) (by omega)]; omega
  cases hz:calmP b (s.1,s.2) plan[h][s.1] T[j][h] with
  | true =>
   rw [hz] at q ih
   rw [if_pos rfl] at ih
   rw [loopA_succ]
   simp only [cellsB,encP] at q ih ⊢
   simp at ih
   simp [hj,hw,hh,hht,hsr,encI,encL,encP,q,hwc,ih]
  | false =>
   rw [hz] at q ih
   rw [if_neg (by decide),Nat.add_zero] at ih
   rw [loopA_succ]
   simp only [cellsB,encP] at q ih ⊢
   simp at ih
   simp [hj,hw,hh,hht,hsr,encI,encL,encP,q,ih]
theorem kCalmR (n:Nat) (hb:Valid b) (hp:PlanOf b plan) (s:Nat × Nat) (hs1:(s.1:Int) < b.rows) (hs2:(s.2:Int) < b.places) (h:Nat) (hh:h < plan.length) (T:List (List Int)) (hT:∀ t ∈ T,listedGo t b.winds = true) (hTl:T.length≤1100) (hTn:T ≠ []):callK Tryz.prog kn (execA Tryz.prog ann kn (n+2300)) 32 [.agg (cellsB b),.list false (T.map encL),lli plan,.agg [i s.1,i s.2],i h] = some (i (verd T fun t=>calmP b (s.1,s.2) (planAt plan h s.1) (t.getD h 0))):=by
 rw [callK_of rfl,call0_eq Tryz.func32 b32 rfl (by simp [cellsB,encI,encL,encP])]
 have q:=lCalR3 hb hp s hs1 hs2 h hh T hT (by omega) T.length 0 2 (by omega)
 have q:=fun n k=>q n (k + 1200) (by omega)
 rw [List.take_zero,List.countP_nil] at q
 have hL:0 < T.length:=List.length_pos_iff.2 hTn
 unfold verd
 generalize (T.countP fun t=>calmP b (s.1,s.2) (planAt plan h s.1) (t.getD h 0)) = C at q ⊢
 simp only [cellsB] at q ⊢
 simp at q
 by_cases e1:C = T.length
 ·rw [if_pos e1]
  simp [c32,argFr,encI,encL,encP,q,e1]
 ·rw [if_neg e1]
  have e1':decide ((C:Int) = (T.length:Int)) = false:=decide_eq_false (by omega)
  by_cases e2:C = 0
  ·have e0':decide ((0:Int) = (T.length:Int)) = false:=decide_eq_false (by omega)
   rw [if_pos e2]
   simp [c32,argFr,encI,encL,encP,q,e0',e1,e1',e2]
  ·rw [if_neg e2]
   have e2':decide ((C:Int) = 0) = false:=decide_eq_false (by omega)
   simp [c32,argFr,encI,encL,encP,q,e1,e1',e2,e2']
end
end Go.Proofs.Tryz.Op
