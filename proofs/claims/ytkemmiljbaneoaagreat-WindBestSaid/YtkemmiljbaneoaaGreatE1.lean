/- Contracts of the reference: Quarters, Work. No condition but a valid beach. -/
import Derived.Test.YtkemmiljbaneoaaGreatX1
import Derived.Test.YtkemmiljbaneoaaGreatFz
import Derived.Test.YtkemmiljbaneoaaGreatV1
open Go Go.Pg Go.Proofs Go.Wind
namespace Go.Proofs.Tryz.Op
set_option maxRecDepth 100000
set_option linter.unusedSimpArgs false
theorem kQuarters (n:Nat) (x y:Int) (hx:0≤x∧x≤3) (hy:0≤y∧y≤3):callK Tryz.prog kn (execA Tryz.prog ann kn (n+50)) 83 [i x,i y] = some (i (quarI x y)):=by
 rw [callK_of rfl,call0_eq Tryz.func83 b83 rfl (by simp)]
 have w1:IntKind.i64.wrap (y - x) = y - x:=wrap_i64 (by omega) (by omega)
 have w2:IntKind.i64.wrap (y - x + 4) = y - x + 4:=wrap_i64 (by omega) (by omega)
 have w3:IntKind.i64.wrap (x - y) = x - y:=wrap_i64 (by omega) (by omega)
 have w4:IntKind.i64.wrap (x - y + 4) = x - y + 4:=wrap_i64 (by omega) (by omega)
 have m1:(y - x + 4).tmod 4 = (y - x + 4) % 4:=Int.tmod_eq_emod_of_nonneg (by omega)
 have m2:(x - y + 4).tmod 4 = (x - y + 4) % 4:=Int.tmod_eq_emod_of_nonneg (by omega)
 have w5:IntKind.i64.wrap ((y - x + 4) % 4) = (y - x + 4) % 4:=wrap_i64 (by omega) (by omega)
 have w6:IntKind.i64.wrap ((x - y + 4) % 4) = (x - y + 4) % 4:=wrap_i64 (by omega) (by omega)
 unfold quarI
 simp [c83,argFr,w1,w2,w3,w4,m1,m2,w5,w6]
 omega
def workQ (b:Beach) (P:List (List Int)) (h r:Nat):Int:=sumU (fun h=>sumU (fun r=>quarI (facesAt b P h r) (planAt P h r) * b.places) b.rows.toNat) h + sumU (fun r=>quarI (facesAt b P h r) (planAt P h r) * b.places) r
section
variable {b:Beach} {P:List (List Int)}
theorem quar_le (x y:Int):0≤quarI x y∧quarI x y≤3:=by
 unfold quarI
 omega
theorem quarP_le (hb:Valid b) (h r:Nat):0≤quarI (facesAt b P h r) (planAt P h r) * b.places∧quarI (facesAt b P h r) (planAt P h r) * b.places≤15:=by
 have h1:=quar_le (facesAt b P h r) (planAt P h r)
 have hpl:=hb.pl
 generalize quarI (facesAt b P h r) (planAt P h r) = q at *
 have h2:q * b.places≤3 * b.places:=Int.mul_le_mul_of_nonneg_right h1.2 (by omega)
 have h3:=Int.mul_nonneg h1.1 (by omega:0≤b.places)
 omega
theorem workQ_le (hb:Valid b) (hp:PlanOf b P) {h r:Nat} (hh:h < P.length) (hr:r≤b.rows.toNat):0≤workQ b P h r∧workQ b P h r≤1000:=by
 have hro:=hb.ro
 have hla:=hb.la
 have hlen:=hp.len
 have h1:∀ g n,g < P.length→n≤b.rows.toNat→0≤sumU (fun r=>quarI (facesAt b P g r) (planAt P g r) * b.places) n∧sumU (fun r=>quarI (facesAt b P g r) (planAt P g r) * b.places) n≤45:=fun g n hg hn=>by
  have:=sumU_le (n:=n) (c:=15) fun i _=>quarP_le (P:=P) hb g i
  omega
 have h2:=sumU_le (n:=h) (c:=45) fun i hi=>h1 i b.rows.toNat (by omega) (Nat.le_refl _)
 have h3:=h1 h r hh hr
 unfold workQ
 omega
theorem lWorkR6 (hb:Valid b) (hp:PlanOf b P) (h:Nat) (hh:h < P.length):∀ (d r:Nat),r + d = b.rows.toNat→∀ n k,d < k→loopA (execA Tryz.prog ann kn (n+300) 51) lb23_6 (ann 51 (fstR lb23_6)) k ⟨1,[(1,true,lli P),(2,true,.ptr 0 2 0 0),(5,true,i (workQ b P h r)),(6,true,i h),(7,true,i r)],⟨[],[(2,0,.box (cellsB b))]⟩⟩ =
  some (.exit 2,⟨1,[(18,true,.bool false),(17,true,i b.rows),(16,true,.ptr 0 2 0 1),(15,true,i b.rows.toNat),(1,true,lli P),(2,true,.ptr 0 2 0 0),(5,true,i (workQ b P h b.rows.toNat)),(6,true,i h),(7,true,i b.rows.toNat)],⟨[],[(2,0,.box (cellsB b))]⟩⟩)
 | 0,r,hd,n,k,hk=>by
  have hro:=hb.ro
  have hlt:¬ (r:Int) < b.rows:=by omega
  obtain ⟨k,rfl⟩:∃ k',k = k' + 1:=⟨k - 1,by omega⟩
  rw [loopA_succ,show b.rows.toNat = r by omega]
  simp only [cellsB]
  simp [hlt]
 | d + 1,r,hd,n,k,hk=>by
  have hro:=hb.ro
  have hpl:=hb.pl
  have hla:=hb.la
  have hfa:=hb.fa
  have hlen:=hp.len
  have hr:(r:Int) < b.rows:=by omega
  have hw:=wrapS (k:=r) (by omega)
  have hf:=facesAt_dir hb hp (h:=h) (by omega) (r:=r) (by omega)
  have hd2:=plan_dir hp hh (r:=r) (by omega)
  have qq:=fun n=>kQuarters n (facesAt b P h r) (planAt P h r) hf hd2
  have hle:=quarP_le (P:=P) hb h r
  have hwq:=workQ_le hb hp hh (r:=r) (by omega)
  have e1:workQ b P h (r + 1) = workQ b P h r + quarI (facesAt b P h r) (planAt P h r) * b.places:=(Int.add_assoc _ _ _).symm
  have w1:IntKind.i64.wrap (quarI (facesAt b P h r) (planAt P h r) * b.places) = quarI (facesAt b P h r) (planAt P h r) * b.places:=wrap_i64 (by omega) (by omega)
  have w2:IntKind.i64.wrap (workQ b P h r + quarI (facesAt b P h r) (planAt P h r) * b.places) = workQ b P h r + quarI (facesAt b P h r) (planAt P h r) * b.places:=wrap_i64 (by omega) (by omega)
  have hro2:(P[h].length:Int) = b.rows:=(row_inX hb hp hh).2.1
  have l1:r < P[h].length:=by omega
  have g1:P[h][r] = planAt P h r:=by
   unfold planAt
   simp [List.getD_eq_getElem?_getD,List.getElem?_eq_getElem hh,List.getElem?_eq_getElem l1]
  have l0:r < b.face.length:=by omega
  have ih:=lWorkR6 hb hp h hh d (r + 1) (by omega) n (k - 1) (by omega)
  obtain ⟨k,rfl⟩:∃ k',k = k' + 1:=⟨k - 1,by omega⟩
  rw [Nat.add_sub_cancel] at ih
  rw [e1] at ih
  rw [loopA_succ]
  rcases Nat.eq_zero_or_pos h with h0 | h0
  ·subst h0
   have g0:b.face[r] = facesAt b P 0 r:=by
    show _ = b.face.getD r 0
    rw [List.getD_eq_getElem?_getD,List.getElem?_eq_getElem l0,Option.getD_some]
   generalize facesAt b P 0 r = f at *
   generalize planAt P 0 r = g at *
   simp only [cellsB] at ih ⊢
   simp at ih
   simp [hr,hw,l0,l1,hh,g0,g1,qq,w1,w2,encI,encL,plK,ih]
  ·obtain ⟨p,rfl⟩:∃ p,h = p + 1:=⟨h - 1,by omega⟩
   have hh2:p < P.length:=by omega
   have hro3:(P[p].length:Int) = b.rows:=(row_inX hb hp hh2).2.1
   have l2:r < P[p].length:=by omega
   have g0:P[p][r] = facesAt b P (p + 1) r:=by
    show _ = planAt P p r
    unfold planAt
    simp [List.getD_eq_getElem?_getD,List.getElem?_eq_getElem hh2,List.getElem?_eq_getElem l2]
   have hp0:(0:Int) < (p:Int) + 1:=by omega
   have wp:IntKind.i64.wrap (p:Int) = (p:Int):=wrap_i64 (by omega) (by omega)
   have hp1:(0:Int)≤(p:Int) + 1:=by omega
   have hjI:(p:Int) + 1 < (P.length:Int):=by omega
   generalize facesAt b P (p + 1) r = f at *
   generalize planAt P (p + 1) r = g at *
   simp only [cellsB] at ih ⊢
   simp at ih
   simp [hr,hw,l0,l1,l2,hh,hh2,g0,g1,hp0,hp1,hjI,wp,qq,w1,w2,encI,encL,plK,ih]
theorem workQ_row (b:Beach) (P:List (List Int)) (h:Nat):workQ b P h b.rows.toNat = workQ b P (h + 1) 0:=by
 show _ = sumU (fun h=>sumU (fun r=>quarI (facesAt b P h r) (planAt P h r) * b.places) b.rows.toNat) (h + 1) + 0
 rw [Int.add_zero]
 rfl
theorem lWorkR3 (hb:Valid b) (hp:PlanOf b P):∀ (d h:Nat),h + d = P.length→∀ n k,d < k→loopA (execA Tryz.prog ann kn (n+500) 51) lb23_3 (ann 51 (fstR lb23_3)) k ⟨1,[(1,true,lli P),(2,true,.ptr 0 2 0 0),(5,true,i (workQ b P h 0)),(6,true,i h)],⟨[],[(2,0,.box (cellsB b))]⟩⟩ =
  some (.exit 0,⟨1,[(12,true,.bool false),(11,true,i P.length),(10,true,lli P),(9,true,i P.length),(1,true,lli P),(2,true,.ptr 0 2 0 0),(5,true,i (workQ b P P.length 0)),(6,true,i P.length)],⟨[],[(2,0,.box (cellsB b))]⟩⟩)
 | 0,h,hd,n,k,hk=>by
  have hh:h = P.length:=by omega
  subst hh
  obtain ⟨k,rfl⟩:∃ k',k = k' + 1:=⟨k - 1,by omega⟩
  rw [loopA_succ]
  simp only [cellsB]
  simp
 | d + 1,h,hd,n,k,hk=>by
  have hla:=hb.la
  have hro:=hb.ro
  have hlen:=hp.len
  have hh:h < P.length:=by omega
  have hw:=wrapS (k:=h) (by omega)
  have q6:=fun n k=>lWorkR6 hb hp h hh b.rows.toNat 0 (by omega) n (k + 10) (by omega)
  rw [workQ_row] at q6
  have ih:=lWorkR3 hb hp d (h + 1) (by omega) n (k - 1) (by omega)
  obtain ⟨k,rfl⟩:∃ k',k = k' + 1:=⟨k - 1,by omega⟩
  rw [Nat.add_sub_cancel] at ih
  rw [loopA_succ]
  generalize workQ b P (h + 1) 0 = T1 at *
  generalize workQ b P h 0 = T0 at *
  simp only [cellsB] at q6 ih ⊢
  simp at q6 ih
  simp [hh,hw,q6,ih]
theorem kWorkR (n:Nat) (hb:Valid b) (hp:PlanOf b P):callK Tryz.prog kn (execA Tryz.prog ann kn (n+700)) 23 [.agg (cellsB b),lli P] = some (i (workR b P)):=by
 rw [callK_of rfl,call0_eq Tryz.func23 b23 rfl (by simp [cellsB,encI,encL,encP])]
 have hla:=hb.la
 have hlen:=hp.len
 have q:=fun n k=>lWorkR3 hb hp P.length 0 (by omega) n (k + 10) (by omega)
 have e1:workQ b P P.length 0 = workR b P:=Int.add_zero _
 have e0:workQ b P 0 0 = 0:=rfl
 rw [e1,e0] at q
 simp only [cellsB] at q ⊢
 simp at q
 simp [c23,argFr,encI,encL,encP,q]
end
end Go.Proofs.Tryz.Op
/- Contracts of the reference: Empty, Wider, Sum, Truths; of the law: sure, to. No condition but a valid beach. -/
open Go Go.Pg Go.Proofs Go.Wind
namespace Go.Proofs.Tryz.Op
set_option maxRecDepth 100000
set_option linter.unusedSimpArgs false
@[simp] theorem sr_empty:sliceR Tryz.prog 84 = false:=by kernel_rfl
@[simp] theorem sr_widerR:sliceR Tryz.prog 85 = false:=by kernel_rfl
theorem kEmpty (n:Nat):callK Tryz.prog kn (execA Tryz.prog ann kn (n+50)) 84 [] = some (.agg (encR emptyR)):=by
 rw [callK_of rfl,call0_eq Tryz.func84 b84 rfl (by simp)]
 simp [c84,argFr,encR,emptyR]
theorem kWiderR (n:Nat) (r:Int × Int) (x:Int):callK Tryz.prog kn (execA Tryz.prog ann kn (n+50)) 85 [.agg (encR r),i x] = some (.agg (encR (min r.1 x,max r.2 x))):=by
 rw [callK_of rfl,call0_eq Tryz.func85 b85 rfl (by simp [encR])]
 simp [c85,argFr,encR,min_lt,max_lt]
def sumRow (l:List Hrs):Nat→Int
 | 0=>0
 | n + 1=>sumRow l n + (l.getD n ⟨0,0,0⟩).good
def sumAll (A:List (List Hrs)):Nat→Int
 | 0=>0
 | n + 1=>sumAll A n + sumRow (A.getD n []) (A.getD n []).length
theorem sumRow_le {l:List Hrs} (hl:∀ x ∈ l,0≤x.good∧x.good≤100):∀ n,n≤l.length→0≤sumRow l n∧sumRow l n≤n * 100
 | 0,_=>by simp [sumRow]
 | n + 1,hn=>by
  have h1:=sumRow_le hl n (by omega)
  have e:l.getD n ⟨0,0,0⟩ = l[n]'(by omega):=by rw [List.getD_eq_getElem?_getD,List.getElem?_eq_getElem (by omega)]; rfl
  have h2:=hl _ (List.getElem_mem (by omega:n < l.length))
  simp only [sumRow,e]
  omega
theorem sumAll_le {A:List (List Hrs)} (hA:∀ l ∈ A,l.length≤100∧∀ x ∈ l,0≤x.good∧x.good≤100):∀ n,n≤A.length→0≤sumAll A n∧sumAll A n≤n * 10000
 | 0,_=>by simp [sumAll]
 | n + 1,hn=>by
  have h1:=sumAll_le hA n (by omega)
  have e:A.getD n [] = A[n]'(by omega):=by rw [List.getD_eq_getElem?_getD,List.getElem?_eq_getElem (by omega)]; rfl
  obtain ⟨h2,h3⟩:=hA _ (List.getElem_mem (by omega:n < A.length))
  have h4:=sumRow_le h3 _ (Nat.le_refl _)
  simp only [sumAll,e]
  omega
theorem lSum6 (A:List (List Hrs)) (r:Nat) (hr:r < A.length) (hl:A[r].length≤100) (hx:∀ x ∈ A[r],0≤x.good∧x.good≤100) (m:Int) (hm:0≤m∧m≤10000000):∀ (d q:Nat),q + d = A[r].length→∀ n k,d < k→loopA (execA Tryz.prog ann kn (n+100) 32) lb49_6 (ann 32 (fstR lb49_6)) k ⟨0,[(0,true,.list false (A.map encHs)),(3,true,i (m + sumRow A[r] q)),(4,true,i r),(5,true,i q)],⟨[],[]⟩⟩ =
  some (.exit 2,⟨0,[(18,true,.bool false),(17,true,i A[r].length),(16,true,.list false (A[r].map encH)),(15,true,.ref [.list false (A[r].map encH)]),(14,true,i r),(13,true,.list false (A.map encHs)),(12,true,i A[r].length),(0,true,.list false (A.map encHs)),(3,true,i (m + sumRow A[r] A[r].length)),(4,true,i r),(5,true,i A[r].length)],⟨[],[]⟩⟩)
 | 0,q,hd,n,k + 1,hk=>by
  have:q = A[r].length:=by omega
  subst this
  rw [loopA_succ]
  simp [hr,encHs]
 | d + 1,q,hd,n,k + 1,hk=>by
  have hq:q < A[r].length:=by omega
  have hw:=wrapS (k:=q) (by omega)
  have ih:=lSum6 A r hr hl hx m hm d (q + 1) (by omega) n k (by omega)
  have h1:=sumRow_le hx q (by omega)
  have h2:=hx _ (List.getElem_mem hq)
  have e:A[r].getD q ⟨0,0,0⟩ = A[r][q]:=by rw [List.getD_eq_getElem?_getD,List.getElem?_eq_getElem hq]; rfl
  have e1:sumRow A[r] (q + 1) = sumRow A[r] q + A[r][q].good:=by rw [← e]; rfl
  rw [e1,← Int.add_assoc] at ih
  have hwg:IntKind.i64.wrap (m + sumRow A[r] q + A[r][q].good) = m + sumRow A[r] q + A[r][q].good:=wrap_i64 (by omega) (by omega)
  generalize sumRow A[r] A[r].length = T at ih ⊢
  generalize sumRow A[r] q = S at ih hwg ⊢
  rw [loopA_succ]
  simp at ih
  simp [hr,hq,hw,hwg,encHs,encH,ih]
theorem lSum3 (A:List (List Hrs)) (hAl:A.length≤100) (hA:∀ l ∈ A,l.length≤100∧∀ x ∈ l,0≤x.good∧x.good≤100):∀ (d r:Nat),r + d = A.length→∀ n k,d < k→loopA (execA Tryz.prog ann kn (n+300) 32) lb49_3 (ann 32 (fstR lb49_3)) k ⟨0,[(0,true,.list false (A.map encHs)),(3,true,i (sumAll A r)),(4,true,i r)],⟨[],[]⟩⟩ =
  some (.exit 0,⟨0,[(9,true,.bool false),(8,true,i A.length),(7,true,.list false (A.map encHs)),(6,true,i A.length),(0,true,.list false (A.map encHs)),(3,true,i (sumAll A A.length)),(4,true,i A.length)],⟨[],[]⟩⟩)
 | 0,r,hd,n,k + 1,hk=>by
  have:r = A.length:=by omega
  subst this
  rw [loopA_succ]
  simp
 | d + 1,r,hd,n,k + 1,hk=>by
  have hr:r < A.length:=by omega
  have hw:=wrapS (k:=r) (by omega)
  have ih:=lSum3 A hAl hA d (r + 1) (by omega) n k (by omega)
  have e:A.getD r [] = A[r]:=by rw [List.getD_eq_getElem?_getD,List.getElem?_eq_getElem hr]; rfl
  obtain ⟨h2,h3⟩:=hA _ (List.getElem_mem hr)
  have h1:=sumAll_le hA r (by omega)
  have q:=lSum6 A r hr h2 h3 (sumAll A r) (by omega) A[r].length 0 (by omega)
  have q:=fun n k=>q n (k + 150) (by omega)
  have e0:sumRow A[r] 0 = 0:=rfl
  have e1:sumAll A (r + 1) = sumAll A r + sumRow A[r] A[r].length:=by rw [← e]; rfl
  rw [e0,Int.add_zero] at q
  rw [e1] at ih
  generalize sumAll A A.length = T at ih ⊢
  generalize sumAll A r = S at ih q ⊢
  generalize sumRow A[r] A[r].length = R at ih q
  rw [loopA_succ]
  simp at q ih
  simp [hr,hw,q,ih]
theorem kSum (n:Nat) (A:List (List Hrs)) (hAl:A.length≤100) (hA:∀ l ∈ A,l.length≤100∧∀ x ∈ l,0≤x.good∧x.good≤100):callK Tryz.prog kn (execA Tryz.prog ann kn (n+500)) 49 [.list false (A.map encHs)] = some (i (sumAll A A.length)):=by
 rw [callK_of rfl,call0_eq Tryz.func49 b49 rfl (by simp [encHs,encH])]
 have q:=lSum3 A hAl hA A.length 0 (by omega)
 have q:=fun n k=>q n (k + 150) (by omega)
 have e0:sumAll A 0 = 0:=rfl
 rw [e0] at q
 generalize sumAll A A.length = T at q ⊢
 simp at q
 simp [c49,argFr,q]
theorem appTs {k:Nat} {x:List Int} (h:k≤10000):appOK Tryz.prog 22 k [encL x] = true:=by
 rw [appOK_iff (by simp [encL]) (by simp)]
 simp [maxLen,encL]; omega
theorem lTruths3 (b:Beach) (hb:Valid b):∀ (d j c γ:Nat) (out:List (List Int)),j + d = manyN b.winds→out.length≤j→∃ fr c' γ',getF fr 3 = some (true,pv 21 γ' ((out ++ ((List.range' j d).map (nthGo b.winds)).filter (isTruthB b)).map encL))∧∀ n k,d < k→loopA (execA Tryz.prog ann kn (n+1000) 23) lb47_3 (ann 23 (fstR lb47_3)) k ⟨c,[(1,true,.ptr 0 1 0 0),(3,true,pv 21 γ (out.map encL)),(4,true,i j)],⟨[],(1,0,.box (cellsB b)) :: pl 21 γ 22 (out.map encL)⟩⟩ =
  some (.exit 0,⟨c',fr,⟨[],(1,0,.box (cellsB b)) :: pl 21 γ' 22 ((out ++ ((List.range' j d).map (nthGo b.winds)).filter (isTruthB b)).map encL)⟩⟩)
 | 0,j,c,γ,out,hd,ho=>by
  have:j = manyN b.winds:=by omega
  subst this
  have qm:=fun n=>kMany n b hb
  refine ⟨?fr,c,γ,?g1,fun n k hk=>?g2⟩
  case g2 =>
   obtain ⟨k,rfl⟩:∃ k',k = k' + 1:=⟨k - 1,by omega⟩
   rw [loopA_succ]
   simp only [cellsB] at qm ⊢
   simp [encI,encL,encP,qm]
   rfl
  case g1=>simp
 | d + 1,j,c,γ,out,hd,ho=>by
  have hm:=hb.many
  have hj:j < manyN b.winds:=by omega
  have hw:=wrapS (k:=j) (by omega)
  have qm:=fun n=>kMany n b hb
  have qn:=fun n=>kNth n b hb j (by omega)
  have qt:=fun n=>kTruthR n b hb (nthGo b.winds j)
  have hln:(nthGo b.winds j).length = b.winds.length:=listed_len (nth_listed hb.ne j)
  have hne:nthGo b.winds j ≠ []:=fun e=>by
   have hla:=hb.la
   have hwi:=hb.wi
   rw [e] at hln
   simp at hln
   omega
  rw [slX hne] at qn
  have er:(List.range' j (d + 1)).map (nthGo b.winds) = nthGo b.winds j :: (List.range' (j + 1) d).map (nthGo b.winds):=by rw [List.range'_succ,List.map_cons]
  rw [er,List.filter_cons]
  cases ht:isTruthB b (nthGo b.winds j) with
  | false =>
   rw [ht] at qt
   rw [if_neg (by decide)]
   obtain ⟨fr,c',γ',e1,ih⟩:=lTruths3 b hb d (j + 1) c γ out (by omega) (by omega)
   refine ⟨fr,c',γ',e1,fun n k hk=>?_⟩
   obtain ⟨k,rfl⟩:∃ k',k = k' + 1:=⟨k - 1,by omega⟩
   have ih:=ih n k (by omega)
   generalize ((List.range' (j + 1) d).map (nthGo b.winds)).filter (isTruthB b) = F at ih ⊢
   generalize nthGo b.winds j = T at qn qt
   rw [loopA_succ]
   simp only [cellsB] at qm qn qt ih ⊢
   simp at ih
   simp [hj,hw,encI,encL,encP,qm,qn,qt,ih]
  | true =>
   rw [ht] at qt
   rw [if_pos rfl]
   obtain ⟨fr,c',γ',e1,ih⟩:=lTruths3 b hb d (j + 1) (c + 1) c (out ++ [nthGo b.winds j]) (by omega) (by simp; omega)
   rw [List.append_assoc,List.singleton_append] at e1 ih
   have happ:=appTs (k:=out.length) (x:=nthGo b.winds j) (by omega)
   refine ⟨fr,c',γ',e1,fun n k hk=>?_⟩
   obtain ⟨k,rfl⟩:∃ k',k = k' + 1:=⟨k - 1,by omega⟩
   have ih:=ih n k (by omega)
   generalize nthGo b.winds j :: ((List.range' (j + 1) d).map (nthGo b.winds)).filter (isTruthB b) = F at ih ⊢
   generalize nthGo b.winds j = T at qn qt ih happ
   rw [loopA_succ]
   simp only [cellsB] at qm qn qt ih ⊢
   simp [encL] at ih happ
   simp [hj,hw,encI,encL,encP,qm,qn,qt,happ,ih]
theorem kTruthsRR (n:Nat) (b:Beach) (hb:Valid b):callK Tryz.prog kn (execA Tryz.prog ann kn (n+2200)) 47 [.agg (cellsB b)] = some (sl ((truthsR b).map encL)):=by
 rw [callK_of rfl,call0_eq Tryz.func47 b47 rfl (by simp [cellsB,encI,encL,encP])]
 have hm:=hb.many
 obtain ⟨fr,c',γ',e1,q⟩:=lTruths3 b hb (manyN b.winds) 0 1 0 [] (by omega) (by simp)
 have q:=fun n k=>q n (k + 1100) (by omega)
 rw [List.nil_append,← List.range_eq_range'] at e1 q
 change getF fr 3 = some (true,pv 21 γ' ((truthsR b).map encL)) at e1
 change ∀ n k,_ = some (Exit.exit 0,(⟨c',fr,⟨[],(1,0,.box (cellsB b)) :: pl 21 γ' 22 ((truthsR b).map encL)⟩⟩:XS)) at q
 generalize truthsR b = T at *
 simp only [cellsB] at q ⊢
 simp at q
 simp [c47,argFr,q,e1,encL,encI]
def sureV (b:Beach):List (List Int) × Int:=if faultB b = 0 then (truthsR b,if truthsR b = [] then 11 else 0) else ([],faultB b)
theorem kSure (n:Nat) (b:Beach) (h100:∀ l ∈ b.winds,l.length≤100):callK Tryz.prog kn (execA Tryz.prog ann kn (n+2500)) 20 [.agg (cellsB b)] = some (.tup [sl ((sureV b).1.map encL),i (sureV b).2]):=by
 rw [callK_of rfl,call0_eq Tryz.func20 b20 rfl (by simp [cellsB,encI,encL,encP])]
 have qf:=fun n=>kfault n b h100
 have slnil:sl ([]:List (List V)) = .nil:=rfl
 unfold sureV
 by_cases h:faultB b = 0
 ·have hb:=valid_of h
  have qt:=fun n=>kTruthsRR n b hb
  rw [h] at qf
  rw [if_pos h]
  by_cases hT:truthsR b = []
  ·rw [hT] at qt
   rw [if_pos hT,hT]
   simp only [cellsB,List.map_nil,slnil] at qf qt ⊢
   simp [c20,argFr,encI,encL,encP,qf,qt]
  ·rw [slX hT] at qt
   rw [if_neg hT,slX hT]
   have hl:0 < (truthsR b).length:=List.length_pos_iff.2 hT
   generalize truthsR b = T at *
   have hd:decide ((T.length:Int) = 0) = false:=decide_eq_false (by omega)
   simp only [cellsB] at qf qt ⊢
   simp [c20,argFr,encI,encL,encP,qf,qt,hd,hT]
 ·rw [if_neg h]
  simp only [cellsB,List.map_nil,slnil] at qf ⊢
  simp [c20,argFr,encI,encL,encP,qf,h]
end Go.Proofs.Tryz.Op
/- Contracts of the reference: Total, Calm. No condition but a valid beach. -/
open Go Go.Pg Go.Proofs Go.Wind
namespace Go.Proofs.Tryz.Op
set_option maxRecDepth 100000
set_option linter.unusedSimpArgs false
section
variable {b:Beach} {plan:List (List Int)}
theorem getD_range {α:Type} (f:Nat→α) (N n:Nat) (z:α) (h:n < N):((List.range N).map f).getD n z = f n:=by
 simp [List.getD_eq_getElem?_getD,h]
theorem sumRow_row (b:Beach) (plan:List (List Int)) (t:List Int) (r:Nat):∀ n,n≤b.places.toNat→sumRow (rowP b plan t r) n = sumU (fun p=>(hoursP b plan t r p).good) n
 | 0,_=>rfl
 | n + 1,h=>by
  simp only [sumRow,sumU,sumRow_row b plan t r n (by omega)]
  congr 1
  rw [rowP,getD_range _ _ _ _ (by omega)]
theorem sumAll_play (b:Beach) (plan:List (List Int)) (t:List Int) (R:Nat):∀ n,n≤R→sumAll (playP b plan t R) n = sumU (fun r=>sumU (fun p=>(hoursP b plan t r p).good) b.places.toNat) n
 | 0,_=>rfl
 | n + 1,h=>by
  simp only [sumAll,sumU,sumAll_play b plan t R n (by omega)]
  congr 1
  rw [playP,getD_range _ _ _ _ (by omega)]
  have:(rowP b plan t n).length = b.places.toNat:=by simp [rowP]
  rw [this]
  exact sumRow_row b plan t n _ (Nat.le_refl _)
theorem sum_tot (b:Beach) (plan:List (List Int)) (t:List Int):sumAll (playP b plan t b.rows.toNat) (playP b plan t b.rows.toNat).length = totT b plan t:=by
 have:(playP b plan t b.rows.toNat).length = b.rows.toNat:=by simp [playP]
 rw [this]
 exact sumAll_play b plan t _ _ (Nat.le_refl _)
theorem play_small (hb:Valid b) (plan:List (List Int)) {t:List Int} (ht:listedGo t b.winds = true):(playP b plan t b.rows.toNat).length≤100∧∀ l ∈ playP b plan t b.rows.toNat,l.length≤100∧∀ x ∈ l,0≤x.good∧x.good≤100:=by
 have hro:=hb.ro
 have hpl:=hb.pl
 have h5:=hb.hl
 have hlt:=listed_len ht
 refine ⟨by simp [playP]; omega,fun l hl=>?_⟩
 simp only [playP,List.mem_map] at hl
 obtain ⟨r,_,rfl⟩:=hl
 refine ⟨by simp [rowP]; omega,fun x hx=>?_⟩
 simp only [rowP,List.mem_map] at hx
 obtain ⟨q,_,rfl⟩:=hx
 have:=hoursP_le b plan t r q
 omega
theorem lTotR3 (hb:Valid b) (hp:PlanOf b plan) (T:List (List Int)) (hT:∀ t ∈ T,listedGo t b.winds = true) (hTl:T.length≤5000):∀ (d j c:Nat),j + d = T.length→3≤c→∃ c',3≤c'∧∀ n k,d < k→loopA (execA Tryz.prog ann kn (n+1800) 27) lb33_3 (ann 27 (fstR lb33_3)) k ⟨c,[(1,true,.list false (T.map encL)),(2,true,lli plan),(3,true,.ptr 0 3 0 0),(6,true,.ptr 0 6 1 0),(7,true,.ptr 0 7 3 0),(8,true,i j)],⟨[],[(3,0,.box (cellsB b)),(6,1,.box [i 0,i 0]),(7,3,.box (encR (rngF emptyR ((T.take j).map (totT b plan)))))]⟩⟩ =
  some (.exit 0,⟨c',[(13,true,.bool false),(12,true,i T.length),(11,true,.list false (T.map encL)),(10,true,i T.length),(1,true,.list false (T.map encL)),(2,true,lli plan),(3,true,.ptr 0 3 0 0),(6,true,.ptr 0 6 1 0),(7,true,.ptr 0 7 3 0),(8,true,i T.length)],⟨[],[(3,0,.box (cellsB b)),(6,1,.box [i 0,i 0]),(7,3,.box (encR (rngF emptyR (T.map (totT b plan)))))]⟩⟩)
 | 0,j,c,hd,hc=>by
  have:j = T.length:=by omega
  subst this
  refine ⟨c,hc,fun n k hk=>?_⟩
  obtain ⟨k,rfl⟩:∃ k',k = k' + 1:=⟨k - 1,by omega⟩
  rw [loopA_succ,List.take_length]
  simp [encR]
 | d + 1,j,c,hd,hc=>by
  have hj:j < T.length:=by omega
  have hw:=wrapS (k:=j) (by omega)
  obtain ⟨c',hc',ih⟩:=lTotR3 hb hp T hT hTl d (j + 1) (c + 1) (by omega) (by omega)
  refine ⟨c',hc',fun n k hk=>?_⟩
  obtain ⟨k,rfl⟩:∃ k',k = k' + 1:=⟨k - 1,by omega⟩
  have ih:=ih n k (by omega)
  have htj:=hT _ (List.getElem_mem hj)
  have hro:=hb.ro
  have qp:=fun n=>kRefPlay n b hb plan hp T[j] htj
  rw [refP_eq hb hp htj] at qp
  obtain ⟨s1,s2⟩:=play_small hb plan htj
  have hne:playP b plan T[j] b.rows.toNat ≠ []:=fun e=>by
   have:=congrArg List.length e
   simp [playP] at this
   omega
  rw [slX hne] at qp
  have qs:=fun n=>kSum n _ s1 s2
  rw [sum_tot] at qs
  have e2:rngF emptyR ((T.take (j + 1)).map (totT b plan)) = (min (rngF emptyR ((T.take j).map (totT b plan))).1 (totT b plan T[j]),max (rngF emptyR ((T.take j).map (totT b plan))).2 (totT b plan T[j])):=by
   rw [List.take_succ_eq_append_getElem hj,List.map_append,List.map_cons,List.map_nil]
   unfold rngF
   rw [List.foldl_append]
   rfl
  rw [e2] at ih
  have qw:=fun n=>kWiderR n (rngF emptyR ((T.take j).map (totT b plan))) (totT b plan T[j])
  have htl:li T[j] = .list false (T[j].map encI):=rfl
  rw [htl] at qp
  generalize rngF emptyR (T.map (totT b plan)) = RR at ih ⊢
  generalize rngF emptyR ((T.take j).map (totT b plan)) = R at ih qw ⊢
  generalize totT b plan T[j] = y at qs ih qw
  generalize hP:playP b plan T[j] b.rows.toNat = A at qs qp
  have hc1:3 < c + 1:=by omega
  rw [loopA_succ]
  simp only [cellsB,encR] at qp qs ih qw ⊢
  simp at ih
  simp [hj,hw,encI,encL,encP,qp,qs,qw,hc1,put_eqX,ih]
theorem kTotalR (n:Nat) (hb:Valid b) (hp:PlanOf b plan) (T:List (List Int)) (hT:∀ t ∈ T,listedGo t b.winds = true) (hTl:T.length≤1100):callK Tryz.prog kn (execA Tryz.prog ann kn (n+3300)) 33 [.agg (cellsB b),.list false (T.map encL),lli plan] = some (.agg (encR (rngF emptyR (T.map (totT b plan))))):=by
 rw [callK_of rfl,call0_eq Tryz.func33 b33 rfl (by simp [cellsB,encI,encL,encP])]
 obtain ⟨c',hc',q⟩:=lTotR3 hb hp T hT (by omega) T.length 0 4 (by omega) (by omega)
 have q:=fun n k=>q n (k + 1200) (by omega)
 have qe:=fun n=>kEmpty n
 rw [List.take_zero,List.map_nil] at q
 have e0:rngF emptyR [] = emptyR:=rfl
 rw [e0] at q
 generalize rngF emptyR (T.map (totT b plan)) = R at q ⊢
 simp only [cellsB,encR] at q qe ⊢
 simp at q
 simp [c33,argFr,encI,encL,encP,q,qe,put_eqX,show 1 < c' by omega]
end
end Go.Proofs.Tryz.Op
