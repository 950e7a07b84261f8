/- Contract of the reference: Plans. No condition but a valid beach. -/
import Derived.Test.YtkemmiljbaneoaaGreatX1
import Derived.Test.YtkemmiljbaneoaaGreatFz
import Derived.Test.YtkemmiljbaneoaaGreatI1
import Derived.Test.YtkemmiljbaneoaaGreatW1
import Derived.Test.YtkemmiljbaneoaaGreatE1
open Go Go.Pg Go.Proofs Go.Wind
namespace Go.Wind
def plansN:Nat→Int
 | 0=>1
 | k + 1=>min 6000 (plansN k * 4)
theorem plansN_le:∀ k,1≤plansN k∧plansN k≤6000
 | 0=>by simp [plansN]
 | k + 1=>by
  have:=plansN_le k
  simp only [plansN]
  omega
theorem plansN_small:∀ {k:Nat},plansN k≤256→plansN k = ((4 ^ k:Nat):Int)∧k≤4
 | 0,_=>by simp [plansN]
 | k + 1,h=>by
  have h1:=plansN_le k
  simp only [plansN] at h ⊢
  obtain ⟨i1,i2⟩:=plansN_small (k:=k) (by omega)
  have e:4 ^ (k + 1) = 4 ^ k * 4:=Nat.pow_succ ..
  have hk:k = 0∨k = 1∨k = 2∨k = 3∨k = 4:=by omega
  refine ⟨by rw [e]; omega,?_⟩
  rcases hk with rfl | rfl | rfl | rfl | rfl <;> simp at i1 <;> omega
end Go.Wind
namespace Go.Proofs.Tryz.Op
set_option maxRecDepth 100000
set_option linter.unusedSimpArgs false
section
variable {b:Beach}
theorem lPlans3 (hb:Valid b):∀ (d j:Nat),j + d = b.rows.toNat * (b.last + 1).toNat→∀ n k,d < k→loopA (execA Tryz.prog ann kn (n+100) 19) lb34_3 (ann 19 (fstR lb34_3)) k ⟨1,[(1,true,.ptr 0 1 0 0),(3,true,i (plansN j)),(4,true,i j)],⟨[],[(1,0,.box (cellsB b))]⟩⟩ =
  some (.exit 0,⟨1,[(12,true,.bool false),(11,true,i (b.rows * (b.last + 1))),(10,true,i (b.last + 1)),(9,true,i b.last),(8,true,.ptr 0 1 0 0),(7,true,i b.rows),(6,true,.ptr 0 1 0 1),(5,true,i (b.rows.toNat * (b.last + 1).toNat:Nat)),(1,true,.ptr 0 1 0 0),(3,true,i (plansN (b.rows.toNat * (b.last + 1).toNat))),(4,true,i (b.rows.toNat * (b.last + 1).toNat:Nat))],⟨[],[(1,0,.box (cellsB b))]⟩⟩)
 | 0,j,hd,n,k,hk=>by
  have hla:=hb.la
  have hro:=hb.ro
  have hj:j = b.rows.toNat * (b.last + 1).toNat:=by omega
  have e:b.rows * (b.last + 1) = ((b.rows.toNat * (b.last + 1).toNat:Nat):Int):=by
   have e1:b.rows = ((b.rows.toNat:Nat):Int):=by omega
   have e2:b.last + 1 = (((b.last + 1).toNat:Nat):Int):=by omega
   rw [Int.natCast_mul,← e1,← e2]
  have hm:b.rows.toNat * (b.last + 1).toNat≤3 * 5:=Nat.mul_le_mul (by omega) (by omega)
  have w1:IntKind.i64.wrap (b.last + 1) = b.last + 1:=wrap_i64 (by omega) (by omega)
  have w2:IntKind.i64.wrap (b.rows * (b.last + 1)) = b.rows * (b.last + 1):=by rw [e]; exact wrap_i64 (by omega) (by omega)
  obtain ⟨k,rfl⟩:∃ k',k = k' + 1:=⟨k - 1,by omega⟩
  rw [loopA_succ,← hj]
  have hlt:¬ (j:Int) < b.rows * (b.last + 1):=by rw [e]; omega
  simp only [cellsB]
  simp [w1,w2,hlt]
 | d + 1,j,hd,n,k,hk=>by
  have hla:=hb.la
  have hro:=hb.ro
  have e:b.rows * (b.last + 1) = ((b.rows.toNat * (b.last + 1).toNat:Nat):Int):=by
   have e1:b.rows = ((b.rows.toNat:Nat):Int):=by omega
   have e2:b.last + 1 = (((b.last + 1).toNat:Nat):Int):=by omega
   rw [Int.natCast_mul,← e1,← e2]
  have hm:b.rows.toNat * (b.last + 1).toNat≤3 * 5:=Nat.mul_le_mul (by omega) (by omega)
  have w1:IntKind.i64.wrap (b.last + 1) = b.last + 1:=wrap_i64 (by omega) (by omega)
  have w2:IntKind.i64.wrap (b.rows * (b.last + 1)) = b.rows * (b.last + 1):=by rw [e]; exact wrap_i64 (by omega) (by omega)
  have hw:=wrapS (k:=j) (by omega)
  have hp:=plansN_le j
  have w4:IntKind.i64.wrap (plansN j * 4) = plansN j * 4:=wrap_i64 (by omega) (by omega)
  have ih:=lPlans3 hb d (j + 1) (by omega) n (k - 1) (by omega)
  obtain ⟨k,rfl⟩:∃ k',k = k' + 1:=⟨k - 1,by omega⟩
  rw [Nat.add_sub_cancel] at ih
  have hlt:(j:Int) < b.rows * (b.last + 1):=by rw [e]; omega
  have hmin:plansN (j + 1) = if plansN j * 4 < 6000 then plansN j * 4 else 6000:=by
   simp only [plansN]
   split <;> omega
  rw [hmin] at ih
  generalize plansN (b.rows.toNat * (b.last + 1).toNat) = F at *
  generalize b.rows.toNat * (b.last + 1).toNat = X at *
  generalize plansN j = p at *
  rw [loopA_succ]
  simp only [cellsB] at ih ⊢
  simp at ih
  simp [w1,w2,w4,hlt,hw,ih]
theorem kPlans (n:Nat) (hb:Valid b):callK Tryz.prog kn (execA Tryz.prog ann kn (n+200)) 34 [.agg (cellsB b)] = some (i (plansN (b.rows.toNat * (b.last + 1).toNat))):=by
 rw [callK_of rfl,call0_eq Tryz.func34 b34 rfl (by simp [cellsB,encI,encL,encP])]
 have hla:=hb.la
 have hro:=hb.ro
 have hm:b.rows.toNat * (b.last + 1).toNat≤3 * 5:=Nat.mul_le_mul (by omega) (by omega)
 have q:=fun n k=>lPlans3 hb (b.rows.toNat * (b.last + 1).toNat) 0 (by omega) n (k + 20) (by omega)
 have e0:plansN 0 = 1:=rfl
 rw [e0] at q
 generalize plansN (b.rows.toNat * (b.last + 1).toNat) = F at *
 generalize b.rows.toNat * (b.last + 1).toNat = X at *
 simp only [cellsB] at q ⊢
 simp at q
 simp [c34,argFr,encI,encL,encP,q]
end
end Go.Proofs.Tryz.Op
/- All plans by number; the best of them. No program. -/
open Go Go.Pg Go.Proofs Go.Wind
namespace Go.Wind
def rowN:Nat→Nat→List Int
 | 0,_=>[]
 | r + 1,n=>((n % 4:Nat):Int) :: rowN r (n / 4)
def planN (R:Nat):Nat→Nat→List (List Int)
 | 0,_=>[]
 | d + 1,n=>rowN R n :: planN R d (n / 4 ^ R)
theorem rowN_len:∀ (r n:Nat),(rowN r n).length = r
 | 0,_=>rfl
 | r + 1,n=>by simp [rowN,rowN_len r]
theorem rowN_dir:∀ (r n:Nat),∀ x ∈ rowN r n,0≤x∧x≤3
 | 0,_,x,h=>by cases h
 | r + 1,n,x,h=>by
  simp only [rowN,List.mem_cons] at h
  rcases h with rfl | h
  ·omega
  ·exact rowN_dir r _ x h
theorem planN_len (R:Nat):∀ (d n:Nat),(planN R d n).length = d
 | 0,_=>rfl
 | d + 1,n=>by simp [planN,planN_len R d]
theorem planN_row (R:Nat):∀ (d n:Nat),∀ l ∈ planN R d n,l.length = R∧∀ x ∈ l,0≤x∧x≤3
 | 0,_,l,h=>by cases h
 | d + 1,n,l,h=>by
  simp only [planN,List.mem_cons] at h
  rcases h with rfl | h
  ·exact ⟨rowN_len R n,rowN_dir R n⟩
  ·exact planN_row R d _ l h
theorem planN_ok {b:Beach} (hb:Valid b) (n:Nat):isPlanB b (planN b.rows.toNat (b.last + 1).toNat n) = true:=by
 have hla:=hb.la
 have hro:=hb.ro
 simp only [isPlanB,Bool.and_eq_true,List.all_eq_true,decide_eq_true_eq,planN_len]
 refine ⟨fun l hl=>?_,by omega⟩
 obtain ⟨h1,h2⟩:=planN_row _ _ _ l hl
 refine ⟨by omega,?_⟩
 simp only [dirsB,List.all_eq_true]
 exact fun x hx=>inI_iff.2 (h2 x hx)
theorem rowN_all:∀ (r:Nat) (l:List Int),l.length = r→(∀ x ∈ l,0≤x∧x≤3)→∃ m,m < 4 ^ r∧∀ k,rowN r (m + 4 ^ r * k) = l
 | 0,[],_,_=>⟨0,by simp,fun _=>rfl⟩
 | r + 1,x :: l,hl,hd=>by
  obtain ⟨m,h1,h2⟩:=rowN_all r l (by simpa using hl) fun y hy=>hd y (by simp [hy])
  have hx:=hd x (by simp)
  have e:4 ^ (r + 1) = 4 ^ r * 4:=Nat.pow_succ ..
  refine ⟨x.toNat + 4 * m,by omega,fun k=>?_⟩
  have e2:x.toNat + 4 * m + 4 ^ (r + 1) * k = x.toNat + 4 * (m + 4 ^ r * k):=by
   rw [e,Nat.mul_add,Nat.mul_comm (4 ^ r) 4,Nat.mul_assoc,Nat.add_assoc]
  rw [e2]
  simp only [rowN]
  rw [show (x.toNat + 4 * (m + 4 ^ r * k)) % 4 = x.toNat by omega,show (x.toNat + 4 * (m + 4 ^ r * k)) / 4 = m + 4 ^ r * k by omega,h2 k]
  congr 1
  omega
theorem planN_all (R:Nat):∀ (d:Nat) (p:List (List Int)),p.length = d→(∀ l ∈ p,l.length = R∧∀ x ∈ l,0≤x∧x≤3)→∃ n,n < 4 ^ (R * d)∧planN R d n = p
 | 0,[],_,_=>⟨0,by simp,rfl⟩
 | d + 1,l :: p,hl,hd=>by
  obtain ⟨n,h1,h2⟩:=planN_all R d p (by simpa using hl) fun y hy=>hd y (by simp [hy])
  obtain ⟨hl1,hl2⟩:=hd l (by simp)
  obtain ⟨m,g1,g2⟩:=rowN_all R l hl1 hl2
  have hp:0 < 4 ^ R:=Nat.pow_pos (by decide)
  refine ⟨m + 4 ^ R * n,?_,?_⟩
  ·rw [Nat.mul_succ,Nat.pow_add,Nat.mul_comm (4 ^ (R * d))]
   calc m + 4 ^ R * n < 4 ^ R + 4 ^ R * n:=by omega
    _ = 4 ^ R * (n + 1):=by rw [Nat.mul_add,Nat.mul_one,Nat.add_comm]
    _≤4 ^ R * 4 ^ (R * d):=Nat.mul_le_mul_left _ h1
  ·simp only [planN]
   rw [g2 n]
   have e:(m + 4 ^ R * n) / 4 ^ R = n:=by
    rw [Nat.add_mul_div_left _ _ hp,Nat.div_eq_of_lt g1,Nat.zero_add]
   rw [e,h2]
def bestF (work:Int) (w t:Nat→Int):Nat→Int
 | 0=>-1
 | n + 1=>if w n≤work then max (bestF work w t n) (t n) else bestF work w t n
theorem bestF_spec (work:Int) (w t:Nat→Int):∀ n,-1≤bestF work w t n∧(bestF work w t n = -1∨∃ k,k < n∧w k≤work∧bestF work w t n = t k)∧∀ k,k < n→w k≤work→t k≤bestF work w t n
 | 0=>⟨Int.le_refl _,.inl rfl,fun k hk=>by omega⟩
 | n + 1=>by
  obtain ⟨h1,h2,h3⟩:=bestF_spec work w t n
  simp only [bestF]
  by_cases hw:w n≤work
  ·rw [if_pos hw]
   refine ⟨by omega,?_,fun k hk hwk=>?_⟩
   ·by_cases hc:bestF work w t n≤t n
    ·exact .inr ⟨n,by omega,hw,by omega⟩
    ·rcases h2 with h2 | ⟨k,k1,k2,k3⟩
     ·exact .inl (by omega)
     ·exact .inr ⟨k,by omega,k2,by omega⟩
   ·by_cases e:k = n
    ·subst e; omega
    ·have:=h3 k (by omega) hwk
     omega
  ·rw [if_neg hw]
   refine ⟨h1,?_,fun k hk hwk=>?_⟩
   ·rcases h2 with h2 | ⟨k,k1,k2,k3⟩
    ·exact .inl h2
    ·exact .inr ⟨k,by omega,k2,k3⟩
   ·by_cases e:k = n
    ·subst e; exact absurd hwk hw
    ·exact h3 k (by omega) hwk
theorem bestF_eq {b:Beach} (hb:Valid b) {ws:List (List Int)} (ha:Asked b ws) {work:Int} (h0:0≤work):bestF work (fun n=>workP b (planN b.rows.toNat (b.last + 1).toNat n)) (fun n=>(totalP b ws (planN b.rows.toNat (b.last + 1).toNat n)).1) (4 ^ (b.rows.toNat * (b.last + 1).toNat)) = bestV b ws work:=by
 have hla:=hb.la
 have hro:=hb.ro
 obtain ⟨⟨x1,x2,x3⟩,x4⟩:=best_spec hb ws h0
 obtain ⟨h1,h2,h3⟩:=bestF_spec work (fun n=>workP b (planN b.rows.toNat (b.last + 1).toNat n)) (fun n=>(totalP b ws (planN b.rows.toNat (b.last + 1).toNat n)).1) (4 ^ (b.rows.toNat * (b.last + 1).toNat))
 have hx:=x1
 simp only [isPlanB,Bool.and_eq_true,List.all_eq_true,decide_eq_true_eq] at hx
 obtain ⟨n,n1,n2⟩:=planN_all b.rows.toNat (b.last + 1).toNat (bestPl b ws work) (by omega) fun l hl=>by
  obtain ⟨l1,l2⟩:=hx.1 l hl
  refine ⟨by omega,fun x hxx=>?_⟩
  simp only [dirsB,List.all_eq_true] at l2
  exact inI_iff.1 (l2 x hxx)
 have hge:=h3 n n1 (by simp only [n2]; exact x2)
 simp only [n2,x3] at hge
 have hnn:0≤bestV b ws work:=by
  obtain ⟨i1,_⟩:=totalP_is hb ha (plan_of x1)
  obtain ⟨t,t1,t2⟩:=i1.at'
  rw [← x3,← t2]
  exact (totT_le hb _ t1).1
 rcases h2 with h2 | ⟨k,k1,k2,k3⟩
 ·omega
 ·have:=x4 _ (planN_ok hb k) k2
  omega
end Go.Wind
/- Contract of the reference: Plan (by a number). No condition but a valid beach. -/
open Go Go.Pg Go.Proofs Go.Wind
namespace Go.Proofs.Tryz.Op
set_option maxRecDepth 100000
set_option linter.unusedSimpArgs false
theorem rowN_snoc:∀ (r n:Nat),rowN (r + 1) n = rowN r n ++ [((n / 4 ^ r % 4:Nat):Int)]
 | 0,n=>by simp [rowN]
 | r + 1,n=>by
  have e:rowN (r + 1 + 1) n = ((n % 4:Nat):Int) :: rowN (r + 1) (n / 4):=rfl
  rw [e,rowN_snoc r (n / 4)]
  have e2:rowN (r + 1) n = ((n % 4:Nat):Int) :: rowN r (n / 4):=rfl
  rw [e2,Nat.div_div_eq_div_mul,Nat.pow_succ,Nat.mul_comm 4]
  rfl
theorem planN_snoc (R:Nat):∀ (d n:Nat),planN R (d + 1) n = planN R d n ++ [rowN R (n / 4 ^ (R * d))]
 | 0,n=>by simp [planN]
 | d + 1,n=>by
  have e:planN R (d + 1 + 1) n = rowN R n :: planN R (d + 1) (n / 4 ^ R):=rfl
  rw [e,planN_snoc R d (n / 4 ^ R)]
  have e2:planN R (d + 1) n = rowN R n :: planN R d (n / 4 ^ R):=rfl
  rw [e2,Nat.div_div_eq_div_mul,← Nat.pow_add,Nat.mul_succ,Nat.add_comm R]
  rfl
section
variable {b:Beach}
theorem appPN {k:Nat} {x:List Int} (h:k≤10000):appOK Tryz.prog 22 k [[li x]] = true:=by
 rw [appOK_iff (by simp) (by simp)]
 simp [maxLen]; omega
theorem lPlanN7 (hb:Valid b) (x h:Nat) (hx:x≤100000) (γ3:Nat) (A:List (List V)):∀ (d r c γ:Nat),r + d = b.rows.toNat→∃ c' γ',∀ n m,d < m→loopA (execA Tryz.prog ann kn (n+200) 33) lb99_7 (ann 33 (fstR lb99_7)) m ⟨c,[(1,true,i (x / 4 ^ r:Nat)),(2,true,.ptr 0 2 0 0),(5,true,pv 31 γ3 A),(6,true,i h),(7,true,pv 25 γ ((rowN r x).map encI)),(8,true,i r)],⟨[],(2,0,.box (cellsB b)) :: (pl 25 γ 3 ((rowN r x).map encI) ++ pl 31 γ3 22 A)⟩⟩ =
  some (.exit 2,⟨c',[(18,true,.bool false),(17,true,i b.rows),(16,true,.ptr 0 2 0 1),(15,true,i b.rows),(1,true,i (x / 4 ^ b.rows.toNat:Nat)),(2,true,.ptr 0 2 0 0),(5,true,pv 31 γ3 A),(6,true,i h),(7,true,pv 25 γ' ((rowN b.rows.toNat x).map encI)),(8,true,i b.rows)],⟨[],(2,0,.box (cellsB b)) :: (pl 25 γ' 3 ((rowN b.rows.toNat x).map encI) ++ pl 31 γ3 22 A)⟩⟩)
 | 0,r,c,γ,hd=>by
  have hro:=hb.ro
  have hr:r = b.rows.toNat:=by omega
  have hr':b.rows = (r:Int):=by omega
  rw [← hr]
  refine ⟨c,γ,fun n m hm=>?_⟩
  obtain ⟨m,rfl⟩:∃ m',m = m' + 1:=⟨m - 1,by omega⟩
  rw [loopA_succ]
  generalize x / 4 ^ r = X
  simp [cellsB,hr',kl_pl2,kl_pl3,kl_pl7,get_pl2,get_pl5,get_pl6]
 | d + 1,r,c,γ,hd=>by
  have hro:=hb.ro
  have hw1:=wrapS (k:=r) (by omega)
  have hr':(r:Int) < b.rows:=by omega
  obtain ⟨c',γ',ih⟩:=lPlanN7 hb x h hx γ3 A d (r + 1) (c + 1) c (by omega)
  rw [rowN_snoc] at ih
  have hdv:x / 4 ^ (r + 1) = x / 4 ^ r / 4:=by rw [Nat.pow_succ,Nat.div_div_eq_div_mul]
  rw [hdv] at ih
  have hle:x / 4 ^ r≤x:=Nat.div_le_self _ _
  have happ:=appI1 (k:=(rowN r x).length) (x:=((x / 4 ^ r % 4:Nat):Int)) (by rw [rowN_len]; omega)
  have e1:((x / 4 ^ r:Nat):Int).tmod 4 = ((x / 4 ^ r % 4:Nat):Int):=(Int.ofNat_tmod _ 4).symm
  have e2:((x / 4 ^ r:Nat):Int).tdiv 4 = ((x / 4 ^ r / 4:Nat):Int):=(Int.ofNat_tdiv _ 4).symm
  refine ⟨c',γ',fun n m hm=>?_⟩
  obtain ⟨m,rfl⟩:∃ m',m = m' + 1:=⟨m - 1,by omega⟩
  have ih:=ih n m (by omega)
  generalize rowN b.rows.toNat x = FF at ih ⊢
  generalize x / 4 ^ b.rows.toNat = XF at ih ⊢
  generalize rowN r x = RR at ih happ ⊢
  generalize x / 4 ^ r = X at *
  have w1:IntKind.i64.wrap ((X % 4:Nat):Int) = ((X % 4:Nat):Int):=wrap_i64 (by omega) (by omega)
  have w2:IntKind.i64.wrap ((X / 4:Nat):Int) = ((X / 4:Nat):Int):=wrap_i64 (by omega) (by omega)
  generalize X % 4 = Y at *
  generalize X / 4 = Z at *
  rw [loopA_succ]
  simp only [cellsB] at ih ⊢
  simp [encI] at ih
  simp [hr',hw1,encI,ih,e1,e2,w1,w2,happ,kl_pl2,kl_pl3,kl_pl7,get_pl2,get_pl5,get_pl6]
theorem lPlanN3 (hb:Valid b) (x:Nat) (hx:x≤100000):∀ (d h c γ:Nat),h + d = (b.last + 1).toNat→∃ fr c' γ',getF fr 5 = some (true,pv 31 γ' ((planN b.rows.toNat (b.last + 1).toNat x).map encL))∧∀ n m,d < m→loopA (execA Tryz.prog ann kn (n+400) 33) lb99_3 (ann 33 (fstR lb99_3)) m ⟨c,[(1,true,i (x / 4 ^ (b.rows.toNat * h):Nat)),(2,true,.ptr 0 2 0 0),(5,true,pv 31 γ ((planN b.rows.toNat h x).map encL)),(6,true,i h)],⟨[],(2,0,.box (cellsB b)) :: pl 31 γ 22 ((planN b.rows.toNat h x).map encL)⟩⟩ =
  some (.exit 0,⟨c',fr,⟨[],(2,0,.box (cellsB b)) :: pl 31 γ' 22 ((planN b.rows.toNat (b.last + 1).toNat x).map encL)⟩⟩)
 | 0,h,c,γ,hd=>by
  have hla:=hb.la
  have hr:h = (b.last + 1).toNat:=by omega
  have hr':¬ (h:Int)≤b.last:=by omega
  rw [← hr]
  refine ⟨?fr,c,γ,?g1,fun n m hm=>?g2⟩
  case g2 =>
   obtain ⟨m,rfl⟩:∃ m',m = m' + 1:=⟨m - 1,by omega⟩
   rw [loopA_succ]
   simp [cellsB,hr']
   rfl
  case g1=>simp
 | d + 1,h,c,γ,hd=>by
  have hla:=hb.la
  have hro:=hb.ro
  have hw1:=wrapS (k:=h) (by omega)
  have hr':(h:Int)≤b.last:=by omega
  have hle:x / 4 ^ (b.rows.toNat * h)≤x:=Nat.div_le_self _ _
  obtain ⟨c1,γ1,q⟩:=lPlanN7 hb (x / 4 ^ (b.rows.toNat * h)) h (by omega) γ ((planN b.rows.toNat h x).map encL) b.rows.toNat 0 c 0 (by omega)
  have q:=fun n m=>q n (m + 100) (by omega)
  obtain ⟨fr,c',γ',e1,ih⟩:=lPlanN3 hb x hx d (h + 1) (c1 + 1) c1 (by omega)
  rw [planN_snoc] at ih
  have hdv:x / 4 ^ (b.rows.toNat * (h + 1)) = x / 4 ^ (b.rows.toNat * h) / 4 ^ b.rows.toNat:=by rw [Nat.mul_succ,Nat.pow_add,Nat.div_div_eq_div_mul]
  rw [hdv] at ih
  rw [Nat.pow_zero,Nat.div_one] at q
  have h0:rowN 0 (x / 4 ^ (b.rows.toNat * h)) = []:=rfl
  rw [h0] at q
  have happ:=appPN (k:=(planN b.rows.toNat h x).length) (x:=rowN b.rows.toNat (x / 4 ^ (b.rows.toNat * h))) (by rw [planN_len]; omega)
  have hne:rowN b.rows.toNat (x / 4 ^ (b.rows.toNat * h)) ≠ []:=by
   intro e
   have:=congrArg List.length e
   rw [rowN_len] at this
   simp at this
   omega
  refine ⟨fr,c',γ',e1,fun n m hm=>?_⟩
  obtain ⟨m,rfl⟩:∃ m',m = m' + 1:=⟨m - 1,by omega⟩
  have ih:=ih n m (by omega)
  generalize planN b.rows.toNat (b.last + 1).toNat x = FF at ih ⊢
  generalize rowN b.rows.toNat (x / 4 ^ (b.rows.toNat * h)) = RR at ih q happ hne
  generalize x / 4 ^ (b.rows.toNat * h) / 4 ^ b.rows.toNat = X2 at *
  generalize x / 4 ^ (b.rows.toNat * h) = X1 at *
  obtain ⟨y,RR,rfl⟩:=List.exists_cons_of_ne_nil hne
  have htl:∀ o,toldL 0 25 o (pl 31 γ 22 ((planN b.rows.toNat h x).map encL)) = pl 31 γ 22 ((planN b.rows.toNat h x).map encL):=fun o=>toldL_pl3 (by decide) _ _ _ (by simp [encL,encI])
  have hsl:sl ([i y] :: RR.map encI) = .list false ([i y] :: RR.map encI):=rfl
  rw [loopA_succ]
  simp only [cellsB] at ih q ⊢
  simp [encL,encI] at ih q
  have happ:appOK Tryz.prog 22 (planN b.rows.toNat h x).length [[V.list false ([i y] :: RR.map encI)]] = true:=happ
  simp [hr',hw1,encL,encI,q,ih,happ,htl,hsl,kl_pl2,kl_pl3,kl_pl7,get_pl2,get_pl5,get_pl6]
  exact ih
theorem kPlanN (n:Nat) (hb:Valid b) (x:Nat) (hx:x≤100000):callK Tryz.prog kn (execA Tryz.prog ann kn (n+600)) 99 [.agg (cellsB b),i x] = some (lli (planN b.rows.toNat (b.last + 1).toNat x)):=by
 rw [callK_of rfl,call0_eq Tryz.func99 b99 rfl (by simp [cellsB,encI,encL,encP])]
 have hla:=hb.la
 obtain ⟨fr,c',γ',e1,q⟩:=lPlanN3 hb x hx (b.last + 1).toNat 0 1 0 (by omega)
 have q:=fun n m=>q n (m + 100) (by omega)
 rw [Nat.mul_zero,Nat.pow_zero,Nat.div_one] at q
 have h0:planN b.rows.toNat 0 x = []:=rfl
 rw [h0] at q
 have hne:planN b.rows.toNat (b.last + 1).toNat x ≠ []:=fun e=>by
  have:=congrArg List.length e
  rw [planN_len] at this
  simp at this
  omega
 generalize planN b.rows.toNat (b.last + 1).toNat x = F at *
 simp only [cellsB] at q ⊢
 simp at q
 simp [c99,argFr,encI,encL,encP,q,e1]
 obtain ⟨y,F,rfl⟩:=List.exists_cons_of_ne_nil hne
 rfl
end
end Go.Proofs.Tryz.Op
/- Contract of the reference: Best. No condition but a valid beach of few plans. -/
open Go Go.Pg Go.Proofs Go.Wind
namespace Go.Proofs.Tryz.Op
set_option maxRecDepth 100000
set_option linter.unusedSimpArgs false
section
variable {b:Beach}
theorem lBestR3 (hb:Valid b) (hk:plansN (b.rows.toNat * (b.last + 1).toNat)≤256) {ws:List (List Int)} (ha:Asked b ws) (work:Int):∀ (d j:Nat),j + d = 4 ^ (b.rows.toNat * (b.last + 1).toNat)→∀ n k,d < k→loopA (execA Tryz.prog ann kn (n+4000) 32) lb38_3 (ann 32 (fstR lb38_3)) k ⟨1,[(1,true,.list false ((truthsR b).map encL)),(2,true,i work),(3,true,.ptr 0 3 0 0),(7,true,i (bestF work (fun n=>workP b (planN b.rows.toNat (b.last + 1).toNat n)) (fun n=>(totalP b ws (planN b.rows.toNat (b.last + 1).toNat n)).1) j)),(8,true,i j)],⟨[],[(3,0,.box (cellsB b))]⟩⟩ =
  some (.exit 0,⟨1,[(13,true,.bool false),(12,true,i (4 ^ (b.rows.toNat * (b.last + 1).toNat):Nat)),(11,true,.agg (cellsB b)),(10,true,i (4 ^ (b.rows.toNat * (b.last + 1).toNat):Nat)),(1,true,.list false ((truthsR b).map encL)),(2,true,i work),(3,true,.ptr 0 3 0 0),(7,true,i (bestF work (fun n=>workP b (planN b.rows.toNat (b.last + 1).toNat n)) (fun n=>(totalP b ws (planN b.rows.toNat (b.last + 1).toNat n)).1) (4 ^ (b.rows.toNat * (b.last + 1).toNat)))),(8,true,i (4 ^ (b.rows.toNat * (b.last + 1).toNat):Nat))],⟨[],[(3,0,.box (cellsB b))]⟩⟩)
 | 0,j,hd,n,k,hk2=>by
  have qP:=fun n=>kPlans n hb
  rw [(plansN_small hk).1] at qP
  have hj:j = 4 ^ (b.rows.toNat * (b.last + 1).toNat):=by omega
  rw [← hj] at qP ⊢
  obtain ⟨k,rfl⟩:∃ k',k = k' + 1:=⟨k - 1,by omega⟩
  rw [loopA_succ]
  generalize bestF work (fun n=>workP b (planN b.rows.toNat (b.last + 1).toNat n)) (fun n=>(totalP b ws (planN b.rows.toNat (b.last + 1).toNat n)).1) j = F
  generalize truthsR b = T
  simp only [cellsB] at qP ⊢
  simp [qP,encI,encL,encP]
 | d + 1,j,hd,n,k,hk2=>by
  have qP:=fun n=>kPlans n hb
  obtain ⟨hk3,hk4⟩:=plansN_small hk
  rw [hk3] at qP
  have h256:4 ^ (b.rows.toNat * (b.last + 1).toNat)≤256:=by omega
  have hj:(j:Int) < ((4 ^ (b.rows.toNat * (b.last + 1).toNat):Nat):Int):=by omega
  have hw:=wrapS (k:=j) (by omega)
  have qN:=fun n=>kPlanN n hb j (by omega)
  have hpo:=plan_of (planN_ok hb j)
  have qW:=fun n=>kWorkR n hb hpo
  rw [← work_eq hb hpo] at qW
  have hTl:(truthsR b).length≤1100:=by
   have h1:=hb.many
   have h2:(truthsR b).length≤((List.range (manyN b.winds)).map (nthGo b.winds)).length:=List.length_filter_le _ _
   rw [List.length_map,List.length_range] at h2
   omega
  have qT:=fun n=>kTotalR n hb hpo (truthsR b) (fun t ht=>truth_listed ht) hTl
  change ∀ n,_ = some (V.agg (encR (refTotal b (planN b.rows.toNat (b.last + 1).toNat j)))) at qT
  rw [refTotal_eq hb ha hpo] at qT
  have ih:=lBestR3 hb hk ha work d (j + 1) (by omega) n (k - 1) (by omega)
  obtain ⟨k,rfl⟩:∃ k',k = k' + 1:=⟨k - 1,by omega⟩
  rw [Nat.add_sub_cancel] at ih
  have e1:bestF work (fun n=>workP b (planN b.rows.toNat (b.last + 1).toNat n)) (fun n=>(totalP b ws (planN b.rows.toNat (b.last + 1).toNat n)).1) (j + 1) = if workP b (planN b.rows.toNat (b.last + 1).toNat j)≤work then max (bestF work (fun n=>workP b (planN b.rows.toNat (b.last + 1).toNat n)) (fun n=>(totalP b ws (planN b.rows.toNat (b.last + 1).toNat n)).1) j) (totalP b ws (planN b.rows.toNat (b.last + 1).toNat j)).1 else bestF work (fun n=>workP b (planN b.rows.toNat (b.last + 1).toNat n)) (fun n=>(totalP b ws (planN b.rows.toNat (b.last + 1).toNat n)).1) j:=rfl
  rw [e1] at ih
  generalize bestF work (fun n=>workP b (planN b.rows.toNat (b.last + 1).toNat n)) (fun n=>(totalP b ws (planN b.rows.toNat (b.last + 1).toNat n)).1) (4 ^ (b.rows.toNat * (b.last + 1).toNat)) = FF at ih ⊢
  generalize bestF work (fun n=>workP b (planN b.rows.toNat (b.last + 1).toNat n)) (fun n=>(totalP b ws (planN b.rows.toNat (b.last + 1).toNat n)).1) j = F at ih ⊢
  generalize totalP b ws (planN b.rows.toNat (b.last + 1).toNat j) = R at *
  generalize workP b (planN b.rows.toNat (b.last + 1).toNat j) = W at *
  generalize planN b.rows.toNat (b.last + 1).toNat j = P at *
  generalize 4 ^ (b.rows.toNat * (b.last + 1).toNat) = X at *
  generalize truthsR b = T at *
  rw [loopA_succ]
  by_cases hc:W≤work
  ·rw [if_pos hc] at ih
   simp only [cellsB,encR] at qP qN qW qT ih ⊢
   simp at ih
   simp [qP,qN,qW,qT,hj,hw,hc,encI,encL,encP,max_lt,ih]
  ·rw [if_neg hc] at ih
   simp only [cellsB,encR] at qP qN qW qT ih ⊢
   simp at ih
   simp [qP,qN,qW,qT,hj,hw,hc,encI,encL,encP,ih]
theorem kBestR (n:Nat) (hb:Valid b) (hk:plansN (b.rows.toNat * (b.last + 1).toNat)≤256) {ws:List (List Int)} (ha:Asked b ws) (work:Int) (h0:0≤work):callK Tryz.prog kn (execA Tryz.prog ann kn (n+4500)) 38 [.agg (cellsB b),.list false ((truthsR b).map encL),i work] = some (i (bestV b ws work)):=by
 rw [callK_of rfl,call0_eq Tryz.func38 b38 rfl (by simp [cellsB,encI,encL,encP])]
 have h256:4 ^ (b.rows.toNat * (b.last + 1).toNat)≤256:=by have:=(plansN_small hk).1; omega
 have q:=fun n k=>lBestR3 hb hk ha work (4 ^ (b.rows.toNat * (b.last + 1).toNat)) 0 (by omega) n (k + 300) (by omega)
 rw [bestF_eq hb ha h0] at q
 have e0:bestF work (fun n=>workP b (planN b.rows.toNat (b.last + 1).toNat n)) (fun n=>(totalP b ws (planN b.rows.toNat (b.last + 1).toNat n)).1) 0 = -1:=rfl
 rw [e0] at q
 generalize bestV b ws work = V at *
 generalize 4 ^ (b.rows.toNat * (b.last + 1).toNat) = X at *
 generalize truthsR b = T at *
 simp only [cellsB] at q ⊢
 simp at q
 simp [c38,argFr,encI,encL,encP,q]
end
end Go.Proofs.Tryz.Op
