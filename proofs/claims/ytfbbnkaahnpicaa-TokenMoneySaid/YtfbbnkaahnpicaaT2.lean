/- The walk of TokenOut: true. No condition. -/
import Derived.Test.YtfbbnkaahnpicaaLa
import Derived.Test.YtfbbnkaahnpicaaFz
open Go Go.Pg Go.Proofs
namespace Go.Proofs.Try.Op
set_option maxRecDepth 100000
set_option linter.unusedSimpArgs false

@[simp] theorem clT (f : Nat) (L : List (List Line)) : L.all ((fun e => e.all (closedV (f + 2))) ∘ encT) = true := by
  rw [List.all_eq_true]
  intro t _
  simp [encT, encL]
@[simp] theorem clL (f : Nat) (L : List Line) : L.all ((fun e => e.all (closedV (f + 1))) ∘ encL) = true := by
  rw [List.all_eq_true]
  intro t _
  simp [encL]
@[simp] theorem clC (f : Nat) (L : List Count) : L.all ((fun e => e.all (closedV (f + 1))) ∘ encC) = true := by
  rw [List.all_eq_true]
  intro t _
  simp [encC]
@[simp] theorem clI (f : Nat) (L : List Int) : L.all ((fun e => e.all (closedV (f + 1))) ∘ encI) = true := by
  rw [List.all_eq_true]
  intro t _
  simp [encI]
theorem truthsR_len {b : Book} (hf : faultB b = 0) : (∀ t ∈ truthsR b, t.length = b.lines.length) ∧ (truthsR b).length ≤ 4096 := by
  obtain ⟨h1, h4, hl8, hc4, hc1, hc2, hx1, hx2, hok, hcok, hm⟩ := fault0 hf
  refine ⟨fun t ht => ?_, ?_⟩
  · have := (truthsR_mem hf).1 ht
    simp only [fitsB, Bool.and_eq_true] at this
    exact ((isRead_iff h1 hok).1 this.1).len
  · unfold truthsR trGo
    refine Nat.le_trans (List.length_filter_le _ _) ?_
    simp
    omega
theorem asked_eq {b : Book} {fine : Bool} (hf : faultB b = 0) : askedP b fine = if fine = true then (if truthsR b = [] then 11 else 0) else 2 := by
  unfold askedP
  rw [check_eq, hf, if_pos rfl]
  cases fine with
  | false => rfl
  | true =>
    simp only [if_true]
    by_cases h : truthsR b = []
    · have : possP b = false := by
        cases hp : possP b with
        | false => rfl
        | true => exact absurd h ((poss_R hf).1 hp)
      rw [this, if_pos h]; rfl
    · rw [(poss_R hf).2 h, if_neg h]; rfl
theorem asked_bad {b : Book} {fine : Bool} (hf : faultB b ≠ 0) : askedP b fine = faultB b := by
  unfold askedP
  rw [check_eq, if_neg hf]
end Go.Proofs.Try.Op
/- Contracts: Empty, Wider, Bounds, Mix of the reference. No condition. -/
open Go Go.Pg Go.Proofs
namespace Go.Proofs.Try.Op
set_option maxRecDepth 100000
set_option linter.unusedSimpArgs false
theorem k77 (n : Nat) : callK Try.prog kn (execA Try.prog ann kn (n+100)) 77 [] = some (.agg [i 1099511627776, i (-1099511627776)]) := by
  rw [callK_of rfl, call0_eq Try.func77 b77 rfl rfl]
  simp [c77, argFr]
  done
theorem k78 (n : Nat) (lo hi x : Int) : callK Try.prog kn (execA Try.prog ann kn (n+100)) 78 [.agg [i lo, i hi], i x] = some (.agg [i (minI lo x), i (maxI hi x)]) := by
  rw [callK_of rfl, call0_eq Try.func78 b78 rfl (by simp)]
  simp [c78, argFr, minI, maxI]
  done
def wid (f : List Line → Int) (r : Int × Int) (L : List (List Line)) : Int × Int := L.foldl (fun r t => (minI r.1 (f t), maxI r.2 (f t))) r
def boundsR (f : List Line → Int) (L : List (List Line)) : Int × Int := wid f (1099511627776, -1099511627776) L
theorem l31 (b : Book) (hc1 : 1 ≤ b.coin) (hc2 : b.coin ≤ 99) (hx1 : 0 ≤ b.box) (hx2 : b.box ≤ 999) (L : List (List Line)) (k : Nat) (hL : ∀ t ∈ L, k ≤ t.length ∧ t.length ≤ 90) (hlen : L.length ≤ 5000) : ∀ (d j c : Nat) (lo hi : Int), j + d = L.length → 4 ≤ c → ∃ c' : Nat, 4 ≤ c' ∧ ∀ n m, d < m →
    loopA (execA Try.prog ann kn (n+250) 26) lb31_3 (some ([1, 2, 3, 6, 7, 8], [3, 6, 7])) m ⟨c, [(1, true, .list false (L.map encT)), (2, true, i k), (3, true, .ptr 0 3 0 0), (6, true, .ptr 0 6 1 0), (7, true, .ptr 0 7 3 0), (8, true, i j)], ⟨[], [(3, 0, .box (cellsB b)), (6, 1, .box [i 0, i 0]), (7, 3, .box [i lo, i hi])]⟩⟩ =
      some (.exit 0, ⟨c', [(13, true, .bool false), (12, true, i L.length), (11, true, .list false (L.map encT)), (10, true, i L.length), (1, true, .list false (L.map encT)), (2, true, i k), (3, true, .ptr 0 3 0 0), (6, true, .ptr 0 6 1 0), (7, true, .ptr 0 7 3 0), (8, true, i L.length)], ⟨[], [(3, 0, .box (cellsB b)), (6, 1, .box [i 0, i 0]), (7, 3, .box [i (wid (fun t => moneyB b t k) (lo, hi) (L.drop j)).1, i (wid (fun t => moneyB b t k) (lo, hi) (L.drop j)).2])]⟩⟩)
  | 0, j, c, lo, hi, hd, hc => by
    have : j = L.length := by omega
    subst this
    refine ⟨c, hc, fun n m hm => ?_⟩
    obtain ⟨m, rfl⟩ : ∃ m', m = m' + 1 := ⟨m - 1, by omega⟩
    simp [loopA_succ, cellsB, wid]
  | d + 1, j, c, lo, hi, hd, hc => by
    have hj : j < L.length := by omega
    have hw : IntKind.i64.wrap ((j : Int) + 1) = (j : Int) + 1 := wrap_i64 (by omega) (by omega)
    have hh := hL _ (List.getElem_mem hj)
    have q44 := fun n => k44 n b hc1 hc2 hx1 hx2 L[j] k hh.1 hh.2
    have q78 := fun n lo hi x => k78 n lo hi x
    have hwid : wid (fun t => moneyB b t k) (lo, hi) (L.drop j) = wid (fun t => moneyB b t k) (minI lo (moneyB b L[j] k), maxI hi (moneyB b L[j] k)) (L.drop (j + 1)) := by
      rw [List.drop_eq_getElem_cons hj]; rfl
    rw [hwid]
    obtain ⟨c', i1, ih⟩ := l31 b hc1 hc2 hx1 hx2 L k hL hlen d (j + 1) (c + 1) (minI lo (moneyB b L[j] k)) (maxI hi (moneyB b L[j] k)) (by omega) (by omega)
    refine ⟨c', i1, fun n m hm => ?_⟩
    obtain ⟨m, rfl⟩ : ∃ m', m = m' + 1 := ⟨m - 1, by omega⟩
    have ih := ih n m (by omega)
    have e2 : 3 < c + 1 := by omega
    generalize wid _ _ _ = w at ih ⊢
    rw [loopA_succ]
    simp only [cellsB] at q44 ih ⊢
    simp at ih
    simp [hj, hw, encT, encL, encC, q44, q78, e2, ih]
    done
theorem k31 (n : Nat) (b : Book) (hc1 : 1 ≤ b.coin) (hc2 : b.coin ≤ 99) (hx1 : 0 ≤ b.box) (hx2 : b.box ≤ 999) (L : List (List Line)) (k : Nat) (hL : ∀ t ∈ L, k ≤ t.length ∧ t.length ≤ 90) (hlen : L.length ≤ 5000) :
    callK Try.prog kn (execA Try.prog ann kn (n+5300)) 31 [.agg (cellsB b), .list false (L.map encT), i k] = some (.agg [i (boundsR (fun t => moneyB b t k) L).1, i (boundsR (fun t => moneyB b t k) L).2]) := by
  rw [callK_of rfl, call0_eq Try.func31 b31 rfl (by simp [cellsB, encT, encL, encC])]
  have q77 := fun n => k77 n
  obtain ⟨c', i1, ih⟩ := l31 b hc1 hc2 hx1 hx2 L k hL hlen L.length 0 4 1099511627776 (-1099511627776) (by omega) (by omega)
  have ih := ih (n + 5044) (n + 5294) (by omega)
  have e1 : 1 < c' := by omega
  have hR : boundsR (fun t => moneyB b t k) L = wid (fun t => moneyB b t k) (1099511627776, -1099511627776) (L.drop 0) := rfl
  rw [hR]
  generalize wid _ _ _ = w at ih ⊢
  simp only [cellsB] at ih ⊢
  simp at ih
  simp [c31, argFr, encT, encL, encC, q77, ih, e1]
  done
theorem l32 (L : List (List Line)) (hL : ∀ t ∈ L, t.length ≤ 90) (hlen : L.length ≤ 5000) : ∀ (d j c : Nat) (lo hi : Int), j + d = L.length → 3 ≤ c → ∃ c' : Nat, 3 ≤ c' ∧ ∀ n m, d < m →
    loopA (execA Try.prog ann kn (n+250) 20) lb32_3 (some ([0, 2, 3, 4], [2, 3])) m ⟨c, [(0, true, .list false (L.map encT)), (2, true, .ptr 0 2 0 0), (3, true, .ptr 0 3 2 0), (4, true, i j)], ⟨[], [(2, 0, .box [i 0, i 0]), (3, 2, .box [i lo, i hi])]⟩⟩ =
      some (.exit 0, ⟨c', [(9, true, .bool false), (8, true, i L.length), (7, true, .list false (L.map encT)), (6, true, i L.length), (0, true, .list false (L.map encT)), (2, true, .ptr 0 2 0 0), (3, true, .ptr 0 3 2 0), (4, true, i L.length)], ⟨[], [(2, 0, .box [i 0, i 0]), (3, 2, .box [i (wid mixB (lo, hi) (L.drop j)).1, i (wid mixB (lo, hi) (L.drop j)).2])]⟩⟩)
  | 0, j, c, lo, hi, hd, hc => by
    have : j = L.length := by omega
    subst this
    refine ⟨c, hc, fun n m hm => ?_⟩
    obtain ⟨m, rfl⟩ : ∃ m', m = m' + 1 := ⟨m - 1, by omega⟩
    simp [loopA_succ, wid]
  | d + 1, j, c, lo, hi, hd, hc => by
    have hj : j < L.length := by omega
    have hw : IntKind.i64.wrap ((j : Int) + 1) = (j : Int) + 1 := wrap_i64 (by omega) (by omega)
    have q45 := fun n => k45 n L[j] (hL _ (List.getElem_mem hj))
    have q78 := fun n lo hi x => k78 n lo hi x
    have hwid : wid mixB (lo, hi) (L.drop j) = wid mixB (minI lo (mixB L[j]), maxI hi (mixB L[j])) (L.drop (j + 1)) := by
      rw [List.drop_eq_getElem_cons hj]; rfl
    rw [hwid]
    obtain ⟨c', i1, ih⟩ := l32 L hL hlen d (j + 1) (c + 1) (minI lo (mixB L[j])) (maxI hi (mixB L[j])) (by omega) (by omega)
    refine ⟨c', i1, fun n m hm => ?_⟩
    obtain ⟨m, rfl⟩ : ∃ m', m = m' + 1 := ⟨m - 1, by omega⟩
    have ih := ih n m (by omega)
    have e2 : 2 < c + 1 := by omega
    generalize wid _ _ _ = w at ih ⊢
    rw [loopA_succ]
    simp at ih
    simp [hj, hw, encT, encL, q45, q78, e2, ih]
    done
theorem k32 (n : Nat) (L : List (List Line)) (hL : ∀ t ∈ L, t.length ≤ 90) (hlen : L.length ≤ 5000) :
    callK Try.prog kn (execA Try.prog ann kn (n+5300)) 32 [.list false (L.map encT)] = some (.agg [i (boundsR mixB L).1, i (boundsR mixB L).2]) := by
  rw [callK_of rfl, call0_eq Try.func32 b32 rfl (by simp [encT, encL])]
  have q77 := fun n => k77 n
  obtain ⟨c', i1, ih⟩ := l32 L hL hlen L.length 0 3 1099511627776 (-1099511627776) (by omega) (by omega)
  have ih := ih (n + 5044) (n + 5294) (by omega)
  have e1 : 0 < c' := by omega
  have hR : boundsR mixB L = wid mixB (1099511627776, -1099511627776) (L.drop 0) := rfl
  rw [hR]
  generalize wid _ _ _ = w at ih ⊢
  simp at ih
  simp [c32, argFr, encT, encL, q77, ih, e1]
  done
theorem wid_of (f : List Line → Int) : ∀ (L : List (List Line)) (lo hi : Int), (∀ t ∈ L, lo ≥ (wid f (lo, hi) L).1 ∧ (wid f (lo, hi) L).1 ≤ f t ∧ f t ≤ (wid f (lo, hi) L).2) ∧ (wid f (lo, hi) L).1 ≤ lo ∧ hi ≤ (wid f (lo, hi) L).2 ∧ ((wid f (lo, hi) L).1 = lo ∨ ∃ t ∈ L, f t = (wid f (lo, hi) L).1) ∧ ((wid f (lo, hi) L).2 = hi ∨ ∃ t ∈ L, f t = (wid f (lo, hi) L).2)
  | [], lo, hi => ⟨fun t ht => by simp at ht, by simp [wid], by simp [wid], .inl rfl, .inl rfl⟩
  | x :: L, lo, hi => by
    obtain ⟨i1, i2, i3, i4, i5⟩ := wid_of f L (minI lo (f x)) (maxI hi (f x))
    have hr : wid f (lo, hi) (x :: L) = wid f (minI lo (f x), maxI hi (f x)) L := rfl
    rw [hr]
    generalize wid f (minI lo (f x), maxI hi (f x)) L = w at i1 i2 i3 i4 i5 ⊢
    have m1 : minI lo (f x) ≤ lo ∧ minI lo (f x) ≤ f x ∧ (minI lo (f x) = lo ∨ minI lo (f x) = f x) := by unfold minI; split <;> omega
    have m2 : hi ≤ maxI hi (f x) ∧ f x ≤ maxI hi (f x) ∧ (maxI hi (f x) = hi ∨ maxI hi (f x) = f x) := by unfold maxI; split <;> omega
    refine ⟨fun t ht => ?_, by omega, by omega, ?_, ?_⟩
    · rcases List.mem_cons.1 ht with rfl | ht
      · omega
      · have := i1 t ht; omega
    · rcases i4 with h | ⟨t, ht, e⟩
      · rcases m1.2.2 with h' | h'
        · exact .inl (by omega)
        · exact .inr ⟨x, by simp, by omega⟩
      · exact .inr ⟨t, by simp [ht], e⟩
    · rcases i5 with h | ⟨t, ht, e⟩
      · rcases m2.2.2 with h' | h'
        · exact .inl (by omega)
        · exact .inr ⟨x, by simp, by omega⟩
      · exact .inr ⟨t, by simp [ht], e⟩
theorem boundsR_of {f : List Line → Int} {L : List (List Line)} (hL : L ≠ []) (hf : ∀ t ∈ L, -1000000 ≤ f t ∧ f t ≤ 1000000) : BoundsOf L f (boundsR f L) := by
  obtain ⟨i1, i2, i3, i4, i5⟩ := wid_of f L 1099511627776 (-1099511627776)
  obtain ⟨t0, ht0⟩ := List.exists_mem_of_ne_nil _ hL
  have b0 := hf t0 ht0
  have c0 := i1 t0 ht0
  refine ⟨fun t ht => ⟨(i1 t ht).2.1, (i1 t ht).2.2⟩, ?_, ?_⟩
  · rcases i4 with h | h
    · exfalso; omega
    · exact h
  · rcases i5 with h | h
    · exfalso; omega
    · exact h
theorem moneyGo_range (coin : Int) (h1 : 1 ≤ coin) (h2 : coin ≤ 99) : ∀ (l : List Line) (v : Int), v - 99 * l.length ≤ moneyGo coin v l ∧ moneyGo coin v l ≤ v + 99 * l.length
  | [], v => by simp [moneyGo]
  | t :: l, v => by
    simp only [moneyGo, List.length_cons]
    have := moneyGo_range coin h1 h2 l (if t.k = 1 then v + coin else v - coin)
    split at this <;> (rename_i h; simp only [h, if_true, if_false]; omega)
theorem mixGo_range (ts : List Line) : ∀ (l : List Line) (k : Nat) (v : Int), v ≤ mixGo ts k v l ∧ mixGo ts k v l ≤ v + l.length
  | [], k, v => by simp [mixGo]
  | t :: l, k, v => by
    simp only [mixGo, List.length_cons]
    have := mixGo_range ts l (k + 1) (if mixOne ts k t = true then v + 1 else v)
    split at this <;> (rename_i h; simp only [h]; simp at *; omega)
theorem money_range {b : Book} (hf : faultB b = 0) {t : List Line} (ht : t.length = b.lines.length) (k : Nat) : -1000 ≤ moneyB b t k ∧ moneyB b t k ≤ 2000 := by
  obtain ⟨h1, h4, hl8, hc4, hc1, hc2, hx1, hx2, hok, hcok, hm⟩ := fault0 hf
  have := moneyGo_range b.coin hc1 hc2 (t.take k) b.box
  unfold moneyB
  have hl : (t.take k).length ≤ 8 := by simp; omega
  omega
theorem mix_range {b : Book} (hf : faultB b = 0) {t : List Line} (ht : t.length = b.lines.length) : 0 ≤ mixB t ∧ mixB t ≤ 8 := by
  obtain ⟨h1, h4, hl8, _⟩ := fault0 hf
  have := mixGo_range t t 0 0
  unfold mixB
  omega
/-- the bounds of the program are the reference's -/
theorem moneyR {b : Book} (hf : faultB b = 0) {k : Nat} (hk : k ≤ b.lines.length) (h : truthsR b ≠ []) : boundsP b Scene.money k = boundsR (fun t => moneyB b t k) (truthsR b) := by
  obtain ⟨t1, _⟩ := truthsR_len hf
  exact (boundsM hf hk h).uniq (boundsR_of h fun t ht => by have := money_range hf (t1 t ht) k; omega) fun v => Iff.rfl
theorem mixR {b : Book} (hf : faultB b = 0) (h : truthsR b ≠ []) : boundsP b Scene.mixed b.lines.length = boundsR mixB (truthsR b) := by
  obtain ⟨t1, _⟩ := truthsR_len hf
  exact (boundsX hf h).uniq (boundsR_of h fun t ht => by have := mix_range hf (t1 t ht); omega) fun v => Iff.rfl
end Go.Proofs.Try.Op
