/- The plain law of Leave: what is left out, by a list and by bits. No condition. -/
import Derived.Test.YtfbbnkaahnpicaaV
import Derived.Test.YtfbbnkaahnpicaaFz
import Derived.Test.YtfbbnkaahnpicaaT3
open Go Go.Pg Go.Proofs
namespace Go.Proofs.Try.Op
set_option maxRecDepth 100000
set_option linter.unusedSimpArgs false
def bitsC (x a : Nat) : Nat := (List.range a).countP fun i => x.testBit i
theorem bits_len (x N : Nat) : (bitsB x N).length = bitsC x N := by
  unfold bitsB bitsC
  rw [List.length_map, List.countP_eq_length_filter]
theorem bitsC_succ (x a : Nat) : bitsC x (a + 1) = bitsC x a + if x.testBit a = true then 1 else 0 := by
  unfold bitsC
  rw [List.range_succ, List.countP_append]
  simp [List.countP_cons]
theorem bitsC_mono (x a : Nat) : ∀ d, bitsC x a ≤ bitsC x (a + d)
  | 0 => Nat.le_refl _
  | d + 1 => by
    have := bitsC_mono x a d
    rw [← Nat.add_assoc, bitsC_succ]
    omega
theorem bitsC_le (x : Nat) : ∀ a, bitsC x a ≤ a
  | 0 => Nat.le_refl _
  | a + 1 => by
    have := bitsC_le x a
    rw [bitsC_succ]
    split <;> omega
theorem bitsC_congr {x y : Nat} : ∀ (a : Nat), (∀ i, i < a → x.testBit i = y.testBit i) → bitsC x a = bitsC y a
  | 0, _ => rfl
  | a + 1, h => by
    rw [bitsC_succ, bitsC_succ, bitsC_congr a fun i hi => h i (by omega), h a (by omega)]
theorem bitsC_and (x a : Nat) : ∀ d, bitsC (x &&& (2 ^ a - 1)) (a + d) = bitsC x a
  | 0 => bitsC_congr a fun i hi => by
    rw [Nat.testBit_and, Nat.testBit_two_pow_sub_one, decide_eq_true hi, Bool.and_true]
  | d + 1 => by
    rw [← Nat.add_assoc, bitsC_succ, bitsC_and x a d, Nat.testBit_and, Nat.testBit_two_pow_sub_one, decide_eq_false (by omega), Bool.and_false]
    simp
theorem bitsC_not {x y : Nat} : ∀ (a : Nat), (∀ i, i < a → y.testBit i = !x.testBit i) → bitsC y a = a - bitsC x a
  | 0, _ => rfl
  | a + 1, h => by
    have ih := bitsC_not a fun i hi => h i (by omega)
    have hl := bitsC_le x a
    rw [bitsC_succ, bitsC_succ, ih, h a (by omega)]
    cases x.testBit a <;> simp <;> omega
theorem mask_bit {x N : Nat} (hx : x < 2 ^ N) {i : Nat} (hi : i < N) : (2 ^ N - 1 - x).testBit i = !x.testBit i := by
  rw [show 2 ^ N - 1 - x = 2 ^ N - (x + 1) by omega, Nat.testBit_two_pow_sub_succ hx, decide_eq_true hi, Bool.true_and]
theorem pick_len (x : Nat) : ∀ (ls : List Line) (j : Nat), bitsC x j + (pickL x j ls).length = bitsC x (j + ls.length)
  | [], j => rfl
  | l :: r, j => by
    have ih := pick_len x r (j + 1)
    rw [List.length_cons, show j + (r.length + 1) = j + 1 + r.length by omega, ← ih, bitsC_succ]
    have e : pickL x j (l :: r) = if x.testBit j = true then l :: pickL x (j + 1) r else pickL x (j + 1) r := rfl
    rw [e]
    by_cases h : x.testBit j = true
    · rw [if_pos h, if_pos h, List.length_cons]; omega
    · rw [if_neg h, if_neg h]; omega
theorem pick_len0 (x : Nat) (ls : List Line) : (pickL x 0 ls).length = bitsC x ls.length := by
  have := pick_len x ls 0
  rw [Nat.zero_add] at this
  have h0 : bitsC x 0 = 0 := rfl
  omega
theorem pick_sub (x : Nat) : ∀ (ls : List Line) (j : Nat), (pickL x j ls).Sublist ls
  | [], _ => List.Sublist.refl _
  | l :: r, j => by
    have ih := pick_sub x r (j + 1)
    unfold pickL
    split
    · exact ih.cons_cons l
    · exact ih.cons l
theorem many_sub {C : Int} {ls' ls : List Line} (h : ls'.Sublist ls) : ∀ (n' n : Int), 0 ≤ n' → n' ≤ n → n' ≤ 5000 → n ≤ 5000 → (∀ l ∈ ls, 0 < (readings C l).length) → manyGo C n' ls' ≤ manyGo C n ls := by
  induction h with
  | slnil => intro n' n _ h _ _ _; exact h
  | cons a h ih =>
    intro n' n h0 h1 h5 h5n hl
    have ha := hl a (by simp)
    have hm : n * 1 ≤ n * ((readings C a).length : Int) := Int.mul_le_mul_of_nonneg_left (by omega) (by omega)
    exact ih n' (min5 (n * ((readings C a).length : Int))) h0 (by unfold min5; split <;> omega) h5 (by unfold min5; split <;> omega) fun l hx => hl l (by simp [hx])
  | cons_cons a h ih =>
    intro n' n h0 h1 h5 h5n hl
    have hm : n' * ((readings C a).length : Int) ≤ n * ((readings C a).length : Int) := Int.mul_le_mul_of_nonneg_right h1 (Int.natCast_nonneg _)
    have hz : 0 ≤ n' * ((readings C a).length : Int) := Int.mul_nonneg h0 (Int.natCast_nonneg _)
    exact ih (min5 (n' * ((readings C a).length : Int))) (min5 (n * ((readings C a).length : Int))) (by unfold min5; split <;> omega) (by unfold min5; split <;> split <;> omega) (by unfold min5; split <;> omega) (by unfold min5; split <;> omega) fun l hx => hl l (by simp [hx])
theorem count_rng {b : Book} (hf : faultB b = 0) {c : Count} (hc : c ∈ b.counts) : 0 ≤ c.a ∧ c.a ≤ b.lines.length ∧ (!decide (c.lo < 0) && (!decide (c.hi < c.lo) && !decide (2000 < c.hi))) = true := by
  obtain ⟨_, _, _, _, _, _, _, _, _, hcok, _⟩ := fault0 hf
  have := List.all_eq_true.1 hcok c hc
  unfold countOk inB at this
  rw [Bool.and_eq_true, Bool.and_eq_true, decide_eq_true_iff, decide_eq_true_iff] at this
  exact ⟨this.1.1, this.1.2, this.2⟩
theorem some_fault {b : Book} (hf : faultB b = 0) (x : Nat) : faultB (someB x b.lines.length b) = 0 := by
  obtain ⟨h1, h4, hl8, hc4, hc1, hc2, hx1, hx2, hok, hcok, hm⟩ := fault0 hf
  have hs := pick_sub x b.lines 0
  have hlen := hs.length_le
  have e1 : (pickL x 0 b.lines).all (lineOk b.chairs) = true := List.all_eq_true.2 fun y hy => List.all_eq_true.1 hok y (hs.subset hy)
  have e2 := many_sub (C := b.chairs) hs 1 1 (by decide) (Int.le_refl _) (by decide) (by decide) fun l hl => readings_pos h1 h4 (List.all_eq_true.1 hok l hl)
  have e3 : ¬ 4096 < manyGo b.chairs 1 (pickL x 0 b.lines) := by omega
  have e4 : (b.counts.map (cntS x b.lines.length)).all (countOk (pickL x 0 b.lines).length) = true := List.all_eq_true.2 fun y hy => by
    obtain ⟨c, hc, rfl⟩ := List.mem_map.1 hy
    obtain ⟨a1, a2, a3⟩ := count_rng hf hc
    obtain ⟨a, ha⟩ : ∃ a : Nat, c.a = a := ⟨c.a.toNat, by omega⟩
    obtain ⟨d, hd⟩ : ∃ d, b.lines.length = a + d := ⟨b.lines.length - a, by omega⟩
    have hb : bitsC (x &&& (2 ^ c.a.toNat - 1)) b.lines.length = bitsC x a := by rw [hd, ha, Int.toNat_natCast, bitsC_and]
    have hmo := bitsC_mono x a d
    rw [← hd] at hmo
    unfold countOk cntS inB
    simp only
    rw [a3, Bool.and_true, Bool.and_eq_true, decide_eq_true_iff, decide_eq_true_iff, bits_len, hb, pick_len0]
    omega
  have l8 : ¬ 8 < (pickL x 0 b.lines).length := by omega
  have c4 : ¬ 4 < b.counts.length := by omega
  simp only [faultB, someB, List.length_map, l8, c4, decide_false, e1, inB, h1, h4, hc1, hc2, hx1, hx2, e3, e4]
  simp
theorem mem_bits {x N j : Nat} : ((j : Int) ∈ bitsB x N) ↔ j < N ∧ x.testBit j = true := by
  unfold bitsB
  rw [List.mem_map]
  constructor
  · rintro ⟨i, hi, e⟩
    rw [List.mem_filter, List.mem_range] at hi
    have : i = j := by omega
    subst this
    exact hi
  · intro h
    exact ⟨j, by rw [List.mem_filter, List.mem_range]; exact h, rfl⟩
theorem less_bits (x : Nat) : ∀ (N a : Nat), a ≤ N → less (bitsB x N) (a : Int) = bitsC x a
  | 0, a, h => by
    have : a = 0 := by omega
    subst this
    rfl
  | N + 1, a, h => by
    rw [bitsB_succ]
    by_cases ha : a ≤ N
    · have ih := less_bits x N a ha
      split
      · unfold less at ih ⊢
        rw [List.countP_append, ih, List.countP_cons_of_neg (by simp; omega)]
        rfl
      · exact ih
    · have e : a = N + 1 := by omega
      subst e
      have hall : ∀ (M : Nat), M ≤ N + 1 → less (bitsB x M) ((N + 1 : Nat) : Int) = bitsC x M := fun M hM => by
        unfold less
        rw [← bits_len]
        refine List.countP_eq_length.2 fun y hy => ?_
        unfold bitsB at hy
        obtain ⟨i, hi, rfl⟩ := List.mem_map.1 hy
        rw [List.mem_filter, List.mem_range] at hi
        simp
        omega
      have := hall (N + 1) (Nat.le_refl _)
      rw [bitsB_succ] at this
      exact this
theorem wo_some {b : Book} (hf : faultB b = 0) {x : Nat} (hx : x < 2 ^ b.lines.length) : woB b (bitsB x b.lines.length) = someB (2 ^ b.lines.length - 1 - x) b.lines.length b := by
  have hl : ∀ (ls : List Line) (j : Nat), j + ls.length = b.lines.length → wlGo (bitsB x b.lines.length) j ls = pickL (2 ^ b.lines.length - 1 - x) j ls := by
    intro ls
    induction ls with
    | nil => intro j _; rfl
    | cons l r ih =>
      intro j hj
      have hj : j + (r.length + 1) = b.lines.length := hj
      have ih := ih (j + 1) (by omega)
      have e1 : wlGo (bitsB x b.lines.length) j (l :: r) = if (j : Int) ∈ bitsB x b.lines.length then wlGo (bitsB x b.lines.length) (j + 1) r else l :: wlGo (bitsB x b.lines.length) (j + 1) r := rfl
      have e2 : pickL (2 ^ b.lines.length - 1 - x) j (l :: r) = if (2 ^ b.lines.length - 1 - x).testBit j = true then l :: pickL (2 ^ b.lines.length - 1 - x) (j + 1) r else pickL (2 ^ b.lines.length - 1 - x) (j + 1) r := rfl
      rw [e1, e2, mask_bit hx (show j < b.lines.length by omega), ih]
      by_cases h : x.testBit j = true
      · rw [if_pos (mem_bits.2 ⟨by omega, h⟩), if_neg (by rw [h]; decide)]
      · have h' : x.testBit j = false := by simpa using h
        rw [if_neg (fun hh => h (mem_bits.1 hh).2), if_pos (by rw [h']; rfl)]
  have hcn : b.counts.map (wc (bitsB x b.lines.length)) = b.counts.map (cntS (2 ^ b.lines.length - 1 - x) b.lines.length) := by
    refine List.map_congr_left fun c hc => ?_
    obtain ⟨a1, a2, _⟩ := count_rng hf hc
    obtain ⟨a, ha⟩ : ∃ a : Nat, c.a = a := ⟨c.a.toNat, by omega⟩
    obtain ⟨d, hd⟩ : ∃ d, b.lines.length = a + d := ⟨b.lines.length - a, by omega⟩
    have h1 := less_bits x b.lines.length a (by omega)
    have h2 : bitsC ((2 ^ b.lines.length - 1 - x) &&& (2 ^ a - 1)) b.lines.length = bitsC (2 ^ b.lines.length - 1 - x) a := by
      have := bitsC_and (2 ^ b.lines.length - 1 - x) a d
      rwa [← hd] at this
    have h3 := bitsC_not (x := x) (y := 2 ^ b.lines.length - 1 - x) a fun i hi => mask_bit hx (by omega)
    have h4 := bitsC_le x a
    unfold wc cntS
    rw [ha, h1, Int.toNat_natCast, bits_len, h2, h3]
    congr 1
    omega
  unfold woB someB
  rw [hl b.lines 0 (by omega), hcn]
/-! ### Increasing lists -/
def IncL (N : Nat) : Nat → List Int → Prop
  | _, [] => True
  | fr, a :: r => ∃ i : Nat, a = i ∧ fr ≤ i ∧ i < N ∧ IncL N (i + 1) r
theorem IncL.more {N : Nat} : ∀ {l : List Int} {fr : Nat}, IncL N fr l → IncL (N + 1) fr l
  | [], _, _ => trivial
  | _ :: _, _, ⟨i, e, h1, h2, h3⟩ => ⟨i, e, h1, by omega, h3.more⟩
theorem IncL.snoc {N : Nat} : ∀ {l : List Int} {fr : Nat}, fr ≤ N → IncL N fr l → IncL (N + 1) fr (l ++ [(N : Int)])
  | [], fr, hf, _ => ⟨N, rfl, hf, by omega, trivial⟩
  | _ :: _, _, _, ⟨i, e, h1, h2, h3⟩ => ⟨i, e, h1, by omega, h3.snoc (by omega)⟩
theorem IncL.split {N : Nat} : ∀ {l : List Int} {fr : Nat}, IncL (N + 1) fr l → IncL N fr l ∨ ∃ l', l = l' ++ [(N : Int)] ∧ IncL N fr l'
  | [], _, _ => .inl trivial
  | a :: r, fr, ⟨i, e, h1, h2, h3⟩ => by
    by_cases hi : i = N
    · subst hi
      cases r with
      | nil => exact .inr ⟨[], by rw [e]; rfl, trivial⟩
      | cons a' r' =>
        obtain ⟨i', _, h1', h2', _⟩ := h3
        omega
    · rcases h3.split with h | ⟨l', e', h⟩
      · exact .inl ⟨i, e, h1, by omega, h⟩
      · exact .inr ⟨a :: l', by rw [e']; rfl, i, e, h1, by omega, h⟩
theorem bits_inc (x : Nat) : ∀ N, IncL N 0 (bitsB x N)
  | 0 => trivial
  | N + 1 => by
    rw [bitsB_succ]
    split
    · exact (bits_inc x N).snoc (Nat.zero_le _)
    · exact (bits_inc x N).more
theorem bitsB_congr {x y : Nat} : ∀ (N : Nat), (∀ i, i < N → x.testBit i = y.testBit i) → bitsB x N = bitsB y N
  | 0, _ => rfl
  | N + 1, h => by
    rw [bitsB_succ, bitsB_succ, bitsB_congr N fun i hi => h i (by omega), h N (by omega)]
theorem inc_bits : ∀ (N : Nat) (l : List Int), IncL N 0 l → ∃ x, x < 2 ^ N ∧ l = bitsB x N
  | 0, [], _ => ⟨0, by decide, rfl⟩
  | 0, a :: r, h => by
    obtain ⟨i, _, _, h2, _⟩ := h
    omega
  | N + 1, l, h => by
    have hp : 2 ^ (N + 1) = 2 ^ N + 2 ^ N := by rw [Nat.pow_succ]; omega
    rcases h.split with h2 | ⟨l', rfl, h2⟩
    · obtain ⟨x, hx, rfl⟩ := inc_bits N l h2
      refine ⟨x, by omega, ?_⟩
      rw [bitsB_succ, Nat.testBit_lt_two_pow hx]
      rfl
    · obtain ⟨x, hx, rfl⟩ := inc_bits N l' h2
      refine ⟨2 ^ N + x, by omega, ?_⟩
      have h1 : (2 ^ N + x).testBit N = true := by
        rw [Nat.testBit_two_pow_add_eq, Nat.testBit_lt_two_pow hx]; rfl
      have h2 : ∀ i, i < N → (2 ^ N + x).testBit i = x.testBit i := fun i hi => Nat.testBit_two_pow_add_gt hi x
      rw [bitsB_succ, h1, if_pos rfl, bitsB_congr N h2]
/-! ### The order -/
theorem before_irrefl : ∀ l : List Int, beforeB l l = false
  | [] => rfl
  | a :: r => by
    unfold beforeB
    rw [if_pos rfl]
    exact before_irrefl r
theorem before_tri : ∀ {l k : List Int}, l.length = k.length → beforeB l k = false → beforeB k l = false → l = k
  | [], [], _, _, _ => rfl
  | [], _ :: _, h, _, _ => by simp at h
  | _ :: _, [], h, _, _ => by simp at h
  | a :: l, b :: k, h, h1, h2 => by
    unfold beforeB at h1 h2
    by_cases e : a = b
    · rw [if_pos e] at h1
      rw [if_pos e.symm] at h2
      rw [e, before_tri (by simpa using h) h1 h2]
    · rw [if_neg e] at h1
      rw [if_neg fun hh => e hh.symm] at h2
      have h1 := of_decide_eq_false h1
      have h2 := of_decide_eq_false h2
      omega
theorem short_tri {l k : List Int} (h1 : shortB l k = false) (h2 : shortB k l = false) : l = k := by
  unfold shortB at h1 h2
  simp only [Bool.or_eq_false_iff, Bool.and_eq_false_iff, decide_eq_false_iff_not] at h1 h2
  have e : l.length = k.length := by omega
  exact before_tri e (h1.2.resolve_left fun hh => hh e) (h2.2.resolve_left fun hh => hh e.symm)
/-! ### The search -/
theorem first_some {f : Nat → Option (List Int)} : ∀ {e j : Nat} {y : List Int}, firstS f e j = some y → ∃ i, j ≤ i ∧ i < j + e ∧ f i = some y ∧ ∀ k, j ≤ k → k < i → f k = none
  | 0, _, _, h => by cases h
  | e + 1, j, y, h => by
    unfold firstS at h
    cases hf : f j with
    | some x =>
      rw [hf] at h
      cases h
      exact ⟨j, Nat.le_refl _, by omega, hf, fun k h1 h2 => by omega⟩
    | none =>
      rw [hf] at h
      obtain ⟨i, h1, h2, h3, h4⟩ := first_some h
      refine ⟨i, by omega, by omega, h3, fun k k1 k2 => ?_⟩
      by_cases hk : k = j
      · rw [hk]; exact hf
      · exact h4 k (by omega) k2
theorem first_none {f : Nat → Option (List Int)} : ∀ {e j : Nat}, firstS f e j = none → ∀ k, j ≤ k → k < j + e → f k = none
  | 0, _, _, k, h1, h2 => by omega
  | e + 1, j, h, k, h1, h2 => by
    unfold firstS at h
    cases hf : f j with
    | some x => rw [hf] at h; cases h
    | none =>
      rw [hf] at h
      by_cases hk : k = j
      · rw [hk]; exact hf
      · exact first_none h k (by omega) (by omega)
theorem inc_room {N : Nat} : ∀ {l : List Int} {fr : Nat}, IncL N fr l → fr ≤ N → fr + l.length ≤ N
  | [], _, _, h => h
  | _ :: r, fr, ⟨i, _, h1, h2, h3⟩, _ => by
    have := inc_room h3 (by omega)
    simp
    omega
theorem srch_spec (b : Book) : ∀ (m fr : Nat) (out : List Int), fr ≤ b.lines.length →
    match srch b m fr out with
    | some y => ∃ t, y = out ++ t ∧ t.length = m ∧ IncL b.lines.length fr t ∧ possP (woB b y) = true ∧ ∀ t', t'.length = m → IncL b.lines.length fr t' → possP (woB b (out ++ t')) = true → beforeB t' t = false
    | none => ∀ t', t'.length = m → IncL b.lines.length fr t' → possP (woB b (out ++ t')) = false
  | 0, fr, out, _ => by
    unfold srch
    by_cases h : possP (woB b out) = true
    · rw [if_pos h]
      exact ⟨[], by simp, rfl, trivial, h, fun t' _ _ _ => before_nil t'⟩
    · rw [if_neg h]
      intro t' h1 _
      have : t' = [] := List.eq_nil_of_length_eq_zero h1
      subst this
      rw [List.append_nil]
      simpa using h
  | m + 1, fr, out, hfr => by
    have hsr : srch b (m + 1) fr out = firstS (fun j => srch b m (j + 1) (out ++ [(j : Int)])) (b.lines.length - m - fr) fr := rfl
    rw [hsr]
    -- what a list's first number says
    have key : ∀ t', t'.length = m + 1 → IncL b.lines.length fr t' → ∃ (i : Nat) (r : List Int), t' = (i : Int) :: r ∧ fr ≤ i ∧ i < fr + (b.lines.length - m - fr) ∧ r.length = m ∧ IncL b.lines.length (i + 1) r := by
      intro t' h1 h2
      cases t' with
      | nil => simp at h1
      | cons a r =>
        obtain ⟨i, e, h3, h4, h5⟩ := h2
        have := inc_room h5 (by omega)
        have hr : r.length = m := by simpa using h1
        exact ⟨i, r, by rw [e], h3, by omega, hr, h5⟩
    cases hq : firstS (fun j => srch b m (j + 1) (out ++ [(j : Int)])) (b.lines.length - m - fr) fr with
    | some y =>
      obtain ⟨i, h1, h2, h3, h4⟩ := first_some hq
      have ih := srch_spec b m (i + 1) (out ++ [(i : Int)]) (by omega)
      rw [h3] at ih
      obtain ⟨t, e, hl, hi, hp, hmin⟩ := ih
      refine ⟨(i : Int) :: t, by rw [e]; simp, by simp [hl], ⟨i, rfl, h1, by omega, hi⟩, hp, fun t' ht' hi' hp' => ?_⟩
      obtain ⟨i', r, rfl, g1, g2, g3, g4⟩ := key t' ht' hi'
      unfold beforeB
      by_cases e' : i' = i
      · subst e'
        rw [if_pos rfl]
        exact hmin r g3 g4 (by simpa using hp')
      · rw [if_neg (by omega)]
        by_cases hlt : i' < i
        · have hn := h4 i' g1 hlt
          have ih' := srch_spec b m (i' + 1) (out ++ [(i' : Int)]) (by omega)
          rw [hn] at ih'
          have := ih' r g3 g4
          rw [List.append_assoc, List.singleton_append] at this
          rw [this] at hp'
          cases hp'
        · exact decide_eq_false (by omega)
    | none =>
      intro t' ht' hi'
      obtain ⟨i', r, rfl, g1, g2, g3, g4⟩ := key t' ht' hi'
      have hn : srch b m (i' + 1) (out ++ [(i' : Int)]) = none := first_none hq i' g1 g2
      have ih' := srch_spec b m (i' + 1) (out ++ [(i' : Int)]) (by omega)
      rw [hn] at ih'
      have := ih' r g3 g4
      rw [List.append_assoc, List.singleton_append] at this
      exact this
structure Least (b : Book) (y : List Int) : Prop where
  inc : IncL b.lines.length 0 y
  can : possP (woB b y) = true
  min : ∀ t, IncL b.lines.length 0 t → possP (woB b t) = true → shortB t y = false
theorem Least.uniq {b : Book} {y z : List Int} (h : Least b y) (h' : Least b z) : y = z := short_tri (h'.min y h.inc h.can) (h.min z h'.inc h'.can)
theorem leave_spec (b : Book) : match leaveP b with
    | some y => Least b y
    | none => ∀ t, IncL b.lines.length 0 t → possP (woB b t) = false := by
  have hP : leaveP b = firstS (fun m => srch b m 0 []) (b.lines.length + 1) 0 := rfl
  rw [hP]
  cases hq : firstS (fun m => srch b m 0 []) (b.lines.length + 1) 0 with
  | some y =>
    obtain ⟨m, _, h2, h3, h4⟩ := first_some hq
    have ih := srch_spec b m 0 [] (Nat.zero_le _)
    rw [h3] at ih
    obtain ⟨t, e, hl, hi, hp, hmin⟩ := ih
    rw [List.nil_append] at e
    subst e
    refine ⟨hi, hp, fun t' ht' hp' => ?_⟩
    unfold shortB
    simp only [Bool.or_eq_false_iff, Bool.and_eq_false_iff, decide_eq_false_iff_not]
    have hge : ¬ t'.length < y.length := fun hlt => by
      have hn : srch b t'.length 0 [] = none := h4 t'.length (Nat.zero_le _) (by omega)
      have ih' := srch_spec b t'.length 0 [] (Nat.zero_le _)
      rw [hn] at ih'
      have := ih' t' rfl ht'
      rw [List.nil_append] at this
      rw [this] at hp'
      cases hp'
    refine ⟨hge, ?_⟩
    by_cases e : t'.length = y.length
    · exact .inr (hmin t' (by omega) ht' (by rw [List.nil_append]; exact hp'))
    · exact .inl e
  | none =>
    intro t ht
    have hr := inc_room ht (Nat.zero_le _)
    have hn : srch b t.length 0 [] = none := first_none hq t.length (Nat.zero_le _) (by omega)
    have ih' := srch_spec b t.length 0 [] (Nat.zero_le _)
    rw [hn] at ih'
    have := ih' t rfl ht
    rwa [List.nil_append] at this
def andnOK : Bool := (List.range 9).all fun N => (List.range (2 ^ N)).all fun x => decide (IntKind.i64.wrap ((BitVec.ofInt 64 ((2 ^ N - 1 : Nat) : Int) &&& ~~~ BitVec.ofInt 64 (x : Int)).toNat : Int) = ((2 ^ N - 1 - x : Nat) : Int))
theorem andnOK_true : andnOK = true := by decide +kernel
theorem andn_ev {N x : Nat} (hN : N ≤ 8) (hx : x < 2 ^ N) : evInt .andNot .i64 ((2 ^ N - 1 : Nat) : Int) (x : Int) = some (.int .i64 ((2 ^ N - 1 - x : Nat) : Int)) := by
  rw [evInt_andNot]
  have q := List.all_eq_true.1 (List.all_eq_true.1 andnOK_true N (List.mem_range.2 (by omega))) x (List.mem_range.2 hx)
  exact congrArg (fun z => some (V.int IntKind.i64 z)) (of_decide_eq_true q)
def stepR (b : Book) (o : Option (List Int)) (x : Nat) : Option (List Int) :=
  if ((match o with
    | none => true
    | some y => shortB (bitsB x b.lines.length) y) && possP (someB (2 ^ b.lines.length - 1 - x) b.lines.length b)) = true then some (bitsB x b.lines.length) else o
def goR (b : Book) : Nat → Nat → Option (List Int) → Option (List Int)
  | 0, _, o => o
  | d + 1, x, o => goR b d (x + 1) (stepR b o x)
theorem ite_or {α : Type} (c : Prop) [Decidable c] (a b : α) : (if c then a else b) = a ∨ (if c then a else b) = b := by
  by_cases h : c
  · exact Or.inl (if_pos h)
  · exact Or.inr (if_neg h)
theorem stepR_or (b : Book) (o : Option (List Int)) (x : Nat) : stepR b o x = some (bitsB x b.lines.length) ∨ stepR b o x = o := by
  unfold stepR
  apply ite_or
theorem step_len {b : Book} {o : Option (List Int)} {x : Nat} (hN : b.lines.length ≤ 30) (h : ∀ y, o = some y → y.length ≤ 30) : ∀ y, stepR b o x = some y → y.length ≤ 30 := by
  intro y hy
  have hbl := bitsB_len x b.lines.length
  rcases stepR_or b o x with e | e
  · rw [e] at hy
    cases hy
    omega
  · rw [e] at hy
    exact h y hy
theorem l39 (b : Book) (hf : faultB b = 0) (c : Nat) : ∀ (d x : Nat) (o : Option (List Int)), x + d = 2 ^ b.lines.length → (∀ y, o = some y → y.length ≤ 30) → ∀ n m, d < m →
    loopA (execA Try.prog ann kn (n+5200) 35) lb39_4 (some ([1, 4, 5, 6], [1, 15, 29])) m ⟨c, [(1, true, .ptr 0 1 0 0), (4, true, sl ((o.getD []).map encI)), (5, true, .bool o.isSome), (6, true, i x)], ⟨[], [(1, 0, .box (cellsB b))]⟩⟩ =
      some (.exit 0, ⟨c, [(11, true, .bool false), (10, true, i (2 ^ b.lines.length - 1 : Nat)), (9, true, .agg (cellsB b)), (8, true, i (2 ^ b.lines.length : Nat)), (1, true, .ptr 0 1 0 0), (4, true, sl (((goR b d x o).getD []).map encI)), (5, true, .bool (goR b d x o).isSome), (6, true, i (2 ^ b.lines.length : Nat))], ⟨[], [(1, 0, .box (cellsB b))]⟩⟩)
  | 0, x, o, hd, ho, n, m, hm => by
    obtain ⟨h1, h4, hl8, hc4, _⟩ := fault0 hf
    have hx : x = 2 ^ b.lines.length := by omega
    have q48 := fun n => k48 n b (by omega)
    have hpos := Nat.two_pow_pos b.lines.length
    have hp30 : 2 ^ b.lines.length ≤ 2 ^ 30 := Nat.pow_le_pow_right (by decide) (by omega)
    unfold goR
    generalize 2 ^ b.lines.length = A at *
    subst hx
    have hnot : ¬ x ≤ x - 1 := by omega
    simp only [cellsB] at q48 ⊢
    obtain ⟨m, rfl⟩ : ∃ m', m = m' + 1 := ⟨m - 1, by omega⟩
    simp [loopA_succ, q48, hnot, encL, encC]
    done
  | d + 1, x, o, hd, ho, n, m, hm => by
    obtain ⟨h1, h4, hl8, hc4, _⟩ := fault0 hf
    have hx : x < 2 ^ b.lines.length := by omega
    have hpos := Nat.two_pow_pos b.lines.length
    have hp30 : 2 ^ b.lines.length ≤ 2 ^ 8 := Nat.pow_le_pow_right (by decide) (by omega)
    have q48 := fun n => k48 n b (by omega)
    have q50 := fun n => k50 n x b.lines.length (by omega) hx
    have q47 := fun n => k47 n (2 ^ b.lines.length - 1 - x) b.lines.length (by omega) (by omega) b (by omega) (by omega) (fun y hy => by have := count_rng hf hy; omega)
    have q88 := fun n => k88 n (someB (2 ^ b.lines.length - 1 - x) b.lines.length b) (some_fault hf _)
    have e4 := andn_ev hl8 hx
    have hw : IntKind.i64.wrap ((x : Int) + 1) = (x : Int) + 1 := wrap_i64 (by omega) (by omega)
    have hbl := bitsB_len x b.lines.length
    have hle : x ≤ 2 ^ b.lines.length - 1 := by omega
    have hgo : goR b (d + 1) x o = goR b d (x + 1) (stepR b o x) := rfl
    rw [hgo]
    have ih := l39 b hf c d (x + 1) (stepR b o x) (by omega) (step_len (by omega) ho) n (m - 1) (by omega)
    obtain ⟨m, rfl⟩ : ∃ m', m = m' + 1 := ⟨m - 1, by omega⟩
    rw [Nat.add_sub_cancel] at ih
    generalize goR b d (x + 1) (stepR b o x) = G at ih ⊢
    unfold stepR at ih
    generalize hB : bitsB x b.lines.length = B at *
    generalize someB (2 ^ b.lines.length - 1 - x) b.lines.length b = w at q47 q88 ih
    generalize possP w = z at q88 ih
    generalize 2 ^ b.lines.length - 1 - x = M at *
    generalize 2 ^ b.lines.length = A at *
    rw [loopA_succ]
    simp only [cellsB, cellsR] at q48 q47 q88 ih ⊢
    have hclB : (B.map encI).all (fun e => e.all (closedV 8)) = true := by simp [encI]
    cases o with
    | none =>
      simp only [Bool.true_and, Option.getD_none, Option.isSome_none, List.map_nil] at ih ⊢
      cases z with
      | true =>
        rw [if_pos rfl] at ih
        simp at ih
        simp [-gI0_some, gI0_tt, gI0_ff, gz_mv_tf, gz_mv_ft, gz_mv_no, gz_bin_tf, gz_bin_ft, gz_bin_no, gz_fa_tf, gz_fa_ft, gz_fa_no, gz_ld_tf, gz_ld_ft, gz_ld_no, gz_pick_tf, gz_pick_ft, gz_pick_no, gz_oth_tf, gz_oth_ft, gz_oth_no, gz_call_tf, gz_call_ft, gz_call_no, q48, q50, q47, q88, e4, hw, hle, encL, encC, encI, ih]
        done
      | false =>
        rw [if_neg (by decide)] at ih
        simp at ih
        simp [-gI0_some, gI0_tt, gI0_ff, gz_mv_tf, gz_mv_ft, gz_mv_no, gz_bin_tf, gz_bin_ft, gz_bin_no, gz_fa_tf, gz_fa_ft, gz_fa_no, gz_ld_tf, gz_ld_ft, gz_ld_no, gz_pick_tf, gz_pick_ft, gz_pick_no, gz_oth_tf, gz_oth_ft, gz_oth_no, gz_call_tf, gz_call_ft, gz_call_no, q48, q50, q47, q88, e4, hw, hle, encL, encC, encI, ih]
        done
    | some y =>
      have hy := ho y rfl
      have q49 := fun n => k49 n B y (by omega) (by omega)
      simp only [Option.getD_some, Option.isSome_some] at ih ⊢
      cases hs : shortB B y with
      | false =>
        rw [hs] at q49
        simp only [hs, Bool.false_and] at ih
        rw [if_neg (by decide)] at ih
        simp at ih
        simp [-gI0_some, gI0_tt, gI0_ff, gz_mv_tf, gz_mv_ft, gz_mv_no, gz_bin_tf, gz_bin_ft, gz_bin_no, gz_fa_tf, gz_fa_ft, gz_fa_no, gz_ld_tf, gz_ld_ft, gz_ld_no, gz_pick_tf, gz_pick_ft, gz_pick_no, gz_oth_tf, gz_oth_ft, gz_oth_no, gz_call_tf, gz_call_ft, gz_call_no, q48, q50, q47, q88, q49, e4, hw, hle, encL, encC, encI, ih]
        done
      | true =>
        rw [hs] at q49
        simp only [hs, Bool.true_and] at ih
        cases z with
        | true =>
          rw [if_pos rfl] at ih
          simp at ih
          simp [-gI0_some, gI0_tt, gI0_ff, gz_mv_tf, gz_mv_ft, gz_mv_no, gz_bin_tf, gz_bin_ft, gz_bin_no, gz_fa_tf, gz_fa_ft, gz_fa_no, gz_ld_tf, gz_ld_ft, gz_ld_no, gz_pick_tf, gz_pick_ft, gz_pick_no, gz_oth_tf, gz_oth_ft, gz_oth_no, gz_call_tf, gz_call_ft, gz_call_no, q48, q50, q47, q88, q49, e4, hw, hle, encL, encC, encI, ih]
          done
        | false =>
          rw [if_neg (by decide)] at ih
          simp at ih
          simp [-gI0_some, gI0_tt, gI0_ff, gz_mv_tf, gz_mv_ft, gz_mv_no, gz_bin_tf, gz_bin_ft, gz_bin_no, gz_fa_tf, gz_fa_ft, gz_fa_no, gz_ld_tf, gz_ld_ft, gz_ld_no, gz_pick_tf, gz_pick_ft, gz_pick_no, gz_oth_tf, gz_oth_ft, gz_oth_no, gz_call_tf, gz_call_ft, gz_call_no, q48, q50, q47, q88, q49, e4, hw, hle, encL, encC, encI, ih]
          done
theorem before_trans : ∀ {a b c : List Int}, beforeB a b = true → beforeB b c = true → beforeB a c = true
  | [], [], _, h, _ => by cases h
  | [], _ :: _, [], _, h => by cases h
  | [], _ :: _, _ :: _, _, _ => rfl
  | _ :: _, [], _, h, _ => by cases h
  | _ :: _, _ :: _, [], _, h => by cases h
  | x :: a, y :: b, z :: c, h1, h2 => by
    unfold beforeB at h1 h2 ⊢
    by_cases e1 : x = y
    · subst e1
      rw [if_pos rfl] at h1
      by_cases e2 : x = z
      · rw [if_pos e2] at h2 ⊢
        exact before_trans h1 h2
      · rw [if_neg e2] at h2 ⊢
        exact h2
    · rw [if_neg e1] at h1
      have h1 := of_decide_eq_true h1
      by_cases e2 : y = z
      · subst e2
        rw [if_neg e1]
        exact decide_eq_true h1
      · rw [if_neg e2] at h2
        have h2 := of_decide_eq_true h2
        rw [if_neg (by omega)]
        exact decide_eq_true (by omega)
theorem short_trans {a b c : List Int} (h1 : shortB a b = true) (h2 : shortB b c = true) : shortB a c = true := by
  unfold shortB at *
  simp only [Bool.or_eq_true, Bool.and_eq_true, decide_eq_true_eq] at *
  rcases h1 with h1 | ⟨h1, g1⟩ <;> rcases h2 with h2 | ⟨h2, g2⟩
  · exact .inl (by omega)
  · exact .inl (by omega)
  · exact .inl (by omega)
  · exact .inr ⟨by omega, before_trans g1 g2⟩
theorem short_irrefl (a : List Int) : shortB a a = false := by
  unfold shortB
  simp [before_irrefl]
def InvR (b : Book) (x : Nat) : Option (List Int) → Prop
  | none => ∀ x', x' < x → possP (woB b (bitsB x' b.lines.length)) = false
  | some y => IncL b.lines.length 0 y ∧ possP (woB b y) = true ∧ ∀ x', x' < x → possP (woB b (bitsB x' b.lines.length)) = true → shortB (bitsB x' b.lines.length) y = false
theorem step_inv {b : Book} (hf : faultB b = 0) {x : Nat} {o : Option (List Int)} (hx : x < 2 ^ b.lines.length) (h : InvR b x o) : InvR b (x + 1) (stepR b o x) := by
  have ew := wo_some hf hx
  cases o with
  | none =>
    unfold stepR
    simp only [Bool.true_and]
    rw [← ew]
    cases hp : possP (woB b (bitsB x b.lines.length)) with
    | true =>
      rw [if_pos rfl]
      refine ⟨bits_inc _ _, hp, fun x' hx' hp' => ?_⟩
      rcases Nat.lt_or_ge x' x with h2 | h2
      · rw [h x' h2] at hp'
        cases hp'
      · have e : x' = x := by omega
        rw [e]
        exact short_irrefl _
    | false =>
      rw [if_neg (by decide)]
      intro x' hx'
      rcases Nat.lt_or_ge x' x with h2 | h2
      · exact h x' h2
      · have e : x' = x := by omega
        rw [e]
        exact hp
  | some y =>
    obtain ⟨h1, h2, h3⟩ := h
    unfold stepR
    rw [← ew]
    simp only []
    by_cases hs : shortB (bitsB x b.lines.length) y = true
    · simp only [hs, Bool.true_and]
      cases hp : possP (woB b (bitsB x b.lines.length)) with
      | true =>
        rw [if_pos rfl]
        refine ⟨bits_inc _ _, hp, fun x' hx' hp' => ?_⟩
        rcases Nat.lt_or_ge x' x with h4 | h4
        · cases hq : shortB (bitsB x' b.lines.length) (bitsB x b.lines.length) with
          | false => rfl
          | true =>
            have := short_trans hq hs
            rw [h3 x' h4 hp'] at this
            cases this
        · have e : x' = x := by omega
          rw [e]
          exact short_irrefl _
      | false =>
        rw [if_neg (by decide)]
        refine ⟨h1, h2, fun x' hx' hp' => ?_⟩
        rcases Nat.lt_or_ge x' x with h4 | h4
        · exact h3 x' h4 hp'
        · have e : x' = x := by omega
          rw [e, hp] at hp'
          cases hp'
    · have hs := Bool.eq_false_iff.2 hs
      simp only [hs, Bool.false_and]
      rw [if_neg (by decide)]
      refine ⟨h1, h2, fun x' hx' hp' => ?_⟩
      rcases Nat.lt_or_ge x' x with h4 | h4
      · exact h3 x' h4 hp'
      · have e : x' = x := by omega
        rw [e]
        exact hs
theorem go_inv {b : Book} (hf : faultB b = 0) : ∀ (d x : Nat) (o : Option (List Int)), x + d = 2 ^ b.lines.length → InvR b x o → InvR b (2 ^ b.lines.length) (goR b d x o)
  | 0, x, o, hd, h => by
    have e : x = 2 ^ b.lines.length := by omega
    rw [← e]
    exact h
  | d + 1, x, o, hd, h => go_inv hf d (x + 1) (stepR b o x) (by omega) (step_inv hf (by omega) h)
theorem go_leave {b : Book} (hf : faultB b = 0) : goR b (2 ^ b.lines.length) 0 none = leaveP b := by
  have h := go_inv hf (2 ^ b.lines.length) 0 none (by omega) (fun x' hx' => absurd hx' (by omega))
  have hs := leave_spec b
  cases hg : goR b (2 ^ b.lines.length) 0 none with
  | none =>
    rw [hg] at h
    cases hl : leaveP b with
    | none => rfl
    | some y =>
      rw [hl] at hs
      obtain ⟨x, hx, e⟩ := inc_bits _ _ hs.inc
      have := hs.can
      rw [e, h x hx] at this
      cases this
  | some y =>
    rw [hg] at h
    obtain ⟨h1, h2, h3⟩ := h
    cases hl : leaveP b with
    | none =>
      rw [hl] at hs
      rw [hs y h1] at h2
      cases h2
    | some z =>
      rw [hl] at hs
      refine congrArg some (Least.uniq ⟨h1, h2, fun t ht hp => ?_⟩ hs)
      obtain ⟨x, hx, e⟩ := inc_bits _ _ ht
      rw [e] at hp ⊢
      exact h3 x hx hp
theorem k39 (n : Nat) (b : Book) (hf : faultB b = 0) : callK Try.prog kn (execA Try.prog ann kn (n+5500)) 39 [.agg (cellsB b)] = some (.tup [sl (((leaveP b).getD []).map encI), .bool (leaveP b).isSome]) := by
  rw [callK_of rfl, call0_eq Try.func39 b39 rfl (by simp [cellsB, encL, encC])]
  obtain ⟨_, _, hl8, _⟩ := fault0 hf
  have hp30 : 2 ^ b.lines.length ≤ 2 ^ 8 := Nat.pow_le_pow_right (by decide) (by omega)
  have q := l39 b hf 1 (2 ^ b.lines.length) 0 none (by omega) (fun y hy => by cases hy) (n + 293) (n + 5493) (by omega)
  rw [go_leave hf] at q
  generalize leaveP b = F at q ⊢
  generalize 2 ^ b.lines.length = A at q
  have slnil : sl ([] : List (List V)) = .nil := rfl
  rw [show n + 293 + 5200 = n + 5493 from rfl] at q
  simp only [cellsB] at q ⊢
  cases F with
  | some x =>
    simp [slnil] at q
    simp [c39, argFr, slnil, q]
    done
  | none =>
    simp [slnil] at q
    simp [c39, argFr, slnil, q]
    done
def encN (v : Nat) : List V := [.int .i64 (v : Int)]
def orG (ys : List Nat) : Nat := ys.foldl (fun m v => m ||| 2 ^ v) 0
theorem orG_snoc (ys : List Nat) (v : Nat) : orG (ys ++ [v]) = orG ys ||| 2 ^ v := by
  unfold orG
  rw [List.foldl_append]
  rfl
theorem orG_bit (k : Nat) (ys : List Nat) : ∀ m : Nat, (ys.foldl (fun m v => m ||| 2 ^ v) m).testBit k = (m.testBit k || decide (k ∈ ys)) := by
  induction ys with
  | nil => intro m; simp
  | cons v r ih =>
    intro m
    rw [List.foldl_cons, ih, Nat.testBit_or, Nat.testBit_two_pow]
    by_cases h : v = k
    · subst h; simp
    · have h' : ¬ k = v := fun e => h e.symm
      simp [h, h']
theorem orG_lt {N : Nat} {ys : List Nat} (h : ∀ v ∈ ys, v < N) : orG ys < 2 ^ N := by
  refine Nat.lt_pow_two_of_testBit _ fun k hk => ?_
  unfold orG
  rw [orG_bit, Nat.zero_testBit, Bool.false_or]
  exact decide_eq_false fun hh => by have := h k hh; omega
theorem orG_bits {N z : Nat} (hz : z < 2 ^ N) : orG ((List.range N).filter fun i => z.testBit i) = z := by
  refine Nat.eq_of_testBit_eq fun k => ?_
  unfold orG
  rw [orG_bit, Nat.zero_testBit, Bool.false_or]
  by_cases h : z.testBit k = true
  · have : k < N := by
      rcases Nat.lt_or_ge k N with h2 | h2
      · exact h2
      · rw [Nat.testBit_lt_two_pow (Nat.lt_of_lt_of_le hz (Nat.pow_le_pow_right (by decide) h2))] at h
        cases h
    rw [h]
    exact decide_eq_true (List.mem_filter.2 ⟨List.mem_range.2 this, h⟩)
  · rw [Bool.eq_false_iff.2 h]
    exact decide_eq_false fun hh => h (List.mem_filter.1 hh).2
theorem or_ev2 {a b : Nat} (ha : a < 4611686018427387904) (hb : b < 4611686018427387904) : evInt .or .i64 (a : Int) (b : Int) = some (.int .i64 ((a ||| b : Nat) : Int)) := by
  rw [evInt_or]
  exact congrArg (fun z => some (V.int IntKind.i64 z)) (or_nat ha hb)
theorem l13 (b : Book) (hN : b.lines.length ≤ 8) (ys : List Nat) (hlt : ∀ v ∈ ys, v < b.lines.length) (hgr : ∀ i j (hi : i < j) (hj : j < ys.length), ys[i] < ys[j]) (hlen : ys.length ≤ 30) (x t9 : V) (hx : closedV 9 x = true) (ht : closedV 9 t9 = true) (c : Nat) : ∀ (d j : Nat), j + d = ys.length → ∀ n m, d < m →
    loopA (execA Try.prog ann kn (n+100) 133) lb13_10 (some ([2, 5, 7, 9, 10, 11], [2, 20, 21, 35, 36, 108, 109])) m ⟨c, [(2, true, .ptr 0 2 0 0), (5, true, .list false (ys.map encN)), (7, true, x), (9, true, t9), (10, true, i (orG (ys.take j) : Nat)), (11, true, i j)], ⟨[], [(2, 0, .box (cellsB b))]⟩⟩ =
      some (.exit 0, ⟨c, [(60, true, .bool false), (59, true, i ys.length), (58, true, .list false (ys.map encN)), (57, true, i ys.length), (2, true, .ptr 0 2 0 0), (5, true, .list false (ys.map encN)), (7, true, x), (9, true, t9), (10, true, i (orG ys : Nat)), (11, true, i ys.length)], ⟨[], [(2, 0, .box (cellsB b))]⟩⟩)
  | 0, j, hd, n, m, hm => by
    have hj : j = ys.length := by omega
    subst hj
    obtain ⟨m, rfl⟩ : ∃ m', m = m' + 1 := ⟨m - 1, by omega⟩
    rw [List.take_length]
    simp [loopA_succ]
    done
  | d + 1, j, hd, n, m, hm => by
    have hj : j < ys.length := by omega
    have ih := l13 b hN ys hlt hgr hlen x t9 hx ht c d (j + 1) (by omega) n (m - 1) (by omega)
    obtain ⟨m, rfl⟩ : ∃ m', m = m' + 1 := ⟨m - 1, by omega⟩
    rw [Nat.add_sub_cancel] at ih
    rw [List.take_succ_eq_append_getElem hj, orG_snoc] at ih
    have hv := hlt ys[j] (List.getElem_mem hj)
    have hg := fun i hi => hgr i j hi hj
    have hm1 : orG (ys.take j) < 2 ^ b.lines.length := orG_lt fun v hv => hlt v (List.mem_of_mem_take hv)
    have hp30 : 2 ^ b.lines.length ≤ 2 ^ 8 := Nat.pow_le_pow_right (by decide) (by omega)
    have hp31 : 2 ^ ys[j] ≤ 2 ^ 8 := Nat.pow_le_pow_right (by decide) (by omega)
    have e1 := shl_ev (a := 1) (j := ys[j]) (by omega) (by omega)
    have e2 := wrap_u64s (p := ys[j]) (by omega)
    have e3 := or_ev2 (a := orG (ys.take j)) (b := 2 ^ ys[j]) (by omega) (by omega)
    rw [Nat.one_mul] at e1
    have hw : IntKind.i64.wrap ((j : Int) + 1) = (j : Int) + 1 := wrap_i64 (by omega) (by omega)
    have hv0 : ¬ (ys[j] : Int) < 0 := by omega
    have hvN : ¬ (b.lines.length : Int) ≤ (ys[j] : Int) := by omega
    have hu : ∀ (h : 0 < j), ¬ ys[j] ≤ ys[j - 1] := fun h => by have := hg (j - 1) (by omega); omega
    generalize orG (ys.take j) = M at *
    rcases Nat.eq_zero_or_pos j with h0 | h0
    · subst h0
      rw [loopA_succ]
      generalize hvv : ys[0] = v at *
      generalize M ||| 2 ^ v = M2 at *
      generalize 2 ^ v = A at *
      have e1 : evSh .shl .i64 1 (v : Int) = some (.int .i64 (A : Int)) := e1
      simp only [cellsB] at ih ⊢
      simp at ih
      simp [-gI0_some, gI0_tt, gI0_ff, gz_mv_tf, gz_mv_ft, gz_mv_no, gz_bin_tf, gz_bin_ft, gz_bin_no, gz_fa_tf, gz_fa_ft, gz_fa_no, gz_ld_tf, gz_ld_ft, gz_ld_no, gz_pick_tf, gz_pick_ft, gz_pick_no, gz_oth_tf, gz_oth_ft, gz_oth_no, gz_call_tf, gz_call_ft, gz_call_no, hj, hw, encN, encL, encC, hvv, hv0, hvN, e1, e2, e3, -evSh_shl, ih]
      done
    · obtain ⟨p, rfl⟩ : ∃ p, j = p + 1 := ⟨j - 1, by omega⟩
      have hu := hu h0
      have hj2 : p < ys.length := by omega
      have wp : IntKind.i64.wrap (p : Int) = (p : Int) := wrap_i64 (by omega) (by omega)
      have hp0 : (0 : Int) < (p : Int) + 1 := by omega
      simp only [Nat.add_sub_cancel] at hu
      rw [loopA_succ]
      generalize hvv : ys[p + 1] = v at *
      generalize huu : ys[p] = u at *
      generalize M ||| 2 ^ v = M2 at *
      generalize 2 ^ v = A at *
      have e1 : evSh .shl .i64 1 (v : Int) = some (.int .i64 (A : Int)) := e1
      simp only [cellsB] at ih ⊢
      simp at ih
      have hp1 : (0 : Int) ≤ (p : Int) + 1 := by omega
      have hw2 : IntKind.i64.wrap ((p : Int) + 1 + 1) = (p : Int) + 1 + 1 := wrap_i64 (by omega) (by omega)
      have hjI : (p : Int) + 1 < (ys.length : Int) := by omega
      simp [-gI0_some, gI0_tt, gI0_ff, gz_mv_tf, gz_mv_ft, gz_mv_no, gz_bin_tf, gz_bin_ft, gz_bin_no, gz_fa_tf, gz_fa_ft, gz_fa_no, gz_ld_tf, gz_ld_ft, gz_ld_no, gz_pick_tf, gz_pick_ft, gz_pick_no, gz_oth_tf, gz_oth_ft, gz_oth_no, gz_call_tf, gz_call_ft, gz_call_no, hj, hjI, hj2, hp1, hw2, wp, hp0, encN, encL, encC, hvv, huu, hu, hv0, hvN, e1, e2, e3, -evSh_shl, ih]
      done
theorem leave_len {b : Book} {y : List Int} (h : leaveP b = some y) : y.length ≤ b.lines.length := by
  have hs := leave_spec b
  rw [h] at hs
  have := inc_room hs.inc (Nat.zero_le _)
  omega
theorem k6 (n : Nat) (b : Book) (_ : okBk b) : call0 Try.prog (execA Try.prog ann kn (n+5700)) 6 [.agg (cellsB b)] = some (.bool true) := by
  rw [call0_eq Try.func6 b6 rfl (by simp [cellsB, encL, encC])]
  have q19 := fun n => k19 n b
  cases hT : thinB b with
  | false =>
    rw [hT] at q19
    simp only [cellsB] at q19 ⊢
    simp [c6, argFr, q19, encL, encC, k20]
  | true =>
    rw [hT] at q19
    have hb : b.lines.length ≤ 10 ∧ b.counts.length ≤ 6 := by
      simp only [thinB, Bool.and_eq_true, decide_eq_true_eq] at hT
      exact ⟨hT.1, hT.2.1⟩
    have q22 := fun n => k22 n b (by omega) (by omega)
    have q24 := fun n => k24 n b
    have q37 := fun n => k37 n b
    have q38 := fun n => k38 n b
    unfold firstV at q37
    unfold leaveV at q38
    rw [check_eq] at q37 q38
    have slnil : sl ([] : List (List V)) = .nil := rfl
    by_cases hf : faultB b = 0
    · obtain ⟨h1, h4, hl8, hc4, hc1, hc2, hx1, hx2, hok, hcok, hm⟩ := fault0 hf
      have q39 := fun n => k39 n b hf
      have q41 := fun n => k41 n b hf
      rw [if_pos hf] at q37 q38
      rw [hf] at q24
      cases hl : leaveP b with
      | none =>
        rw [hl] at q38 q39
        cases hfp : firstP b with
        | none =>
          rw [hfp] at q37 q41
          simp only [cellsB, cellsT, cellsR, optN, Option.getD_none, Option.isSome_none, List.map_nil, slnil] at q19 q22 q24 q37 q38 q39 q41 ⊢
          simp [c6, argFr, q19, q22, q24, q37, q38, q39, q41, encL, encC, k20]
          done
        | some x =>
          rw [hfp] at q37 q41
          simp only [cellsB, cellsT, cellsR, optN, Option.getD_none, Option.isSome_none, List.map_nil, slnil] at q19 q22 q24 q37 q38 q39 q41 ⊢
          simp [c6, argFr, q19, q22, q24, q37, q38, q39, q41, encL, encC, k20]
          done
      | some y =>
        have hy := leave_len hl
        have q40 := fun n => k40 n y y (by omega)
        rw [hl] at q38 q39
        cases hfp : firstP b with
        | none =>
          rw [hfp] at q37 q41
          simp only [cellsB, cellsT, cellsR, optN, Option.getD_some, Option.isSome_some, decide_true] at q19 q22 q24 q37 q38 q39 q40 q41 ⊢
          simp [c6, argFr, q19, q22, q24, q37, q38, q39, q40, q41, encL, encC, encI, k20]
          done
        | some x =>
          rw [hfp] at q37 q41
          simp only [cellsB, cellsT, cellsR, optN, Option.getD_some, Option.isSome_some, decide_true] at q19 q22 q24 q37 q38 q39 q40 q41 ⊢
          simp [c6, argFr, q19, q22, q24, q37, q38, q39, q40, q41, encL, encC, encI, k20]
          done
    · have e2 : decide (faultB b = 0) = false := by simpa using hf
      rw [if_neg hf] at q37 q38
      generalize faultB b = A at q37 q38 q24 e2 hf
      simp only [cellsB, cellsT, cellsR] at q19 q22 q24 q37 q38 ⊢
      simp [c6, argFr, q19, q22, q24, q37, q38, encL, encC, k20, e2, hf]
      done
theorem l13s (b : Book) (hN : b.lines.length ≤ 8) (z : Nat) (hz : z < 2 ^ b.lines.length) (x t9 : V) (hx : closedV 9 x = true) (ht : closedV 9 t9 = true) (c : Nat) : ∀ n m, 10 < m →
    loopA (execA Try.prog ann kn (n+100) 133) lb13_10 (some ([2, 5, 7, 9, 10, 11], [2, 20, 21, 35, 36, 108, 109])) m ⟨c, [(2, true, .ptr 0 2 0 0), (5, true, sl ((bitsB z b.lines.length).map encI)), (7, true, x), (9, true, t9), (10, true, i 0), (11, true, i 0)], ⟨[], [(2, 0, .box (cellsB b))]⟩⟩ =
      some (.exit 0, ⟨c, [(60, true, .bool false), (59, true, i (bitsB z b.lines.length).length), (58, true, sl ((bitsB z b.lines.length).map encI)), (57, true, i (bitsB z b.lines.length).length), (2, true, .ptr 0 2 0 0), (5, true, sl ((bitsB z b.lines.length).map encI)), (7, true, x), (9, true, t9), (10, true, i (z : Nat)), (11, true, i (bitsB z b.lines.length).length)], ⟨[], [(2, 0, .box (cellsB b))]⟩⟩) := by
  intro n m hm
  have hlt : ∀ v ∈ (List.range b.lines.length).filter (fun i => z.testBit i), v < b.lines.length := fun v hv => List.mem_range.1 (List.mem_filter.1 hv).1
  have hpw : ((List.range b.lines.length).filter (fun i => z.testBit i)).Pairwise (· < ·) := (List.pairwise_lt_range (n := b.lines.length)).sublist (List.filter_sublist)
  have hlen : ((List.range b.lines.length).filter (fun i => z.testBit i)).length ≤ b.lines.length := by
    have := List.length_filter_le (fun i => z.testBit i) (List.range b.lines.length)
    rw [List.length_range] at this
    exact this
  have he : (bitsB z b.lines.length).map encI = ((List.range b.lines.length).filter (fun i => z.testBit i)).map encN := by
    unfold bitsB
    rw [List.map_map]
    rfl
  have hl : (bitsB z b.lines.length).length = ((List.range b.lines.length).filter (fun i => z.testBit i)).length := by
    unfold bitsB
    rw [List.length_map]
  have ho := orG_bits hz
  rw [he, hl]
  generalize (List.range b.lines.length).filter (fun i => z.testBit i) = ys at *
  have hgr : ∀ i j (hi : i < j) (hj : j < ys.length), ys[i] < ys[j] := fun i j hi hj => List.pairwise_iff_getElem.1 hpw i j (by omega) hj hi
  cases ys with
  | nil =>
    have : z = 0 := ho.symm
    subst this
    obtain ⟨m, rfl⟩ : ∃ m', m = m' + 1 := ⟨m - 1, by omega⟩
    have slnil : sl ([] : List (List V)) = .nil := rfl
    simp [loopA_succ, slnil]
    done
  | cons v r =>
    have h := l13 b hN (v :: r) hlt hgr (by omega) x t9 hx ht c (v :: r).length 0 (by omega) n m (by omega)
    rw [ho] at h
    exact h
theorem k13 (n : Nat) (b : Book) (κ : Nat) (_ : okBk b) (hκ : κ ≤ 255) : call0 Try.prog (execA Try.prog ann kn (n+5700)) 13 [.agg (cellsB b), .int .u8 κ] = some (.bool true) := by
  rw [call0_eq Try.func13 b13 rfl (by simp [cellsB, encL, encC])]
  have q42 := fun n => k42 n b
  cases hR : rdy b with
  | false =>
    rw [hR] at q42
    simp only [cellsB] at q42 ⊢
    simp [c13, argFr, q42, encL, encC, k20]
  | true =>
    rw [hR] at q42
    simp only [rdy, Bool.and_eq_true, decide_eq_true_eq] at hR
    obtain ⟨hTh, hf⟩ := hR
    obtain ⟨h1, h4, hl8, hc4, hc1, hc2, hx1, hx2, hok, hcok, hm⟩ := fault0 hf
    have q22 := fun n => k22 n b (by omega) (by omega)
    have q38 := fun n => k38 n b
    have q48 := fun n => k48 n b (by omega)
    have hpos := Nat.two_pow_pos b.lines.length
    have hp30 : 2 ^ b.lines.length ≤ 2 ^ 8 := Nat.pow_le_pow_right (by decide) (by omega)
    unfold leaveV at q38
    rw [check_eq, if_pos hf] at q38
    have hx : κ &&& (2 ^ b.lines.length - 1) < 2 ^ b.lines.length := by
      have := Nat.and_le_right (n := κ) (m := 2 ^ b.lines.length - 1)
      omega
    have wk : IntKind.i64.wrap (κ : Int) = (κ : Int) := wrap_i64 (by omega) (by omega)
    have e1 := and_ev2 (a := κ) (b := 2 ^ b.lines.length - 1) (by omega) (by omega)
    generalize κ &&& (2 ^ b.lines.length - 1) = x at hx e1
    have e2 := andn_ev hl8 hx
    have q47 := fun n => k47 n (2 ^ b.lines.length - 1 - x) b.lines.length (by omega) (by omega) b (by omega) (by omega) (fun y hy => by have := count_rng hf hy; omega)
    have hfw := some_fault hf (2 ^ b.lines.length - 1 - x)
    have ew := wo_some hf hx
    have hbw := fault0 hfw
    have q22w := fun n => k22 n (someB (2 ^ b.lines.length - 1 - x) b.lines.length b) (by omega) (by omega)
    have q29w := fun n => k29 n (someB (2 ^ b.lines.length - 1 - x) b.lines.length b)
    have hpw := poss_R hfw
    have haw := asked_eq (fine := true) hfw
    unfold mixedV at q29w
    have hsp := leave_spec b
    have hinx := bits_inc x b.lines.length
    cases hl : leaveP b with
    | none =>
      rw [hl] at q38 hsp
      have hnp := hsp _ hinx
      rw [ew] at hnp
      have hE : truthsR (someB (2 ^ b.lines.length - 1 - x) b.lines.length b) = [] := by
        apply Classical.byContradiction
        intro hh
        rw [hpw.2 hh] at hnp
        cases hnp
      rw [haw, if_pos rfl, if_pos hE, if_neg (by decide)] at q29w
      have hcn : 0 < b.counts.length := by
        rcases Nat.eq_zero_or_pos b.counts.length with h0 | h0
        · have h0 := List.eq_nil_of_length_eq_zero h0
          have hz : 2 ^ b.lines.length - 1 < 2 ^ b.lines.length := by omega
          have hh := hsp _ (bits_inc (2 ^ b.lines.length - 1) b.lines.length)
          rw [wo_some hf hz, Nat.sub_self] at hh
          have hfe := some_fault hf 0
          have hse : someB 0 b.lines.length b = cutB b 0 := by
            have hb : ({ b with counts := [] } : Book) = b := by rw [← h0]
            have hsc := some_cut b 0
            rw [hb] at hsc
            exact hsc _
          rw [hse, poss_empty hf] at hh
          cases hh
        · exact h0
      generalize someB (2 ^ b.lines.length - 1 - x) b.lines.length b = w at *
      generalize boundsP w Scene.mixed w.lines.length = mm at q29w
      generalize 2 ^ b.lines.length - 1 - x = M at *
      generalize 2 ^ b.lines.length - 1 = F at *
      simp only [cellsB, cellsT, cellsR] at q42 q22 q38 q48 q47 q22w q29w ⊢
      simp [c13, argFr, q42, q22, q38, q48, q47, q22w, q29w, wk, e1, e2, hcn, encL, encC, k20]
      done
    | some y =>
      rw [hl] at q38 hsp
      obtain ⟨z, hz, rfl⟩ := inc_bits _ _ hsp.inc
      have hc2 := hsp.can
      rw [wo_some hf hz] at hc2
      have e3 := andn_ev hl8 hz
      have q47z := fun n => k47 n (2 ^ b.lines.length - 1 - z) b.lines.length (by omega) (by omega) b (by omega) (by omega) (fun y hy => by have := count_rng hf hy; omega)
      have hfz := some_fault hf (2 ^ b.lines.length - 1 - z)
      have hbz := fault0 hfz
      have q22z := fun n => k22 n (someB (2 ^ b.lines.length - 1 - z) b.lines.length b) (by omega) (by omega)
      have q29z := fun n => k29 n (someB (2 ^ b.lines.length - 1 - z) b.lines.length b)
      have hpz := (poss_R hfz).1 hc2
      have haz := asked_eq (fine := true) hfz
      unfold mixedV at q29z
      rw [haz, if_pos rfl, if_neg hpz, if_pos rfl] at q29z
      have ql := fun t9 ht c => l13s b hl8 z hz (i x) t9 rfl ht c
      have q50 := fun n => k50 n x b.lines.length (by omega) hx
      have hbl := bitsB_len x b.lines.length
      have hbz := bitsB_len z b.lines.length
      have q49 := fun n => k49 n (bitsB x b.lines.length) (bitsB z b.lines.length) (by omega) (by omega)
      by_cases hE : truthsR (someB (2 ^ b.lines.length - 1 - x) b.lines.length b) = []
      · rw [haw, if_pos rfl, if_pos hE, if_neg (by decide)] at q29w
        have ql := fun c => ql (i 11) rfl c
        clear hsp hl
        generalize someB (2 ^ b.lines.length - 1 - x) b.lines.length b = w at *
        generalize someB (2 ^ b.lines.length - 1 - z) b.lines.length b = w' at *
        generalize boundsP w' Scene.mixed w'.lines.length = mm at q29z
        generalize 2 ^ b.lines.length - 1 - x = M at *
        generalize 2 ^ b.lines.length - 1 - z = M' at *
        generalize 2 ^ b.lines.length - 1 = F at *
        generalize bitsB z b.lines.length = Z at *
        simp only [cellsB, cellsT, cellsR] at q42 q22 q38 q48 q47 q22w q29w q47z q22z q29z ql ⊢
        simp [c13, argFr, q42, q22, q38, q48, q47, q22w, q29w, q47z, q22z, q29z, ql, wk, e1, e2, e3, encL, encC, encI, k20]
        done
      · have hcw := hpw.2 hE
        rw [haw, if_pos rfl, if_neg hE, if_pos rfl] at q29w
        have ql := fun c => ql (i 0) rfl c
        have hs := hsp.min _ hinx (by rw [ew]; exact hcw)
        rw [hs] at q49
        clear hsp hl
        generalize someB (2 ^ b.lines.length - 1 - x) b.lines.length b = w at *
        generalize someB (2 ^ b.lines.length - 1 - z) b.lines.length b = w' at *
        generalize boundsP w' Scene.mixed w'.lines.length = mm at q29z
        generalize boundsP w Scene.mixed w.lines.length = mm' at q29w
        generalize 2 ^ b.lines.length - 1 - x = M at *
        generalize 2 ^ b.lines.length - 1 - z = M' at *
        generalize 2 ^ b.lines.length - 1 = F at *
        generalize bitsB z b.lines.length = Z at *
        generalize bitsB x b.lines.length = X at *
        simp only [cellsB, cellsT, cellsR] at q42 q22 q38 q48 q47 q22w q29w q47z q22z q29z ql ⊢
        simp [c13, argFr, q42, q22, q38, q48, q47, q22w, q29w, q47z, q22z, q29z, ql, q49, q50, wk, e1, e2, e3, encL, encC, encI, k20]
        done
end Go.Proofs.Try.Op
