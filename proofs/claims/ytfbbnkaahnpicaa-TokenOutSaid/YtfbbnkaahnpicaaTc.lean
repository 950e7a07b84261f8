/- The walk of TokenOut: true. No condition. -/
import Derived.Test.YtfbbnkaahnpicaaLa
import Derived.Test.YtfbbnkaahnpicaaFz
open Go Go.Pg Go.Proofs
namespace Go.Proofs.Try.Op
set_option maxRecDepth 100000
set_option linter.unusedSimpArgs false

@[simp] theorem clT (f : Nat) (L : List (List Line)) : L.all ((fun e => e.all (closedV (f + 2))) ∘ encT) = true := by
  rw [List.all_eq_true]
  intro t _
  simp [encT, encL]
@[simp] theorem clL (f : Nat) (L : List Line) : L.all ((fun e => e.all (closedV (f + 1))) ∘ encL) = true := by
  rw [List.all_eq_true]
  intro t _
  simp [encL]
@[simp] theorem clC (f : Nat) (L : List Count) : L.all ((fun e => e.all (closedV (f + 1))) ∘ encC) = true := by
  rw [List.all_eq_true]
  intro t _
  simp [encC]
@[simp] theorem clI (f : Nat) (L : List Int) : L.all ((fun e => e.all (closedV (f + 1))) ∘ encI) = true := by
  rw [List.all_eq_true]
  intro t _
  simp [encI]
theorem lw3 (b : Book) (h1 : 1 ≤ b.chairs) (h4 : b.chairs ≤ 4) (L : List (List Line)) (k : Nat) (hL : ∀ t ∈ L, k ≤ t.length ∧ t.length ≤ 90) (hlen : L.length ≤ 5000) (C T : List Int) (hC : C.length = b.chairs.toNat) (hT : T.length = b.chairs.toNat)
    (eC : ∀ (j : Nat) (h : j < C.length), C[j] = verd (L.length : Nat) (outN Line.c L k (j : Nat))) (eT : ∀ (j : Nat) (h : j < T.length), T[j] = verd (L.length : Nat) (outN Line.t L k (j : Nat))) : ∀ (d j : Nat) (c : Nat), j + d = b.chairs.toNat → ∃ (c' : Nat) (x : Fr), ∀ n m, d < m →
    loopA (execA Try.prog ann kn (n+5300) 98) lb3_12 (some ([1, 2, 5, 6, 8, 10], [2, 17, 19, 25])) m ⟨c, [(1, true, i k), (2, true, .ptr 0 2 0 0), (5, true, sl (C.map encI)), (6, true, sl (T.map encI)), (8, true, sl (L.map encT)), (10, true, i j)], ⟨[], [(2, 0, .box (cellsB b))]⟩⟩ =
      some (.exit 0, ⟨c', x, ⟨[], [(2, 0, .box (cellsB b))]⟩⟩)
  | 0, j, c, hd => by
    have hj : (j : Int) = b.chairs := by omega
    refine ⟨c, [(74, true, .bool false), (73, true, i b.chairs), (72, true, .ptr 0 2 0 0), (71, true, i b.chairs), (1, true, i k), (2, true, .ptr 0 2 0 0), (5, true, sl (C.map encI)), (6, true, sl (T.map encI)), (8, true, sl (L.map encT)), (10, true, i b.chairs)], fun n m hm => ?_⟩
    obtain ⟨m, rfl⟩ : ∃ m', m = m' + 1 := ⟨m - 1, by omega⟩
    simp [loopA_succ, cellsB, hj]
  | d + 1, j, c, hd => by
    have hj : (j : Int) < b.chairs := by omega
    have hjC : j < C.length := by omega
    have hjT : j < T.length := by omega
    have hw : IntKind.i64.wrap ((j : Int) + 1) = (j : Int) + 1 := wrap_i64 (by omega) (by omega)
    have q26 := fun n => k26 n L k j hL hlen
    have q27 := fun n => k27 n L k j hL hlen
    rw [← eC j hjC] at q26
    rw [← eT j hjT] at q27
    obtain ⟨c', x, ih⟩ := lw3 b h1 h4 L k hL hlen C T hC hT eC eT d (j + 1) c (by omega)
    refine ⟨c', x, fun n m hm => ?_⟩
    obtain ⟨m, rfl⟩ : ∃ m', m = m' + 1 := ⟨m - 1, by omega⟩
    have ih := ih n m (by omega)
    have hcl : (L.map encT).all (fun e => e.all (closedV 8)) = true := by simp [encT, encL]
    simp at hcl
    rw [loopA_succ]
    simp only [cellsB] at ih ⊢
    simp at ih
    simp [hj, hjC, hjT, hw, encI, encL, encC, encT, q26, q27, ih]
    done
theorem truthsR_len {b : Book} (hf : faultB b = 0) : (∀ t ∈ truthsR b, t.length = b.lines.length) ∧ (truthsR b).length ≤ 4096 := by
  obtain ⟨h1, h4, hl8, hc4, hc1, hc2, hx1, hx2, hok, hcok, hm⟩ := fault0 hf
  refine ⟨fun t ht => ?_, ?_⟩
  · have := (truthsR_mem hf).1 ht
    simp only [fitsB, Bool.and_eq_true] at this
    exact ((isRead_iff h1 hok).1 this.1).len
  · unfold truthsR trGo
    refine Nat.le_trans (List.length_filter_le _ _) ?_
    simp
    omega
theorem asked_eq {b : Book} {fine : Bool} (hf : faultB b = 0) : askedP b fine = if fine = true then (if truthsR b = [] then 11 else 0) else 2 := by
  unfold askedP
  rw [check_eq, hf, if_pos rfl]
  cases fine with
  | false => rfl
  | true =>
    simp only [if_true]
    by_cases h : truthsR b = []
    · have : possP b = false := by
        cases hp : possP b with
        | false => rfl
        | true => exact absurd h ((poss_R hf).1 hp)
      rw [this, if_pos h]; rfl
    · rw [(poss_R hf).2 h, if_neg h]; rfl
theorem asked_bad {b : Book} {fine : Bool} (hf : faultB b ≠ 0) : askedP b fine = faultB b := by
  unfold askedP
  rw [check_eq, if_neg hf]
theorem k3 (n : Nat) (b : Book) (k : Int) : call0 Try.prog (execA Try.prog ann kn (n+5500)) 3 [.agg (cellsB b), i k] = some (.bool true) := by
  rw [call0_eq Try.func3 b3 rfl (by simp [cellsB, encL, encC])]
  have q19 := fun n => k19 n b
  cases hT : thinB b with
  | false =>
    rw [hT] at q19
    simp only [cellsB] at q19 ⊢
    simp [c3, argFr, q19, encL, encC, k20]
  | true =>
    rw [hT] at q19
    have hb : b.lines.length ≤ 10 ∧ b.counts.length ≤ 6 := by
      simp only [thinB, Bool.and_eq_true, decide_eq_true_eq] at hT
      exact ⟨hT.1, hT.2.1⟩
    have q22 := fun n => k22 n b (by omega) (by omega)
    have q21 := fun n => k21 n b k
    have q23 := fun n => k23 n b
    have q24 := fun n => k24 n b
    have q25 := fun n => k25 n k 0 b.lines.length
    unfold outV at q21
    unfold sureV at q23
    by_cases hf : faultB b = 0
    · obtain ⟨h1, h4, hl8, hc4, hc1, hc2, hx1, hx2, hok, hcok, hm⟩ := fault0 hf
      obtain ⟨t1, t2⟩ := truthsR_len hf
      rw [hf] at q24
      rw [if_pos hf] at q23
      rw [asked_eq hf] at q21
      by_cases hE : truthsR b = []
      · rw [if_pos hE] at q21
        rw [if_pos (by rw [hE]; rfl)] at q23
        cases hin : inB k 0 b.lines.length with
        | false =>
          rw [hin] at q21 q25
          simp only [cellsB, cellsT, cellsR, if_true, Bool.false_eq_true, if_false, show ¬ (2 : Int) = 0 by decide] at q19 q22 q21 q23 q24 q25 ⊢
          simp [c3, argFr, q19, q22, q21, q23, q24, q25, encL, encC, k20]
          done
        | true =>
          rw [hin] at q21 q25
          simp only [cellsB, cellsT, cellsR, if_true, Bool.false_eq_true, if_false, show ¬ (11 : Int) = 0 by decide] at q19 q22 q21 q23 q24 q25 ⊢
          simp [c3, argFr, q19, q22, q21, q23, q24, q25, encL, encC, k20]
          done
      · rw [if_neg hE] at q21
        rw [if_neg (by intro h; exact hE (List.eq_nil_of_length_eq_zero h))] at q23
        cases hin : inB k 0 b.lines.length with
        | false =>
          rw [hin] at q21 q25
          simp only [cellsB, cellsT, cellsR, if_true, Bool.false_eq_true, if_false, show ¬ (2 : Int) = 0 by decide] at q19 q22 q21 q23 q24 q25 ⊢
          simp [c3, argFr, q19, q22, q21, q23, q24, q25, encL, encC, k20]
          done
        | true =>
          rw [hin] at q21 q25
          simp only [if_true] at q21
          obtain ⟨k, rfl⟩ : ∃ j : Nat, k = j := ⟨k.toNat, by simp [inB] at hin; omega⟩
          have hk : k ≤ b.lines.length := by simp [inB] at hin; omega
          rw [Int.toNat_natCast, verdsC hf hk, verdsT hf hk] at q21
          generalize hCv : ((List.range' 0 b.chairs.toNat).map fun j => verd ((truthsR b).length : Nat) (outN Line.c (truthsR b) k (j : Nat))) = C at q21
          generalize hTv : ((List.range' 0 b.chairs.toNat).map fun j => verd ((truthsR b).length : Nat) (outN Line.t (truthsR b) k (j : Nat))) = T at q21
          have hC : C.length = b.chairs.toNat := by rw [← hCv]; simp
          have hT' : T.length = b.chairs.toNat := by rw [← hTv]; simp
          obtain ⟨c', x, hl⟩ := lw3 b h1 h4 (truthsR b) k (fun t ht => by rw [t1 t ht]; omega) (by omega) C T hC hT' (by subst hCv; intro j hj; simp) (by subst hTv; intro j hj; simp) b.chairs.toNat 0 1 (by omega)
          have hl := hl (n + 189) (n + 5489) (by omega)
          have eC : (C.length : Int) = b.chairs := by omega
          have eT : (T.length : Int) = b.chairs := by omega
          simp only [cellsB, cellsT, cellsR] at q19 q22 q21 q23 q24 q25 hl ⊢
          simp at hl
          simp [c3, argFr, q19, q22, q21, q23, q24, q25, encL, encC, k20, eC, eT, hl]
          done
    · have e2 : decide (faultB b = 0) = false := by simpa using hf
      rw [asked_bad hf, if_neg hf] at q21
      rw [if_neg hf] at q23
      generalize faultB b = A at q21 q23 q24 e2 hf
      simp only [cellsB, cellsT, cellsR] at q19 q22 q21 q23 q24 ⊢
      simp [c3, argFr, q19, q22, q21, q23, q24, encL, encC, k20, e2]
      done
end Go.Proofs.Try.Op
