/- The walk of TokenMoney: true. No condition. -/
import Derived.Test.YtfbbnkaahnpicaaT2
import Derived.Test.YtfbbnkaahnpicaaFz
import Derived.Test.YtfbbnkaahnpicaaY1
open Go Go.Pg Go.Proofs
namespace Go.Proofs.Try.Op
set_option maxRecDepth 100000
set_option linter.unusedSimpArgs false
theorem evEq45 {a b c d : Int} (ha : okI a) (hb : okI b) (hc : okI c) (hd : okI d) : evEq Try.prog 45 [i a, i b] [i c, i d] = some (decide (a = c) && decide (b = d)) := by
  have k3 : ∀ n : Int, (Lit.int .i64 n).wf = true → Program.keyLits Try.prog 15 3 [.int .i64 n] = some [.int .i64 n] := fun n h => by
    unfold Program.keyLits
    simp [Try.underlying3, h]
  have kl : ∀ {x y : Int}, okI x → okI y → Program.keyLits Try.prog 16 45 [.int .i64 x, .int .i64 y] = some [.int .i64 x, .int .i64 y] := fun {x y} hx hy => by
    unfold Program.keyLits
    simp [Try.underlying45, k3 _ (wfI hx), k3 _ (wfI hy)]
  have kt : (aggT Try.prog 45 && Program.keyTypeAt Try.prog 16 45 && !(Try.prog.eqGuardType Try.prog.depth 45)) = true := by kernel_rfl
  unfold evEq
  simp [plainC, kl ha hb, kl hc hd]
  refine ⟨⟨by simpa using kt, by simp [flatLits]⟩, ?_⟩
  simp only [eqLits, Bool.and_true]
  congr 1
theorem bounds_ok {f : List Line → Int} {L : List (List Line)} {r : Int × Int} (h : BoundsOf L f r) (hf : ∀ t ∈ L, -1000000 ≤ f t ∧ f t ≤ 1000000) : okI r.1 ∧ okI r.2 := by
  obtain ⟨t1, h1, e1⟩ := h.lo
  obtain ⟨t2, h2, e2⟩ := h.hi
  have a1 := hf t1 h1
  have a2 := hf t2 h2
  exact ⟨⟨by omega, by omega⟩, ⟨by omega, by omega⟩⟩
set_option maxHeartbeats 1000000 in
theorem k4 (n : Nat) (b : Book) (k : Int) (_ : okBk b) (_ : okI k) : call0 Try.prog (execA Try.prog ann kn (n+5700)) 4 [.agg (cellsB b), i k] = some (.bool true) := by
  rw [call0_eq Try.func4 b4 rfl (by simp [cellsB, encL, encC])]
  have q19 := fun n => k19 n b
  have e00 : evEq Try.prog 45 [i 0, i 0] [i 0, i 0] = some true := by rw [evEq45 (okI_of (by omega) (by omega)) (okI_of (by omega) (by omega)) (okI_of (by omega) (by omega)) (okI_of (by omega) (by omega))]; rfl
  cases hT : thinB b with
  | false =>
    rw [hT] at q19
    simp only [cellsB] at q19 ⊢
    simp [c4, argFr, q19, encL, encC, k20]
  | true =>
    rw [hT] at q19
    have hb : b.lines.length ≤ 10 ∧ b.counts.length ≤ 6 := by
      simp only [thinB, Bool.and_eq_true, decide_eq_true_eq] at hT
      exact ⟨hT.1, hT.2.1⟩
    have q22 := fun n => k22 n b (by omega) (by omega)
    have q28 := fun n => k28 n b k
    have q29 := fun n => k29 n b
    have q23 := fun n => k23 n b
    have q24 := fun n => k24 n b
    have q25 := fun n => k25 n k 0 b.lines.length
    have q30 := fun n lo hi => k30 n lo hi
    unfold moneyV at q28
    unfold mixedV at q29
    unfold sureV at q23
    by_cases hf : faultB b = 0
    · obtain ⟨h1, h4, hl8, hc4, hc1, hc2, hx1, hx2, hok, hcok, hm⟩ := fault0 hf
      obtain ⟨t1, t2⟩ := truthsR_len hf
      rw [hf] at q24
      rw [if_pos hf] at q23
      rw [asked_eq hf] at q28 q29
      by_cases hE : truthsR b = []
      · rw [if_pos hE] at q28 q29
        rw [if_pos (by rw [hE]; rfl)] at q23
        cases hin : inB k 0 b.lines.length with
        | false =>
          rw [hin] at q28 q25
          simp only [cellsB, cellsT, cellsR, if_true, Bool.false_eq_true, if_false, show ¬ (2 : Int) = 0 by decide, show ¬ (11 : Int) = 0 by decide] at q19 q22 q28 q29 q23 q24 q25 ⊢
          simp [c4, argFr, q19, q22, q28, q29, q23, q24, q25, encL, encC, k20, e00, plK]
          done
        | true =>
          rw [hin] at q28 q25
          simp only [cellsB, cellsT, cellsR, if_true, Bool.false_eq_true, if_false, show ¬ (11 : Int) = 0 by decide] at q19 q22 q28 q29 q23 q24 q25 ⊢
          simp [c4, argFr, q19, q22, q28, q29, q23, q24, q25, encL, encC, k20, e00, plK]
          done
      · rw [if_neg hE] at q28 q29
        rw [if_neg (by intro h; exact hE (List.eq_nil_of_length_eq_zero h))] at q23
        simp only [if_true] at q29
        have q32 := fun n => k32 n (truthsR b) (fun t ht => by rw [t1 t ht]; omega) (by omega)
        have hx := bounds_ok (boundsX hf hE) fun t ht => by have := mix_range hf (t1 t ht); omega
        rw [← mixR hf hE] at q32
        generalize boundsP b Scene.mixed b.lines.length = w at q29 q32 hx
        have ew : evEq Try.prog 45 [i w.1, i w.2] [i w.1, i w.2] = some true := by rw [evEq45 hx.1 hx.2 hx.1 hx.2]; simp
        cases hin : inB k 0 b.lines.length with
        | false =>
          rw [hin] at q28 q25
          simp only [cellsB, cellsT, cellsR, if_true, Bool.false_eq_true, if_false, show ¬ (2 : Int) = 0 by decide] at q19 q22 q28 q29 q23 q24 q25 ⊢
          simp [c4, argFr, q19, q22, q28, q29, q23, q24, q25, q30, q32, encL, encC, encT, k20, e00, ew, plK]
          done
        | true =>
          rw [hin] at q28 q25
          simp only [if_true] at q28
          obtain ⟨k, rfl⟩ : ∃ j : Nat, k = j := ⟨k.toNat, by simp [inB] at hin; omega⟩
          have hk : k ≤ b.lines.length := by simp [inB] at hin; omega
          have q31 := fun n => k31 n b hc1 hc2 hx1 hx2 (truthsR b) k (fun t ht => by rw [t1 t ht]; omega) (by omega)
          have hy := bounds_ok (boundsM hf hk hE) fun t ht => by have := money_range hf (t1 t ht) k; omega
          rw [← moneyR hf hk hE] at q31
          rw [Int.toNat_natCast] at q28
          generalize boundsP b Scene.money k = z at q28 q31 hy
          have ez : evEq Try.prog 45 [i z.1, i z.2] [i z.1, i z.2] = some true := by rw [evEq45 hy.1 hy.2 hy.1 hy.2]; simp
          simp only [cellsB, cellsT, cellsR] at q19 q22 q28 q29 q23 q24 q25 q31 ⊢
          simp [c4, argFr, q19, q22, q28, q29, q23, q24, q25, q30, q31, q32, encL, encC, encT, k20, e00, ew, ez]
          done
    · have e2 : decide (faultB b = 0) = false := by simpa using hf
      rw [asked_bad hf, if_neg hf] at q28 q29
      rw [if_neg hf] at q23
      generalize faultB b = A at q28 q29 q23 q24 e2 hf
      simp only [cellsB, cellsT, cellsR] at q19 q22 q28 q29 q23 q24 ⊢
      simp [c4, argFr, q19, q22, q28, q29, q23, q24, encL, encC, k20, e2, e00, plK]
      done
end Go.Proofs.Try.Op
