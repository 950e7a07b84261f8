/- The walk of WindFirst. No condition. -/
import Derived.Test.YtkemmiljbaneoaaU1
import Derived.Test.YtkemmiljbaneoaaN1
import Derived.Test.YtkemmiljbaneoaaFz
open Go Go.Pg Go.Proofs Go.Wind
namespace Go.Wind
theorem pickN_low (k : Nat) : ∀ (j : Nat) (l : List (Int × Int)), pickN (2 ^ k - 1) j l = l.take (k - j)
  | _, [] => by simp [pickN]
  | j, p :: r => by
    unfold pickN
    rw [Nat.testBit_two_pow_sub_one, pickN_low k (j + 1) r]
    by_cases h : j < k
    · rw [if_pos (by simpa using h)]
      obtain ⟨d, hd⟩ : ∃ d, k - j = d + 1 := ⟨k - j - 1, by omega⟩
      rw [hd, show k - (j + 1) = d by omega, List.take_succ_cons]
    · rw [if_neg (by simpa using h)]
      rw [show k - j = 0 by omega, show k - (j + 1) = 0 by omega]
      simp
end Go.Wind
namespace Go.Proofs.Try.Op
set_option maxRecDepth 100000
set_option linter.unusedSimpArgs false
theorem firstGo_spec (b : Beach) : ∀ (d k : Nat), k + d = b.notes.length → possB (withN b k) [] = true → ((firstGo b d k).2 = 7 ∧ possB (withN b b.notes.length) [] = true) ∨ ∃ x : Nat, firstGo b d k = ((x : Int), 0) ∧ x < b.notes.length ∧ possB (withN b x) [] = true ∧ possB (withN b (x + 1)) [] = false
  | 0, k, hd, hk => by
    have : k = b.notes.length := by omega
    subst this
    exact .inl ⟨rfl, hk⟩
  | d + 1, k, hd, hk => by
    have e : firstGo b (d + 1) k = (if possB (withN b (k + 1)) [] = true then firstGo b d (k + 1) else ((k : Int), 0)) := rfl
    rw [e]
    cases hp : possB (withN b (k + 1)) [] with
    | true =>
      rw [if_pos rfl]
      exact firstGo_spec b d (k + 1) (by omega) hp
    | false =>
      rw [if_neg (by decide)]
      exact .inr ⟨k, rfl, by omega, hk, hp⟩
theorem poss_empty (b : Beach) : possB b [] = !(dfsW b [] b.winds []).isEmpty := by
  unfold possB
  cases dfsW b [] b.winds [] <;> rfl
theorem withN_all (b : Beach) : withN b b.notes.length = b := by simp [withN]
theorem withN_none {b : Beach} (hb : Valid b) : possB (withN b 0) [] = true := by
  rw [poss_empty]
  have := dfs_free (withN_valid hb 0) (by simp [withN])
  simpa using this
set_option maxHeartbeats 4000000 in
theorem kFirstL (n : Nat) (b : Beach) (_ : okB b) : call0 Try.prog (execA Try.prog ann kn (n+7000)) 8 [.agg (cellsB b)] = some (.bool true) := by
  rw [call0_eq Try.func8 b8 rfl (by simp [cellsB, encI, encL, encP])]
  have qr := fun n => kReady n b
  cases hR : readyB b with
  | false =>
    rw [hR] at qr
    simp only [cellsB] at qr ⊢
    simp [c8, argFr, qr, encI, encL, encP, kAwakeX]
  | true =>
    rw [hR] at qr
    obtain ⟨hb, _⟩ := ready_of hR
    have hno := hb.no
    have qB := fun n => kBeachX n hb
    have qF := fun n => kFirst n b hb.w40
    have qt := fun n => kTruthful n b hb
    unfold firstV at qF
    rw [if_pos (fault_of hb)] at qF
    rcases firstGo_spec b b.notes.length 0 (by omega) (withN_none hb) with ⟨h1, h2⟩ | ⟨x, h1, h2, h3, h4⟩
    · rw [withN_all, poss_empty, Bool.not_eq_true'] at h2
      rw [h2, if_neg (by decide)] at qt
      rw [h1] at qF
      generalize (firstGo b b.notes.length 0).1 = y at qF
      simp only [cellsB, cellsR] at qr qB qF qt ⊢
      simp [c8, argFr, encI, encL, encP, qr, qB, qF, qt, kAwakeX]
    · rw [h1] at qF
      rw [poss_empty, Bool.not_eq_true'] at h3
      rw [poss_empty, Bool.not_eq_false'] at h4
      have hv1 := withN_valid hb x
      have hv2 := withN_valid hb (x + 1)
      have qt1 := fun n => kTruthful n (withN b x) hv1
      have qt2 := fun n => kTruthful n (withN b (x + 1)) hv2
      rw [h3, if_neg (by decide)] at qt1
      rw [h4, if_pos rfl] at qt2
      have qs1 := fun n => kSomeL n (2 ^ x - 1) b (by omega)
      have qs2 := fun n => kSomeL n (2 ^ (x + 1) - 1) b (by omega)
      have en1 : pickN (2 ^ x - 1) 0 b.notes = b.notes.take x := by rw [pickN_low, Nat.sub_zero]
      have en2 : pickN (2 ^ (x + 1) - 1) 0 b.notes = b.notes.take (x + 1) := by rw [pickN_low, Nat.sub_zero]
      rw [en1] at qs1
      rw [en2] at qs2
      have qi := fun n => kIn n (x : Int) 0 ((b.notes.length : Int) - 1)
      have hin : inI (x : Int) 0 ((b.notes.length : Int) - 1) = true := inI_iff.2 ⟨by omega, by omega⟩
      rw [hin] at qi
      have wl : IntKind.i64.wrap ((b.notes.length : Int) - 1) = (b.notes.length : Int) - 1 := wrap_i64 (by omega) (by omega)
      have wu := wrap_u64s (p := x) (by omega)
      have s1 := shlX (a := 1) (j := x) (by omega) (by omega)
      have s2 := shlX (a := 2) (j := x) (by omega) (by omega)
      have p1 : 1 ≤ 2 ^ x := Nat.one_le_two_pow
      have p2 : 2 ^ x ≤ 2 ^ 5 := Nat.pow_le_pow_right (by decide) (by omega)
      have e2 : 2 ^ (x + 1) = 2 * 2 ^ x := by rw [Nat.pow_succ, Nat.mul_comm]
      rw [e2] at qs2
      rw [Nat.one_mul] at s1
      generalize 2 ^ x = A at *
      have w1 : IntKind.i64.wrap ((A : Int) - 1) = ((A - 1 : Nat) : Int) := by rw [wrap_i64 (by omega) (by omega)]; omega
      have w2 : IntKind.i64.wrap (((2 * A : Nat) : Int) - 1) = ((2 * A - 1 : Nat) : Int) := by rw [wrap_i64 (by omega) (by omega)]; omega
      have s1 : evSh .shl .i64 1 (x : Int) = some (.int .i64 (A : Int)) := s1
      have s2 : evSh .shl .i64 2 (x : Int) = some (.int .i64 ((2 * A : Nat) : Int)) := s2
      generalize 2 * A - 1 = A2 at *
      generalize 2 * A = A3 at *
      generalize A - 1 = A1 at *
      simp only [cellsB, cellsR, withN] at qr qB qF qt1 qt2 qs1 qs2 ⊢
      generalize b.notes.take x = N1 at *
      generalize b.notes.take (x + 1) = N2 at *
      simp [c8, argFr, encI, encL, encP, qr, qB, qF, qt1, qt2, qs1, qs2, qi, wl, wu, convUi, s1, s2, w1, w2, -evSh_shl, kAwakeX]
end Go.Proofs.Try.Op
