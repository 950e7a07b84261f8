/- The walk of WindLeaves. No condition. -/
import Derived.Test.YtkemmiljbaneoaaGreatW4
import Derived.Test.YtkemmiljbaneoaaGreatW3
import Derived.Test.YtkemmiljbaneoaaGreatN1
import Derived.Test.YtkemmiljbaneoaaGreatN2
import Derived.Test.YtkemmiljbaneoaaGreatR1
import Derived.Test.YtkemmiljbaneoaaGreatR2
import Derived.Test.YtkemmiljbaneoaaGreatFz
open Go Go.Pg Go.Proofs Go.Wind
namespace Go.Proofs.Tryz.Op
set_option maxRecDepth 100000
set_option linter.unusedSimpArgs false
theorem kAwakeC (n : Nat) (d : Option Tmp) (st : XS) : ca2 (envA Tryz.prog ann kn n) d st 15 [] = valI d st (some (.bool true)) := by
  rw [ca2_closed d rfl]; rfl
theorem thin_lensC {b : Beach} (h : thinB b = true) : b.face.length ≤ 100 ∧ b.sun.length ≤ 100 ∧ b.winds.length ≤ 100 ∧ (∀ l ∈ b.winds, l.length ≤ 40) ∧ b.breaks.length ≤ 100 ∧ b.notes.length ≤ 100 := by
  simp only [thinB, Bool.and_eq_true, Bool.not_eq_true', Bool.or_eq_false_iff, Bool.not_eq_false', decide_eq_false_iff_not] at h
  obtain ⟨⟨⟨⟨⟨h1, h2⟩, h3⟩, h4⟩, h5⟩, _⟩ := h
  obtain ⟨h6, h7⟩ := brief_len h3
  exact ⟨by omega, by omega, by omega, fun l hl => by have := h7 l hl; omega, by omega, by omega⟩
theorem allR_len (b : Beach) : (allR b).length = manyN b.winds := by simp [allR]
theorem allR_lt {b : Beach} (hno : b.notes.length ≤ 5) : ∀ x ∈ allR b, x < 4611686018427387904 := by
  intro x hx
  obtain ⟨k, _, rfl⟩ := List.mem_map.1 hx
  have h1 := maskOf_lt (nthGo b.winds k) b.notes 0 0 (by decide)
  have h2 : 2 ^ (0 + b.notes.length) ≤ 2 ^ 30 := Nat.pow_le_pow_right (by decide) (by omega)
  omega
theorem leaveR_len (b : Beach) (hb : Valid b) : (leaveR (allR b) b.notes.length).length ≤ b.notes.length := by
  have hs := leave_spec b
  rw [leave_eq hb] at hs
  have := inc_room hs.inc (Nat.zero_le _)
  omega
set_option maxHeartbeats 4000000 in
theorem kLeavesL (n : Nat) (b : Beach) (_ : okB b) : call0 Tryz.prog (execA Tryz.prog ann kn (n+6000)) 6 [.agg (cellsB b)] = some (.bool true) := by
  rw [call0_eq Tryz.func6 b6 rfl (by simp [cellsB, encI, encL, encP])]
  have qT := fun n => kThin n b
  cases hT : thinB b with
  | false =>
    rw [hT] at qT
    simp only [cellsB] at qT ⊢
    simp [c6, argFr, qT, encI, encL, encP, kAwakeC]
  | true =>
  rw [hT] at qT
  obtain ⟨l1, l2, l3, l4, l5, l6⟩ := thin_lensC hT
  have l100 : ∀ l ∈ b.winds, l.length ≤ 100 := fun l hl => by have := l4 l hl; omega
  have qB := fun n => kBeach n b l1 l2 l3 l100 l5 l6
  have qf := fun n => kfault n b l100
  have qFi := fun n => kFirst n b l4
  have qLe := fun n => kLeave n b l4 (fun h0 => by rw [leave_eq (valid_of h0)]; rfl)
  have slnil : sl ([] : List (List V)) = .nil := rfl
  unfold firstV at qFi
  unfold leaveV at qLe
  by_cases h0 : faultB b = 0
  · have hb := valid_of h0
    have hno := hb.no
    have hl5 := hb.hl
    have hmany := hb.many
    have hnl : ∀ k, (nthGo b.winds k).length = b.winds.length := fun k => listed_len (nth_listed hb.ne k)
    have qA := fun n => kAll n b hb (fun k p hp => by have := Valid.notes' hb (hnl k) p hp; omega) (fun k => by rw [hnl k]; omega) hmany
    have hal := allR_len b
    have hlt := allR_lt (b := b) (by omega)
    have qLR := fun n => kLeaveR n b (by omega) (allR b) (by omega) hlt
    have qFR := fun n => kFirstR n b (by omega) (allR b) (by omega) hlt
    have hll := leaveR_len b hb
    have qS := fun n => kSame n (leaveR (allR b) b.notes.length) (leaveR (allR b) b.notes.length) (by omega)
    rw [if_pos h0, leave_eq hb, Option.getD_some] at qLe
    rw [if_pos h0, first_eq hb b.notes.length 0 (by omega)] at qFi
    rw [h0] at qf
    have hcl : ((allR b).map encN).all (fun e => e.all (closedV 9)) = true := by simp [encN]
    generalize leaveR (allR b) b.notes.length = Y at *
    generalize firstRGo (allR b) b.notes.length 0 = F at *
    generalize allR b = al at *
    cases F with
    | none =>
      simp only [cellsB, cellsR, optN, decide_true] at qT qB qf qFi qLe qA qLR qFR qS ⊢
      simp [c6, argFr, qT, qB, qf, qFi, qLe, qA, qLR, qFR, qS, encI, encL, encP, encN, kAwakeC]
    | some x =>
      have hx0 : decide ((x : Int) < 0) = false := decide_eq_false (by omega)
      simp only [cellsB, cellsR, optN, decide_true] at qT qB qf qFi qLe qA qLR qFR qS ⊢
      simp [c6, argFr, qT, qB, qf, qFi, qLe, qA, qLR, qFR, qS, hx0, encI, encL, encP, encN, kAwakeC]
  · rw [if_neg h0] at qFi qLe
    generalize faultB b = A at qFi qLe qf h0
    simp only [cellsB, cellsR, List.map_nil, slnil] at qT qB qf qFi qLe ⊢
    simp [c6, argFr, qT, qB, qf, qFi, qLe, h0, encI, encL, encP, kAwakeC]
end Go.Proofs.Tryz.Op
