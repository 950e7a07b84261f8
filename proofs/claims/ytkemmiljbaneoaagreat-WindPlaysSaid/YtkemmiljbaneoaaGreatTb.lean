/- The walk of WindPlays. No condition. -/
import Derived.Test.YtkemmiljbaneoaaGreatV1
import Derived.Test.YtkemmiljbaneoaaGreatW4
import Derived.Test.YtkemmiljbaneoaaGreatFz
open Go Go.Pg Go.Proofs Go.Wind
namespace Go.Proofs.Tryz.Op
set_option maxRecDepth 100000
set_option linter.unusedSimpArgs false
theorem kAwake (n : Nat) (d : Option Tmp) (st : XS) : ca2 (envA Tryz.prog ann kn n) d st 15 [] = valI d st (some (.bool true)) := by
  rw [ca2_closed d rfl]; rfl
theorem playP_ok {b : Beach} (hb : Valid b) (p : List (List Int)) (t : List Int) (h5 : t.length ≤ 5) : (playP b p t b.rows.toNat).length ≤ 100 ∧ (∀ l ∈ playP b p t b.rows.toNat, l.length ≤ 100) ∧ ∀ l ∈ playP b p t b.rows.toNat, ∀ x ∈ l, okI x.sun ∧ okI x.calm ∧ okI x.good := by
  have hro := hb.ro
  have hpc := hb.pl
  refine ⟨by simp [playP]; omega, fun l hl => ?_, fun l hl x hx => ?_⟩
  · simp only [playP, List.mem_map] at hl
    obtain ⟨r, _, rfl⟩ := hl
    simp [rowP]; omega
  · simp only [playP, List.mem_map] at hl
    obtain ⟨r, _, rfl⟩ := hl
    simp only [rowP, List.mem_map] at hx
    obtain ⟨q, _, rfl⟩ := hx
    have := hrs_le (calmAt b p t r q) (litB b p r) t.length
    change 0 ≤ (hoursP b p t r q).sun ∧ (hoursP b p t r q).sun ≤ t.length ∧ 0 ≤ (hoursP b p t r q).calm ∧ (hoursP b p t r q).calm ≤ t.length ∧ 0 ≤ (hoursP b p t r q).good ∧ (hoursP b p t r q).good ≤ t.length at this
    exact ⟨⟨by omega, by omega⟩, ⟨by omega, by omega⟩, ⟨by omega, by omega⟩⟩
theorem sl_ne {α : Type} {f : α → List V} {l : List α} (h : l ≠ []) : sl (l.map f) = .list false (l.map f) := by
  cases l with
  | nil => exact absurd rfl h
  | cons x l => rfl
theorem thin_lens {b : Beach} (h : thinB b = true) : b.face.length ≤ 100 ∧ b.sun.length ≤ 100 ∧ b.winds.length ≤ 100 ∧ (∀ l ∈ b.winds, l.length ≤ 40) ∧ b.breaks.length ≤ 100 ∧ b.notes.length ≤ 100 := by
  simp only [thinB, Bool.and_eq_true, Bool.not_eq_true', Bool.or_eq_false_iff, Bool.not_eq_false', decide_eq_false_iff_not] at h
  obtain ⟨⟨⟨⟨⟨h1, h2⟩, h3⟩, h4⟩, h5⟩, _⟩ := h
  obtain ⟨h6, h7⟩ := brief_len h3
  exact ⟨by omega, by omega, by omega, fun l hl => by have := h7 l hl; omega, by omega, by omega⟩
set_option maxHeartbeats 4000000 in
theorem kPlays (n : Nat) (b : Beach) (_ : okB b) (pl : List (List Int)) (_ : ∀ x ∈ pl, ∀ n ∈ x, okI n) (t : List Int) (_ : ∀ n ∈ t, okI n) : call0 Tryz.prog (execA Tryz.prog ann kn (n+3000)) 11 [.agg (cellsB b), lli pl, li t] = some (.bool true) := by
  rw [call0_eq Tryz.func11 b11 rfl (by simp [cellsB, encI, encL, encP])]
  have qT := fun n => kThin n b
  have qBr := fun n => kBrief n pl
  cases hT : thinB b with
  | false =>
    rw [hT] at qT
    simp only [cellsB] at qT ⊢
    simp [c11, argFr, qT, encI, encL, encP, kAwake]
  | true =>
  rw [hT] at qT
  cases hBr : briefB pl with
  | false =>
    rw [hBr] at qBr
    simp only [cellsB] at qT ⊢
    simp [c11, argFr, qT, qBr, encI, encL, encP, kAwake]
  | true =>
  rw [hBr] at qBr
  by_cases h7 : (7 : Int) < t.length
  · simp only [cellsB] at qT ⊢
    simp [c11, argFr, qT, qBr, h7, encI, encL, encP, kAwake]
  obtain ⟨l1, l2, l3, l4, l5, l6⟩ := thin_lens hT
  obtain ⟨p1, p2⟩ := brief_len hBr
  have l100 : ∀ l ∈ b.winds, l.length ≤ 100 := fun l hl => by have := l4 l hl; omega
  have qB := fun n => kBeach n b l1 l2 l3 l100 l5 l6
  have qli := fun n => kLists n pl (by omega) (fun l hl => by have := p2 l hl; omega)
  have qt := fun n => kList n t (by omega)
  have qP := fun n => kPlayL n b l4 pl t
  have qPr := fun n => kProveTruth n b l4 t
  have qf := fun n => kfault n b l100
  have qc := fun n => kCheck n b l4
  by_cases h0 : faultB b = 0
  · have hb := valid_of h0
    have qIT := fun n => kTruthR n b hb t
    have qIP := fun n => kIsPlanR n b hb pl (by omega)
    have qIL := fun n => kListedR n b hb t
    unfold playV at qP
    rw [if_neg (by simp [h0])] at qP
    simp only [h0, decide_true, Bool.true_and] at qPr
    rw [h0] at qf qc
    by_cases hp : isPlanB b pl = true
    · by_cases ht : listedGo t b.winds = true
      · have hpo := plan_of hp
        have qR := fun n => kRefPlay n b hb pl hpo t ht
        rw [refP_eq hb hpo ht] at qR
        have hlw := listed_len ht
        have hl5 := hb.hl
        obtain ⟨o1, o2, o3⟩ := playP_ok hb pl t (by omega)
        have qh := fun n => kHours n _ o1 o2 o3
        have hne : playP b pl t b.rows.toNat ≠ [] := fun e => by
          have e2 := congrArg List.length e
          have e3 := hb.ro
          simp [playP] at e2
          omega
        rw [if_pos ⟨hp, ht⟩] at qP
        rw [sl_ne hne] at qP qR
        rw [hp] at qIP
        rw [ht] at qIL
        generalize isTruthB b t = z at qIT qPr
        generalize playP b pl t b.rows.toNat = K at *
        simp only [cellsB, cellsR] at qT qB qP qPr qf qc qIT qIP qIL qR ⊢
        cases z <;> simp [c11, argFr, qT, qBr, h7, qB, qli, qt, qP, qPr, qf, qc, qIT, qIP, qIL, qR, qh, encI, encL, encP, encHs, encH, kAwake]
      · have ht : listedGo t b.winds = false := by simpa using ht
        rw [if_neg (fun h => by rw [ht] at h; cases h.2)] at qP
        rw [hp] at qIP
        rw [ht] at qIL
        generalize isTruthB b t = z at qIT qPr
        simp only [cellsB, cellsR] at qT qB qP qPr qf qc qIT qIP qIL ⊢
        cases z <;> simp [c11, argFr, qT, qBr, h7, qB, qli, qt, qP, qPr, qf, qc, qIT, qIP, qIL, encI, encL, encP, encHs, encH, kAwake]
    · have hp : isPlanB b pl = false := by simpa using hp
      rw [if_neg (fun h => by rw [hp] at h; cases h.1)] at qP
      rw [hp] at qIP
      generalize isTruthB b t = z at qIT qPr
      simp only [cellsB, cellsR] at qT qB qP qPr qf qc qIT qIP qIL ⊢
      cases z <;> simp [c11, argFr, qT, qBr, h7, qB, qli, qt, qP, qPr, qf, qc, qIT, qIP, qIL, encI, encL, encP, encHs, encH, kAwake]
  · unfold playV at qP
    rw [if_pos h0] at qP
    simp only [h0, decide_false, Bool.false_and] at qPr
    simp only [cellsB, cellsR] at qT qB qP qPr qf qc ⊢
    simp [c11, argFr, qT, qBr, h7, qB, qli, qt, qP, qPr, qf, qc, h0, encI, encL, encP, encHs, encH, kAwake]
end Go.Proofs.Tryz.Op
