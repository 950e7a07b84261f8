/- The walk of TokenEnds: true. No condition. -/
import Derived.Test.YtfbbnkaahnpicaaT2
import Derived.Test.YtfbbnkaahnpicaaFz
import Derived.Test.YtfbbnkaahnpicaaY1
open Go Go.Pg Go.Proofs
namespace Go.Proofs.Try.Op
set_option maxRecDepth 100000
set_option linter.unusedSimpArgs false
@[simp] theorem conv_3_70 (k : IntKind) (n : Int) : evConv Try.prog 3 70 (.int k n) = some (.int .u64 (IntKind.u64.wrap n)) := by
  unfold evConv
  rw [Try.underlying3, Try.underlying70]
@[simp] theorem conv_5_3 (k : IntKind) (n : Int) : evConv Try.prog 5 3 (.int k n) = some (.int .i64 (IntKind.i64.wrap n)) := by
  unfold evConv
  rw [Try.underlying5, Try.underlying3]
@[simp] theorem conv_73_3 (k : IntKind) (n : Int) : evConv Try.prog 73 3 (.int k n) = some (.int .i64 (IntKind.i64.wrap n)) := by
  unfold evConv
  rw [Try.underlying73, Try.underlying3]
theorem w64_0 : IntKind.u64.wrap 0 = 0 := by decide
theorem w64_1 : IntKind.u64.wrap 1 = 1 := by decide
theorem w64_2 : IntKind.u64.wrap 2 = 2 := by decide
theorem w64_3 : IntKind.u64.wrap 3 = 3 := by decide
attribute [simp] w64_0 w64_1 w64_2 w64_3
def rdy (b : Book) : Bool := thinB b && decide (faultB b = 0)
theorem k42 (n : Nat) (b : Book) : callK Try.prog kn (execA Try.prog ann kn (n+600)) 42 [.agg (cellsB b)] = some (.bool (rdy b)) := by
  rw [callK_of rfl, call0_eq Try.func42 b42 rfl (by simp [cellsB, encL, encC])]
  have q19 := fun n => k19 n b
  have q67 := fun n => k67 n b
  unfold rdy
  generalize hT : thinB b = t at q19
  generalize hF : decide (faultB b = 0) = f
  generalize faultB b = A at q67 hF
  simp only [cellsB] at q19 q67 ⊢
  cases t
  · simp [c42, argFr, q19, q67, encL, encC]
  · simp [c42, argFr, q19, q67, encL, encC, hF]
def orI (a b : Int) : Int := IntKind.i64.wrap ((BitVec.ofInt 64 a ||| BitVec.ofInt 64 b).toNat : Int)
def met4 (e0 e1 e2 e3 : Bool) (m : Int) : Int :=
  let m := if e0 = true then orI m 1 else m
  let m := if e1 = true then orI m 2 else m
  let m := if e2 = true then orI m 4 else m
  if e3 = true then orI m 8 else m
theorem l7b (b : Book) (k : Nat) (lo hi qlo qhi : Int) (L : List (List Line)) (jj : Nat) (e0 e1 e2 e3 : Bool) (met : Int) (c c15 : Nat) : ∀ n m, 4 < m →
    loopA (execA Try.prog ann kn (n+200) 116) lb7_16 (some ([2, 5, 6, 8, 9, 10, 11, 12, 15, 16], [2, 6, 8, 15, 30, 37, 42])) m ⟨c, [(2, true, .ptr 0 2 0 0), (5, true, i k), (6, true, .ptr 0 6 1 0), (8, true, .ptr 0 8 2 0), (9, true, i 0), (10, true, sl (L.map encT)), (11, true, i met), (12, true, i jj), (15, true, .ptr 0 15 c15 0), (16, true, i 0)],
      ⟨[], [(2, 0, .box (cellsB b)), (6, 1, .box [i lo, i hi]), (8, 2, .box [i qlo, i qhi]), (15, c15, .box [.bool e0, .bool e1, .bool e2, .bool e3])]⟩⟩ =
      some (.exit 2, ⟨c, [(96, true, .bool false), (95, true, i 4), (2, true, .ptr 0 2 0 0), (5, true, i k), (6, true, .ptr 0 6 1 0), (8, true, .ptr 0 8 2 0), (9, true, i 0), (10, true, sl (L.map encT)), (11, true, i (met4 e0 e1 e2 e3 met)), (12, true, i jj), (15, true, .ptr 0 15 c15 0), (16, true, i 4)],
      ⟨[], [(2, 0, .box (cellsB b)), (6, 1, .box [i lo, i hi]), (8, 2, .box [i qlo, i qhi]), (15, c15, .box [.bool e0, .bool e1, .bool e2, .bool e3])]⟩⟩) := by
  intro n m hm
  obtain ⟨m, rfl⟩ : ∃ m', m = m' + 5 := ⟨m - 5, by omega⟩
  clear hm
  cases e0 <;> cases e1 <;> cases e2 <;> cases e3
  all_goals
    simp [loopA_succ, cellsB, met4, IntKind.bits]
    try rfl
    done
end Go.Proofs.Try.Op
/- The walk of TokenEnds: true. No condition. -/
open Go Go.Pg Go.Proofs
namespace Go.Proofs.Try.Op
set_option maxRecDepth 100000
set_option linter.unusedSimpArgs false
theorem info4 : (Try.prog.info? 4).isSome = true := by kernel_rfl
@[simp] theorem build_69 (ps : List (Nat × V)) : evBuild Try.prog 69 ps = if (ps.all fun p => flatOk p.2) = true then ma1 .agg (fillV (fun i => some (i * 1, 1)) [.bool false, .bool false, .bool false, .bool false] ps) else none := by
  unfold evBuild
  rw [zero_69, Try.underlying69]
  have c4 : Try.prog.cellsOf 4 = 1 := cells_4
  simp only [info4, and_true, c4]
  split
  · cases fillV (fun i => some (i * 1, 1)) [V.bool false, .bool false, .bool false, .bool false] ps <;> rfl
  · rfl
def b2 (x : Bool) (v : Int) : Int := if x = true then v else 0
def encM4 (a b c d : Bool) : Int := b2 a 1 + (b2 b 2 + (b2 c 4 + b2 d 8))
theorem met4_enc (a b c d e0 e1 e2 e3 : Bool) : met4 e0 e1 e2 e3 (encM4 a b c d) = encM4 (a || e0) (b || e1) (c || e2) (d || e3) := by
  cases a <;> cases b <;> cases c <;> cases d <;> cases e0 <;> cases e1 <;> cases e2 <;> cases e3 <;> decide
theorem l7c (b : Book) (hc1 : 1 ≤ b.coin) (hc2 : b.coin ≤ 99) (hx1 : 0 ≤ b.box) (hx2 : b.box ≤ 999) (L : List (List Line)) (k : Nat) (hL : ∀ t ∈ L, k ≤ t.length ∧ t.length ≤ 90) (hlen : L.length ≤ 5000) (lo hi qlo qhi : Int) : ∀ (d j c : Nat) (m0 m1 m2 m3 : Bool), j + d = L.length → ∃ c' : Nat, ∀ n m, d < m →
    loopA (execA Try.prog ann kn (n+400) 116) lb7_11 (some ([2, 5, 6, 8, 9, 10, 11, 12], [2, 6, 8, 30, 37, 42])) m ⟨c, [(2, true, .ptr 0 2 0 0), (5, true, i k), (6, true, .ptr 0 6 1 0), (8, true, .ptr 0 8 2 0), (9, true, i 0), (10, true, sl (L.map encT)), (11, true, i (encM4 m0 m1 m2 m3)), (12, true, i j)],
      ⟨[], [(2, 0, .box (cellsB b)), (6, 1, .box [i lo, i hi]), (8, 2, .box [i qlo, i qhi])]⟩⟩ =
      some (.exit 0, ⟨c', [(63, true, .bool false), (62, true, i L.length), (61, true, sl (L.map encT)), (60, true, i L.length), (2, true, .ptr 0 2 0 0), (5, true, i k), (6, true, .ptr 0 6 1 0), (8, true, .ptr 0 8 2 0), (9, true, i 0), (10, true, sl (L.map encT)), (11, true, i (encM4 (m0 || (L.drop j).any fun t => decide (moneyB b t k = lo)) (m1 || (L.drop j).any fun t => decide (moneyB b t k = hi)) (m2 || (L.drop j).any fun t => decide (mixB t = qlo)) (m3 || (L.drop j).any fun t => decide (mixB t = qhi)))), (12, true, i L.length)],
      ⟨[], [(2, 0, .box (cellsB b)), (6, 1, .box [i lo, i hi]), (8, 2, .box [i qlo, i qhi])]⟩⟩)
  | 0, j, c, m0, m1, m2, m3, hd => by
    have : j = L.length := by omega
    subst this
    refine ⟨c, fun n m hm => ?_⟩
    obtain ⟨m, rfl⟩ : ∃ m', m = m' + 1 := ⟨m - 1, by omega⟩
    simp [loopA_succ, cellsB]
  | d + 1, j, c, m0, m1, m2, m3, hd => by
    have hj : j < L.length := by omega
    have hw : IntKind.i64.wrap ((j : Int) + 1) = (j : Int) + 1 := wrap_i64 (by omega) (by omega)
    have hh := hL _ (List.getElem_mem hj)
    have q44 := fun n => k44 n b hc1 hc2 hx1 hx2 L[j] k hh.1 hh.2
    have q45 := fun n => k45 n L[j] hh.2
    rw [List.drop_eq_getElem_cons hj]
    simp only [List.any_cons]
    obtain ⟨c', ih⟩ := l7c b hc1 hc2 hx1 hx2 L k hL hlen lo hi qlo qhi d (j + 1) (c + 1) (m0 || decide (moneyB b L[j] k = lo)) (m1 || decide (moneyB b L[j] k = hi)) (m2 || decide (mixB L[j] = qlo)) (m3 || decide (mixB L[j] = qhi)) (by omega)
    refine ⟨c', fun n m hm => ?_⟩
    obtain ⟨m, rfl⟩ : ∃ m', m = m' + 1 := ⟨m - 1, by omega⟩
    have ih := ih n m (by omega)
    have hb := l7b b k lo hi qlo qhi L j (decide (moneyB b L[j] k = lo)) (decide (moneyB b L[j] k = hi)) (decide (mixB L[j] = qlo)) (decide (mixB L[j] = qhi)) (encM4 m0 m1 m2 m3) (c + 1) c (n + 192) (n + 392) (by omega)
    rw [met4_enc] at hb
    simp only [Bool.or_assoc] at ih hb ⊢
    generalize encM4 (m0 || (decide (moneyB b L[j] k = lo) || (List.drop (j + 1) L).any fun t => decide (moneyB b t k = lo))) _ _ _ = w at ih ⊢
    generalize encM4 (m0 || decide (moneyB b L[j] k = lo)) (m1 || decide (moneyB b L[j] k = hi)) (m2 || decide (mixB L[j] = qlo)) (m3 || decide (mixB L[j] = qhi)) = w2 at ih hb
    rw [loopA_succ]
    simp only [cellsB] at q44 ih hb ⊢
    simp at ih hb
    simp [hj, hw, encT, encL, encC, q44, q45, hb, ih]
    done
theorem any_of {L : List (List Line)} {f : List Line → Int} {v : Int} (h : ∃ t ∈ L, f t = v) : (L.any fun t => decide (f t = v)) = true := by
  obtain ⟨t, ht, e⟩ := h
  rw [List.any_eq_true]
  exact ⟨t, ht, by simpa using e⟩
set_option maxHeartbeats 1000000 in
theorem k7 (n : Nat) (b : Book) (κ : Nat) (_ : okBk b) (hκ : κ ≤ 255) : call0 Try.prog (execA Try.prog ann kn (n+5700)) 7 [.agg (cellsB b), .int .u8 κ] = some (.bool true) := by
  rw [call0_eq Try.func7 b7 rfl (by simp [cellsB, encL, encC])]
  have q42 := fun n => k42 n b
  cases hR : rdy b with
  | false =>
    rw [hR] at q42
    simp only [cellsB] at q42 ⊢
    simp [c7, argFr, q42, encL, encC, k20]
  | true =>
    rw [hR] at q42
    simp only [rdy, Bool.and_eq_true, decide_eq_true_eq] at hR
    obtain ⟨hT, hf⟩ := hR
    obtain ⟨h1, h4, hl8, hc4, hc1, hc2, hx1, hx2, hok, hcok, hm⟩ := fault0 hf
    obtain ⟨t1, t2⟩ := truthsR_len hf
    have hw1 : IntKind.i64.wrap (κ : Int) = (κ : Int) := wrap_i64 (by omega) (by omega)
    have hw2 : IntKind.i64.wrap ((b.lines.length : Int) + 1) = (b.lines.length : Int) + 1 := wrap_i64 (by omega) (by omega)
    have hne : ¬ ((b.lines.length : Int) + 1 = 0) := by omega
    have hmod : (κ : Int).tmod ((b.lines.length : Int) + 1) = ((κ % (b.lines.length + 1) : Nat) : Int) := (Int.ofNat_tmod κ (b.lines.length + 1)).symm
    have hk : κ % (b.lines.length + 1) ≤ b.lines.length := by have := Nat.mod_lt κ (show 0 < b.lines.length + 1 by omega); omega
    generalize κ % (b.lines.length + 1) = k at hmod hk
    have hin : inB (k : Int) 0 b.lines.length = true := by simp [inB]; omega
    have q22 := fun n => k22 n b (by omega) (by omega)
    have q28 := fun n => k28 n b k
    have q29 := fun n => k29 n b
    have q43 := fun n => k43 n b hf
    unfold moneyV at q28
    unfold mixedV at q29
    rw [asked_eq hf] at q28 q29
    rw [hin] at q28
    by_cases hE : truthsR b = []
    · rw [if_pos hE] at q28 q29
      rw [hE] at q43
      simp only [cellsB, cellsT, cellsR, if_true, Bool.false_eq_true, if_false, show ¬ (11 : Int) = 0 by decide, List.map_nil, show sl [] = V.nil from rfl] at q42 q22 q28 q29 q43 ⊢
      simp [c7, argFr, q42, q22, q28, q29, q43, encL, encC, k20, hw1, hw2, hne, hmod]
      done
    · rw [if_neg hE] at q28 q29
      simp only [if_true] at q28 q29
      have hB := boundsM hf hk hE
      have hX := boundsX hf hE
      rw [Int.toNat_natCast] at q28
      generalize boundsP b Scene.money k = z at q28 hB
      generalize boundsP b Scene.mixed b.lines.length = w at q29 hX
      obtain ⟨c', hl⟩ := l7c b hc1 hc2 hx1 hx2 (truthsR b) k (fun t ht => by rw [t1 t ht]; omega) (by omega) z.1 z.2 w.1 w.2 (truthsR b).length 0 3 false false false false (by omega)
      have hl := hl (n + 5288) (n + 5688) (by omega)
      simp only [List.drop_zero, Bool.false_or] at hl
      rw [any_of hB.lo, any_of hB.hi, any_of hX.lo, any_of hX.hi] at hl
      have e0 : encM4 false false false false = 0 := by decide
      have e15 : encM4 true true true true = 15 := by decide
      rw [e0, e15] at hl
      generalize truthsR b = L at q43 hl
      simp only [cellsB, cellsT, cellsR] at q42 q22 q28 q29 q43 hl ⊢
      simp at hl
      simp [c7, argFr, q42, q22, q28, q29, q43, encL, encC, encT, k20, hw1, hw2, hne, hmod, hl]
      done
end Go.Proofs.Try.Op
