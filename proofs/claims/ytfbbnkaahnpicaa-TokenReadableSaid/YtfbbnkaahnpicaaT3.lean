/- The plain law of TokenReadable: a book whose lines are readings has one reading alone. No condition. -/
import Derived.Test.YtfbbnkaahnpicaaT2
import Derived.Test.YtfbbnkaahnpicaaTe
import Derived.Test.YtfbbnkaahnpicaaFz
import Derived.Test.YtfbbnkaahnpicaaSx
open Go Go.Pg Go.Proofs
namespace Go.Proofs.Try.Op
set_option maxRecDepth 100000
set_option linter.unusedSimpArgs false
/-- a book whose lines are those of a list of readings -/
def withL (b : Book) (t : List Line) : Book := { b with lines := t }
/-- a line that reads as itself alone -/
def selfR (C : Int) (l : Line) : Bool := lineOk C l && ((readings C l).map tri == [tri l])
def selfOK : Bool := [1, 2, 3, 4].all fun C : Int => [0, 1, 2].all fun k : Int => [-1, 0, 1, 2, 3].all fun c : Int => [-1, 0, 1, 2, 3].all fun t : Int =>
  !(lineOk C ⟨k, c, t⟩) || (readings C ⟨k, c, t⟩).all (selfR C)
theorem selfOK_true : selfOK = true := by decide +kernel
theorem self_of {C : Int} (h1 : 1 ≤ C) (h4 : C ≤ 4) {l x : Line} (h : lineOk C l = true) (hx : x ∈ readings C l) : selfR C x = true := by
  obtain ⟨k, c, t⟩ := l
  obtain ⟨v1, v2, v3⟩ := valL_spec h
  simp only at v1 v2 v3
  have q := List.all_eq_true.1 (List.all_eq_true.1 (List.all_eq_true.1 (List.all_eq_true.1 selfOK_true C (mem4 h1 h4)) k (mem3 v1.1 v1.2)) c (mem5 v2.1 (by omega))) t (mem5 v3.1 (by omega))
  rw [h] at q
  simp only [Bool.not_true, Bool.false_or] at q
  exact List.all_eq_true.1 q x hx
theorem self_iff {C : Int} {l : Line} (h : selfR C l = true) : lineOk C l = true ∧ readings C l = [l] := by
  simp only [selfR, Bool.and_eq_true, beq_iff_eq] at h
  exact ⟨h.1, tri_map (by simpa using h.2)⟩
theorem nthGo_self {C : Int} (h1 : 1 ≤ C) (h4 : C ≤ 4) : ∀ (ls : List Line) (n : Nat), (∀ l ∈ ls, lineOk C l = true) → ∀ x ∈ nthGo C n ls, selfR C x = true
  | [], _, _, x, hx => by simp [nthGo] at hx
  | l :: r, n, h, x, hx => by
    have hpos := readings_pos h1 h4 (h l (by simp))
    simp only [nthGo, List.mem_cons] at hx
    rcases hx with rfl | hx
    · have hlt := Nat.mod_lt n hpos
      refine self_of h1 h4 (h l (by simp)) ?_
      rw [List.getD_eq_getElem?_getD, List.getElem?_eq_getElem hlt]
      exact List.getElem_mem hlt
    · exact nthGo_self h1 h4 r _ (fun y hy => h y (by simp [hy])) x hx
theorem nthGo_id {C : Int} : ∀ (ls : List Line), (∀ x ∈ ls, selfR C x = true) → nthGo C 0 ls = ls
  | [], _ => rfl
  | l :: r, h => by
    have hl := (self_iff (h l (by simp))).2
    simp only [nthGo, hl]
    simp [nthGo_id r fun y hy => h y (by simp [hy])]
theorem many_self {C : Int} : ∀ (ls : List Line), (∀ x ∈ ls, selfR C x = true) → manyGo C 1 ls = 1
  | [], _ => rfl
  | l :: r, h => by
    have hl := (self_iff (h l (by simp))).2
    have ih := many_self r fun y hy => h y (by simp [hy])
    unfold manyGo at ih ⊢
    simp only [List.foldl_cons, hl, List.length_singleton]
    exact ih
theorem withL_fault {b : Book} (hf : faultB b = 0) {t : List Line} (hl : t.length = b.lines.length) (h : ∀ x ∈ t, selfR b.chairs x = true) : faultB (withL b t) = 0 := by
  obtain ⟨h1, h4, hl8, hc4, hc1, hc2, hx1, hx2, hok, hcok, hm⟩ := fault0 hf
  have e1 : t.all (lineOk b.chairs) = true := List.all_eq_true.2 fun x hx => (self_iff (h x hx)).1
  have e2 := many_self t h
  have l8 : ¬ 8 < t.length := by omega
  have l4 : ¬ 4 < b.counts.length := by omega
  simp [faultB, withL, l4, inB, h1, h4, hc1, hc2, hx1, hx2, e1, e2, hl, hcok]
  omega
theorem withL_truths {b : Book} {t : List Line} (h : ∀ x ∈ t, selfR b.chairs x = true) : truthsR (withL b t) = [] ∨ truthsR (withL b t) = [t] := by
  unfold truthsR trGo
  have e2 : manyGo (withL b t).chairs 1 (withL b t).lines = 1 := many_self t h
  have e3 : nthGo (withL b t).chairs 0 (withL b t).lines = t := nthGo_id t h
  rw [e2]
  show List.filter _ ((List.range' 0 1).map _) = [] ∨ List.filter _ ((List.range' 0 1).map _) = _
  simp only [List.range'_one, List.map_cons, List.map_nil, e3, List.filter_cons, List.filter_nil]
  split
  · exact .inr rfl
  · exact .inl rfl
/-- what the program answers about such a book -/
structure Read1 (b : Book) (t : List Line) (k : Nat) : Prop where
  a : askedP (withL b t) true = 0
  c : ∀ y ∈ verdsP (withL b t) chP k, y ≠ 3
  t' : ∀ y ∈ verdsP (withL b t) tkP k, y ≠ 3
  cl : (verdsP (withL b t) chP k).length = b.chairs.toNat
  tl : (verdsP (withL b t) tkP k).length = b.chairs.toNat
  m : (boundsP (withL b t) Scene.money k).1 = (boundsP (withL b t) Scene.money k).2
  x : (boundsP (withL b t) Scene.mixed b.lines.length).1 = (boundsP (withL b t) Scene.mixed b.lines.length).2
  p : proveB (withL b t) t = true
theorem withL_no {b : Book} (hf : faultB b = 0) {t : List Line} (hl : t.length = b.lines.length) (h : ∀ x ∈ t, selfR b.chairs x = true) (he : truthsR (withL b t) = []) : askedP (withL b t) true = 11 ∧ proveB (withL b t) t = false := by
  have hf' := withL_fault hf hl h
  refine ⟨by rw [asked_eq hf', if_pos rfl, if_pos he], ?_⟩
  rw [prove_eq, hf']
  cases hq : fitsB (withL b t) t with
  | false => rfl
  | true =>
    have := (truthsR_mem hf').2 hq
    rw [he] at this; cases this
theorem verd_one (y : Nat) (h : y ≤ 1) : verd ((1 : Nat) : Int) (y : Int) ≠ 3 := by
  unfold verd
  split
  · decide
  · split
    · decide
    · omega
theorem withL_yes {b : Book} (hf : faultB b = 0) {t : List Line} (hl : t.length = b.lines.length) (h : ∀ x ∈ t, selfR b.chairs x = true) (he : truthsR (withL b t) = [t]) {k : Nat} (hk : k ≤ b.lines.length) : Read1 b t k := by
  have hf' := withL_fault hf hl h
  have hk' : k ≤ (withL b t).lines.length := by show k ≤ t.length; omega
  have hne : truthsR (withL b t) ≠ [] := by rw [he]; simp
  have hll : (withL b t).lines.length = b.lines.length := hl
  refine ⟨by rw [asked_eq hf', if_pos rfl, if_neg hne], fun y hy => ?_, fun y hy => ?_, ?_, ?_, ?_, ?_, ?_⟩
  · rw [verdsC hf' hk', he] at hy
    obtain ⟨j, _, rfl⟩ := List.mem_map.1 hy
    exact verd_one _ (by unfold outN; exact Nat.le_trans (List.countP_le_length) (by simp))
  · rw [verdsT hf' hk', he] at hy
    obtain ⟨j, _, rfl⟩ := List.mem_map.1 hy
    exact verd_one _ (by unfold outN; exact Nat.le_trans (List.countP_le_length) (by simp))
  · rw [verdsC hf' hk']; simp [withL]
  · rw [verdsT hf' hk']; simp [withL]
  · obtain ⟨_, ⟨x1, hx1, e1⟩, ⟨x2, hx2, e2⟩⟩ := boundsM hf' hk' hne
    rw [he] at hx1 hx2
    simp only [List.mem_singleton] at hx1 hx2
    subst hx1 hx2
    exact e1.symm.trans e2
  · have := boundsX hf' hne
    rw [hll] at this
    obtain ⟨_, ⟨x1, hx1, e1⟩, ⟨x2, hx2, e2⟩⟩ := this
    rw [he] at hx1 hx2
    simp only [List.mem_singleton] at hx1 hx2
    subst hx1 hx2
    exact e1.symm.trans e2
  · rw [prove_eq, hf']
    have : t ∈ truthsR (withL b t) := by rw [he]; simp
    simp [(truthsR_mem hf').1 this]
end Go.Proofs.Try.Op
/- The walk of TokenEnds: true. No condition. -/
open Go Go.Pg Go.Proofs
namespace Go.Proofs.Try.Op
set_option maxRecDepth 100000
set_option linter.unusedSimpArgs false
@[simp] theorem conv_3_70 (k : IntKind) (n : Int) : evConv Try.prog 3 70 (.int k n) = some (.int .u64 (IntKind.u64.wrap n)) := by
  unfold evConv
  rw [Try.underlying3, Try.underlying70]
@[simp] theorem conv_5_3 (k : IntKind) (n : Int) : evConv Try.prog 5 3 (.int k n) = some (.int .i64 (IntKind.i64.wrap n)) := by
  unfold evConv
  rw [Try.underlying5, Try.underlying3]
@[simp] theorem conv_73_3 (k : IntKind) (n : Int) : evConv Try.prog 73 3 (.int k n) = some (.int .i64 (IntKind.i64.wrap n)) := by
  unfold evConv
  rw [Try.underlying73, Try.underlying3]
theorem w64_0 : IntKind.u64.wrap 0 = 0 := by decide
theorem w64_1 : IntKind.u64.wrap 1 = 1 := by decide
theorem w64_2 : IntKind.u64.wrap 2 = 2 := by decide
theorem w64_3 : IntKind.u64.wrap 3 = 3 := by decide
attribute [simp] w64_0 w64_1 w64_2 w64_3
def rdy (b : Book) : Bool := thinB b && decide (faultB b = 0)
theorem k42 (n : Nat) (b : Book) : callK Try.prog kn (execA Try.prog ann kn (n+600)) 42 [.agg (cellsB b)] = some (.bool (rdy b)) := by
  rw [callK_of rfl, call0_eq Try.func42 b42 rfl (by simp [cellsB, encL, encC])]
  have q19 := fun n => k19 n b
  have q67 := fun n => k67 n b
  unfold rdy
  generalize hT : thinB b = t at q19
  generalize hF : decide (faultB b = 0) = f
  generalize faultB b = A at q67 hF
  simp only [cellsB] at q19 q67 ⊢
  cases t
  · simp [c42, argFr, q19, q67, encL, encC]
  · simp [c42, argFr, q19, q67, encL, encC, hF]
def orI (a b : Int) : Int := IntKind.i64.wrap ((BitVec.ofInt 64 a ||| BitVec.ofInt 64 b).toNat : Int)
def met4 (e0 e1 e2 e3 : Bool) (m : Int) : Int :=
  let m := if e0 = true then orI m 1 else m
  let m := if e1 = true then orI m 2 else m
  let m := if e2 = true then orI m 4 else m
  if e3 = true then orI m 8 else m
end Go.Proofs.Try.Op
/- The walk of TokenReadable: true. No condition. -/
open Go Go.Pg Go.Proofs
namespace Go.Proofs.Try.Op
set_option maxRecDepth 100000
set_option linter.unusedSimpArgs false
/-- the list of readings with a number, handed over -/
theorem o51 (n : Nat) (b : Book) (hf : faultB b = 0) (v : Nat) (hv : v ≤ 5000) : callO1 Try.prog (execA Try.prog ann kn (n+400)) 51 [.agg (cellsB b), i v] = some ⟨.vec 75 ((nthGo b.chairs v b.lines).map encL), none⟩ := by
  obtain ⟨h1, h4, hl8, hc4, hc1, hc2, hx1, hx2, hok, hcok, _⟩ := fault0 hf
  rw [callO1_eq Try.func51 b51 rfl (by simp [encL, cellsB, encC])]
  obtain ⟨c', γ', v', i1, ih⟩ := l51 b h1 h4 (by omega) (fun l hl => readings_pos h1 h4 (List.all_eq_true.1 hok l hl)) b.lines.length 0 v [] 1 0 (by omega) hv (by simp) (by omega)
  have ih := ih (n + 144) (n + 394) (by omega)
  simp only [cellsB, List.map_nil, List.nil_append, List.drop_zero, pv_nil, pl_nil] at ih ⊢
  simp at ih
  simp [c51, argFr, encL, encC, ih, retO_eq]
  exact rO_pv (R := 22) (T := 75) (by kernel_rfl) (by simp) _ _ _ _ _ _ rfl (by simp [encL])
theorem l15 (X Y : List V) (g7 : Nat) (C T : List Int) (hlen : C.length = T.length) (hl : C.length ≤ 100) (hC : ∀ y ∈ C, y ≠ 3) (hT : ∀ y ∈ T, y ≠ 3) : ∀ (d j c : Nat), j + d = C.length → ∃ (x : Fr), ∀ n m, d < m →
    loopA (execA Try.prog ann kn (n+100) 143) lb15_15 (some ([9, 10, 17], [3, 7, 29, 40, 42, 48, 55, 60, 63])) m ⟨c, [(9, true, sl (C.map encI)), (10, true, sl (T.map encI)), (17, true, i j)], ⟨[], [(3, 0, .box X), (7, g7, .box Y)]⟩⟩ =
      some (.exit 0, ⟨c, x, ⟨[], [(3, 0, .box X), (7, g7, .box Y)]⟩⟩)
  | 0, j, c, hd => by
    have hj : j = C.length := by omega
    subst hj
    refine ⟨?_, fun n m hm => ?_⟩
    rotate_left
    · obtain ⟨m, rfl⟩ : ∃ m', m = m' + 1 := ⟨m - 1, by omega⟩
      simp [loopA_succ]
      rfl
  | d + 1, j, c, hd => by
    have hjC : j < C.length := by omega
    have hjT : j < T.length := by omega
    have e1 := hC _ (List.getElem_mem hjC)
    have e2 := hT _ (List.getElem_mem hjT)
    have hw : IntKind.i64.wrap ((j : Int) + 1) = (j : Int) + 1 := wrap_i64 (by omega) (by omega)
    obtain ⟨x, ih⟩ := l15 X Y g7 C T hlen hl hC hT d (j + 1) c (by omega)
    refine ⟨x, fun n m hm => ?_⟩
    obtain ⟨m, rfl⟩ : ∃ m', m = m' + 1 := ⟨m - 1, by omega⟩
    have ih := ih n m (by omega)
    rw [loopA_succ]
    simp at ih
    simp [hjC, hjT, hw, encI, e1, e2, ih]
    done
set_option maxHeartbeats 1000000 in
theorem k15 (n : Nat) (b : Book) (ν κ : Nat) (_ : okBk b) (hν : ν ≤ 65535) (hκ : κ ≤ 255) : call0 Try.prog (execA Try.prog ann kn (n+5700)) 15 [.agg (cellsB b), .int .u16 ν, .int .u8 κ] = some (.bool true) := by
  rw [call0_eq Try.func15 b15 rfl (by simp [cellsB, encL, encC])]
  have q42 := fun n => k42 n b
  cases hR : rdy b with
  | false =>
    rw [hR] at q42
    simp only [cellsB] at q42 ⊢
    simp [c15, argFr, q42, encL, encC, k20]
  | true =>
    rw [hR] at q42
    simp only [rdy, Bool.and_eq_true, decide_eq_true_eq] at hR
    obtain ⟨hTh, hf⟩ := hR
    obtain ⟨h1, h4, hl8, hc4, hc1, hc2, hx1, hx2, hok, hcok, hm⟩ := fault0 hf
    have hls := fun l hl => List.all_eq_true.1 hok l hl
    have hN := many_prod h1 h4 1 hls (Nat.le_refl _) hm
    simp only [Nat.one_mul] at hN
    have hN' : manyGo b.chairs 1 b.lines = ((prodR b.chairs b.lines : Nat) : Int) := hN
    have hpp := prod_pos h1 h4 hls
    have q52 := fun n => k52 n b h1 h4 (by omega)
    rw [hN'] at q52 hm
    generalize prodR b.chairs b.lines = N at q52 hm hpp hN hN'
    have hw0 : IntKind.i64.wrap (ν : Int) = (ν : Int) := wrap_i64 (by omega) (by omega)
    have hw1 : IntKind.i64.wrap (κ : Int) = (κ : Int) := wrap_i64 (by omega) (by omega)
    have hw2 : IntKind.i64.wrap ((b.lines.length : Int) + 1) = (b.lines.length : Int) + 1 := wrap_i64 (by omega) (by omega)
    have hne : ¬ ((b.lines.length : Int) + 1 = 0) := by omega
    have hNe : ¬ ((N : Int) = 0) := by omega
    have hmodN : (ν : Int).tmod (N : Int) = ((ν % N : Nat) : Int) := (Int.ofNat_tmod ν N).symm
    have hvN : ν % N < N := Nat.mod_lt _ (by omega)
    have hmod : (κ : Int).tmod ((b.lines.length : Int) + 1) = ((κ % (b.lines.length + 1) : Nat) : Int) := (Int.ofNat_tmod κ (b.lines.length + 1)).symm
    have hk : κ % (b.lines.length + 1) ≤ b.lines.length := by have := Nat.mod_lt κ (show 0 < b.lines.length + 1 by omega); omega
    generalize κ % (b.lines.length + 1) = k at hmod hk
    generalize ν % N = v at hmodN hvN
    have q51 := fun n => o51 n b hf v (by omega)
    have hself : ∀ x ∈ nthGo b.chairs v b.lines, selfR b.chairs x = true := nthGo_self h1 h4 b.lines v hls
    have hTl := nthGo_len b.chairs b.lines v
    generalize nthGo b.chairs v b.lines = t at q51 hself hTl
    have hin : inB (k : Int) 0 (withL b t).lines.length = true := by simp [inB, withL]; omega
    have q22 := fun n => k22 n (withL b t) (by simp [withL]; omega) (by simp [withL]; omega)
    have q21 := fun n => k21 n (withL b t) k
    have q28 := fun n => k28 n (withL b t) k
    have q29 := fun n => k29 n (withL b t)
    have q35 := fun n => k35 n t (by omega)
    have hokl : ∀ x ∈ t, okL x := fun x hx => by
      obtain ⟨v1, v2, v3⟩ := valL_spec (self_iff (hself x hx)).1
      exact ⟨⟨by omega, by omega⟩, ⟨by omega, by omega⟩, ⟨by omega, by omega⟩⟩
    have q53 := fun n => k53 n (withL b t) t hokl
    have hN0 : ¬ N = 0 := by omega
    unfold outV at q21
    unfold moneyV at q28
    unfold mixedV at q29
    rw [hin] at q21 q28
    rcases withL_truths (b := b) hself with he | he
    · obtain ⟨ha, hp⟩ := withL_no hf hTl hself he
      rw [ha] at q21 q28 q29
      rw [hp] at q53
      simp only [cellsB, cellsT, cellsR, withL, if_true, Bool.false_eq_true, if_false, show ¬ (11 : Int) = 0 by decide] at q42 q51 q52 q22 q21 q28 q29 q53 ⊢
      simp [c15, argFr, q42, q52, q51, q22, q21, q28, q29, q35, q53, hw0, hw1, hw2, hN0, hne, hmodN, hmod, hTl, encL, encC, k20, plK]
      done
    · obtain ⟨ha, hc, ht, hcl, htl, hm', hx', hp⟩ := withL_yes hf hTl hself he hk
      rw [ha] at q21 q28 q29
      rw [hp] at q53
      have hwl : (withL b t).lines.length = b.lines.length := hTl
      rw [hwl] at q29
      simp only [Int.toNat_natCast, if_true] at q21 q28 q29
      generalize verdsP (withL b t) chP k = C at q21 hc hcl
      generalize verdsP (withL b t) tkP k = T at q21 ht htl
      generalize boundsP (withL b t) Scene.money k = m at q28 hm'
      generalize boundsP (withL b t) Scene.mixed b.lines.length = x at q29 hx'
      obtain ⟨m1, m2⟩ := m
      obtain ⟨x1, x2⟩ := x
      simp only at hm' hx'
      subst hm' hx'
      have eC : (C.length : Int) = b.chairs := by omega
      have eT : (T.length : Int) = b.chairs := by omega
      obtain ⟨x, hl⟩ := l15 (cellsB b) (cellsB (withL b t)) 1 C T (by omega) (by omega) hc ht C.length 0 5 (by omega)
      have hl := hl (n + 5585) (n + 5685) (by omega)
      simp only [cellsB, withL] at hl
      simp at hl
      simp only [cellsB, cellsT, cellsR, withL, if_true, Int.toNat_natCast] at q42 q51 q52 q22 q21 q28 q29 q53 ⊢
      simp [c15, argFr, q42, q52, q51, q22, q21, q28, q29, q35, q53, hw0, hw1, hw2, hN0, hne, hmodN, hmod, hTl, encL, encC, k20, plK, eC, eT, hl]
      done
end Go.Proofs.Try.Op
