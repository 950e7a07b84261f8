/- Contracts: has, inside. No condition. -/
import Derived.Test.YtfbbnkaahnpicaaU
import Derived.Test.YtfbbnkaahnpicaaFz
import Derived.Test.YtfbbnkaahnpicaaT2
import Derived.Test.YtfbbnkaahnpicaaSx
import Derived.Test.YtfbbnkaahnpicaaGt
import Derived.Test.YtfbbnkaahnpicaaT3
open Go Go.Pg Go.Proofs
namespace Go.Proofs.Try.Op
set_option maxRecDepth 100000
set_option linter.unusedSimpArgs false
theorem l66 (xs : List Line) (hxs : ∀ x ∈ xs, okL x) (x : Line) (hx : okL x) (c : Nat) : ∀ (d j : Nat), j + d = xs.length → ∀ n m, d < m → xs.length ≤ 90 →
    loopA (execA Try.prog ann kn (n+100) 24) lb66_2 (some ([0, 3, 5], [3])) m ⟨c, [(0, true, .list false (xs.map encL)), (3, true, .ptr 0 3 0 0), (5, true, i j)], ⟨[], [(3, 0, .box (encL x))]⟩⟩ =
      if x ∈ xs.drop j then some (.ret, ⟨c, [(4, true, .bool true)], ⟨[], []⟩⟩)
      else some (.exit 0, ⟨c, [(9, true, .bool false), (8, true, i xs.length), (7, true, .list false (xs.map encL)), (6, true, i xs.length), (0, true, .list false (xs.map encL)), (3, true, .ptr 0 3 0 0), (5, true, i xs.length)], ⟨[], [(3, 0, .box (encL x))]⟩⟩)
  | 0, j, hd, n, m, hm, hl => by
    have hj : j = xs.length := by omega
    subst hj
    obtain ⟨m, rfl⟩ : ∃ m', m = m' + 1 := ⟨m - 1, by omega⟩
    rw [List.drop_length, if_neg (by simp)]
    simp [loopA_succ, encL]
    done
  | d + 1, j, hd, n, m, hm, hl => by
    have hj : j < xs.length := by omega
    have hw : IntKind.i64.wrap ((j : Int) + 1) = (j : Int) + 1 := wrap_i64 (by omega) (by omega)
    obtain ⟨m, rfl⟩ : ∃ m', m = m' + 1 := ⟨m - 1, by omega⟩
    have ih := l66 xs hxs x hx c d (j + 1) (by omega) n m (by omega) hl
    have he := eqD_96 xs[j] x (hxs _ (List.getElem_mem hj)) hx
    rw [List.drop_eq_getElem_cons hj, loopA_succ]
    simp only [encL] at he ih ⊢
    by_cases h : x = xs[j]
    · rw [decide_eq_true h.symm] at he
      rw [if_pos (List.mem_cons.2 (.inl h))]
      simp [hj, hw, encL, he]
      done
    · rw [decide_eq_false (fun e => h e.symm)] at he
      have e : (x ∈ xs[j] :: xs.drop (j + 1)) = (x ∈ xs.drop (j + 1)) := propext ⟨fun hh => (List.mem_cons.1 hh).resolve_left h, fun hh => List.mem_cons.2 (.inr hh)⟩
      simp only [e]
      simp at ih
      simp [hj, hw, encL, he, ih]
      done
theorem k66 (n : Nat) (xs : List Line) (hxs : ∀ x ∈ xs, okL x) (x : Line) (hx : okL x) (hl : xs.length ≤ 90) : callK Try.prog kn (execA Try.prog ann kn (n+200)) 66 [.list false (xs.map encL), .agg (encL x)] = some (.bool (decide (x ∈ xs))) := by
  rw [callK_of rfl, call0_eq Try.func66 b66 rfl (by simp [encL])]
  have h := l66 xs hxs x hx 1 xs.length 0 (by omega) (n + 95) (n + 195) (by omega) hl
  rw [List.drop_zero] at h
  simp only [encL] at h ⊢
  by_cases hm : x ∈ xs
  · rw [if_pos hm] at h
    simp at h
    simp [c66, argFr, h, hm]
    done
  · rw [if_neg hm] at h
    simp at h
    simp [c66, argFr, h, hm]
    done
theorem k90 (n : Nat) (a b c d : Int) : callK Try.prog kn (execA Try.prog ann kn (n+100)) 90 [.agg [i a, i b], .agg [i c, i d]] = some (.bool (decide (c ≤ a) && decide (b ≤ d))) := by
  rw [callK_of rfl, call0_eq Try.func90 b90 rfl rfl]
  generalize e1 : decide (c ≤ a) = x1
  generalize e2 : decide (b ≤ d) = x2
  cases x1 with
  | true =>
    simp [c90, argFr, e1, e2]
    done
  | false =>
    simp [c90, argFr, e1, e2]
    done
structure Into (x b : Book) (k : Nat) (ln : Option Nat) : Prop where
  ch : x.chairs = b.chairs
  fx : faultB x = 0
  fb : faultB b = 0
  kx : k ≤ x.lines.length
  kb : k ≤ b.lines.length
  lx : ∀ l, ln = some l → l < x.lines.length
  lb : ∀ l, ln = some l → l < b.lines.length
  ne : truthsR x ≠ []
  into : ∀ t ∈ truthsR x, ∃ u ∈ truthsR b, moneyB b u k = moneyB x t k ∧ u.take k = t.take k ∧ ∀ l, ln = some l → u.getD l line0 = t.getD l line0
theorem verd_sub {T U : List (List Line)} {p q : List Line → Bool} (hne : T ≠ []) (h : ∀ t ∈ T, ∃ u ∈ U, p u = q t) (hv : verd (U.length : Nat) (U.countP p : Nat) ≠ 3) : verd (T.length : Nat) (T.countP q : Nat) = verd (U.length : Nat) (U.countP p : Nat) := by
  have hl : T.length ≠ 0 := fun e => hne (List.eq_nil_of_length_eq_zero e)
  by_cases h1 : U.countP p = U.length
  · have hq : T.countP q = T.length := count_all.2 fun t ht => by
      obtain ⟨u, hu, e⟩ := h t ht
      rw [← e]
      exact count_all.1 h1 u hu
    rw [hq, h1]
    simp [verd]
  · by_cases h2 : U.countP p = 0
    · have hq : T.countP q = 0 := count_none.2 fun t ht => by
        obtain ⟨u, hu, e⟩ := h t ht
        rw [← e]
        exact count_none.1 h2 u hu
      rw [hq, h2]
      have e1 : ¬ (((0 : Nat) : Int) = (T.length : Int)) := by omega
      have e2 : ¬ (((0 : Nat) : Int) = (U.length : Int)) := by omega
      unfold verd
      rw [if_neg e1, if_neg e2]
    · exfalso
      apply hv
      have e1 : ¬ ((U.countP p : Int) = (U.length : Int)) := by omega
      have e2 : ¬ ((U.countP p : Int) = 0) := by omega
      unfold verd
      rw [if_neg e1, if_neg e2]
section
variable {x b : Book} {k : Nat} {ln : Option Nat}
theorem Into.neb (h : Into x b k ln) : truthsR b ≠ [] := by
  obtain ⟨t, ht⟩ := List.exists_mem_of_ne_nil _ h.ne
  obtain ⟨u, hu, _⟩ := h.into t ht
  exact List.ne_nil_of_mem hu
theorem Into.askx (h : Into x b k ln) : askedP x true = 0 := by
  rw [asked_eq h.fx, if_pos rfl, if_neg h.ne]
theorem Into.askb (h : Into x b k ln) : askedP b true = 0 := by
  rw [asked_eq h.fb, if_pos rfl, if_neg h.neb]
theorem Into.money (h : Into x b k ln) : (boundsP b Scene.money k).1 ≤ (boundsP x Scene.money k).1 ∧ (boundsP x Scene.money k).2 ≤ (boundsP b Scene.money k).2 := by
  obtain ⟨_, ⟨t1, h1, e1⟩, ⟨t2, h2, e2⟩⟩ := boundsM h.fx h.kx h.ne
  obtain ⟨a, _, _⟩ := boundsM h.fb h.kb h.neb
  obtain ⟨u1, g1, m1, _⟩ := h.into t1 h1
  obtain ⟨u2, g2, m2, _⟩ := h.into t2 h2
  have q1 : (boundsP b Scene.money k).1 ≤ moneyB b u1 k := (a u1 g1).1
  have q2 : moneyB b u2 k ≤ (boundsP b Scene.money k).2 := (a u2 g2).2
  have e1 : moneyB x t1 k = (boundsP x Scene.money k).1 := e1
  have e2 : moneyB x t2 k = (boundsP x Scene.money k).2 := e2
  omega
theorem Into.sub (h : Into x b k ln) (sel : Line → Int) (j : Int) (hv : verd ((truthsR b).length : Nat) (outN sel (truthsR b) k j) ≠ 3) : verd ((truthsR x).length : Nat) (outN sel (truthsR x) k j) = verd ((truthsR b).length : Nat) (outN sel (truthsR b) k j) := by
  refine verd_sub h.ne (fun t ht => ?_) hv
  obtain ⟨u, hu, _, e, _⟩ := h.into t ht
  exact ⟨u, hu, by unfold outB; rw [e]⟩
structure Sub (C D : List Int) (n : Nat) : Prop where
  lc : C.length = n
  ld : D.length = n
  eq : ∀ (j : Nat) (h : j < C.length) (h2 : j < D.length), D[j] ≠ 3 → C[j] = D[j]
theorem Into.chairs (h : Into x b k ln) : Sub (verdsP x chP k) (verdsP b chP k) b.chairs.toNat := by
  rw [verdsC h.fx h.kx, verdsC h.fb h.kb, h.ch]
  exact ⟨by simp, by simp, fun j h1 h2 hv => by
    simp only [List.getElem_map, List.getElem_range'] at hv ⊢
    exact h.sub _ _ hv⟩
theorem Into.tokens (h : Into x b k ln) : Sub (verdsP x tkP k) (verdsP b tkP k) b.chairs.toNat := by
  rw [verdsT h.fx h.kx, verdsT h.fb h.kb, h.ch]
  exact ⟨by simp, by simp, fun j h1 h2 hv => by
    simp only [List.getElem_map, List.getElem_range'] at hv ⊢
    exact h.sub _ _ hv⟩
theorem Into.was (h : Into x b k ln) {l : Nat} (hl : ln = some l) {y : Line} (hy : y ∈ wasP x l) : y ∈ wasP b l := by
  unfold wasP at hy ⊢
  rw [List.mem_filter] at hy ⊢
  obtain ⟨_, hy⟩ := hy
  obtain ⟨t, ht, e⟩ := (found_mem h.fx).1 (of_decide_eq_true hy)
  obtain ⟨u, hu, _, _, g⟩ := h.into t ((truthsR_mem h.fx).2 ht)
  have hu := (truthsR_mem h.fb).1 hu
  have := g l hl
  rw [e] at this
  refine ⟨?_, decide_eq_true ((found_mem h.fb).2 ⟨u, hu, this⟩)⟩
  rw [← this]
  exact fits_reading h.fb (h.lb l hl) hu
end
theorem l46a (x b : Book) (z : Int) (C D T U : List Int) (n0 : Nat) (hn : n0 ≤ 90) (h1 : Sub C D n0) (h2 : Sub T U n0) (c : Nat) : ∀ (d j : Nat), j + d = n0 → ∀ n m, d < m →
    loopA (execA Try.prog ann kn (n+100) 190) lb46_8 (some ([3, 4, 5, 13, 14, 16, 17, 19], [4, 5, 27, 34, 41, 43, 49, 51, 147, 149, 154, 156])) m ⟨c, [(3, true, i z), (4, true, .ptr 0 4 0 0), (5, true, .ptr 0 5 1 0), (13, true, sl (C.map encI)), (14, true, sl (T.map encI)), (16, true, sl (D.map encI)), (17, true, sl (U.map encI)), (19, true, i j)], ⟨[], [(4, 0, .box (cellsB x)), (5, 1, .box (cellsB b))]⟩⟩ =
      some (.exit 0, ⟨c, [(106, true, .bool false), (105, true, i n0), (104, true, sl (C.map encI)), (103, true, i n0), (3, true, i z), (4, true, .ptr 0 4 0 0), (5, true, .ptr 0 5 1 0), (13, true, sl (C.map encI)), (14, true, sl (T.map encI)), (16, true, sl (D.map encI)), (17, true, sl (U.map encI)), (19, true, i n0)], ⟨[], [(4, 0, .box (cellsB x)), (5, 1, .box (cellsB b))]⟩⟩)
  | 0, j, hd, n, m, hm => by
    have hj : j = n0 := by omega
    subst hj
    have := h1.lc
    obtain ⟨m, rfl⟩ : ∃ m', m = m' + 1 := ⟨m - 1, by omega⟩
    simp [loopA_succ, this]
    done
  | d + 1, j, hd, n, m, hm => by
    have hj : j < n0 := by omega
    have lc := h1.lc
    have ld := h1.ld
    have lt := h2.lc
    have lu := h2.ld
    have hjC : j < C.length := by omega
    have hjD : j < D.length := by omega
    have hjT : j < T.length := by omega
    have hjU : j < U.length := by omega
    have hw : IntKind.i64.wrap ((j : Int) + 1) = (j : Int) + 1 := wrap_i64 (by omega) (by omega)
    obtain ⟨m, rfl⟩ : ∃ m', m = m' + 1 := ⟨m - 1, by omega⟩
    have ih := l46a x b z C D T U n0 hn h1 h2 c d (j + 1) (by omega) n m (by omega)
    have e1 := h1.eq j hjC hjD
    have e2 := h2.eq j hjT hjU
    rw [loopA_succ]
    simp only [cellsB] at ih ⊢
    simp at ih
    by_cases a1 : D[j] = 3
    · by_cases a2 : U[j] = 3
      · simp [-gI0_some, gI0_tt, gI0_ff, gz_mv_tf, gz_mv_ft, gz_mv_no, gz_bin_tf, gz_bin_ft, gz_bin_no, gz_fa_tf, gz_fa_ft, gz_fa_no, gz_ld_tf, gz_ld_ft, gz_ld_no, gz_pick_tf, gz_pick_ft, gz_pick_no, gz_oth_tf, gz_oth_ft, gz_oth_no, hj, hjC, hjD, hjT, hjU, lc, ld, lt, lu, hw, encI, a1, a2, ih]
        done
      · have e2 := e2 a2
        simp [-gI0_some, gI0_tt, gI0_ff, gz_mv_tf, gz_mv_ft, gz_mv_no, gz_bin_tf, gz_bin_ft, gz_bin_no, gz_fa_tf, gz_fa_ft, gz_fa_no, gz_ld_tf, gz_ld_ft, gz_ld_no, gz_pick_tf, gz_pick_ft, gz_pick_no, gz_oth_tf, gz_oth_ft, gz_oth_no, hj, hjC, hjD, hjT, hjU, lc, ld, lt, lu, hw, encI, a1, a2, e2, ih]
        done
    · have e1 := e1 a1
      by_cases a2 : U[j] = 3
      · simp [-gI0_some, gI0_tt, gI0_ff, gz_mv_tf, gz_mv_ft, gz_mv_no, gz_bin_tf, gz_bin_ft, gz_bin_no, gz_fa_tf, gz_fa_ft, gz_fa_no, gz_ld_tf, gz_ld_ft, gz_ld_no, gz_pick_tf, gz_pick_ft, gz_pick_no, gz_oth_tf, gz_oth_ft, gz_oth_no, hj, hjC, hjD, hjT, hjU, lc, ld, lt, lu, hw, encI, a1, a2, e1, ih]
        done
      · have e2 := e2 a2
        simp [-gI0_some, gI0_tt, gI0_ff, gz_mv_tf, gz_mv_ft, gz_mv_no, gz_bin_tf, gz_bin_ft, gz_bin_no, gz_fa_tf, gz_fa_ft, gz_fa_no, gz_ld_tf, gz_ld_ft, gz_ld_no, gz_pick_tf, gz_pick_ft, gz_pick_no, gz_oth_tf, gz_oth_ft, gz_oth_no, hj, hjC, hjD, hjT, hjU, lc, ld, lt, lu, hw, encI, a1, a2, e1, e2, ih]
        done
theorem l46b (x b : Book) (V W : List Line) (hV : ∀ y ∈ V, okL y) (hW : ∀ y ∈ W, okL y) (hVl : V.length ≤ 90) (hWl : W.length ≤ 90) (hs : ∀ y ∈ V, y ∈ W) (c : Nat) : ∀ (d j : Nat), j + d = V.length → ∀ n m, d < m →
    loopA (execA Try.prog ann kn (n+300) 190) lb46_17 (some ([20, 21, 22, 23, 24], [4, 5, 27, 34, 41, 43, 49, 51, 147, 149, 154, 156])) m ⟨c, [(20, true, sl (V.map encL)), (21, true, i 0), (22, true, sl (W.map encL)), (23, true, i 0), (24, true, i j)], ⟨[], [(4, 0, .box (cellsB x)), (5, 1, .box (cellsB b))]⟩⟩ =
      some (.exit 2, ⟨c, [(162, true, .bool false), (161, true, i V.length), (160, true, sl (V.map encL)), (159, true, i V.length), (20, true, sl (V.map encL)), (21, true, i 0), (22, true, sl (W.map encL)), (23, true, i 0), (24, true, i V.length)], ⟨[], [(4, 0, .box (cellsB x)), (5, 1, .box (cellsB b))]⟩⟩)
  | 0, j, hd, n, m, hm => by
    have hj : j = V.length := by omega
    subst hj
    obtain ⟨m, rfl⟩ : ∃ m', m = m' + 1 := ⟨m - 1, by omega⟩
    simp [loopA_succ]
    done
  | d + 1, j, hd, n, m, hm => by
    have hj : j < V.length := by omega
    have hw : IntKind.i64.wrap ((j : Int) + 1) = (j : Int) + 1 := wrap_i64 (by omega) (by omega)
    obtain ⟨m, rfl⟩ : ∃ m', m = m' + 1 := ⟨m - 1, by omega⟩
    have ih := l46b x b V W hV hW hVl hWl hs c d (j + 1) (by omega) n m (by omega)
    have hm := List.getElem_mem hj
    have q66 := fun n => k66 n W hW V[j] (hV _ hm) hWl
    rw [decide_eq_true (hs _ hm)] at q66
    simp only [encL] at q66
    rw [loopA_succ]
    simp only [cellsB] at ih ⊢
    simp at ih
    simp [hj, hw, encL, q66, ih]
    done
def lnI : Option Nat → Int
  | some l => l
  | none => -1
set_option maxHeartbeats 2000000 in
theorem k46 (n : Nat) (x b : Book) (k : Nat) (ln : Option Nat) (h : Into x b k ln) : callK Try.prog kn (execA Try.prog ann kn (n+3500)) 46 [.agg (cellsB x), .agg (cellsB b), i k, i (lnI ln)] = some (.bool true) := by
  rw [callK_of rfl, call0_eq Try.func46 b46 rfl (by simp [cellsB, encL, encC])]
  obtain ⟨h1, h4, hl8, hc4, _⟩ := fault0 h.fb
  obtain ⟨_, _, xl8, xc4, _⟩ := fault0 h.fx
  have kx := h.kx
  have kb := h.kb
  have q22 := fun n => k22 n b (by omega) (by omega)
  have q22x := fun n => k22 n x (by omega) (by omega)
  have q21 := fun n => k21 n b k
  have q21x := fun n => k21 n x k
  have q28 := fun n => k28 n b k
  have q28x := fun n => k28 n x k
  unfold outV at q21 q21x
  unfold moneyV at q28 q28x
  have hin : inB (k : Int) 0 b.lines.length = true := by simp [inB]; omega
  have hinx : inB (k : Int) 0 x.lines.length = true := by simp [inB]; omega
  rw [hin, h.askb] at q21 q28
  rw [hinx, h.askx] at q21x q28x
  simp only [Int.toNat_natCast, if_true] at q21 q21x q28 q28x
  have sC := h.chairs
  have sT := h.tokens
  obtain ⟨m1, m2⟩ := h.money
  have q90 := fun n => k90 n (boundsP x Scene.money k).1 (boundsP x Scene.money k).2 (boundsP b Scene.money k).1 (boundsP b Scene.money k).2
  rw [decide_eq_true m1, decide_eq_true m2] at q90
  obtain ⟨lC, lD⟩ : _ ∧ _ := ⟨sC.lc, sC.ld⟩
  obtain ⟨lT, lU⟩ : _ ∧ _ := ⟨sT.lc, sT.ld⟩
  have q46a := fun c => l46a x b (lnI ln) (verdsP x chP k) (verdsP b chP k) (verdsP x tkP k) (verdsP b tkP k) b.chairs.toNat (by omega) sC sT c b.chairs.toNat 0 (by omega) (n + 3390) (n + 3490) (by omega)
  obtain ⟨C0, hC0⟩ : ∃ C0 : Nat, b.chairs = C0 := ⟨b.chairs.toNat, by omega⟩
  have hCn : b.chairs.toNat = C0 := by omega
  rw [hCn] at lC lD lT lU q46a
  cases hln : ln with
  | none =>
    rw [hln] at q46a
    generalize verdsP x chP k = C at *
    generalize verdsP b chP k = D at *
    generalize verdsP x tkP k = T at *
    generalize verdsP b tkP k = U at *
    generalize boundsP x Scene.money k = mx at *
    generalize boundsP b Scene.money k = mb at *
    simp only [cellsB, cellsT, cellsR, lnI, hC0] at q22 q22x q21 q21x q28 q28x q46a ⊢
    simp at q46a
    simp [c46, argFr, q22, q22x, q21, q21x, q28, q28x, q90, lC, lD, lT, lU, q46a, encL, encC]
    done
  | some l =>
    have hlx := h.lx l hln
    have hlb := h.lb l hln
    have hl0 : ¬ ((l : Int) < 0) := by omega
    have q33 := fun n => k33 n b l (by omega)
    have q33x := fun n => k33 n x l (by omega)
    unfold wasV at q33 q33x
    have hin2 : inB (l : Int) 0 ((b.lines.length : Int) - 1) = true := by simp [inB]; omega
    have hin3 : inB (l : Int) 0 ((x.lines.length : Int) - 1) = true := by simp [inB]; omega
    rw [hin2, h.askb, if_pos rfl, Int.toNat_natCast] at q33
    rw [hin3, h.askx, if_pos rfl, Int.toNat_natCast] at q33x
    obtain ⟨w1, w2⟩ := was_ok h.fx hlx
    obtain ⟨w3, w4⟩ := was_ok h.fb hlb
    have q46b := fun c => l46b x b (wasP x l) (wasP b l) w1 w3 (by omega) (by omega) (fun y hy => h.was hln hy) c (wasP x l).length 0 (by omega) (n + 3186) (n + 3486) (by omega)
    rw [hln] at q46a
    generalize wasP x l = V at *
    generalize wasP b l = W at *
    generalize verdsP x chP k = C at *
    generalize verdsP b chP k = D at *
    generalize verdsP x tkP k = T at *
    generalize verdsP b tkP k = U at *
    generalize boundsP x Scene.money k = mx at *
    generalize boundsP b Scene.money k = mb at *
    simp only [cellsB, cellsT, cellsR, lnI, hC0] at q22 q22x q21 q21x q28 q28x q33 q33x q46a q46b ⊢
    simp at q46a q46b
    simp [c46, argFr, q22, q22x, q21, q21x, q28, q28x, q33, q33x, q90, lC, lD, lT, lU, hl0, q46a, q46b, encL, encC]
    done
def swI (p q z : Int) : Int := if z = p then q else if z = q then p else z
def swL (p q : Int) (l : Line) : Line := ⟨l.k, l.c, swI p q l.t⟩
def exL (l : Line) : Line := ⟨l.k, l.t, l.c⟩
def mapB (φ : Line → Line) (b : Book) : Book := { b with lines := b.lines.map φ }
structure Ex (C : Int) (φ : Line → Line) : Prop where
  inv : ∀ l, φ (φ l) = l
  kind : ∀ l, (φ l).k = l.k
  ok : ∀ l, lineOk C (φ l) = lineOk C l
  len : ∀ l, lineOk C l = true → (readings C (φ l)).length = (readings C l).length
  read : ∀ l x, readOne C (φ l) (φ x) = readOne C l x
  poss : ∀ ts k t, possOne (ts.map φ) k (φ t) = possOne ts k t
  mix : ∀ ts k t, mixOne (ts.map φ) k (φ t) = mixOne ts k t
theorem outGo_map {φ : Line → Line} (hk : ∀ l, (φ l).k = l.k) {s s' : Line → Int} {x x' : Int} (h : ∀ l, s' (φ l) = x' ↔ s l = x) : ∀ (ts : List Line) (k : Nat) (v : Int), outGo s' x' k v (ts.map φ) = outGo s x k v ts
  | [], _, _ => rfl
  | t :: r, k, v => by
    simp only [List.map_cons, outGo, hk, h]
    exact outGo_map hk h r _ _
theorem outB_map {φ : Line → Line} (hk : ∀ l, (φ l).k = l.k) {s s' : Line → Int} {x x' : Int} (h : ∀ l, s' (φ l) = x' ↔ s l = x) (ts : List Line) (a : Nat) : outB s' (ts.map φ) a x' = outB s ts a x := by
  unfold outB
  rw [← List.map_take]
  exact outGo_map hk h _ _ _
def numOK : Bool := [1, 2, 3, 4].all fun C : Int => [0, 1, 2].all fun k : Int => [-1, 0, 1, 2, 3].all fun c : Int => [-1, 0, 1, 2, 3].all fun t : Int =>
  !(lineOk C ⟨k, c, t⟩) || decide ((readings C ⟨k, c, t⟩).length = (if k = 0 then 2 else 1) * ((if c < 0 then C.toNat else 1) * (if t < 0 then C.toNat else 1)))
theorem numOK_true : numOK = true := by decide +kernel
theorem num_eq {C : Int} (h1 : 1 ≤ C) (h4 : C ≤ 4) {l : Line} (h : lineOk C l = true) : (readings C l).length = (if l.k = 0 then 2 else 1) * ((if l.c < 0 then C.toNat else 1) * (if l.t < 0 then C.toNat else 1)) := by
  obtain ⟨k, c, t⟩ := l
  obtain ⟨v1, v2, v3⟩ := valL_spec h
  simp only at v1 v2 v3
  have q := List.all_eq_true.1 (List.all_eq_true.1 (List.all_eq_true.1 (List.all_eq_true.1 numOK_true C (mem4 h1 h4)) k (mem3 v1.1 v1.2)) c (mem5 v2.1 (by omega))) t (mem5 v3.1 (by omega))
  rw [h] at q
  simpa using q
section
variable {C : Int} {φ : Line → Line}
theorem Ex.mapmap (h : Ex C φ) (t : List Line) : (t.map φ).map φ = t := by
  rw [List.map_map]
  conv => rhs; rw [← List.map_id t]
  exact List.map_congr_left fun l _ => h.inv l
theorem Ex.many (h : Ex C φ) : ∀ (ls : List Line) (n : Int), (∀ l ∈ ls, lineOk C l = true) → manyGo C n (ls.map φ) = manyGo C n ls
  | [], _, _ => rfl
  | l :: r, n, hl => by
    have ih := Ex.many h r (min5 (n * ((readings C l).length : Int))) fun x hx => hl x (by simp [hx])
    unfold manyGo at ih ⊢
    simp only [List.map_cons, List.foldl_cons, h.len l (hl l (by simp))]
    exact ih
theorem Ex.readGo (h : Ex C φ) : ∀ (ls ts : List Line), readGo C (ls.map φ) (ts.map φ) = Op.readGo C ls ts
  | [], [] => rfl
  | [], _ :: _ => rfl
  | _ :: _, [] => rfl
  | l :: ls, t :: ts => by
    simp only [List.map_cons, Op.readGo, h.read, Ex.readGo h ls ts]
theorem Ex.possGo (h : Ex C φ) (ts : List Line) : ∀ (l : List Line) (k : Nat), possGo (ts.map φ) k (l.map φ) = Op.possGo ts k l
  | [], _ => rfl
  | x :: r, k => by
    simp only [List.map_cons, Op.possGo, h.poss, Ex.possGo h ts r]
theorem Ex.mixGo (h : Ex C φ) (ts : List Line) : ∀ (l : List Line) (k : Nat) (v : Int), mixGo (ts.map φ) k v (l.map φ) = Op.mixGo ts k v l
  | [], _, _ => rfl
  | x :: r, k, v => by
    simp only [List.map_cons, Op.mixGo, h.mix, Ex.mixGo h ts r]
theorem Ex.mixB (h : Ex C φ) (ts : List Line) : mixB (ts.map φ) = Op.mixB ts := h.mixGo ts ts 0 0
theorem Ex.moneyGo (h : Ex C φ) (coin : Int) : ∀ (ts : List Line) (v : Int), moneyGo coin v (ts.map φ) = Op.moneyGo coin v ts
  | [], _ => rfl
  | x :: r, v => by
    simp only [List.map_cons, Op.moneyGo, h.kind, Ex.moneyGo h coin r]
theorem Ex.moneyB (h : Ex C φ) (b : Book) (ts : List Line) (a : Nat) : moneyB (mapB φ b) (ts.map φ) a = Op.moneyB b ts a := by
  unfold Op.moneyB
  rw [← List.map_take]
  exact h.moneyGo _ _ _
variable {b : Book}
theorem Ex.fault (h : Ex b.chairs φ) (hf : faultB b = 0) : faultB (mapB φ b) = 0 := by
  obtain ⟨h1, h4, hl8, hc4, hc1, hc2, hx1, hx2, hok, hcok, hm⟩ := fault0 hf
  have e1 : (b.lines.map φ).all (lineOk b.chairs) = b.lines.all (lineOk b.chairs) := by
    rw [List.all_map]
    congr 1
    exact funext h.ok
  have e2 := h.many b.lines 1 fun l hl => List.all_eq_true.1 hok l hl
  rw [← hf]
  simp only [faultB, mapB, e1, e2, List.length_map]
  rfl
theorem Ex.fits (h : Ex b.chairs φ) (t : List Line) : fitsB (mapB φ b) (t.map φ) = fitsB b t := by
  have e : ∀ x, cntOne (mapB φ b) (t.map φ) x = cntOne b t x := fun x => by unfold cntOne; rw [h.moneyB]
  have e1 : isReadB (mapB φ b) (t.map φ) = isReadB b t := by
    simp only [isReadB, mapB, List.length_map, h.readGo]
  have e2 : isPossB (t.map φ) = isPossB t := h.possGo t t 0
  have e3 : (mapB φ b).counts.all (cntOne (mapB φ b) (t.map φ)) = b.counts.all (cntOne b t) := by
    show b.counts.all (cntOne (mapB φ b) (t.map φ)) = _
    congr 1
    exact funext e
  unfold fitsB
  rw [e1, e2, e3]
theorem Ex.mem (h : Ex b.chairs φ) (hf : faultB b = 0) {t : List Line} : t.map φ ∈ truthsR (mapB φ b) ↔ t ∈ truthsR b := by
  rw [truthsR_mem hf, truthsR_mem (h.fault hf), h.fits]
theorem Ex.mem2 (h : Ex b.chairs φ) (hf : faultB b = 0) {t : List Line} : t ∈ truthsR (mapB φ b) ↔ t.map φ ∈ truthsR b := by
  rw [← h.mem hf, h.mapmap]
theorem Ex.none (h : Ex b.chairs φ) (hf : faultB b = 0) : truthsR (mapB φ b) = [] ↔ truthsR b = [] := by
  rw [List.eq_nil_iff_forall_not_mem, List.eq_nil_iff_forall_not_mem]
  exact ⟨fun q t ht => q _ ((h.mem hf).2 ht), fun q t ht => q _ ((h.mem2 hf).1 ht)⟩
theorem Ex.asked (h : Ex b.chairs φ) (hf : faultB b = 0) : askedP (mapB φ b) true = askedP b true := by
  rw [asked_eq hf, asked_eq (h.fault hf)]
  by_cases hE : truthsR b = []
  · rw [if_pos ((h.none hf).2 hE), if_pos hE]
  · rw [if_neg fun q => hE ((h.none hf).1 q), if_neg hE]
theorem Ex.verd (h : Ex b.chairs φ) (hf : faultB b = 0) (s s' : Line → Int) (hs : ∀ l, s' (φ l) = s l) (k : Nat) (j : Int) :
    verd ((truthsR (mapB φ b)).length : Nat) (outN s' (truthsR (mapB φ b)) k j) = Op.verd ((truthsR b).length : Nat) (outN s (truthsR b) k j) := by
  have e : ∀ t, outB s' (t.map φ) k j = outB s t k j := fun t => outB_map h.kind (fun l => by rw [hs]) t k
  have a1 : ∀ v : Bool, (∀ t ∈ truthsR (mapB φ b), decide (0 ≤ outB s' t k j) = v) ↔ ∀ t ∈ truthsR b, decide (0 ≤ outB s t k j) = v := by
    intro v
    constructor
    · intro q t ht
      rw [← e t]
      exact q _ ((h.mem hf).2 ht)
    · intro q t ht
      have := q _ ((h.mem2 hf).1 ht)
      rw [← e, h.mapmap] at this
      exact this
  refine verd_congr ?_ ?_
  · rw [outN, outN, count_all, count_all]
    exact a1 true
  · rw [outN, outN, count_none, count_none]
    exact a1 false
theorem Ex.bounds (h : Ex b.chairs φ) (hf : faultB b = 0) {f f' : List Line → Int} (hff : ∀ t, f' (t.map φ) = f t) {r r' : Int × Int} (h1 : BoundsOf (truthsR b) f r) (h2 : BoundsOf (truthsR (mapB φ b)) f' r') : r' = r := by
  refine h2.uniq h1 fun v => ⟨?_, ?_⟩
  · rintro ⟨t, ht, e⟩
    refine ⟨t.map φ, (h.mem2 hf).1 ht, ?_⟩
    rw [← hff, h.mapmap]
    exact e
  · rintro ⟨t, ht, e⟩
    exact ⟨t.map φ, (h.mem hf).2 ht, by rw [hff]; exact e⟩
structure Same2 (b b' : Book) (k : Nat) : Prop where
  asked : askedP b' true = askedP b true
  money : truthsR b ≠ [] → boundsP b' Scene.money k = boundsP b Scene.money k
  mixed : truthsR b ≠ [] → boundsP b' Scene.mixed b'.lines.length = boundsP b Scene.mixed b.lines.length
theorem Ex.same (h : Ex b.chairs φ) (hf : faultB b = 0) {k : Nat} (hk : k ≤ b.lines.length) : Same2 b (mapB φ b) k where
  asked := h.asked hf
  money := fun hE => by
    have hk' : k ≤ (mapB φ b).lines.length := by simpa [mapB] using hk
    exact h.bounds hf (fun t => h.moneyB b t k) (boundsM hf hk hE) (boundsM (h.fault hf) hk' fun q => hE ((h.none hf).1 q))
  mixed := fun hE => h.bounds hf h.mixB (boundsX hf hE) (boundsX (h.fault hf) fun q => hE ((h.none hf).1 q))
end
/-! ### One more count -/
def moreC (b : Book) (c : Count) : Book := { b with counts := b.counts ++ [c] }
theorem more_fits {b : Book} {c : Count} {t : List Line} (h : fitsB (moreC b c) t = true) : fitsB b t = true := by
  simp only [fitsB, Bool.and_eq_true] at h ⊢
  refine ⟨h.1, h.2.1, ?_⟩
  have h2 := h.2.2
  simp only [moreC, List.all_append, Bool.and_eq_true] at h2
  exact h2.1
theorem into_more {b : Book} {c : Count} {k : Nat} {ln : Option Nat} (hb : faultB b = 0) (hx : faultB (moreC b c) = 0) (hk : k ≤ b.lines.length) (hl : ∀ l, ln = some l → l < b.lines.length) (hne : truthsR (moreC b c) ≠ []) : Into (moreC b c) b k ln where
  ch := rfl
  fx := hx
  fb := hb
  kx := hk
  kb := hk
  lx := hl
  lb := hl
  ne := hne
  into := fun t ht => ⟨t, (truthsR_mem hb).2 (more_fits ((truthsR_mem hx).1 ht)), rfl, rfl, fun _ _ => rfl⟩
/-! ### One more line -/
def moreL (b : Book) (l : Line) : Book := { b with lines := b.lines ++ [l] }
theorem readGo_take {C : Int} {l : Line} : ∀ (ls ts : List Line), ts.length = (ls ++ [l]).length → readGo C (ls ++ [l]) ts = true → readGo C ls (ts.take ls.length) = true
  | [], _, _, _ => by simp [readGo]
  | _ :: _, [], h, _ => by simp at h
  | y :: ls, t :: ts, h, hr => by
    simp only [List.cons_append, readGo, Bool.and_eq_true] at hr
    simp only [List.length_cons, List.take_succ_cons, readGo, Bool.and_eq_true]
    exact ⟨hr.1, readGo_take ls ts (by simpa using h) hr.2⟩
theorem poss_take {t : List Line} {n : Nat} : ∀ (l : List Line) (k : Nat), k + l.length ≤ n → possGo (t.take n) k l = possGo t k l
  | [], _, _ => rfl
  | x :: r, k, h => by
    have h : k + r.length + 1 ≤ n := by simpa [Nat.add_assoc] using h
    have ih := poss_take (t := t) (n := n) r (k + 1) (by omega)
    have e : ∀ (s : Line → Int) (z : Int), outB s (t.take n) k z = outB s t k z := fun s z => by
      unfold outB
      rw [List.take_take, Nat.min_eq_left (by omega)]
    simp only [possGo, possOne, e, ih]
theorem poss_pre {t : List Line} : ∀ (l : List Line) (k m : Nat), possGo t k l = true → possGo t k (l.take m) = true
  | [], _, m, _ => by simp [possGo]
  | x :: r, k, 0, _ => by simp [possGo]
  | x :: r, k, m + 1, h => by
    simp only [possGo, Bool.and_eq_true] at h
    simp only [List.take_succ_cons, possGo, Bool.and_eq_true]
    exact ⟨h.1, poss_pre r (k + 1) m h.2⟩
theorem end_fits {b : Book} {l : Line} (hb : faultB b = 0) {t : List Line} (h : fitsB (moreL b l) t = true) : fitsB b (t.take b.lines.length) = true := by
  obtain ⟨_, _, _, _, _, _, _, _, _, hcok, _⟩ := fault0 hb
  simp only [fitsB, isReadB, Bool.and_eq_true, decide_eq_true_eq] at h ⊢
  obtain ⟨⟨h1, h2⟩, h3, h4⟩ := h
  have hlen : t.length = b.lines.length + 1 := by simpa [moreL] using h1
  refine ⟨⟨by simp; omega, readGo_take b.lines t (by simpa [moreL] using h1) h2⟩, ?_, ?_⟩
  · unfold isPossB at h3 ⊢
    rw [poss_take _ 0 (by simp; omega)]
    exact poss_pre t 0 _ h3
  · rw [List.all_eq_true] at h4 ⊢
    intro x hx
    have := List.all_eq_true.1 hcok x hx
    simp only [countOk, inB, Bool.and_eq_true, decide_eq_true_eq] at this
    have hx := h4 x hx
    unfold cntOne at hx ⊢
    have e : moneyB b (t.take b.lines.length) x.a.toNat = moneyB (moreL b l) t x.a.toNat := by
      unfold moneyB
      rw [List.take_take, Nat.min_eq_left (by omega)]
      rfl
    rw [e]
    exact hx
theorem into_end {b : Book} {y : Line} {k : Nat} {ln : Option Nat} (hb : faultB b = 0) (hx : faultB (moreL b y) = 0) (hk : k ≤ b.lines.length) (hl : ∀ l, ln = some l → l < b.lines.length) (hne : truthsR (moreL b y) ≠ []) : Into (moreL b y) b k ln where
  ch := rfl
  fx := hx
  fb := hb
  kx := by simp [moreL]; omega
  kb := hk
  lx := fun l h => by have := hl l h; simp [moreL]; omega
  lb := hl
  ne := hne
  into := fun t ht => by
    refine ⟨t.take b.lines.length, (truthsR_mem hb).2 (end_fits hb ((truthsR_mem hx).1 ht)), ?_, ?_, fun l h => ?_⟩
    · unfold moneyB
      rw [List.take_take, Nat.min_eq_left hk]
      rfl
    · rw [List.take_take, Nat.min_eq_left hk]
    · have := hl l h
      simp only [List.getD_eq_getElem?_getD, List.getElem?_take, this, if_true]
/-! ### A sign that becomes readable -/
def setL (b : Book) (j : Nat) (l : Line) : Book := { b with lines := b.lines.set j l }
structure Finer (C : Int) (l l' : Line) : Prop where
  ok : lineOk C l' = true
  k : l.k = 0 ∨ l.k = l'.k
  c : l.c < 0 ∨ l.c = l'.c
  t : l.t < 0 ∨ l.t = l'.t
theorem Finer.refl {C : Int} {l : Line} (h : lineOk C l = true) : Finer C l l := ⟨h, .inr rfl, .inr rfl, .inr rfl⟩
theorem Finer.read {C : Int} {l l' : Line} (h : Finer C l l') {x : Line} (hr : readOne C l' x = true) : readOne C l x = true := by
  obtain ⟨k, c, t⟩ := l
  obtain ⟨k', c', t'⟩ := l'
  obtain ⟨ok, hk, hc, ht⟩ := h
  obtain ⟨v1, v2, v3⟩ := valL_spec ok
  simp only at hk hc ht v1 v2 v3
  simp only [readOne, agreesB, inB, Bool.and_eq_true, Bool.or_eq_true, decide_eq_true_eq] at hr ⊢
  omega
theorem Finer.len {C : Int} (h1 : 1 ≤ C) (h4 : C ≤ 4) {l l' : Line} (hl : lineOk C l = true) (h : Finer C l l') : (readings C l').length ≤ (readings C l).length := by
  rw [num_eq h1 h4 hl, num_eq h1 h4 h.ok]
  have hp : 1 ≤ C.toNat := by omega
  obtain ⟨v1, v2, v3⟩ := valL_spec h.ok
  refine Nat.mul_le_mul ?_ (Nat.mul_le_mul ?_ ?_)
  · rcases h.k with e | e
    · rw [if_pos e]; split <;> omega
    · rw [e]; exact Nat.le_refl _
  · rcases h.c with e | e
    · rw [if_pos e]; split <;> omega
    · rw [e]; exact Nat.le_refl _
  · rcases h.t with e | e
    · rw [if_pos e]; split <;> omega
    · rw [e]; exact Nat.le_refl _
theorem min5_le {a b : Int} (h : a ≤ b) : min5 a ≤ min5 b := by
  unfold min5; split <;> split <;> omega
theorem min5_pos {a : Int} (h : 0 ≤ a) : 0 ≤ min5 a := by
  unfold min5; split <;> omega
theorem many_mono {C : Int} (h1 : 1 ≤ C) (h4 : C ≤ 4) {l' : Line} : ∀ (ls : List Line) (j : Nat) (n n' : Int), 0 ≤ n' → n' ≤ n → (∀ l ∈ ls, lineOk C l = true) → (∀ h : j < ls.length, Finer C ls[j] l') → manyGo C n' (ls.set j l') ≤ manyGo C n ls
  | [], _, n, n', _, h, _, _ => h
  | l :: r, 0, n, n', h0, h, hl, hf => by
    have hle := (hf (by simp)).len h1 h4 (hl l (by simp))
    have e : ∀ (r : List Line) (a a' : Int), 0 ≤ a' → a' ≤ a → manyGo C a' r ≤ manyGo C a r := by
      intro r
      induction r with
      | nil => intro a a' _ h; exact h
      | cons y r ih =>
        intro a a' h0 h
        have hm : a' * ((readings C y).length : Int) ≤ a * ((readings C y).length : Int) := Int.mul_le_mul_of_nonneg_right h (Int.natCast_nonneg _)
        have hz : 0 ≤ a' * ((readings C y).length : Int) := Int.mul_nonneg h0 (Int.natCast_nonneg _)
        exact ih _ _ (min5_pos hz) (min5_le hm)
    have hm : n' * ((readings C l').length : Int) ≤ n * ((readings C l).length : Int) := by
      have a1 : n' * ((readings C l').length : Int) ≤ n' * ((readings C l).length : Int) := Int.mul_le_mul_of_nonneg_left (by omega) h0
      have a2 : n' * ((readings C l).length : Int) ≤ n * ((readings C l).length : Int) := Int.mul_le_mul_of_nonneg_right h (Int.natCast_nonneg _)
      omega
    have hz : 0 ≤ n' * ((readings C l').length : Int) := Int.mul_nonneg h0 (Int.natCast_nonneg _)
    exact e r _ _ (min5_pos hz) (min5_le hm)
  | l :: r, j + 1, n, n', h0, h, hl, hf => by
    have hm : n' * ((readings C l).length : Int) ≤ n * ((readings C l).length : Int) := Int.mul_le_mul_of_nonneg_right h (Int.natCast_nonneg _)
    have hz : 0 ≤ n' * ((readings C l).length : Int) := Int.mul_nonneg h0 (Int.natCast_nonneg _)
    exact many_mono h1 h4 r j (min5 (n * ((readings C l).length : Int))) (min5 (n' * ((readings C l).length : Int))) (min5_pos hz) (min5_le hm) (fun x hx => hl x (by simp [hx])) (fun h => by have := hf (by simpa using h); simpa using this)
theorem set_fault {b : Book} (hb : faultB b = 0) {j : Nat} (hj : j < b.lines.length) {l' : Line} (h : Finer b.chairs b.lines[j] l') : faultB (setL b j l') = 0 := by
  obtain ⟨h1, h4, hl8, hc4, hc1, hc2, hx1, hx2, hok, hcok, hm⟩ := fault0 hb
  have e1 : (b.lines.set j l').all (lineOk b.chairs) = true := List.all_eq_true.2 fun x hx => by
    rcases List.mem_or_eq_of_mem_set hx with hx | rfl
    · exact List.all_eq_true.1 hok x hx
    · exact h.ok
  have e2 : manyGo b.chairs 1 (b.lines.set j l') ≤ manyGo b.chairs 1 b.lines := many_mono h1 h4 b.lines j 1 1 (by decide) (Int.le_refl _) (fun l hl => List.all_eq_true.1 hok l hl) (fun _ => h)
  have e3 : ¬ 4096 < manyGo b.chairs 1 (b.lines.set j l') := by omega
  have l8 : ¬ 8 < b.lines.length := by omega
  have c4 : ¬ 4 < b.counts.length := by omega
  simp only [faultB, setL, List.length_set, l8, c4, decide_false, e1, inB, h1, h4, hc1, hc2, hx1, hx2, hcok, e3]
  simp
theorem readGo_set {C : Int} {l' : Line} : ∀ (ls ts : List Line) (j : Nat), (∀ h : j < ls.length, Finer C ls[j] l') → readGo C (ls.set j l') ts = true → readGo C ls ts = true
  | [], _, _, _, _ => by simp [readGo]
  | _ :: _, [], _, _, _ => by simp [readGo]
  | l :: ls, t :: ts, 0, h, hr => by
    simp only [List.set_cons_zero, readGo, Bool.and_eq_true] at hr ⊢
    exact ⟨(h (by simp)).read hr.1, hr.2⟩
  | l :: ls, t :: ts, j + 1, h, hr => by
    simp only [List.set_cons_succ, readGo, Bool.and_eq_true] at hr ⊢
    exact ⟨hr.1, readGo_set ls ts j (fun hh => by have := h (by simpa using hh); simpa using this) hr.2⟩
theorem set_fits {b : Book} {j : Nat} (hj : j < b.lines.length) {l' : Line} (h : Finer b.chairs b.lines[j] l') {t : List Line} (hf : fitsB (setL b j l') t = true) : fitsB b t = true := by
  simp only [fitsB, isReadB, setL, List.length_set, Bool.and_eq_true, decide_eq_true_eq] at hf ⊢
  exact ⟨⟨hf.1.1, readGo_set b.lines t j (fun _ => h) hf.1.2⟩, hf.2.1, hf.2.2⟩
theorem into_set {b : Book} (hb : faultB b = 0) {j : Nat} (hj : j < b.lines.length) {l' : Line} (h : Finer b.chairs b.lines[j] l') {k : Nat} (hk : k ≤ b.lines.length) (hne : truthsR (setL b j l') ≠ []) : Into (setL b j l') b k (some j) where
  ch := rfl
  fx := set_fault hb hj h
  fb := hb
  kx := by simp [setL]; omega
  kb := hk
  lx := fun l e => by cases e; simpa [setL] using hj
  lb := fun l e => by cases e; exact hj
  ne := hne
  into := fun t ht => ⟨t, (truthsR_mem hb).2 (set_fits hj h ((truthsR_mem (set_fault hb hj h)).1 ht)), rfl, rfl, fun _ _ => rfl⟩
end Go.Proofs.Try.Op
/- A row that is laid anew, and one more element. No program in sight. -/
open Go Go.Pg Go.Proofs
namespace Go.Pg
variable {P : Program} {fr : Fr} {s : St}
@[simp] theorem adV_new (e d c : Nat) (ys : List (List V)) (h : appOK P e 0 ys = true) : adV P e d c fr s (.list true []) ys = some (⟨c + 1, (d, true, .vec s.up.length d c ys.length) :: fr, s.put s.up.length d c (.vec e ys)⟩, [(s.up.length, d), (s.up.length, d + apK)]) := by
  unfold adV
  simp [newE, h]
@[simp] theorem adV_vec (e d c l q γ n : Nat) (ys : List (List V)) : adV P e d c fr s (.vec l q γ n) ys = wp [(l, q), (l, q + apK)] (apW P e d c fr s l q γ n ys (s.get l q)) := rfl
@[simp] theorem evNil_eptr (l k g i o : Nat) : evNil (.eptr l k g i o) = some (.eptr l k g i o) := rfl
end Go.Pg
/- The walk of TokenEnd: true. No condition. -/
open Go Go.Pg Go.Proofs
namespace Go.Proofs.Try.Op
set_option maxRecDepth 100000
set_option linter.unusedSimpArgs false
theorem app_lines {ls : List Line} {m : Nat} (h : (m + ls.length) * 24 ≤ 140737488355328) : appOK Try.prog 75 m (ls.map encL) = true := by
  rw [appOK_iff (by simp) (by simp)]
  simp [maxLen, encL]
  omega
set_option maxHeartbeats 1000000 in
theorem k14 (n : Nat) (b : Book) (x : Line) (κ1 κ2 : Nat) (hbl : b.lines.length * 24 ≤ 140737488351232) (hκ1 : κ1 ≤ 255) (hκ2 : κ2 ≤ 255) : call0 Try.prog (execA Try.prog ann kn (n+5700)) 14 [.agg (cellsB b), .agg (encL x), .int .u8 κ1, .int .u8 κ2] = some (.bool true) := by
  rw [call0_eq Try.func14 b14 rfl (by simp [cellsB, encL, encC])]
  have q42 := fun n => k42 n b
  have q42x := fun n => k42 n (moreL b x)
  have h1 : appOK Try.prog 75 0 (b.lines.map encL) = true := app_lines (by omega)
  have h2 : appOK Try.prog 75 b.lines.length [[i x.k, i x.c, i x.t]] = true := by
    have := app_lines (ls := [x]) (m := b.lines.length) (by simp; omega)
    simpa [encL] using this
  cases hR : rdy b with
  | false =>
    rw [hR] at q42
    simp only [cellsB] at q42 ⊢
    simp [c14, argFr, q42, encL, encC, k20, apK, plK, h1, h2]
    done
  | true =>
    rw [hR] at q42
    cases hR2 : rdy (moreL b x) with
    | false =>
      rw [hR2] at q42x
      simp only [cellsB, moreL, List.map_append, List.map_cons, List.map_nil] at q42 q42x ⊢
      simp only [encL] at q42x
      simp [c14, argFr, q42, q42x, encL, encC, k20, apK, plK, h1, h2]
      done
    | true =>
      rw [hR2] at q42x
      simp only [rdy, Bool.and_eq_true, decide_eq_true_eq] at hR hR2
      obtain ⟨_, hf⟩ := hR
      obtain ⟨_, hfx⟩ := hR2
      obtain ⟨a1, a4, hl8, hc4, _⟩ := fault0 hf
      have xl8 : (moreL b x).lines.length ≤ 9 := by simp [moreL]; omega
      have q22x := fun n => k22 n (moreL b x) (by omega) (by show b.counts.length ≤ 500; omega)
      have q29x := fun n => k29 n (moreL b x)
      unfold mixedV at q29x
      have ha := asked_eq (fine := true) hfx
      rw [if_pos rfl] at ha
      have hw1 : IntKind.i64.wrap (κ1 : Int) = (κ1 : Int) := wrap_i64 (by omega) (by omega)
      have hw2 : IntKind.i64.wrap (κ2 : Int) = (κ2 : Int) := wrap_i64 (by omega) (by omega)
      have hw4 : IntKind.i64.wrap ((b.lines.length : Int) + 1) = (b.lines.length : Int) + 1 := wrap_i64 (by omega) (by omega)
      have hne : ¬ ((b.lines.length : Int) + 1 = 0) := by omega
      have m1 : (κ1 : Int).tmod ((b.lines.length : Int) + 1) = ((κ1 % (b.lines.length + 1) : Nat) : Int) := (Int.ofNat_tmod κ1 (b.lines.length + 1)).symm
      have hk : κ1 % (b.lines.length + 1) ≤ b.lines.length := by have := Nat.mod_lt κ1 (show 0 < b.lines.length + 1 by omega); omega
      generalize κ1 % (b.lines.length + 1) = k at m1 hk
      by_cases hE : truthsR (moreL b x) = []
      · rw [if_pos hE] at ha
        rw [ha, if_neg (by decide)] at q29x
        simp only [cellsB, cellsT, cellsR, moreL, List.map_append, List.map_cons, List.map_nil] at q42 q42x q22x q29x ⊢
        simp only [encL] at q42x q22x q29x
        simp [c14, argFr, q42, q42x, q22x, q29x, encL, encC, k20, apK, plK, h1, h2]
        done
      · rw [if_neg hE] at ha
        rw [ha, if_pos rfl] at q29x
        generalize boundsP (moreL b x) Scene.mixed (moreL b x).lines.length = mm at q29x
        by_cases hz : b.lines.length = 0
        · have q46 := fun n => k46 n (moreL b x) b k none (into_end hf hfx hk (fun l h => by cases h) hE)
          have hz' : ¬ (0 < b.lines.length) := by omega
          simp only [cellsB, cellsT, cellsR, moreL, lnI, List.map_append, List.map_cons, List.map_nil] at q42 q42x q22x q29x q46 ⊢
          simp only [encL] at q42x q22x q29x q46
          simp [c14, argFr, q42, q42x, q22x, q29x, q46, hw1, hw2, hw4, hne, m1, hz', encL, encC, k20, apK, plK, h1, h2]
          done
        · have m2 : (κ2 : Int).tmod (b.lines.length : Int) = ((κ2 % b.lines.length : Nat) : Int) := (Int.ofNat_tmod κ2 b.lines.length).symm
          have hk2 := Nat.mod_lt κ2 (show 0 < b.lines.length by omega)
          generalize κ2 % b.lines.length = l at m2 hk2
          have q46 := fun n => k46 n (moreL b x) b k (some l) (into_end hf hfx hk (fun l' h => by cases h; exact hk2) hE)
          have hz' : 0 < b.lines.length := by omega
          have hz2 : ¬ ((b.lines.length : Int) = 0) := by omega
          simp only [cellsB, cellsT, cellsR, moreL, lnI, List.map_append, List.map_cons, List.map_nil] at q42 q42x q22x q29x q46 ⊢
          simp only [encL] at q42x q22x q29x q46
          simp [c14, argFr, q42, q42x, q22x, q29x, q46, hw1, hw2, hw4, hne, m1, m2, hz, hz', hz2, encL, encC, k20, apK, plK, h1, h2]
          done
theorem app_counts {cs : List Count} {m : Nat} (h : (m + cs.length) * 24 ≤ 140737488355328) : appOK Try.prog 78 m (cs.map encC) = true := by
  rw [appOK_iff (by simp) (by simp)]
  simp [maxLen, encC]
  omega
set_option maxHeartbeats 1000000 in
theorem k9 (n : Nat) (b : Book) (x : Count) (κ1 κ2 : Nat) (hbl : b.counts.length * 24 ≤ 140737488351232) (hκ1 : κ1 ≤ 255) (hκ2 : κ2 ≤ 255) : call0 Try.prog (execA Try.prog ann kn (n+5700)) 9 [.agg (cellsB b), .agg (encC x), .int .u8 κ1, .int .u8 κ2] = some (.bool true) := by
  rw [call0_eq Try.func9 b9 rfl (by simp [cellsB, encL, encC])]
  have q42 := fun n => k42 n b
  have q42x := fun n => k42 n (moreC b x)
  have h1 : appOK Try.prog 78 0 (b.counts.map encC) = true := app_counts (by omega)
  have h2 : appOK Try.prog 78 b.counts.length [[i x.a, i x.lo, i x.hi]] = true := by
    have := app_counts (cs := [x]) (m := b.counts.length) (by simp; omega)
    simpa [encC] using this
  cases hR : rdy b with
  | false =>
    rw [hR] at q42
    simp only [cellsB] at q42 ⊢
    simp [c9, argFr, q42, encL, encC, k20, apK, plK, h1, h2]
    done
  | true =>
    rw [hR] at q42
    cases hR2 : rdy (moreC b x) with
    | false =>
      rw [hR2] at q42x
      simp only [cellsB, moreC, List.map_append, List.map_cons, List.map_nil] at q42 q42x ⊢
      simp only [encC] at q42x
      simp [c9, argFr, q42, q42x, encL, encC, k20, apK, plK, h1, h2]
      done
    | true =>
      rw [hR2] at q42x
      simp only [rdy, Bool.and_eq_true, decide_eq_true_eq] at hR hR2
      obtain ⟨_, hf⟩ := hR
      obtain ⟨_, hfx⟩ := hR2
      obtain ⟨a1, a4, hl8, hc4, _⟩ := fault0 hf
      have xl8 : (moreC b x).counts.length ≤ 5 := by simp [moreC]; omega
      have q22x := fun n => k22 n (moreC b x) (by show b.lines.length ≤ 500; omega) (by omega)
      have q29x := fun n => k29 n (moreC b x)
      unfold mixedV at q29x
      have ha := asked_eq (fine := true) hfx
      rw [if_pos rfl] at ha
      have hw1 : IntKind.i64.wrap (κ1 : Int) = (κ1 : Int) := wrap_i64 (by omega) (by omega)
      have hw2 : IntKind.i64.wrap (κ2 : Int) = (κ2 : Int) := wrap_i64 (by omega) (by omega)
      have hw4 : IntKind.i64.wrap ((b.lines.length : Int) + 1) = (b.lines.length : Int) + 1 := wrap_i64 (by omega) (by omega)
      have hne : ¬ ((b.lines.length : Int) + 1 = 0) := by omega
      have m1 : (κ1 : Int).tmod ((b.lines.length : Int) + 1) = ((κ1 % (b.lines.length + 1) : Nat) : Int) := (Int.ofNat_tmod κ1 (b.lines.length + 1)).symm
      have hk : κ1 % (b.lines.length + 1) ≤ b.lines.length := by have := Nat.mod_lt κ1 (show 0 < b.lines.length + 1 by omega); omega
      generalize κ1 % (b.lines.length + 1) = k at m1 hk
      by_cases hE : truthsR (moreC b x) = []
      · rw [if_pos hE] at ha
        rw [ha, if_neg (by decide)] at q29x
        simp only [cellsB, cellsT, cellsR, moreC, List.map_append, List.map_cons, List.map_nil] at q42 q42x q22x q29x ⊢
        simp only [encC] at q42x q22x q29x
        simp [c9, argFr, q42, q42x, q22x, q29x, encL, encC, k20, apK, plK, h1, h2]
        done
      · rw [if_neg hE] at ha
        rw [ha, if_pos rfl] at q29x
        generalize boundsP (moreC b x) Scene.mixed (moreC b x).lines.length = mm at q29x
        by_cases hz : b.lines.length = 0
        · have q46 := fun n => k46 n (moreC b x) b k none (into_more hf hfx hk (fun l h => by cases h) hE)
          have hz' : ¬ (0 < b.lines.length) := by omega
          simp only [cellsB, cellsT, cellsR, moreC, lnI, List.map_append, List.map_cons, List.map_nil] at q42 q42x q22x q29x q46 ⊢
          simp only [encC] at q42x q22x q29x q46
          simp [c9, argFr, q42, q42x, q22x, q29x, q46, hw1, hw2, hw4, hne, m1, hz', encL, encC, k20, apK, plK, h1, h2]
          done
        · have m2 : (κ2 : Int).tmod (b.lines.length : Int) = ((κ2 % b.lines.length : Nat) : Int) := (Int.ofNat_tmod κ2 b.lines.length).symm
          have hk2 := Nat.mod_lt κ2 (show 0 < b.lines.length by omega)
          generalize κ2 % b.lines.length = l at m2 hk2
          have q46 := fun n => k46 n (moreC b x) b k (some l) (into_more hf hfx hk (fun l' h => by cases h; exact hk2) hE)
          have hz' : 0 < b.lines.length := by omega
          have hz2 : ¬ ((b.lines.length : Int) = 0) := by omega
          simp only [cellsB, cellsT, cellsR, moreC, lnI, List.map_append, List.map_cons, List.map_nil] at q42 q42x q22x q29x q46 ⊢
          simp only [encC] at q42x q22x q29x q46
          simp [c9, argFr, q42, q42x, q22x, q29x, q46, hw1, hw2, hw4, hne, m1, m2, hz, hz', hz2, encL, encC, k20, apK, plK, h1, h2]
          done
theorem read_facts {b : Book} (hf : faultB b = 0) {j : Nat} (hj : j < b.lines.length) {l' : Line} (h : Finer b.chairs b.lines[j] l') {k : Nat} (hk : k ≤ b.lines.length) :
    (∀ n, callK Try.prog kn (execA Try.prog ann kn (n+700)) 22 [.agg (cellsB (setL b j l'))] = some (.agg (cellsR (setL b j l')))) ∧
    ((∀ n, callK Try.prog kn (execA Try.prog ann kn (n+3200)) 29 [.agg (cellsT (setL b j l'))] = some (.tup [.agg [i 0, i 0], i 11])) ∨
      ∃ u v : Int, (∀ n, callK Try.prog kn (execA Try.prog ann kn (n+3200)) 29 [.agg (cellsT (setL b j l'))] = some (.tup [.agg [i u, i v], i 0])) ∧
        ∀ n, callK Try.prog kn (execA Try.prog ann kn (n+3500)) 46 [.agg (cellsB (setL b j l')), .agg (cellsB b), i k, i j] = some (.bool true)) := by
  obtain ⟨_, _, hl8, hc4, _⟩ := fault0 hf
  refine ⟨fun n => k22 n _ (by simp [setL]; omega) (by show b.counts.length ≤ 500; omega), ?_⟩
  have hfx := set_fault hf hj h
  have q29 := fun n => k29 n (setL b j l')
  unfold mixedV at q29
  have ha := asked_eq (fine := true) hfx
  rw [if_pos rfl] at ha
  by_cases hE : truthsR (setL b j l') = []
  · rw [if_pos hE] at ha
    rw [ha, if_neg (by decide)] at q29
    exact .inl q29
  · rw [if_neg hE] at ha
    rw [ha, if_pos rfl] at q29
    exact .inr ⟨_, _, q29, fun n => k46 n (setL b j l') b k (some j) (into_set hf hj h hk hE)⟩
set_option maxHeartbeats 4000000 in
theorem k10 (n : Nat) (b : Book) (κ1 κ2 κ3 κ4 : Nat) (hκ1 : κ1 ≤ 255) (hκ2 : κ2 ≤ 255) (hκ3 : κ3 ≤ 255) (hκ4 : κ4 ≤ 255) : call0 Try.prog (execA Try.prog ann kn (n+5700)) 10 [.agg (cellsB b), .int .u8 κ1, .int .u8 κ2, .int .u8 κ3, .int .u8 κ4] = some (.bool true) := by
  rw [call0_eq Try.func10 b10 rfl (by simp [cellsB, encL, encC])]
  have q42 := fun n => k42 n b
  cases hR : rdy b with
  | false =>
    rw [hR] at q42
    simp only [cellsB] at q42 ⊢
    simp [c10, argFr, q42, encL, encC, k20]
    done
  | true =>
    rw [hR] at q42
    simp only [rdy, Bool.and_eq_true, decide_eq_true_eq] at hR
    obtain ⟨_, hf⟩ := hR
    obtain ⟨h1, h4, hl8, hc4, hc1, hc2, hx1, hx2, hok, hcok, hm⟩ := fault0 hf
    by_cases hz : b.lines.length = 0
    · simp only [cellsB] at q42 ⊢
      simp [c10, argFr, q42, hz, encL, encC, k20]
      done
    · have hw1 : IntKind.i64.wrap (κ1 : Int) = (κ1 : Int) := wrap_i64 (by omega) (by omega)
      have hw3 : IntKind.i64.wrap (κ3 : Int) = (κ3 : Int) := wrap_i64 (by omega) (by omega)
      have hw4 : IntKind.i64.wrap (κ4 : Int) = (κ4 : Int) := wrap_i64 (by omega) (by omega)
      have hw5 : IntKind.i64.wrap ((b.lines.length : Int) + 1) = (b.lines.length : Int) + 1 := wrap_i64 (by omega) (by omega)
      have hne : ¬ ((b.lines.length : Int) + 1 = 0) := by omega
      have m1 : (κ1 : Int).tmod (b.lines.length : Int) = ((κ1 % b.lines.length : Nat) : Int) := (Int.ofNat_tmod κ1 b.lines.length).symm
      have hj := Nat.mod_lt κ1 (show 0 < b.lines.length by omega)
      generalize κ1 % b.lines.length = j at m1 hj
      have m4 : (κ4 : Int).tmod ((b.lines.length : Int) + 1) = ((κ4 % (b.lines.length + 1) : Nat) : Int) := (Int.ofNat_tmod κ4 (b.lines.length + 1)).symm
      have hk : κ4 % (b.lines.length + 1) ≤ b.lines.length := by have := Nat.mod_lt κ4 (show 0 < b.lines.length + 1 by omega); omega
      generalize κ4 % (b.lines.length + 1) = k at m4 hk
      have ha : appOK Try.prog 75 0 (b.lines.map encL) = true := by
        rw [appOK_iff (by simp) (by simp)]
        simp [maxLen, encL]
        omega
      have hgk : (b.lines.map encL)[j]? = some (encL b.lines[j]) := by simp [hj]
      have hlo := List.all_eq_true.1 hok _ (List.getElem_mem hj)
      obtain ⟨v1, v2, v3⟩ := valL_spec hlo
      obtain ⟨C, hC⟩ : ∃ C : Nat, b.chairs = C := ⟨b.chairs.toNat, by omega⟩
      have hC0 : ¬ ((C : Int) = 0) := by omega
      have hC1 : ¬ C = 0 := by omega
      have m3 : (κ3 : Int).tmod 2 = ((κ3 % 2 : Nat) : Int) := (Int.ofNat_tmod κ3 2).symm
      have m5 : (κ3 : Int).tmod (C : Int) = ((κ3 % C : Nat) : Int) := (Int.ofNat_tmod κ3 C).symm
      have p3 := Nat.mod_lt κ3 (show 0 < 2 by decide)
      have p5 := Nat.mod_lt κ3 (show 0 < C by omega)
      generalize κ3 % 2 = w2 at m3 p3
      generalize κ3 % C = wC at m5 p5
      have hw6 : IntKind.i64.wrap ((w2 : Int) + 1) = (w2 : Int) + 1 := wrap_i64 (by omega) (by omega)
      have m2 : (κ2 : Int).tmod 3 = ((κ2 % 3 : Nat) : Int) := (Int.ofNat_tmod κ2 3).symm
      have p2 := Nat.mod_lt κ2 (show 0 < 3 by decide)
      generalize κ2 % 3 = s at m2 p2
      have f0 : Finer b.chairs b.lines[j] b.lines[j] := Finer.refl hlo
      have g0 := read_facts hf hj f0 hk
      simp only [setL, List.set_getElem_self] at g0
      have gk : b.lines[j].k = 0 → Finer b.chairs b.lines[j] ⟨(w2 : Int) + 1, b.lines[j].c, b.lines[j].t⟩ := fun h => ⟨by simp only [lineOk, inB, Bool.and_eq_true, decide_eq_true_eq]; omega, .inl h, .inr rfl, .inr rfl⟩
      have gc : b.lines[j].c < 0 → Finer b.chairs b.lines[j] ⟨b.lines[j].k, (wC : Int), b.lines[j].t⟩ := fun h => ⟨by simp only [lineOk, inB, Bool.and_eq_true, decide_eq_true_eq]; omega, .inr rfl, .inl h, .inr rfl⟩
      have gt : b.lines[j].t < 0 → Finer b.chairs b.lines[j] ⟨b.lines[j].k, b.lines[j].c, (wC : Int)⟩ := fun h => ⟨by simp only [lineOk, inB, Bool.and_eq_true, decide_eq_true_eq]; omega, .inr rfl, .inr rfl, .inl h⟩
      have s3 : s = 0 ∨ s = 1 ∨ s = 2 := by omega
      rcases s3 with rfl | rfl | rfl
      · by_cases hl : b.lines[j].k = 0
        · obtain ⟨q22, hq⟩ := read_facts hf hj (gk hl) hk
          have hset : (b.lines.map encL).set j [i ((w2 : Int) + 1), i b.lines[j].c, i b.lines[j].t] = (b.lines.set j ⟨((w2 : Int) + 1), b.lines[j].c, b.lines[j].t⟩).map encL := by rw [List.map_set]; rfl
          have hLl : (b.lines.set j ⟨((w2 : Int) + 1), b.lines[j].c, b.lines[j].t⟩).length = b.lines.length := List.length_set
          unfold setL at q22 hq
          generalize b.lines.set j ⟨((w2 : Int) + 1), b.lines[j].c, b.lines[j].t⟩ = L' at hset hLl q22 hq
          rcases hq with q29 | ⟨u, v, q29, q46⟩
          · simp only [cellsB, cellsT, cellsR, hC] at q42 q22 q29 ⊢
            simp [c10, argFr, q42, q22, q29, hz, hw1, hw3, hw4, hw5, hw6, hne, hC0, hC1, m1, m2, m3, m4, m5, ha, hj, hgk, hl, hset, hLl, encL, encC, k20]
            done
          · simp only [cellsB, cellsT, cellsR, hC] at q42 q22 q29 q46 ⊢
            simp [c10, argFr, q42, q22, q29, q46, hz, hw1, hw3, hw4, hw5, hw6, hne, hC0, hC1, m1, m2, m3, m4, m5, ha, hj, hgk, hl, hset, hLl, encL, encC, k20]
            done
        · obtain ⟨q22, hq⟩ := g0
          rcases hq with q29 | ⟨u, v, q29, q46⟩
          · simp only [cellsB, cellsT, cellsR, hC] at q42 q22 q29 ⊢
            simp [c10, argFr, q42, q22, q29, hz, hw1, hw3, hw4, hw5, hw6, hne, hC0, hC1, m1, m2, m3, m4, m5, ha, hj, hgk, hl, encL, encC, k20]
            done
          · simp only [cellsB, cellsT, cellsR, hC] at q42 q22 q29 q46 ⊢
            simp [c10, argFr, q42, q22, q29, q46, hz, hw1, hw3, hw4, hw5, hw6, hne, hC0, hC1, m1, m2, m3, m4, m5, ha, hj, hgk, hl, encL, encC, k20]
            done
      · by_cases hl : b.lines[j].c < 0
        · obtain ⟨q22, hq⟩ := read_facts hf hj (gc hl) hk
          have hset : (b.lines.map encL).set j [i b.lines[j].k, i (wC : Int), i b.lines[j].t] = (b.lines.set j ⟨b.lines[j].k, (wC : Int), b.lines[j].t⟩).map encL := by rw [List.map_set]; rfl
          have hLl : (b.lines.set j ⟨b.lines[j].k, (wC : Int), b.lines[j].t⟩).length = b.lines.length := List.length_set
          unfold setL at q22 hq
          generalize b.lines.set j ⟨b.lines[j].k, (wC : Int), b.lines[j].t⟩ = L' at hset hLl q22 hq
          rcases hq with q29 | ⟨u, v, q29, q46⟩
          · simp only [cellsB, cellsT, cellsR, hC] at q42 q22 q29 ⊢
            simp [c10, argFr, q42, q22, q29, hz, hw1, hw3, hw4, hw5, hw6, hne, hC0, hC1, m1, m2, m3, m4, m5, ha, hj, hgk, hl, hset, hLl, encL, encC, k20]
            done
          · simp only [cellsB, cellsT, cellsR, hC] at q42 q22 q29 q46 ⊢
            simp [c10, argFr, q42, q22, q29, q46, hz, hw1, hw3, hw4, hw5, hw6, hne, hC0, hC1, m1, m2, m3, m4, m5, ha, hj, hgk, hl, hset, hLl, encL, encC, k20]
            done
        · obtain ⟨q22, hq⟩ := g0
          rcases hq with q29 | ⟨u, v, q29, q46⟩
          · simp only [cellsB, cellsT, cellsR, hC] at q42 q22 q29 ⊢
            simp [c10, argFr, q42, q22, q29, hz, hw1, hw3, hw4, hw5, hw6, hne, hC0, hC1, m1, m2, m3, m4, m5, ha, hj, hgk, hl, encL, encC, k20]
            done
          · simp only [cellsB, cellsT, cellsR, hC] at q42 q22 q29 q46 ⊢
            simp [c10, argFr, q42, q22, q29, q46, hz, hw1, hw3, hw4, hw5, hw6, hne, hC0, hC1, m1, m2, m3, m4, m5, ha, hj, hgk, hl, encL, encC, k20]
            done
      · by_cases hl : b.lines[j].t < 0
        · obtain ⟨q22, hq⟩ := read_facts hf hj (gt hl) hk
          have hset : (b.lines.map encL).set j [i b.lines[j].k, i b.lines[j].c, i (wC : Int)] = (b.lines.set j ⟨b.lines[j].k, b.lines[j].c, (wC : Int)⟩).map encL := by rw [List.map_set]; rfl
          have hLl : (b.lines.set j ⟨b.lines[j].k, b.lines[j].c, (wC : Int)⟩).length = b.lines.length := List.length_set
          unfold setL at q22 hq
          generalize b.lines.set j ⟨b.lines[j].k, b.lines[j].c, (wC : Int)⟩ = L' at hset hLl q22 hq
          rcases hq with q29 | ⟨u, v, q29, q46⟩
          · simp only [cellsB, cellsT, cellsR, hC] at q42 q22 q29 ⊢
            simp [c10, argFr, q42, q22, q29, hz, hw1, hw3, hw4, hw5, hw6, hne, hC0, hC1, m1, m2, m3, m4, m5, ha, hj, hgk, hl, hset, hLl, encL, encC, k20]
            done
          · simp only [cellsB, cellsT, cellsR, hC] at q42 q22 q29 q46 ⊢
            simp [c10, argFr, q42, q22, q29, q46, hz, hw1, hw3, hw4, hw5, hw6, hne, hC0, hC1, m1, m2, m3, m4, m5, ha, hj, hgk, hl, hset, hLl, encL, encC, k20]
            done
        · obtain ⟨q22, hq⟩ := g0
          rcases hq with q29 | ⟨u, v, q29, q46⟩
          · simp only [cellsB, cellsT, cellsR, hC] at q42 q22 q29 ⊢
            simp [c10, argFr, q42, q22, q29, hz, hw1, hw3, hw4, hw5, hw6, hne, hC0, hC1, m1, m2, m3, m4, m5, ha, hj, hgk, hl, encL, encC, k20]
            done
          · simp only [cellsB, cellsT, cellsR, hC] at q42 q22 q29 q46 ⊢
            simp [c10, argFr, q42, q22, q29, q46, hz, hw1, hw3, hw4, hw5, hw6, hne, hC0, hC1, m1, m2, m3, m4, m5, ha, hj, hgk, hl, encL, encC, k20]
            done
end Go.Proofs.Try.Op
