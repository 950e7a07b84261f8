/- The walk of WindHours. No condition. -/
import Derived.Test.YtkemmiljbaneoaaX1
import Derived.Test.YtkemmiljbaneoaaFz
open Go Go.Pg Go.Proofs Go.Wind
namespace Go.Proofs.Try.Op
set_option maxRecDepth 100000
set_option linter.unusedSimpArgs false
theorem kBetween (n : Nat) (a b : Int) : callK Try.prog kn (execA Try.prog ann kn (n+50)) 17 [i a, i b] = some (.agg [i a, i b]) := by
  rw [callK_of rfl, call0_eq Try.func17 b17 rfl (by simp)]
  simp [c17, argFr]
theorem hour_plan {b : Beach} (_ : Valid b) {p : List (List Int)} (hp : PlanOf b p) {h : Nat} (hh : h < p.length) : isPlanB (hourB b h) [p.getD h []] = true := by
  have h1 := hp.row h hh
  simp only [isPlanB, List.all_cons, List.all_nil, Bool.and_true, Bool.and_eq_true, decide_eq_true_eq]
  refine ⟨⟨h1, ?_⟩, rfl⟩
  simp only [dirsB, List.all_eq_true]
  intro x hx
  obtain ⟨r, hr, rfl⟩ := List.getElem_of_mem hx
  have := hp.dir h r hh hr
  unfold planAt at this
  have e : (p.getD h []).getD r 0 = (p.getD h [])[r] := by
    generalize p.getD h [] = l at hr ⊢
    rw [List.getD_eq_getElem?_getD, List.getElem?_eq_getElem hr]; rfl
  rwa [e] at this
theorem hour_V {b : Beach} (hb : Valid b) {p : List (List Int)} (hp : PlanOf b p) {h : Nat} (hh : h < b.winds.length) : totalV (hourB b h) [p.getD h []] = (goodR (noNotes b) (windsA (noNotes b)) h (planAt p h), 0) := by
  have hpl := hp.len
  have hwi := hb.wi
  have hv := hourB_valid hb hh
  have ht := dfs_free hv rfl
  have ht2 := dfs_free (noNotes_valid hb) rfl
  rw [totalV_ok hv (hour_plan hb hp (by omega)) ht, hour_total (asked_dfs (noNotes_valid hb) ht2) (asked_dfs hv ht) hh]
theorem li_one (x : Int) : li [x] = .list false [[.int .i64 x]] := rfl
theorem lli_one (w : List Int) : lli [w] = .list false [[.list false (w.map encI)]] := rfl
theorem lHours9L (b : Beach) (hb : Valid b) (p : List (List Int)) (hp : PlanOf b p) (e8 : Int) (X7 : Res) : ∀ (d h c : Nat) (M : Level), h + d = b.winds.length → 3 ≤ c → (M = [] ∨ ∃ γ X, M = [(12, γ, X)]) → ∃ c' M', ∀ n k, d < k → loopA (execA Try.prog ann kn (n+6500) 89) lb3_9 (ann 89 (fstR lb3_9)) k ⟨c, [(2, true, .ptr 0 2 0 0), (5, true, .ptr 0 5 1 0), (6, true, lli p), (7, true, .ptr 0 7 2 0), (8, true, i e8), (9, true, i (totU (noNotes b) (windsA (noNotes b)) p h).1), (10, true, i (totU (noNotes b) (windsA (noNotes b)) p h).2), (11, true, i h)], ⟨[], [(2, 0, .box (cellsB b)), (5, 1, .box [i b.last, i b.rows, i b.places, i b.reach, li b.face, li b.sun, lli b.winds, .list false (b.breaks.map encP), .nil]), (7, 2, X7)] ++ M⟩⟩ =
    some (.exit 0, ⟨c', [(35, true, .bool false), (34, true, i b.last), (33, true, .ptr 0 2 0 0), (32, true, i b.winds.length), (2, true, .ptr 0 2 0 0), (5, true, .ptr 0 5 1 0), (6, true, lli p), (7, true, .ptr 0 7 2 0), (8, true, i e8), (9, true, i (totU (noNotes b) (windsA (noNotes b)) p b.winds.length).1), (10, true, i (totU (noNotes b) (windsA (noNotes b)) p b.winds.length).2), (11, true, i b.winds.length)], ⟨[], [(2, 0, .box (cellsB b)), (5, 1, .box [i b.last, i b.rows, i b.places, i b.reach, li b.face, li b.sun, lli b.winds, .list false (b.breaks.map encP), .nil]), (7, 2, X7)] ++ M'⟩⟩)
  | 0, h, c, M, hd, hc, hM => by
    have hla := hb.la
    have hwi := hb.wi
    have : h = b.winds.length := by omega
    subst this
    have hlt : ¬ (b.last + 1 ≤ b.last) := by omega
    have hlt2 : ¬ ((b.winds.length : Int) ≤ b.last) := by omega
    rcases hM with rfl | ⟨γ, X, rfl⟩
    · refine ⟨c, [], fun n k hk => ?_⟩
      obtain ⟨k, rfl⟩ : ∃ k', k = k' + 1 := ⟨k - 1, by omega⟩
      rw [loopA_succ]
      simp [cellsB, hlt2]
    · refine ⟨c, [(12, γ, X)], fun n k hk => ?_⟩
      obtain ⟨k, rfl⟩ : ∃ k', k = k' + 1 := ⟨k - 1, by omega⟩
      rw [loopA_succ]
      simp [cellsB, hlt2]
  | d + 1, h, c, M, hd, hc, hM => by
    have hh : h < b.winds.length := by omega
    have hla := hb.la
    have hwi := hb.wi
    have hsu := hb.su
    have hpl := hp.len
    have hwh := wrapS (k := h) (by omega)
    have hh1 : (h : Int) ≤ b.last := by omega
    have hs : h < b.sun.length := by omega
    have hph : h < p.length := by omega
    have qB := fun n => kBeachX n (hourB_valid hb hh)
    have hwl := hb.wl _ (List.getElem_mem hh)
    have qw := fun n => kList n b.winds[h] (by omega)
    have hpe : p.getD h [] = p[h] := by rw [List.getD_eq_getElem?_getD, List.getElem?_eq_getElem hph]; rfl
    have hrow := hp.row h hph
    have hro := hb.ro
    rw [hpe] at hrow
    have qp := fun n => kList n p[h] (by omega)
    have qT := fun n => kTotal n (hourB b h) (hourB_valid hb hh).w40 [p.getD h []]
    rw [hour_V hb hp hh, hpe] at qT
    have hle := goodR_le (noNotes_valid hb) (windsA (noNotes b)) h (planAt p h)
    have htu := totU_le (noNotes_valid hb) (windsA (noNotes b)) p (n := h) (by omega)
    have e1 : totU (noNotes b) (windsA (noNotes b)) p (h + 1) = ((totU (noNotes b) (windsA (noNotes b)) p h).1 + (goodR (noNotes b) (windsA (noNotes b)) h (planAt p h)).1, (totU (noNotes b) (windsA (noNotes b)) p h).2 + (goodR (noNotes b) (windsA (noNotes b)) h (planAt p h)).2) := rfl
    obtain ⟨c', M', ih⟩ := lHours9L b hb p hp e8 X7 d (h + 1) (c + 2) [(12, c, .box [i 0, i b.rows, i b.places, i b.reach, li b.face, .list true [[i b.sun[h]]], .list true [[li b.winds[h]]], .list false (b.breaks.map encP), .nil])] (by omega) (by omega) (.inr ⟨_, _, rfl⟩)
    refine ⟨c', M', fun n k hk => ?_⟩
    obtain ⟨k, rfl⟩ : ∃ k', k = k' + 1 := ⟨k - 1, by omega⟩
    have ih := ih n k (by omega)
    rw [e1] at ih
    generalize totU (noNotes b) (windsA (noNotes b)) p b.winds.length = TT at ih ⊢
    generalize totU (noNotes b) (windsA (noNotes b)) p h = T at ih htu ⊢
    generalize goodR (noNotes b) (windsA (noNotes b)) h (planAt p h) = G at ih hle qT
    have w1 : IntKind.i64.wrap (T.1 + G.1) = T.1 + G.1 := wrap_i64 (by omega) (by omega)
    have w2 : IntKind.i64.wrap (T.2 + G.2) = T.2 + G.2 := wrap_i64 (by omega) (by omega)
    have hwd : b.winds.getD h [] = b.winds[h] := by rw [List.getD_eq_getElem?_getD, List.getElem?_eq_getElem hh]; rfl
    have hsd : b.sun.getD h 0 = b.sun[h] := by rw [List.getD_eq_getElem?_getD, List.getElem?_eq_getElem hs]; rfl
    rw [loopA_succ]
    simp only [cellsB, cellsR, encR, hourB, hwd, hsd, List.map_nil, List.map_cons, li_one, lli_one] at qB qT ih ⊢
    simp at ih
    rcases hM with rfl | ⟨γ, X, rfl⟩
    · simp [hh1, hwh, hs, hh, hph, encI, encL, encP, qB, qT, qw, qp, w1, w2, put_eqX, ih]
    · simp [hh1, hwh, hs, hh, hph, encI, encL, encP, qB, qT, qw, qp, w1, w2, put_eqX, ih]
set_option maxHeartbeats 4000000 in
theorem kHoursL (n : Nat) (b : Beach) (_ : okB b) (ws : List Nat) (hws : ∀ w ∈ ws, w ≤ 65535) : call0 Try.prog (execA Try.prog ann kn (n+7000)) 3 [.agg (cellsB b), .list false (ws.map encW)] = some (.bool true) := by
  rw [call0_eq Try.func3 b3 rfl (by simp [cellsB, encI, encL, encP, encW])]
  have qr := fun n => kReady n b
  cases hR : readyB b with
  | false =>
    rw [hR] at qr
    simp only [cellsB] at qr ⊢
    simp [c3, argFr, qr, encI, encL, encP, encW, kAwakeX]
  | true =>
    rw [hR] at qr
    obtain ⟨hb, _⟩ := ready_of hR
    have hla := hb.la
    have hwi := hb.wi
    have hp := planW_ok hb ws
    have hpo := plan_of hp
    have hpl := hpo.len
    have qp := fun n => kPlan n b hb ws hws
    have hx := noNotes_valid hb
    have qB := fun n => kBeachX n hx
    have qli := fun n => kListsX n hb hpo
    have qT := fun n => kTotal n (noNotes b) hx.w40 (planOfW b ws)
    rw [totalV_ok hx (plan := planOfW b ws) hp (dfs_free hx rfl)] at qT
    have e : totalP (noNotes b) (windsA (noNotes b)) (planOfW b ws) = totU (noNotes b) (windsA (noNotes b)) (planOfW b ws) b.winds.length := by
      rw [show b.winds.length = (planOfW b ws).length by omega]; rfl
    rw [e] at qT
    have htu := totU_le hx (windsA (noNotes b)) (planOfW b ws) (n := b.winds.length) (by have := hb.hl; omega)
    obtain ⟨c', M', q⟩ := lHours9L b hb (planOfW b ws) hpo 0 (.box (encR (totU (noNotes b) (windsA (noNotes b)) (planOfW b ws) b.winds.length))) b.winds.length 0 3 [] (by omega) (by omega) (.inl rfl)
    have e0 : totU (noNotes b) (windsA (noNotes b)) (planOfW b ws) 0 = (0, 0) := rfl
    rw [e0] at q
    have q := fun n k => q n (k + 100) (by have := hb.hl; omega)
    generalize totU (noNotes b) (windsA (noNotes b)) (planOfW b ws) b.winds.length = T at *
    have hq := eqR T.1 T.2 T.1 T.2 (okI_small (by omega)) (okI_small (by omega)) (okI_small (by omega)) (okI_small (by omega))
    have qb := fun n => kBetween n T.1 T.2
    generalize planOfW b ws = P at *
    simp only [cellsB, cellsR, encR, noNotes, List.map_nil] at qr qp qB qT q ⊢
    simp at q
    simp [c3, argFr, encI, encL, encP, encW, qr, qp, qB, qli, qT, qb, put_eqX, q, hq, kAwakeX]
end Go.Proofs.Try.Op
