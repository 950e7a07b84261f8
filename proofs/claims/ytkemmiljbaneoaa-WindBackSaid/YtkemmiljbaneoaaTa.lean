/- The walk of WindBack. No condition. -/
import Derived.Test.YtkemmiljbaneoaaW1
import Derived.Test.YtkemmiljbaneoaaW4
import Derived.Test.YtkemmiljbaneoaaW3
import Derived.Test.YtkemmiljbaneoaaL
import Derived.Test.YtkemmiljbaneoaaFz
open Go Go.Pg Go.Proofs Go.Wind
namespace Go.Proofs.Try.Op
set_option maxRecDepth 100000
set_option linter.unusedSimpArgs false
theorem lBack17 (b : Beach) (hb : Valid b) (p : List (List Int)) (hp : PlanOf b p) (t : List Int) (ht : listedGo t b.winds = true) (r : Nat) (hr : (r : Int) < b.rows) (X7 X8 : Res) (v11 v13 v15 : V) (γ : Nat) : ∀ (d h c : Nat), h + d = (b.last + 1).toNat → γ < c → ∀ n m, d < m → loopA (execA Try.prog ann kn (n+400) 197) lb5_17 (ann 197 (fstR lb5_17)) m ⟨c, [(3, true, .ptr 0 3 0 0), (9, true, li t), (10, true, lli p), (11, true, v11), (13, true, v13), (15, true, v15), (17, true, i r), (18, true, .ptr 0 18 γ 0), (19, true, i h)], ⟨[], [(3, 0, .box (cellsB b)), (7, 1, X7), (8, 2, X8), (18, γ, .box (encH (dueH b p t r h)))]⟩⟩ =
    some (.exit 2, ⟨c, [(109, true, .bool false), (108, true, i b.last), (107, true, .ptr 0 3 0 0), (106, true, i (b.last + 1)), (3, true, .ptr 0 3 0 0), (9, true, li t), (10, true, lli p), (11, true, v11), (13, true, v13), (15, true, v15), (17, true, i r), (18, true, .ptr 0 18 γ 0), (19, true, i (b.last + 1))], ⟨[], [(3, 0, .box (cellsB b)), (7, 1, X7), (8, 2, X8), (18, γ, .box (encH (dueH b p t r (b.last + 1).toNat)))]⟩⟩)
  | 0, h, c, hd, hγ, n, m + 1, hm => by
    have hla := hb.la
    have : h = (b.last + 1).toNat := by omega
    have h2 : (h : Int) = b.last + 1 := by omega
    rw [← this, loopA_succ]
    have h3 : ¬ (b.last + 1 ≤ b.last) := by omega
    simp [cellsB, h2, encH, h3]
  | d + 1, h, c, hd, hγ, n, m + 1, hm => by
    have hla := hb.la
    have hlw := listed_len ht
    have hwi := hb.wi
    have hsu := hb.su
    have hpn := hp.len
    have hw := wrapS (k := h) (by omega)
    have hd' : (h : Int) ≤ b.last := by omega
    have hh : h < p.length := by omega
    have ht' : h < t.length := by omega
    have hs' : h < b.sun.length := by omega
    have hpe : p.getD h [] = p[h] := by rw [List.getD_eq_getElem?_getD, List.getElem?_eq_getElem hh]; rfl
    have hr2 : r < p[h].length := by have := hp.row h hh; rw [hpe] at this; omega
    have hx : planAt p h r = p[h][r] := by unfold planAt; rw [hpe, List.getD_eq_getElem?_getD, List.getElem?_eq_getElem hr2]; rfl
    have htd : t.getD h 0 = t[h] := by rw [List.getD_eq_getElem?_getD, List.getElem?_eq_getElem ht']; rfl
    have hsd : b.sun.getD h 0 = b.sun[h] := by rw [List.getD_eq_getElem?_getD, List.getElem?_eq_getElem hs']; rfl
    have hdir := hp.dir h r hh (by rw [hpe]; exact hr2)
    rw [hx, inI_iff] at hdir
    have ih := lBack17 b hb p hp t ht r hr X7 X8 v11 v13 v15 γ d (h + 1) c (by omega) hγ n m (by omega)
    have b1 := hrs_le (backAt p t r) (litB b p r) h
    have hlit : litB b p r h = decide (p[h][r] = b.sun[h]) := by unfold litB; rw [hx, hsd]
    have hbk : backAt p t r h = decide ((p[h][r] + 2) % 4 = t[h]) := by unfold backAt; rw [hx, htd]
    have hdue : dueH b p t r (h + 1) = ⟨(dueH b p t r h).sun + (if litB b p r h = true then 1 else 0), (dueH b p t r h).calm + (if backAt p t r h = true then 1 else 0), (dueH b p t r h).good + (if (litB b p r h && backAt p t r h) = true then 1 else 0)⟩ := by
      simp only [dueH, hoursB, cnt]
      have g : ∀ (f : Nat → Bool), ((cnt f h + if f h = true then 1 else 0 : Nat) : Int) = ((cnt f h : Nat) : Int) + (if f h = true then 1 else 0) := fun f => by
        split <;> simp
      rw [g, g, g (fun h => litB b p r h && backAt p t r h)]
    have hwp : IntKind.i64.wrap (p[h][r] + 2) = p[h][r] + 2 := wrap_i64 (by omega) (by omega)
    have hm4 : (p[h][r] + 2).tmod 4 = (p[h][r] + 2) % 4 := Int.tmod_eq_emod_of_nonneg (by omega)
    change 0 ≤ (dueH b p t r h).sun ∧ (dueH b p t r h).sun ≤ h ∧ 0 ≤ (dueH b p t r h).calm ∧ (dueH b p t r h).calm ≤ h ∧ 0 ≤ (dueH b p t r h).good ∧ (dueH b p t r h).good ≤ h at b1
    have w1 : IntKind.i64.wrap ((dueH b p t r h).sun + 1) = (dueH b p t r h).sun + 1 := wrap_i64 (by omega) (by omega)
    have w2 : IntKind.i64.wrap ((dueH b p t r h).calm + 1) = (dueH b p t r h).calm + 1 := wrap_i64 (by omega) (by omega)
    have w3 : IntKind.i64.wrap ((dueH b p t r h).good + 1) = (dueH b p t r h).good + 1 := wrap_i64 (by omega) (by omega)
    rw [hdue, hlit, hbk] at ih
    generalize dueH b p t r (b.last + 1).toNat = FF at ih ⊢
    generalize dueH b p t r h = D at *
    generalize e1 : decide (p[h][r] = b.sun[h]) = z1 at ih
    generalize e2 : decide ((p[h][r] + 2) % 4 = t[h]) = z2 at ih
    rw [loopA_succ]
    simp only [cellsB] at ih ⊢
    cases z1 <;> cases z2 <;> (simp [encH] at ih; simp [hd', hw, hh, ht', hs', hr2, encL, encI, encH, e1, e2, hwp, hm4, w1, w2, w3, hγ, put_eq, plK, ih])
theorem lBack27 (b : Beach) (hb : Valid b) (p : List (List Int)) (t : List Int) (r : Nat) (X7 X8 : Res) (K L M : List (List Hrs)) (Kr Lr Mr : List Hrs) (hK : K[r]? = some Kr) (hL : L[r]? = some Lr) (hM : M[r]? = some Mr) (due : Hrs) (hK2 : ∀ (q : Nat) (x : Hrs), Kr[q]? = some x → due.calm ≤ x.calm) (hL2 : ∀ (q : Nat) (x : Hrs), Lr[q]? = some x → x = due) (hM2 : ∀ (q : Nat) (x : Hrs), Mr[q]? = some x → x = due) (hKl : (Kr.length : Int) = b.places) (hLl : (Lr.length : Int) = b.places) (hMl : (Mr.length : Int) = b.places) (hdue : 0 ≤ due.sun ∧ due.sun ≤ 100 ∧ 0 ≤ due.calm ∧ due.calm ≤ 100 ∧ 0 ≤ due.good ∧ due.good ≤ 100) (γ c : Nat) : ∀ (d q : Nat), q + d = b.places.toNat → ∀ n m, d < m → loopA (execA Try.prog ann kn (n+400) 197) lb5_27 (ann 197 (fstR lb5_27)) m ⟨c, [(3, true, .ptr 0 3 0 0), (9, true, li t), (10, true, lli p), (11, true, .list false (K.map encHs)), (13, true, .list false (L.map encHs)), (15, true, .list false (M.map encHs)), (17, true, i r), (18, true, .ptr 0 18 γ 0), (22, true, i q)], ⟨[], [(3, 0, .box (cellsB b)), (7, 1, X7), (8, 2, X8), (18, γ, .box (encH due))]⟩⟩ =
    some (.exit 4, ⟨c, [(160, true, .bool false), (159, true, i b.places), (158, true, .ptr 0 3 0 2), (157, true, i b.places), (3, true, .ptr 0 3 0 0), (9, true, li t), (10, true, lli p), (11, true, .list false (K.map encHs)), (13, true, .list false (L.map encHs)), (15, true, .list false (M.map encHs)), (17, true, i r), (18, true, .ptr 0 18 γ 0), (22, true, i b.places)], ⟨[], [(3, 0, .box (cellsB b)), (7, 1, X7), (8, 2, X8), (18, γ, .box (encH due))]⟩⟩)
  | 0, q, hd, n, m + 1, hm => by
    have hpc := hb.pl
    have : (q : Int) = b.places := by omega
    rw [loopA_succ]
    simp [cellsB, this, encH]
  | d + 1, q, hd, n, m + 1, hm => by
    have hpc := hb.pl
    have hw := wrapS (k := q) (by omega)
    have hq : (q : Int) < b.places := by omega
    have hKq : q < Kr.length := by omega
    have hLq : q < Lr.length := by omega
    have hMq : q < Mr.length := by omega
    have k2 := hK2 q Kr[q] (List.getElem?_eq_getElem hKq)
    have l2 := hL2 q Lr[q] (List.getElem?_eq_getElem hLq)
    have m2 := hM2 q Mr[q] (List.getElem?_eq_getElem hMq)
    have k3 : ¬ Kr[q].calm < due.calm := by omega
    have ih := lBack27 b hb p t r X7 X8 K L M Kr Lr Mr hK hL hM due hK2 hL2 hM2 hKl hLl hMl hdue γ c d (q + 1) (by omega) n m (by omega)
    obtain ⟨hK1, hKe⟩ := List.getElem?_eq_some_iff.1 hK
    obtain ⟨hL1, hLe⟩ := List.getElem?_eq_some_iff.1 hL
    obtain ⟨hM1, hMe⟩ := List.getElem?_eq_some_iff.1 hM
    have he := eqH due.sun due.calm due.good due.sun due.calm due.good ⟨by omega, by omega⟩ ⟨by omega, by omega⟩ ⟨by omega, by omega⟩ ⟨by omega, by omega⟩ ⟨by omega, by omega⟩ ⟨by omega, by omega⟩
    simp only [decide_true, Bool.and_true] at he
    rw [loopA_succ]
    simp only [cellsB] at ih ⊢
    simp [encH, encHs] at ih
    simp [hq, hw, hK1, hL1, hM1, hKe, hLe, hMe, hKq, hLq, hMq, l2, m2, k3, encL, encI, encH, encHs, plK, he, ih]
theorem sl_ne {α : Type} {f : α → List V} {l : List α} (h : l ≠ []) : sl (l.map f) = .list false (l.map f) := by
  cases l with
  | nil => exact absurd rfl h
  | cons x l => rfl
theorem kAwake (n : Nat) (d : Option Tmp) (st : XS) : ca2 (envA Try.prog ann kn n) d st 11 [] = valI d st (some (.bool true)) := by
  rw [ca2_closed d rfl]; rfl
theorem playP_get {b : Beach} {p : List (List Int)} {t : List Int} {R r : Nat} (h : r < R) : (playP b p t R)[r]? = some (rowP b p t r) := by simp [playP, h]
theorem rowP_get {b : Beach} {p : List (List Int)} {t : List Int} {r q : Nat} {x : Hrs} (h : (rowP b p t r)[q]? = some x) : x = hoursP b p t r q := by
  simp only [rowP, List.getElem?_map, Option.map_eq_some_iff] at h
  obtain ⟨j, h1, rfl⟩ := h
  rw [List.getElem?_range] at h1
  · cases h1; rfl
  · by_cases hq : q < b.places.toNat
    · exact hq
    · rw [List.getElem?_eq_none (by simp; omega)] at h1; cases h1
theorem rowP_len (b : Beach) (p : List (List Int)) (t : List Int) (r : Nat) : (rowP b p t r).length = b.places.toNat := by simp [rowP]
theorem lBack13 (b : Beach) (hb : Valid b) (p : List (List Int)) (hp : PlanOf b p) (t : List Int) (ht : listedGo t b.winds = true) (X7 X8 : Res) : ∀ (d r c : Nat), r + d = b.rows.toNat → 2 < c → ∃ (fr : Fr) (c' : Nat), ∀ n m, d < m → loopA (execA Try.prog ann kn (n+600) 197) lb5_13 (ann 197 (fstR lb5_13)) m ⟨c, [(3, true, .ptr 0 3 0 0), (9, true, li t), (10, true, lli p), (11, true, .list false ((playP b p t b.rows.toNat).map encHs)), (13, true, .list false ((playP (noBr b) p t b.rows.toNat).map encHs)), (15, true, .list false ((playP (noRe b) p t b.rows.toNat).map encHs)), (17, true, i r)], ⟨[], [(3, 0, .box (cellsB b)), (7, 1, X7), (8, 2, X8)]⟩⟩ =
    some (.exit 0, ⟨c', fr, ⟨[], [(3, 0, .box (cellsB b)), (7, 1, X7), (8, 2, X8)]⟩⟩)
  | 0, r, c, hd, hc => by
    have hro := hb.ro
    have : b.rows = (r : Int) := by omega
    refine ⟨?fr, c, fun n m hm => ?g2⟩
    case g2 =>
      obtain ⟨m, rfl⟩ : ∃ m', m = m' + 1 := ⟨m - 1, by omega⟩
      rw [loopA_succ]
      simp [cellsB, this]
      rfl
  | d + 1, r, c, hd, hc => by
    have hro := hb.ro
    have hla := hb.la
    have hpc := hb.pl
    have hlw := listed_len ht
    have hwi := hb.wi
    have hw := wrapS (k := r) (by omega)
    have hr : (r : Int) < b.rows := by omega
    have hr2 : r < b.rows.toNat := by omega
    have hlast : (b.last + 1).toNat = t.length := by omega
    have b1 := hrs_le (backAt p t r) (litB b p r) t.length
    change 0 ≤ (dueH b p t r t.length).sun ∧ (dueH b p t r t.length).sun ≤ t.length ∧ 0 ≤ (dueH b p t r t.length).calm ∧ (dueH b p t r t.length).calm ≤ t.length ∧ 0 ≤ (dueH b p t r t.length).good ∧ (dueH b p t r t.length).good ≤ t.length at b1
    have q1 := lBack17 b hb p hp t ht r hr X7 X8 (.list false ((playP b p t b.rows.toNat).map encHs)) (.list false ((playP (noBr b) p t b.rows.toNat).map encHs)) (.list false ((playP (noRe b) p t b.rows.toNat).map encHs)) c (b.last + 1).toNat 0 (c + 1) (by omega) (by omega)
    have q1 := fun n m => q1 n (m + 100) (by omega)
    rw [hlast] at q1
    have q2 := lBack27 b hb p t r X7 X8 (playP b p t b.rows.toNat) (playP (noBr b) p t b.rows.toNat) (playP (noRe b) p t b.rows.toNat) (rowP b p t r) (rowP (noBr b) p t r) (rowP (noRe b) p t r) (playP_get hr2) (playP_get hr2) (playP_get hr2) (dueH b p t r t.length)
      (fun q x hx => by rw [rowP_get hx]; exact due_le hb hp ht hr q)
      (fun q x hx => by rw [rowP_get hx]; exact due_eq (b := b) (noBr_valid hb) rfl rfl rfl rfl (noBr_broken b) hp ht hr q)
      (fun q x hx => by rw [rowP_get hx]; exact due_eq (b := b) (noRe_valid hb) rfl rfl rfl rfl (noRe_broken b) hp ht hr q)
      (by rw [rowP_len]; omega) (by rw [rowP_len]; show ((b.places.toNat : Nat) : Int) = b.places; omega) (by rw [rowP_len]; show ((b.places.toNat : Nat) : Int) = b.places; omega) (by omega) c (c + 1) b.places.toNat 0 (by omega)
    have q2 := fun n m => q2 n (m + 100) (by omega)
    obtain ⟨fr, c', ih⟩ := lBack13 b hb p hp t ht X7 X8 d (r + 1) (c + 1) (by omega) (by omega)
    refine ⟨fr, c', fun n m hm => ?_⟩
    obtain ⟨m, rfl⟩ : ∃ m', m = m' + 1 := ⟨m - 1, by omega⟩
    have ih := ih n m (by omega)
    have h0 : dueH b p t r 0 = ⟨0, 0, 0⟩ := rfl
    rw [h0] at q1
    generalize (playP b p t b.rows.toNat).map encHs = KK at *
    generalize (playP (noBr b) p t b.rows.toNat).map encHs = LL at *
    generalize (playP (noRe b) p t b.rows.toNat).map encHs = MM at *
    generalize dueH b p t r t.length = D at *
    rw [loopA_succ]
    simp only [cellsB] at q1 q2 ih ⊢
    simp [encH] at q1 q2 ih
    simp [hr, hw, put_eq, encH, q1, q2, ih]
theorem valid_lens {b : Beach} (hb : Valid b) : b.face.length ≤ 100 ∧ b.sun.length ≤ 100 ∧ b.winds.length ≤ 100 ∧ (∀ l ∈ b.winds, l.length ≤ 100) ∧ b.breaks.length ≤ 100 ∧ b.notes.length ≤ 100 := by
  have h1 := hb.la
  have h2 := hb.ro
  have h3 := hb.br
  have h4 := hb.no
  have h5 := hb.fa
  have h6 := hb.su
  have h7 := hb.hl
  exact ⟨by omega, by omega, by omega, fun l hl => by have := hb.wl l hl; omega, by omega, by omega⟩
theorem kBeachV (n : Nat) {b : Beach} (hb : Valid b) : callK Try.prog kn (execA Try.prog ann kn (n+600)) 14 [.agg (cellsB b)] = some (.agg (cellsR b)) := by
  obtain ⟨h1, h2, h3, h4, h5, h6⟩ := valid_lens hb
  exact kBeach n b h1 h2 h3 h4 h5 h6
theorem playV_ok {b : Beach} (hb : Valid b) {p : List (List Int)} (hp : isPlanB b p = true) {t : List Int} (ht : listedGo t b.winds = true) : playV b p t = (playP b p t b.rows.toNat, 0) := by
  unfold playV
  rw [if_neg (by simp [fault_of hb]), if_pos ⟨hp, ht⟩]
theorem shaped_play {b x : Beach} (hb : Valid b) (e1 : x.places = b.places) (p : List (List Int)) (t : List Int) : shapedB b (playP x p t b.rows.toNat) = true := by
  have := hb.ro
  have := hb.pl
  simp only [shapedB, Bool.and_eq_true, List.all_eq_true, decide_eq_true_eq]
  refine ⟨fun l hl => ?_, by simp [playP]; omega⟩
  simp only [playP, List.mem_map] at hl
  obtain ⟨r, _, rfl⟩ := hl
  rw [rowP_len, e1]
  omega
set_option maxHeartbeats 4000000 in
theorem kBack (n : Nat) (b : Beach) (_ : okB b) (w : Nat) (hw : w ≤ 65535) (ws : List Nat) (hws : ∀ w ∈ ws, w ≤ 65535) : call0 Try.prog (execA Try.prog ann kn (n+3000)) 5 [.agg (cellsB b), .int .u16 w, .list false (ws.map encW)] = some (.bool true) := by
  rw [call0_eq Try.func5 b5 rfl (by simp [cellsB, encI, encL, encP, encW])]
  have qr := fun n => kReady n b
  cases hR : readyB b with
  | false =>
    rw [hR] at qr
    simp only [cellsB] at qr ⊢
    simp [c5, argFr, qr, encI, encL, encP, encW, kAwake]
  | true =>
    rw [hR] at qr
    obtain ⟨hb, hm80⟩ := ready_of hR
    have hmp := many_pos (fun l hl => hb.ne l hl)
    have hm : (w : Int).tmod (manyN b.winds : Int) = ((w % manyN b.winds : Nat) : Int) := (Int.ofNat_tmod _ _).symm
    have hml := Nat.mod_lt w hmp
    have hmz : ¬ ((manyN b.winds : Int) = 0) := by omega
    have ht := nth_listed (fun l hl => hb.ne l hl) (w % manyN b.winds)
    have hp := planW_ok hb ws
    have hlw := listed_len ht
    have hwi := hb.wi
    have hla := hb.la
    have hro := hb.ro
    have qm := fun n => kMany n b hb
    have qn := fun n => kNth n b hb (w % manyN b.winds) (by omega)
    have qp := fun n => kPlan n b hb ws hws
    have qB := fun n => kBeachV n hb
    have qBx := fun n => kBeachV n (noBr_valid hb)
    have qBy := fun n => kBeachV n (noRe_valid hb)
    have hpo := plan_of hp
    have hpl : (planOfW b ws).length ≤ 100 := by have := hpo.len; omega
    have qli := fun n => kLists n (planOfW b ws) hpl (fun l hl => by
      obtain ⟨h, hh, rfl⟩ := List.getElem_of_mem hl
      have := hpo.row h hh
      rw [List.getD_eq_getElem?_getD, List.getElem?_eq_getElem hh] at this
      simp at this
      omega)
    have qt := fun n => kList n (nthGo b.winds (w % manyN b.winds)) (by omega)
    have hne : ∀ x : Beach, playP x (planOfW b ws) (nthGo b.winds (w % manyN b.winds)) b.rows.toNat ≠ [] := fun x e => by
      have := congrArg List.length e
      simp [playP] at this
      omega
    have hnt : nthGo b.winds (w % manyN b.winds) ≠ [] := fun e => by
      rw [e] at hlw; simp at hlw; omega
    have qP : ∀ x : Beach, Valid x → x.winds = b.winds → x.rows = b.rows → x.last = b.last → ∀ n, callK Try.prog kn (execA Try.prog ann kn (n+2200)) 20 [.agg (cellsB x), lli (planOfW b ws), li (nthGo b.winds (w % manyN b.winds))] = some (.tup [.list false ((playP x (planOfW b ws) (nthGo b.winds (w % manyN b.winds)) b.rows.toNat).map encHs), i 0]) := fun x hx e1 e2 e3 n => by
      have := kPlayL n x (fun l hl => by rw [e1] at hl; have := hb.wl l hl; omega) (planOfW b ws) (nthGo b.winds (w % manyN b.winds))
      rw [playV_ok hx (by unfold isPlanB; rw [e2, e3]; exact hp) (by rw [e1]; exact ht), e2, sl_ne (hne x)] at this
      exact this
    have qP1 := qP b hb rfl rfl rfl
    have qPx := qP (noBr b) (noBr_valid hb) rfl rfl rfl
    have qPy := qP (noRe b) (noRe_valid hb) rfl rfl rfl
    rw [sl_ne hnt] at qn
    have qs := fun n => kShaped n b (playP b (planOfW b ws) (nthGo b.winds (w % manyN b.winds)) b.rows.toNat) (by simp [playP]; omega)
    have qsx := fun n => kShaped n b (playP (noBr b) (planOfW b ws) (nthGo b.winds (w % manyN b.winds)) b.rows.toNat) (by simp [playP]; omega)
    have qsy := fun n => kShaped n b (playP (noRe b) (planOfW b ws) (nthGo b.winds (w % manyN b.winds)) b.rows.toNat) (by simp [playP]; omega)
    rw [shaped_play hb rfl] at qs
    rw [shaped_play (x := noBr b) hb rfl] at qsx
    rw [shaped_play (x := noRe b) hb rfl] at qsy
    obtain ⟨fr, c', q13⟩ := lBack13 b hb (planOfW b ws) hpo (nthGo b.winds (w % manyN b.winds)) ht (.box [i b.last, i b.rows, i b.places, i b.reach, li b.face, li b.sun, lli b.winds, .nil, .list false (b.notes.map encP)]) (.box [i b.last, i b.rows, i b.places, i 0, li b.face, li b.sun, lli b.winds, .list false (b.breaks.map encP), .list false (b.notes.map encP)]) b.rows.toNat 0 3 (by omega) (by omega)
    have q13 := fun n m => q13 n (m + 100) (by omega)
    have hwr : IntKind.i64.wrap (w : Int) = (w : Int) := wrap_i64 (by omega) (by omega)
    generalize playP b (planOfW b ws) (nthGo b.winds (w % manyN b.winds)) b.rows.toNat = K at *
    generalize playP (noBr b) (planOfW b ws) (nthGo b.winds (w % manyN b.winds)) b.rows.toNat = L at *
    generalize playP (noRe b) (planOfW b ws) (nthGo b.winds (w % manyN b.winds)) b.rows.toNat = M at *
    generalize planOfW b ws = P at *
    generalize nthGo b.winds (w % manyN b.winds) = T at *
    generalize w % manyN b.winds = k at *
    generalize (manyN b.winds : Int) = mm at *
    simp only [cellsB, cellsR, noBr, noRe, li, List.map_nil] at qr qm qn qp qB qBx qBy qP1 qPx qPy qs qsx qsy q13 ⊢
    simp [encHs, encH] at q13 qs qsx qsy qP1 qPx qPy
    have hc2 : ∀ r, rdsK Try.prog (IK.oth (Op.convert 46 3 (tq 32))) r = [] := fun r => rfl
    simp [c5, hc2, convU, encHs, encH,  argFr, encI, encL, encP, encW, qr, qm, qn, qp, qB, qBx, qBy, qP1, qPx, qPy, qli, qt, qs, qsx, qsy, hm, hmz, hwr, put_eq]
    rw [if_pos (by rfl)]
    simp [q13, kAwake]
end Go.Proofs.Try.Op
