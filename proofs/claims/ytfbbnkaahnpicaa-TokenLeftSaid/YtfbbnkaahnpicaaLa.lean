/- The plain law: the truths that the program goes through are those of the reference. No condition. -/
import Derived.Test.YtfbbnkaahnpicaaT1
open Go Go.Pg Go.Proofs
namespace Go.Proofs.Try.Op
set_option maxRecDepth 100000
set_option linter.unusedSimpArgs false
/-! ### Readings -/
def tri (l : Line) : Int × Int × Int := (l.k, l.c, l.t)
theorem tri_map : ∀ {x y : List Line}, x.map tri = y.map tri → x = y
  | [], [], _ => rfl
  | [], _ :: _, h => by simp at h
  | _ :: _, [], h => by simp at h
  | a :: x, b :: y, h => by
    simp only [List.map_cons, List.cons.injEq] at h
    obtain ⟨h1, h2⟩ := h
    obtain ⟨a1, a2, a3⟩ := a
    obtain ⟨b1, b2, b3⟩ := b
    simp only [tri, Prod.mk.injEq] at h1
    obtain ⟨rfl, rfl, rfl⟩ := h1
    rw [tri_map h2]
def eqOK : Bool := [1, 2, 3, 4].all fun C : Int => [0, 1, 2].all fun k : Int => [-1, 0, 1, 2, 3].all fun c : Int => [-1, 0, 1, 2, 3].all fun t : Int =>
  !(lineOk C ⟨k, c, t⟩) || ((readings C ⟨k, c, t⟩).map tri == (readingsP C ⟨k, c, t⟩).map tri)
theorem eqOK_true : eqOK = true := by decide +kernel
theorem readings_eq {C : Int} (h1 : 1 ≤ C) (h4 : C ≤ 4) {l : Line} (h : lineOk C l = true) : readings C l = readingsP C l := by
  obtain ⟨k, c, t⟩ := l
  obtain ⟨v1, v2, v3⟩ := valL_spec h
  simp only at v1 v2 v3
  have q := List.all_eq_true.1 (List.all_eq_true.1 (List.all_eq_true.1 (List.all_eq_true.1 eqOK_true C (mem4 h1 h4)) k (mem3 v1.1 v1.2)) c (mem5 v2.1 (by omega))) t (mem5 v3.1 (by omega))
  rw [h] at q
  exact tri_map (by simpa using q)
theorem agreesP_iff {C : Int} {l x : Line} : agreesP C l x = true ↔ x ∈ readingsP C l := by
  unfold agreesP
  rw [List.any_eq_true]
  constructor
  · rintro ⟨y, hy, he⟩; rw [eqL_iff] at he; rw [he]; exact hy
  · intro hx; exact ⟨x, hx, eqL_iff.2 rfl⟩
def Rd (C : Int) : List Line → List Line → Prop
  | [], [] => True
  | l :: ls, x :: xs => x ∈ readingsP C l ∧ Rd C ls xs
  | _, _ => False
theorem Rd.len {C : Int} : ∀ {ls xs : List Line}, Rd C ls xs → xs.length = ls.length
  | [], [], _ => rfl
  | [], _ :: _, h => by cases h
  | _ :: _, [], h => by cases h
  | _ :: ls, _ :: xs, h => by simp [Rd.len h.2]
theorem rd_iff {C : Int} (h1 : 1 ≤ C) : ∀ {ls xs : List Line}, (∀ l ∈ ls, lineOk C l = true) → ((xs.length = ls.length ∧ readGo C ls xs = true) ↔ Rd C ls xs)
  | [], [], _ => by simp [Rd, readGo]
  | [], _ :: _, _ => by simp [Rd]
  | _ :: _, [], _ => by simp [Rd]
  | l :: ls, x :: xs, h => by
    have ih := rd_iff h1 (ls := ls) (xs := xs) fun y hy => h y (by simp [hy])
    have ha := agrees_eq h1 (h l (by simp)) x
    simp only [Rd, readGo, List.length_cons, Nat.add_right_cancel_iff, Bool.and_eq_true, ← ha, agreesP_iff, ← ih]
    exact ⟨fun ⟨a, b, c⟩ => ⟨b, a, c⟩, fun ⟨a, b, c⟩ => ⟨b, a, c⟩⟩
theorem isRead_iff {b : Book} (h1 : 1 ≤ b.chairs) (hok : b.lines.all (lineOk b.chairs) = true) {t : List Line} : isReadB b t = true ↔ Rd b.chairs b.lines t := by
  rw [← rd_iff h1 (fun l hl => List.all_eq_true.1 hok l hl)]
  simp [isReadB]
/-! ### Numbers of readings -/
def prodR (C : Int) : List Line → Nat
  | [] => 1
  | l :: r => (readings C l).length * prodR C r
theorem nth_surj {C : Int} (h1 : 1 ≤ C) (h4 : C ≤ 4) : ∀ {ls xs : List Line}, (∀ l ∈ ls, lineOk C l = true) → Rd C ls xs → ∃ n, n < prodR C ls ∧ nthGo C n ls = xs
  | [], [], _, _ => ⟨0, by simp [prodR], rfl⟩
  | [], _ :: _, _, h => by cases h
  | _ :: _, [], _, h => by cases h
  | l :: ls, x :: xs, hl, h => by
    obtain ⟨m, hm, e⟩ := nth_surj h1 h4 (ls := ls) (xs := xs) (fun y hy => hl y (by simp [hy])) h.2
    have hr := readings_eq h1 h4 (hl l (by simp))
    obtain ⟨j, hj, e2⟩ := List.getElem_of_mem h.1
    rw [← hr] at hj
    have hp : 0 < (readings C l).length := by omega
    refine ⟨j + (readings C l).length * m, ?_, ?_⟩
    · simp only [prodR]
      calc j + (readings C l).length * m < (readings C l).length + (readings C l).length * m := by omega
        _ = (readings C l).length * (m + 1) := by rw [Nat.mul_succ]; omega
        _ ≤ _ := Nat.mul_le_mul_left _ hm
    · simp only [nthGo]
      rw [Nat.add_mul_mod_self_left, Nat.mod_eq_of_lt hj, Nat.add_mul_div_left _ _ hp, Nat.div_eq_of_lt hj, Nat.zero_add, e]
      congr 1
      rw [List.getD_eq_getElem?_getD, List.getElem?_eq_getElem hj]
      simp only [Option.getD_some]
      rw [← e2]
      congr 1
theorem nth_rd {C : Int} (h1 : 1 ≤ C) (h4 : C ≤ 4) : ∀ {ls : List Line} (n : Nat), (∀ l ∈ ls, lineOk C l = true) → Rd C ls (nthGo C n ls)
  | [], n, _ => trivial
  | l :: ls, n, h => by
    refine ⟨?_, nth_rd h1 h4 _ fun y hy => h y (by simp [hy])⟩
    have hr := readings_eq h1 h4 (h l (by simp))
    have hp := readings_pos h1 h4 (h l (by simp))
    have hj : n % (readings C l).length < (readings C l).length := Nat.mod_lt _ hp
    rw [← hr, List.getD_eq_getElem?_getD, List.getElem?_eq_getElem hj]
    exact List.getElem_mem hj
theorem prod_pos {C : Int} (h1 : 1 ≤ C) (h4 : C ≤ 4) : ∀ {ls : List Line}, (∀ l ∈ ls, lineOk C l = true) → 1 ≤ prodR C ls
  | [], _ => by simp [prodR]
  | l :: ls, h => by
    have i1 := prod_pos h1 h4 (ls := ls) fun y hy => h y (by simp [hy])
    have i2 := readings_pos h1 h4 (h l (by simp))
    exact Nat.mul_pos i2 i1
theorem many_prod {C : Int} (h1 : 1 ≤ C) (h4 : C ≤ 4) : ∀ {ls : List Line} (v : Nat), (∀ l ∈ ls, lineOk C l = true) → 1 ≤ v → manyGo C v ls ≤ 4096 → manyGo C v ls = ((v * prodR C ls : Nat) : Int)
  | [], v, _, _, _ => by simp [manyGo, prodR]
  | l :: ls, v, h, hv, hm => by
    have i2 := readings_pos h1 h4 (h l (by simp))
    have hls := fun y hy => h y (List.mem_cons_of_mem l hy)
    have hpp := prod_pos h1 h4 hls
    simp only [manyGo, List.foldl_cons] at hm ⊢
    by_cases hc : v * (readings C l).length < 5000
    · have e : min5 ((v : Int) * ((readings C l).length : Int)) = ((v * (readings C l).length : Nat) : Int) := by
        unfold min5; rw [if_pos (by exact_mod_cast hc)]; simp
      rw [e] at hm ⊢
      have := many_prod h1 h4 (ls := ls) (v * (readings C l).length) hls (Nat.mul_pos hv i2) hm
      simp only [manyGo] at this
      rw [this, prodR, Nat.mul_assoc]
    · exfalso
      have e : min5 ((v : Int) * ((readings C l).length : Int)) = 5000 := by
        unfold min5
        rw [if_neg]
        intro hh
        exact hc (by exact_mod_cast hh)
      rw [e] at hm
      have key : ∀ (ls : List Line), (∀ l ∈ ls, lineOk C l = true) → ls.foldl (fun n l => min5 (n * ((readings C l).length : Int))) 5000 = 5000 := by
        intro ls
        induction ls with
        | nil => intro _; rfl
        | cons a r ih =>
          intro hh
          have := readings_pos h1 h4 (hh a (by simp))
          simp only [List.foldl_cons]
          have : min5 (5000 * ((readings C a).length : Int)) = 5000 := by unfold min5; split <;> omega
          rw [this]
          exact ih fun y hy => hh y (by simp [hy])
      rw [key ls hls] at hm
      omega
theorem truthsR_mem {b : Book} (hf : faultB b = 0) {t : List Line} : t ∈ truthsR b ↔ fitsB b t = true := by
  obtain ⟨h1, h4, hl8, hc4, hc1, hc2, hx1, hx2, hok, hcok, hm⟩ := fault0 hf
  have hls := fun l hl => List.all_eq_true.1 hok l hl
  have hN := many_prod h1 h4 1 hls (Nat.le_refl _) hm
  simp only [Nat.one_mul] at hN
  have hN' : manyGo b.chairs 1 b.lines = ((prodR b.chairs b.lines : Nat) : Int) := hN
  unfold truthsR trGo fitsB truOne
  rw [hN', Int.toNat_natCast]
  simp only [List.mem_filter, List.mem_map, List.mem_range'_1, Bool.and_eq_true, isRead_iff h1 hok]
  constructor
  · rintro ⟨⟨n, _, rfl⟩, h⟩
    exact ⟨nth_rd h1 h4 n hls, h⟩
  · rintro ⟨h, h'⟩
    obtain ⟨n, hn, e⟩ := nth_surj h1 h4 hls h
    exact ⟨⟨n, ⟨by omega, by omega⟩, e⟩, h'⟩
/-! ### The program's walk -/
theorem allC_v (b : Book) : ∀ (L : List Scene) (k : Nat) (v : Bool), allC b k v L = (v && allC b k true L)
  | [], k, v => by simp [allC]
  | s :: L, k, v => by
    simp only [allC, Bool.true_and]
    rw [allC_v b L (k + 1) (v && b.counts.all (countOne s.money k)), allC_v b L (k + 1) (b.counts.all (countOne s.money k)), Bool.and_assoc]
theorem dfs_mem (b : Book) : ∀ (d k : Nat) (s : Scene) (ls : List Line) (ss : List Scene) (p : List Line × List Scene), k + d = b.lines.length →
    (p ∈ dfsP b d k s ls ss ↔ ∃ r u, p = (ls ++ r, ss ++ u) ∧ r.length = d ∧ scenesGo b k s (b.lines.drop k) r = some u ∧ allC b k true (s :: u) = true)
  | 0, k, s, ls, ss, p, hd => by
    have e : b.lines.drop k = [] := List.drop_eq_nil_of_le (by omega)
    simp only [dfsP, e]
    constructor
    · intro h
      split at h
      · rename_i hc
        simp only [List.mem_singleton] at h
        exact ⟨[], [], by simp [h], rfl, rfl, by simpa [allC] using hc⟩
      · simp at h
    · rintro ⟨r, u, rfl, hr, hs, hc⟩
      have : r = [] := List.eq_nil_of_length_eq_zero hr
      subst this
      have : u = [] := by simpa [scenesGo] using hs.symm
      subst this
      rw [if_pos (by simpa [allC] using hc)]
      simp
  | d + 1, k, s, ls, ss, p, hd => by
    have hk : k < b.lines.length := by omega
    simp only [dfsP, List.getElem?_eq_getElem hk, List.drop_eq_getElem_cons hk]
    constructor
    · intro h
      split at h
      · rename_i hc
        simp only [List.mem_flatMap] at h
        obtain ⟨x, hx, h⟩ := h
        split at h
        · rename_i hn
          obtain ⟨r, u, rfl, hr, hs, hcs⟩ := (dfs_mem b d (k + 1) _ _ _ p (by omega)).1 h
          refine ⟨x :: r, (nextB b.coin s k x).1 :: u, by simp, by simp [hr], ?_, ?_⟩
          · simp only [scenesGo, if_pos (agreesP_iff.2 hx), if_pos hn, hs]; rfl
          · rw [allC, allC_v, hcs, Bool.true_and, hc]; rfl
        · simp at h
      · simp at h
    · rintro ⟨r, u, rfl, hr, hs, hc⟩
      rw [allC, allC_v, Bool.true_and, Bool.and_eq_true] at hc
      rw [if_pos hc.1]
      cases r with
      | nil => simp at hr
      | cons x r =>
        simp only [scenesGo] at hs
        split at hs
        · rename_i ha
          split at hs
          · rename_i hn
            rw [Option.map_eq_some_iff] at hs
            obtain ⟨u', hs, rfl⟩ := hs
            refine List.mem_flatMap.2 ⟨x, agreesP_iff.1 ha, ?_⟩
            rw [if_pos hn]
            exact (dfs_mem b d (k + 1) _ _ _ _ (by omega)).2 ⟨r, u', by simp, by simpa using hr, hs, hc.2⟩
          · cases hs
        · cases hs
theorem truthsP_mem {b : Book} {t : List Line} {L : List Scene} : (t, L) ∈ truthsP b ↔ scenesB b t = some L ∧ allC b 0 true L = true := by
  unfold truthsP
  rw [dfs_mem b _ _ _ _ _ _ (by omega)]
  unfold scenesB
  constructor
  · rintro ⟨r, u, e, hr, hs, hc⟩
    simp only [List.nil_append, List.singleton_append, Prod.mk.injEq] at e
    obtain ⟨rfl, rfl⟩ := e
    simp only [List.drop_zero] at hs
    rw [if_pos hr, hs]
    exact ⟨rfl, hc⟩
  · rintro ⟨hs, hc⟩
    split at hs
    · rename_i hr
      rw [Option.map_eq_some_iff] at hs
      obtain ⟨u, hs, rfl⟩ := hs
      exact ⟨t, u, by simp, hr, by simpa using hs, hc⟩
    · cases hs
theorem fits_iff {b : Book} (hf : faultB b = 0) {t : List Line} : fitsB b t = true ↔ ∃ L, (t, L) ∈ truthsP b := by
  have h := prove_eq b t
  rw [hf] at h
  simp only [decide_true, Bool.true_and] at h
  rw [← h]
  unfold proveB
  rw [check_eq, hf]
  simp only [decide_true, Bool.true_and, truthsP_mem]
  cases scenesB b t with
  | none => simp
  | some L => simp
theorem ends_dfs (b : Book) : ∀ (d k : Nat) (s : Scene) (ls : List Line) (ss : List Scene), endsP b d k s = true ↔ dfsP b d k s ls ss ≠ []
  | 0, k, s, ls, ss => by
    simp only [endsP, dfsP]
    split <;> simp_all
  | d + 1, k, s, ls, ss => by
    simp only [endsP, dfsP]
    cases hc : b.counts.all (countOne s.money k) with
    | false => simp
    | true =>
      simp only [Bool.true_and, if_true]
      cases b.lines[k]? with
      | none => simp
      | some l =>
        simp only [List.any_eq_true, Bool.and_eq_true, ne_eq, List.flatMap_eq_nil_iff]
        constructor
        · rintro ⟨x, hx, hn, he⟩ hh
          have := hh x hx
          rw [if_pos hn] at this
          exact (ends_dfs b d (k + 1) _ _ _).1 he this
        · intro hh
          rw [Classical.not_forall] at hh
          obtain ⟨x, hh⟩ := hh
          rw [Classical.not_imp] at hh
          obtain ⟨hx, hh⟩ := hh
          split at hh
          · rename_i hn
            exact ⟨x, hx, hn, (ends_dfs b d (k + 1) _ _ _).2 hh⟩
          · exact absurd rfl hh
theorem poss_iff (b : Book) : possP b = true ↔ truthsP b ≠ [] := ends_dfs b _ _ _ _ _
theorem poss_R {b : Book} (hf : faultB b = 0) : possP b = true ↔ truthsR b ≠ [] := by
  rw [poss_iff]
  constructor
  · intro h
    obtain ⟨⟨t, L⟩, hp⟩ := List.exists_mem_of_ne_nil _ h
    exact List.ne_nil_of_mem ((truthsR_mem hf).2 ((fits_iff hf).2 ⟨L, hp⟩))
  · intro h
    obtain ⟨t, ht⟩ := List.exists_mem_of_ne_nil _ h
    obtain ⟨L, hL⟩ := (fits_iff hf).1 ((truthsR_mem hf).1 ht)
    exact List.ne_nil_of_mem hL
def Eqv (s s' : Scene) : Prop := s.ch = s'.ch ∧ s.tk = s'.tk
/-! ### Bounds -/
structure BoundsOf {α : Type} (l : List α) (f : α → Int) (r : Int × Int) : Prop where
  all : ∀ x ∈ l, r.1 ≤ f x ∧ f x ≤ r.2
  lo : ∃ x ∈ l, f x = r.1
  hi : ∃ x ∈ l, f x = r.2
theorem BoundsOf.uniq {α β : Type} {l : List α} {m : List β} {f : α → Int} {g : β → Int} {r r' : Int × Int} (h : BoundsOf l f r) (h' : BoundsOf m g r') (e : ∀ v, (∃ x ∈ l, f x = v) ↔ ∃ y ∈ m, g y = v) : r = r' := by
  obtain ⟨lo, hi⟩ := r
  obtain ⟨lo', hi'⟩ := r'
  obtain ⟨y1, hy1, e1⟩ := (e _).1 h.lo
  obtain ⟨y2, hy2, e2⟩ := (e _).1 h.hi
  obtain ⟨x1, hx1, e3⟩ := (e _).2 h'.lo
  obtain ⟨x2, hx2, e4⟩ := (e _).2 h'.hi
  have a1 := h'.all _ hy1
  have a2 := h'.all _ hy2
  have a3 := h.all _ hx1
  have a4 := h.all _ hx2
  simp only at *
  have q1 : lo = lo' := by omega
  have q2 : hi = hi' := by omega
  rw [q1, q2]
end Go.Proofs.Try.Op
