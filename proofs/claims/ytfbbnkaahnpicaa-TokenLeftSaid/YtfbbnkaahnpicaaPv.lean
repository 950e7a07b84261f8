/- What is built turns with the names; so do a call's arguments and results. No program in sight. -/
import Derived.Test.YtfbbnkaahnpicaaPu
namespace Go.Pg
variable {P : Program} {σ : Nat → Nat} {δ : Nat} {pre : List Level} {s : St} {fr : Fr} {g : Bool}

theorem zeroC_ren {T : TypeId} {z : List V} (h : zeroC P T = some z) : z.map (V.ren σ δ) = z := by
  unfold zeroC at h
  split at h
  · exact constL_ren h
  · cases h

theorem spliceL_map {α β : Type} (f : α → β) (cs ds : List α) (off : Nat) : spliceL (cs.map f) off (ds.map f) = (spliceL cs off ds).map f := by
  simp [spliceL, List.map_take, List.map_drop]

theorem fillV_ren {place : Nat → Option (Nat × Nat)} : ∀ {ps : List (Nat × V)} {cs ds : List V}, fillV place cs ps = some ds → fillV place (cs.map (V.ren σ δ)) (ps.map fun p => (p.1, p.2.ren σ δ)) = some (ds.map (V.ren σ δ))
  | [], cs, ds, h => by simp [fillV] at h; subst h; rfl
  | (i, v) :: r, cs, ds, h => by
    simp only [fillV] at h
    split at h
    · cases h
    · rename_i off size e
      split at h
      · rename_i hc
        have := fillV_ren h
        simp only [List.map_cons, fillV, e, cellsV_ren, List.length_map]
        rw [if_pos hc, spliceL_map]
        exact this
      · cases h

theorem all_flat_ren (ps : List (Nat × V)) : ((ps.map fun p => (p.1, p.2.ren σ δ)).all fun p => flatOk p.2) = ps.all fun p => flatOk p.2 := by
  rw [List.all_map]
  congr 1
  funext p
  exact flatOk_ren p.2

theorem evBuild_ren {T : TypeId} {ps : List (Nat × V)} {v : V} (h : evBuild P T ps = some v) : evBuild P T (ps.map fun p => (p.1, p.2.ren σ δ)) = some (v.ren σ δ) := by
  unfold evBuild at h ⊢
  split at h
  · rename_i z fs e1 e2
    simp only [all_flat_ren]
    split at h
    · rename_i hc
      obtain ⟨cs, h1, rfl⟩ := Option.map_eq_some_iff.1 h
      have := fillV_ren (σ := σ) (δ := δ) h1
      rw [zeroC_ren e1] at this
      rw [if_pos hc, this]
      simp
    · cases h
  · rename_i z n e e1 e2
    simp only [all_flat_ren]
    split at h
    · rename_i hc
      obtain ⟨cs, h1, rfl⟩ := Option.map_eq_some_iff.1 h
      have := fillV_ren (σ := σ) (δ := δ) h1
      rw [zeroC_ren e1] at this
      rw [if_pos hc, this]
      simp
    · cases h
  · cases h

theorem chunks_map {β : Type} (f : V → V) (size : Nat) : ∀ (n : Nat) (cs : List V), chunks size (cs.map f) n = (chunks size cs n).map (List.map f)
  | 0, _ => rfl
  | n + 1, cs => by
    simp only [chunks, List.map_cons, List.map_take]
    rw [← List.map_drop, chunks_map (β := β) f size n]

theorem evBuildSlice_ren {T : TypeId} {len : Nat} {ps : List (Nat × V)} {v : V} (h : evBuildSlice P T len ps = some v) : evBuildSlice P T len (ps.map fun p => (p.1, p.2.ren σ δ)) = some (v.ren σ δ) := by
  unfold evBuildSlice at h ⊢
  split at h
  · rename_i e e1
    split at h
    · rename_i z e2
      split at h
      · rename_i hc
        obtain ⟨cs, h1, rfl⟩ := Option.map_eq_some_iff.1 h
        have := fillV_ren (σ := σ) (δ := δ) h1
        have hz : (List.replicate len z).flatten.map (V.ren σ δ) = (List.replicate len z).flatten := by
          rw [List.map_flatten, List.map_replicate, zeroC_ren e2]
        rw [hz] at this
        simp only [all_flat_ren]
        rw [if_pos hc, this]
        simp [chunks_map (β := Nat)]
      · cases h
    · cases h
  · cases h

theorem partsM_ren {r : Operand → Option V} : ∀ {l : List (Nat × Operand)} {ps : List (Nat × V)}, partsM r l = some ps → partsM (fun x => (r x).map (V.ren σ δ)) l = some (ps.map fun p => (p.1, p.2.ren σ δ))
  | [], ps, h => by simp [partsM] at h; subst h; rfl
  | (i, x) :: l, ps, h => by
    simp only [partsM] at h
    split at h
    · rename_i v us h1 h2
      cases h
      simp [partsM, h1, partsM_ren h2]
    · cases h

theorem elemsOf_ren {v : V} {es : List (List V)} (h : elemsOf s v = some es) : elemsOf (s.emb σ pre) (v.ren σ pre.length) = some (es.map (List.map (V.ren σ pre.length))) := by
  cases v with
  | list f ds => simp only [elemsOf, Option.some.injEq] at h; subst h; simp [elemsOf]
  | vec l k γ n =>
    simp only [elemsOf] at h
    split at h
    · rename_i γ' T ds e
      split at h
      · rename_i hc
        cases h
        simp [elemsOf, emb_get, e, Res.ren, hc.1, hc.2, List.map_take]
      · cases h
    · cases h
  | nil => simp only [elemsOf, Option.some.injEq] at h; subst h; simp [elemsOf]
  | _ => cases h

theorem rdG_fun : rdG g (fr.ren σ δ) = fun x => (rdG g fr x).map (V.ren σ δ) := by funext x; exact rdG_ren x

theorem valD_ren {o : Oper} {v : V} (h : valD P g o fr s = some v) : valD P g o (fr.ren σ pre.length) (s.emb σ pre) = some (v.ren σ pre.length) := by
  unfold valD at h ⊢
  split at h
  · rename_i c x y ho
    split at h
    · rename_i c' ca va cb vb e1 e2 e3
      split at h
      · rename_i hc
        cases h
        simp only [rdG_ren, rd_ren, e1, e2, e3, Option.map_some, ren_bool]
        rw [if_pos hc]
      · cases h
    · cases h
  · rename_i T parts ho
    obtain ⟨ps, h1, h2⟩ := Option.bind_eq_some_iff.1 h
    rw [rdG_fun, partsM_ren h1]
    exact evBuild_ren h2
  · rename_i T len parts ho
    obtain ⟨ps, h1, h2⟩ := Option.bind_eq_some_iff.1 h
    rw [rdG_fun, partsM_ren h1]
    exact evBuildSlice_ren h2
  · rw [rdG_fun]; exact evP_ren h

def closeX (s : St) : Nat → V → Option V
  | 0, _ => none
  | f + 1, v => match v with
    | .list _ es => some (.list false es)
    | .vec l k g m => if l = s.up.length then (match s.loc.get k with
        | some (g', .vec _ es) => if g' = g ∧ m ≤ es.length then some (.list false (es.take m)) else none
        | _ => none) else some v
    | .ptr l k g off => if l = s.up.length then (match s.loc.get k with
        | some (g', .box cs) => if g' = g then (cs.mapM (closeX s f)).map fun ds => .ref (ds.drop off) else none
        | _ => none) else some v
    | .agg cs => (cs.mapM (closeX s f)).map .agg
    | .tup cs => (cs.mapM (closeX s f)).map .tup
    | .fn g xs ys => match xs.mapM (closeX s f), ys.mapM (closeX s f) with
      | some a, some b => some (.fn g a b)
      | _, _ => none
    | v => some v

theorem mapM_eq_map {α β : Type} {f : α → Option β} {g : α → β} (h : ∀ x y, f x = some y → g x = y) : ∀ {l : List α} {r : List β}, l.mapM f = some r → l.map g = r
  | [], r, e => by simp at e; subst e; rfl
  | x :: l, r, e => by
    simp only [List.mapM_cons, Option.bind_eq_bind, Option.bind_eq_some_iff, Option.pure_def, Option.some.injEq] at e
    obtain ⟨y, h1, ys, h2, rfl⟩ := e
    simp [h x y h1, mapM_eq_map h h2]

theorem closeX_spec : ∀ (f : Nat) {v r : V}, closeX s f v = some r → closeV s f v = r
  | 0, v, r, h => by cases h
  | f + 1, v, r, h => by
    have ih := fun v r => closeX_spec f (v := v) (r := r)
    cases v with
    | list b es => simpa [closeX, closeV] using h
    | vec l k g m =>
      simp only [closeX] at h
      simp only [closeV]
      split at h
      · rename_i hl
        rw [if_pos hl]
        split at h
        · rename_i g' T es e
          split at h
          · rename_i hc; rw [e]; simp only [if_pos hc]; exact Option.some.inj h
          · cases h
        · cases h
      · rename_i hl; rw [if_neg hl]; exact Option.some.inj h
    | ptr l k g off =>
      simp only [closeX] at h
      simp only [closeV]
      split at h
      · rename_i hl
        rw [if_pos hl]
        split at h
        · rename_i g' cs e
          split at h
          · rename_i hc
            obtain ⟨ds, h1, rfl⟩ := Option.map_eq_some_iff.1 h
            rw [e]; simp only [if_pos hc, mapM_eq_map ih h1]
          · cases h
        · cases h
      · rename_i hl; rw [if_neg hl]; exact Option.some.inj h
    | agg cs =>
      obtain ⟨ds, h1, rfl⟩ := Option.map_eq_some_iff.1 h
      simp only [closeV, mapM_eq_map ih h1]
    | tup cs =>
      obtain ⟨ds, h1, rfl⟩ := Option.map_eq_some_iff.1 h
      simp only [closeV, mapM_eq_map ih h1]
    | fn g xs ys =>
      simp only [closeX] at h
      split at h
      · rename_i a b h1 h2
        cases h
        simp only [closeV, mapM_eq_map ih h1, mapM_eq_map ih h2]
      · cases h
    | _ => simpa [closeX, closeV] using h

theorem mapM_map_ren {f f' : V → Option V} (h : ∀ v r, f v = some r → f' (v.ren σ δ) = some (r.ren σ δ)) : ∀ {l r : List V}, l.mapM f = some r → (l.map (V.ren σ δ)).mapM f' = some (r.map (V.ren σ δ))
  | [], r, e => by simp at e; subst e; rfl
  | x :: l, r, e => by
    simp only [List.mapM_cons, Option.bind_eq_bind, Option.bind_eq_some_iff, Option.pure_def, Option.some.injEq] at e
    obtain ⟨y, h1, ys, h2, rfl⟩ := e
    simp [h x y h1, mapM_map_ren h h2]

theorem emb_loc_get (k : Nat) : (s.emb σ pre).loc.get k = (s.loc.get k).map fun p => (σ p.1, p.2.ren σ pre.length) := Level.get_ren _ _

theorem closeX_ren : ∀ (f : Nat) {v r : V}, closeX s f v = some r → closeX (s.emb σ pre) f (v.ren σ pre.length) = some (r.ren σ pre.length)
  | 0, v, r, h => by cases h
  | f + 1, v, r, h => by
    have ih := fun v r => closeX_ren f (v := v) (r := r)
    cases v with
    | list b es => simp only [closeX, Option.some.injEq] at h; subst h; simp [closeX]
    | vec l k g m =>
      simp only [closeX] at h
      split at h
      · rename_i hl
        split at h
        · rename_i g' T es e
          split at h
          · rename_i hc
            cases h
            simp [closeX, emb_len, emb_loc_get, hl, e, Res.ren, hc.1, hc.2, List.map_take]
          · cases h
        · cases h
      · rename_i hl
        cases h
        have : ¬ l + pre.length = s.up.length + pre.length := by omega
        simp [closeX, emb_len, hl]
    | ptr l k g off =>
      simp only [closeX] at h
      split at h
      · rename_i hl
        split at h
        · rename_i g' cs e
          split at h
          · rename_i hc
            obtain ⟨ds, h1, rfl⟩ := Option.map_eq_some_iff.1 h
            have := mapM_map_ren ih h1
            simp [closeX, emb_len, emb_loc_get, hl, e, Res.ren, hc, this, List.map_drop]
          · cases h
        · cases h
      · rename_i hl
        cases h
        simp [closeX, emb_len, hl]
    | agg cs =>
      obtain ⟨ds, h1, rfl⟩ := Option.map_eq_some_iff.1 h
      simp [closeX, mapM_map_ren ih h1]
    | tup cs =>
      obtain ⟨ds, h1, rfl⟩ := Option.map_eq_some_iff.1 h
      simp [closeX, mapM_map_ren ih h1]
    | fn g xs ys =>
      simp only [closeX] at h
      split at h
      · rename_i a b h1 h2
        cases h
        simp [closeX, mapM_map_ren ih h1, mapM_map_ren ih h2]
      · cases h
    | _ => simp only [closeX, Option.some.injEq] at h; subst h; simp [closeX]

/-! ### What stays in the places of callers -/
noncomputable def closeOX (s : St) (v : V) : Option V := match v with
  | .list f es => some (.list f es)
  | .int k n => some (.int k n)
  | .bool b => some (.bool b)
  | v => closeX s 4 v
theorem closeOX_spec {v r : V} (h : closeOX s v = some r) : closeO s v = r := by
  unfold closeOX at h
  unfold closeO
  split at h
  · simpa using h
  · simpa [closeV] using h
  · simpa [closeV] using h
  · rename_i h1 h2 h3
    split
    · rename_i f es; exact absurd rfl (h1 f es)
    · exact closeX_spec 4 h
theorem closeOX_oth {v : V} (h1 : ∀ f es, v ≠ .list f es) (h2 : ∀ k n, v ≠ .int k n) (h3 : ∀ b, v ≠ .bool b) : closeOX s v = closeX s 4 v := by
  unfold closeOX
  split
  · rename_i f es; exact absurd rfl (h1 f es)
  · rename_i k n; exact absurd rfl (h2 k n)
  · rename_i b; exact absurd rfl (h3 b)
  · rfl
theorem closeOX_ren {v r : V} (h : closeOX s v = some r) : closeOX (s.emb σ pre) (v.ren σ pre.length) = some (r.ren σ pre.length) := by
  by_cases h1 : ∃ f es, v = .list f es
  · obtain ⟨f, es, rfl⟩ := h1
    simp only [closeOX, Option.some.injEq] at h; subst h; simp [closeOX]
  by_cases h2 : ∃ k n, v = .int k n
  · obtain ⟨k, n, rfl⟩ := h2
    simp only [closeOX, Option.some.injEq] at h; subst h; simp [closeOX]
  by_cases h3 : ∃ b, v = .bool b
  · obtain ⟨b, rfl⟩ := h3
    simp only [closeOX, Option.some.injEq] at h; subst h; simp [closeOX]
  rw [closeOX_oth (fun f es e => h1 ⟨f, es, e⟩) (fun k n e => h2 ⟨k, n, e⟩) (fun b e => h3 ⟨b, e⟩)] at h
  rw [closeOX_oth (fun f es e => by cases v <;> simp at e; exact h1 ⟨_, _, rfl⟩) (fun k n e => by cases v <;> simp at e; exact h2 ⟨_, _, rfl⟩) (fun b e => by cases v <;> simp at e; exact h3 ⟨_, rfl⟩)]
  exact closeX_ren 4 h
def mapOO {α β : Type} (f : α → Option β) : List α → Option (List β)
  | [] => some []
  | x :: l => match f x with
    | some y => match mapOO f l with
      | some r => some (y :: r)
      | none => none
    | none => none
theorem mapOO_map {α β : Type} {f : α → Option β} {g : α → β} (h : ∀ x y, f x = some y → g x = y) : ∀ {l : List α} {r : List β}, mapOO f l = some r → l.map g = r
  | [], r, e => by cases e; rfl
  | x :: l, r, e => by
    simp only [mapOO] at e
    split at e
    · rename_i y hy
      split at e
      · rename_i q hq; cases e; simp [h _ _ hy, mapOO_map h hq]
      · cases e
    · cases e
theorem mapOO_ren {α β : Type} {f f' : α → Option β} {a : α → α} {b : β → β} (h : ∀ x y, f x = some y → f' (a x) = some (b y)) : ∀ {l : List α} {r : List β}, mapOO f l = some r → mapOO f' (l.map a) = some (r.map b)
  | [], r, e => by cases e; rfl
  | x :: l, r, e => by
    simp only [mapOO] at e
    split at e
    · rename_i y hy
      split at e
      · rename_i q hq; cases e; simp [mapOO, h _ _ hy, mapOO_ren h hq]
      · cases e
    · cases e
noncomputable def closeResX (s : St) (r : Res) : Option Res := match r with
  | .box cs => match mapOO (closeOX s) cs with
    | some ds => some (.box ds)
    | none => none
  | .vec T es => match mapOO (mapOO (closeOX s)) es with
    | some ds => some (.vec T ds)
    | none => none
  | .map es => match mapOO (fun e : V × V => match closeOX s e.1, closeOX s e.2 with
      | some a, some b => some (a, b)
      | _, _ => none) es with
    | some ds => some (.map ds)
    | none => none
  | r => some r
noncomputable def shutRes (s : St) (r : Res) : Res := match closeResX s r with
  | some r' => r'
  | none => r
theorem closeResX_spec {r r' : Res} (h : closeResX s r = some r') : r' = r ∨ r' = closeRes s r := by
  unfold closeResX at h
  split at h
  · split at h
    · rename_i ds hd; cases h; exact .inr (by simp only [closeRes, mapOO_map (fun x y => closeOX_spec) hd])
    · cases h
  · split at h
    · rename_i ds hd; cases h; exact .inr (by simp only [closeRes, mapOO_map (fun x y => mapOO_map (fun x y => closeOX_spec)) hd])
    · cases h
  · split at h
    · rename_i ds hd
      cases h
      refine .inr ?_
      simp only [closeRes]
      rw [mapOO_map (g := fun e => (closeO s e.1, closeO s e.2)) (fun x y h => ?_) hd]
      split at h
      · rename_i a b h1 h2; cases h; rw [closeOX_spec h1, closeOX_spec h2]
      · cases h
    · cases h
  · cases h; exact .inl rfl
theorem closeResX_ren {r r' : Res} (h : closeResX s r = some r') : closeResX (s.emb σ pre) (r.ren σ pre.length) = some (r'.ren σ pre.length) := by
  cases r with
  | box cs =>
    simp only [closeResX] at h
    split at h
    · rename_i ds hd; cases h; simp [closeResX, Res.ren, mapOO_ren (fun x y => closeOX_ren (σ := σ) (pre := pre)) hd]
    · cases h
  | vec T es =>
    simp only [closeResX] at h
    split at h
    · rename_i ds hd; cases h; simp [closeResX, Res.ren, mapOO_ren (fun x y => mapOO_ren (fun x y => closeOX_ren (σ := σ) (pre := pre))) hd]
    · cases h
  | map es =>
    simp only [closeResX] at h
    split at h
    · rename_i ds hd
      cases h
      have := mapOO_ren (f' := fun e : V × V => match closeOX (s.emb σ pre) e.1, closeOX (s.emb σ pre) e.2 with
        | some a, some b => some (a, b)
        | _, _ => none) (a := fun p : V × V => (p.1.ren σ pre.length, p.2.ren σ pre.length)) (b := fun p : V × V => (p.1.ren σ pre.length, p.2.ren σ pre.length)) (fun x y h => by
          split at h
          · rename_i a b h1 h2; cases h; simp [closeOX_ren h1, closeOX_ren h2]
          · cases h) hd
      simp [closeResX, Res.ren, this]
    · cases h
  | loop fr ps asg body N st => simp only [closeResX, Option.some.injEq] at h; subst h; rfl
  | dead => simp only [closeResX, Option.some.injEq] at h; subst h; rfl
theorem shutRes_ren (r : Res) : (shutRes s r).ren σ pre.length = r.ren σ pre.length ∨ (shutRes s r).ren σ pre.length = closeRes (s.emb σ pre) (r.ren σ pre.length) := by
  unfold shutRes
  split
  · rename_i r' h
    rcases closeResX_spec (closeResX_ren (σ := σ) (pre := pre) h) with h' | h'
    · exact .inl h'
    · exact .inr h'
  · exact .inl rfl
noncomputable def shutLv (s : St) (L : Level) : Level := L.map fun p => (p.1, p.2.1, shutRes s p.2.2)
theorem shutLv_get (s : St) : ∀ (L : Level) (k : Nat), (shutLv s L).get k = (L.get k).map fun p => (p.1, shutRes s p.2)
  | [], k => rfl
  | (j, x) :: L, k => by
    have := shutLv_get s L k
    simp only [shutLv, List.map_cons, Level.get] at this ⊢
    split
    · rfl
    · exact this

theorem resOne_ren {rv : ResultVar} {v : V} (h : resOne P fr s rv = some v) : resOne P (fr.ren σ pre.length) (s.emb σ pre) rv = some (v.ren σ pre.length) := by
  cases rv with
  | tmp t =>
    simp only [resOne] at h ⊢
    split at h
    · rename_i e; cases h; simp [Fr.get_ren, e]
    · cases h
  | cell ad T =>
    simp only [resOne] at h ⊢
    split at h
    · rename_i p e
      obtain ⟨cs, h1, h2⟩ := Option.bind_eq_some_iff.1 h
      simp [Fr.get_ren, e, cellsAt_ren h1, whole_ren h2]
    · cases h
theorem resV_ren {rs : List ResultVar} {v : V} (h : resV P rs fr s = some v) : resV P rs (fr.ren σ pre.length) (s.emb σ pre) = some (v.ren σ pre.length) := by
  have key : ∀ {rs : List ResultVar} {vs : List V}, rs.mapM (resOne P fr s) = some vs → rs.mapM (resOne P (fr.ren σ pre.length) (s.emb σ pre)) = some (vs.map (V.ren σ pre.length)) := by
    intro rs
    induction rs with
    | nil => intro vs e; simp at e; subst e; rfl
    | cons x l ih =>
      intro vs e
      simp only [List.mapM_cons, Option.bind_eq_bind, Option.bind_eq_some_iff, Option.pure_def, Option.some.injEq] at e
      obtain ⟨y, h1, ys, h2, rfl⟩ := e
      simp [resOne_ren h1, ih h2]
  unfold resV at h ⊢
  split at h
  · rename_i x e; cases h; rw [key e]; rfl
  · rename_i vs hne e
    cases h
    rw [key e]
    cases vs with
    | nil => simp
    | cons a r =>
      cases r with
      | nil => exact absurd rfl (hne a)
      | cons b r => simp
  · cases h

theorem argFr_ren : ∀ (i : Nat) (vs : List V), argFr i (vs.map (V.ren σ δ)) = (argFr i vs).ren σ δ
  | _, [] => rfl
  | i, v :: vs => by simp [argFr, Fr.ren, argFr_ren (i + 1) vs]
end Go.Pg
