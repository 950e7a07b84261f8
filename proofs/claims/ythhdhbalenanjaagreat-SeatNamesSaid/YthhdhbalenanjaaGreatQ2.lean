/- A row that lies in a place is told as a list, once and for all: it is never written again. No program in sight. -/
import Derived.Test.YthhdhbalenanjaaGreatQa
namespace Go.Pg
variable {P : Program} {σ σ' : Nat → Nat} {δ : Nat} {pre : List Level} {s : St} {fr : Fr} {G G' : Gh} {w : World}

def toldV (l k : Nat) (o : Option (Nat × Res)) : Nat → V → V
  | 0, v => v
  | f + 1, v => match v with
    | .vec l' k' g m => match o with
      | some (γ, .vec _ es) => if l' = l ∧ k' = k ∧ g = γ ∧ m = es.length then .list false es else v
      | _ => v
    | .ptr l' k' g off => match o with
      | some (γ, .box cs) => if l' = l ∧ k' = k ∧ g = γ then .ref ((cs.map anyM).drop off) else v
      | _ => v
    | .agg cs => .agg (cs.map (toldV l k o f))
    | .tup cs => .tup (cs.map (toldV l k o f))
    | v => v
def toldR (l k : Nat) (o : Option (Nat × Res)) : Res → Res
  | .box cs => .box (cs.map (toldV l k o 3))
  | .vec T es => .vec T (es.map (List.map (toldV l k o 3)))
  | r => r
def toldF (l k : Nat) (o : Option (Nat × Res)) (fr : Fr) : Fr := fr.map fun x => (x.1, x.2.1, toldV l k o 3 x.2.2)
def toldL (l k : Nat) (o : Option (Nat × Res)) : Level → Level
  | [] => []
  | (j, g, r) :: L => if j = k then toldL l k o L else (j, g, toldR l k o r) :: toldL l k o L
noncomputable def told1 (k : Nat) (st : XS) : XS := ⟨st.c, toldF st.s.up.length k (st.s.loc.get k) st.fr, ⟨st.s.up, toldL st.s.up.length k (st.s.loc.get k) st.s.loc⟩⟩
noncomputable def toldO (ks : List Nat) (st : XS) : XS := List.rec (motive := fun _ => XS → XS) (fun st => st) (fun k _ ih st => ih (told1 k st)) ks st

theorem toldF_get (l k : Nat) (o : Option (Nat × Res)) : ∀ (fr : Fr) (j : Nat), (toldF l k o fr).get j = (fr.get j).map fun x => (x.1, toldV l k o 3 x.2)
  | [], _ => rfl
  | (i, c, v) :: fr, j => by
    have ih := toldF_get l k o fr j
    simp only [toldF, List.map_cons, Fr.get] at ih ⊢
    split
    · rfl
    · exact ih
theorem toldL_get (l k : Nat) (o : Option (Nat × Res)) : ∀ (L : Level) (j : Nat), (toldL l k o L).get j = if j = k then none else (L.get j).map fun x => (x.1, toldR l k o x.2)
  | [], j => by simp [toldL]
  | (i, g, r) :: L, j => by
    have ih := toldL_get l k o L j
    unfold toldL
    by_cases h : i = k
    · rw [if_pos h, ih]
      by_cases hj : j = k
      · simp [hj]
      · rw [if_neg hj, if_neg hj, Level.get, if_neg (by rw [h]; exact hj)]
    · rw [if_neg h]
      simp only [Level.get]
      by_cases hj : j = i
      · subst hj; rw [if_pos rfl, if_pos rfl, if_neg h]; rfl
      · rw [if_neg hj, if_neg hj, ih]

def ToldOK (G G' : Gh) (σ : Nat → Nat) (δ l k : Nat) (o : Option (Nat × Res)) : Prop := (∀ γ T es, o = some (γ, .vec T es) → ∀ v, RepV G (.vec (l + δ) k (σ γ) es.length) v → RepV G' (.list false (es.map (List.map (V.ren σ δ)))) v) ∧
  ∀ γ cs, o = some (γ, .box cs) → ∀ off v, RepV G (.ptr (l + δ) k (σ γ) off) v → RepV G' (.ref (((cs.map anyM).drop off).map (V.ren σ δ))) v
theorem anyM_ren (v : V) : (anyM v).ren σ δ = anyM (v.ren σ δ) := by cases v <;> simp [anyM]
theorem anyMs_ren (cs : List V) (off : Nat) : ((cs.map anyM).drop off).map (V.ren σ δ) = ((cs.map (V.ren σ δ)).map anyM).drop off := by
  rw [List.map_drop, List.map_map, List.map_map]
  congr 1
  exact List.map_congr_left fun v _ => anyM_ren v
theorem told_cell {l k : Nat} {o : Option (Nat × Res)} : ∀ (f : Nat) (v : V), (v.ren σ δ).isCell = true → ((toldV l k o f v).ren σ δ).isCell = true
  | 0, v, h => h
  | f + 1, v, h => by
    cases v with
    | agg cs => simp only [ren_agg] at h; cases h
    | tup cs => simp only [ren_tup] at h; cases h
    | vec l' k' g m =>
      simp only [toldV]
      split
      · split
        · simp only [ren_list]; rfl
        · exact h
      · exact h
    | ptr l' k' g off =>
      simp only [toldV]
      split
      · split
        · simp only [ren_ref]; rfl
        · exact h
      · exact h
    | _ => exact h
theorem told_rep {l k : Nat} {o : Option (Nat × Res)} (hle : G.le G') (ho : ToldOK G G' σ δ l k o) : ∀ (f : Nat) (x : V) (v : Value), RepV G (x.ren σ δ) v → RepV G' ((toldV l k o f x).ren σ δ) v
  | 0, x, v, h => h.mono hle
  | f + 1, x, v, h => by
    have ih := told_rep hle ho f
    cases x with
    | vec l' k' g m =>
      simp only [toldV]
      split
      · rename_i γ T es
        split
        · rename_i hc
          obtain ⟨rfl, rfl, rfl, rfl⟩ := hc
          simp only [ren_vec, ren_list] at h ⊢
          exact ho.1 _ _ _ rfl v h
        · exact h.mono hle
      · exact h.mono hle
    | ptr l' k' g off =>
      simp only [toldV]
      split
      · rename_i γ cs
        split
        · rename_i hc
          obtain ⟨rfl, rfl, rfl⟩ := hc
          simp only [ren_ptr, ren_ref] at h ⊢
          exact ho.2 _ _ rfl off v h
        · exact h.mono hle
      · exact h.mono hle
    | agg cs =>
      simp only [toldV, ren_agg] at h ⊢
      cases h with
      | agg _ arr hl hc hr =>
        refine .agg _ arr (by simpa using hl) (fun c hc' => ?_) (fun i h1 h2 => ?_)
        · simp only [List.mem_map] at hc'
          obtain ⟨d, ⟨e, he, rfl⟩, rfl⟩ := hc'
          exact told_cell f e (hc _ (List.mem_map_of_mem he))
        · have h1' : i < cs.length := by simpa using h1
          have q := hr i (by simpa using h1) h2
          simp only [List.getElem_map] at q ⊢
          exact ih _ _ q
    | tup cs =>
      simp only [toldV, ren_tup] at h ⊢
      cases h with
      | tup _ arr hl hr =>
        refine .tup _ arr (by simpa using hl) (fun i h1 h2 => ?_)
        have q := hr i (by simpa using h1) h2
        simp only [List.getElem_map] at q ⊢
        exact ih _ _ q
    | _ => exact h.mono hle
theorem toldLs_rep {l k : Nat} {o : Option (Nat × Res)} (hle : G.le G') (ho : ToldOK G G' σ δ l k o) {cs : List V} {vs : List Value} (h : RepL G (cs.map (V.ren σ δ)) vs) : RepL G' ((cs.map (toldV l k o 3)).map (V.ren σ δ)) vs :=
  ⟨by simpa using h.1, fun i p q => by
    have r := h.2 i (by simpa using p) q
    simp only [List.getElem_map] at r ⊢
    exact ⟨told_cell 3 _ r.1, told_rep hle ho 3 _ _ r.2⟩⟩
theorem toldR_rep {l k : Nat} {o : Option (Nat × Res)} (hle : G.le G') (ho : ToldOK G G' σ δ l k o) {g : Nat} {r : Res} (h : RRep G g w (r.ren σ δ)) : RRep G' g w ((toldR l k o r).ren σ δ) := by
  cases r with
  | box cs =>
    obtain ⟨b, arr, T, h1, h2, h3⟩ := h
    exact ⟨b, arr, T, by simpa using hle.2 _ _ h1, h2, toldLs_rep hle ho h3⟩
  | vec T es =>
    obtain ⟨b, sz, C, h1, h2, h3, h4, h5⟩ := h
    refine ⟨b, sz, C, hle.2 _ _ h1, by simpa using h2, fun e he => ?_, ⟨h4.1, fun h => h4.2 (by simpa using h)⟩, fun hC => ?_⟩
    · simp only [List.mem_map] at he
      obtain ⟨e1, ⟨e2, he2, rfl⟩, rfl⟩ := he
      have := h3 (e2.map (V.ren σ δ)) (List.mem_map_of_mem he2)
      simpa using this
    · obtain ⟨arr, h6, h7, h8⟩ := h5 hC
      refine ⟨arr, h6, h7, ?_⟩
      have q : RepL G (es.flatten.map (V.ren σ δ)) (arr.toList.take (es.length * sz)) := by
        rw [List.map_flatten]
        simpa using h8
      have q2 := toldLs_rep hle ho q
      rw [List.map_flatten, List.map_flatten] at q2
      simpa using q2
  | map es => exact h.keep hle fun _ _ => rfl
  | loop fr ps asg body N st => exact h.keep hle fun _ _ => rfl
  | dead => trivial
theorem owns_told (G : Gh) (l k : Nat) (o : Option (Nat × Res)) (g : Nat) (r : Res) : owns G g ((toldR l k o r).ren σ δ) = owns G g (r.ren σ δ) := by cases r <;> rfl

theorem told_get {k : Nat} {st : XS} {l j : Nat} {x : Nat × Res} (h : ((told1 k st).s.emb σ pre).get l j = some x) :
    ¬ (l = st.s.up.length + pre.length ∧ j = k) ∧ ((st.s.emb σ pre).get l j = some x ∨ ∃ r, (st.s.emb σ pre).get l j = some (x.1, r.ren σ pre.length) ∧ x.2 = (toldR st.s.up.length k (st.s.loc.get k) r).ren σ pre.length) := by
  have hlen : (st.s.emb σ pre).up.length = st.s.up.length + pre.length := by rw [emb_len]
  have hup : ((told1 k st).s.emb σ pre).up = (st.s.emb σ pre).up := rfl
  unfold St.get at h ⊢
  rw [hup] at h
  by_cases e : l = (st.s.emb σ pre).up.length
  · rw [if_pos e] at h ⊢
    have h' : ((toldL st.s.up.length k (st.s.loc.get k) st.s.loc).ren σ pre.length).get j = some x := h
    rw [Level.get_ren, toldL_get] at h'
    by_cases hj : j = k
    · rw [if_pos hj] at h'; cases h'
    · rw [if_neg hj] at h'
      refine ⟨fun hh => hj hh.2, .inr ?_⟩
      have hl : (st.s.emb σ pre).loc.get j = (st.s.loc.get j).map fun p => (σ p.1, p.2.ren σ pre.length) := Level.get_ren _ _
      rw [hl]
      cases hg : st.s.loc.get j with
      | none => rw [hg] at h'; cases h'
      | some y =>
        rw [hg] at h'
        obtain ⟨g, r⟩ := y
        cases h'
        exact ⟨r, rfl, rfl⟩
  · rw [if_neg e] at h ⊢
    exact ⟨fun hh => e (by rw [hlen]; exact hh.1), .inl h⟩

theorem told_inv {k : Nat} {st : XS} (hI : Inv G (st.s.emb σ pre) w) : ∃ G', G.le G' ∧ Inv G' ((told1 k st).s.emb σ pre) w ∧ ToldOK G G' σ pre.length st.s.up.length k (st.s.loc.get k) := by
  have hget : (st.s.emb σ pre).get (st.s.up.length + pre.length) k = (st.s.loc.get k).map fun p => (σ p.1, p.2.ren σ pre.length) := by
    rw [emb_get]
    unfold St.get
    rw [if_pos rfl]
  have main : ∃ G' s0, G.le G' ∧ Inv G' s0 w ∧ (∀ l j, ¬ (l = st.s.up.length + pre.length ∧ j = k) → s0.get l j = (st.s.emb σ pre).get l j) ∧ ToldOK G G' σ pre.length st.s.up.length k (st.s.loc.get k) := by
    cases ho : st.s.loc.get k with
    | none => exact ⟨G, _, ⟨fun _ _ h => h, fun _ _ h => h, rfl⟩, hI, fun _ _ _ => rfl, ⟨fun γ T es h => (by cases h), fun γ cs h => (by cases h)⟩⟩
    | some x =>
      obtain ⟨γ, r⟩ := x
      rw [ho] at hget
      cases r with
      | vec T es =>
        have hget : (st.s.emb σ pre).get (st.s.up.length + pre.length) k = some (σ γ, .vec T (es.map (List.map (V.ren σ pre.length)))) := hget
        obtain ⟨G', hle, hI', hs⟩ := hI.lockRow hget
        refine ⟨G', _, hle, hI', fun l j hne => ?_, ⟨fun γ' T' es' h v hv => ?_, fun γ cs h => by cases h⟩⟩
        · rw [St.get_put _ hget, if_neg hne]
        · cases h
          have := vec_shut hI hle hget (m := es.length) (by simp) hs hv
          rwa [List.take_of_length_le (by simp)] at this
      | box cs =>
        have hget : (st.s.emb σ pre).get (st.s.up.length + pre.length) k = some (σ γ, .box (cs.map (V.ren σ pre.length))) := hget
        obtain ⟨G', hle, hI', hs⟩ := hI.lockBox hget
        refine ⟨G', _, hle, hI', fun l j hne => ?_, ⟨fun γ' T' es' h => (by cases h), fun γ' cs' h off v hv => ?_⟩⟩
        · rw [St.get_put _ hget, if_neg hne]
        · cases h
          rw [anyMs_ren]
          exact ptr_shut hI hle hget hs hv
      | map cs => exact ⟨G, _, ⟨fun _ _ h => h, fun _ _ h => h, rfl⟩, hI, fun _ _ _ => rfl, ⟨fun γ T es h => (by cases h), fun γ cs h => (by cases h)⟩⟩
      | loop _ _ _ _ _ _ => exact ⟨G, _, ⟨fun _ _ h => h, fun _ _ h => h, rfl⟩, hI, fun _ _ _ => rfl, ⟨fun γ T es h => (by cases h), fun γ cs h => (by cases h)⟩⟩
      | dead => exact ⟨G, _, ⟨fun _ _ h => h, fun _ _ h => h, rfl⟩, hI, fun _ _ _ => rfl, ⟨fun γ T es h => (by cases h), fun γ cs h => (by cases h)⟩⟩
  obtain ⟨G', s0, hle, hI', hg, ht⟩ := main
  refine ⟨G', hle, ?_, ht⟩
  have look : ∀ {l j g r}, ((told1 k st).s.emb σ pre).get l j = some (g, r) → ∃ r0, s0.get l j = some (g, r0) ∧ RRep G' g w r ∧ owns G' g r = owns G' g r0 := by
    intro l j g r h
    obtain ⟨hne, h1⟩ := told_get h
    rw [hg _ _ hne]
    rcases h1 with h1 | ⟨r0, h1, h2⟩
    · exact ⟨r, h1, hI'.res l j g r (by rw [hg _ _ hne]; exact h1), rfl⟩
    · simp only at h1 h2
      subst h2
      exact ⟨_, h1, toldR_rep hle ht (hI.res _ _ _ _ h1), owns_told _ _ _ _ _ _⟩
  refine ⟨hI'.sl, fun l k g r h => (by obtain ⟨r0, _, h2, _⟩ := look h; exact h2), fun l k g r l' k' g' r' b h1 h2 h3 h4 => ?_, fun l k g r b h1 h2 => ?_, hI'.fresh, hI'.env⟩
  · rcases look h1 with ⟨r1, e1, _, o1⟩
    rcases look h2 with ⟨r2, e2, _, o2⟩
    exact hI'.sep _ _ _ _ _ _ _ _ _ e1 e2 (o1 ▸ h3) (o2 ▸ h4)
  · rcases look h1 with ⟨r1, e1, _, o1⟩
    exact hI'.out _ _ _ _ _ e1 (o1 ▸ h2)

theorem told1_code {n N : Nat} {ρ : Option Nat} {c : Code} {K : Exit → Fr → St → Prop} {k : Nat} {st : XS} (h : CodeOK P n N ρ c K ((told1 k st).fr.ren σ pre.length) ((told1 k st).s.emb σ pre)) : CodeOK P n N ρ c K (st.fr.ren σ pre.length) (st.s.emb σ pre) := by
  intro G0 G a w hR
  obtain ⟨G', hle, hI', ht⟩ := told_inv (k := k) hR.inv
  refine h G0 G' a w ⟨⟨fun _ _ h => hle.1 _ _ (hR.le.1 _ _ h), fun _ _ h => hle.2 _ _ (hR.le.2 _ _ h), hle.3.trans hR.le.3⟩, hI', fun j c v hj => ?_, hR.size, hR.lvl, ?_⟩
  · rw [Fr.get_ren] at hj
    have hj' : ((toldF st.s.up.length k (st.s.loc.get k) st.fr).get j).map (fun p => (p.1, p.2.ren σ pre.length)) = some (c, v) := hj
    rw [toldF_get] at hj'
    cases hg : st.fr.get j with
    | none => rw [hg] at hj'; cases hj'
    | some y =>
      rw [hg] at hj'
      obtain ⟨c0, v0⟩ := y
      cases hj'
      obtain ⟨x, q1, q2, q3⟩ := hR.fr j c0 (v0.ren σ pre.length) (by rw [Fr.get_ren, hg]; rfl)
      exact ⟨x, q1, fun hc => told_rep hle ht 3 _ _ (q2 hc), q3⟩
  · obtain ⟨rs, m1, m2, m3⟩ := hR.marks
    exact ⟨rs, m1, m2, fun r hr => ⟨(m3 r hr).1, hle.1 _ _ (m3 r hr).2⟩⟩

def TBd (c : Nat) (o : Option (Nat × Res)) : Prop := (∀ γ T es, o = some (γ, .vec T es) → ∀ σ σ' δ, agree c σ σ' → es.map (List.map (V.ren σ δ)) = es.map (List.map (V.ren σ' δ))) ∧ ∀ γ cs, o = some (γ, .box cs) → ∀ σ σ' δ, agree c σ σ' → cs.map (V.ren σ δ) = cs.map (V.ren σ' δ)
theorem told_bd {l k c : Nat} {o : Option (Nat × Res)} (ho : TBd c o) {σ σ' : Nat → Nat} {δ : Nat} (ha : agree c σ σ') : ∀ (f : Nat) (v : V), v.ren σ δ = v.ren σ' δ → (toldV l k o f v).ren σ δ = (toldV l k o f v).ren σ' δ
  | 0, v, h => h
  | f + 1, v, h => by
    have ih := told_bd (l := l) (k := k) ho ha (δ := δ) f
    have lst : ∀ cs : List V, cs.map (V.ren σ δ) = cs.map (V.ren σ' δ) → (cs.map (toldV l k o f)).map (V.ren σ δ) = (cs.map (toldV l k o f)).map (V.ren σ' δ) := by
      intro cs h
      simp only [List.map_map]
      refine List.map_congr_left fun x hx => ?_
      exact ih x (List.map_inj_left.1 h x hx)
    cases v with
    | vec l' k' g m =>
      simp only [toldV]
      split
      · split
        · simp only [ren_list]; rw [ho.1 _ _ _ rfl σ σ' δ ha]
        · exact h
      · exact h
    | ptr l' k' g off =>
      simp only [toldV]
      split
      · split
        · simp only [ren_ref]; rw [anyMs_ren, anyMs_ren, ho.2 _ _ rfl σ σ' δ ha]
        · exact h
      · exact h
    | agg cs =>
      simp only [toldV, ren_agg, V.agg.injEq] at h ⊢
      exact lst cs h
    | tup cs =>
      simp only [toldV, ren_tup, V.tup.injEq] at h ⊢
      exact lst cs h
    | _ => exact h

theorem vec_bd {c k γ : Nat} {T : TypeId} {es : List (List V)} {L : Level} (hL : ∀ σ σ' δ, agree c σ σ' → L.ren σ δ = L.ren σ' δ) (h : L.get k = some (γ, .vec T es)) : ∀ σ σ' δ, agree c σ σ' → es.map (List.map (V.ren σ δ)) = es.map (List.map (V.ren σ' δ)) := by
  intro σ σ' δ ha
  have e1 : (L.ren σ δ).get k = some (σ γ, .vec T (es.map (List.map (V.ren σ δ)))) := by rw [Level.get_ren, h]; rfl
  have e2 : (L.ren σ' δ).get k = some (σ' γ, .vec T (es.map (List.map (V.ren σ' δ)))) := by rw [Level.get_ren, h]; rfl
  rw [hL σ σ' δ ha, e2] at e1
  simp only [Option.some.injEq, Prod.mk.injEq, Res.vec.injEq] at e1
  exact e1.2.2.symm
theorem loc_bd {st : XS} (h : Bd st) : ∀ σ σ' δ, agree st.c σ σ' → st.s.loc.ren σ δ = st.s.loc.ren σ' δ := by
  intro σ σ' δ ha
  have q := h.s σ σ' (List.replicate δ []) ha
  simp only [St.emb, St.mk.injEq, List.length_replicate] at q
  exact q.2
theorem box_bd {c k γ : Nat} {cs : List V} {L : Level} (hL : ∀ σ σ' δ, agree c σ σ' → L.ren σ δ = L.ren σ' δ) (h : L.get k = some (γ, .box cs)) : ∀ σ σ' δ, agree c σ σ' → cs.map (V.ren σ δ) = cs.map (V.ren σ' δ) := by
  intro σ σ' δ ha
  have e1 : (L.ren σ δ).get k = some (σ γ, .box (cs.map (V.ren σ δ))) := by rw [Level.get_ren, h]; rfl
  have e2 : (L.ren σ' δ).get k = some (σ' γ, .box (cs.map (V.ren σ' δ))) := by rw [Level.get_ren, h]; rfl
  rw [hL σ σ' δ ha, e2] at e1
  simp only [Option.some.injEq, Prod.mk.injEq, Res.box.injEq] at e1
  exact e1.2.symm
theorem toldL_bd {l k c : Nat} {o : Option (Nat × Res)} (ho : TBd c o) {σ σ' : Nat → Nat} {δ : Nat} (ha : agree c σ σ') : ∀ (L : Level), L.ren σ δ = L.ren σ' δ → (toldL l k o L).ren σ δ = (toldL l k o L).ren σ' δ
  | [], _ => rfl
  | (j, g, r) :: L, h => by
    simp only [Level.ren, List.map_cons, List.cons.injEq, Prod.mk.injEq, true_and] at h
    have ih := toldL_bd (l := l) (k := k) ho ha L h.2
    simp only [toldL]
    split
    · exact ih
    · simp only [Level.ren, List.map_cons, List.cons.injEq, Prod.mk.injEq, true_and]
      refine ⟨⟨h.1.1, ?_⟩, ih⟩
      have hr := h.1.2
      have lst : ∀ cs : List V, cs.map (V.ren σ δ) = cs.map (V.ren σ' δ) → (cs.map (toldV l k o 3)).map (V.ren σ δ) = (cs.map (toldV l k o 3)).map (V.ren σ' δ) := by
        intro cs h
        simp only [List.map_map]
        exact List.map_congr_left fun x hx => told_bd ho ha 3 x (List.map_inj_left.1 h x hx)
      cases r with
      | box cs =>
        simp only [toldR, Res.ren, Res.box.injEq] at hr ⊢
        exact lst cs hr
      | vec T es =>
        simp only [toldR, Res.ren, Res.vec.injEq, true_and, List.map_map] at hr ⊢
        refine List.map_congr_left fun e he => ?_
        exact lst e (List.map_inj_left.1 hr e he)
      | _ => exact hr
theorem told1_ext {k : Nat} {st : XS} (h : Bd st) : Ext st (told1 k st) := by
  have ho : TBd st.c (st.s.loc.get k) := ⟨fun γ T es hg => vec_bd (loc_bd h) hg, fun γ cs hg => box_bd (loc_bd h) hg⟩
  refine ⟨Nat.le_refl _, ⟨fun σ σ' δ ha => ?_, fun σ σ' pre ha => ?_, fun l j γ fr ps asg body N ls hg => ?_⟩, rfl⟩
  · have q := h.f σ σ' δ ha
    simp only [told1, toldF, Fr.ren, List.map_map] at q ⊢
    refine List.map_congr_left fun x hx => ?_
    have := List.map_inj_left.1 q x hx
    simp only [Prod.mk.injEq, true_and] at this
    simp only [Function.comp, Prod.mk.injEq, true_and]
    exact told_bd ho ha 3 _ this
  · have q := h.s σ σ' pre ha
    simp only [St.emb, St.mk.injEq] at q
    simp only [told1, St.emb, St.mk.injEq]
    exact ⟨q.1, toldL_bd ho ha _ q.2⟩
  · have hg' : (told1 k st).s.get l j = some (γ, .loop fr ps asg body N ls) := hg
    refine h.lp l j γ fr ps asg body N ls ?_
    unfold St.get at hg' ⊢
    have hup : (told1 k st).s.up = st.s.up := rfl
    rw [hup] at hg'
    split
    · rename_i e
      rw [if_pos e] at hg'
      have hg' : (toldL st.s.up.length k (st.s.loc.get k) st.s.loc).get j = some (γ, .loop fr ps asg body N ls) := hg'
      rw [toldL_get] at hg'
      split at hg'
      · cases hg'
      · cases hq : st.s.loc.get j with
        | none => rw [hq] at hg'; cases hg'
        | some y =>
          rw [hq] at hg'
          obtain ⟨g, r⟩ := y
          cases r with
          | loop _ _ _ _ _ _ => exact hg'
          | _ => simp [toldR] at hg'
    · rename_i e; rw [if_neg e] at hg'; exact hg'

theorem toldO_c : ∀ (ks : List Nat) (st : XS), (toldO ks st).c = st.c
  | [], _ => rfl
  | k :: ks, st => toldO_c ks (told1 k st)
theorem toldO_ext : ∀ (ks : List Nat) {st : XS}, Bd st → Ext st (toldO ks st)
  | [], st, h => ⟨Nat.le_refl _, h, rfl⟩
  | k :: ks, st, h => by
    have h1 := told1_ext (k := k) h
    have h2 := toldO_ext ks h1.bd
    exact ⟨Nat.le_trans h1.c h2.c, h2.bd, h2.n.trans h1.n⟩
theorem toldO_code {n N : Nat} {ρ : Option Nat} {c : Code} {K : Exit → Fr → St → Prop} : ∀ (ks : List Nat) {st : XS}, CodeOK P n N ρ c K ((toldO ks st).fr.ren σ pre.length) ((toldO ks st).s.emb σ pre) → CodeOK P n N ρ c K (st.fr.ren σ pre.length) (st.s.emb σ pre)
  | [], _, h => h
  | k :: ks, st, h => told1_code (k := k) (toldO_code ks (st := told1 k st) h)

end Go.Pg
/- A row is read as a list by one call that gives a number or a bool; it stays a row. No program in sight. -/
namespace Go.Pg
variable {P : Program} {σ σ' : Nat → Nat} {δ : Nat} {pre : List Level} {s : St} {fr : Fr} {G G' : Gh} {w : World}

def rowsV (st : XS) : List Nat → V → V
  | [], v => v
  | k :: ks, v => rowsV st ks (cond (Nat.blt k 10000) (toldV st.s.up.length k (st.s.loc.get k) 3 v) (toldV (k / 10000 - 1) (k % 10000) (st.s.get (k / 10000 - 1) (k % 10000)) 3 v))
def flatC0 : V → Bool
  | .int .. => true
  | .bool _ => true
  | _ => false
def flatR : V → Bool
  | .int .. => true
  | .bool _ => true
  | .agg cs => cs.all flatC0
  | _ => false
noncomputable def callU (cf : CF) (c0 : CF0) (ks : List Nat) : CF := fun f args st => match c0 f (args.map (rowsV st ks)) with
  | some r => Bool.rec (cf f args st) (some (r, st)) (flatR r)
  | none => cf f args st
noncomputable def cfU (ks : List Nat) (E : XE) : XE := match ks with
  | [] => E
  | _ :: _ => ⟨callU E.cf E.c0 ks, E.cy, E.c0, E.co, E.lit⟩

def allG (G : Gh) (w : World) : Gh := { sl := fun b => w.heap[b]?, be := G.be, env := G.env }
def allE (G : Gh) (w : World) : Gh := { sl := fun b => w.heap[b]?, be := G.be, env := (w.os, w.output, w.heap.size) }
theorem allG_le (hI : Inv G s w) : G.le (allG G w) := ⟨hI.sl, fun _ _ h => h, rfl⟩
theorem allG_lec : (allG G w).lec (allE G w) := ⟨fun _ _ _ _ h => h, fun _ _ h => h⟩
theorem allE_inv (hI : Inv G s w) : Inv (allE G w) ⟨[], []⟩ w where
  sl _ _ h := h
  res l k g r h := by simp [St.get] at h
  sep l k g r l' k' g' r' b h := by simp [St.get] at h
  out l k g r b h := by simp [St.get] at h
  fresh := hI.fresh
  env := ⟨rfl, rfl, Nat.le_refl _, fun b c T fz h1 h2 => by
    have h3 := (Array.getElem?_eq_some_iff.1 h2).1
    have h4 : w.heap.size ≤ b := h1
    omega⟩
theorem vec_allG {l k g n : Nat} {v : Value} (h : RepV (allG G w) (.vec l k g n) v) : RepV G (.vec l k g n) v := by
  cases h with
  | vec _ _ _ _ b sz C a h1 h2 h3 => exact .vec _ _ _ _ b sz C a h1 h2 h3
theorem ptr_allG {l k g n : Nat} {v : Value} (h : RepV (allG G w) (.ptr l k g n) v) : RepV G (.ptr l k g n) v := by
  cases h with
  | ptr _ _ _ _ b sz C h1 => exact .ptr _ _ _ _ b sz C h1
theorem rows_told {st : XS} (hI : Inv G (st.s.emb σ pre) w) (l k : Nat) : ToldOK (allG G w) (allG G w) σ pre.length l k (st.s.get l k) := by
  refine ⟨fun γ T es ho v hv => ?_, fun γ cs ho off v hv => ?_⟩
  · have hget : (st.s.emb σ pre).get (l + pre.length) k = some (σ γ, .vec T (es.map (List.map (V.ren σ pre.length)))) := by
      rw [emb_get, ho]
      rfl
    have := vec_shut hI (allG_le hI) hget (m := es.length) (by simp) (fun _ _ => rfl) (vec_allG hv)
    rwa [List.take_of_length_le (by simp)] at this
  · have hget : (st.s.emb σ pre).get (l + pre.length) k = some (σ γ, .box (cs.map (V.ren σ pre.length))) := by
      rw [emb_get, ho]
      rfl
    rw [anyMs_ren]
    exact ptr_shut hI (allG_le hI) hget (fun _ _ => rfl) (ptr_allG hv)
theorem rows_told' {st : XS} (hI : Inv G (st.s.emb σ pre) w) (k : Nat) : ToldOK (allG G w) (allG G w) σ pre.length st.s.up.length k (st.s.loc.get k) := by
  have := rows_told hI st.s.up.length k
  rwa [get_loc] at this
theorem rowsV_rep {st : XS} (hI : Inv G (st.s.emb σ pre) w) : ∀ (ks : List Nat) (x : V) (v : Value), RepV (allG G w) (x.ren σ pre.length) v → RepV (allG G w) ((rowsV st ks x).ren σ pre.length) v
  | [], _, _, h => h
  | k :: ks, x, v, h => by
    unfold rowsV
    cases Nat.blt k 10000 with
    | true => exact rowsV_rep hI ks _ v (told_rep (Gh.le_refl _) (rows_told' hI k) 3 x v h)
    | false => exact rowsV_rep hI ks _ v (told_rep (Gh.le_refl _) (rows_told hI _ _) 3 x v h)
theorem inv_back {s' : St} {w' : World} (hI : Inv G s w) (hle : (allE G w).le G') (hI' : Inv G' s' w') : Inv G s w' := by
  have he : G'.env = (w.os, w.output, w.heap.size) := hle.e
  obtain ⟨h1, h2, h3, h4⟩ := hI'.env
  rw [he] at h1 h2 h3 h4
  have hold : ∀ i, i < w.heap.size → w'.heap[i]? = w.heap[i]? := fun i hi => by
    have := hI'.sl i w.heap[i] (hle.1 i _ (show w.heap[i]? = some w.heap[i] by simp [hi]))
    rw [this]; simp [hi]
  obtain ⟨e1, e2, e3, e4⟩ := hI.env
  refine ⟨fun b o h => ?_, fun l k g r h => (hI.res l k g r h).keep (Gh.le_refl _) fun b hb => hold b (hI.out _ _ _ _ _ h hb).2, hI.sep, fun l k g r b h hb => ⟨(hI.out _ _ _ _ _ h hb).1, Nat.lt_of_lt_of_le (hI.out _ _ _ _ _ h hb).2 h3⟩, hI.fresh, ⟨h1.trans e1, h2.trans e2, Nat.le_trans e3 h3, fun b c T fz hb hc => ?_⟩⟩
  · have h := hI.sl b o h
    rw [hold b (Array.getElem?_eq_some_iff.1 h).1]
    exact h
  · rcases Nat.lt_or_ge b w.heap.size with hl | hl
    · rw [hold b hl] at hc
      exact e4 b c T fz hb hc
    · exact h4 b c T fz hl hc
theorem flat_rep {r : V} {v : Value} (hf : flatR r = true) (h : RepV G' r v) : RepV G r v := by
  cases r with
  | int k n => cases h; exact .int _ _
  | bool b => cases h; exact .bool _
  | agg cs =>
    cases h with
    | agg _ arr hl hc hr =>
      refine .agg _ arr hl hc fun i h1 h2 => ?_
      have q := hr i h1 h2
      have f := List.all_eq_true.1 (show cs.all flatC0 = true from hf) _ (List.getElem_mem h1)
      generalize cs[i] = c at *
      generalize arr[i] = z at *
      cases c with
      | int k n => cases q; exact .int _ _
      | bool b => cases q; exact .bool _
      | _ => cases f
  | _ => cases hf
theorem callU_ok {cf : CF} (hcf : CallX P cf) {c0 : CF0} (hc0 : CallX0 P c0) (ks : List Nat) : CallX P (callU cf c0 ks) := by
  intro f args st r st' hx hbd hargs
  unfold callU at hx
  split at hx
  · rename_i r0 h0
    cases hf : flatR r0 with
    | false =>
      rw [hf] at hx
      exact hcf f args st r st' hx hbd hargs
    | true =>
      rw [hf] at hx
      cases hx
      obtain ⟨hA, h1, h2⟩ := hc0 _ _ _ h0
      refine ⟨⟨Nat.le_refl _, hbd, rfl⟩, fun σ σ' δ _ => by rw [h2, h2], rfl, fun σ pre K hk => ⟨(hA ⟨[], []⟩).1, fun G vals w R hI ha hR => ?_⟩⟩
      refine (hA ⟨[], []⟩).2 (allE G w) vals w R (allE_inv hI) ?_ fun G' r' v w' s' hle hI' hv hlen hk' => ?_
      · refine ⟨by simpa using ha.1, fun i p q => ?_⟩
        have hr := ha.2 i (by simpa using p) q
        simp only [List.getElem_map] at hr ⊢
        have h3 := rowsV_rep hI ks _ _ (hr.mono (allG_le hI))
        rw [h1 _ (List.mem_map_of_mem (List.getElem_mem _))] at h3
        exact h3.monoC allG_lec
      · obtain ⟨rfl, rfl⟩ := hk'
        have := hk σ (agree.refl _ _)
        rw [h2] at this
        exact hR G r' v w' _ (Gh.le_refl _) (inv_back hI hle hI') (flat_rep hf hv) rfl this
  · exact hcf f args st r st' hx hbd hargs
theorem cfU_ok {E : XE} (h : XEOK P E) (ks : List Nat) : XEOK P (cfU ks E) := by
  cases ks with
  | nil => exact h
  | cons k ks => exact ⟨callU_ok h.cf h.c0 _, h.cy, h.c0, h.co⟩
end Go.Pg
/- A place of the running call's is moved to one below it: its name is another, nothing else. No program in sight. -/
namespace Go.Pg
variable {P : Program} {σ σ' : Nat → Nat} {δ : Nat} {pre : List Level} {s : St} {fr : Fr} {G G' : Gh} {w : World} {n k l d : Nat}

def mvP (n k l d : Nat) : Nat → V → V
  | 0, v => v
  | f + 1, v => match v with
    | .vec l' k' γ m => if l' = n ∧ k' = k then .vec l d γ m else v
    | .ptr l' k' γ o => if l' = n ∧ k' = k then .ptr l d γ o else v
    | .mp l' k' γ => if l' = n ∧ k' = k then .mp l d γ else v
    | .agg cs => .agg (cs.map (mvP n k l d f))
    | .tup cs => .tup (cs.map (mvP n k l d f))
    | v => v
def mvR (n k l d : Nat) : Res → Res
  | .box cs => .box (cs.map (mvP n k l d 3))
  | .vec T es => .vec T (es.map (List.map (mvP n k l d 3)))
  | r => r
def mvF (n k l d : Nat) (fr : Fr) : Fr := fr.map fun x => (x.1, x.2.1, mvP n k l d 3 x.2.2)
def mvL (n k l d : Nat) : Level → Level
  | [] => []
  | (j, g, r) :: L => if j = k then mvL n k l d L else (j, g, mvR n k l d r) :: mvL n k l d L
def delL (u : Nat) : Level → Level
  | [] => []
  | (j, x) :: L => if j = u then delL u L else (j, x) :: delL u L
def mvU (n k l d : Nat) : List Nat → Level → Level
  | [], L => L
  | u :: us, L => match L.get u with
    | some (g, r) => (u, g, mvR n k l d r) :: mvU n k l d us (delL u L)
    | none => mvU n k l d us L
def mvS (k l d : Nat) (us : List Nat) (s : St) (o : Option (Nat × Res)) : St := match o with
  | some (γ, r) => St.put ⟨s.up.modify l (mvU s.up.length k l d us), mvL s.up.length k l d s.loc⟩ l d γ (mvR s.up.length k l d r)
  | none => s
def mvOK (l n : Nat) : Option (Nat × Res) → Bool
  | some (_, r) => Nat.blt l n && plR r
  | none => false
noncomputable def mv1 (k l d : Nat) (us : List Nat) (st : XS) : XS := Bool.rec st ⟨st.c, mvF st.s.up.length k l d st.fr, mvS k l d us st.s (st.s.loc.get k)⟩ (mvOK l st.s.up.length (st.s.loc.get k))

theorem mvP_cell : ∀ (f : Nat) (v : V), (v.ren σ δ).isCell = true → ((mvP n k l d f v).ren σ δ).isCell = true
  | 0, v, h => h
  | f + 1, v, h => by
    cases v with
    | agg cs => simp only [ren_agg] at h; cases h
    | tup cs => simp only [ren_tup] at h; cases h
    | vec l' k' g m => simp only [mvP]; split <;> (simp only [ren_vec]; rfl)
    | ptr l' k' g m => simp only [mvP]; split <;> (simp only [ren_ptr]; rfl)
    | mp l' k' g => simp only [mvP]; split <;> (simp only [ren_mp]; rfl)
    | _ => exact h
theorem mvP_rep : ∀ (f : Nat) (x : V) (v : Value), RepV G (x.ren σ δ) v → RepV G ((mvP n k l d f x).ren σ δ) v
  | 0, x, v, h => h
  | f + 1, x, v, h => by
    have ih := mvP_rep f
    cases x with
    | vec l' k' g m =>
      simp only [mvP]
      split
      · simp only [ren_vec] at h ⊢
        cases h with
        | vec _ _ _ _ b sz C a h1 h2 h3 => exact .vec _ _ _ _ b sz C a h1 h2 h3
      · exact h
    | ptr l' k' g o =>
      simp only [mvP]
      split
      · simp only [ren_ptr] at h ⊢
        cases h with
        | ptr _ _ _ _ b sz C h1 => exact .ptr _ _ _ _ b sz C h1
      · exact h
    | mp l' k' g =>
      simp only [mvP]
      split
      · simp only [ren_mp] at h ⊢
        cases h with
        | mp _ _ _ b sz C h1 => exact .mp _ _ _ b sz C h1
      · exact h
    | agg cs =>
      simp only [mvP, ren_agg] at h ⊢
      cases h with
      | agg _ arr hl hc hr =>
        refine .agg _ arr (by simpa using hl) (fun c hc' => ?_) (fun i h1 h2 => ?_)
        · simp only [List.mem_map] at hc'
          obtain ⟨d', ⟨e, he, rfl⟩, rfl⟩ := hc'
          exact mvP_cell f e (hc _ (List.mem_map_of_mem he))
        · have q := hr i (by simpa using h1) h2
          simp only [List.getElem_map] at q ⊢
          exact ih _ _ q
    | tup cs =>
      simp only [mvP, ren_tup] at h ⊢
      cases h with
      | tup _ arr hl hr =>
        refine .tup _ arr (by simpa using hl) (fun i h1 h2 => ?_)
        have q := hr i (by simpa using h1) h2
        simp only [List.getElem_map] at q ⊢
        exact ih _ _ q
    | _ => exact h
theorem mvPs_rep {cs : List V} {vs : List Value} (h : RepL G (cs.map (V.ren σ δ)) vs) : RepL G ((cs.map (mvP n k l d 3)).map (V.ren σ δ)) vs :=
  ⟨by simpa using h.1, fun i p q => by
    have r := h.2 i (by simpa using p) q
    simp only [List.getElem_map] at r ⊢
    exact ⟨mvP_cell 3 _ r.1, mvP_rep 3 _ _ r.2⟩⟩
theorem mvR_rep {g : Nat} {r : Res} (h : RRep G g w (r.ren σ δ)) : RRep G g w ((mvR n k l d r).ren σ δ) := by
  cases r with
  | box cs =>
    obtain ⟨b, arr, T, h1, h2, h3⟩ := h
    exact ⟨b, arr, T, by simpa using h1, h2, mvPs_rep h3⟩
  | vec T es =>
    obtain ⟨b, sz, C, h1, h2, h3, h4, h5⟩ := h
    refine ⟨b, sz, C, h1, by simpa using h2, fun e he => ?_, ⟨h4.1, fun h => h4.2 (by simpa using h)⟩, fun hC => ?_⟩
    · simp only [List.mem_map] at he
      obtain ⟨e1, ⟨e2, he2, rfl⟩, rfl⟩ := he
      have := h3 (e2.map (V.ren σ δ)) (List.mem_map_of_mem he2)
      simpa using this
    · obtain ⟨arr, h6, h7, h8⟩ := h5 hC
      refine ⟨arr, h6, h7, ?_⟩
      have q : RepL G (es.flatten.map (V.ren σ δ)) (arr.toList.take (es.length * sz)) := by
        rw [List.map_flatten]
        simpa using h8
      have q2 := mvPs_rep (n := n) (k := k) (l := l) (d := d) q
      rw [List.map_flatten, List.map_flatten] at q2
      simpa using q2
  | map es => exact h
  | loop fr ps asg body N st => exact h
  | dead => trivial
theorem owns_mv (G : Gh) (g : Nat) (r : Res) : owns G g ((mvR n k l d r).ren σ δ) = owns G g (r.ren σ δ) := by cases r <;> rfl
theorem mvF_get : ∀ (fr : Fr) (j : Nat), (mvF n k l d fr).get j = (fr.get j).map fun x => (x.1, mvP n k l d 3 x.2)
  | [], _ => rfl
  | (i, c, v) :: fr, j => by
    have ih := mvF_get fr j
    simp only [mvF, List.map_cons, Fr.get] at ih ⊢
    split
    · rfl
    · exact ih
theorem mvL_get : ∀ (L : Level) (j : Nat), (mvL n k l d L).get j = if j = k then none else (L.get j).map fun x => (x.1, mvR n k l d x.2)
  | [], j => by simp [mvL]
  | (i, g, r) :: L, j => by
    have ih := mvL_get L j
    unfold mvL
    by_cases h : i = k
    · rw [if_pos h, ih]
      by_cases hj : j = k
      · simp [hj]
      · rw [if_neg hj, if_neg hj, Level.get, if_neg (by rw [h]; exact hj)]
    · rw [if_neg h]
      simp only [Level.get]
      by_cases hj : j = i
      · subst hj; rw [if_pos rfl, if_pos rfl, if_neg h]; rfl
      · rw [if_neg hj, if_neg hj, ih]
theorem delL_get (u : Nat) : ∀ (L : Level) (j : Nat), (delL u L).get j = if j = u then none else L.get j
  | [], j => by simp [delL, Level.get]
  | (q, x) :: L, j => by
    have ih := delL_get u L j
    unfold delL
    by_cases h : q = u
    · rw [if_pos h, ih]
      subst h
      by_cases hj : j = q
      · rw [if_pos hj, if_pos hj]
      · rw [if_neg hj, if_neg hj]
        simp only [Level.get]
        rw [if_neg hj]
    · rw [if_neg h]
      simp only [Level.get]
      by_cases hj : j = q
      · subst hj; rw [if_pos rfl, if_neg h, if_pos rfl]
      · rw [if_neg hj, if_neg hj, ih]
theorem mvU_get : ∀ (us : List Nat) (L : Level) (j : Nat) (x : Nat × Res), (mvU n k l d us L).get j = some x → L.get j = some x ∨ ∃ r, L.get j = some (x.1, r) ∧ x.2 = mvR n k l d r
  | [], L, j, x, h => .inl h
  | u :: us, L, j, x, h => by
    unfold mvU at h
    split at h
    · rename_i g r e
      simp only [Level.get] at h
      split at h
      · rename_i e2
        subst e2
        cases h
        exact .inr ⟨r, e, rfl⟩
      · rename_i hne
        have := mvU_get us _ j x h
        rw [delL_get, if_neg hne] at this
        exact this
    · exact mvU_get us L j x h
theorem get_put_at {s : St} {l k γ : Nat} {r : Res} {l' k' : Nat} {x : Nat × Res} (h : (s.put l k γ r).get l' k' = some x) : (l' = l ∧ k' = k ∧ x = (γ, r)) ∨ (¬ (l' = l ∧ k' = k) ∧ s.get l' k' = some x) := by
  unfold St.put at h
  unfold St.get at h ⊢
  by_cases e1 : l = s.up.length
  · rw [if_pos e1] at h
    by_cases e2 : l' = s.up.length
    · rw [if_pos e2] at h ⊢
      rw [Level.get_put] at h
      split at h
      · rename_i e; exact .inl ⟨e2.trans e1.symm, e, (Option.some.inj h).symm⟩
      · rename_i e; exact .inr ⟨fun hh => e hh.2, h⟩
    · rw [if_neg e2] at h ⊢; exact .inr ⟨fun hh => e2 (hh.1.trans e1), h⟩
  · rw [if_neg e1] at h
    have hl : ({ s with up := s.up.modify l (fun L => L.put k γ r) } : St).up.length = s.up.length := by simp
    rw [hl] at h
    by_cases e2 : l' = s.up.length
    · rw [if_pos e2] at h ⊢; exact .inr ⟨fun hh => e1 (hh.1.symm.trans e2), h⟩
    · rw [if_neg e2] at h ⊢
      rw [List.getElem?_modify] at h
      cases hu : s.up[l']? with
      | none => simp [hu] at h
      | some L =>
        rw [hu] at h
        simp only [Option.map_eq_map, Option.map_some] at h
        by_cases e3 : l = l'
        · simp only [e3, if_true, Level.get_put] at h
          split at h
          · rename_i e; exact .inl ⟨e3.symm, e, (Option.some.inj h).symm⟩
          · rename_i e; exact .inr ⟨fun hh => e hh.2, h⟩
        · simp only [e3, if_false] at h; exact .inr ⟨fun hh => e3 hh.1.symm, h⟩

theorem mvS_get {us : List Nat} {γ : Nat} {r : Res} {l1 k1 : Nat} {x : Nat × Res} (h : (mvS k l d us s (some (γ, r))).get l1 k1 = some x) :
    (l1 = l ∧ k1 = d ∧ x = (γ, mvR s.up.length k l d r)) ∨ (¬ (l1 = l ∧ k1 = d) ∧ ¬ (l1 = s.up.length ∧ k1 = k) ∧ (s.get l1 k1 = some x ∨ ∃ r0, s.get l1 k1 = some (x.1, r0) ∧ x.2 = mvR s.up.length k l d r0)) := by
  rcases get_put_at h with ⟨h1, h2, h3⟩ | ⟨h1, h2⟩
  · exact .inl ⟨h1, h2, h3⟩
  · refine .inr ⟨h1, ?_⟩
    have hlen : (s.up.modify l (mvU s.up.length k l d us)).length = s.up.length := by simp
    unfold St.get at h2 ⊢
    simp only [hlen] at h2
    by_cases e : l1 = s.up.length
    · rw [if_pos e] at h2 ⊢
      rw [mvL_get] at h2
      split at h2
      · cases h2
      · rename_i hk
        refine ⟨fun hh => hk hh.2, .inr ?_⟩
        obtain ⟨y, hy, rfl⟩ := Option.map_eq_some_iff.1 h2
        exact ⟨y.2, hy, rfl⟩
    · rw [if_neg e] at h2 ⊢
      refine ⟨fun hh => e hh.1, ?_⟩
      rw [List.getElem?_modify] at h2
      cases hu : s.up[l1]? with
      | none => simp [hu] at h2
      | some L =>
        rw [hu] at h2
        simp only [Option.map_eq_map, Option.map_some] at h2 ⊢
        by_cases e3 : l = l1
        · simp only [e3, if_true] at h2
          rw [← e3] at h2
          exact mvU_get us L k1 x h2
        · simp only [e3, if_false] at h2; exact .inl h2
theorem emb_low {s s' : St} {l1 k1 : Nat} (h : l1 < pre.length) : (s.emb σ pre).get l1 k1 = (s'.emb σ pre).get l1 k1 := by
  unfold St.get
  rw [emb_len, emb_len, if_neg (by omega), if_neg (by omega)]
  simp only [St.emb, List.getElem?_append_left h]
theorem mvS_len {us : List Nat} {o : Option (Nat × Res)} : (mvS k l d us s o).up.length = s.up.length := by
  cases o with
  | none => rfl
  | some x => unfold mvS; rw [St.put_len]; simp

theorem mv_inv {us : List Nat} {γ : Nat} {r : Res} (hr : s.loc.get k = some (γ, r)) (hI : Inv G (s.emb σ pre) w) : Inv G ((mvS k l d us s (some (γ, r))).emb σ pre) w := by
  have look : ∀ {l1 k1 g r1}, ((mvS k l d us s (some (γ, r))).emb σ pre).get l1 k1 = some (g, r1) → ∃ l0 k0 r0, (s.emb σ pre).get l0 k0 = some (g, r0) ∧ RRep G g w r1 ∧ owns G g r1 = owns G g r0 ∧
      ((l1 = l + pre.length ∧ k1 = d ∧ l0 = s.up.length + pre.length ∧ k0 = k) ∨ (¬ (l1 = l + pre.length ∧ k1 = d) ∧ ¬ (l1 = s.up.length + pre.length ∧ k1 = k) ∧ l0 = l1 ∧ k0 = k1)) := by
    intro l1 k1 g r1 h
    by_cases hp : l1 < pre.length
    · rw [emb_low (s' := s) hp] at h
      exact ⟨l1, k1, r1, h, hI.res _ _ _ _ h, rfl, .inr ⟨fun hh => by omega, fun hh => by omega, rfl, rfl⟩⟩
    · obtain ⟨l2, rfl⟩ : ∃ l2, l1 = l2 + pre.length := ⟨l1 - pre.length, by omega⟩
      rw [emb_get] at h
      obtain ⟨⟨γ', r'⟩, h1, h2⟩ := Option.map_eq_some_iff.1 h
      cases h2
      rcases mvS_get h1 with ⟨rfl, rfl, e⟩ | ⟨e1, e2, e3⟩
      · cases e
        have h0 : (s.emb σ pre).get (s.up.length + pre.length) k = some (σ γ, r.ren σ pre.length) := by
          rw [emb_get, get_loc, hr]; rfl
        exact ⟨_, _, _, h0, mvR_rep (hI.res _ _ _ _ h0), owns_mv _ _ _, .inl ⟨rfl, rfl, rfl, rfl⟩⟩
      · rcases e3 with e3 | ⟨r0, e3, rfl⟩
        · have h0 : (s.emb σ pre).get (l2 + pre.length) k1 = some (σ γ', r'.ren σ pre.length) := by rw [emb_get, e3]; rfl
          exact ⟨_, _, _, h0, hI.res _ _ _ _ h0, rfl, .inr ⟨fun hh => e1 ⟨by omega, hh.2⟩, fun hh => e2 ⟨by omega, hh.2⟩, rfl, rfl⟩⟩
        · have h0 : (s.emb σ pre).get (l2 + pre.length) k1 = some (σ γ', r0.ren σ pre.length) := by rw [emb_get, e3]; rfl
          exact ⟨_, _, _, h0, mvR_rep (hI.res _ _ _ _ h0), owns_mv _ _ _, .inr ⟨fun hh => e1 ⟨by omega, hh.2⟩, fun hh => e2 ⟨by omega, hh.2⟩, rfl, rfl⟩⟩
  refine ⟨hI.sl, fun l k g r h => (by obtain ⟨_, _, _, _, h2, _⟩ := look h; exact h2), fun l1 k1 g1 r1 l2 k2 g2 r2 b h1 h2 h3 h4 => ?_, fun l1 k1 g1 r1 b h1 h2 => ?_, hI.fresh, hI.env⟩
  · obtain ⟨a1, a2, a3, a4, _, a6, a7⟩ := look h1
    obtain ⟨b1, b2, b3, b4, _, b6, b7⟩ := look h2
    have hs := hI.sep _ _ _ _ _ _ _ _ _ a4 b4 (a6 ▸ h3) (b6 ▸ h4)
    rcases a7 with ⟨c1, c2, c3, c4⟩ | ⟨c1, c2, c3, c4⟩ <;> rcases b7 with ⟨d1, d2, d3, d4⟩ | ⟨d1, d2, d3, d4⟩
    · exact ⟨c1.trans d1.symm, c2.trans d2.symm⟩
    · exact (d2 ⟨d3.symm.trans (hs.1.symm.trans c3), d4.symm.trans (hs.2.symm.trans c4)⟩).elim
    · exact (c2 ⟨c3.symm.trans (hs.1.trans d3), c4.symm.trans (hs.2.trans d4)⟩).elim
    · exact ⟨c3.symm.trans (hs.1.trans d3), c4.symm.trans (hs.2.trans d4)⟩
  · obtain ⟨a1, a2, a3, a4, _, a6, _⟩ := look h1
    exact hI.out _ _ _ _ _ a4 (a6 ▸ h2)

theorem mv1_code {N : Nat} {ρ : Option Nat} {c : Code} {K : Exit → Fr → St → Prop} {us : List Nat} {m : Nat} {st : XS} (h : CodeOK P m N ρ c K ((mv1 k l d us st).fr.ren σ pre.length) ((mv1 k l d us st).s.emb σ pre)) : CodeOK P m N ρ c K (st.fr.ren σ pre.length) (st.s.emb σ pre) := by
  unfold mv1 at h
  cases ho : mvOK l st.s.up.length (st.s.loc.get k) with
  | false => rw [ho] at h; exact h
  | true =>
    rw [ho] at h
    cases hr : st.s.loc.get k with
    | none => rw [hr] at ho; cases ho
    | some x =>
      obtain ⟨γ, r⟩ := x
      rw [hr] at ho h
      simp only [mvOK, Bool.and_eq_true, Nat.blt_eq] at ho
      intro G0 G a w hR
      refine h G0 G a w ⟨hR.le, mv_inv hr hR.inv, fun j c v hj => ?_, hR.size, ?_, hR.marks⟩
      · rw [Fr.get_ren] at hj
        have hj' : ((mvF st.s.up.length k l d st.fr).get j).map (fun p => (p.1, p.2.ren σ pre.length)) = some (c, v) := hj
        rw [mvF_get] at hj'
        cases hg : st.fr.get j with
        | none => rw [hg] at hj'; cases hj'
        | some y =>
          rw [hg] at hj'
          obtain ⟨c0, v0⟩ := y
          cases hj'
          obtain ⟨x, q1, q2, q3⟩ := hR.fr j c0 (v0.ren σ pre.length) (by rw [Fr.get_ren, hg]; rfl)
          exact ⟨x, q1, fun hc => mvP_rep 3 _ _ (q2 hc), q3⟩
      · have := hR.lvl
        rw [emb_len] at this ⊢
        show (mvS k l d us st.s (some (γ, r))).up.length + _ = _
        rw [mvS_len]; exact this
theorem mvP_bd : ∀ (f : Nat) (v : V), v.ren σ δ = v.ren σ' δ → (mvP n k l d f v).ren σ δ = (mvP n k l d f v).ren σ' δ
  | 0, v, h => h
  | f + 1, v, h => by
    have ih := mvP_bd f
    have lst : ∀ cs : List V, cs.map (V.ren σ δ) = cs.map (V.ren σ' δ) → (cs.map (mvP n k l d f)).map (V.ren σ δ) = (cs.map (mvP n k l d f)).map (V.ren σ' δ) := by
      intro cs h
      simp only [List.map_map]
      refine List.map_congr_left fun x hx => ?_
      exact ih x (List.map_inj_left.1 h x hx)
    cases v with
    | vec l' k' g m =>
      simp only [mvP]
      split
      · simp only [ren_vec, V.vec.injEq, true_and, and_true] at h ⊢; exact h
      · exact h
    | ptr l' k' g o =>
      simp only [mvP]
      split
      · simp only [ren_ptr, V.ptr.injEq, true_and, and_true] at h ⊢; exact h
      · exact h
    | mp l' k' g =>
      simp only [mvP]
      split
      · simp only [ren_mp, V.mp.injEq, true_and] at h ⊢; exact h
      · exact h
    | agg cs =>
      simp only [mvP, ren_agg, V.agg.injEq] at h ⊢
      exact lst cs h
    | tup cs =>
      simp only [mvP, ren_tup, V.tup.injEq] at h ⊢
      exact lst cs h
    | _ => exact h
theorem mvR_bd {r : Res} (h : r.ren σ δ = r.ren σ' δ) : (mvR n k l d r).ren σ δ = (mvR n k l d r).ren σ' δ := by
  have lst : ∀ cs : List V, cs.map (V.ren σ δ) = cs.map (V.ren σ' δ) → (cs.map (mvP n k l d 3)).map (V.ren σ δ) = (cs.map (mvP n k l d 3)).map (V.ren σ' δ) := by
    intro cs h
    simp only [List.map_map]
    exact List.map_congr_left fun x hx => mvP_bd 3 x (List.map_inj_left.1 h x hx)
  cases r with
  | box cs =>
    simp only [mvR, Res.ren, Res.box.injEq] at h ⊢
    exact lst cs h
  | vec T es =>
    simp only [mvR, Res.ren, Res.vec.injEq, true_and, List.map_map] at h ⊢
    refine List.map_congr_left fun e he => ?_
    exact lst e (List.map_inj_left.1 h e he)
  | _ => exact h
theorem mvL_bd : ∀ (L : Level), L.ren σ δ = L.ren σ' δ → (mvL n k l d L).ren σ δ = (mvL n k l d L).ren σ' δ
  | [], _ => rfl
  | (j, g, r) :: L, h => by
    simp only [Level.ren, List.map_cons, List.cons.injEq, Prod.mk.injEq, true_and] at h
    have ih := mvL_bd L h.2
    simp only [mvL]
    split
    · exact ih
    · simp only [Level.ren, List.map_cons, List.cons.injEq, Prod.mk.injEq, true_and]
      exact ⟨⟨h.1.1, mvR_bd h.1.2⟩, ih⟩
theorem lvl_bd {L : Level} (h : L.ren σ δ = L.ren σ' δ) {k γ : Nat} {r : Res} (hg : L.get k = some (γ, r)) : σ γ = σ' γ ∧ r.ren σ δ = r.ren σ' δ := by
  have e1 : (L.ren σ δ).get k = some (σ γ, r.ren σ δ) := by rw [Level.get_ren, hg]; rfl
  have e2 : (L.ren σ' δ).get k = some (σ' γ, r.ren σ' δ) := by rw [Level.get_ren, hg]; rfl
  rw [h, e2] at e1
  simp only [Option.some.injEq, Prod.mk.injEq] at e1
  exact ⟨e1.1.symm, e1.2.symm⟩
theorem delL_ren (u : Nat) : ∀ (L : Level), Level.ren σ δ (delL u L) = delL u (Level.ren σ δ L)
  | [] => rfl
  | (q, g, r) :: L => by
    have ih := delL_ren u L
    show Level.ren σ δ (delL u ((q, g, r) :: L)) = delL u ((q, σ g, r.ren σ δ) :: Level.ren σ δ L)
    unfold delL
    by_cases h : q = u
    · rw [if_pos h, if_pos h, ih]
    · rw [if_neg h, if_neg h, ← ih]
      rfl
theorem mvU_bd : ∀ (us : List Nat) (L : Level), L.ren σ δ = L.ren σ' δ → (mvU n k l d us L).ren σ δ = (mvU n k l d us L).ren σ' δ
  | [], _, h => h
  | u :: us, L, h => by
    unfold mvU
    split
    · rename_i g r e
      obtain ⟨h1, h2⟩ := lvl_bd h e
      have ih := mvU_bd us (delL u L) (by rw [delL_ren, delL_ren, h])
      simp only [Level.ren, List.map_cons, List.cons.injEq, Prod.mk.injEq, true_and]
      exact ⟨⟨h1, mvR_bd h2⟩, ih⟩
    · exact mvU_bd us L h
theorem mvS_bd {us : List Nat} {γ : Nat} {r : Res} (hr : s.loc.get k = some (γ, r)) (h : s.emb σ pre = s.emb σ' pre) : (mvS k l d us s (some (γ, r))).emb σ pre = (mvS k l d us s (some (γ, r))).emb σ' pre := by
  have h0 := h
  simp only [St.emb, St.mk.injEq, List.append_cancel_left_eq] at h
  obtain ⟨h1, h2⟩ := lvl_bd h.2 hr
  unfold mvS
  rw [emb_put, emb_put, h1, mvR_bd h2]
  congr 1
  simp only [St.emb, St.mk.injEq, List.append_cancel_left_eq]
  refine ⟨?_, mvL_bd _ h.2⟩
  apply List.ext_getElem?
  intro i
  have hi := congrArg (·[i]?) h.1
  simp only [List.getElem?_map, List.getElem?_modify] at hi ⊢
  cases hu : s.up[i]? with
  | none => rfl
  | some L =>
    rw [hu] at hi
    simp only [Option.map_some, Option.some.injEq, Option.map_eq_map] at hi ⊢
    split
    · exact mvU_bd us L hi
    · exact hi
theorem mv1_ext {us : List Nat} {st : XS} (h : Bd st) : Ext st (mv1 k l d us st) := by
  unfold mv1
  cases ho : mvOK l st.s.up.length (st.s.loc.get k) with
  | false => exact ⟨Nat.le_refl _, h, rfl⟩
  | true =>
    cases hr : st.s.loc.get k with
    | none => rw [hr] at ho; cases ho
    | some x =>
      obtain ⟨γ, r⟩ := x
      rw [hr] at ho
      simp only [mvOK, Bool.and_eq_true, Nat.blt_eq] at ho
      refine ⟨Nat.le_refl _, ⟨fun σ σ' δ ha => ?_, fun σ σ' pre ha => mvS_bd hr (h.s σ σ' pre ha), fun l1 k1 γ' fr ps asg body N ls hg => ?_⟩, mvS_len⟩
      · have q := h.f σ σ' δ ha
        simp only [mvF, Fr.ren, List.map_map] at q ⊢
        refine List.map_congr_left fun x hx => ?_
        have := List.map_inj_left.1 q x hx
        simp only [Prod.mk.injEq, true_and] at this
        simp only [Function.comp, Prod.mk.injEq, true_and]
        exact mvP_bd 3 _ this
      · have nl : ∀ r0 : Res, (Res.loop fr ps asg body N ls) = mvR st.s.up.length k l d r0 → r0 = .loop fr ps asg body N ls := by
          intro r0 e; cases r0 <;> first | exact e.symm | cases e
        rcases mvS_get hg with ⟨_, _, e⟩ | ⟨_, _, e⟩
        · have e2 : Res.loop fr ps asg body N ls = mvR st.s.up.length k l d r := congrArg Prod.snd e
          have := nl r e2
          subst this
          exact absurd ho.2 (by simp [plR])
        · rcases e with e | ⟨r0, e, e2⟩
          · exact h.lp l1 k1 γ' fr ps asg body N ls e
          · have := nl r0 e2
            subst this
            exact h.lp l1 k1 γ' fr ps asg body N ls e

def rowsOf (n : Nat) (o : Option (Nat × Res)) : List Nat := match o with
  | some (_, .vec _ es) => es.filterMap fun e => match e with
    | [.vec l k _ _] => if l = n then some k else none
    | _ => none
  | _ => []
noncomputable def tellR (k : Nat) (st : XS) : XS := toldO (rowsOf st.s.up.length (st.s.loc.get k)) st
noncomputable def mvLvl (p : Nat) (st : XS) : Nat := match p with
  | 0 => st.s.up.length - 1
  | p + 1 => match getF st.fr p with
    | some (true, .ptr l _ _ _) => l
    | _ => 0
noncomputable def mvSlot (B i : Nat) (st : XS) : Nat := match i with
  | 0 => B
  | i + 1 => match getF st.fr i with
    | some (true, .int _ n) => B + n.toNat
    | _ => B
noncomputable def mvX (k B i p u : Nat) (st : XS) : XS := mv1 k (mvLvl p st) (mvSlot B i st) (match u with | 0 => [] | u + 1 => [u]) st
def wkV : V → V
  | .nil => .list false []
  | v => v
def wkR : Res → Res
  | .vec T es => .vec T (es.map (List.map wkV))
  | .box cs => .box (cs.map wkV)
  | r => r
def wkL (k : Nat) : Level → Level
  | [] => []
  | (j, g, r) :: L => (j, g, if j = k then wkR r else r) :: wkL k L
def wk1 (k : Nat) (st : XS) : XS := ⟨st.c, st.fr, ⟨st.s.up, wkL k st.s.loc⟩⟩
theorem wkV_ren (v : V) : (wkV v).ren σ δ = wkV (v.ren σ δ) := by cases v <;> simp [wkV]
theorem wkVs_ren (cs : List V) : (cs.map wkV).map (V.ren σ δ) = (cs.map (V.ren σ δ)).map wkV := by
  rw [List.map_map, List.map_map]
  exact List.map_congr_left fun v _ => wkV_ren v
theorem wkR_ren (r : Res) : (wkR r).ren σ δ = wkR (r.ren σ δ) := by
  cases r with
  | box cs => simp only [wkR, Res.ren, wkVs_ren]
  | vec T es =>
    simp only [wkR, Res.ren, List.map_map, Res.vec.injEq, true_and]
    exact List.map_congr_left fun e _ => wkVs_ren e
  | _ => rfl
theorem wkL_ren (k : Nat) : ∀ L : Level, (wkL k L).ren σ δ = wkL k (L.ren σ δ)
  | [] => rfl
  | (j, g, r) :: L => by
    have ih := wkL_ren k L
    simp only [Level.ren] at ih
    simp only [wkL, Level.ren, List.map_cons, ih, List.cons.injEq, Prod.mk.injEq, true_and, and_true]
    split
    · exact wkR_ren r
    · rfl
theorem wkL_get (k : Nat) : ∀ (L : Level) (j : Nat), (wkL k L).get j = if j = k then (L.get j).map (fun x => (x.1, wkR x.2)) else L.get j
  | [], j => by simp [wkL]
  | (i, g, r) :: L, j => by
    have ih := wkL_get k L j
    simp only [wkL, Level.get]
    by_cases hj : j = i
    · subst hj
      rw [if_pos rfl, if_pos rfl]
      by_cases h : j = k
      · rw [if_pos h, if_pos h]; rfl
      · rw [if_neg h, if_neg h]
    · rw [if_neg hj, if_neg hj, ih]
theorem wkV_cell {v : V} (h : v.isCell = true) : (wkV v).isCell = true := by cases v <;> first | exact h | rfl
theorem wkV_rep {G : Gh} {x : V} {v : Value} (h : RepV G x v) : RepV G (wkV x) v := by
  cases x with
  | nil => exact h.empty
  | _ => exact h
theorem wkLs_rep {G : Gh} {cs : List V} {vs : List Value} (h : RepL G cs vs) : RepL G (cs.map wkV) vs :=
  ⟨by simpa using h.1, fun i p q => by
    have r := h.2 i (by simpa using p) q
    simp only [List.getElem_map]
    exact ⟨wkV_cell r.1, wkV_rep r.2⟩⟩
theorem wkR_rep {G : Gh} {w : World} {g : Nat} {r : Res} (h : RRep G g w r) : RRep G g w (wkR r) := by
  cases r with
  | box cs =>
    obtain ⟨b, arr, T, h1, h2, h3⟩ := h
    exact ⟨b, arr, T, by simpa using h1, h2, wkLs_rep h3⟩
  | vec T es =>
    obtain ⟨b, sz, C, h1, h2, h3, h4, h5⟩ := h
    refine ⟨b, sz, C, h1, by simpa using h2, fun e he => ?_, ⟨h4.1, fun h => h4.2 (by simpa using h)⟩, fun hC => ?_⟩
    · obtain ⟨e2, he2, rfl⟩ := List.mem_map.1 he
      simpa using h3 e2 he2
    · obtain ⟨arr, h6, h7, h8⟩ := h5 hC
      refine ⟨arr, h6, h7, ?_⟩
      have q := wkLs_rep h8
      rw [List.map_flatten] at q
      simpa using q
  | _ => exact h
theorem wkR_owns (G : Gh) (g : Nat) (r : Res) : owns G g (wkR r) = owns G g r := by cases r <;> rfl
theorem wk_get {s : St} {k l j : Nat} {x : Nat × Res} (h : St.get ⟨s.up, wkL k s.loc⟩ l j = some x) : ∃ r, s.get l j = some (x.1, r) ∧ (x.2 = r ∨ x.2 = wkR r) := by
  unfold St.get at h ⊢
  split at h
  · rename_i e
    rw [if_pos e]
    have h : (wkL k s.loc).get j = some x := h
    rw [wkL_get] at h
    split at h
    · cases hg : s.loc.get j with
      | none => rw [hg] at h; cases h
      | some y => rw [hg] at h; cases h; exact ⟨_, rfl, .inr rfl⟩
    · exact ⟨_, h, .inl rfl⟩
  · rename_i e
    rw [if_neg e]
    exact ⟨_, h, .inl rfl⟩
theorem wk_inv {G : Gh} {s : St} {w : World} {k : Nat} (hI : Inv G s w) : Inv G ⟨s.up, wkL k s.loc⟩ w := by
  have look : ∀ {l j g r}, St.get ⟨s.up, wkL k s.loc⟩ l j = some (g, r) → ∃ r0, s.get l j = some (g, r0) ∧ RRep G g w r ∧ owns G g r = owns G g r0 := by
    intro l j g r h
    obtain ⟨r0, h1, h2⟩ := wk_get h
    refine ⟨r0, h1, ?_⟩
    have h3 := hI.res _ _ _ _ h1
    rcases h2 with h2 | h2
    · simp only at h2; subst h2; exact ⟨h3, rfl⟩
    · simp only at h2; subst h2; exact ⟨wkR_rep h3, wkR_owns _ _ _⟩
  refine ⟨hI.sl, fun l k g r h => (by obtain ⟨r0, _, h2, _⟩ := look h; exact h2), fun l k g r l' k' g' r' b h1 h2 h3 h4 => ?_, fun l k g r b h1 h2 => ?_, hI.fresh, hI.env⟩
  · rcases look h1 with ⟨r1, e1, _, o1⟩
    rcases look h2 with ⟨r2, e2, _, o2⟩
    exact hI.sep _ _ _ _ _ _ _ _ _ e1 e2 (o1 ▸ h3) (o2 ▸ h4)
  · rcases look h1 with ⟨r1, e1, _, o1⟩
    exact hI.out _ _ _ _ _ e1 (o1 ▸ h2)
theorem wk1_emb {k : Nat} {st : XS} : (wk1 k st).s.emb σ pre = ⟨(st.s.emb σ pre).up, wkL k (st.s.emb σ pre).loc⟩ := by
  simp only [wk1, St.emb, wkL_ren]
theorem wk1_code {m N : Nat} {ρ : Option Nat} {c : Code} {K : Exit → Fr → St → Prop} {k : Nat} {st : XS} (h : CodeOK P m N ρ c K ((wk1 k st).fr.ren σ pre.length) ((wk1 k st).s.emb σ pre)) : CodeOK P m N ρ c K (st.fr.ren σ pre.length) (st.s.emb σ pre) := by
  intro G0 G a w hR
  rw [wk1_emb] at h
  exact h G0 G a w ⟨hR.le, wk_inv hR.inv, hR.fr, hR.size, hR.lvl, hR.marks⟩
theorem wk1_ext {k : Nat} {st : XS} (h : Bd st) : Ext st (wk1 k st) := by
  refine ⟨Nat.le_refl _, ⟨h.f, fun σ σ' pre ha => by rw [wk1_emb, wk1_emb, h.s σ σ' pre ha], fun l j γ fr ps asg body N ls hg => ?_⟩, rfl⟩
  obtain ⟨r, h1, h2⟩ := wk_get (s := st.s) hg
  have e : r = .loop fr ps asg body N ls := by
    rcases h2 with h2 | h2
    · exact h2.symm
    · cases r <;> first | exact h2.symm | cases h2
  subst e
  exact h.lp l j γ fr ps asg body N ls h1

noncomputable def gh1 (k : Nat) (st : XS) : XS := Bool.rec (Bool.rec (Bool.rec (wk1 (k % 1000) st) (tellR (k % 1000) st) (Nat.blt k 2000000000000000))
  (mvX ((k - 1000) % 1000) ((k - 1000) / 1000 % 1000) ((k - 1000) / 1000000 % 1000) ((k - 1000) / 1000000000 % 1000) ((k - 1000) / 1000000000000) st) (Nat.blt k 1000000000000000)) (told1 k st) (Nat.blt k 1000)
noncomputable def ghO (ks : List Nat) (st : XS) : XS := List.rec (motive := fun _ => XS → XS) (fun st => st) (fun k _ ih st => ih (gh1 k st)) ks st

theorem mv1_c {us : List Nat} {st : XS} : (mv1 k l d us st).c = st.c := by
  unfold mv1
  cases mvOK l st.s.up.length (st.s.loc.get k) <;> rfl
theorem gh1_c {k : Nat} {st : XS} : (gh1 k st).c = st.c := by
  unfold gh1
  cases Nat.blt k 1000 with
  | true => rfl
  | false => cases Nat.blt k 1000000000000000 with
    | true => exact mv1_c
    | false => cases Nat.blt k 2000000000000000 with
      | true => exact toldO_c _ _
      | false => rfl
theorem gh1_ext {k : Nat} {st : XS} (h : Bd st) : Ext st (gh1 k st) := by
  unfold gh1
  cases Nat.blt k 1000 with
  | true => exact told1_ext h
  | false => cases Nat.blt k 1000000000000000 with
    | true => exact mv1_ext h
    | false => cases Nat.blt k 2000000000000000 with
      | true => exact toldO_ext _ h
      | false => exact wk1_ext h
theorem gh1_code {m N : Nat} {ρ : Option Nat} {c : Code} {K : Exit → Fr → St → Prop} {k : Nat} {st : XS} (h : CodeOK P m N ρ c K ((gh1 k st).fr.ren σ pre.length) ((gh1 k st).s.emb σ pre)) : CodeOK P m N ρ c K (st.fr.ren σ pre.length) (st.s.emb σ pre) := by
  unfold gh1 at h
  cases h1 : Nat.blt k 1000 with
  | true => rw [h1] at h; exact told1_code h
  | false =>
    rw [h1] at h
    cases h2 : Nat.blt k 1000000000000000 with
    | true => rw [h2] at h; exact mv1_code h
    | false =>
      rw [h2] at h
      cases h3 : Nat.blt k 2000000000000000 with
      | true => rw [h3] at h; exact toldO_code _ h
      | false => rw [h3] at h; exact wk1_code h
theorem ghO_c : ∀ (ks : List Nat) (st : XS), (ghO ks st).c = st.c
  | [], _ => rfl
  | k :: ks, st => (ghO_c ks (gh1 k st)).trans gh1_c
theorem ghO_ext : ∀ (ks : List Nat) {st : XS}, Bd st → Ext st (ghO ks st)
  | [], st, h => ⟨Nat.le_refl _, h, rfl⟩
  | k :: ks, st, h => by
    have h1 := gh1_ext (k := k) h
    have h2 := ghO_ext ks h1.bd
    exact ⟨Nat.le_trans h1.c h2.c, h2.bd, h2.n.trans h1.n⟩
theorem ghO_code {m N : Nat} {ρ : Option Nat} {c : Code} {K : Exit → Fr → St → Prop} : ∀ (ks : List Nat) {st : XS}, CodeOK P m N ρ c K ((ghO ks st).fr.ren σ pre.length) ((ghO ks st).s.emb σ pre) → CodeOK P m N ρ c K (st.fr.ren σ pre.length) (st.s.emb σ pre)
  | [], _, h => h
  | k :: ks, st, h => gh1_code (k := k) (ghO_code ks (st := gh1 k st) h)
end Go.Pg
/- Regions that draw their order and make calls that act: all else in them hangs on no place. No program in sight. -/
namespace Go.Pg
variable {P : Program} {n N : Nat} {ρ : Option Nat} {G0 G : Gh} {fr fr' : Fr} {s s' : St} {a : Act} {w : World} {l : List Oper} {gs : List (Option (Tmp × Bool))} {e : Nat} {σ σ' : Nat → Nat} {δ : Nat} {pre : List Level}

def stepY (P : Program) (l : List Oper) (gs : List (Option (Tmp × Bool))) (e i : Nat) (fr : Fr) (s : St) (k : Fr → St → Prop) : Prop := match l[i]? with
  | some o => if i = e then ∃ f args, gdV fr (gAt gs i) = some true ∧ callD true o fr = some (f, args) ∧ ACall P f args s fun r s' => k (putD fr o.dst true r) s'
    else ∃ v, gdV fr (gAt gs i) = some true ∧ (∀ s, valD P true o fr s = some v) ∧ k (putD fr o.dst true v) s
  | none => False
def anyY (P : Program) (l : List Oper) (gs : List (Option (Tmp × Bool))) (e : Nat) (T : Array Bool → Fr → St → Prop) : Nat → List Nat → Array Bool → Fr → St → Prop
  | 0, _, listed, fr, s => T listed fr s
  | m + 1, R, listed, fr, s => rdy l listed ≠ [] ∧ ∀ j ∈ rdy l listed, j ∈ R ∧ stepY P l gs e j fr s (anyY P l gs e T m (R.erase j) (listed.setIfInBounds j true))
def SameF (fr fr' : Fr) : Prop := ∀ k, fr.get k = fr'.get k
theorem SameF.same (h : SameF fr fr') : Same fr ⟨[], []⟩ fr' ⟨[], []⟩ := ⟨h, fun _ _ => rfl, rfl⟩
theorem SameF.putD (h : SameF fr fr') (d : Option Tmp) (c : Bool) (v : V) : SameF (Pg.putD fr d c v) (Pg.putD fr' d c v) := (h.same.putD d c v).f
variable {T : Array Bool → Fr → St → Prop}
theorem stepY_congr {i : Nat} {k k' : Fr → St → Prop} (h : stepY P l gs e i fr s k) (hf : SameF fr fr') (hk : ∀ f1 f2 s1, SameF f1 f2 → k f1 s1 → k' f2 s1) : stepY P l gs e i fr' s k' := by
  unfold stepY at h ⊢
  split
  · rename_i o ho
    simp only [ho] at h
    split
    · rename_i hi
      rw [if_pos hi] at h
      obtain ⟨f, args, h1, h2, h3⟩ := h
      exact ⟨f, args, (hf.same.gd _).symm.trans h1, (callD_local fun x _ => (hf.same.rd x).symm).trans h2, h3.mono fun r s1 => hk _ _ _ (hf.putD _ _ _)⟩
    · rename_i hi
      rw [if_neg hi] at h
      obtain ⟨v, h1, h2, h3⟩ := h
      exact ⟨v, (hf.same.gd _).symm.trans h1, fun s1 => (valD_local fun x _ => (hf.same.rd x).symm).trans (h2 s1), hk _ _ _ (hf.putD _ _ _) h3⟩
  · rename_i ho
    simp only [ho] at h
theorem SameF.refl (fr : Fr) : SameF fr fr := fun _ => rfl
theorem stepY_mono {i : Nat} {k k' : Fr → St → Prop} (h : stepY P l gs e i fr s k) (hk : ∀ f1 s1, k f1 s1 → k' f1 s1) : stepY P l gs e i fr s k' := by
  unfold stepY at h ⊢
  split
  · rename_i o ho
    simp only [ho] at h
    split
    · rename_i hi
      rw [if_pos hi] at h
      obtain ⟨f, args, h1, h2, h3⟩ := h
      exact ⟨f, args, h1, h2, h3.mono fun r s1 => hk _ _⟩
    · rename_i hi
      rw [if_neg hi] at h
      obtain ⟨v, h1, h2, h3⟩ := h
      exact ⟨v, h1, h2, hk _ _ h3⟩
  · rename_i ho
    simp only [ho] at h
theorem anyY_congr (hT : ∀ listed fr fr' s, SameF fr fr' → T listed fr s → T listed fr' s) : ∀ (m : Nat) (R : List Nat) (listed : Array Bool) (fr fr' : Fr) (s : St), SameF fr fr' → anyY P l gs e T m R listed fr s → anyY P l gs e T m R listed fr' s
  | 0, _, _, _, _, _, hs, h => hT _ _ _ _ hs h
  | m + 1, _, _, _, _, _, hs, h => ⟨h.1, fun j hj => ⟨(h.2 j hj).1, stepY_congr (h.2 j hj).2 hs fun _ _ _ h12 h' => anyY_congr hT m _ _ _ _ _ h12 h'⟩⟩
theorem stepY_swap {i j : Nat} {oi oj : Oper} {k k' : Fr → St → Prop} (hi : l[i]? = some oi) (hj : l[j]? = some oj) (hie : i ≠ e) (hij : Blind oj (gAt gs j) oi.dst) (hji : Blind oi (gAt gs i) oj.dst) (hne : ∀ d, oi.dst = some d → oj.dst ≠ some d)
    (h : stepY P l gs e i fr s fun f1 s1 => stepY P l gs e j f1 s1 k) (hk : ∀ f1 f2 s1, SameF f1 f2 → k f1 s1 → k' f2 s1) : stepY P l gs e j fr s fun f2 s2 => stepY P l gs e i f2 s2 k' := by
  have hcomm : ∀ (v v' : V), SameF (putD (putD fr oi.dst true v) oj.dst true v') (putD (putD fr oj.dst true v') oi.dst true v) := by
    intro v v' t
    simp only [get_putD]
    by_cases e1 : oj.dst = some t
    · have : oi.dst ≠ some t := fun e2 => hne t e2 e1
      simp [e1, this]
    · simp [e1]
  unfold stepY at h ⊢
  simp only [hi, hj, if_neg hie] at h ⊢
  obtain ⟨v, g1, hv, h⟩ := h
  by_cases hje : j = e
  · rw [if_pos hje] at h ⊢
    obtain ⟨f, args, g2, hc, h⟩ := h
    exact ⟨f, args, (hij.gd true v).symm.trans g2, (callD_local (hij.rd true v)).symm.trans hc, h.mono fun r s1 hk' => ⟨v, (hji.gd true r).trans g1, fun s2 => (valD_local (hji.rd true r)).trans (hv s2), hk _ _ _ (hcomm v r) hk'⟩⟩
  · rw [if_neg hje] at h ⊢
    obtain ⟨u, g2, hu, h⟩ := h
    exact ⟨u, (hij.gd true v).symm.trans g2, fun s2 => (valD_local (hij.rd true v)).symm.trans (hu s2), v, (hji.gd true u).trans g1, fun s2 => (valD_local (hji.rd true u)).trans (hv s2), hk _ _ _ (hcomm v u) h⟩
structure FreeY (l : List Oper) (gs : List (Option (Tmp × Bool))) (e i : Nat) (oi : Oper) (B : List Nat) (R : List Nat) (listed : Array Bool) : Prop where
  ready : i ∈ rdy l listed
  mem : i ∈ R
  wait : ∀ b ∈ B, ∃ o, l[b]? = some o ∧ ∃ x ∈ o.after, Region.binds .any x = true ∧ (x.on = i ∨ x.on ∈ B)
  un : ∀ b ∈ B, listed.getD b true = false
  free : ∀ j oj, l[j]? = some oj → j ≠ i → j ∉ B → listed.getD j true = false → i ≠ e ∧ j ∈ R ∧ Blind oj (gAt gs j) oi.dst ∧ Blind oi (gAt gs i) oj.dst ∧ (∀ d, oi.dst = some d → oj.dst ≠ some d)
theorem FreeY.blocked {i : Nat} {oi : Oper} {B R : List Nat} {listed : Array Bool} (h : FreeY l gs e i oi B R listed) {j : Nat} (hj : j ∈ rdy l listed) : j ∉ B := by
  intro hb
  obtain ⟨_, o, ho, hall⟩ := mem_ready.1 hj
  obtain ⟨o', ho', x, hx, hbi, hon⟩ := h.wait j hb
  have : o = o' := by simpa [ho'] using ho.symm
  subst this
  have h1 := hall x hx hbi
  rcases hon with hon | hon
  · rw [hon, getD_ft (mem_ready.1 h.ready).1] at h1; cases h1
  · rw [getD_ft (h.un _ hon)] at h1; cases h1
theorem anyY_first (hT : ∀ listed fr fr' s, SameF fr fr' → T listed fr s → T listed fr' s) {i : Nat} {oi : Oper} {B : List Nat} (hi : l[i]? = some oi) : ∀ (m : Nat) (R : List Nat) (listed : Array Bool) (fr : Fr) (s : St),
    FreeY l gs e i oi B R listed → R.length = m + 1 → R.Nodup → stepY P l gs e i fr s (anyY P l gs e T m (R.erase i) (listed.setIfInBounds i true)) → anyY P l gs e T (m + 1) R listed fr s := by
  intro m
  induction m with
  | zero =>
    intro R listed fr s hF hlen _ h
    refine ⟨fun e => ?_, fun j hj => ?_⟩
    · have := hF.ready; rw [e] at this; cases this
    · by_cases hji : j = i
      · subst hji; exact ⟨hF.mem, h⟩
      · obtain ⟨hun, oj, hoj, _⟩ := mem_ready.1 hj
        have hR := (hF.free j oj (by simpa using hoj) hji (hF.blocked hj) hun).2.1
        exfalso
        obtain ⟨x, rfl⟩ := List.length_eq_one_iff.1 hlen
        have e1 := hF.mem
        simp at e1 hR
        exact hji (hR.trans e1.symm)
  | succ m ih =>
    intro R listed fr s hF hlen hnd h
    refine ⟨fun e => ?_, fun j hj => ?_⟩
    · have := hF.ready; rw [e] at this; cases this
    · by_cases hji : j = i
      · subst hji; exact ⟨hF.mem, h⟩
      · obtain ⟨hun, oj, hoj, _⟩ := mem_ready.1 hj
        have hoj' : l[j]? = some oj := by simpa using hoj
        have hjB := hF.blocked hj
        obtain ⟨hie, hjR, b1, b2, hne⟩ := hF.free j oj hoj' hji hjB hun
        refine ⟨hjR, ?_⟩
        have h1 : stepY P l gs e i fr s fun f1 s1 => stepY P l gs e j f1 s1 (anyY P l gs e T m ((R.erase i).erase j) ((listed.setIfInBounds i true).setIfInBounds j true)) :=
          stepY_mono h fun f1 s1 h' => (h'.2 j (ready_mono hj hji)).2
        have h2 := stepY_swap hi hoj' hie b1 b2 hne h1 fun f1 f2 s1 h12 h' => anyY_congr hT _ _ _ _ _ _ h12 h'
        refine stepY_mono h2 fun f1 s1 h' => ?_
        have hlt : j < listed.size := by
          rcases Nat.lt_or_ge j listed.size with h' | h'
          · exact h'
          · simp [Array.getElem?_eq_none h'] at hun
        refine ih (R.erase j) (listed.setIfInBounds j true) f1 s1 ⟨ready_mono hF.ready (Ne.symm hji), (List.mem_erase_of_ne (Ne.symm hji)).2 hF.mem, hF.wait, fun b hb => ?_, fun k ok hk hki hkB hku => ?_⟩ ?_ (hnd.erase j) ?_
        · rw [getD_set_ne true (fun e => hjB (by rw [e]; exact hb))]; exact hF.un b hb
        · have hkj : k ≠ j := by
            intro e
            subst e
            simp [hlt] at hku
          rw [getD_set_ne true (Ne.symm hkj)] at hku
          obtain ⟨q0, q1, q2⟩ := hF.free k ok hk hki hkB hku
          exact ⟨q0, (List.mem_erase_of_ne hkj).2 q1, q2⟩
        · rw [List.length_erase_of_mem hjR, hlen]; rfl
        · rw [List.erase_comm, Array.setIfInBounds_comm _ _ hji]
          exact h'
def walkY (P : Program) (l : List Oper) (gs : List (Option (Tmp × Bool))) (e : Nat) : List Nat → Fr → St → (Fr → St → Prop) → Prop
  | [], fr, s, K => K fr s
  | i :: r, fr, s, K => stepY P l gs e i fr s fun fr s => walkY P l gs e r fr s K
theorem walkY_mono : ∀ (R : List Nat) (fr : Fr) (s : St) (k k' : Fr → St → Prop), (∀ f1 s1, k f1 s1 → k' f1 s1) → walkY P l gs e R fr s k → walkY P l gs e R fr s k'
  | [], _, _, _, _, hk, h => hk _ _ h
  | _ :: r, _, _, k, k', hk, h => stepY_mono h fun _ _ h' => walkY_mono r _ _ k k' hk h'
def PhY (l : List Oper) (gs : List (Option (Tmp × Bool))) (e : Nat) : List Nat → Array Bool → Prop
  | [], _ => True
  | i :: r, listed => (∃ oi B, l[i]? = some oi ∧ FreeY l gs e i oi B (i :: r) listed) ∧ PhY l gs e r (listed.setIfInBounds i true)
theorem anyY_of_walk (hT : ∀ listed fr fr' s, SameF fr fr' → T listed fr s → T listed fr' s) : ∀ (R : List Nat) (listed : Array Bool) (fr : Fr) (s : St), R.Nodup → PhY l gs e R listed →
    walkY P l gs e R fr s (T (R.foldl (fun L i => L.setIfInBounds i true) listed)) → anyY P l gs e T R.length R listed fr s
  | [], _, _, _, _, _, h => h
  | i :: r, listed, fr, s, hnd, hp, h => by
    obtain ⟨⟨oi, B, hi, hF⟩, hp⟩ := hp
    refine anyY_first hT hi r.length (i :: r) listed fr s hF rfl hnd ?_
    rw [List.erase_cons_head]
    exact stepY_mono h fun f1 s1 h' => anyY_of_walk hT r _ _ _ (List.nodup_cons.1 hnd).2 hp h'
theorem stepP_call {o : Oper} {f : FuncId} {args : List V} {k : Fr → St → Prop} (hc : callD true o fr = some (f, args)) (h : ACall P f args s fun r s' => k (putD fr o.dst true r) s') : stepP P true o fr s k := by
  unfold callD at hc
  unfold stepP
  split at hc
  · rename_i f' args' argTypes' ho
    simp only [ho]
    split at hc
    · rename_i fid first cap vs e1 e2
      cases hc
      simp only [e1, e2]
      exact .inl ⟨rfl, h⟩
    · cases hc
  · cases hc
theorem anyY_sound {K : Exit → Fr → St → Prop} (hN : dstOK N l = true) (hg : gsOK l gs l = true) {t : Nat} (hT : ∀ listed fr s G a w, T listed fr s → Rel n N G0 G fr s a w → wpAnyIn (wf ρ) 0 P .any l.toArray (Post n N G0 K) t listed a w) :
    ∀ (m : Nat) (R : List Nat) (listed : Array Bool) (G : Gh) (fr : Fr) (s : St) (a : Act) (w : World), Rel n N G0 G fr s a w → anyY P l gs e T m R listed fr s → wpAnyIn (wf ρ) 0 P .any l.toArray (Post n N G0 K) (m + t) listed a w
  | 0, _, listed, G, fr, s, a, w, hR, h => by rw [Nat.zero_add]; exact hT _ _ _ _ _ _ h hR
  | m + 1, R, listed, G, fr, s, a, w, hR, h => by
    rw [Nat.add_right_comm]
    refine ⟨fun h0 => absurd h0 h.1, fun j hj => ?_⟩
    have h' := (h.2 j hj).2
    unfold stepY at h'
    split at h'
    · rename_i o ho
      have main : gdV fr (gAt gs j) = some true → stepQ P true o fr s (anyY P l gs e T m (R.erase j) (listed.setIfInBounds j true)) → wpOpIn (wf ρ) 0 P l.toArray (Post n N G0 K) j (wpAnyIn (wf ρ) 0 P .any l.toArray (Post n N G0 K) (m + t) (listed.setIfInBounds j true)) a w := fun hgd hst =>
        wpOp_of_step hR hN hg ho hgd hst fun G' a' w' fr' s' hR' hk => anyY_sound hN hg hT m _ _ G' fr' s' a' w' hR' hk
      split at h'
      · obtain ⟨f, args, h1, h2, h3⟩ := h'
        exact main h1 (.inl (stepP_call h2 h3))
      · obtain ⟨v, h1, h2, h3⟩ := h'
        exact main h1 (.inl (stepP_of_stepD (Ω := OwnT.nothing P) (.inl ⟨v, h2 s, h3⟩)))
    · cases h'

/-! ### The check -/
def pairY (l : List Oper) (i j : Nat) : Bool := Nat.beq (Nat.land (dsM l i) (Nat.lor (lkM l j) (dsM l j))) 0 && Nat.beq (Nat.land (dsM l j) (lkM l i)) 0
theorem pairY_spec {i j : Nat} {oi oj : Oper} (hi : l[i]? = some oi) (hj : l[j]? = some oj) (h : pairY l i j = true) :
    (∀ d, oi.dst = some d → d ∉ oj.looksAt l.toArray) ∧ (∀ d, oi.dst = some d → oj.dst ≠ some d) ∧ (∀ d, oj.dst = some d → d ∉ oi.looksAt l.toArray) := by
  unfold pairY dsM lkM at h
  simp only [hi, hj, Bool.and_eq_true] at h
  obtain ⟨h1, h2⟩ := h
  refine ⟨fun d hd hm => ?_, fun d hd he => ?_, fun d hd hm => ?_⟩
  · rw [hd] at h1
    refine land_zero h1 (j := d) (by rw [testBit_one]; simp) ?_
    rw [testBit_or, testBit_bitsL.2 hm]
    rfl
  · rw [hd, he] at h1
    refine land_zero h1 (j := d) (by rw [testBit_one]; simp) ?_
    rw [testBit_or, testBit_one]
    simp
  · rw [hd] at h2
    exact land_zero h2 (j := d) (by rw [testBit_one]; simp) (testBit_bitsL.2 hm)
def phYM (l : List Oper) (tl : List Nat) (e : Nat) : List Nat → Nat → Bool
  | [], _ => true
  | i :: r, done => forceN (waitM i (afL l 0) 0) fun B =>
    Nat.blt i l.length && !(bitB done i) && readyM l i done && Nat.beq (Nat.land B done) 0 && tl.all (bitB B) && r.all (fun j => bitB B j || (!(Nat.beq i e) && pairY l i j)) && forceN (Nat.lor done (Nat.shiftLeft 1 i)) (phYM l tl e r)
theorem phYM_spec {tl : List Nat} (hg : gsOK l gs l = true) : ∀ {R : List Nat} {done : Nat} {listed : Array Bool}, LisM l (R ++ tl) done listed → phYM l tl e R done = true → PhY l gs e R listed
  | [], _, _, _, _ => trivial
  | i :: r, done, listed, hL, h => by
    unfold phYM at h
    rw [forceN_eq, forceN_eq] at h
    simp only [Bool.and_eq_true, Bool.not_eq_true', List.all_eq_true, Bool.or_eq_true] at h
    obtain ⟨⟨⟨⟨⟨⟨h1, h2⟩, h3⟩, h4⟩, h5⟩, h6⟩, h7⟩ := h
    have hi : i < l.length := by simpa [Nat.blt_eq] using h1
    have hw := waitM_spec (l := l) (i := i) (js := afL l 0) (B := 0) (fun p hp => by
      obtain ⟨k, o, e1, e2, e3⟩ := mem_afL (j := p.1) (m := p.2) hp
      exact ⟨o, by rw [e1, Nat.zero_add]; exact e2, e3⟩) (fun b hb => by simp at hb)
    generalize waitM i (afL l 0) 0 = B at *
    have hb : ∀ b, b ∈ (List.range l.length).filter (fun b => B.testBit b) ↔ B.testBit b = true := fun b => by
      rw [List.mem_filter, List.mem_range]
      refine ⟨fun h => h.2, fun h => ⟨?_, h⟩⟩
      obtain ⟨o, ho, _⟩ := hw b h
      exact (List.getElem?_eq_some_iff.1 ho).1
    refine ⟨⟨l[i], (List.range l.length).filter (fun b => B.testBit b), List.getElem?_eq_getElem hi, ⟨hL.ready hi h2 h3, by simp, fun b hbm => ?_, fun b hbm => ?_, fun j oj hj hji hjB hun => ?_⟩⟩, phYM_spec hg (hL.next hi) h7⟩
    · obtain ⟨o, ho, x, he, hbi, hon⟩ := hw b ((hb b).1 hbm)
      exact ⟨o, ho, x, he, hbi, hon.imp id fun h => (hb _).2 h⟩
    · have hbt := (hb b).1 hbm
      refine hL.un.2 ⟨?_, ?_⟩
      · obtain ⟨o, ho, _⟩ := hw b hbt
        exact (List.getElem?_eq_some_iff.1 ho).1
      · cases hd : done.testBit b with
        | false => rfl
        | true => exact (land_zero h4 hbt hd).elim
    · obtain ⟨hlt, hdn⟩ := hL.un.1 hun
      have hnb : B.testBit j = false := by
        cases hd : B.testBit j with
        | false => rfl
        | true => exact absurd ((hb j).2 hd) hjB
      rcases List.mem_append.1 (hL.cov j hlt hdn) with hm | hm
      · rcases List.mem_cons.1 hm with rfl | hr
        · exact absurd rfl hji
        · have hp : i ≠ e ∧ pairY l i j = true := by
            rcases h6 j hr with h6 | h6
            · rw [bitB_eq, hnb] at h6; cases h6
            · refine ⟨fun he => ?_, h6.2⟩
              have := h6.1
              rw [he, Nat.beq_refl] at this
              cases this
          obtain ⟨a1, a2, a3⟩ := pairY_spec (List.getElem?_eq_getElem hi) hj hp.2
          exact ⟨hp.1, hm, blind_of (_x := l[i]) a1 (gsOK_at hg hj), blind_of (_x := oj) a3 (gsOK_at hg (List.getElem?_eq_getElem hi)), a2⟩
      · have := h5 j hm
        rw [bitB_eq, hnb] at this
        cases this
abbrev SegY := List (List Nat × Nat)
def flatY (S : SegY) : List Nat := S.flatMap fun p => p.1
def segYM (l : List Oper) : SegY → Nat → Bool
  | [], _ => true
  | (R, e) :: S, done => R.all (Nat.blt · l.length) && nodupB R && phYM l (flatY S) e R done && forceN (doneM done R) (segYM l S)
def drawOKY (N : Nat) (gs : List (Option (Tmp × Bool))) (S : SegY) (l : List Oper) : Bool :=
  dstOK N l && gsOK l gs l && segYM l S 0 && Nat.beq (flatY S).length l.length && Nat.beq (bitsL (flatY S)) (2 ^ l.length - 1)
def walkSY (P : Program) (l : List Oper) (gs : List (Option (Tmp × Bool))) : SegY → Fr → St → (Fr → St → Prop) → Prop
  | [], fr, s, K => K fr s
  | (R, e) :: S, fr, s, K => walkY P l gs e R fr s fun fr s => walkSY P l gs S fr s K
theorem Rel.sameF (h : Rel n N G0 G fr s a w) (hs : SameF fr fr') : Rel n N G0 G fr' s a w := h.same ⟨hs, fun _ _ => rfl, rfl⟩
theorem walkSY_sound {K : Exit → Fr → St → Prop} (hN : dstOK N l = true) (hg : gsOK l gs l = true) : ∀ (S : SegY) (done : Nat) (listed : Array Bool), LisM l (flatY S) done listed → segYM l S done = true →
    ∀ (G : Gh) (fr : Fr) (s : St) (a : Act) (w : World), Rel n N G0 G fr s a w → walkSY P l gs S fr s (K .normal) → wpAnyIn (wf ρ) 0 P .any l.toArray (Post n N G0 K) (flatY S).length listed a w
  | [], done, listed, hL, _, G, fr, s, a, w, hR, h => by
    refine ⟨List.eq_nil_iff_forall_not_mem.2 fun j hj => ?_, G, fr, s, hR, h⟩
    obtain ⟨h1, o, ho, _⟩ := mem_ready.1 hj
    obtain ⟨hlt, hdn⟩ := hL.un.1 h1
    exact absurd (hL.cov j hlt hdn) (by simp [flatY])
  | (R, e) :: S, done, listed, hL, hM, G, fr, s, a, w, hR, h => by
    unfold segYM at hM
    rw [forceN_eq] at hM
    simp only [Bool.and_eq_true] at hM
    obtain ⟨⟨⟨h1, h2⟩, h3⟩, h4⟩ := hM
    have hfl : flatY ((R, e) :: S) = R ++ flatY S := by simp [flatY]
    rw [hfl] at hL
    have hL1 := hL.fold (fun i hi => by simpa [Nat.blt_eq] using List.all_eq_true.1 h1 i hi)
    have hP := phYM_spec hg hL h3
    let T : Array Bool → Fr → St → Prop := fun listed fr s => ∀ G a w, Rel n N G0 G fr s a w → wpAnyIn (wf ρ) 0 P .any l.toArray (Post n N G0 K) (flatY S).length listed a w
    have hw' : walkY P l gs e R fr s (T (R.foldl (fun L i => L.setIfInBounds i true) listed)) :=
      walkY_mono R fr s _ _ (fun f1 s1 h' G a w hR => walkSY_sound hN hg S _ _ hL1 h4 G f1 s1 a w hR h') h
    have hA := anyY_of_walk (T := T) (fun listed f1 f2 s hs hT G a w hR => hT G a w (hR.sameF fun k => (hs k).symm)) R _ fr s (nodupB_spec h2) hP hw'
    have hB := anyY_sound (ρ := ρ) (K := K) hN hg (T := T) (t := (flatY S).length) (fun listed f1 s1 G a w hT hR => hT G a w hR) R.length R _ G fr s a _ hR hA
    rw [hfl]
    simpa using hB
theorem code_drawY {id : Nat} {K : Exit → Fr → St → Prop} (hm : P.follows .mixedOrders = true) (gs : List (Option (Tmp × Bool))) (S : SegY) (hB : drawOKY N gs S l = true)
    (h : walkSY P l gs S fr s (K .normal)) : CodeOK P n N ρ (.region id l.toArray true) K fr s := by
  simp only [drawOKY, Bool.and_eq_true] at hB
  obtain ⟨⟨⟨⟨h1, h2⟩, h4⟩, h5⟩, h6⟩ := hB
  intro G0 G a w hR
  refine wpIn_region_any hm ?_
  have hR' : Rel n N G0 G fr s a { w with drawn := w.drawn + 1 } := ⟨hR.le, hR.inv.drawn _, hR.fr, hR.size, hR.lvl, hR.marks⟩
  have := walkSY_sound (ρ := ρ) (K := K) h1 h2 S 0 _ (LisM.start (l := l) h6) h4 G fr s a _ hR' h
  rw [Nat.eq_of_beq_eq_true h5] at this
  simpa using this

/-! ### Its run -/
def planYgo (l : List Oper) : List Nat → List Nat → SegY
  | [], left => [(left, l.length)]
  | e :: es, left => (left.filter (fun i => !(Nat.beq i e) && !(es.any (Nat.beq i)) && !((e :: es).any fun x => bitB (waitM x (afL l 0) 0) i)) ++ [e], e) :: planYgo l es (left.filter fun i => !(Nat.beq i e) && (es.any (Nat.beq i) || (e :: es).any fun x => bitB (waitM x (afL l 0) 0) i))
def planY (l : List Oper) : SegY := planYgo l ((List.range l.length).filter fun i => match l[i]? with
  | some o => kC o
  | none => false) (List.range l.length)
noncomputable def cY1 (E : XE) (d : Option Tmp) (st : XS) : Option V → Option (List V) → Option XS
  | some (.fn f first cap), some vs => match E.cf f ((first ++ vs ++ cap).map weakV) st with
    | some (r, st') => some ⟨st'.c, putD st'.fr d true r, st'.s⟩
    | none => none
  | _, _ => none
noncomputable def calY (E : XE) (o : Oper) (st : XS) : Option XS := match o.op with
  | .call c => match c.callee with
    | .value f => cY1 E o.dst st (rdX st.fr f) (mapO (rdX st.fr) c.args.toList)
    | _ => none
  | _ => none
noncomputable def backY (st : XS) : Option XS → Option XS
  | some st1 => some ⟨st.c, st1.fr, st.s⟩
  | none => none
noncomputable def valY (P : Program) (o : Oper) (st : XS) : Option XS := backY st (xVal P o ⟨st.c, st.fr, ⟨[], []⟩⟩)
noncomputable def opY (P : Program) (E : XE) (l : List Oper) (b : Bool) (o : Oper) (st : XS) : Option XS := match gdX st.fr (gdL l o) with
  | some true => Bool.rec (valY P o st) (calY E o st) b
  | _ => none
noncomputable def phY (P : Program) (E : XE) (l : List Oper) (e : Nat) : List Nat → XS → Option XS
  | [], st => some st
  | i :: r, st => match l[i]? with
    | some o => match opY P E l (Nat.beq i e) o st with
      | some st' => phY P E l e r st'
      | none => none
    | none => none
noncomputable def segY (P : Program) (E : XE) (l : List Oper) : SegY → XS → Option XS
  | [], st => some st
  | p :: S, st => match phY P E l p.2 p.1 st with
    | some st1 => segY P E l S st1
    | none => none
noncomputable def drawY (P : Program) (E : XE) (N : Nat) (l : List Oper) (st : XS) : Option XS := Bool.rec none (segY P E l (planY l) st) (drawOKY N (l.map (gdL l)) (planY l) l)

theorem get_empty (n l k : Nat) : (⟨List.replicate n [], []⟩ : St).get l k = none := by
  unfold St.get
  split
  · rfl
  · split
    · rename_i L hL
      simp only [List.getElem?_replicate] at hL
      split at hL
      · cases hL; rfl
      · cases hL
    · rfl
theorem opY_ok {E : XE} (hEE : XEOK P E) {b : Bool} {o : Oper} {st st' : XS} (h : Bd st) (hx : opY P E l b o st = some st') : Ext st st' ∧ (∀ σ δ, gdV (st.fr.ren σ δ) (gdL l o) = some true) ∧
    (b = true → ∀ (σ : Nat → Nat) (pre : List Level) (K : Fr → St → Prop), (∀ σ', agree st.c σ σ' → K (st'.fr.ren σ' pre.length) (st'.s.emb σ' pre)) → ∃ f args, callD true o (st.fr.ren σ pre.length) = some (f, args) ∧ ACall P f args (st.s.emb σ pre) fun r s' => K (putD (st.fr.ren σ pre.length) o.dst true r) s') ∧
    (b = false → ∀ (σ : Nat → Nat) (pre : List Level) (K : Fr → St → Prop), (∀ σ', agree st.c σ σ' → K (st'.fr.ren σ' pre.length) (st'.s.emb σ' pre)) → ∃ v, (∀ s, valD P true o (st.fr.ren σ pre.length) s = some v) ∧ K (putD (st.fr.ren σ pre.length) o.dst true v) (st.s.emb σ pre)) := by
  unfold opY at hx
  split at hx
  · rename_i hg
    rw [gdX_eq] at hg
    have hgd : ∀ σ δ, gdV (st.fr.ren σ δ) (gdL l o) = some true := fun σ δ => gdV_ren hg
    cases b with
    | true =>
      have hx : calY E o st = some st' := hx
      unfold calY at hx
      split at hx
      · rename_i c ho
        split at hx
        · rename_i f hc
          unfold cY1 at hx
          split at hx
          · rename_i fid first cap vs hf hvs
            split at hx
            · rename_i r st2 hcall
              cases hx
              have hbf := bd_fn (h.rd hf)
              obtain ⟨hE, hbr, hfr, hA⟩ := hEE.cf _ _ _ _ _ hcall h (fun v hv => by
                obtain ⟨u, hu, rfl⟩ := List.mem_map.1 hv
                refine bd_weak ?_
                rcases List.mem_append.1 hu with hu | hu
                · rcases List.mem_append.1 hu with hu | hu
                  · exact hbf.1 u hu
                  · exact mapO_bd h hvs u hu
                · exact hbf.2 u hu)
              refine ⟨⟨hE.c, hE.bd.putF hbr, hE.n⟩, hgd, fun _ σ pre K hk => ?_, fun h => (by cases h)⟩
              refine ⟨fid, (((first ++ vs ++ cap).map weakV).map (V.ren σ pre.length)), ?_, ?_⟩
              · rw [rdX_eq] at hf
                rw [mapO_eq, rdX_fun] at hvs
                unfold callD
                obtain ⟨cal, args, Ts⟩ := c
                have hc : cal = .value f := hc
                subst hc
                have hvs' : args.toList.mapM (rdG true (st.fr.ren σ pre.length)) = some (vs.map (V.ren σ pre.length)) := by rw [rdG_fun]; exact mapM_ren hvs
                simp only [ho, rdG_ren, hf, hvs', Option.map_some, ren_fn]
                rw [map_weak_ren]
                simp only [List.map_append]
              · refine hA σ pre _ fun σ' ha => ?_
                have := hk σ' ha
                rw [ren_putD, hfr, ← h.f σ σ' pre.length ha] at this
                exact this
            · cases hx
          · cases hx
        · cases hx
      · cases hx
    | false =>
      have hx : valY P o st = some st' := hx
      unfold valY backY at hx
      split at hx
      · rename_i st1 h1
        cases hx
        unfold xVal at h1
        split at h1
        · rename_i v hv
          cases h1
          have hv := valX_spec hv
          have hb0 : Bd (⟨st.c, st.fr, ⟨[], []⟩⟩ : XS) := ⟨h.f, fun σ σ' pre _ => rfl, fun l k γ fr ps asg body N ls hg => by simp [St.get] at hg⟩
          have hbv : BdV st.c v := hb0.val hv
          refine ⟨⟨Nat.le_refl _, h.putF hbv, rfl⟩, hgd, fun h => (by cases h), fun _ σ pre K hk => ⟨v.ren σ pre.length, fun s => ?_, ?_⟩⟩
          · have q := valD_ren (σ := σ) (pre := List.replicate pre.length []) hv
            simp only [List.length_replicate] at q
            refine valD_sub (fun l k x hx => ?_) q
            have e0 : (⟨[], []⟩ : St).emb σ (List.replicate pre.length []) = ⟨List.replicate pre.length [], []⟩ := by simp [St.emb, Level.ren]
            rw [e0, get_empty] at hx
            cases hx
          · have := hk σ (agree.refl _ _)
            rw [ren_putD] at this
            exact this
        · cases h1
      · cases hx
  · cases hx
theorem phY_ok {E : XE} (hEE : XEOK P E) : ∀ {R : List Nat} {st st' : XS}, Bd st → phY P E l e R st = some st' → Ext st st' ∧
    ∀ (σ : Nat → Nat) (pre : List Level) (K : Fr → St → Prop), (∀ σ', agree st.c σ σ' → K (st'.fr.ren σ' pre.length) (st'.s.emb σ' pre)) → walkY P l (l.map (gdL l)) e R (st.fr.ren σ pre.length) (st.s.emb σ pre) K
  | [], st, st', h, hx => by
    cases hx
    exact ⟨⟨Nat.le_refl _, h, rfl⟩, fun σ pre K hk => hk σ (agree.refl _ _)⟩
  | i :: r, st, st', h, hx => by
    simp only [phY] at hx
    split at hx
    · rename_i o ho
      split at hx
      · rename_i st1 h1
        obtain ⟨hE, hg, h2, h3⟩ := opY_ok hEE h h1
        obtain ⟨hE', hs'⟩ := phY_ok hEE hE.bd hx
        refine ⟨⟨Nat.le_trans hE.c hE'.c, hE'.bd, hE'.n.trans hE.n⟩, fun σ pre K hk => ?_⟩
        have hk1 : ∀ σ', agree st.c σ σ' → walkY P l (l.map (gdL l)) e r (st1.fr.ren σ' pre.length) (st1.s.emb σ' pre) K := fun σ' ha => hs' σ' pre K fun σ'' ha' => hk σ'' (ha.trans ha' hE.c)
        simp only [walkY, stepY, ho, gAt_map ho]
        by_cases hie : i = e
        · rw [if_pos hie]
          obtain ⟨f, args, q1, q2⟩ := h2 (by rw [hie]; exact Nat.beq_refl e) σ pre (fun fr s => walkY P l (l.map (gdL l)) e r fr s K) hk1
          exact ⟨f, args, hg _ _, q1, q2⟩
        · rw [if_neg hie]
          obtain ⟨v, q1, q2⟩ := h3 (by
            cases hb : Nat.beq i e with
            | false => rfl
            | true => exact absurd (Nat.eq_of_beq_eq_true hb) hie) σ pre (fun fr s => walkY P l (l.map (gdL l)) e r fr s K) hk1
          exact ⟨v, hg _ _, q1, q2⟩
      · cases hx
    · cases hx
theorem segY_ok {E : XE} (hEE : XEOK P E) : ∀ {S : SegY} {st st' : XS}, Bd st → segY P E l S st = some st' → Ext st st' ∧
    ∀ (σ : Nat → Nat) (pre : List Level) (K : Fr → St → Prop), (∀ σ', agree st.c σ σ' → K (st'.fr.ren σ' pre.length) (st'.s.emb σ' pre)) → walkSY P l (l.map (gdL l)) S (st.fr.ren σ pre.length) (st.s.emb σ pre) K
  | [], st, st', h, hx => by
    cases hx
    exact ⟨⟨Nat.le_refl _, h, rfl⟩, fun σ pre K hk => hk σ (agree.refl _ _)⟩
  | p :: S, st, st', h, hx => by
    simp only [segY] at hx
    split at hx
    · rename_i st1 h1
      obtain ⟨hE, hs⟩ := phY_ok hEE h h1
      obtain ⟨hE', hs'⟩ := segY_ok hEE hE.bd hx
      refine ⟨⟨Nat.le_trans hE.c hE'.c, hE'.bd, hE'.n.trans hE.n⟩, fun σ pre K hk => ?_⟩
      exact hs σ pre _ fun σ' ha => hs' σ' pre K fun σ'' ha' => hk σ'' (ha.trans ha' hE.c)
    · cases hx
theorem drawY_ok (hP : ProgOK P) {E : XE} (hEE : XEOK P E) {id : Nat} {st st' : XS} (hx : drawY P E N l st = some st') (hbd : Bd st) : Ext st st' ∧
    ∀ (n : Nat) (ρ : Option Nat) (σ : Nat → Nat) (pre : List Level) (K : Exit → Fr → St → Prop), (∀ σ', agree st.c σ σ' → K .normal (st'.fr.ren σ' pre.length) (st'.s.emb σ' pre)) → CodeOK P n N ρ (.region id l.toArray true) K (st.fr.ren σ pre.length) (st.s.emb σ pre) := by
  unfold drawY at hx
  obtain ⟨hok, hx⟩ := brec_opt hx
  obtain ⟨hE, hs⟩ := segY_ok hEE hbd hx
  exact ⟨hE, fun n ρ σ pre K hk => code_drawY hP.mixed (l.map (gdL l)) (planY l) hok (hs σ pre _ hk)⟩
end Go.Pg
/- A region that draws its order and writes back what it has read: no place is changed, whatever comes first. No program in sight. -/
namespace Go.Pg
variable {P : Program} {n N : Nat} {ρ : Option Nat} {G0 G : Gh} {fr fr' : Fr} {s s' : St} {a : Act} {w : World}

def ldC (o : Oper) : Option (TypeId × Tmp × Tmp) := match o.op with
  | .load T (.tmp a) => match o.dst with
    | some d => some (T, a, d)
    | none => none
  | _ => none
def ldsC (l : List Oper) : List (TypeId × Tmp × Tmp) := l.filterMap ldC
def oneT (P : Program) (T : TypeId) : Bool := match P.underlying T with
  | some (.struct _) => true
  | some (.array _ _) => true
  | _ => Nat.beq (P.cellsOf T) 1
def backC (all : List Oper) (o : Oper) (T : TypeId) (a d : Tmp) : Bool := o.after.toList.any fun e => Region.binds .any e && match all[e.on]? with
  | some p => match ldC p with
    | some k => Nat.beq k.1 T && Nat.beq k.2.1 a && Nat.beq k.2.2 d
    | none => false
  | none => false
def okC1 (P : Program) (all : List Oper) (ks : List (TypeId × Tmp × Tmp)) (j : Nat) (o : Oper) : Bool :=
  (gdL all o).isNone && (o.after.toList.all fun e => !(Region.binds .any e) || Nat.blt e.on j) && match o.op with
  | .load _ (.tmp a) => o.dst.isSome && ks.all (fun k => !(Nat.beq k.2.2 a))
  | .store T (.tmp a) (.tmp d) => o.dst.isNone && ks.all (fun k => !(Nat.beq k.2.2 a)) && Nat.blt 0 (P.cellsOf T) && oneT P T && backC all o T a d
  | _ => false
def okCs (P : Program) (all : List Oper) (ks : List (TypeId × Tmp × Tmp)) : List Oper → Nat → Bool
  | [], _ => true
  | o :: r, j => okC1 P all ks j o && okCs P all ks r (j + 1)
def storesC (l : List Oper) : Nat := (l.filter kW).length
def clsB (P : Program) (l : List Oper) : Bool := Nat.blt 2 (storesC l) && okCs P l (ldsC l) l 0
theorem okCs_at {all : List Oper} {ks : List (TypeId × Tmp × Tmp)} : ∀ {l : List Oper} {j : Nat}, okCs P all ks l j = true → ∀ {i : Nat} {o : Oper}, l[i]? = some o → okC1 P all ks (j + i) o = true
  | [], _, _, i, o, h => by simp at h
  | p :: r, j, hB, i, o, h => by
    simp only [okCs, Bool.and_eq_true] at hB
    cases i with
    | zero => simp at h; subst h; exact hB.1
    | succ i =>
      have := okCs_at hB.2 (i := i) (o := o) (by simpa using h)
      rwa [show j + 1 + i = j + (i + 1) by omega] at this
theorem ldC_some {o : Oper} {k : TypeId × Tmp × Tmp} (h : ldC o = some k) : o.op = .load k.1 (.tmp k.2.1) ∧ o.dst = some k.2.2 := by
  unfold ldC at h
  split at h
  · rename_i T a ho
    split at h
    · rename_i d hd
      cases h
      exact ⟨ho, hd⟩
    · cases h
  · cases h

/-! ### The run -/
theorem rdG_same {g : Bool} {t : Tmp} (h : fr'.get t = fr.get t) : rdG g fr' (.tmp t) = rdG g fr (.tmp t) := by
  show (match fr'.get t with
    | some (c, v) => if (!g || c) = true then some v else none
    | none => none) = _
  rw [h]
  rfl
def mkO' (T : TypeId) (x : Operand) : Oper := { dst := none, op := .load T x, type := 0, pos := "", after := #[], guard := none }
def ptrK : Option V → Bool
  | some (.ptr ..) => true
  | _ => false
noncomputable def clsS (P : Program) (k : TypeId × Tmp × Tmp) : Option XS → Option XS
  | some st => Bool.rec none (match xLoad P st.fr st.s k.1 (.tmp k.2.1) with
    | some v => some ⟨st.c, putD st.fr (some k.2.2) true v, st.s⟩
    | none => none) (ptrK (rdX st.fr (.tmp k.2.1)))
  | none => none
noncomputable def clsR (P : Program) : List (TypeId × Tmp × Tmp) → Option XS → Option XS
  | [], o => o
  | k :: r, o => clsR P r (clsS P k o)
theorem clsR_none : ∀ (ks : List (TypeId × Tmp × Tmp)), clsR P ks none = none
  | [] => rfl
  | _ :: r => clsR_none r
def LdAt (P : Program) (fr frF : Fr) (s : St) (k : TypeId × Tmp × Tmp) : Prop :=
  ∃ v l q γ off, frF.get k.2.2 = some (true, v) ∧ rdG true fr (.tmp k.2.1) = some (.ptr l q γ off) ∧ (cellsAt s (.ptr l q γ off)).bind (whole P k.1) = some v
theorem clsR_spec : ∀ (ks : List (TypeId × Tmp × Tmp)) {st st' : XS}, (∀ k ∈ ks, ∀ k' ∈ ks, k.2.2 ≠ k'.2.1) → (ks.map (·.2.2)).Nodup → Bd st → clsR P ks (some st) = some st' →
    Bd st' ∧ st'.c = st.c ∧ st'.s = st.s ∧ (∀ t, (∀ k ∈ ks, k.2.2 ≠ t) → st'.fr.get t = st.fr.get t) ∧ ∀ k ∈ ks, LdAt P st.fr st'.fr st.s k
  | [], st, st', _, _, hb, h => by
    cases h
    exact ⟨hb, rfl, rfl, fun _ _ => rfl, fun k hk => by cases hk⟩
  | k :: r, st, st', h1, h2, hb, h => by
    simp only [clsR] at h
    cases hs : clsS P k (some st) with
    | none => rw [hs, clsR_none] at h; cases h
    | some st1 =>
      rw [hs] at h
      unfold clsS at hs
      simp only at hs
      cases hp : ptrK (rdX st.fr (.tmp k.2.1)) with
      | false => rw [hp] at hs; cases hs
      | true =>
      rw [hp] at hs
      simp only at hs
      split at hs
      · rename_i v hv
        have hl : valD P true (mkO' k.1 (.tmp k.2.1)) st.fr st.s = some v := by
          unfold xLoad at hv
          rw [rdX_eq] at hv
          show ((rdG true st.fr (.tmp k.2.1)).bind fun v => (cellsAt st.s v).bind fun cs => whole P k.1 cs) = some v
          revert hv
          cases rdG true st.fr (.tmp k.2.1) with
          | none => intro hv; cases hv
          | some p =>
            simp only [Option.bind_some]
            cases cellsAt st.s p with
            | none => intro hv; cases hv
            | some cs => exact fun hv => hv
        have hbv := hb.val hl
        cases hs
        have hb1 : Bd ({ st with fr := putD st.fr (some k.2.2) true v } : XS) := hb.putF hbv
        simp only [List.map_cons, List.nodup_cons] at h2
        obtain ⟨b1, b2, b3, b4, b5⟩ := clsR_spec r (fun x hx y hy => h1 x (by simp [hx]) y (by simp [hy])) h2.2 hb1 h
        refine ⟨b1, b2, b3, fun t ht => ?_, fun x hx => ?_⟩
        · rw [b4 t fun x hx => ht x (by simp [hx])]
          show (putD st.fr (some k.2.2) true v).get t = _
          rw [get_putD, if_neg (fun e => ht k (by simp) (by simpa using e))]
        · rcases List.mem_cons.1 hx with rfl | hx
          · unfold ptrK at hp
            rw [rdX_eq] at hp
            split at hp
            · rename_i l q γ off hr
              refine ⟨v, l, q, γ, off, ?_, hr, ?_⟩
              · rw [b4 x.2.2 fun y hy e => h2.1 (List.mem_map.2 ⟨y, hy, e⟩)]
                show (putD st.fr (some x.2.2) true v).get x.2.2 = _
                rw [get_putD, if_pos rfl]
              · have hl : ((rdG true st.fr (.tmp x.2.1)).bind fun v => (cellsAt st.s v).bind fun cs => whole P x.1 cs) = some v := hl
                rw [hr] at hl
                exact hl
            · cases hp
          · obtain ⟨v', l, q, γ, off, c1, c2, c3⟩ := b5 x hx
            refine ⟨v', l, q, γ, off, c1, ?_, c3⟩
            have : rdG true (putD st.fr (some k.2.2) true v) (.tmp x.2.1) = rdG true st.fr (.tmp x.2.1) := rdG_same (by
              rw [get_putD, if_neg (fun e => h1 k (by simp) x (by simp [hx]) (by simpa using e))])
            rw [← this]
            exact c2
      · cases hs

/-! ### Whatever comes first -/
theorem whole_cells {T : TypeId} {cs : List V} {v : V} (h : whole P T cs = some v) (h1 : oneT P T = true) (hc : ∀ x ∈ cs, x.isCell = true) : flatOk v = true ∧ cellsV v = cs.take (P.cellsOf T) ∧ P.cellsOf T ≤ cs.length := by
  have one : P.cellsOf T = 1 → cs[0]? = some v → flatOk v = true ∧ cellsV v = cs.take (P.cellsOf T) ∧ P.cellsOf T ≤ cs.length := fun e h => by
    cases cs with
    | nil => cases h
    | cons c cs =>
      simp only [List.getElem?_cons_zero, Option.some.injEq] at h
      subst h
      have hi := hc c (by simp)
      rw [e]
      refine ⟨?_, ?_, by simp⟩
      · cases c <;> first | rfl | cases hi
      · cases c <;> first | rfl | cases hi
  unfold whole at h
  unfold oneT at h1
  split at h
  · split at h
    · rename_i hle
      cases h
      exact ⟨rfl, rfl, hle⟩
    · cases h
  · split at h
    · rename_i hle
      cases h
      exact ⟨rfl, rfl, hle⟩
    · cases h
  · rename_i g1 g2 hu
    split at h1
    · rename_i fs e; rw [hu] at e; cases e; exact (g1 _ rfl).elim
    · rename_i m x e; rw [hu] at e; cases e; exact (g2 _ _ rfl).elim
    · exact one (Nat.eq_of_beq_eq_true h1) h
  · cases h
theorem splice_same {α : Type} (cs : List α) (off m : Nat) : spliceL cs off ((cs.drop off).take m) = cs := by
  unfold spliceL
  rw [List.length_take, List.length_drop, List.append_assoc]
  have : (cs.drop off).take m ++ cs.drop (off + min m (cs.length - off)) = cs.drop off := by
    rw [← List.drop_drop]
    have e : min m (cs.length - off) = min m (cs.drop off).length := by rw [List.length_drop]
    rw [e]
    generalize cs.drop off = ds
    by_cases h : m ≤ ds.length
    · rw [Nat.min_eq_left h, List.take_append_drop]
    · rw [Nat.min_eq_right (by omega), List.drop_length, List.take_of_length_le (by omega), List.append_nil]
  rw [this, List.take_append_drop]
structure CInv (l : List Oper) (fr frF : Fr) (s : St) (listed : Array Bool) (fr' : Fr) (s' : St) : Prop where
  o : ∀ t, (∀ k ∈ ldsC l, k.2.2 ≠ t) → fr'.get t = fr.get t
  d : ∀ j o k, l[j]? = some o → ldC o = some k → listed.getD j true = true → fr'.get k.2.2 = frF.get k.2.2
  p : ∀ i k, s'.get i k = s.get i k
  n : s'.up.length = s.up.length
theorem getD_setT {listed : Array Bool} {i : Nat} : (listed.setIfInBounds i true).getD i true = true := by
  rcases Nat.lt_or_ge i listed.size with h | h
  · simp [h]
  · simp
theorem cls_any {l : List Oper} {K : Exit → Fr → St → Prop} (hN : dstOK N l = true) (hg : gsOK l (l.map (gdL l)) l = true) (hD : DstD l) (hC : okCs P l (ldsC l) l 0 = true) {frF : Fr}
    (h1 : ∀ t, (∀ k ∈ ldsC l, k.2.2 ≠ t) → frF.get t = fr.get t) (h2 : ∀ k ∈ ldsC l, LdAt P fr frF s k) (hK : K .normal frF s) :
    ∀ (R : List Nat) (listed : Array Bool) (G : Gh) (fr' : Fr) (s' : St) (a : Act) (w : World), R.Nodup → (∀ j, j ∈ R ↔ j < l.length ∧ listed.getD j true = false) → CInv l fr frF s listed fr' s' → Rel n N G0 G fr' s' a w →
      wpAnyIn (wf ρ) 0 P .any l.toArray (Post n N G0 K) R.length listed a w := by
  have mem : ∀ {j : Nat} {o : Oper} {k : TypeId × Tmp × Tmp}, l[j]? = some o → ldC o = some k → k ∈ ldsC l := fun hj hk => List.mem_filterMap.2 ⟨_, List.mem_of_getElem? hj, hk⟩
  intro R
  induction hm : R.length generalizing R with
  | zero =>
    intro listed G fr' s' a w hnd hR hI hrel
    have e : R = [] := List.eq_nil_of_length_eq_zero hm
    subst e
    refine ⟨?_, G, frF, s, hrel.same ⟨fun t => ?_, hI.p, hI.n⟩, hK⟩
    · refine List.eq_nil_iff_forall_not_mem.2 fun j hj => ?_
      obtain ⟨q1, o, ho, _⟩ := mem_ready.1 hj
      have := (hR j).2 ⟨by
        have := (Array.getElem?_eq_some_iff.1 ho).1
        simpa using this, q1⟩
      cases this
    · by_cases ht : ∀ k ∈ ldsC l, k.2.2 ≠ t
      · rw [hI.o t ht, h1 t ht]
      · have ⟨k, hk, e⟩ : ∃ k ∈ ldsC l, k.2.2 = t := Classical.byContradiction fun hn => ht fun k hk e => hn ⟨k, hk, e⟩
        obtain ⟨o, ho, hk⟩ := List.mem_filterMap.1 hk
        obtain ⟨j, hj⟩ := List.getElem?_of_mem ho
        rw [← e]
        refine hI.d j o k hj hk ?_
        cases hl : listed.getD j true with
        | true => rfl
        | false => exact absurd ((hR j).2 ⟨(List.getElem?_eq_some_iff.1 hj).1, hl⟩) (by simp)
  | succ m ih =>
    intro listed G fr' s' a w hnd hR hI hrel
    refine ⟨fun h0 => ?_, fun i hi => ?_⟩
    · -- the least one that is not done is ready
      exfalso
      have hex : ∃ j, j ∈ R := by
        cases R with
        | nil => simp at hm
        | cons x R => exact ⟨x, by simp⟩
      obtain ⟨j0, hj0⟩ := hex
      have least : ∀ d j, j ≤ d → j ∈ R → ∃ j ∈ R, ∀ i, i < j → i ∉ R := by
        intro d
        induction d with
        | zero => intro j hj hm; exact ⟨j, hm, fun i hi => by omega⟩
        | succ d ihd =>
          intro j hj hm
          by_cases hx : ∃ i, i < j ∧ i ∈ R
          · obtain ⟨i, hi, hi2⟩ := hx
            exact ihd i (by omega) hi2
          · exact ⟨j, hm, fun i hi hi2 => hx ⟨i, hi, hi2⟩⟩
      obtain ⟨j, hj, hmin⟩ := least j0 j0 (Nat.le_refl _) hj0
      obtain ⟨q1, q2⟩ := (hR j).1 hj
      have ho : l[j]? = some l[j] := List.getElem?_eq_getElem q1
      have hc := okCs_at hC ho
      rw [Nat.zero_add] at hc
      simp only [okC1, Bool.and_eq_true, List.all_eq_true] at hc
      have : j ∈ Region.ready .any l.toArray listed := mem_ready.2 ⟨q2, l[j], by simp, fun e he hb => by
        have hlt := hc.1.2 e (by simpa using he)
        rw [hb] at hlt
        have hlt : e.on < j := by simpa [Nat.blt_eq] using hlt
        have hni := hmin e.on hlt
        cases hd : listed.getD e.on false with
        | true => rfl
        | false =>
          refine absurd ((hR e.on).2 ⟨by omega, ?_⟩) hni
          rcases Nat.lt_or_ge e.on listed.size with h' | h'
          · simp [h'] at hd ⊢; exact hd
          · exfalso
            rcases Nat.lt_or_ge j listed.size with h'' | h''
            · omega
            · simp [Array.getElem?_eq_none h''] at q2⟩
      rw [h0] at this
      cases this
    · obtain ⟨q1, o, ho, hwait⟩ := mem_ready.1 hi
      have ho : l[i]? = some o := by simpa using ho
      have hil : i < l.length := (List.getElem?_eq_some_iff.1 ho).1
      have hiR : i ∈ R := (hR i).2 ⟨hil, q1⟩
      have hc := okCs_at hC ho
      rw [Nat.zero_add] at hc
      simp only [okC1, Bool.and_eq_true, List.all_eq_true] at hc
      obtain ⟨⟨c1, _⟩, c3⟩ := hc
      have hgn : gAt (l.map (gdL l)) i = none := by
        rw [gAt_map ho]
        exact Option.isNone_iff_eq_none.1 c1
      have hgd : gdV fr' (gAt (l.map (gdL l)) i) = some true := by rw [hgn]; rfl
      have hlen : (R.erase i).length = m := by rw [List.length_erase_of_mem hiR, hm]; rfl
      have hR' : ∀ j, j ∈ R.erase i ↔ j < l.length ∧ (listed.setIfInBounds i true).getD j true = false := fun j => by
        rw [List.Nodup.mem_erase_iff hnd, hR]
        by_cases e : j = i
        · subst e
          rw [getD_setT]
          simp
        · rw [getD_set_ne true (Ne.symm e)]
          simp [e]
      -- what goes on
      have next : ∀ (fr2 : Fr) (s2 : St), CInv l fr frF s (listed.setIfInBounds i true) fr2 s2 → ∀ G' a' w', Rel n N G0 G' fr2 s2 a' w' → wpAnyIn (wf ρ) 0 P .any l.toArray (Post n N G0 K) m (listed.setIfInBounds i true) a' w' :=
        fun fr2 s2 hI2 G' a' w' hr2 => ih (R.erase i) hlen (listed.setIfInBounds i true) G' fr2 s2 a' w' (hnd.erase i) hR' hI2 hr2
      have same : ∀ (t : Tmp), (∀ k ∈ ldsC l, k.2.2 ≠ t) → rdG true fr' (.tmp t) = rdG true fr (.tmp t) := fun t ht => rdG_same (hI.o t ht)
      have cel : ∀ v, cellsAt s' v = cellsAt s v := fun v => by
        unfold cellsAt
        cases v <;> first | rfl | simp only [hI.p]
      split at c3
      · rename_i T t hop
        simp only [Bool.and_eq_true] at c3
        obtain ⟨d, hd⟩ := Option.isSome_iff_exists.1 c3.1
        have hk : ldC o = some (T, t, d) := by simp only [ldC, hop, hd]
        have hnt : ∀ k ∈ ldsC l, k.2.2 ≠ t := fun k hk e => by
          have := List.all_eq_true.1 c3.2 k hk
          rw [e, Nat.beq_refl] at this
          cases this
        obtain ⟨v, l1, q, γ, off, e1, e2, e3⟩ := h2 _ (mem ho hk)
        refine wpOp_of_step hrel hN hg ho hgd (k := fun f2 s2 => f2 = putD fr' o.dst true v ∧ s2 = s') ?_ fun G' a' w' fr2 s2 hr2 hk2 => ?_
        · refine .inl (stepP_of_stepD (Ω := OwnT.nothing P) (.inl ⟨v, ?_, rfl, rfl⟩))
          have : valD P true o fr' s' = (rdG true fr' (.tmp t)).bind fun v => (cellsAt s' v).bind fun cs => whole P T cs := by
            unfold valD
            rw [hop]
            show evP P o s' (rdG true fr') = _
            unfold evP
            rw [hop]
          rw [this, same t hnt, e2, Option.bind_some, cel]
          exact e3
        · obtain ⟨rfl, rfl⟩ := hk2
          refine next _ _ ⟨fun x hx => ?_, fun j p k hj hpk hl => ?_, hI.p, hI.n⟩ G' a' w' hr2
          · rw [get_putD, hd, if_neg (fun e => hx _ (mem ho hk) (by simpa using e))]
            exact hI.o x hx
          · by_cases e : j = i
            · subst e
              rw [ho] at hj
              cases hj
              rw [hk] at hpk
              cases hpk
              rw [get_putD, hd, if_pos rfl]
              exact e1.symm
            · rw [getD_set_ne true (Ne.symm e)] at hl
              have hne := hD i j o p d ho hj (Ne.symm e) hd
              rw [get_putD, hd, if_neg (fun e => hne (by rw [(ldC_some hpk).2]; simpa using e.symm))]
              exact hI.d j p k hj hpk hl
      · rename_i T t d hop
        simp only [Bool.and_eq_true] at c3
        obtain ⟨⟨⟨⟨d1, d2⟩, d3⟩, d4⟩, d5⟩ := c3
        have hdn : o.dst = none := Option.isNone_iff_eq_none.1 d1
        have hnt : ∀ k ∈ ldsC l, k.2.2 ≠ t := fun k hk e => by
          have := List.all_eq_true.1 d2 k hk
          rw [e, Nat.beq_refl] at this
          cases this
        obtain ⟨e, he, hb⟩ := List.any_eq_true.1 d5
        simp only [Bool.and_eq_true] at hb
        obtain ⟨hb, hp⟩ := hb
        split at hp
        · rename_i p hpl
          split at hp
          · rename_i k hk
            simp only [Bool.and_eq_true] at hp
            have k1 : k.1 = T := Nat.eq_of_beq_eq_true hp.1.1
            have k2 : k.2.1 = t := Nat.eq_of_beq_eq_true hp.1.2
            have k3 : k.2.2 = d := Nat.eq_of_beq_eq_true hp.2
            have hdone : listed.getD e.on true = true := by
              have := hwait e (by simpa using he) hb
              rcases Nat.lt_or_ge e.on listed.size with h' | h'
              · simp [h'] at this ⊢; exact this
              · simp [Array.getElem?_eq_none h']
            obtain ⟨v, l1, q, γ, off, e1, e2, e3⟩ := h2 _ (mem hpl hk)
            have hfd : fr'.get d = some (true, v) := by rw [← k3, hI.d e.on p k hpl hk hdone]; exact e1
            rw [k2] at e2
            rw [k1] at e3
            cases hget : s.get l1 q with
            | none => simp [cellsAt, hget] at e3
            | some x =>
              obtain ⟨γ', r⟩ := x
              cases r with
              | box cs =>
                by_cases hγ : γ' = γ
                · subst hγ
                  have e3 : whole P T (cs.drop off) = some v := by simpa [cellsAt, hget] using e3
                  have hget' : s'.get l1 q = some (γ', .box cs) := by rw [hI.p]; exact hget
                  have hcell : ∀ x ∈ cs.drop off, x.isCell = true := fun x hx => by
                    obtain ⟨b, arr, T', _, _, hr⟩ := hrel.inv.res _ _ _ _ hget'
                    obtain ⟨j, hj, rfl⟩ := List.getElem_of_mem (List.mem_of_mem_drop hx)
                    exact (hr.2 j hj (by rw [← hr.1]; exact hj)).1
                  have h0 : 0 < P.cellsOf T := by simpa [Nat.blt_eq] using d3
                  obtain ⟨w1, w2, w3⟩ := whole_cells e3 d4 hcell
                  have hst : storeD P o fr' s' = some (l1, q, γ', .box cs) := by
                    unfold storeD
                    rw [hop]
                    have r1 : rdG true fr' (.tmp t) = some (.ptr l1 q γ' off) := by rw [same t hnt]; exact e2
                    have r2 : rdG true fr' (.tmp d) = some v := by
                      show (match fr'.get d with
                        | some (c, v) => if (!true || c) = true then some v else none
                        | none => none) = _
                      rw [hfd]
                      rfl
                    simp only [r1, r2, hget']
                    rw [List.length_drop] at w3
                    rw [if_pos ⟨trivial, w1, h0, by rw [w2, List.length_take, List.length_drop]; omega, by omega, hdn⟩, w2, splice_same]
                  refine wpOp_of_step hrel hN hg ho hgd (k := fun f2 s2 => f2 = fr' ∧ s2 = s'.put l1 q γ' (.box cs)) (.inl ((storeD_get hst).2.2.2 _ ⟨rfl, rfl⟩)) fun G' a' w' fr2 s2 hr2 hk2 => ?_
                  obtain ⟨rfl, rfl⟩ := hk2
                  refine next _ _ ⟨hI.o, fun j p2 k' hj hpk hl => ?_, fun i2 k2 => ?_, by rw [St.put_len]; exact hI.n⟩ G' a' w' hr2
                  · by_cases ej : j = i
                    · subst ej
                      rw [ho] at hj
                      cases hj
                      rw [(ldC_some hpk).2] at hdn
                      cases hdn
                    · rw [getD_set_ne true (Ne.symm ej)] at hl
                      exact hI.d j p2 k' hj hpk hl
                  · rw [St.get_put s' hget']
                    split
                    · rename_i e
                      rw [e.1, e.2, hget]
                    · exact hI.p i2 k2
                · simp [cellsAt, hget, hγ] at e3
              | _ => simp [cellsAt, hget] at e3
          · cases hp
        · cases hp
      · cases c3
theorem cls_code {l : List Oper} {id : Nat} {K : Exit → Fr → St → Prop} (hm : P.follows .mixedOrders = true) (hB : drawOK (ownOf l) N (l.map (gdL l)) (segD l) l = true) (hC : okCs P l (ldsC l) l 0 = true) {frF : Fr}
    (h1 : ∀ t, (∀ k ∈ ldsC l, k.2.2 ≠ t) → frF.get t = fr.get t) (h2 : ∀ k ∈ ldsC l, LdAt P fr frF s k) (hK : K .normal frF s) : CodeOK P n N ρ (.region id l.toArray true) K fr s := by
  simp only [drawOK, Bool.and_eq_true] at hB
  obtain ⟨⟨⟨⟨⟨b1, b2⟩, b3⟩, b4⟩, b5⟩, b6⟩ := hB
  intro G0 G a w hR
  refine wpIn_region_any hm ?_
  have hR' : Rel n N G0 G fr s a { w with drawn := w.drawn + 1 } := ⟨hR.le, hR.inv.drawn _, hR.fr, hR.size, hR.lvl, hR.marks⟩
  have := cls_any (ρ := ρ) (K := K) b1 b2 (dstDB_spec b3) hC h1 h2 hK (List.range l.length) (Array.replicate l.length false) G fr s a _ List.nodup_range (fun j => by
    rw [List.mem_range]
    refine ⟨fun h => ⟨h, by simp [h]⟩, fun h => h.1⟩) ⟨fun _ _ => rfl, fun j o k hj _ hl => by
      have := (List.getElem?_eq_some_iff.1 hj).1
      simp [this] at hl, fun _ _ => rfl, rfl⟩ hR'
  rw [List.length_range] at this
  simpa using this
theorem ldsC_nodup : ∀ {l : List Oper}, dstDB l = true → ((ldsC l).map (·.2.2)).Nodup
  | [], _ => by simp [ldsC]
  | o :: r, h => by
    simp only [dstDB, Bool.and_eq_true] at h
    have ih := ldsC_nodup h.2
    unfold ldsC at ih ⊢
    rw [List.filterMap_cons]
    cases hk : ldC o with
    | none => exact ih
    | some k =>
      simp only [List.map_cons, List.nodup_cons]
      refine ⟨fun hm => ?_, ih⟩
      obtain ⟨k', hk', e⟩ := List.mem_map.1 hm
      obtain ⟨p, hp, hpk⟩ := List.mem_filterMap.1 hk'
      have h1 := h.1
      rw [(ldC_some hk).2] at h1
      have h2 := List.all_eq_true.1 h1 p hp
      rw [(ldC_some hpk).2] at h2
      simp only [e, Nat.beq_refl] at h2
      cases h2
theorem ldsC_apart {l : List Oper} (hC : okCs P l (ldsC l) l 0 = true) : ∀ k ∈ ldsC l, ∀ k' ∈ ldsC l, k.2.2 ≠ k'.2.1 := fun k hk k' hk' e => by
  obtain ⟨o, ho, hko⟩ := List.mem_filterMap.1 hk'
  obtain ⟨j, hj⟩ := List.getElem?_of_mem ho
  have hc := okCs_at hC hj
  simp only [okC1, Bool.and_eq_true, (ldC_some hko).1] at hc
  have := List.all_eq_true.1 hc.2.2 k hk
  rw [e, Nat.beq_refl] at this
  cases this
theorem clsX_ok (hP : ProgOK P) {id : Nat} {l : List Oper} (hN : drawOK (ownOf l) N (l.map (gdL l)) (segD l) l = true) (hC : clsB P l = true) {st st' : XS} (hx : clsR P (ldsC l) (some st) = some st') (hbd : Bd st) : Ext st st' ∧
    ∀ (n : Nat) (ρ : Option Nat) (σ : Nat → Nat) (pre : List Level) (K : Exit → Fr → St → Prop), (∀ σ', agree st.c σ σ' → K .normal (st'.fr.ren σ' pre.length) (st'.s.emb σ' pre)) → CodeOK P n N ρ (.region id l.toArray true) K (st.fr.ren σ pre.length) (st.s.emb σ pre) := by
  simp only [clsB, Bool.and_eq_true] at hC
  have hdd : dstDB l = true := by
    have hB := hN
    simp only [drawOK, Bool.and_eq_true] at hB
    exact hB.1.1.1.2
  obtain ⟨b1, b2, b3, b4, b5⟩ := clsR_spec _ (ldsC_apart hC.2) (ldsC_nodup hdd) hbd hx
  refine ⟨⟨by omega, b1, by rw [b3]⟩, fun n ρ σ pre K hk => cls_code hP.mixed hN hC.2 (frF := st'.fr.ren σ pre.length) (fun t ht => ?_) (fun k hk => ?_) (by
    have := hk σ (agree.refl _ _)
    rwa [b3] at this)⟩
  · rw [Fr.get_ren, Fr.get_ren, b4 t ht]
  · obtain ⟨v, l1, q, γ, off, e1, e2, e3⟩ := b5 k hk
    have hv : valD P true (mkO' k.1 (.tmp k.2.1)) st.fr st.s = some v := by
      show ((rdG true st.fr (.tmp k.2.1)).bind fun v => (cellsAt st.s v).bind fun cs => whole P k.1 cs) = some v
      rw [e2]
      exact e3
    have hv := valD_ren (σ := σ) (pre := pre) hv
    have e2' : rdG true (st.fr.ren σ pre.length) (.tmp k.2.1) = some ((V.ptr l1 q γ off).ren σ pre.length) := by rw [rdG_ren, e2]; rfl
    refine ⟨v.ren σ pre.length, l1 + pre.length, q, σ γ, off, by rw [Fr.get_ren, e1]; rfl, by rw [e2']; simp, ?_⟩
    have hv : ((rdG true (st.fr.ren σ pre.length) (.tmp k.2.1)).bind fun v => (cellsAt (st.s.emb σ pre) v).bind fun cs => whole P k.1 cs) = some (v.ren σ pre.length) := hv
    rw [e2'] at hv
    simpa using hv
end Go.Pg
