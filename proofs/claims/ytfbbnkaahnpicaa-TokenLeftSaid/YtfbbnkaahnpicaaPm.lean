/- A function's way in and out: its results, what of its own places stays behind in them. No program in sight. -/
import Derived.Test.YtfbbnkaahnpicaaPj
namespace Go.Pg
variable {P : Program} {n N : Nat} {G0 G : Gh} {fr : Fr} {s : St} {a : Act} {w : World}

theorem closeV_cell (s : St) : ∀ (f : Nat) (v : V), v.isCell = true → (closeV s f v).isCell = true
  | 0, _, h => h
  | f + 1, v, h => by
    cases v with
    | agg cs => cases h
    | tup cs => cases h
    | vec l k g m =>
      simp only [closeV]
      split
      · split
        · split <;> rfl
        · rfl
      · rfl
    | ptr l k g off =>
      simp only [closeV]
      split
      · split
        · split <;> rfl
        · rfl
      · rfl
    | _ => rfl

def Sealed (G' : Gh) (G : Gh) (s : St) (w : World) : Prop := ∀ k g r b, s.loc.get k = some (g, r) → owns G g r = some b → G'.sl b = w.heap[b]?

theorem get_loc {k : Nat} : s.get s.up.length k = s.loc.get k := by simp [St.get]

theorem close_rep {G' : Gh} (hI : Inv G s w) (hle : G.le G') (hs : Sealed G' G s w) : ∀ (f : Nat) (x : V) (v : Value), RepV G x v → RepV G' (closeV s f x) v
  | 0, x, v, h => h.mono hle
  | f + 1, x, v, h => by
    have ih := close_rep hI hle hs f
    cases x with
    | list fl es => exact (h.mono hle).unfull
    | vec l k g m =>
      simp only [closeV]
      split
      · rename_i hl
        subst hl
        split
        · rename_i g' T es hget
          split
          · rename_i hc
            obtain ⟨rfl, hm⟩ := hc
            have hget' : s.get s.up.length k = some (g', .vec T es) := by rw [get_loc]; exact hget
            obtain ⟨b, sz, C, hb, hC, hlen, hmax, hrow⟩ := hI.res _ _ _ _ hget'
            cases h with
            | vec _ _ _ _ b' sz' C' a' hb' hle' ha =>
              rw [hb] at hb'
              simp only [Option.some.injEq, Prod.mk.injEq] at hb'
              obtain ⟨rfl, rfl, rfl⟩ := hb'
              have hml : (es.take m).length = m := by simp; omega
              have key : RepV G' (.list false (es.take m)) (.slice a' (es.take m).length C) := by
                by_cases hC0 : C = 0
                · have : es.take m = [] := List.eq_nil_of_length_eq_zero (by omega)
                  rw [this]
                  exact .list false [] a' C 0 0 0 #[] 0 (0,0) (fun _ _ => undef) (by simp) (fun h => by cases h) (fun h => absurd rfl h) (fun i h => absurd h (by simp)) (fun i h => absurd h (by simp)) (fun i h => absurd h (by simp))
                · obtain ⟨arr, hh, hsz, hr⟩ := hrow hC0
                  have hsl : G'.sl b = some (.cells arr T (0, 0)) := by
                    rw [hs k g' _ b hget (by simp [owns, hb, hC0])]; exact hh
                  have hE : ∀ i (hi : i < es.length), RepL G es[i] (((arr.toList.take (es.length * sz)).drop (i * sz)).take sz) := fun i hi => flat_take hlen hr (List.getElem?_eq_getElem hi)
                  have hpos : ∀ i (hi : i < es.length) j (hj : j < es[i].length), (((arr.toList.take (es.length * sz)).drop (i * sz)).take sz)[j]? = arr[i * sz + j]? := by
                    intro i hi j hj
                    have hj' : j < sz := by rw [← hlen _ (List.getElem_mem hi)]; exact hj
                    have hle2 : (i + 1) * sz ≤ es.length * sz := Nat.mul_le_mul_right _ hi
                    rw [Nat.add_mul] at hle2
                    rw [List.getElem?_take_of_lt hj', List.getElem?_drop, List.getElem?_take_of_lt (by omega), Array.getElem?_toList]
                  refine .list false _ a' C b 0 sz arr T (0, 0) (fun i j => arr[i * sz + j]?.getD undef) (by omega) (fun h => by cases h) (fun _ => ⟨ha hC0, hsl⟩) (fun i h => ?_) (fun i h j hj => ?_) (fun i h j hj => ?_)
                  · rw [List.getElem_take]; exact hlen _ (List.getElem_mem _)
                  · have hi : i < es.length := by simp at h; omega
                    simp only [List.getElem_take] at hj ⊢
                    have hL := hE i hi
                    have hj2 : j < (((arr.toList.take (es.length * sz)).drop (i * sz)).take sz).length := by rw [← hL.1]; exact hj
                    have e1 := hpos i hi j hj
                    rw [List.getElem?_eq_getElem hj2] at e1
                    refine ⟨?_, (hL.2 j hj hj2).1⟩
                    rw [Nat.zero_add, ← e1]; rfl
                  · have hi : i < es.length := by simp at h; omega
                    simp only [List.getElem_take] at hj ⊢
                    have hL := hE i hi
                    have hj2 : j < (((arr.toList.take (es.length * sz)).drop (i * sz)).take sz).length := by rw [← hL.1]; exact hj
                    have e1 := hpos i hi j hj
                    rw [List.getElem?_eq_getElem hj2] at e1
                    rw [← e1]
                    exact (hL.2 j hj hj2).2.mono hle
              rw [hml] at key
              exact key
          · exact h.mono hle
        · exact h.mono hle
      · exact h.mono hle
    | ptr l k g off =>
      simp only [closeV]
      split
      · rename_i hl
        subst hl
        split
        · rename_i g' cs hget
          split
          · rename_i hc
            subst hc
            have hget' : s.get s.up.length k = some (g', .box cs) := by rw [get_loc]; exact hget
            obtain ⟨b, arr, T, hb, hh, hr⟩ := hI.res _ _ _ _ hget'
            cases h with
            | ptr _ _ _ _ b' sz C hb' =>
              rw [hb] at hb'
              simp only [Option.some.injEq, Prod.mk.injEq] at hb'
              obtain ⟨rfl, rfl, rfl⟩ := hb'
              have hsl : G'.sl b = some (.cells arr T (0, 0)) := by
                rw [hs k g' _ b hget (by simp [owns, hb])]; exact hh
              refine .ref _ b off arr T (0, 0) (fun j => arr[off + j]?.getD undef) hsl (fun j hj => ?_) (fun j hj => ?_)
              · simp only [List.length_drop, List.length_map] at hj
                have h1 : off + j < cs.length := by omega
                have h2 : off + j < arr.toList.length := by rw [← hr.1]; exact h1
                have h2' : off + j < arr.size := by simpa using h2
                simp only [List.getElem_drop, List.getElem_map]
                exact ⟨by simp [h2'], closeV_cell s f _ (hr.2 _ h1 h2).1⟩
              · simp only [List.length_drop, List.length_map] at hj
                have h1 : off + j < cs.length := by omega
                have h2 : off + j < arr.toList.length := by rw [← hr.1]; exact h1
                have h2' : off + j < arr.size := by simpa using h2
                simp only [List.getElem_drop, List.getElem_map]
                have := ih _ _ (hr.2 _ h1 h2).2
                simpa [h2'] using this
          · exact h.mono hle
        · exact h.mono hle
      · exact h.mono hle
    | agg cs =>
      simp only [closeV]
      cases h with
      | agg _ arr hl hc hr =>
        refine .agg _ arr (by simpa using hl) (fun c hc' => ?_) (fun i h1 h2 => ?_)
        · obtain ⟨d, hd, rfl⟩ := List.mem_map.1 hc'
          exact closeV_cell s f d (hc d hd)
        · simp only [List.getElem_map]; exact ih _ _ (hr i (by simpa using h1) h2)
    | tup cs =>
      simp only [closeV]
      cases h with
      | tup _ arr hl hr =>
        refine .tup _ arr (by simpa using hl) (fun i h1 h2 => ?_)
        simp only [List.getElem_map]; exact ih _ _ (hr i (by simpa using h1) h2)
    | fn g xs ys =>
      simp only [closeV]
      cases h with
      | fn _ _ _ a1 a2 l1 l2 hx hy =>
        exact .fn g _ _ a1 a2 (by simpa using l1) (by simpa using l2) (fun i p q => by simp only [List.getElem_map]; exact ih _ _ (hx i (by simpa using p) q)) (fun i p q => by simp only [List.getElem_map]; exact ih _ _ (hy i (by simpa using p) q))
    | _ => exact h.mono hle

theorem isCell_closeO (s : St) {v : V} (h : v.isCell = true) : (closeO s v).isCell = true := by
  unfold closeO
  split
  · rfl
  · exact closeV_cell s 4 _ h
theorem closeO_rep {G' : Gh} (hI : Inv G s w) (hle : G.le G') (hs : Sealed G' G s w) {x : V} {v : Value} (h : RepV G x v) : RepV G' (closeO s x) v := by
  unfold closeO
  split
  · exact h.mono hle
  · exact close_rep hI hle hs 4 _ v h
theorem closeL_rep {G' : Gh} (hI : Inv G s w) (hle : G.le G') (hs : Sealed G' G s w) {cs : List V} {vs : List Value} (h : RepL G cs vs) : RepL G' (cs.map (closeO s)) vs :=
  ⟨by simpa using h.1, fun i p q => by
    simp only [List.getElem_map]
    have := h.2 i (by simpa using p) q
    exact ⟨isCell_closeO s this.1, closeO_rep hI hle hs this.2⟩⟩
theorem get_map_close (s : St) : ∀ (fr : Fr) (k : Nat), Fr.get (fr.map fun x => (x.1, x.2.1, closeO s x.2.2)) k = (fr.get k).map fun x => (x.1, closeO s x.2)
  | [], _ => rfl
  | (j, c, v) :: fr, k => by
    simp only [List.map_cons, Fr.get]
    split
    · rfl
    · exact get_map_close s fr k
theorem closeRes_rep {G' : Gh} (hI : Inv G s w) (hle : G.le G') (hs : Sealed G' G s w) {g : Nat} {r : Res} (h : RRep G g w r) : RRep G' g w (closeRes s r) := by
  cases r with
  | dead => trivial
  | box cs =>
    obtain ⟨b, arr, T, h1, h2, h3⟩ := h
    exact ⟨b, arr, T, by simpa using hle.2 _ _ h1, h2, closeL_rep hI hle hs h3⟩
  | vec T es =>
    obtain ⟨b, sz, C, h1, h2, h3, h4, h5⟩ := h
    refine ⟨b, sz, C, hle.2 _ _ h1, by simpa using h2, fun e he => ?_, ⟨h4.1, fun h => h4.2 (by simpa using h)⟩, fun hC => ?_⟩
    · obtain ⟨e', he', rfl⟩ := List.mem_map.1 he
      simpa using h3 e' he'
    · obtain ⟨arr, h6, h7, h8⟩ := h5 hC
      refine ⟨arr, h6, h7, ?_⟩
      have := closeL_rep hI hle hs h8
      rw [List.map_flatten] at this
      simpa using this
  | map es =>
    obtain ⟨b, arr, clock, h1, h2, h3, h4⟩ := h
    exact ⟨b, arr, clock, hle.2 _ _ h1, h2, by simpa using h3, fun i p q => by
      simp only [List.getElem_map]
      have := h4 i (by simpa using p) q
      exact ⟨closeO_rep hI hle hs this.1, closeO_rep hI hle hs this.2⟩⟩
  | loop fr ps asg body N st =>
    obtain ⟨b, r, h1, h2, h3, h4⟩ := h
    refine ⟨b, r, hle.2 _ _ h1, h2, fun k c v hk => ?_, h4⟩
    have hk' : Fr.get (fr.map fun x => (x.1, x.2.1, closeO s x.2.2)) k = some (c, v) := hk
    rw [get_map_close] at hk'
    obtain ⟨⟨c', v'⟩, he, hx⟩ := Option.map_eq_some_iff.1 hk'
    cases hx
    obtain ⟨x, q1, q2, q3⟩ := h3 k _ _ he
    exact ⟨x, q1, fun hc => closeO_rep hI hle hs (q2 hc), q3⟩
theorem owns_close (G : Gh) (s : St) (g : Nat) (r : Res) : owns G g (closeRes s r) = owns G g r := by cases r <;> rfl

theorem vec_shut {G' : Gh} (hI : Inv G s w) (hle : G.le G') {l k g m : Nat} {T : TypeId} {es : List (List V)} {v : Value} (hget : s.get l k = some (g, .vec T es)) (hm : m ≤ es.length) (hs : ∀ b, owns G g (.vec T es) = some b → G'.sl b = w.heap[b]?) (h : RepV G (.vec l k g m) v) :
    RepV G' (.list false (es.take m)) v := by
  obtain ⟨b, sz, C, hb, hC, hlen, hmax, hrow⟩ := hI.res _ _ _ _ hget
  cases h with
  | vec _ _ _ _ b' sz' C' a' hb' hle' ha =>
    rw [hb] at hb'
    simp only [Option.some.injEq, Prod.mk.injEq] at hb'
    obtain ⟨rfl, rfl, rfl⟩ := hb'
    have hml : (es.take m).length = m := by simp; omega
    have key : RepV G' (.list false (es.take m)) (.slice a' (es.take m).length C) := by
      by_cases hC0 : C = 0
      · have : es.take m = [] := List.eq_nil_of_length_eq_zero (by omega)
        rw [this]
        exact .list false [] a' C 0 0 0 #[] 0 (0,0) (fun _ _ => undef) (by simp) (fun h => by cases h) (fun h => absurd rfl h) (fun i h => absurd h (by simp)) (fun i h => absurd h (by simp)) (fun i h => absurd h (by simp))
      · obtain ⟨arr, hh, hsz, hr⟩ := hrow hC0
        have hsl : G'.sl b = some (.cells arr T (0, 0)) := by
          rw [hs b (by simp [owns, hb, hC0])]; exact hh
        have hE : ∀ i (hi : i < es.length), RepL G es[i] (((arr.toList.take (es.length * sz)).drop (i * sz)).take sz) := fun i hi => flat_take hlen hr (List.getElem?_eq_getElem hi)
        have hpos : ∀ i (hi : i < es.length) j (hj : j < es[i].length), (((arr.toList.take (es.length * sz)).drop (i * sz)).take sz)[j]? = arr[i * sz + j]? := by
          intro i hi j hj
          have hj' : j < sz := by rw [← hlen _ (List.getElem_mem hi)]; exact hj
          have hle2 : (i + 1) * sz ≤ es.length * sz := Nat.mul_le_mul_right _ hi
          rw [Nat.add_mul] at hle2
          rw [List.getElem?_take_of_lt hj', List.getElem?_drop, List.getElem?_take_of_lt (by omega), Array.getElem?_toList]
        refine .list false _ a' C b 0 sz arr T (0, 0) (fun i j => arr[i * sz + j]?.getD undef) (by omega) (fun h => by cases h) (fun _ => ⟨ha hC0, hsl⟩) (fun i h => ?_) (fun i h j hj => ?_) (fun i h j hj => ?_)
        · rw [List.getElem_take]; exact hlen _ (List.getElem_mem _)
        · have hi : i < es.length := by simp at h; omega
          simp only [List.getElem_take] at hj ⊢
          have hL := hE i hi
          have hj2 : j < (((arr.toList.take (es.length * sz)).drop (i * sz)).take sz).length := by rw [← hL.1]; exact hj
          have e1 := hpos i hi j hj
          rw [List.getElem?_eq_getElem hj2] at e1
          refine ⟨?_, (hL.2 j hj hj2).1⟩
          rw [Nat.zero_add, ← e1]; rfl
        · have hi : i < es.length := by simp at h; omega
          simp only [List.getElem_take] at hj ⊢
          have hL := hE i hi
          have hj2 : j < (((arr.toList.take (es.length * sz)).drop (i * sz)).take sz).length := by rw [← hL.1]; exact hj
          have e1 := hpos i hi j hj
          rw [List.getElem?_eq_getElem hj2] at e1
          rw [← e1]
          exact (hL.2 j hj hj2).2.mono hle
    rw [hml] at key
    exact key

theorem Inv.lockRow {l k g : Nat} {T : TypeId} {es : List (List V)} (hI : Inv G s w) (hget : s.get l k = some (g, .vec T es)) :
    ∃ G', G.le G' ∧ Inv G' (s.put l k g .dead) w ∧ ∀ b, owns G g (.vec T es) = some b → G'.sl b = w.heap[b]? := by
  let G' : Gh := { G with sl := fun b => if owns G g (.vec T es) = some b then w.heap[b]? else G.sl b }
  have hle : G.le G' := ⟨fun b x h => by
    show (if owns G g (.vec T es) = some b then w.heap[b]? else G.sl b) = some x
    split
    · rename_i e; rw [(hI.out _ _ _ _ _ hget e).1] at h; cases h
    · exact h, fun _ _ h => h, rfl⟩
  have hso : ∀ {g r b}, owns G' g r = some b → owns G g r = some b := by intro g r b h; cases r <;> exact h
  have look : ∀ {l' k' x}, (s.put l k g .dead).get l' k' = some x → x = (g, .dead) ∨ (¬ (l' = l ∧ k' = k) ∧ s.get l' k' = some x) := fun {l' k' x} h => by
    rw [St.get_put s hget] at h
    split at h
    · exact .inl (Option.some.inj h).symm
    · rename_i e; exact .inr ⟨e, h⟩
  refine ⟨G', hle, ⟨fun b o h => ?_, fun l1 k1 g1 r1 h => ?_, fun l1 k1 g1 r1 l2 k2 g2 r2 b h1 h2 h3 h4 => ?_, fun l1 k1 g1 r1 b h1 h2 => ?_, hI.fresh, hI.env⟩, fun b hb => if_pos hb⟩
  · have h' : (if owns G g (.vec T es) = some b then w.heap[b]? else G.sl b) = some o := h
    split at h'
    · exact h'
    · exact hI.sl _ _ h'
  · rcases look h with e | ⟨_, e⟩
    · cases e; trivial
    · exact (hI.res _ _ _ _ e).keep hle fun _ _ => rfl
  · rcases look h1 with e | ⟨_, e1⟩
    · cases e; cases h3
    · rcases look h2 with e | ⟨_, e2⟩
      · cases e; cases h4
      · exact hI.sep _ _ _ _ _ _ _ _ _ e1 e2 (hso h3) (hso h4)
  · rcases look h1 with e | ⟨hne, e⟩
    · cases e; cases h2
    · have h0 := hI.out _ _ _ _ _ e (hso h2)
      refine ⟨?_, h0.2⟩
      show (if owns G g (.vec T es) = some b then w.heap[b]? else G.sl b) = none
      rw [if_neg fun hb => hne (hI.sep _ _ _ _ _ _ _ _ _ e hget (hso h2) hb)]
      exact h0.1

theorem Inv.leave {up : List Level} {lc : Level} {loc : Level} (hI : Inv G ⟨up ++ [lc], loc⟩ w) : ∃ G', G.le G' ∧ Inv G' ⟨up, lc⟩ w ∧ Sealed G' G ⟨up ++ [lc], loc⟩ w := by
  classical
  let own : Nat → Prop := fun b => ∃ k g r, loc.get k = some (g, r) ∧ owns G g r = some b
  let G' : Gh := { G with sl := fun b => if own b then w.heap[b]? else G.sl b }
  have hgl : ∀ k, (⟨up ++ [lc], loc⟩ : St).get (up ++ [lc]).length k = loc.get k := fun k => by simp [St.get]
  have hgu : ∀ l k x, (⟨up, lc⟩ : St).get l k = some x → l ≠ (up ++ [lc]).length ∧ (⟨up ++ [lc], loc⟩ : St).get l k = some x := by
    intro l k x hx
    unfold St.get at hx
    split at hx
    · rename_i e
      subst e
      refine ⟨by simp, ?_⟩
      simpa [St.get] using hx
    · rename_i e
      cases hu : up[l]? with
      | none => simp [hu] at hx
      | some L =>
        have hlt := (List.getElem?_eq_some_iff.1 hu).1
        refine ⟨by simp; omega, ?_⟩
        have : ¬ l = up.length + 1 := by omega
        simp only [St.get, List.length_append, List.length_singleton, if_neg this]
        rw [List.getElem?_append_left hlt, hu]
        rw [hu] at hx
        exact hx
  have hnown : ∀ l k g r b, (⟨up, lc⟩ : St).get l k = some (g, r) → owns G g r = some b → ¬ own b := by
    rintro l k g r b h1 h2 ⟨k', g', r', h3, h4⟩
    obtain ⟨hne, h5⟩ := hgu _ _ _ h1
    exact hne (hI.sep _ _ _ _ _ _ _ _ _ h5 ((hgl k').trans h3) h2 h4).1
  have hle : G.le G' := ⟨fun b o h => by
    show (if own b then _ else _) = some o
    split
    · rename_i hb
      obtain ⟨k, g, r, h1, h2⟩ := hb
      have := (hI.out _ _ _ _ _ ((hgl k).trans h1) h2).1
      rw [this] at h; cases h
    · exact h, fun _ _ h => h, rfl⟩
  have hso : ∀ {g r b}, owns G' g r = some b → owns G g r = some b := by intro g r b h; cases r <;> exact h
  refine ⟨G', hle, ⟨fun b o h => ?_, fun l k g r h => (hI.res _ _ _ _ (hgu _ _ _ h).2).keep hle fun _ _ => rfl, fun l k g r l' k' g' r' b h1 h2 h3 h4 => hI.sep _ _ _ _ _ _ _ _ _ (hgu _ _ _ h1).2 (hgu _ _ _ h2).2 (hso h3) (hso h4), fun l k g r b h1 h2 => ?_, hI.fresh, hI.env⟩, fun k g r b h1 h2 => if_pos ⟨k, g, r, h1, h2⟩⟩
  · have h' : (if own b then w.heap[b]? else G.sl b) = some o := h
    split at h'
    · exact h'
    · exact hI.sl _ _ h'
  · have := hI.out _ _ _ _ _ (hgu _ _ _ h1).2 (hso h2)
    refine ⟨?_, this.2⟩
    show (if own b then _ else _) = none
    rw [if_neg (hnown _ _ _ _ _ h1 (hso h2))]
    exact this.1

theorem get_below {up : List Level} {lc loc : Level} {l k : Nat} {x : Nat × Res} (hx : (⟨up, lc⟩ : St).get l k = some x) : l ≤ up.length ∧ (⟨up ++ [lc], loc⟩ : St).get l k = some x := by
  unfold St.get at hx
  split at hx
  · rename_i e
    subst e
    exact ⟨Nat.le_refl _, by simpa [St.get] using hx⟩
  · rename_i e
    cases hu : up[l]? with
    | none => simp [hu] at hx
    | some L =>
      have hlt := (List.getElem?_eq_some_iff.1 hu).1
      refine ⟨Nat.le_of_lt hlt, ?_⟩
      have : ¬ l = up.length + 1 := by omega
      simp only [St.get, List.length_append, List.length_singleton, if_neg this]
      rw [List.getElem?_append_left hlt, hu]
      rw [hu] at hx
      exact hx

theorem Inv.shut {up : List Level} {lc : Level} {loc : Level} {s2 : St} (hI : Inv G ⟨up ++ [lc], loc⟩ w) (hS : Shut ⟨up ++ [lc], loc⟩ ⟨up, lc⟩ s2) : ∃ G', G.le G' ∧ Inv G' s2 w ∧ Sealed G' G ⟨up ++ [lc], loc⟩ w := by
  obtain ⟨G', hle, hI', hs⟩ := hI.leave
  have look : ∀ {l k g r}, s2.get l k = some (g, r) → ∃ r0, (⟨up, lc⟩ : St).get l k = some (g, r0) ∧ RRep G' g w r ∧ owns G' g r = owns G' g r0 := by
    intro l k g r h
    obtain ⟨r0, h0, h1⟩ := hS.2 _ _ _ _ h
    rcases h1 with rfl | rfl
    · exact ⟨r, h0, hI'.res _ _ _ _ h0, rfl⟩
    · exact ⟨r0, h0, closeRes_rep hI hle hs (hI.res _ _ _ _ (get_below h0).2), owns_close _ _ _ _⟩
  refine ⟨G', hle, ⟨hI'.sl, fun l k g r h => (by obtain ⟨r0, _, h2, _⟩ := look h; exact h2), fun l k g r l' k' g' r' b h1 h2 h3 h4 => ?_, fun l k g r b h1 h2 => ?_, hI'.fresh, hI'.env⟩, hs⟩
  · rcases look h1 with ⟨r1, e1, _, o1⟩
    rcases look h2 with ⟨r2, e2, _, o2⟩
    exact hI'.sep _ _ _ _ _ _ _ _ _ e1 e2 (o1 ▸ h3) (o2 ▸ h4)
  · rcases look h1 with ⟨r1, e1, _, o1⟩
    exact hI'.out _ _ _ _ _ e1 (o1 ▸ h2)

theorem Inv.hand {up : List Level} {lc : Level} {loc : Level} {k d g : Nat} {r : Res} (hI : Inv G ⟨up ++ [lc], loc⟩ w) (hk : loc.get k = some (g, r)) : Inv G ((⟨up, lc⟩ : St).put up.length d g r) w := by
  have hown : (⟨up ++ [lc], loc⟩ : St).get (up.length + 1) k = some (g, r) := by simpa [St.get] using hk
  have look : ∀ {l' k' x}, ((⟨up, lc⟩ : St).put up.length d g r).get l' k' = some x → (l' = up.length ∧ k' = d ∧ x = (g, r)) ∨ (¬ (l' = up.length ∧ k' = d) ∧ l' ≤ up.length ∧ (⟨up ++ [lc], loc⟩ : St).get l' k' = some x) := by
    intro l' k' x h
    rw [St.get_putLoc (⟨up, lc⟩ : St) l' k'] at h
    split at h
    · rename_i e; exact .inl ⟨e.1, e.2, (Option.some.inj h).symm⟩
    · rename_i e
      obtain ⟨h1, h2⟩ := get_below (loc := loc) h
      exact .inr ⟨e, h1, h2⟩
  refine ⟨hI.sl, fun l' k' g' r' h => ?_, fun l1 k1 g1 r1 l2 k2 g2 r2 b h1 h2 h3 h4 => ?_, fun l1 k1 g1 r1 b h1 h2 => ?_, hI.fresh, hI.env⟩
  · rcases look h with ⟨_, _, e⟩ | ⟨_, _, e⟩
    · cases e; exact hI.res _ _ _ _ hown
    · exact hI.res _ _ _ _ e
  · rcases look h1 with ⟨a1, a2, e1⟩ | ⟨a1, a2, e1⟩ <;> rcases look h2 with ⟨b1, b2, e2⟩ | ⟨b1, b2, e2⟩
    · exact ⟨a1.trans b1.symm, a2.trans b2.symm⟩
    · cases e1
      have := (hI.sep _ _ _ _ _ _ _ _ _ hown e2 h3 h4).1
      omega
    · cases e2
      have := (hI.sep _ _ _ _ _ _ _ _ _ e1 hown h3 h4).1
      omega
    · exact hI.sep _ _ _ _ _ _ _ _ _ e1 e2 h3 h4
  · rcases look h1 with ⟨_, _, e⟩ | ⟨_, _, e⟩
    · cases e; exact hI.out _ _ _ _ _ hown h2
    · exact hI.out _ _ _ _ _ e h2
end Go.Pg
