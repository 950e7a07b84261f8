/- What the owned places become: a new variable, a store, a slice that grows. No program in sight. -/
import Derived.Test.YtfbbnkaahnpicaaPd
namespace Go.Pg
variable {P : Program} {G : Gh} {s : St} {w : World}

theorem EnvOK.alloc (h : EnvOK G w) {o : Obj} (ho : objOK o) : EnvOK G (w.alloc o) := by
  refine ⟨h.1, h.2.1, by rw [World.size_alloc]; exact Nat.le_succ_of_le h.2.2.1, fun b c T fz hb hc => ?_⟩
  by_cases e : b = w.heap.size
  · subst e; rw [heap_alloc_new w o] at hc; exact ho _ _ _ (Option.some.inj hc)
  · rcases Nat.lt_or_ge b w.heap.size with h1 | h1
    · rw [heap_alloc_old w o b h1] at hc; exact h.2.2.2 _ _ _ _ hb hc
    · have : (w.alloc o).heap.size = w.heap.size + 1 := World.size_alloc ..
      have := (Array.getElem?_eq_some_iff.1 hc).1
      omega
theorem EnvOK.turn (h : EnvOK G w) {w' : World} {b : Nat} (hsame : ∀ b', b' ≠ b → w'.heap[b']? = w.heap[b']?) (hsz : w'.heap.size = w.heap.size) (henv : w'.os = w.os ∧ w'.output = w.output) (hb : ∀ c T fz, w'.heap[b]? = some (.cells c T fz) → fz = (0, 0)) : EnvOK G w' := by
  refine ⟨henv.1.trans h.1, henv.2.trans h.2.1, by rw [hsz]; exact h.2.2.1, fun b' c T fz h1 h2 => ?_⟩
  by_cases e : b' = b
  · subst e; exact hb _ _ _ h2
  · rw [hsame b' e] at h2; exact h.2.2.2 _ _ _ _ h1 h2

theorem Inv.new (hI : Inv G s w) (o : Obj) (info : Nat × Nat) (r : Res) (l k : Nat)
    (hp : ∀ g l' k', (s.put l k g r).get l' k' = if l' = l ∧ k' = k then some (g, r) else s.get l' k')
    (hr : ∀ (G' : Gh) g, G.le G' → G'.be g = some (w.heap.size, info.1, info.2) → RRep G' g (w.alloc o) r) (ho : objOK o := by intro _ _ _ h; cases h <;> rfl) :
    ∃ g G', G.le G' ∧ Inv G' (s.put l k g r) (w.alloc o) ∧ G'.be g = some (w.heap.size, info.1, info.2) ∧ G'.sl = G.sl := by
  obtain ⟨N, hN⟩ := hI.fresh
  let G' : Gh := { G with be := fun x => if x = N then some (w.heap.size, info.1, info.2) else G.be x }
  have hle : G.le G' := ⟨fun _ _ h => h, fun g x h => by
    show (if g = N then _ else G.be g) = some x
    split
    · rename_i e; rw [e, hN N (Nat.le_refl _)] at h; cases h
    · exact h, rfl⟩
  have hbe : G'.be N = some (w.heap.size, info.1, info.2) := if_pos rfl
  have hblk : ∀ b x, w.heap[b]? = some x → (w.alloc o).heap[b]? = some x := fun b x h => by
    rw [heap_alloc_old w o b (Array.getElem?_eq_some_iff.1 h).1]; exact h
  have hown : ∀ {b : Nat} {r' : Res}, owns G' N r' = some b → b = w.heap.size := by
    intro b r' h
    cases r' <;> simp only [owns, hbe, Option.map_some] at h
    · exact (Option.some.inj h).symm
    · split at h
      · cases h
      · exact (Option.some.inj h).symm
    · exact (Option.some.inj h).symm
    · exact (Option.some.inj h).symm
    · cases h
  have hold : ∀ {l' k' g' r' b}, s.get l' k' = some (g', r') → owns G' g' r' = some b → owns G g' r' = some b ∧ b < w.heap.size := by
    intro l' k' g' r' b h1 h2
    have := (hI.res _ _ _ _ h1).owned hle h2
    exact ⟨this, (hI.out _ _ _ _ _ h1 this).2⟩
  refine ⟨N, G', hle, ⟨fun b o' h => hblk b o' (hI.sl b o' h), fun l1 k' g' r' h => ?_, fun l1 k1 g1 r1 l2 k2 g2 r2 b h1 h2 h3 h4 => ?_, fun l1 k1 g1 r1 b h1 h2 => ?_, ⟨N + 1, fun g hg => ?_⟩, (hI.env.alloc ho : EnvOK G' _)⟩, hbe, rfl⟩
  · rw [hp] at h
    split at h
    · simp only [Option.some.injEq, Prod.mk.injEq] at h
      obtain ⟨rfl, rfl⟩ := h
      exact hr G' _ hle hbe
    · exact (hI.res _ _ _ _ h).keep hle fun b hb => heap_alloc_old w o b (hI.out _ _ _ _ _ h hb).2
  · rw [hp] at h1 h2
    split at h1 <;> split at h2
    · rename_i e1 e2; exact ⟨e1.1.trans e2.1.symm, e1.2.trans e2.2.symm⟩
    · simp only [Option.some.injEq, Prod.mk.injEq] at h1
      obtain ⟨rfl, rfl⟩ := h1
      have := hown h3
      have := (hold h2 h4).2
      omega
    · simp only [Option.some.injEq, Prod.mk.injEq] at h2
      obtain ⟨rfl, rfl⟩ := h2
      have := hown h4
      have := (hold h1 h3).2
      omega
    · exact hI.sep _ _ _ _ _ _ _ _ _ h1 h2 (hold h1 h3).1 (hold h2 h4).1
  · rw [hp] at h1
    split at h1
    · simp only [Option.some.injEq, Prod.mk.injEq] at h1
      obtain ⟨rfl, rfl⟩ := h1
      have hb := hown h2
      subst hb
      refine ⟨?_, by rw [World.size_alloc]; omega⟩
      cases hs : G.sl w.heap.size with
      | none => rfl
      | some x => have := (Array.getElem?_eq_some_iff.1 (hI.sl _ _ hs)).1; omega
    · obtain ⟨h3, h4⟩ := hold h1 h2
      exact ⟨(hI.out _ _ _ _ _ h1 h3).1, by rw [World.size_alloc]; omega⟩
  · show (if g = N then _ else G.be g) = none
    rw [if_neg (by omega)]
    exact hN g (by omega)

theorem Inv.rename (hI : Inv G s w) {l k g : Nat} {r : Res} {b sz C : Nat} (hget : s.get l k = some (g, r)) (hb : G.be g = some (b, sz, C)) :
    ∃ g' G', G.le G' ∧ Inv G' (s.put l k g' r) w ∧ G'.be g' = some (b, sz, C) ∧ G'.sl = G.sl := by
  obtain ⟨N, hN⟩ := hI.fresh
  let G' : Gh := { G with be := fun x => if x = N then some (b, sz, C) else G.be x }
  have hle : G.le G' := ⟨fun _ _ h => h, fun g x h => by
    show (if g = N then _ else G.be g) = some x
    split
    · rename_i e; rw [e, hN N (Nat.le_refl _)] at h; cases h
    · exact h, rfl⟩
  have hbe : G'.be N = some (b, sz, C) := if_pos rfl
  have hbg : G'.be g = some (b, sz, C) := hle.2 _ _ hb
  have hownN : ∀ r', owns G' N r' = owns G' g r' := by intro r'; cases r' <;> simp only [owns, hbe, hbg]
  have hold : ∀ {l' k' g' r' b'}, s.get l' k' = some (g', r') → owns G' g' r' = some b' → owns G g' r' = some b' := fun h1 h2 => (hI.res _ _ _ _ h1).owned hle h2
  have hrr : RRep G' N w r := by
    have h := (hI.res _ _ _ _ hget).keep (w' := w) hle fun _ _ => rfl
    cases r with
    | dead => trivial
    | box cs => obtain ⟨b', arr, T, h1, h2⟩ := h; rw [hbg] at h1; exact ⟨b', arr, T, hbe.trans h1, h2⟩
    | vec T es => obtain ⟨b', sz', C', h1, h2⟩ := h; rw [hbg] at h1; exact ⟨b', sz', C', hbe.trans h1, h2⟩
    | map es => obtain ⟨b', arr, cl, h1, h2⟩ := h; rw [hbg] at h1; exact ⟨b', arr, cl, hbe.trans h1, h2⟩
    | loop fr ps asg body N st => obtain ⟨b', r, h1, h2⟩ := h; rw [hbg] at h1; exact ⟨b', r, hbe.trans h1, h2⟩
  refine ⟨N, G', hle, ⟨hI.sl, fun l1 k' g' r' h => ?_, fun l1 k1 g1 r1 l2 k2 g2 r2 b' h1 h2 h3 h4 => ?_, fun l1 k1 g1 r1 b' h1 h2 => ?_, ⟨N + 1, fun g hg => ?_⟩, hI.env⟩, hbe, rfl⟩
  · rw [St.get_put s hget] at h
    split at h
    · simp only [Option.some.injEq, Prod.mk.injEq] at h
      obtain ⟨rfl, rfl⟩ := h
      exact hrr
    · exact (hI.res _ _ _ _ h).keep hle fun _ _ => rfl
  · rw [St.get_put s hget] at h1 h2
    split at h1 <;> split at h2
    · rename_i e1 e2; exact ⟨e1.1.trans e2.1.symm, e1.2.trans e2.2.symm⟩
    · rename_i e1 e2
      simp only [Option.some.injEq, Prod.mk.injEq] at h1
      obtain ⟨rfl, rfl⟩ := h1
      rw [hownN] at h3
      obtain ⟨a1, a2⟩ := hI.sep _ _ _ _ _ _ _ _ _ hget h2 (hold hget h3) (hold h2 h4)
      exact absurd ⟨a1.symm, a2.symm⟩ e2
    · rename_i e1 e2
      simp only [Option.some.injEq, Prod.mk.injEq] at h2
      obtain ⟨rfl, rfl⟩ := h2
      rw [hownN] at h4
      obtain ⟨a1, a2⟩ := hI.sep _ _ _ _ _ _ _ _ _ h1 hget (hold h1 h3) (hold hget h4)
      exact absurd ⟨a1, a2⟩ e1
    · exact hI.sep _ _ _ _ _ _ _ _ _ h1 h2 (hold h1 h3) (hold h2 h4)
  · rw [St.get_put s hget] at h1
    split at h1
    · simp only [Option.some.injEq, Prod.mk.injEq] at h1
      obtain ⟨rfl, rfl⟩ := h1
      rw [hownN] at h2
      exact hI.out _ _ _ _ _ hget (hold hget h2)
    · exact hI.out _ _ _ _ _ h1 (hold h1 h2)
  · show (if g = N then _ else G.be g) = none
    rw [if_neg (by omega)]
    exact hN g (by omega)

theorem Inv.turn (hI : Inv G s w) {w' : World} {l k g : Nat} {r r' : Res} {b : Nat} (hget : s.get l k = some (g, r)) (hown : owns G g r = some b) (hown' : owns G g r' = some b)
    (hsame : ∀ b', b' ≠ b → w'.heap[b']? = w.heap[b']?) (hsz : w'.heap.size = w.heap.size) (henv : w'.os = w.os ∧ w'.output = w.output)
    (hr : RRep G g w' r') (hfz : ∀ c T fz, w'.heap[b]? = some (.cells c T fz) → fz = (0, 0)) : Inv G (s.put l k g r') w' := by
  have hne : ∀ {l' k' g' r'' b'}, s.get l' k' = some (g', r'') → owns G g' r'' = some b' → ¬ (l' = l ∧ k' = k) → b' ≠ b := by
    intro l' k' g' r'' b' h1 h2 h3 e
    subst e
    obtain ⟨e1, e2⟩ := hI.sep _ _ _ _ _ _ _ _ _ h1 hget h2 hown
    exact h3 ⟨e1, e2⟩
  refine ⟨fun b' o h => ?_, fun l' k' g' r'' h => ?_, fun l1 k1 g1 r1 l2 k2 g2 r2 b' h1 h2 h3 h4 => ?_, fun l1 k1 g1 r1 b' h1 h2 => ?_, hI.fresh, hI.env.turn hsame hsz henv hfz⟩
  · have : b' ≠ b := by intro e; subst e; rw [(hI.out _ _ _ _ _ hget hown).1] at h; cases h
    rw [hsame b' this]; exact hI.sl _ _ h
  · rw [St.get_put s hget] at h
    split at h
    · simp only [Option.some.injEq, Prod.mk.injEq] at h
      obtain ⟨rfl, rfl⟩ := h
      exact hr
    · rename_i hx
      exact (hI.res _ _ _ _ h).keep (Gh.le_refl G) fun b' hb' => hsame b' (hne h hb' hx)
  · rw [St.get_put s hget] at h1 h2
    split at h1 <;> split at h2
    · rename_i e1 e2; exact ⟨e1.1.trans e2.1.symm, e1.2.trans e2.2.symm⟩
    · rename_i e1 e2
      simp only [Option.some.injEq, Prod.mk.injEq] at h1
      obtain ⟨rfl, rfl⟩ := h1
      have : b' = b := by rw [hown'] at h3; exact (Option.some.inj h3).symm
      exact absurd this (hne h2 h4 e2)
    · rename_i e1 e2
      simp only [Option.some.injEq, Prod.mk.injEq] at h2
      obtain ⟨rfl, rfl⟩ := h2
      have : b' = b := by rw [hown'] at h4; exact (Option.some.inj h4).symm
      exact absurd this (hne h1 h3 e1)
    · exact hI.sep _ _ _ _ _ _ _ _ _ h1 h2 h3 h4
  · rw [St.get_put s hget] at h1
    rw [hsz]
    split at h1
    · simp only [Option.some.injEq, Prod.mk.injEq] at h1
      obtain ⟨rfl, rfl⟩ := h1
      rw [hown'] at h2
      cases h2
      exact hI.out _ _ _ _ _ hget hown
    · exact hI.out _ _ _ _ _ h1 h2

theorem Inv.write (hI : Inv G s w) {l k g : Nat} {r r' : Res} {b : Nat} (hget : s.get l k = some (g, r)) (hown : owns G g r = some b) (hown' : owns G g r' = some b) (cells : Array Value)
    (hr : RRep G g (w.setRow b cells) r') (hh : ∃ arr T, w.heap[b]? = some (.cells arr T (0, 0))) : Inv G (s.put l k g r') (w.setRow b cells) :=
  hI.turn hget hown hown' (fun b' h => setRow_other w b b' cells h) (by simp [World.setRow]) ⟨rfl, rfl⟩ hr fun c T fz h => by
    obtain ⟨arr, T', hh⟩ := hh
    rw [setRow_heap w b arr _ T' _ hh] at h
    cases h; rfl
theorem nf_put {b : Nat} {o : Obj} (hlt : b < w.heap.size) (ho : objOK o := by intro _ _ _ h; cases h) : ∀ c T fz, (w.putObj b o).heap[b]? = some (.cells c T fz) → fz = (0, 0) := fun c T fz h => by
  rw [World.putObj_heap_same hlt] at h
  exact ho _ _ _ (Option.some.inj h)

theorem Inv.congr {s' : St} (hI : Inv G s w) (h : ∀ l k, s'.get l k = s.get l k) : Inv G s' w :=
  ⟨hI.sl, fun l k g r e => hI.res l k g r (by rw [← h]; exact e), fun l k g r l' k' g' r' b e1 e2 => hI.sep l k g r l' k' g' r' b (by rw [← h]; exact e1) (by rw [← h]; exact e2),
   fun l k g r b e => hI.out l k g r b (by rw [← h]; exact e), hI.fresh, hI.env⟩

theorem Inv.congr' {s' : St} (hI : Inv G s w) (h : ∀ l k x, s'.get l k = some x → s.get l k = some x) : Inv G s' w :=
  ⟨hI.sl, fun l k g r e => hI.res l k g r (h _ _ _ e), fun l k g r l' k' g' r' b e1 e2 => hI.sep l k g r l' k' g' r' b (h _ _ _ e1) (h _ _ _ e2),
   fun l k g r b e => hI.out l k g r b (h _ _ _ e), hI.fresh, hI.env⟩

theorem Inv.drop (hI : Inv G s w) {l k g g' : Nat} {r : Res} (hget : s.get l k = some (g, r)) : Inv G (s.put l k g' .dead) w := by
  refine ⟨hI.sl, fun l' k' g'' r'' h => ?_, fun l1 k1 g1 r1 l2 k2 g2 r2 b' h1 h2 h3 h4 => ?_, fun l1 k1 g1 r1 b' h1 h2 => ?_, hI.fresh, hI.env⟩
  · rw [St.get_put s hget] at h
    split at h
    · cases h; trivial
    · exact hI.res _ _ _ _ h
  · rw [St.get_put s hget] at h1 h2
    split at h1
    · cases h1; cases h3
    · split at h2
      · cases h2; cases h4
      · exact hI.sep _ _ _ _ _ _ _ _ _ h1 h2 h3 h4
  · rw [St.get_put s hget] at h1
    split at h1
    · cases h1; cases h2
    · exact hI.out _ _ _ _ _ h1 h2

theorem Inv.lose (hI : Inv G s w) {w' : World} {l k g g' : Nat} {r : Res} {b : Nat} (hget : s.get l k = some (g, r)) (hown : owns G g r = some b)
    (hsame : ∀ b', b' ≠ b → w'.heap[b']? = w.heap[b']?) (hsz : w'.heap.size = w.heap.size) (henv : w'.os = w.os ∧ w'.output = w.output) (hfz : ∀ c T fz, w'.heap[b]? = some (.cells c T fz) → fz = (0, 0)) : Inv G (s.put l k g' .dead) w' := by
  have hD := hI.drop (g' := g') hget
  have hne : ∀ {l' k' g'' r'' b'}, (s.put l k g' .dead).get l' k' = some (g'', r'') → owns G g'' r'' = some b' → b' ≠ b := by
    intro l' k' g'' r'' b' h1 h2 e
    subst e
    rw [St.get_put s hget] at h1
    split at h1
    · cases h1; cases h2
    · rename_i h3
      obtain ⟨e1, e2⟩ := hI.sep _ _ _ _ _ _ _ _ _ h1 hget h2 hown
      exact h3 ⟨e1, e2⟩
  refine ⟨fun b' o h => ?_, fun l' k' g'' r'' h => (hD.res _ _ _ _ h).keep (Gh.le_refl G) fun b' hb' => hsame b' (hne h hb'), hD.sep, fun l' k' g'' r'' b' h1 h2 => ?_, hI.fresh, hI.env.turn hsame hsz henv hfz⟩
  · have : b' ≠ b := by intro e; subst e; rw [(hI.out _ _ _ _ _ hget hown).1] at h; cases h
    rw [hsame b' this]; exact hI.sl _ _ h
  · rw [hsz]; exact hD.out _ _ _ _ _ h1 h2

theorem Inv.grow (hI : Inv G s w) (o : Obj) (ho : objOK o := by intro _ _ _ h; cases h <;> rfl) : Inv G s (w.alloc o) :=
  ⟨fun b x h => by rw [heap_alloc_old w o b (Array.getElem?_eq_some_iff.1 (hI.sl b x h)).1]; exact hI.sl b x h,
   fun l k g r h => (hI.res _ _ _ _ h).keep (Gh.le_refl G) fun b hb => heap_alloc_old w o b (hI.out _ _ _ _ _ h hb).2,
   hI.sep, fun l k g r b h1 h2 => ⟨(hI.out _ _ _ _ _ h1 h2).1, by have := (hI.out _ _ _ _ _ h1 h2).2; rw [World.size_alloc]; omega⟩, hI.fresh, hI.env.alloc ho⟩

theorem Inv.drawn (hI : Inv G s w) (n : Nat) : Inv G s { w with drawn := n } :=
  ⟨hI.sl, fun _ _ _ _ h => (hI.res _ _ _ _ h).keep (Gh.le_refl G) fun _ _ => rfl, hI.sep, hI.out, hI.fresh, hI.env⟩

theorem Inv.lock (hI : Inv G s w) (o : Obj) (ho : objOK o := by intro _ _ _ h; cases h <;> rfl) : ∃ G', G.le G' ∧ Inv G' s (w.alloc o) ∧ G'.sl w.heap.size = some o ∧ (∀ b, b ≠ w.heap.size → G'.sl b = G.sl b) := by
  let G' : Gh := { G with sl := fun b => if b = w.heap.size then some o else G.sl b }
  have hnone : G.sl w.heap.size = none := by
    cases hs : G.sl w.heap.size with
    | none => rfl
    | some x => have := (Array.getElem?_eq_some_iff.1 (hI.sl _ _ hs)).1; omega
  have hle : G.le G' := ⟨fun b x h => by
    show (if b = _ then _ else G.sl b) = some x
    split
    · rename_i e; rw [e, hnone] at h; cases h
    · exact h, fun _ _ h => h, rfl⟩
  refine ⟨G', hle, ⟨fun b x h => ?_, fun l k g r h => (hI.res _ _ _ _ h).keep hle fun b hb => heap_alloc_old w o b (hI.out _ _ _ _ _ h hb).2, hI.sep, fun l k g r b h1 h2 => ?_, hI.fresh, (hI.env.alloc ho : EnvOK G' _)⟩, if_pos rfl, fun b hb => if_neg hb⟩
  · have h' : (if b = w.heap.size then some o else G.sl b) = some x := h
    split at h'
    · rename_i e; subst e; cases h'; exact heap_alloc_new w _
    · rw [heap_alloc_old w o b (Array.getElem?_eq_some_iff.1 (hI.sl b x h')).1]; exact hI.sl b x h'
  · have := hI.out l k g r b h1 h2
    refine ⟨?_, by rw [World.size_alloc]; omega⟩
    show (if b = _ then _ else G.sl b) = none
    rw [if_neg (by omega)]; exact this.1
end Go.Pg
