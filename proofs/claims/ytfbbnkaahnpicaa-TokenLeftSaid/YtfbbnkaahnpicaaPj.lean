/- That the model follows 'stepP': a slice that grows, as a place. No program in sight. -/
import Derived.Test.YtfbbnkaahnpicaaPi
namespace Go.Pg
variable {P : Program} {G : Gh} {s : St} {w : World}

theorem Inv.newNil (hI : Inv G s w) (T : TypeId) (sz l k : Nat) (hp : ∀ g l' k', (s.put l k g (.vec T [])).get l' k' = if l' = l ∧ k' = k then some (g, .vec T []) else s.get l' k') :
    ∃ g G', G.le G' ∧ Inv G' (s.put l k g (.vec T [])) w ∧ G'.be g = some (0, sz, 0) ∧ G'.sl = G.sl := by
  obtain ⟨N, hN⟩ := hI.fresh
  let G' : Gh := { G with be := fun x => if x = N then some (0, sz, 0) else G.be x }
  have hle : G.le G' := ⟨fun _ _ h => h, fun g x h => by
    show (if g = N then _ else G.be g) = some x
    split
    · rename_i e; rw [e, hN N (Nat.le_refl _)] at h; cases h
    · exact h, rfl⟩
  have hbe : G'.be N = some (0, sz, 0) := if_pos rfl
  have hold : ∀ {l' k' g' r' b'}, s.get l' k' = some (g', r') → owns G' g' r' = some b' → owns G g' r' = some b' := fun h1 h2 => (hI.res _ _ _ _ h1).owned hle h2
  have hnone : owns G' N (.vec T []) = none := by simp [owns, hbe]
  refine ⟨N, G', hle, ⟨hI.sl, fun l1 k' g' r' h => ?_, fun l1 k1 g1 r1 l2 k2 g2 r2 b' h1 h2 h3 h4 => ?_, fun l1 k1 g1 r1 b' h1 h2 => ?_, ⟨N + 1, fun g hg => ?_⟩, hI.env⟩, hbe, rfl⟩
  · rw [hp] at h
    split at h
    · simp only [Option.some.injEq, Prod.mk.injEq] at h
      obtain ⟨rfl, rfl⟩ := h
      exact ⟨0, sz, 0, hbe, by simp, by simp, ⟨by unfold maxLen; omega, fun _ => rfl⟩, fun h => absurd rfl h⟩
    · exact (hI.res _ _ _ _ h).keep hle fun _ _ => rfl
  · rw [hp] at h1 h2
    split at h1
    · simp only [Option.some.injEq, Prod.mk.injEq] at h1
      obtain ⟨rfl, rfl⟩ := h1
      rw [hnone] at h3; cases h3
    · split at h2
      · simp only [Option.some.injEq, Prod.mk.injEq] at h2
        obtain ⟨rfl, rfl⟩ := h2
        rw [hnone] at h4; cases h4
      · exact hI.sep _ _ _ _ _ _ _ _ _ h1 h2 (hold h1 h3) (hold h2 h4)
  · rw [hp] at h1
    split at h1
    · simp only [Option.some.injEq, Prod.mk.injEq] at h1
      obtain ⟨rfl, rfl⟩ := h1
      rw [hnone] at h2; cases h2
    · exact hI.out _ _ _ _ _ h1 (hold h1 h2)
  · show (if g = N then _ else G.be g) = none
    rw [if_neg (by omega)]
    exact hN g (by omega)

theorem zeros_size (z : Array Value) (n : Nat) : (Builtin.zeroCells z n).size = n * z.size := by simp [Builtin.zeroCells]

theorem Inv.newVec (hI : Inv G s w) (e : TypeId) (es : List (List V)) (sz C l k : Nat) (arr : Array Value) (hp : ∀ g r l' k', (s.put l k g r).get l' k' = if l' = l ∧ k' = k then some (g, r) else s.get l' k')
    (hC : es.length ≤ C) (hmax : C ≤ maxLen) (hne : es ≠ []) (hes : ∀ x ∈ es, x.length = sz) (hsz : arr.size = C * sz) (hL : RepL G es.flatten (arr.toList.take (es.length * sz))) :
    ∃ g G', G.le G' ∧ Inv G' (s.put l k g (.vec e es)) (w.alloc (.cells arr e)) ∧ G'.be g = some (w.heap.size, sz, C) ∧ G'.sl = G.sl :=
  hI.new (.cells arr e) (sz, C) (.vec e es) l k (fun g => hp g _) fun _ _ hle hbe => ⟨_, _, _, hbe, hC, hes, ⟨hmax, fun h => absurd h hne⟩, fun _ => ⟨arr, heap_alloc_new w _, hsz, hL.mono hle⟩⟩

theorem buildSlice_own {T : TypeId} {len : Nat} {ps : List (Nat × V)} {es : List (List V)} {vals : Array (Nat × Value)} {d : Nat} (hI : Inv G s w) (h : evBuildSlice P T len ps = some (.list true es)) (hl : ps.length = vals.toList.length)
    (hp : ∀ i (h1 : i < ps.length) (h2 : i < vals.toList.length), ps[i].1 = vals.toList[i].1 ∧ RepV G ps[i].2 vals.toList[i].2) (hne : es ≠ []) (hmax : es.length ≤ maxLen) {e : TypeId} (hel : elemT P T = some (none, e)) :
    ∃ u w' γ G', (Instr.buildSlice T len vals).run P w = .ok u w' ∧ G.le G' ∧ Inv G' (s.put s.up.length d γ (.vec e es)) w' ∧ RepV G' (.vec s.up.length d γ es.length) u := by
  obtain ⟨e', cs, arr, hel', he, hcl, hL, hrun⟩ := buildSlice_core (w := w) h hl hp
  obtain rfl : e' = e := by rw [hel] at hel'; cases hel'; rfl
  cases he
  obtain ⟨q1, q2, q3⟩ := chunks_flat (P.cellsOf e') len cs hcl
  obtain ⟨γ, G', hle, hI', hbe, _⟩ := hI.newVec e' (chunks (P.cellsOf e') cs len) (P.cellsOf e') len s.up.length d arr (hp := fun g r l' k' => St.get_putLoc s l' k') (by omega) (by omega) hne q3 (by rw [← hcl, hL.1]; simp)
    (by rw [q1, q2, ← hcl, hL.1, List.take_length]; exact hL)
  refine ⟨_, _, γ, G', hrun, hle, hI', ?_⟩
  rw [q2]
  exact .vec _ _ _ _ _ _ len _ hbe (Nat.le_refl _) (fun _ => rfl)

theorem grown_rep {os ns : List V} {olds news : List Value} (z : Array Value) (k n : Nat) (ho : RepL G os olds) (hn : RepL G ns news) (hl : olds.length + news.length = n) :
    RepL G (os ++ ns) ((olds.toArray ++ news.toArray ++ Builtin.zeroCells z k).toList.take n) := by
  have : (olds.toArray ++ news.toArray ++ Builtin.zeroCells z k).toList.take n = olds ++ news := by
    simp only [Array.toList_append]
    rw [List.take_left' (by simpa using hl)]
  rw [this]
  exact ho.append hn

theorem vec_flat {es : List (List V)} {sz : Nat} {vs : List Value} (hes : ∀ e ∈ es, e.length = sz) (h : RepL G es.flatten vs) : vs.length = es.length * sz := by rw [← h.1, flat_len hes]

theorem bytes_of {e : TypeId} {i : TypeInfo} (hi : P.info? e = some i) : P.bytesOf e = i.bytes ∧ P.cellsOf e = i.size := by simp [Program.bytesOf, Program.cellsOf, hi]

theorem zOk_info {e : TypeId} (h : zOk P e = true) : ∃ z i, P.info? e = some i ∧ i.zero = some z ∧ z.cells.size = P.cellsOf e := by
  unfold zOk at h
  split at h
  · rename_i z hz
    have hrep : ∀ {vs : List Value} {xs : List V}, constL vs = some xs → xs.length = vs.length := by
      intro vs
      induction vs with
      | nil => intro xs h; simp [constL] at h; subst h; rfl
      | cons v vs ih =>
        intro xs h
        unfold constL at h
        split at h
        · rename_i x l hx hl; cases h; simp [ih hl]
        · cases h
    unfold zeroC at hz
    split at hz
    · rename_i zv hzv
      unfold zeroV at hzv
      obtain ⟨i, hi, hiz⟩ := Option.bind_eq_some_iff.1 hzv
      refine ⟨zv, i, hi, hiz, ?_⟩
      have := hrep hz
      simp at h this
      omega
    · cases hz
  · cases h

theorem append_new {T e ty : TypeId} {y : V} {xv yv : Value} {ys : List (List V)} {d : Nat} (hI : Inv G s w) (hel : elemT P T = some (none, e)) (hx : RepV G (.list true []) xv) (hy : RepV G y yv) (hys : elemsOf s y = some ys)
    (hz : zOk P e = true) (hall : ys.all (fun y => y.length == P.cellsOf e) = true) (h63 : ys.length ≤ maxLen) (hby : ys.length * P.bytesOf e ≤ 140737488355328) :
    ∃ u w' γ G', (Builtin.append_ #[T, T] ty #[xv, yv]).run P w = .ok u w' ∧ G.le G' ∧ Inv G' (s.put s.up.length d γ (.vec e ys)) w' ∧ RepV G' (.vec s.up.length d γ ys.length) u ∧ G'.sl = G.sl := by
  have hu := elemT_slice hel
  obtain ⟨zv, i, hi, hiz, hzl⟩ := zOk_info hz
  obtain ⟨hb1, hb2⟩ := bytes_of hi
  have hes : ∀ e' ∈ ys, e'.length = P.cellsOf e := fun e' he' => by simpa using List.all_eq_true.1 hall e' he'
  obtain ⟨a1, c1, news, rfl, hL, hnl, hcell⟩ := elems_at hI hy hys hes
  cases hx with
  | list _ _ a cap b off sz arr T' fz vs hcap hfull ha hl hv hr =>
    have hc0 : cap = 0 := hfull rfl
    subst hc0
    have hp : ∀ g r l' k', (s.put s.up.length d g r).get l' k' = if l' = s.up.length ∧ k' = d then some (g, r) else s.get l' k' := fun g r l' k' => St.get_putLoc s l' k'
    have hrun := append_run (P := P) (w := w) (T := T) (ty := ty) (a := a) (a1 := a1) (n := 0) (m := ys.length) (C := 0) (c1 := c1) (olds := []) (news := news) hu hi hiz (Nat.le_refl _) (by simp) (by rw [hnl, hb2])
      (fun h => absurd rfl h) (fun h => hcell (by intro e; exact h (by simp [e]))) hL.one (by simpa using h63) (by rw [hb1] at hby; simpa using hby)
    rcases hrun with ⟨hm, hrun⟩ | ⟨hm, hfit, _⟩ | ⟨hm, hlt, C', hC', hCm, hrun⟩
    · have hy0 : ys = [] := List.eq_nil_of_length_eq_zero hm
      subst hy0
      obtain ⟨γ, G', hle, hI', hbe, hsl⟩ := hI.newNil e (P.cellsOf e) s.up.length d (fun g => hp g _)
      exact ⟨_, _, γ, G', hrun, hle, hI', .vec _ _ _ _ 0 _ 0 a hbe (Nat.le_refl _) (fun h => absurd rfl h), hsl⟩
    · omega
    · simp only [Nat.zero_add] at hrun hC'
      obtain ⟨γ, G', hle, hI', hbe, hsl⟩ := (hI.drawn (w.drawn + 1)).newVec e ys (P.cellsOf e) C' s.up.length d (hp := hp) hC' hCm (by intro h; exact hm (by simp [h])) hes (arr := ([] : List Value).toArray ++ news.toArray ++ Builtin.zeroCells zv.cells (C' - ys.length))
        (by simp only [Array.size_append, List.size_toArray, zeros_size, hnl, hzl, List.length_nil, Nat.zero_add, ← Nat.add_mul]; congr 1; omega)
        (by have := grown_rep zv.cells (C' - ys.length) (ys.length * P.cellsOf e) (RepL.nil G) hL (by simp [hnl]); simpa using this)
      exact ⟨_, _, γ, G', hrun, hle, hI', .vec _ _ _ _ _ _ C' _ hbe hC' (fun _ => rfl), hsl⟩

theorem append_full {T e ty : TypeId} {y : V} {xv yv : Value} {es ys : List (List V)} {d : Nat} (hI : Inv G s w) (hel : elemT P T = some (none, e)) (hx : RepV G (.list true es) xv) (hy : RepV G y yv) (hys : elemsOf s y = some ys)
    (hz : zOk P e = true) (halle : es.all (fun y => y.length == P.cellsOf e) = true) (hall : ys.all (fun y => y.length == P.cellsOf e) = true) (h63 : es.length + ys.length ≤ maxLen) (hby : (es.length + ys.length) * P.bytesOf e ≤ 140737488355328) (hne : es = [] ∨ ys ≠ []) :
    ∃ u w' γ G', (Builtin.append_ #[T, T] ty #[xv, yv]).run P w = .ok u w' ∧ G.le G' ∧ Inv G' (s.put s.up.length d γ (.vec e (es ++ ys))) w' ∧ RepV G' (.vec s.up.length d γ (es ++ ys).length) u ∧ G'.sl = G.sl := by
  by_cases h0 : es = []
  · subst h0
    exact append_new hI hel hx hy hys hz hall (by simpa using h63) (by simpa using hby)
  have hy0 : ys ≠ [] := hne.resolve_left h0
  have hu := elemT_slice hel
  obtain ⟨zv, i, hi, hiz, hzl⟩ := zOk_info hz
  obtain ⟨hb1, hb2⟩ := bytes_of hi
  have hes : ∀ e' ∈ es, e'.length = P.cellsOf e := fun e' he' => by simpa using List.all_eq_true.1 halle e' he'
  have hysl : ∀ e' ∈ ys, e'.length = P.cellsOf e := fun e' he' => by simpa using List.all_eq_true.1 hall e' he'
  obtain ⟨a, c, olds, e1, hLo, hol, hoc⟩ := elems_at hI hx (show elemsOf s (.list true es) = some es from rfl) hes
  obtain ⟨a1, c1, news, rfl, hL, hnl, hcell⟩ := elems_at hI hy hys hysl
  have hc : c = es.length := by
    subst e1
    cases hx with
    | list _ _ _ _ _ _ _ _ _ _ _ _ hfull => exact hfull rfl
  subst hc
  obtain ⟨ad, rfl, hocell⟩ := hoc h0
  obtain ⟨ad1, rfl, hncell⟩ := hcell hy0
  subst e1
  have hm : 0 < ys.length := List.length_pos_iff.2 hy0
  have hp : ∀ g r l' k', (s.put s.up.length d g r).get l' k' = if l' = s.up.length ∧ k' = d then some (g, r) else s.get l' k' := fun g r l' k' => St.get_putLoc s l' k'
  have h63' : ((es.length + ys.length : Nat) : Int) ≤ 9223372036854775807 := by simp only [maxLen] at h63; omega
  have hrun := run_append_grow (P := P) w T ty e i zv hu hi hiz ad es.length es.length olds (by rw [hol, hb2]) hocell ad1 ys.length c1 news (by rw [hnl, hb2]) hncell (by omega) h63' (growslice_fits (by omega) (by rw [hb1] at hby; exact hby))
  have hC' := grownCap_ge w (es.length + ys.length) es.length e
  have hCm := grownCap_le_maxLen w (es.length + ys.length) es.length e h63
  generalize grownCap w (es.length + ys.length) es.length e = C' at *
  have hall' : ∀ e' ∈ es ++ ys, e'.length = P.cellsOf e := fun e' he' => by
    rcases List.mem_append.1 he' with h | h
    · exact hes e' h
    · exact hysl e' h
  obtain ⟨γ, G', hle, hI', hbe, hsl⟩ := (hI.drawn (w.drawn + 1)).newVec e (es ++ ys) (P.cellsOf e) C' s.up.length d (hp := hp) (by simpa using hC') hCm (by intro h; simp at h; exact absurd h.1 h0) hall' (arr := olds.toArray ++ news.toArray ++ Builtin.zeroCells zv.cells (C' - (es.length + ys.length)))
    (by simp only [Array.size_append, List.size_toArray, zeros_size, hnl, hzl, hol, ← Nat.add_mul]; congr 1; omega)
    (by rw [List.flatten_append]; have := grown_rep zv.cells (C' - (es.length + ys.length)) ((es.length + ys.length) * P.cellsOf e) hLo hL (by rw [hol, hnl, Nat.add_mul]); simpa using this)
  refine ⟨_, _, γ, G', hrun, hle, hI', ?_, hsl⟩
  rw [← List.length_append]
  exact .vec _ _ _ _ _ _ C' _ hbe (by simpa using hC') (fun _ => rfl)

theorem append_vec {T e ty : TypeId} {y : V} {xv yv : Value} {es ys : List (List V)} {l q γ : Nat} (hI : Inv G s w) (hel : elemT P T = some (none, e)) (hget : s.get l q = some (γ, .vec e es)) (hx : RepV G (.vec l q γ es.length) xv)
    (hy : RepV G y yv) (hys : elemsOf s y = some ys) (hz : zOk P e = true) (halle : es.all (fun y => y.length == P.cellsOf e) = true) (hall : ys.all (fun y => y.length == P.cellsOf e) = true)
    (h63 : es.length + ys.length ≤ maxLen) (hby : (es.length + ys.length) * P.bytesOf e ≤ 140737488355328) :
    ∃ u w' γ' G', (Builtin.append_ #[T, T] ty #[xv, yv]).run P w = .ok u w' ∧ G.le G' ∧ Inv G' (s.put l q γ' (.vec e (es ++ ys))) w' ∧ RepV G' (.vec l q γ' (es.length + ys.length)) u ∧ G'.sl = G.sl := by
  have hu := elemT_slice hel
  obtain ⟨zv, i, hi, hiz, hzl⟩ := zOk_info hz
  obtain ⟨hb1, hb2⟩ := bytes_of hi
  have hes : ∀ e' ∈ es, e'.length = P.cellsOf e := fun e' he' => by simpa using List.all_eq_true.1 halle e' he'
  have hysl : ∀ e' ∈ ys, e'.length = P.cellsOf e := fun e' he' => by simpa using List.all_eq_true.1 hall e' he'
  obtain ⟨a1, c1, news, rfl, hL, hnl, hcell⟩ := elems_at hI hy hys hysl
  obtain ⟨b, sz, C, hb, hC, hlen', hmax, hrow⟩ := hI.res _ _ _ _ hget
  cases hx with
  | vec _ _ _ _ b' sz' C' a hb' hle' ha =>
    rw [hb] at hb'
    simp only [Option.some.injEq, Prod.mk.injEq] at hb'
    obtain ⟨rfl, rfl, rfl⟩ := hb'
    have hp : ∀ g r l' k', (s.put l q g r).get l' k' = if l' = l ∧ k' = q then some (g, r) else s.get l' k' := fun g r l' k' => St.get_put s hget l' k'
    obtain ⟨olds, ho1, ho2, hza⟩ : ∃ olds, RepL G es.flatten olds ∧ olds.length = es.length * i.size ∧
        (C ≠ 0 → ∃ b' arr, a = some ⟨b', 0, none⟩ ∧ w.heap[b']? = some (.cells arr e (0, 0)) ∧ arr.size = C * i.size ∧ arr.toList.take (es.length * i.size) = olds ∧ b' = b ∧ sz = P.cellsOf e) := by
      by_cases hC0 : C = 0
      · have : es = [] := List.eq_nil_of_length_eq_zero (by omega)
        subst this
        exact ⟨[], .nil G, by simp, fun h => absurd hC0 h⟩
      · have hne : es ≠ [] := fun h => hC0 (hmax.2 h)
        have h0 : 0 < es.length := List.length_pos_iff.2 hne
        have hsz : sz = P.cellsOf e := by rw [← hlen' _ (List.getElem_mem h0)]; exact hes _ (List.getElem_mem h0)
        obtain ⟨arr, hh, hsz2, hr⟩ := hrow hC0
        refine ⟨arr.toList.take (es.length * sz), hr, ?_, fun _ => ⟨b, arr, ha hC0, hh, by rw [hsz2, hsz, hb2], by rw [hsz, hb2], rfl, hsz⟩⟩
        rw [vec_flat hlen' hr, hsz, hb2]
    have hrun := append_run (P := P) (w := w) (T := T) (ty := ty) (a := a) (a1 := a1) (n := es.length) (m := ys.length) (C := C) (c1 := c1) (olds := olds) (news := news) hu hi hiz hC ho2 (by rw [hnl, hb2])
      (fun h => by obtain ⟨b', arr, h1, h2, h3, h4, _⟩ := hza h; exact ⟨b', arr, h1, h2, h3, h4⟩) (fun h => hcell (by intro e; exact h (by simp [e]))) hL.one h63 (by rw [hb1] at hby; exact hby)
    have hall' : ∀ e' ∈ es ++ ys, e'.length = P.cellsOf e := fun e' he' => by
      rcases List.mem_append.1 he' with h | h
      · exact hes e' h
      · exact hysl e' h
    have hflat : (es ++ ys).flatten = es.flatten ++ ys.flatten := List.flatten_append
    rcases hrun with ⟨hm, hrun⟩ | ⟨hm, hfit, b', arr, rfl, hh, hrun⟩ | ⟨hm, hlt, C', hC', hCm, hrun⟩
    · have hy0 : ys = [] := List.eq_nil_of_length_eq_zero hm
      subst hy0
      obtain ⟨γ', G', hle, hI', hbe, hsl⟩ := hI.rename hget hb
      refine ⟨_, _, γ', G', hrun, hle, by simpa using hI', ?_, hsl⟩
      simpa using RepV.vec (G := G') l q γ' es.length b sz C a hbe hC ha
    · have hC0 : C ≠ 0 := by omega
      obtain ⟨b'', arr', e1, h2, h3, h4, rfl, hsz⟩ := hza hC0
      simp only [Option.some.injEq, Addr.mk.injEq, and_true] at e1
      subst e1
      rw [hh] at h2
      cases h2
      have hown : owns G γ (.vec e es) = some b' := by simp [owns, hb, hC0]
      have hfit' : es.length * i.size + news.length ≤ arr.toList.length := by
        rw [hnl, hb2, ← Nat.add_mul]; simp [h3]; exact Nat.mul_le_mul_right _ hfit
      have hrr : RRep G γ (w.setRow b' (arr.toList.take (es.length * i.size) ++ news ++ arr.toList.drop (es.length * i.size + news.length)).toArray) (.vec e (es ++ ys)) := by
        refine ⟨b', sz, C, hb, by simpa using hfit, fun x hx => by rw [hsz]; exact hall' x hx, ⟨hmax.1, fun h => by simp at h; exact absurd (by simp [h.2]) hm⟩, fun _ => ⟨_, setRow_heap w b' arr _ e _ hh, ?_, ?_⟩⟩
        · rw [hsz, hb2]
          simp only [List.size_toArray, List.length_append, List.length_take, List.length_drop]
          simp at hfit'
          rw [← h3]; simp; omega
        · rw [hflat, h4]
          have e2 : (olds ++ news ++ arr.toList.drop (es.length * i.size + news.length)).take ((es ++ ys).length * sz) = olds ++ news := by
            refine List.take_left' ?_
            rw [List.length_append, ho2, hnl, List.length_append, hsz, hb2, Nat.add_mul]
          show RepL G _ ((olds ++ news ++ arr.toList.drop (es.length * i.size + news.length)).take ((es ++ ys).length * sz))
          rw [e2]
          exact ho1.append hL
      have hI1 := hI.write hget hown (r' := .vec e (es ++ ys)) (by simp [owns, hb, hC0]) _ hrr ⟨_, _, hh⟩
      have hget' : (s.put l q γ (.vec e (es ++ ys))).get l q = some (γ, .vec e (es ++ ys)) := by rw [hp]; simp
      obtain ⟨γ', G', hle, hI', hbe, hsl⟩ := hI1.rename hget' hb
      refine ⟨_, _, γ', G', hrun, hle, hI'.congr fun l' k' => ?_, .vec _ _ _ _ b' sz C _ hbe hfit (fun _ => rfl), hsl⟩
      rw [St.get_put _ hget', hp, hp]
      split <;> rfl
    · obtain ⟨γ', G', hle, hI', hbe, hsl⟩ := (hI.drawn (w.drawn + 1)).newVec e (es ++ ys) (P.cellsOf e) C' l q (hp := hp) (by simpa using hC') hCm (by intro h; simp at h; exact hm (by simp [h.2])) hall' (arr := olds.toArray ++ news.toArray ++ Builtin.zeroCells zv.cells (C' - (es.length + ys.length)))
        (by simp only [Array.size_append, List.size_toArray, zeros_size, hnl, hzl, ho2, ← hb2, ← Nat.add_mul]; congr 1; omega)
        (by rw [hflat]; have := grown_rep zv.cells (C' - (es.length + ys.length)) ((es ++ ys).length * P.cellsOf e) ho1 hL (by rw [ho2, hnl, hb2, List.length_append, Nat.add_mul]); exact this)
      exact ⟨_, _, γ', G', hrun, hle, hI', .vec _ _ _ _ _ _ C' _ hbe hC' (fun _ => rfl), hsl⟩

theorem makeSlice_new {T e : TypeId} {k1 k2 : IntKind} {n d : Nat} {z : List V} (hI : Inv G s w) (hel : elemT P T = some (none, e)) (hz : zeroC P e = some z) (hzl : z.length = P.cellsOf e)
    (hby : n * P.bytesOf e ≤ 140737488355328) (h63 : n ≤ maxLen) :
    ∃ u w' γ G', (Instr.makeSlice T (.int k1 n) (.int k2 n)).run P w = .ok u w' ∧ G.le G' ∧ Inv G' (s.put s.up.length d γ (.vec e (List.replicate n z))) w' ∧ RepV G' (.vec s.up.length d γ n) u := by
  have hu := elemT_slice hel
  obtain ⟨zv, _, hrep, i, hi, hiz⟩ := zeroC_run (G := G) (w := w) hz
  obtain ⟨hb1, hb2⟩ := bytes_of hi
  have hp : ∀ g r l' k', (s.put s.up.length d g r).get l' k' = if l' = s.up.length ∧ k' = d then some (g, r) else s.get l' k' := fun g r l' k' => St.get_putLoc s l' k'
  have hzs : zv.cells.size = P.cellsOf e := by have := hrep.1; rw [hzl] at this; simpa using this.symm
  have hb3 : (i.bytes : Int) * (n : Int) ≤ 281474976710656 := by
    rw [hb1] at hby
    have e : (i.bytes : Int) * n = ((n * i.bytes : Nat) : Int) := by rw [Int.mul_comm]; rfl
    rw [e]
    omega
  have hrun := run_make w T e i zv hu hi hiz k1 k2 (n : Int) (n : Int) (by omega) (by omega) hb3 (by unfold maxLen at h63; omega)
  simp only [Int.toNat_natCast] at hrun
  have e1 : (madeCells zv.cells (n * i.size)).toList = (List.replicate n zv.cells.toList).flatten := by
    rw [replicate_flat zv.cells.toList n]
    by_cases h0 : P.cellsOf e = 0
    · simp [madeCells, hzs, ← hb2, h0]
    · simp only [madeCells, Array.toList_map, Array.toList_range, Array.length_toList, hzs, ← hb2]
      apply List.map_congr_left
      intro a _
      have hm : a % P.cellsOf e < zv.cells.size := by rw [hzs]; exact Nat.mod_lt _ (by omega)
      simp [hm]
  by_cases hn : n = 0
  · subst hn
    obtain ⟨γ, G', hle, hI', hbe, _⟩ := (hI.grow (.cells (madeCells zv.cells (0 * i.size)) e)).newNil e (P.cellsOf e) s.up.length d (fun g => hp g _)
    exact ⟨_, _, γ, G', hrun, hle, hI', .vec _ _ _ _ 0 _ 0 _ hbe (Nat.le_refl _) (fun h => absurd rfl h)⟩
  · obtain ⟨γ, G', hle, hI', hbe, _⟩ := hI.newVec e (List.replicate n z) (P.cellsOf e) n s.up.length d (madeCells zv.cells (n * i.size)) hp (by simp) h63 (by cases n with | zero => exact absurd rfl hn | succ m => simp [List.replicate_succ]) (fun x hx => by rw [(List.mem_replicate.1 hx).2]; exact hzl)
      (by rw [size_madeCells, hb2]) (by
        rw [e1, List.length_replicate]
        have hl : ((List.replicate n zv.cells.toList).flatten).length = n * P.cellsOf e := by simp [hzs]
        rw [List.take_of_length_le (by rw [hl]; exact Nat.le_refl _)]
        exact rep_repl hrep n)
    exact ⟨_, _, γ, G', hrun, hle, hI', .vec _ _ _ _ _ _ n _ hbe (Nat.le_refl _) (fun _ => rfl)⟩
end Go.Pg
