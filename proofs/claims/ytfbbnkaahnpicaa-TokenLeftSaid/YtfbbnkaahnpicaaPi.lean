/- That the model follows 'stepP': a slice that grows; and the whole step. No program in sight. -/
import Derived.Test.YtfbbnkaahnpicaaPh
namespace Go.Pg
variable {P : Program} {G : Gh} {s : St} {w : World}

theorem elems_at {x : V} {y : Value} {es : List (List V)} {sz : Nat} (hI : Inv G s w) (h : RepV G x y) (he : elemsOf s x = some es) (hs : ∀ e ∈ es, e.length = sz) :
    ∃ a cap vs, y = .slice a es.length cap ∧ RepL G es.flatten vs ∧ vs.length = es.length * sz ∧ (es ≠ [] → ∃ ad, a = some ad ∧ ∀ j u, vs[j]? = some u → w.cell? (ad.add j) = some u) := by
  have hfl : ∀ {es : List (List V)}, (∀ e ∈ es, e.length = sz) → es.flatten.length = es.length * sz := by
    intro es
    induction es with
    | nil => intro _; simp
    | cons e es ih =>
      intro h
      rw [List.flatten_cons, List.length_append, ih (fun x hx => h x (by simp [hx])), h e (by simp), List.length_cons, Nat.add_mul]
      omega
  unfold elemsOf at he
  split at he
  · cases he
    cases h with
    | list _ _ a cap b off sz' arr T fz vs hcap hfull ha hl hv hr =>
      by_cases hne : es = []
      · subst hne
        exact ⟨a, cap, [], rfl, .nil G, by simp, fun h => absurd rfl h⟩
      · obtain ⟨rfl, hsl⟩ := ha hne
        have h0 : 0 < es.length := List.length_pos_iff.2 hne
        have hsz : sz' = sz := by rw [← hl 0 h0]; exact hs _ (List.getElem_mem h0)
        subst hsz
        have main : ∀ (k : Nat) (fs : List (List V)), es = es.take k ++ fs → k ≤ es.length → ∃ us : List Value, RepL G fs.flatten us ∧ us.length = fs.length * sz' ∧ ∀ j u, us[j]? = some u → w.cell? (Addr.add ⟨b, off + k * sz', none⟩ j) = some u := by
          intro k fs
          induction fs generalizing k with
          | nil => intro _ _; exact ⟨[], .nil G, by simp, fun j u h => by simp at h⟩
          | cons f fs ih =>
            intro hk hle
            have hkl : k < es.length := by
              have := congrArg List.length hk
              simp at this; omega
            have hf : es[k]? = some f := by
              rw [hk, List.getElem?_append_right (by simp; omega)]
              simp [Nat.min_eq_left hle]
            have hfe : es[k] = f := by
              have := List.getElem?_eq_getElem hkl
              rw [hf] at this; exact (Option.some.inj this).symm
            obtain ⟨us, h1, h2, h3⟩ := ih (k + 1) (by rw [List.take_add_one, hf]; simpa using hk) hkl
            have hfl' : f.length = sz' := by rw [← hfe]; exact hl k hkl
            refine ⟨(List.range sz').map (vs k) ++ us, ?_, by simp [h2, Nat.add_mul]; omega, fun j u hj => ?_⟩
            · rw [List.flatten_cons]
              refine RepL.append ⟨by simp [hfl'], fun i p q => ?_⟩ h1
              simp only [List.getElem_map, List.getElem_range]
              have p' : i < es[k].length := by rw [hfe]; exact p
              have e1 : f[i] = es[k][i] := by simp [hfe]
              rw [e1]
              exact ⟨(hv k hkl i p').2, hr k hkl i p'⟩
            · rw [List.getElem?_append] at hj
              split at hj
              · rename_i hjl
                have hjl' : j < sz' := by simpa using hjl
                simp only [List.getElem?_map, List.getElem?_range hjl', Option.map_some, Option.some.injEq] at hj
                subst hj
                rw [Addr.add_lit]
                have := (hv k hkl j (by rw [hfe, hfl']; exact hjl')).1
                simp [World.cell?, hI.sl _ _ hsl, this]
              · rename_i hjl
                have hjl' : ¬ j < sz' := by simpa using hjl
                have := h3 _ _ hj
                rw [Addr.add_lit] at this ⊢
                simp only [List.length_map, List.length_range] at this
                rw [← this]
                congr 2
                rw [Nat.add_mul]; omega
        obtain ⟨us, h1, h2, h3⟩ := main 0 es (by simp) (by omega)
        exact ⟨_, cap, us, rfl, h1, h2, fun _ => ⟨⟨b, off, none⟩, rfl, by simpa using h3⟩⟩
  · cases he
    cases h
    exact ⟨none, 0, [], rfl, .nil G, by simp, fun h => absurd rfl h⟩
  · split at he
    · rename_i l k g n _ g' T0 fs hget
      split at he
      · rename_i hc
        obtain ⟨rfl, hn⟩ := hc
        cases he
        cases h with
        | vec _ _ _ _ b sz' C a hb hle ha =>
          have hlen : (fs.take n).length = n := by simp; omega
          obtain ⟨b', sz'', C', hb', hle', hlen', hmax, hrow⟩ := hI.res _ _ _ _ hget
          rw [hb] at hb'
          simp only [Option.some.injEq, Prod.mk.injEq] at hb'
          obtain ⟨rfl, rfl, rfl⟩ := hb'
          rw [hlen]
          by_cases hC : C = 0
          · have hn0 : n = 0 := by omega
            subst hn0
            exact ⟨a, C, [], rfl, by simpa using RepL.nil G, by simp, fun h => absurd (by simp) h⟩
          · obtain ⟨arr, hh, hsz, hr⟩ := hrow hC
            have := ha hC
            subst this
            by_cases hn0 : n = 0
            · subst hn0
              exact ⟨_, C, [], rfl, by simpa using RepL.nil G, by simp, fun h => absurd (by simp) h⟩
            · have hszz : sz' = sz := by
                have h0 : 0 < (fs.take n).length := by omega
                have q1 := hs _ (List.getElem_mem h0)
                have q2 := hlen' _ (List.mem_of_mem_take (List.getElem_mem h0))
                omega
              subst hszz
              have hL : RepL G (fs.take n).flatten (arr.toList.take (n * sz')) := by
                have := hr.take (n * sz')
                rw [List.take_take] at this
                have e1 : min (n * sz') (fs.length * sz') = n * sz' := Nat.min_eq_left (Nat.mul_le_mul_right _ hn)
                rw [e1] at this
                have e2 : fs.flatten.take (n * sz') = (fs.take n).flatten := by
                  have : fs.flatten = (fs.take n).flatten ++ (fs.drop n).flatten := by rw [← List.flatten_append, List.take_append_drop]
                  rw [this]
                  exact List.take_left' (by rw [hfl (fun e he => hlen' e (List.mem_of_mem_take he)), hlen])
                rw [e2] at this
                exact this
              refine ⟨_, C, _, rfl, hL, by rw [← hL.1, hfl hs, hlen], fun _ => ⟨⟨b, 0, none⟩, rfl, fun j u hj => ?_⟩⟩
              rw [Addr.add_lit]
              rw [List.getElem?_take] at hj
              split at hj
              · simp only [World.cell?, hh, Option.isSome_none, Bool.false_eq_true, if_false, Nat.zero_add]
                rw [← Array.getElem?_toList]; exact hj
              · cases hj
      · cases he
    · cases he
  · cases he

theorem flat_len {es : List (List V)} {sz : Nat} (h : ∀ e ∈ es, e.length = sz) : es.flatten.length = es.length * sz := by
  induction es with
  | nil => simp
  | cons e es ih =>
    rw [List.flatten_cons, List.length_append, ih (fun x hx => h x (by simp [hx])), h e (by simp), List.length_cons, Nat.add_mul]
    omega

theorem append_run {T e ty : TypeId} {i : TypeInfo} {z : Value} {a a1 : Option Addr} {n m C c1 : Nat} {olds news : List Value} (hu : P.underlying T = some (.slice e)) (hi : P.info? e = some i) (hz : i.zero = some z)
    (hnC : n ≤ C) (hlo : olds.length = n * i.size) (hln : news.length = m * i.size)
    (ha : C ≠ 0 → ∃ b arr, a = some ⟨b, 0, none⟩ ∧ w.heap[b]? = some (.cells arr e (0, 0)) ∧ arr.size = C * i.size ∧ arr.toList.take (n * i.size) = olds)
    (hnew : m ≠ 0 → ∃ ad, a1 = some ad ∧ ∀ j u, news[j]? = some u → w.cell? (ad.add j) = some u) (h1 : ∀ u ∈ news, u.oneCell' = true)
    (h63 : n + m ≤ maxLen) (hby : (n + m) * i.bytes ≤ 140737488355328) :
    (m = 0 ∧ (Builtin.append_ #[T, T] ty #[.slice a n C, .slice a1 m c1]).run P w = .ok (.slice a n C) w) ∨
    (m ≠ 0 ∧ n + m ≤ C ∧ ∃ b arr, a = some ⟨b, 0, none⟩ ∧ w.heap[b]? = some (.cells arr e (0, 0)) ∧ (Builtin.append_ #[T, T] ty #[.slice a n C, .slice a1 m c1]).run P w = .ok (.slice a (n + m) C) (w.setRow b (arr.toList.take (n * i.size) ++ news ++ arr.toList.drop (n * i.size + news.length)).toArray)) ∨
    (m ≠ 0 ∧ C < n + m ∧ ∃ C', n + m ≤ C' ∧ C' ≤ maxLen ∧ (Builtin.append_ #[T, T] ty #[.slice a n C, .slice a1 m c1]).run P w =
      .ok (.slice (some ⟨w.heap.size, 0, none⟩) (n + m) C') (w.drew.alloc (.cells (olds.toArray ++ news.toArray ++ Builtin.zeroCells z.cells (C' - (n + m))) e))) := by
  by_cases hm : m = 0
  · subst hm
    refine .inl ⟨rfl, ?_⟩
    have : (Builtin.firstCells i.size 0 (.slice a1 0 c1)).run P w = .ok #[] w := by
      cases a1 <;> simp [Builtin.firstCells, loadCells, loadCellsFrom]
    cases a <;> simp [Builtin.append_, run_underlying hu, sizeOf, typeInfo, hi, Builtin.lenOf, hnC, this, storeCells]
  · obtain ⟨ad, rfl, hcell⟩ := hnew hm
    by_cases hfit : n + m ≤ C
    · obtain ⟨b, arr, rfl, hh, hsz, ht⟩ := ha (by omega)
      refine .inr (.inl ⟨hm, hfit, b, arr, rfl, hh, ?_⟩)
      exact run_append_room (P := P) w T ty e i hu hi b n C arr hh ad m c1 news hln hcell h1 hfit (by rw [hln, hsz, ← Nat.add_mul]; exact Nat.mul_le_mul_right _ hfit)
    · refine .inr (.inr ⟨hm, by omega, grownCap w (n + m) C e, grownCap_ge w _ _ _, grownCap_le_maxLen w _ _ _ h63, ?_⟩)
      have h63' : ((n + m : Nat) : Int) ≤ 9223372036854775807 := by simp only [maxLen] at h63; omega
      by_cases hC : C = 0
      · subst hC
        have hn0 : n = 0 := by omega
        subst hn0
        have ho : olds = [] := List.eq_nil_of_length_eq_zero (by simpa using hlo)
        subst ho
        cases a with
        | none =>
          have := run_append_nil (P := P) w T ty e i z hu hi hz ad m c1 news hln hcell (by omega) (by simpa using h63') (by simp only [Nat.zero_add] at hby; omega)
          simpa using this
        | some b0 =>
          exact run_append_grow (P := P) w T ty e i z hu hi hz b0 0 0 [] (by simp) (by simp) ad m c1 news hln hcell (by omega) h63' (growslice_fits (by omega) hby)
      · obtain ⟨b, arr, rfl, hh, hsz, ht⟩ := ha hC
        exact run_append_grow (P := P) w T ty e i z hu hi hz ⟨b, 0, none⟩ n C olds hlo (fun j v hj => by
          rw [Addr.add_lit]
          rw [← ht, List.getElem?_take] at hj
          split at hj
          · simp only [World.cell?, hh, Option.isSome_none, Bool.false_eq_true, if_false, Nat.zero_add]
            rw [← Array.getElem?_toList]; exact hj
          · cases hj) ad m c1 news hln hcell (by omega) h63' (growslice_fits (by omega) hby)
end Go.Pg
