/- That the model follows 'stepP': aggregates and slices that are built; a slice that grows. No program in sight. -/
import Derived.Test.YtfbbnkaahnpicaaPg
namespace Go.Pg
variable {P : Program} {G : Gh} {s : St} {w : World}

theorem fold_set (off : Nat) : ∀ (vs : List Value) (i : Nat) (cs : Array Value), off + i + vs.length ≤ cs.size →
    ((vs.zipIdx i).foldl (fun cs (c, j) => cs.setIfInBounds (off + j) c) cs).toList = spliceL cs.toList (off + i) vs
  | [], i, cs, _ => by simp [spliceL]
  | v :: vs, i, cs, h => by
    have ih := fold_set off vs (i + 1) (cs.setIfInBounds (off + i) v) (by simp at h ⊢; omega)
    simp only [List.zipIdx_cons, List.foldl_cons]
    rw [ih]
    unfold spliceL
    have e := list_seg_step cs.toList (off + i) v vs (by simp at h ⊢; omega)
    simpa [Array.toList_setIfInBounds, Nat.add_assoc] using e

theorem fill_rep {place : Nat → Option (Nat × Nat)} : ∀ {parts : List (Nat × V)} {vals : List (Nat × Value)} {cs out : List V} {arr : Array Value},
    RepL G cs arr.toList → parts.length = vals.length → (∀ i (h1 : i < parts.length) (h2 : i < vals.length), parts[i].1 = vals[i].1 ∧ flatOk parts[i].2 = true ∧ RepV G parts[i].2 vals[i].2) → fillV place cs parts = some out →
    ∃ arr', Instr.fill place arr vals = some arr' ∧ RepL G out arr'.toList
  | [], vals, cs, out, arr, hL, hl, _, h => by
    have : vals = [] := List.eq_nil_of_length_eq_zero hl.symm
    subst this
    simp only [fillV, Option.some.injEq] at h
    subst h
    exact ⟨arr, rfl, hL⟩
  | (i, v) :: parts, vals, cs, out, arr, hL, hl, hp, h => by
    cases vals with
    | nil => simp at hl
    | cons x vals =>
      obtain ⟨j, u⟩ := x
      obtain ⟨e1, hf, hv⟩ := hp 0 (by simp) (by simp)
      simp only [List.getElem_cons_zero] at e1 hf hv
      subst e1
      have hc := cells_rep hf hv
      have hlen : (cellsV v).length = u.cells.size := by rw [hc.1]; simp
      have hsz : cs.length = arr.size := by rw [hL.1]; simp
      unfold fillV at h
      cases hpl : place i with
      | none => rw [hpl] at h; cases h
      | some os =>
        obtain ⟨off, size⟩ := os
        rw [hpl] at h
        simp only at h
        split at h
        · rename_i hcond
          have hspl := splice_rep hL hc off
          have hfold := fold_set off u.cells.toList 0 arr (by simp; omega)
          simp only [Nat.add_zero] at hfold
          obtain ⟨arr', h1, h2⟩ := fill_rep (arr := (u.cells.zipIdx.foldl (fun cs (c, j) => cs.setIfInBounds (off + j) c) arr)) (by
            rw [← Array.foldl_toList]
            simp only [Array.toList_zipIdx]
            rw [hfold]; exact hspl) (by simpa using hl) (fun k h1 h2 => hp (k + 1) (by simpa using h1) (by simpa using h2)) h
          refine ⟨arr', ?_, h2⟩
          unfold Instr.fill
          rw [hpl]
          simp only
          rw [if_neg (by simp; omega)]
          exact h1
        · cases h

theorem partsM_rep {ρ : Operand → Value} {r : Operand → Option V} (hr : ∀ x v, r x = some v → RepV G v (ρ x)) : ∀ {ps : List (Nat × Operand)} {vs : List (Nat × V)}, partsM r ps = some vs →
    ∃ us : List (Nat × Value), us = (ps.map fun (i, x) => (i, ρ x)) ∧ vs.length = us.length ∧ ∀ i (h1 : i < vs.length) (h2 : i < us.length), vs[i].1 = us[i].1 ∧ RepV G vs[i].2 us[i].2
  | [], vs, h => by simp only [partsM, Option.some.injEq] at h; subst h; exact ⟨[], rfl, rfl, fun i h => absurd h (by simp)⟩
  | (i, x) :: ps, vs, h => by
    unfold partsM at h
    split at h
    · rename_i v l hv hl
      cases h
      obtain ⟨us, h0, h1, h2⟩ := partsM_rep hr hl
      refine ⟨(i, ρ x) :: us, by rw [h0]; rfl, by simpa using h1, fun k p q => ?_⟩
      cases k with
      | zero => exact ⟨rfl, hr _ _ hv⟩
      | succ k => exact h2 k (by simpa using p) (by simpa using q)
    · cases h

theorem run_mapM_ok {α β : Type} (F : α → Sem β) (g : α → β) : ∀ (l : List α) (w : World), (∀ x ∈ l, ∀ w, (F x).run P w = .ok (g x) w) → (l.mapM F).run P w = .ok (l.map g) w
  | [], w, _ => rfl
  | x :: l, w, h => by
    rw [List.mapM_cons, Sem.run_bind, h x (by simp) w]
    simp only [Result.andThen_ok, Sem.run_bind]
    rw [run_mapM_ok F g l w (fun y hy => h y (by simp [hy]))]
    rfl

theorem build_run {T : TypeId} {ps : List (Nat × V)} {v : V} {vals : Array (Nat × Value)} (h : evBuild P T ps = some v) (hl : ps.length = vals.toList.length)
    (hp : ∀ i (h1 : i < ps.length) (h2 : i < vals.toList.length), ps[i].1 = vals.toList[i].1 ∧ RepV G ps[i].2 vals.toList[i].2) : ∃ u, (Instr.build T vals).run P w = .ok u w ∧ RepV G v u := by
  have fl : ∀ {ps : List (Nat × V)}, (ps.all fun p => flatOk p.2) = true → ∀ i (h : i < ps.length), flatOk ps[i].2 = true := by
    intro ps h i hi
    exact List.all_eq_true.1 h _ (List.getElem_mem hi)
  unfold evBuild at h
  split at h
  · rename_i z fs hz hu
    obtain ⟨zv, hz1, hz2, _⟩ := zeroC_run (G := G) (w := w) hz
    split at h
    · rename_i hc
      obtain ⟨out, hout, rfl⟩ := Option.map_eq_some_iff.1 h
      obtain ⟨arr', h1, h2⟩ := fill_rep hz2 hl (fun i p q => ⟨(hp i p q).1, fl hc.1 i p, (hp i p q).2⟩) hout
      have hpl : ∀ w : World, (Array.mapM (fun f : Field => do pure (f.offset, ← sizeOf f.type)) fs : Sem (Array (Nat × Nat))).run P w = .ok (fs.map fun f => (f.offset, P.cellsOf f.type)) w := by
        intro w
        rw [Array.mapM_eq_mapM_toList, Sem.run_map, run_mapM_ok _ (fun f : Field => (f.offset, P.cellsOf f.type)) fs.toList w (fun f hf w => by
          have := Array.all_eq_true_iff_forall_mem.1 hc.2 f (by simpa using hf)
          obtain ⟨i, hi⟩ := Option.isSome_iff_exists.1 this
          simp [sizeOf, typeInfo, hi, Program.cellsOf])]
        simp only [Result.andThen_ok]
        congr 1
        apply Array.ext'
        simp
      refine ⟨.agg arr', ?_, ?_⟩
      · simp only [Instr.build, Sem.run_bind, hz1, Result.andThen_ok, run_underlying hu, hpl]
        have e : (fun x : Nat => (fs.map fun f : Field => (f.offset, P.cellsOf f.type))[x]?) = fun i : Nat => (fs[i]?).map fun f : Field => (f.offset, P.cellsOf f.type) := by funext i; simp
        rw [e, h1]
        rfl
      · have := h2.toAgg; simpa using this
    · cases h
  · rename_i z n e hz hu
    obtain ⟨zv, hz1, hz2, _⟩ := zeroC_run (G := G) (w := w) hz
    split at h
    · rename_i hc
      obtain ⟨out, hout, rfl⟩ := Option.map_eq_some_iff.1 h
      obtain ⟨arr', h1, h2⟩ := fill_rep hz2 hl (fun i p q => ⟨(hp i p q).1, fl hc.1 i p, (hp i p q).2⟩) hout
      obtain ⟨i, hi⟩ := Option.isSome_iff_exists.1 hc.2
      refine ⟨.agg arr', ?_, by simpa using h2.toAgg⟩
      have hsz : (sizeOf e).run P w = .ok (P.cellsOf e) w := by simp [sizeOf, typeInfo, hi, Program.cellsOf]
      simp only [Instr.build, Sem.run_bind, hz1, Result.andThen_ok, run_underlying hu, hsz]
      rw [h1]
      rfl
    · cases h
  · cases h

theorem chunks_get {size : Nat} : ∀ {n : Nat} {cs : List V}, cs.length = n * size → (chunks size cs n).length = n ∧ ∀ i (h : i < (chunks size cs n).length), (chunks size cs n)[i] = (cs.drop (i * size)).take size
  | 0, cs, _ => ⟨rfl, fun i h => absurd h (by simp [chunks])⟩
  | n + 1, cs, h => by
    have hd : (cs.drop size).length = n * size := by rw [List.length_drop, h, Nat.add_mul]; omega
    obtain ⟨h1, h2⟩ := chunks_get hd
    refine ⟨by simp [chunks, h1], fun i hi => ?_⟩
    cases i with
    | zero => simp [chunks]
    | succ i =>
      simp only [chunks, List.getElem_cons_succ]
      rw [h2 i (by simpa [chunks] using hi), List.drop_drop]
      congr 2
      rw [Nat.add_mul]; omega

theorem list_of_block {G : Gh} {b : Nat} {arr : Array Value} {T : TypeId} {cs : List V} {size n : Nat} (hs : G.sl b = some (.cells arr T (0, 0))) (hL : RepL G cs arr.toList) (hlen : cs.length = n * size) :
    RepV G (.list true (chunks size cs n)) (.slice (some ⟨b, 0, none⟩) n n) := by
  obtain ⟨hc, hg⟩ := chunks_get hlen
  have hcl : ∀ i (h : i < (chunks size cs n).length), (chunks size cs n)[i].length = size := by
    intro i h
    rw [hg i h, List.length_take, List.length_drop, hlen]
    have : (i + 1) * size ≤ n * size := Nat.mul_le_mul_right _ (by omega)
    rw [Nat.add_mul] at this
    omega
  have key : ∀ i (h : i < (chunks size cs n).length) j (hj : j < (chunks size cs n)[i].length), ∃ (h1 : i * size + j < cs.length) (h2 : i * size + j < arr.toList.length), (chunks size cs n)[i][j] = cs[i * size + j] := by
    intro i h j hj
    have hj' := hj
    rw [hcl i h] at hj'
    have : (i + 1) * size ≤ n * size := Nat.mul_le_mul_right _ (by omega)
    rw [Nat.add_mul] at this
    have h1 : i * size + j < cs.length := by omega
    refine ⟨h1, by rw [← hL.1]; exact h1, ?_⟩
    simp [hg i h]
  have hr := RepV.list (G := G) true (chunks size cs n) (some ⟨b, 0, none⟩) n b 0 size arr T (0, 0) (fun i j => arr.toList.getD (i * size + j) undef) (by rw [hc]; exact Nat.le_refl _) (fun _ => hc.symm)
    (fun _ => ⟨rfl, hs⟩) hcl (fun i h j hj => by
      obtain ⟨h1, h2, e⟩ := key i h j hj
      refine ⟨?_, ?_⟩
      · have h2' : i * size + j < arr.size := by simpa using h2
        simp [h2', List.getD]
      · rw [e]; exact (hL.2 _ h1 h2).1) (fun i h j hj => by
      obtain ⟨h1, h2, e⟩ := key i h j hj
      have h2' : i * size + j < arr.size := by simpa using h2
      rw [e]
      have := (hL.2 _ h1 h2).2
      simpa [List.getD, h2'] using this)
  rw [hc] at hr
  exact hr

theorem replicate_flat {α : Type} (z : List α) [Inhabited α] (n : Nat) : (List.replicate n z).flatten = (List.range (n * z.length)).map fun i => z[i % z.length]! := by
  induction n with
  | zero => simp
  | succ n ih =>
    rw [List.replicate_succ', List.flatten_append, ih]
    simp only [List.flatten_cons, List.flatten_nil, List.append_nil]
    rw [Nat.add_mul, Nat.one_mul, List.range_add, List.map_append, List.map_map]
    congr 1
    apply List.ext_getElem
    · simp
    · intro i h1 h2
      simp [Nat.mod_eq_of_lt h1, h1]

theorem rep_repl {z : List V} {vs : List Value} (h : RepL G z vs) : ∀ n, RepL G (List.replicate n z).flatten (List.replicate n vs).flatten
  | 0 => .nil G
  | n + 1 => by
    rw [List.replicate_succ, List.replicate_succ, List.flatten_cons, List.flatten_cons]
    exact h.append (rep_repl h n)

theorem fillV_length {place : Nat → Option (Nat × Nat)} : ∀ {parts : List (Nat × V)} {cs out : List V}, fillV place cs parts = some out → out.length = cs.length
  | [], cs, out, h => by simp only [fillV, Option.some.injEq] at h; rw [h]
  | (i, v) :: parts, cs, out, h => by
    unfold fillV at h
    split at h
    · cases h
    · split at h
      · rename_i hc
        rw [fillV_length h, splice_length hc.2]
      · cases h

theorem buildSlice_core {T : TypeId} {len : Nat} {ps : List (Nat × V)} {v : V} {vals : Array (Nat × Value)} (h : evBuildSlice P T len ps = some v) (hl : ps.length = vals.toList.length)
    (hp : ∀ i (h1 : i < ps.length) (h2 : i < vals.toList.length), ps[i].1 = vals.toList[i].1 ∧ RepV G ps[i].2 vals.toList[i].2) :
    ∃ e cs arr, elemT P T = some (none, e) ∧ v = .list true (chunks (P.cellsOf e) cs len) ∧ cs.length = len * P.cellsOf e ∧ RepL G cs arr.toList ∧
      (Instr.buildSlice T len vals).run P w = .ok (.slice (some ⟨w.heap.size, 0, none⟩) len len) (w.alloc (.cells arr e)) := by
  have fl : ∀ {ps : List (Nat × V)}, (ps.all fun p => flatOk p.2) = true → ∀ i (h : i < ps.length), flatOk ps[i].2 = true := by
    intro ps h i hi
    exact List.all_eq_true.1 h _ (List.getElem_mem hi)
  unfold evBuildSlice at h
  split at h
  · rename_i e hel
    have hu := elemT_slice hel
    split at h
    · rename_i z hz
      obtain ⟨zv, hz1, hz2, _⟩ := zeroC_run (G := G) (w := w) hz
      split at h
      · rename_i hc
        obtain ⟨out, hout, rfl⟩ := Option.map_eq_some_iff.1 h
        obtain ⟨hc1, hc2, hc3, hc4⟩ := hc
        have hzl : zv.cells.size = P.cellsOf e := by rw [← hc2, hz2.1]; simp
        have hrep : RepL G (List.replicate len z).flatten ((Array.range (len * P.cellsOf e)).map (zv.cells[· % zv.cells.size]!)).toList := by
          have e1 : ((Array.range (len * P.cellsOf e)).map (zv.cells[· % zv.cells.size]!)).toList = (List.replicate len zv.cells.toList).flatten := by
            rw [replicate_flat zv.cells.toList len]
            simp only [Array.toList_map, Array.toList_range, Array.length_toList, hzl]
            apply List.map_congr_left
            intro a _
            have hm : a % P.cellsOf e < zv.cells.size := by rw [hzl]; exact Nat.mod_lt _ hc3
            simp [hm]
          rw [e1]
          exact rep_repl hz2 len
        obtain ⟨arr', h1, h2⟩ := fill_rep hrep hl (fun i p q => ⟨(hp i p q).1, fl hc1 i p, (hp i p q).2⟩) hout
        have hout' : out.length = len * P.cellsOf e := by rw [fillV_length hout]; simp [hc2]
        refine ⟨e, out, arr', hel, rfl, hout', h2, ?_⟩
        have hbig : ¬ (len * P.cellsOf e > 2 ^ 24) := by omega
        simp only [Instr.buildSlice, Sem.run_bind, run_underlying hu, Result.andThen_ok, sizeOf_pos (P := P) (w := w) hc3, if_neg hbig]
        by_cases h0 : len * P.cellsOf e = 0
        · have hlen : len = 0 := by
            rcases Nat.mul_eq_zero.1 h0 with h | h
            · exact h
            · omega
          subst hlen
          have ea : ∀ f : Nat → Value, (Array.range (0 * P.cellsOf e)).map f = #[] := by intro f; simp
          rw [ea] at h1
          simp only [if_pos h0, Sem.run_bind, Sem.run_pure, Result.andThen_ok]
          rw [ea, h1]
          simp [newRow]
        · simp only [if_neg h0, Sem.run_bind, hz1, Result.andThen_ok, Sem.run_pure]
          rw [h1]
          simp [newRow]
      · cases h
    · cases h
  · cases h

theorem buildSlice_run {T : TypeId} {len : Nat} {ps : List (Nat × V)} {v : V} {vals : Array (Nat × Value)} (hI : Inv G s w) (h : evBuildSlice P T len ps = some v) (hl : ps.length = vals.toList.length)
    (hp : ∀ i (h1 : i < ps.length) (h2 : i < vals.toList.length), ps[i].1 = vals.toList[i].1 ∧ RepV G ps[i].2 vals.toList[i].2) :
    ∃ u w' G', (Instr.buildSlice T len vals).run P w = .ok u w' ∧ G.le G' ∧ Inv G' s w' ∧ RepV G' v u := by
  obtain ⟨e, cs, arr, hel, rfl, hcl, hL, hrun⟩ := buildSlice_core (w := w) h hl hp
  obtain ⟨G', hle, hI', hsl, _⟩ := hI.lock (.cells arr e)
  exact ⟨_, _, G', hrun, hle, hI', list_of_block hsl (hL.mono hle) hcl⟩

theorem chunks_flat (sz : Nat) : ∀ (n : Nat) (cs : List V), cs.length = n * sz → (chunks sz cs n).flatten = cs ∧ (chunks sz cs n).length = n ∧ ∀ x ∈ chunks sz cs n, x.length = sz
  | 0, cs, h => by
    have : cs = [] := List.eq_nil_of_length_eq_zero (by simpa using h)
    subst this
    simp [chunks]
  | n + 1, cs, h => by
    have h1 : (cs.drop sz).length = n * sz := by rw [List.length_drop, h, Nat.add_mul]; omega
    obtain ⟨q1, q2, q3⟩ := chunks_flat sz n (cs.drop sz) h1
    refine ⟨?_, ?_, ?_⟩
    · simp [chunks, q1]
    · simp [chunks, q2]
    · intro x hx
      simp only [chunks, List.mem_cons] at hx
      rcases hx with rfl | hx
      · rw [List.length_take, h, Nat.add_mul]; omega
      · exact q3 x hx
end Go.Pg
