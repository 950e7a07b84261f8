/- What the model does at an operation that leaves all as it is: just what 'evP' says. No program in sight. -/
import Derived.Test.YtfbbnkaahnpicaaPc
namespace Go.Pg
variable {P : Program} {G : Gh} {s : St} {w : World}

theorem cells_of_ref {cs : List V} {x : Value} (hI : Inv G s w) (h : RepV G (.ref cs) x) :
    ∃ b off vs, x = .pointer (some ⟨b, off, none⟩) ∧ RepL G cs vs ∧ ∀ j u, vs[j]? = some u → w.cell? ⟨b, off + j, none⟩ = some u := by
  cases h with
  | ref _ b off arr T fz vs ha hv hr =>
    refine ⟨b, off, (List.range cs.length).map vs, rfl, ⟨by simp, fun i h1 h2 => ?_⟩, fun j u hj => ?_⟩
    · simp only [List.getElem_map, List.getElem_range]
      exact ⟨(hv i h1).2, hr i h1⟩
    · have hlt : j < cs.length := by
        have := (List.getElem?_eq_some_iff.1 hj).1
        simpa using this
      simp only [List.getElem?_map, List.getElem?_range hlt, Option.map_some, Option.some.injEq] at hj
      subst hj
      simp [World.cell?, hI.sl _ _ ha, (hv j hlt).1]

theorem flat_take {G : Gh} : ∀ {es : List (List V)} {vs : List Value} {sz : Nat}, (∀ e ∈ es, e.length = sz) → RepL G es.flatten vs → ∀ {i : Nat} {e : List V}, es[i]? = some e →
    RepL G e ((vs.drop (i * sz)).take sz)
  | [], _, _, _, _, i, e, he => by simp at he
  | e0 :: es, vs, sz, hl, h, i, e, he => by
    have h0 : e0.length = sz := hl e0 (by simp)
    have hf : (e0 :: es).flatten = e0 ++ es.flatten := rfl
    rw [hf] at h
    have hlen : sz ≤ vs.length := by rw [← h.1, List.length_append]; omega
    have hA : RepL G e0 (vs.take sz) := by
      have := h.take sz
      rw [List.take_append_of_le_length (by omega), List.take_of_length_le (by omega)] at this
      exact this
    have hB : RepL G es.flatten (vs.drop sz) := by
      have := h.drop sz
      rw [← h0, List.drop_left] at this
      rw [← h0]; exact this
    cases i with
    | zero => simp at he; subst he; simpa using hA
    | succ i =>
      have := flat_take (fun e he => hl e (by simp [he])) hB (i := i) (e := e) (by simpa using he)
      rw [List.drop_drop] at this
      rw [show (i + 1) * sz = sz + i * sz by rw [Nat.add_mul]; omega]
      exact this

theorem cells_at {x : V} {y : Value} {cs : List V} (hI : Inv G s w) (h : RepV G x y) (hc : cellsAt s x = some cs) :
    ∃ b off vs, y = .pointer (some ⟨b, off, none⟩) ∧ RepL G cs vs ∧ ∀ j u, vs[j]? = some u → w.cell? ⟨b, off + j, none⟩ = some u := by
  unfold cellsAt at hc
  split at hc
  · cases hc; exact cells_of_ref hI h
  · split at hc
    · rename_i l k g off _ g' ds hget
      split at hc
      · rename_i e
        subst e
        cases hc
        cases h with
        | ptr _ _ _ _ b sz C hb =>
          obtain ⟨b', arr, T, hb', hh, hr⟩ := hI.res _ _ _ _ hget
          rw [hb] at hb'
          simp only [Option.some.injEq, Prod.mk.injEq] at hb'
          obtain ⟨rfl, rfl, rfl⟩ := hb'
          refine ⟨b, off, arr.toList.drop off, rfl, hr.drop off, fun j u hj => ?_⟩
          simp only [List.getElem?_drop] at hj
          simp [World.cell?, hh, ← Array.getElem?_toList, hj]
      · cases hc
    · cases hc
  · split at hc
    · rename_i l k g i off _ g' T0 es hget
      split at hc
      · rename_i e
        subst e
        simp only [Option.map_eq_some_iff] at hc
        obtain ⟨e, he, rfl⟩ := hc
        cases h with
        | eptr _ _ _ _ _ b sz C hb =>
          obtain ⟨b', sz', C', hb', hle, hlen, _, hrow⟩ := hI.res _ _ _ _ hget
          rw [hb] at hb'
          simp only [Option.some.injEq, Prod.mk.injEq] at hb'
          obtain ⟨rfl, rfl, rfl⟩ := hb'
          have hi : i < es.length := (List.getElem?_eq_some_iff.1 he).1
          obtain ⟨arr, hh, hsz, hr⟩ := hrow (by omega)
          have hE := flat_take hlen hr he
          refine ⟨b, i * sz + off, _, rfl, hE.drop off, fun j u hj => ?_⟩
          rw [List.getElem?_drop, List.getElem?_take] at hj
          split at hj
          · rw [List.getElem?_drop, List.getElem?_take] at hj
            split at hj
            · simp only [World.cell?, hh, Option.isSome_none, Bool.false_eq_true, if_false, ← Array.getElem?_toList]
              rw [← hj]; congr 1; omega
            · cases hj
          · cases hj
      · cases hc
    · cases hc
  · cases hc

theorem info_size {T : TypeId} {d : TypeDesc} (hu : P.underlying T = some d) : (P.info? T).map (·.size) = some (P.cellsOf T) := by
  obtain ⟨i, hi⟩ := info_of_underlying hu
  simp [Program.cellsOf, hi]

theorem sizeOf_run {T : TypeId} {d : TypeDesc} (hu : P.underlying T = some d) : (sizeOf T).run P w = .ok (P.cellsOf T) w := by
  obtain ⟨i, hi⟩ := info_of_underlying hu
  simp [sizeOf, typeInfo, hi, Program.cellsOf]

theorem whole_run {T : TypeId} {cs : List V} {v : V} {b off : Nat} {vs : List Value} (hr : RepL G cs vs) (hc : ∀ j u, vs[j]? = some u → w.cell? ⟨b, off + j, none⟩ = some u)
    (h : whole P T cs = some v) : ∃ r, (Instr.loadAt T (.pointer (some ⟨b, off, none⟩))).run P w = .ok r w ∧ RepV G v r := by
  have agg : (∃ d, P.underlying T = some d ∧ ((∃ fs, d = .struct fs) ∨ ∃ n e, d = .array n e)) → P.cellsOf T ≤ cs.length → v = .agg (cs.take (P.cellsOf T)) →
      ∃ r, (Instr.loadAt T (.pointer (some ⟨b, off, none⟩))).run P w = .ok r w ∧ RepV G v r := by
    rintro ⟨d, hu, hd⟩ hle rfl
    have hl : (vs.take (P.cellsOf T)).length = P.cellsOf T := by rw [List.length_take, ← hr.1]; omega
    have hrun := run_loadCells_list (P := P) w ⟨b, off, none⟩ (vs.take (P.cellsOf T)) (fun j u hj => by
      rw [Addr.add_lit]
      rw [List.getElem?_take] at hj
      split at hj
      · exact hc j u hj
      · cases hj)
    rw [hl] at hrun
    refine ⟨.agg (vs.take (P.cellsOf T)).toArray, ?_, (hr.take _).toAgg⟩
    rcases hd with ⟨fs, rfl⟩ | ⟨n, e, rfl⟩ <;> simp [Instr.loadAt, Instr.sureAddr, loadVar, isAgg, run_underlying hu, sizeOf_run hu, hrun]
  unfold whole at h
  split at h
  · rename_i fs hu
    split at h
    · rename_i hle
      exact agg ⟨_, hu, .inl ⟨fs, rfl⟩⟩ hle (by simpa using h.symm)
    · cases h
  · rename_i n e hu
    split at h
    · rename_i hle
      exact agg ⟨_, hu, .inr ⟨n, e, rfl⟩⟩ hle (by simpa using h.symm)
    · cases h
  · rename_i d hn1 hn2 hu
    obtain ⟨u, hu', hcell, hrep⟩ := hr.get h
    refine ⟨u, ?_, hrep⟩
    have hcl := hc 0 u hu'
    simp only [Nat.add_zero] at hcl
    have : (isAgg T).run P w = .ok false w := by
      cases d <;> simp_all [isAgg, run_underlying hu]
    simp [Instr.loadAt, Instr.sureAddr, loadVar, this, hcl]
  · cases h

theorem sizeOf_pos {T : TypeId} (h : 0 < P.cellsOf T) : (sizeOf T).run P w = .ok (P.cellsOf T) w := by
  cases hi : P.info? T with
  | none => simp [Program.cellsOf, hi] at h
  | some i => simp [sizeOf, typeInfo, hi, Program.cellsOf]

theorem part_run {U : TypeId} {cs : List V} {off : Nat} {v : V} {vs : List Value} (hr : RepL G cs vs) (h : partV P U cs off = some v) :
    ∃ r, (part U vs.toArray off).run P w = .ok r w ∧ RepV G v r := by
  have agg : (∃ d, P.underlying U = some d ∧ ((∃ fs, d = .struct fs) ∨ ∃ n e, d = .array n e)) → off + P.cellsOf U ≤ cs.length → v = .agg ((cs.drop off).take (P.cellsOf U)) →
      ∃ r, (part U vs.toArray off).run P w = .ok r w ∧ RepV G v r := by
    rintro ⟨d, hu, hd⟩ hle rfl
    refine ⟨.agg ((vs.drop off).take (P.cellsOf U)).toArray, ?_, ((hr.drop off).take _).toAgg⟩
    rcases hd with ⟨fs, rfl⟩ | ⟨n, e, rfl⟩ <;> simp [part, isAgg, run_underlying hu, sizeOf_run hu, List.extract]
  unfold partV at h
  split at h
  · rename_i fs hu
    split at h
    · rename_i hle; exact agg ⟨_, hu, .inl ⟨fs, rfl⟩⟩ hle (by simpa using h.symm)
    · cases h
  · rename_i n e hu
    split at h
    · rename_i hle; exact agg ⟨_, hu, .inr ⟨n, e, rfl⟩⟩ hle (by simpa using h.symm)
    · cases h
  · rename_i d hn1 hn2 hu
    obtain ⟨u, hu', _, hrep⟩ := hr.get h
    refine ⟨u, ?_, hrep⟩
    have : (isAgg U).run P w = .ok false w := by
      cases d <;> simp_all [isAgg, run_underlying hu]
    simp [part, this, hu']
  · cases h

theorem ref_drop {cs : List V} {b off n : Nat} (h : RepV G (.ref cs) (.pointer (some ⟨b, off, none⟩))) : RepV G (.ref (cs.drop n)) (.pointer (some ⟨b, off + n, none⟩)) := by
  cases h with
  | ref _ _ _ arr T fz vs ha hv hr =>
    refine .ref _ b (off + n) arr T fz (fun j => vs (n + j)) ha (fun j hj => ?_) (fun j hj => ?_)
    · have hj' : n + j < cs.length := by simp at hj; omega
      have := hv (n + j) hj'
      simp only [List.getElem_drop]
      exact ⟨by rw [← this.1]; congr 1; omega, this.2⟩
    · simp only [List.getElem_drop]
      exact hr _ _

theorem fieldAddr_run {T : TypeId} {f : Nat} {x v : V} {y : Value} (h : evFieldAddr P T x f = some v) (hr : RepV G x y) :
    ∃ r, (Instr.fieldAt T y f).run P w = .ok r w ∧ RepV G v r := by
  unfold evFieldAddr at h
  split at h
  · rename_i U off hf
    split at h
    · cases h
    · rename_i hz
      unfold fieldP at hf
      split at hf
      · rename_i fs hu
        simp only [Option.map_eq_some_iff, Prod.mk.injEq] at hf
        obtain ⟨fd, hfd, rfl, rfl⟩ := hf
        have hrun : ∀ a : Addr, (Instr.fieldAt T (.pointer (some a)) f).run P w = .ok (.pointer (some (a.add fd.offset))) w := by
          intro a
          simp [Instr.fieldAt, run_underlying hu, hfd, Instr.sureAddr, fieldPlace, sizeOf_pos (P := P) (w := w) (Nat.pos_of_ne_zero hz), hz]
        split at h
        · cases h
          have hr' := hr
          cases hr with
          | ref _ b off _ _ _ _ _ _ _ => exact ⟨_, hrun _, by rw [Addr.add_lit]; exact ref_drop hr'⟩
        · cases h
          cases hr with
          | ptr _ _ _ _ b sz C hb => exact ⟨_, hrun _, by rw [Addr.add_lit]; exact .ptr _ _ _ _ b sz C hb⟩
        · cases h
          cases hr with
          | eptr _ _ _ _ _ b sz C hb => exact ⟨_, hrun _, by rw [Addr.add_lit, Nat.add_assoc]; exact .eptr _ _ _ _ _ b sz C hb⟩
        · cases h
      · cases hf
  · cases h

theorem elemT_slice {T e : TypeId} (h : elemT P T = some (none, e)) : P.underlying T = some (.slice e) := by
  unfold elemT at h
  split at h <;> simp_all
theorem elemT_array {T e : TypeId} {n : Nat} (h : elemT P T = some (some n, e)) : P.underlying T = some (.array n e) := by
  unfold elemT at h
  split at h <;> simp_all

theorem indexAddr_run {T : TypeId} {x i v : V} {y z : Value} (hI : Inv G s w) (h : evIndexAddr P s T x i = some v) (hx : RepV G x y) (hi : RepV G i z) :
    ∃ r, (Instr.indexAt T y z).run P w = .ok r w ∧ RepV G v r := by
  have arr : ∀ {n : Nat} {e : TypeId} {j : Int} {k : IntKind} (a : Addr), P.underlying T = some (.array n e) → 0 ≤ j → j < n → 0 < P.cellsOf e →
      (Instr.indexAt T (.pointer (some a)) (.int k j)).run P w = .ok (.pointer (some (a.add (j.toNat * P.cellsOf e)))) w := by
    intro n e j k a hu h1 h2 h3
    simp [Instr.indexAt, asIntOf, run_underlying hu, Instr.sureAddr, h1, h2, sizeOf_pos (P := P) (w := w) h3]
  unfold evIndexAddr at h
  split at h
  · rename_i e full es k j hel
    split at h
    · rename_i hc
      cases h
      have hu := elemT_slice hel
      cases hi
      cases hx with
      | list _ _ a cap b off sz arr T' fz vs hcap hfull ha hl hv hr =>
        obtain ⟨hj0, hj1, hlen, hpz⟩ := hc
        have hj : j.toNat < es.length := by omega
        have hne : es ≠ [] := by intro e; simp [e] at hj
        obtain ⟨rfl, hsl⟩ := ha hne
        have hget : es.getD j.toNat [] = es[j.toNat] := by simp [List.getD, hj]
        rw [hget] at hlen ⊢
        have hsz := hl j.toNat hj
        have hpos := sizeOf_pos (P := P) (w := w) hpz
        refine ⟨.pointer (some ⟨b, off + j.toNat * P.cellsOf e, none⟩), ?_, ?_⟩
        · simp [Instr.indexAt, asIntOf, run_underlying hu, hj0, hj1, hpos, Addr.add_lit]
        · refine .ref _ b _ arr T' fz (vs j.toNat) hsl (fun q hq => ?_) (fun q hq => hr j.toNat hj q hq)
          have := hv j.toNat hj q hq
          rw [← hlen, hsz]
          exact this
    · cases h
  · split at h
    · rename_i e l k g n kk j hel _ g' T0 es hget
      split at h
      · rename_i hc
        cases h
        obtain ⟨rfl, hj0, hj1, hn, hlen, hpz⟩ := hc
        have hu := elemT_slice hel
        cases hi
        cases hx with
        | vec _ _ _ _ b sz C a hb hle ha =>
          obtain ⟨b', sz', C', hb', hle', hlen', _, hrow⟩ := hI.res _ _ _ _ hget
          rw [hb] at hb'
          simp only [Option.some.injEq, Prod.mk.injEq] at hb'
          obtain ⟨rfl, rfl, rfl⟩ := hb'
          have hj : j.toNat < es.length := by omega
          have hgetD : es.getD j.toNat [] = es[j.toNat] := by simp [List.getD, hj]
          rw [hgetD] at hlen
          have hsz : es[j.toNat].length = sz := hlen' _ (List.getElem_mem hj)
          have := ha (by omega)
          subst this
          have hpos := sizeOf_pos (P := P) (w := w) hpz
          refine ⟨.pointer (some ⟨b, j.toNat * sz + 0, none⟩), ?_, .eptr _ _ _ _ _ b sz C hb⟩
          simp [Instr.indexAt, asIntOf, run_underlying hu, hj0, hj1, hpos, Addr.add_lit, ← hlen, hsz]
      · cases h
    · cases h
  · rename_i n e cs k j hel
    split at h
    · rename_i hc
      cases h
      have hu := elemT_array hel
      cases hi
      have hx' := hx
      cases hx with
      | ref _ b off _ _ _ _ _ _ _ => exact ⟨_, arr _ hu hc.1 hc.2.1 hc.2.2, by rw [Addr.add_lit]; exact ref_drop hx'⟩
    · cases h
  · rename_i n e l k g o kk j hel
    split at h
    · rename_i hc
      cases h
      have hu := elemT_array hel
      cases hi
      cases hx with
      | ptr _ _ _ _ b sz C hb => exact ⟨_, arr _ hu hc.1 hc.2.1 hc.2.2, by rw [Addr.add_lit]; exact .ptr _ _ _ _ b sz C hb⟩
    · cases h
  · rename_i n e l k g i' o kk j hel
    split at h
    · rename_i hc
      cases h
      have hu := elemT_array hel
      cases hi
      cases hx with
      | eptr _ _ _ _ _ b sz C hb => exact ⟨_, arr _ hu hc.1 hc.2.1 hc.2.2, by rw [Addr.add_lit, Nat.add_assoc]; exact .eptr _ _ _ _ _ b sz C hb⟩
    · cases h
  · cases h

theorem index_run {T : TypeId} {x i v : V} {y z : Value} (h : evIndex P T x i = some v) (hx : RepV G x y) (hi : RepV G i z) :
    ∃ r, (Instr.index T y z).run P w = .ok r w ∧ RepV G v r := by
  unfold evIndex at h
  split at h
  · rename_i n e cs k j hel
    split at h
    · rename_i hc
      have hu := elemT_array hel
      cases hi
      obtain ⟨arr, rfl, hL⟩ := RepL.ofAgg hx
      obtain ⟨r, hr1, hr2⟩ := part_run (w := w) hL h
      refine ⟨r, ?_, hr2⟩
      simp only [Array.toArray_toList] at hr1
      simp [Instr.index, asIntOf, run_underlying hu, hc.1, hc.2.1, sizeOf_pos (P := P) (w := w) hc.2.2, hr1]
    · cases h
  · cases h

theorem field_run {T : TypeId} {f : Nat} {x v : V} {y : Value} (h : evField P T x f = some v) (hx : RepV G x y) :
    ∃ r, (Instr.field T y f).run P w = .ok r w ∧ RepV G v r := by
  unfold evField at h
  split at h
  · rename_i cs U off hf
    unfold fieldP at hf
    split at hf
    · rename_i fs hu
      simp only [Option.map_eq_some_iff, Prod.mk.injEq] at hf
      obtain ⟨fd, hfd, rfl, rfl⟩ := hf
      obtain ⟨arr, rfl, hL⟩ := RepL.ofAgg hx
      obtain ⟨r, hr1, hr2⟩ := part_run (w := w) hL h
      refine ⟨r, ?_, hr2⟩
      simp only [Array.toArray_toList] at hr1
      simp [Instr.field, run_underlying hu, hfd, asAgg, hr1]
    · cases hf
  · cases h

theorem un_run {op : UnOp} {x v : V} {y : Value} (h : evUn op x = some v) (hx : RepV G x y) : ∃ r, (Op.unary op y).run P w = .ok r w ∧ RepV G v r := by
  unfold evUn at h
  split at h
  · cases h; cases hx; exact ⟨_, by simp [Op.unary], .bool _⟩
  · cases h; cases hx; exact ⟨_, by simp [Op.unary, Op.intArith], .int _ _⟩
  · cases h

theorem conv_run {src dst : TypeId} {x v : V} {y : Value} (h : evConv P src dst x = some v) (hx : RepV G x y) : ∃ r, (convert src dst y).run P w = .ok r w ∧ RepV G v r := by
  unfold evConv at h
  split at h
  · rename_i k' n k1 k hs hu
    cases h; cases hx
    exact ⟨.int k (k.wrap n), by simp [convert, run_underlying hs, run_underlying hu, Conv.intToInt], .int _ _⟩
  · cases h

theorem list_sub {f : Bool} {es : List (List V)} {a : Option Addr} {n cap : Nat} (h : RepV G (.list f es) (.slice a n cap)) {l hi : Nat} (hl : l ≤ hi) (hh : hi ≤ es.length) {sz : Nat} (hs : ∀ e ∈ es, e.length = sz) :
    RepV G (.list false ((es.take hi).drop l)) (.slice (if cap = l then a else a.map (·.add (l * sz))) (hi - l) (cap - l)) := by
  cases h with
  | list _ _ _ _ b off sz' arr T fz vs hcap hfull ha hlen hv hr =>
    have hlength : ((es.take hi).drop l).length = hi - l := by simp; omega
    have key : RepV G (.list false ((es.take hi).drop l)) (.slice (if cap = l then a else a.map (·.add (l * sz))) ((es.take hi).drop l).length (cap - l)) := by
      by_cases hne : es = []
      · subst hne
        refine .list false _ _ _ 0 0 0 #[] 0 (0,0) (fun _ _ => undef) (by simp) (fun h => by cases h) (fun h => absurd (by simp) h) (fun i h => ?_) (fun i h => ?_) (fun i h => ?_)
        all_goals simp at h
      · obtain ⟨rfl, hsl⟩ := ha hne
        have h0 : 0 < es.length := List.length_pos_iff.2 hne
        have hsz : sz' = sz := by rw [← hlen 0 h0]; exact hs _ (List.getElem_mem h0)
        subst hsz
        refine .list false _ _ _ b (off + l * sz') sz' arr T fz (fun i j => vs (l + i) j) (by rw [hlength]; omega) (fun h => by cases h) (fun hn => ?_) (fun i h => ?_) (fun i h j hj => ?_) (fun i h j hj => ?_)
        · have hpos : 0 < ((es.take hi).drop l).length := List.length_pos_iff.2 hn
          rw [hlength] at hpos
          rw [if_neg (by omega)]
          exact ⟨by simp [Addr.add_lit], hsl⟩
        · rw [hlength] at h
          simp only [List.getElem_drop, List.getElem_take]
          exact hlen _ _
        · have h' : i < hi - l := by rw [← hlength]; exact h
          simp only [List.getElem_drop, List.getElem_take] at hj ⊢
          have := hv (l + i) (by omega) j hj
          exact ⟨by rw [← this.1, Nat.add_mul]; congr 1; omega, this.2⟩
        · have h' : i < hi - l := by rw [← hlength]; exact h
          simp only [List.getElem_drop, List.getElem_take] at hj ⊢
          exact hr (l + i) (by omega) j hj
    rw [hlength] at key
    exact key

theorem extract_run {x v : V} {i : Nat} {y : Value} (h : evExtract x i = some v) (hx : RepV G x y) : ∃ r, (Instr.extract y i).run P w = .ok r w ∧ RepV G v r := by
  unfold evExtract at h
  split at h
  · cases hx with
    | tup cs arr hl hr =>
      obtain ⟨hi, rfl⟩ := List.getElem?_eq_some_iff.1 h
      have hi' : i < arr.size := by omega
      exact ⟨arr[i], by simp [Instr.extract, hi'], hr i hi hi'⟩
  · cases h

theorem len_run {T ty : TypeId} {x v : V} {y : Value} (h : evLen P T x = some v) (hx : RepV G x y) : ∃ r, (Builtin.len_ #[T] ty #[y]).run P w = .ok r w ∧ RepV G v r := by
  unfold evLen at h
  split at h
  · rename_i e f es hu
    cases h; cases hx
    exact ⟨_, by simp [Builtin.len_, run_underlying hu]; rfl, .int _ _⟩
  · rename_i e l k g n hu
    cases h; cases hx
    exact ⟨_, by simp [Builtin.len_, run_underlying hu]; rfl, .int _ _⟩
  · rename_i e hu
    cases h; cases hx
    exact ⟨.int .i64 0, by simp [Builtin.len_, run_underlying hu, goInt], .int _ _⟩
  · rename_i n e hu
    cases h
    exact ⟨_, by simp [Builtin.len_, run_underlying hu]; rfl, .int _ _⟩
  · cases h

theorem slice_run {T : TypeId} {x v : V} {lo hi mx : Option V} {y : Value} {l' h' m' : Option Value} (hI : Inv G s w) (h : evSlice P s T x lo hi mx = some v) (hx : RepV G x y)
    (hl : (lo = none ∧ l' = none) ∨ ∃ a b, lo = some a ∧ l' = some b ∧ RepV G a b) (hh : (hi = none ∧ h' = none) ∨ ∃ a b, hi = some a ∧ h' = some b ∧ RepV G a b)
    (hm : (mx = none ∧ m' = none) ∨ ∃ a b, mx = some a ∧ m' = some b ∧ RepV G a b) :
    ∃ r, (Instr.sliceAt T y l' h' m').run P w = .ok r w ∧ RepV G v r := by
  have pre : ∀ {f : Bool} {es : List (List V)} {a : Option Addr} {n cap hi : Nat}, RepV G (.list f es) (.slice a n cap) → hi ≤ es.length → RepV G (.list false (es.take hi)) (.slice (if cap = 0 then a else a) hi cap) := by
    intro f es a n cap hi hr hle
    cases hr with
    | list _ _ _ _ b off sz arr T fz vs hcap hfull ha hlen hv hr =>
      have hlength : (es.take hi).length = hi := by simp; omega
      have key : RepV G (.list false (es.take hi)) (.slice a (es.take hi).length cap) := by
        refine .list false _ _ _ b off sz arr T fz vs (by rw [hlength]; omega) (fun h => by cases h) (fun hn => ha (fun e => hn (by simp [e]))) (fun i h => ?_) (fun i h j hj => ?_) (fun i h j hj => ?_)
        · simp only [List.getElem_take]; exact hlen _ _
        · simp only [List.getElem_take] at hj ⊢; exact hv i _ j hj
        · simp only [List.getElem_take] at hj ⊢; exact hr i _ j hj
      rw [hlength] at key
      simpa using key
  have hall : ∀ {es : List (List V)} {m : Nat}, (es.all fun x => x.length == m) = true → ∀ e ∈ es, e.length = m := by
    intro es m h e he
    have := List.all_eq_true.1 h e he
    simpa using this
  unfold evSlice at h
  split at h
  · rename_i e f es k hi hel
    have hu := elemT_slice hel
    split at h
    · rename_i hc
      cases h
      obtain ⟨_, rfl⟩ := hl.resolve_right (by rintro ⟨a, b, h1, _⟩; cases h1)
      obtain ⟨_, rfl⟩ := hm.resolve_right (by rintro ⟨a, b, h1, _⟩; cases h1)
      rcases hh with ⟨h1, _⟩ | ⟨a, b, h1, rfl, hab⟩
      · cases h1
      · cases h1; cases hab
        have hx' := hx
        cases hx with
        | list _ _ a cap b off sz arr T' fz vs hcap hfull ha hlen hv hr =>
          have hp := pre hx' (hi := hi.toNat) (by omega)
          refine ⟨_, ?_, hp⟩
          have h2 : hi ≤ cap := by omega
          simp [Instr.sliceAt, run_underlying hu, Instr.slice, Instr.sliceBounds, Instr.sliceBound, asIntOf, hc.1, h2, sizeOf_pos (P := P) (w := w) hc.2.2]
          cases a <;> simp [Addr.add]
    · cases h
  · rename_i e f es k lo hel
    have hu := elemT_slice hel
    split at h
    · rename_i hc
      cases h
      obtain ⟨_, rfl⟩ := hh.resolve_right (by rintro ⟨a, b, h1, _⟩; cases h1)
      obtain ⟨_, rfl⟩ := hm.resolve_right (by rintro ⟨a, b, h1, _⟩; cases h1)
      rcases hl with ⟨h1, _⟩ | ⟨a, b, h1, rfl, hab⟩
      · cases h1
      · cases h1; cases hab
        have hx' := hx
        cases hx with
        | list _ _ a cap b off sz arr T' fz vs hcap hfull ha hlen hv hr =>
          have hp := list_sub hx' (l := lo.toNat) (hi := es.length) (by omega) (Nat.le_refl _) (hall hc.2.2.2)
          rw [List.take_length] at hp
          refine ⟨_, ?_, hp⟩
          simp [Instr.sliceAt, run_underlying hu, Instr.slice, Instr.sliceBounds, Instr.sliceBound, asIntOf, hc.1, hc.2.1, sizeOf_pos (P := P) (w := w) hc.2.2.1]
    · cases h
  · rename_i e f es k lo k' hi hel
    have hu := elemT_slice hel
    split at h
    · rename_i hc
      cases h
      obtain ⟨_, rfl⟩ := hm.resolve_right (by rintro ⟨a, b, h1, _⟩; cases h1)
      rcases hl with ⟨h1, _⟩ | ⟨a, b, h1, rfl, hab⟩
      · cases h1
      · cases h1; cases hab
        rcases hh with ⟨h1, _⟩ | ⟨a, b, h1, rfl, hab⟩
        · cases h1
        · cases h1; cases hab
          have hx' := hx
          cases hx with
          | list _ _ a cap b off sz arr T' fz vs hcap hfull ha hlen hv hr =>
            have hp := list_sub hx' (l := lo.toNat) (hi := hi.toNat) (by omega) (by omega) (hall hc.2.2.2.2)
            refine ⟨_, ?_, hp⟩
            have h2 : hi ≤ cap := by omega
            have h3 : 0 ≤ hi := by omega
            simp [Instr.sliceAt, run_underlying hu, Instr.slice, Instr.sliceBounds, Instr.sliceBound, asIntOf, hc.1, h2, h3, sizeOf_pos (P := P) (w := w) hc.2.2.2.1]
            intro hlt
            omega
    · cases h
  · rename_i e f es k h k' m hel
    have hu := elemT_slice hel
    split at h
    · rename_i hc
      cases h
      obtain ⟨rfl, rfl, hpos⟩ := hc
      obtain ⟨_, rfl⟩ := hl.resolve_right (by rintro ⟨a, b, h1, _⟩; cases h1)
      rcases hm with ⟨h1, _⟩ | ⟨a, b, h1, rfl, hab⟩
      · cases h1
      · cases h1; cases hab
        rcases hh with ⟨h1, _⟩ | ⟨a, b, h1, rfl, hab⟩
        · cases h1
        · cases h1; cases hab
          cases hx with
          | list _ _ a cap b off sz arr T' fz vs hcap hfull ha hlen hv hr =>
            refine ⟨.slice a 0 0, ?_, .list true [] a 0 0 0 0 #[] 0 (0,0) (fun _ _ => undef) (Nat.le_refl _) (fun _ => rfl) (fun h => absurd rfl h) (fun i h => absurd h (by simp)) (fun i h => absurd h (by simp)) (fun i h => absurd h (by simp))⟩
            simp [Instr.sliceAt, run_underlying hu, Instr.slice, Instr.sliceBounds, Instr.sliceBound, asIntOf, sizeOf_pos (P := P) (w := w) hpos]
    · cases h
  · rename_i e l k g n k' hi hel
    have hu := elemT_slice hel
    split at h
    · rename_i hc
      cases h
      obtain ⟨_, rfl⟩ := hl.resolve_right (by rintro ⟨a, b, h1, _⟩; cases h1)
      obtain ⟨_, rfl⟩ := hm.resolve_right (by rintro ⟨a, b, h1, _⟩; cases h1)
      rcases hh with ⟨h1, _⟩ | ⟨a, b, h1, rfl, hab⟩
      · cases h1
      · cases h1; cases hab
        cases hx with
        | vec _ _ _ _ b sz C a hb hle ha =>
          refine ⟨_, ?_, .vec l k g hi.toNat b sz C a hb (by omega) ha⟩
          have h2 : hi ≤ C := by omega
          simp [Instr.sliceAt, run_underlying hu, Instr.slice, Instr.sliceBounds, Instr.sliceBound, asIntOf, hc.1, h2, sizeOf_pos (P := P) (w := w) hc.2.2]
          cases a <;> simp [Addr.add]
    · cases h
  · rename_i e l k g n k' i hel
    have hu := elemT_slice hel
    split at h
    · rename_i g' T' es hget
      split at h
      · rename_i hc
        obtain ⟨rfl, hall1, hne, hi0, hin, hpos⟩ := hc
        cases h
        obtain ⟨_, rfl⟩ := hh.resolve_right (by rintro ⟨a, b, h1, _⟩; cases h1)
        obtain ⟨_, rfl⟩ := hm.resolve_right (by rintro ⟨a, b, h1, _⟩; cases h1)
        rcases hl with ⟨h1, _⟩ | ⟨a, b, h1, rfl, hab⟩
        · cases h1
        · cases h1; cases hab
          obtain ⟨b', sz', C', hb', hC, hlen, _⟩ := hI.res _ _ _ _ hget
          cases hx with
          | vec _ _ _ _ b sz C a hb hle ha =>
            rw [hb] at hb'
            simp only [Option.some.injEq, Prod.mk.injEq] at hb'
            obtain ⟨rfl, rfl, rfl⟩ := hb'
            have h0 : 0 < es.length := List.length_pos_iff.2 hne
            have hsz : sz = P.cellsOf e := by rw [← hlen _ (List.getElem_mem h0)]; exact hall hall1 _ (List.getElem_mem h0)
            subst hsz
            refine ⟨.slice (if C = i.toNat then a else a.map (·.add (i.toNat * P.cellsOf e))) (n - i.toNat) (C - i.toNat), ?_, .vtl l k g' i.toNat _ b _ C _ _ hb (by omega) (fun hn => ?_)⟩
            · simp [Instr.sliceAt, run_underlying hu, Instr.slice, Instr.sliceBounds, Instr.sliceBound, asIntOf, hi0, hin, sizeOf_pos (P := P) (w := w) hpos]
            · rw [if_neg (by omega), ha (by omega)]
              simp [Addr.add_lit]
      · cases h
    · cases h
  · cases h

theorem eqC_spec : ∀ {xs ys : List V} {b : Bool} {as bs : List Value}, eqC xs ys = some b → plainC xs = some as → plainC ys = some bs → (b = true ↔ as = bs)
  | [], [], b, as, bs, h, h1, h2 => by cases h; cases h1; cases h2; simp
  | .int k a :: xs, .int j c :: ys, b, as, bs, h, h1, h2 => by
    simp only [eqC] at h
    split at h
    · rename_i hk
      subst hk
      split at h
      · rename_i r hr
        cases h
        simp only [plainC] at h1 h2
        split at h1
        · rename_i l1 e1
          split at h2
          · rename_i l2 e2
            cases h1; cases h2
            have := eqC_spec hr e1 e2
            simp [this]
          · cases h2
        · cases h1
      · cases h
    · cases h
  | .bool a :: xs, .bool c :: ys, b, as, bs, h, h1, h2 => by
    simp only [eqC] at h
    split at h
    · rename_i r hr
      cases h
      simp only [plainC] at h1 h2
      split at h1
      · rename_i l1 e1
        split at h2
        · rename_i l2 e2
          cases h1; cases h2
          have := eqC_spec hr e1 e2
          simp [this]
        · cases h2
      · cases h1
    · cases h

theorem keyV_spec {K : TypeId} {x : V} {ks : List V} {v : Value} (h : keyV P K x = some ks) (hx : RepV G x v) : ∃ as l, plainC ks = some as ∧ v = .agg as.toArray ∧ keyOf P K v = some l := by
  unfold keyV at h
  split at h
  · rename_i cs
    split at h
    · rename_i as e
      split at h
      · rename_i hk
        cases h
        obtain ⟨arr, rfl, hL⟩ := RepL.ofAgg hx
        have := plainC_rep hL e
        have e2 : arr = as.toArray := by rw [← this]
        subst e2
        obtain ⟨l, hl⟩ := Option.isSome_iff_exists.1 hk
        exact ⟨as, l, e, rfl, hl⟩
      · cases h
    · cases h
  · cases h

theorem keyT_law {K : TypeId} (h : keyT P K = true) : WideMaps.KeyLaw P K := by
  simp only [keyT, Bool.and_eq_true] at h
  obtain ⟨⟨h1, h2⟩, h3⟩ := h
  refine deep_law (m := 16) (by omega) h2 h3 ?_
  unfold aggT at h1
  split at h1 <;> simp_all

theorem findV_spec {K : TypeId} {ks : List V} {as : List Value} (has : plainC ks = some as) : ∀ {es : List (V × V)} {arr : List MapEntry} {i : Nat} {l : List Nat}, es.length = arr.length → (∀ j (h1 : j < es.length) (h2 : j < arr.length), RepV G es[j].1 arr[j].key) →
    findV P K ks es i = some l → (∀ e ∈ arr, ∃ q, keyOf P K e.key = some q) ∧ (∀ j, j ∈ l ↔ i ≤ j ∧ ∃ e, arr[j - i]? = some e ∧ e.key = .agg as.toArray)
  | [], [], i, l, _, _, h => by cases h; simp
  | [], _ :: _, i, l, hl, _, h => by simp at hl
  | _ :: _, [], i, l, hl, _, h => by simp at hl
  | (k, v) :: es, e :: arr, i, l, hl, hr, h => by
    simp only [findV] at h
    split at h
    · rename_i js hjs
      split at h
      · rename_i b l' hb hl'
        cases h
        have h0 := hr 0 (by simp) (by simp)
        obtain ⟨bs, q, hbs, hek, hq⟩ := keyV_spec hjs h0
        simp only [List.getElem_cons_zero] at hek hq
        obtain ⟨i1, i2⟩ := findV_spec has (es := es) (arr := arr) (i := i + 1) (by simpa using hl) (fun j h1 h2 => hr (j + 1) (by simpa using h1) (by simpa using h2)) hl'
        have hbb := eqC_spec hb hbs has
        refine ⟨fun e' he' => ?_, fun j => ?_⟩
        · rcases List.mem_cons.1 he' with rfl | he'
          · exact ⟨q, hq⟩
          · exact i1 e' he'
        · have key : (i + 1 ≤ j ∧ ∃ e', arr[j - (i + 1)]? = some e' ∧ e'.key = .agg as.toArray) ↔ (i < j ∧ ∃ e', (e :: arr)[j - i]? = some e' ∧ e'.key = .agg as.toArray) := by
            constructor
            · rintro ⟨h1, e', h2, h3⟩
              refine ⟨h1, e', ?_, h3⟩
              rw [show j - i = (j - (i + 1)) + 1 by omega]; exact h2
            · rintro ⟨h1, e', h2, h3⟩
              refine ⟨h1, e', ?_, h3⟩
              rw [show j - i = (j - (i + 1)) + 1 by omega] at h2; exact h2
          have hzero : (∃ e', (e :: arr)[i - i]? = some e' ∧ e'.key = .agg as.toArray) ↔ b = true := by
            rw [hbb]
            simp only [Nat.sub_self, List.getElem?_cons_zero, Option.some.injEq]
            constructor
            · rintro ⟨e', rfl, h3⟩
              rw [hek] at h3
              simpa using h3
            · rintro rfl; exact ⟨e, rfl, hek⟩
          cases hbv : b with
          | true =>
            simp only [if_true, List.mem_cons]
            rw [i2, key]
            rw [hbv] at hzero
            constructor
            · rintro (rfl | ⟨h1, h2⟩)
              · exact ⟨Nat.le_refl _, hzero.2 rfl⟩
              · exact ⟨by omega, h2⟩
            · rintro ⟨h1, h2⟩
              by_cases hij : j = i
              · exact .inl hij
              · exact .inr ⟨by omega, h2⟩
          | false =>
            simp only [Bool.false_eq_true, if_false]
            rw [i2, key]
            rw [hbv] at hzero
            constructor
            · rintro ⟨h1, h2⟩; exact ⟨by omega, h2⟩
            · rintro ⟨h1, h2⟩
              refine ⟨?_, h2⟩
              by_cases hij : j = i
              · subst hij; have := hzero.1 h2; cases this
              · omega
      · cases h
    · cases h

theorem find_run {K : TypeId} (hT : keyT P K = true) {k : V} {ks : List V} {kv : Value} (hk : keyV P K k = some ks) (hkr : RepV G k kv) {es : List (V × V)} {arr : Array MapEntry} (hlen : es.length = arr.size)
    (hr : ∀ j (h1 : j < es.length) (h2 : j < arr.size), RepV G es[j].1 arr[j].key) {l : List Nat} (hf : findV P K ks es 0 = some l) :
    (∀ em, (Instr.checkKey em 10000 K kv).run P w = .ok () w) ∧ (Instr.keyThatStays kv kv).run P w = .ok kv w ∧
    (l = [] → (Instr.findKey K kv arr.toList).run P w = .ok none w) ∧
    (∀ i, l = [i] → ∃ e, arr[i]? = some e ∧ e.key = kv ∧ (Instr.findKey K kv arr.toList).run P w = .ok (some (i, e.val)) w) := by
  have L := keyT_law hT
  obtain ⟨as, q, has, rfl, hq⟩ := keyV_spec hk hkr
  obtain ⟨h1, h2⟩ := findV_spec (G := G) has (es := es) (arr := arr.toList) (i := 0) (by simpa using hlen) (fun j p1 p2 => by simpa using hr j p1 (by simpa using p2)) hf
  refine ⟨fun em => L.check w em hq, L.stays w hq, fun hl => ?_, fun i hl => ?_⟩
  · subst hl
    rcases L.find w hq arr.toList h1 with ⟨h3, _⟩ | ⟨j, e, h3, h4, h5⟩
    · exact h3
    · have := (h2 j).2 ⟨by omega, e, by simpa using h4, h5⟩
      cases this
  · subst hl
    obtain ⟨_, e, h6, h7⟩ := (h2 i).1 (by simp)
    rcases L.find w hq arr.toList h1 with ⟨h3, h4⟩ | ⟨j, e', h3, h4, h5⟩
    · exact absurd h7 (h4 e (List.mem_of_getElem? h6))
    · have := (h2 j).2 ⟨by omega, e', by simpa using h4, h5⟩
      have hj : j = i := by simpa using this
      subst hj
      exact ⟨e', by simpa using h4, h5, h3⟩

theorem constV_cell0 {v : Value} {x : V} (h : constV v = some x) : x.isCell = true := by
  unfold constV at h
  split at h <;> first | (cases h; rfl) | cases h
theorem constL_rep0 : ∀ {vs : List Value} {xs : List V}, constL vs = some xs → RepL G xs vs
  | [], xs, h => by simp [constL] at h; subst h; exact .nil G
  | v :: vs, xs, h => by
    unfold constL at h
    split at h
    · rename_i x l hx hl
      cases h
      exact .cons (constV_cell0 hx) (constV_rep hx) (constL_rep0 hl)
    · cases h

theorem wholeZ_run {T : TypeId} {z : V} (h : wholeZ P T = some z) : ∃ v, (zeroValue T).run P w = .ok v w ∧ RepV G z v := by
  unfold wholeZ at h
  split at h
  · rename_i arr hv
    split at h
    · rename_i cs hz
      cases h
      unfold zeroV at hv
      obtain ⟨i, hi, hv⟩ := Option.bind_eq_some_iff.1 hv
      exact ⟨.agg arr, by simp [zeroValue, typeInfo, hi, hv], by simpa using (constL_rep0 (G := G) hz).toAgg⟩
    · cases h
  · rename_i v _ hv
    unfold zeroV at hv
    obtain ⟨i, hi, hv⟩ := Option.bind_eq_some_iff.1 hv
    exact ⟨v, by simp [zeroValue, typeInfo, hi, hv], constV_rep h⟩
  · cases h

theorem run_getObj_map {r : Nat} {arr : Array MapEntry} {c : Nat} (h : w.heap[r]? = some (.map arr c)) : (getObj r).run P w = .ok (.map arr c) w := by simp [getObj, Sem.run, h]

theorem lookup_run {T : TypeId} {x k v : V} {ok : Bool} {y kv : Value} (hI : Inv G s w) (h : evLookup P s T x k ok = some v) (hx : RepV G x y) (hk : RepV G k kv) : ∃ r, (Instr.lookup T y kv ok).run P w = .ok r w ∧ RepV G v r := by
  unfold evLookup at h
  split at h
  · rename_i K E l q g hm
    have hu : P.underlying T = some (.map K E) := by
      unfold mapT at hm; split at hm
      · rename_i e; cases hm; exact e
      · cases hm
    split at h
    · rename_i g' es hget
      split at h
      · rename_i hc
        obtain ⟨rfl, hT⟩ := hc
        split at h
        · rename_i ks hks
          obtain ⟨b, arr, clock, hb, hh, hlen, hr⟩ := hI.res _ _ _ _ hget
          cases hx with
          | mp _ _ _ b' sz C hb' =>
            rw [hb] at hb'
            simp only [Option.some.injEq, Prod.mk.injEq] at hb'
            obtain ⟨rfl, rfl, rfl⟩ := hb'
            split at h
            · rename_i hf
              obtain ⟨c1, _, c3, _⟩ := find_run (P := P) (w := w) hT hks hk hlen (fun j p1 p2 => (hr j p1 p2).1) hf
              obtain ⟨z, hz, rfl⟩ := Option.map_eq_some_iff.1 h
              obtain ⟨zv, hz1, hz2⟩ := wholeZ_run (G := G) (w := w) hz
              cases ok with
              | true => exact ⟨.tuple #[zv, .bool false], by simp [Instr.lookup, run_underlying hu, run_getObj_map hh, c1, c3 rfl, hz1], .tup _ _ rfl (fun i p q => by
                  rcases i with _ | _ | i
                  · exact hz2
                  · exact .bool _
                  · simp at p; omega)⟩
              | false => exact ⟨zv, by simp [Instr.lookup, run_underlying hu, run_getObj_map hh, c1, c3 rfl, hz1], hz2⟩
            · rename_i i hf
              obtain ⟨c1, _, _, c4⟩ := find_run (P := P) (w := w) hT hks hk hlen (fun j p1 p2 => (hr j p1 p2).1) hf
              obtain ⟨e, he, rfl⟩ := Option.map_eq_some_iff.1 h
              obtain ⟨e', he', _, hrun⟩ := c4 i rfl
              obtain ⟨hi1, rfl⟩ := List.getElem?_eq_some_iff.1 he
              obtain ⟨hi2, rfl⟩ := Array.getElem?_eq_some_iff.1 he'
              have hv := (hr i hi1 hi2).2
              cases ok with
              | true => exact ⟨.tuple #[arr[i].val, .bool true], by simp [Instr.lookup, run_underlying hu, run_getObj_map hh, c1, hrun], .tup _ _ rfl (fun i p q => by
                  rcases i with _ | _ | i
                  · exact hv
                  · exact .bool _
                  · simp at p; omega)⟩
              | false => exact ⟨arr[i].val, by simp [Instr.lookup, run_underlying hu, run_getObj_map hh, c1, hrun], hv⟩
            · cases h
        · cases h
      · cases h
    · cases h
  · cases h

theorem nil_run {x v : V} {y : Value} {ρ : Operand → Value} {o : Oper} {z : Operand} (ho : o.op = .nilCheck z) (hz : ρ z = y) (h : evNil x = some v) (hx : RepV G x y) :
    (execOp ρ o).run P w = .ok (.value y) w ∧ RepV G v y := by
  unfold evNil at h
  split at h <;> cases h <;> refine ⟨?_, hx⟩ <;> cases hx <;> simp [execOp, ho, hz]

theorem mapM_rep {ρ : Operand → Value} {r : Operand → Option V} (hr : ∀ x v, r x = some v → RepV G v (ρ x)) : ∀ {xs : List Operand} {vs : List V}, xs.mapM r = some vs → RepA G vs (xs.map ρ)
  | [], vs, h => by simp at h; subst h; exact .nil G
  | x :: xs, vs, h => by
    simp only [List.mapM_cons, Option.bind_eq_bind, Option.bind_eq_some_iff, Option.pure_def, Option.some.injEq] at h
    obtain ⟨v, hv, us, hus, rfl⟩ := h
    exact .cons (hr _ _ hv) (mapM_rep hr hus)

theorem max_run {a b v : V} {x y : Value} {at' : Array TypeId} {ty : TypeId} (h : evMax a b = some v) (hx : RepV G a x) (hy : RepV G b y) : ∃ r, (Builtin.max_ at' ty #[x, y]).run P w = .ok r w ∧ RepV G v r := by
  unfold evMax at h
  split at h
  · split at h
    · cases h; cases hx; cases hy
      exact ⟨_, by simp [Builtin.max_, Builtin.max2], .int _ _⟩
    · cases h
  · cases h

theorem min_run {a b v : V} {x y : Value} {at' : Array TypeId} {ty : TypeId} (h : evMin a b = some v) (hx : RepV G a x) (hy : RepV G b y) : ∃ r, (Builtin.min_ at' ty #[x, y]).run P w = .ok r w ∧ RepV G v r := by
  unfold evMin at h
  split at h
  · split at h
    · cases h; cases hx; cases hy
      exact ⟨_, by simp [Builtin.min_, Builtin.min2], .int _ _⟩
    · cases h
  · cases h

theorem evP_run {o : Oper} {r : Operand → Option V} {ρ : Operand → Value} {v : V} (hI : Inv G s w) (hr : ∀ x v, r x = some v → RepV G v (ρ x)) (h : evP P o s r = some v) :
    ∃ u, (execOp ρ o).run P w = .ok (.value u) w ∧ RepV G v u := by
  unfold evP at h
  split at h
  · rename_i x ho; exact ⟨ρ x, by simp [execOp, ho], hr _ _ h⟩
  · rename_i x ho; exact ⟨ρ x, by simp [execOp, ho], hr _ _ h⟩
  · rename_i x ho
    obtain ⟨a, ha, h⟩ := Option.bind_eq_some_iff.1 h
    exact ⟨ρ x, nil_run ho rfl h (hr _ _ ha)⟩
  · rename_i T x ho
    obtain ⟨a, ha, h⟩ := Option.bind_eq_some_iff.1 h
    obtain ⟨cs, hcs, h⟩ := Option.bind_eq_some_iff.1 h
    obtain ⟨b, off, vs, hy, hL, hcell⟩ := cells_at hI (hr _ _ ha) hcs
    obtain ⟨u, hu1, hu2⟩ := whole_run hL hcell h
    exact ⟨u, by simp [execOp, ho, hy, hu1], hu2⟩
  · rename_i op T x y ty ho
    obtain ⟨a, ha, h⟩ := Option.bind_eq_some_iff.1 h
    obtain ⟨b, hb, h⟩ := Option.bind_eq_some_iff.1 h
    obtain ⟨u, hu1, hu2⟩ := evBin_run (G := G) (w := w) (p := x) (q := y) h (hr _ _ ha) (hr _ _ hb)
    refine ⟨u, ?_, hu2⟩
    simp only [execOp, ho, Sem.run_bind] at hu1 ⊢
    rw [hu1]; rfl
  · rename_i op T x ho
    obtain ⟨a, ha, h⟩ := Option.bind_eq_some_iff.1 h
    obtain ⟨u, hu1, hu2⟩ := un_run (P := P) (w := w) h (hr _ _ ha)
    exact ⟨u, by simp [execOp, ho, hu1], hu2⟩
  · rename_i src dst x ho
    obtain ⟨a, ha, h⟩ := Option.bind_eq_some_iff.1 h
    obtain ⟨u, hu1, hu2⟩ := conv_run (w := w) h (hr _ _ ha)
    exact ⟨u, by simp [execOp, ho, hu1], hu2⟩
  · rename_i T x f ho
    obtain ⟨a, ha, h⟩ := Option.bind_eq_some_iff.1 h
    obtain ⟨u, hu1, hu2⟩ := fieldAddr_run (w := w) h (hr _ _ ha)
    exact ⟨u, by simp [execOp, ho, hu1], hu2⟩
  · rename_i T x f ho
    obtain ⟨a, ha, h⟩ := Option.bind_eq_some_iff.1 h
    obtain ⟨u, hu1, hu2⟩ := field_run (w := w) h (hr _ _ ha)
    exact ⟨u, by simp [execOp, ho, hu1], hu2⟩
  · rename_i T x i ho
    obtain ⟨a, ha, h⟩ := Option.bind_eq_some_iff.1 h
    obtain ⟨b, hb, h⟩ := Option.bind_eq_some_iff.1 h
    obtain ⟨u, hu1, hu2⟩ := indexAddr_run hI h (hr _ _ ha) (hr _ _ hb)
    exact ⟨u, by simp [execOp, ho, hu1], hu2⟩
  · rename_i T x i ho
    obtain ⟨a, ha, h⟩ := Option.bind_eq_some_iff.1 h
    obtain ⟨b, hb, h⟩ := Option.bind_eq_some_iff.1 h
    obtain ⟨u, hu1, hu2⟩ := index_run (w := w) h (hr _ _ ha) (hr _ _ hb)
    exact ⟨u, by simp [execOp, ho, hu1], hu2⟩
  · rename_i x i ho
    obtain ⟨a, ha, h⟩ := Option.bind_eq_some_iff.1 h
    obtain ⟨u, hu1, hu2⟩ := extract_run (P := P) (w := w) h (hr _ _ ha)
    exact ⟨u, by simp [execOp, ho, hu1], hu2⟩
  · rename_i args argTypes ho
    split at h
    · rename_i x T hx hT
      obtain ⟨a, ha, h⟩ := Option.bind_eq_some_iff.1 h
      obtain ⟨u, hu1, hu2⟩ := len_run (w := w) (ty := o.type) h (hr _ _ ha)
      have e1 : args = #[x] := by simpa using congrArg List.toArray hx
      have e2 : argTypes = #[T] := by simpa using congrArg List.toArray hT
      exact ⟨u, by simp [execOp, ho, resolve, invoke, builtin, e1, e2, hu1], hu2⟩
    · cases h
  · rename_i args argTypes ho
    split at h
    · rename_i x y hx
      obtain ⟨a, ha, h⟩ := Option.bind_eq_some_iff.1 h
      obtain ⟨b, hb, h⟩ := Option.bind_eq_some_iff.1 h
      have e1 : args = #[x, y] := by simpa using congrArg List.toArray hx
      obtain ⟨u, hu1, hu2⟩ := max_run (P := P) (w := w) (ty := o.type) (at' := argTypes) h (hr _ _ ha) (hr _ _ hb)
      exact ⟨u, by simp [execOp, ho, resolve, invoke, builtin, e1, hu1], hu2⟩
    · cases h
  · rename_i args argTypes ho
    split at h
    · rename_i x y hx
      obtain ⟨a, ha, h⟩ := Option.bind_eq_some_iff.1 h
      obtain ⟨b, hb, h⟩ := Option.bind_eq_some_iff.1 h
      have e1 : args = #[x, y] := by simpa using congrArg List.toArray hx
      obtain ⟨u, hu1, hu2⟩ := min_run (P := P) (w := w) (ty := o.type) (at' := argTypes) h (hr _ _ ha) (hr _ _ hb)
      exact ⟨u, by simp [execOp, ho, resolve, invoke, builtin, e1, hu1], hu2⟩
    · cases h
  · rename_i T x lo hi mx ho
    obtain ⟨a, ha, h⟩ := Option.bind_eq_some_iff.1 h
    obtain ⟨l, hl, h⟩ := Option.bind_eq_some_iff.1 h
    obtain ⟨hh, hhh, h⟩ := Option.bind_eq_some_iff.1 h
    obtain ⟨m, hm, h⟩ := Option.bind_eq_some_iff.1 h
    have aux : ∀ {q : Option Operand} {z : Option V}, (match q with | none => some none | some y => (r y).map some) = some z →
        (z = none ∧ q.map ρ = none) ∨ ∃ a b, z = some a ∧ q.map ρ = some b ∧ RepV G a b := by
      intro q z hq
      cases q with
      | none => simp at hq; exact .inl ⟨hq.symm, rfl⟩
      | some y =>
        simp only [Option.map_eq_some_iff] at hq
        obtain ⟨a, ha, rfl⟩ := hq
        exact .inr ⟨a, _, rfl, rfl, hr _ _ ha⟩
    obtain ⟨u, hu1, hu2⟩ := slice_run (w := w) hI h (hr _ _ ha) (aux hl) (aux hhh) (aux hm)
    exact ⟨u, by simp [execOp, ho, hu1], hu2⟩
  · rename_i T x i ok ho
    obtain ⟨a, ha, h⟩ := Option.bind_eq_some_iff.1 h
    obtain ⟨b, hb, h⟩ := Option.bind_eq_some_iff.1 h
    obtain ⟨u, hu1, hu2⟩ := lookup_run hI h (hr _ _ ha) (hr _ _ hb)
    exact ⟨u, by simp [execOp, ho, hu1], hu2⟩
  · rename_i f first captured ho
    obtain ⟨a, ha, h⟩ := Option.bind_eq_some_iff.1 h
    obtain ⟨b, hb, h⟩ := Option.bind_eq_some_iff.1 h
    cases h
    have h1 := mapM_rep hr ha
    have h2 := mapM_rep hr hb
    refine ⟨.func (.func f) (first.map ρ) (captured.map ρ), by simp [execOp, ho, Instr.makeFunc], .fn f a b _ _ (by simpa using h1.1) (by simpa using h2.1) (fun i p q => ?_) (fun i p q => ?_)⟩
    · have := h1.2 i p (by simpa using q); simpa using this
    · have := h2.2 i p (by simpa using q); simpa using this
  · cases h
end Go.Pg
