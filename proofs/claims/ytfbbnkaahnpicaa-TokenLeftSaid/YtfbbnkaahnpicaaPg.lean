/- That the model follows 'stepP': variables, stores, slices that are built or grow. No program in sight. -/
import Derived.Test.YtfbbnkaahnpicaaPf
namespace Go.Pg
variable {P : Program} {G : Gh} {s : St} {w : World}

theorem cells_rep {x : V} {v : Value} (hf : flatOk x = true) (h : RepV G x v) : RepL G (cellsV x) v.cells.toList := by
  cases x with
  | agg cs => obtain ⟨arr, rfl, hL⟩ := RepL.ofAgg h; exact hL
  | tup vs => cases hf
  | _ =>
    have hc : RepL G [_] [v] := RepL.cons rfl h (.nil G)
    have : v.cells = #[v] := by
      have h1 := h.cell rfl
      cases v <;> first | rfl | cases h1
    rw [this]; exact hc

theorem constV_cell {v : Value} {x : V} (h : constV v = some x) : x.isCell = true := by
  unfold constV at h
  split at h <;> first | (cases h; rfl) | cases h

theorem constL_rep : ∀ {vs : List Value} {xs : List V}, constL vs = some xs → RepL G xs vs
  | [], xs, h => by simp [constL] at h; subst h; exact .nil G
  | v :: vs, xs, h => by
    unfold constL at h
    split at h
    · rename_i x l hx hl
      cases h
      exact .cons (constV_cell hx) (constV_rep hx) (constL_rep hl)
    · cases h

theorem zeroC_run {T : TypeId} {cs : List V} (h : zeroC P T = some cs) : ∃ z, (zeroValue T).run P w = .ok z w ∧ RepL G cs z.cells.toList ∧ ∃ i, P.info? T = some i ∧ i.zero = some z := by
  unfold zeroC at h
  split at h
  · rename_i z hz
    unfold zeroV at hz
    obtain ⟨i, hi, hz⟩ := Option.bind_eq_some_iff.1 hz
    exact ⟨z, by simp [zeroValue, typeInfo, hi, hz], constL_rep h, i, hi, hz⟩
  · cases h

theorem splice_rep {cs ds : List V} {vs us : List Value} (h : RepL G cs vs) (h' : RepL G ds us) (off : Nat) : RepL G (spliceL cs off ds) (spliceL vs off us) := by
  unfold spliceL
  rw [h'.1]
  exact ((h.take off).append h').append (h.drop _)

theorem splice_length {α : Type} {cs ds : List α} {off : Nat} (h : off + ds.length ≤ cs.length) : (spliceL cs off ds).length = cs.length := by
  simp [spliceL]; omega

theorem store_run {T : TypeId} {b off : Nat} {arr : Array Value} {T' : TypeId} {v : Value} {us : List Value} (hg : w.heap[b]? = some (.cells arr T' (0, 0))) (hu : v.cells.toList = us) (h1 : ∀ u ∈ us, u.oneCell' = true)
    (hs : us.length = P.cellsOf T) (hp : 0 < P.cellsOf T) (hl : off + us.length ≤ arr.size) :
    (Instr.storeAt T (.pointer (some ⟨b, off, none⟩)) v).run P w = .ok () (w.setRow b (spliceL arr.toList off us).toArray) := by
  have hst := run_storeCells_at P b off T' us 0 arr w hg (by omega) h1
  have hz : v.cells.size = P.cellsOf T := by rw [← hs, ← hu]; simp
  simp only [Nat.add_zero] at hst
  simp [Instr.storeAt, Instr.sureAddr, storeVar, sizeOf_pos (P := P) (w := w) hp, hz, hu, hst, spliceL]

theorem Inv.storeBox (hI : Inv G s w) {l q g off : Nat} {cs : List V} {T : TypeId} {y : V} {a v : Value} (hget : s.get l q = some (g, .box cs)) (ha : RepV G (.ptr l q g off) a) (hy : RepV G y v) (hf : flatOk y = true)
    (hp : 0 < P.cellsOf T) (hs : (cellsV y).length = P.cellsOf T) (hl : off + P.cellsOf T ≤ cs.length) :
    ∃ w', (Instr.storeAt T a v).run P w = .ok () w' ∧ Inv G (s.put l q g (.box (spliceL cs off (cellsV y)))) w' := by
  have hb0 := hI.res _ _ _ _ hget
  obtain ⟨b, arr, T', hb, hh, hr⟩ := hb0
  cases ha with
  | ptr _ _ _ _ b' sz C hb' =>
    rw [hb] at hb'
    simp only [Option.some.injEq, Prod.mk.injEq] at hb'
    obtain ⟨rfl, rfl, rfl⟩ := hb'
    have hL := cells_rep hf hy
    have hlen : v.cells.toList.length = P.cellsOf T := by rw [← hL.1, hs]
    have hal : arr.toList.length = cs.length := hr.1.symm
    have hrun := store_run (P := P) (w := w) (T := T) (off := off) hh rfl hL.one hlen hp (by rw [hlen]; simpa [← hal] using hl)
    have hown : owns G g (.box cs) = some b := by simp [owns, hb]
    have hsp : (spliceL cs off (cellsV y)).length = cs.length := splice_length (by rw [hs]; exact hl)
    refine ⟨_, hrun, hI.write hget hown (by simp [owns, hb]) _ ⟨b, _, T', ?_, setRow_heap w b arr _ T' _ hh, by simpa using splice_rep hr hL off⟩ ⟨_, _, hh⟩⟩
    rw [hsp]; exact hb

theorem flatten_set {es : List (List V)} {i : Nat} {e : List V} {sz : Nat} (hl : ∀ e ∈ es, e.length = sz) (he : e.length = sz) (hi : i < es.length) : (es.set i e).flatten = spliceL es.flatten (i * sz) e := by
  induction es generalizing i with
  | nil => simp at hi
  | cons e0 es ih =>
    have h0 : e0.length = sz := hl e0 (by simp)
    have hl' : ∀ e ∈ es, e.length = sz := fun e he => hl e (by simp [he])
    cases i with
    | zero => simp [spliceL, he, ← h0]
    | succ i =>
      simp only [List.set_cons_succ, List.flatten_cons]
      rw [ih hl' (by simpa using hi)]
      unfold spliceL
      rw [show (i + 1) * sz = e0.length + i * sz by rw [h0, Nat.add_mul]; omega]
      simp only [List.take_append, List.drop_append, Nat.add_assoc, List.append_assoc]
      rw [List.take_of_length_le (l := e0) (by omega), List.drop_eq_nil_of_le (as := e0) (by omega)]
      simp

theorem splice_app {α : Type} (A B C ds : List α) {n : Nat} (hn : A.length = n) (h : B.length = ds.length) : spliceL (A ++ (B ++ C)) n ds = A ++ (ds ++ C) := by
  subst hn
  simp [spliceL, ← h]

theorem splice_nest {α : Type} {L us : List α} {n m sz off : Nat} (hn : n ≤ L.length) (hm : m + sz ≤ n) (hu : off + us.length ≤ sz) :
    spliceL (L.take n) m (spliceL (((L.take n).drop m).take sz) off us) = (spliceL L (m + off) us).take n := by
  obtain ⟨A, L1, rfl, hA⟩ : ∃ A L1, L = A ++ L1 ∧ A.length = m := ⟨L.take m, L.drop m, (List.take_append_drop m L).symm, by simp; omega⟩
  subst hA
  obtain ⟨B1, L2, rfl, hB1⟩ : ∃ A L2, L1 = A ++ L2 ∧ A.length = off := ⟨L1.take off, L1.drop off, (List.take_append_drop _ _).symm, by simp at hn ⊢; omega⟩
  subst hB1
  obtain ⟨B2, L3, rfl, hB2⟩ : ∃ A L3, L2 = A ++ L3 ∧ A.length = us.length := ⟨L2.take us.length, L2.drop us.length, (List.take_append_drop _ _).symm, by simp at hn ⊢; omega⟩
  obtain ⟨B3, L4, rfl, hB3⟩ : ∃ A L4, L3 = A ++ L4 ∧ A.length = sz - (B1.length + us.length) := ⟨L3.take (sz - (B1.length + us.length)), L3.drop (sz - (B1.length + us.length)), (List.take_append_drop _ _).symm, by simp at hn ⊢; omega⟩
  obtain ⟨C1, C2, rfl, hC1⟩ : ∃ X Y, L4 = X ++ Y ∧ X.length = n - (A.length + sz) := by
    have hn' := hn
    simp at hn'
    exact ⟨L4.take (n - (A.length + sz)), L4.drop (n - (A.length + sz)), (List.take_append_drop _ _).symm, by simp; omega⟩
  have e1 : (A ++ (B1 ++ (B2 ++ (B3 ++ (C1 ++ C2))))).take n = A ++ (B1 ++ (B2 ++ (B3 ++ C1))) := by
    have : A ++ (B1 ++ (B2 ++ (B3 ++ (C1 ++ C2)))) = (A ++ (B1 ++ (B2 ++ (B3 ++ C1)))) ++ C2 := by simp
    rw [this]
    exact List.take_left' (by simp; omega)
  have e2 : ((A ++ (B1 ++ (B2 ++ (B3 ++ C1)))).drop A.length).take sz = B1 ++ (B2 ++ B3) := by
    rw [List.drop_left]
    have : B1 ++ (B2 ++ (B3 ++ C1)) = (B1 ++ (B2 ++ B3)) ++ C1 := by simp
    rw [this]
    exact List.take_left' (by simp; omega)
  rw [e1, e2, splice_app B1 B2 B3 us rfl hB2]
  have e3 : A ++ (B1 ++ (B2 ++ (B3 ++ C1))) = A ++ ((B1 ++ (B2 ++ B3)) ++ C1) := by simp
  rw [e3, splice_app A (B1 ++ (B2 ++ B3)) C1 _ rfl (by simp [hB2])]
  have e4 : A ++ (B1 ++ (B2 ++ (B3 ++ (C1 ++ C2)))) = (A ++ B1) ++ (B2 ++ (B3 ++ (C1 ++ C2))) := by simp
  rw [e4, splice_app (A ++ B1) B2 _ us (by simp) hB2]
  have e5 : (A ++ B1) ++ (us ++ (B3 ++ (C1 ++ C2))) = (A ++ ((B1 ++ (us ++ B3)) ++ C1)) ++ C2 := by simp
  rw [e5]
  exact (List.take_left' (by simp; omega)).symm

theorem Inv.storeVec (hI : Inv G s w) {l q g i off : Nat} {es : List (List V)} {T U : TypeId} {y : V} {a v : Value} (hget : s.get l q = some (g, .vec U es)) (ha : RepV G (.eptr l q g i off) a) (hy : RepV G y v) (hf : flatOk y = true)
    (hp : 0 < P.cellsOf T) (hs : (cellsV y).length = P.cellsOf T) (hi : i < es.length) (hl : off + P.cellsOf T ≤ (es.getD i []).length) :
    ∃ w', (Instr.storeAt T a v).run P w = .ok () w' ∧ Inv G (s.put l q g (.vec U (es.set i (spliceL (es.getD i []) off (cellsV y))))) w' := by
  have hb0 := hI.res _ _ _ _ hget
  obtain ⟨b, sz, C, hb, hC, hlen, hmax, hrow⟩ := hb0
  obtain ⟨arr, hh, hsz, hr⟩ := hrow (by omega)
  have hgetD : es.getD i [] = es[i] := by simp [List.getD, hi]
  rw [hgetD] at hl ⊢
  have hes : es[i].length = sz := hlen _ (List.getElem_mem hi)
  cases ha with
  | eptr _ _ _ _ _ b' sz' C' hb' =>
    rw [hb] at hb'
    simp only [Option.some.injEq, Prod.mk.injEq] at hb'
    obtain ⟨rfl, rfl, rfl⟩ := hb'
    have hL := cells_rep hf hy
    have hvl : v.cells.toList.length = P.cellsOf T := by rw [← hL.1, hs]
    have hfl : i * sz + sz ≤ es.length * sz := by
      have : (i + 1) * sz ≤ es.length * sz := Nat.mul_le_mul_right _ hi
      rw [Nat.add_mul] at this; omega
    have hcap : es.length * sz ≤ arr.size := by rw [hsz]; exact Nat.mul_le_mul_right _ hC
    have hrun := store_run (P := P) (w := w) (T := T) (off := i * sz + off) hh rfl hL.one hvl hp (by rw [hvl]; omega)
    have hown : owns G g (.vec U es) = some b := by simp [owns, hb]; omega
    have hesz : (spliceL es[i] off (cellsV y)).length = sz := by rw [splice_length (by rw [hs]; exact hl), hes]
    refine ⟨_, hrun, hI.write hget hown (by simp [owns, hb]; omega) _ ⟨b, sz, C, hb, by simpa using hC, fun e he => ?_, ⟨hmax.1, fun h => by simp at h; subst h; simp at hi⟩, fun _ => ⟨_, setRow_heap w b arr _ U _ hh, ?_, ?_⟩⟩ ⟨_, _, hh⟩⟩
    · rcases List.mem_or_eq_of_mem_set he with h | h
      · exact hlen e h
      · rw [h]; exact hesz
    · rw [List.size_toArray, splice_length (by rw [hvl]; simp; omega)]; simpa using hsz
    · rw [flatten_set hlen hesz hi, List.length_set]
      have hfull : RepL G es.flatten (arr.toList.take (es.length * sz)) := hr
      have hE : RepL G es[i] ((arr.toList.take (es.length * sz)).drop (i * sz) |>.take sz) := flat_take hlen hr (List.getElem?_eq_getElem hi)
      have hA := splice_rep hE hL off
      have hB := splice_rep hfull hA (i * sz)
      have e1 : spliceL (arr.toList.take (es.length * sz)) (i * sz) (spliceL (((arr.toList.take (es.length * sz)).drop (i * sz)).take sz) off v.cells.toList) = ((spliceL arr.toList (i * sz + off) v.cells.toList).toArray.toList).take (es.length * sz) := by
        exact splice_nest (by simpa using hcap) hfl (by rw [hvl]; omega)
      rw [← e1]; exact hB
end Go.Pg
