/- Readers: a book of which the reach is known, a line, a count. No condition. -/
import Derived.Test.YtfbbnkaahnpicaaYe
import Derived.SizedLaws
namespace Go.Proofs.Try.Op
open Go Go.Pg Go.ChangeShapes Go.WideShapes Go.ChangeAt Go.RowKit
open Go.Proofs.Ytfbbnkaahnpicaa
set_option maxRecDepth 100000
def lenS : Value → Nat
  | .slice _ len _ => len
  | _ => 0
theorem rep_len {G : Gh} {b : Bool} {es : List (List V)} {v : Value} (h : RepV G (.list b es) v) : lenS v = es.length := by
  cases h
  rfl
section
variable {H : Type} {enc : TypeId × Value → H} {W : World} {base : Nat} {sp : Nat → Bool} {held : Bool}
theorem slice_reach {fuel : Nat} {t e : TypeId} (ht : Try.prog.underlying t = some (.slice e)) {cs : List Value} {x : DataW H × List MemPlace} (h : DataW.trod enc Try.prog W base sp held fuel t cs = some x) {B : Nat} (hB : ∀ w ∈ x.1.weights Try.prog t, w ≤ B) : ∃ v, cs = [v] ∧ lenS v * Try.prog.bytesOf e ≤ B := by
  rcases DataW.trod_slice ht h with ⟨rfl, rfl⟩ | ⟨a, len, cap, elems, rest, n, rfl, rfl, rfl, _, _, _, hel, _⟩
  · exact ⟨_, rfl, by simp [lenS]⟩
  · refine ⟨_, rfl, ?_⟩
    have := hB ((elems.length + rest.length) * Try.prog.bytesOf e) (by simp [DataW.weights, ht])
    refine Nat.le_trans ?_ this
    exact Nat.mul_le_mul_right _ (by simp only [lenS]; omega)
theorem read_bookS {fuel : Nat} {cs : List Value} {x : DataW H × List MemPlace} (h : DataW.trod enc Try.prog W base sp held fuel 25 cs = some x) {B : Nat} (hB : ∀ w ∈ x.1.weights Try.prog 25, w ≤ B) :
    ∃ b : Book, okBk b ∧ b.lines.length * 24 ≤ B ∧ b.counts.length * 24 ≤ B ∧ RepL (startG W) (cellsB b) cs := by
  have hl := trod_len Try.underlying25 h
  rw [cells_25] at hl
  obtain ⟨n0, h0, w0⟩ := field_int Try.underlying25 h 0 _ _ _ _ _ _ rfl
  obtain ⟨n1, h1, w1⟩ := field_int Try.underlying25 h 1 _ _ _ _ _ _ rfl
  obtain ⟨n2, h2, w2⟩ := field_int Try.underlying25 h 2 _ _ _ _ _ _ rfl
  obtain ⟨xs, m, rfl, rfl, _, hx, hh⟩ := DataW.trod_struct Try.underlying25 h
  have hx : xs.length = 5 := hx
  have k3 : DataW.trod enc Try.prog W base sp held m 22 ((cs.drop 3).take (Try.prog.cellsOf 22)) = xs[3]? := hh 3 _ rfl
  have k4 : DataW.trod enc Try.prog W base sp held m 23 ((cs.drop 4).take (Try.prog.cellsOf 23)) = xs[4]? := hh 4 _ rfl
  rw [cells_22, List.getElem?_eq_getElem (by omega)] at k3
  rw [cells_23, List.getElem?_eq_getElem (by omega)] at k4
  simp only [DataW.weights, Try.underlying25] at hB
  obtain ⟨u3, g3, z3⟩ := slice_reach (B := B) Try.underlying22 k3 fun w hw => hB w (DataW.weights_mem_each (j := 3) (t := 22) (d := xs[3].1) rfl (by simp [hx]) w hw)
  obtain ⟨u4, g4, z4⟩ := slice_reach (B := B) Try.underlying23 k4 fun w hw => hB w (DataW.weights_mem_each (j := 4) (t := 23) (d := xs[4].1) rfl (by simp [hx]) w hw)
  obtain ⟨ls, v3, e3, o3, r3⟩ := read_lines k3
  obtain ⟨ks, v4, e4, o4, r4⟩ := read_counts k4
  have q3 : u3 = v3 := by rw [g3] at e3; exact (List.cons.inj e3).1
  have q4 : u4 = v4 := by rw [g4] at e4; exact (List.cons.inj e4).1
  subst q3 q4
  rw [rep_len r3, bytes_75] at z3
  rw [rep_len r4, bytes_78] at z4
  rw [row5 hl h0 h1 h2 e3 e4]
  refine ⟨⟨n0, n1, n2, ls, ks⟩, ⟨okI_of_wf w0, okI_of_wf w1, okI_of_wf w2, o3, o4⟩, by simpa using z3, by simpa using z4, ?_⟩
  exact RepL.cons rfl (.int _ _) (RepL.cons rfl (.int _ _) (RepL.cons rfl (.int _ _) (RepL.cons rfl r3 (RepL.cons rfl r4 ⟨rfl, fun i h1 => by simp at h1⟩))))
set_option maxRecDepth 100000 in
theorem arg_bookS {r : Reach} {b0 : Nat} {v : Value} {d : DataW H} {ps : List MemPlace} (hval : Value.okWide Try.prog W r b0 25 v) (h : DataW.Trod enc Try.prog W base sp held 25 v d ps) {B : Nat} (hB : ∀ w ∈ d.weights Try.prog 25, w ≤ B) :
    ∃ b : Book, okBk b ∧ b.lines.length * 24 ≤ B ∧ b.counts.length * 24 ≤ B ∧ RepV (startG W) (.agg (cellsB b)) v := by
  obtain ⟨fuel, hf⟩ := h
  obtain ⟨b, hb, hz1, hz2, hr⟩ := read_bookS hf hB
  obtain ⟨cs, rfl, _⟩ := WideShapes.okWide_struct Try.underlying25 hval
  exact ⟨b, hb, hz1, hz2, hr.toAgg⟩
theorem repL3 {l : Int × Int × Int} : RepL (startG W) (enc3 l) (val3 l) := RepL.cons rfl (.int _ _) (RepL.cons rfl (.int _ _) (RepL.cons rfl (.int _ _) ⟨rfl, fun i h1 => by simp at h1⟩))
set_option maxRecDepth 100000 in
theorem arg_line {r : Reach} {b0 : Nat} {v : Value} {d : DataW H} {ps : List MemPlace} (hval : Value.okWide Try.prog W r b0 75 v) (h : DataW.Trod enc Try.prog W base sp held 75 v d ps) :
    ∃ x : Line, okL x ∧ RepV (startG W) (.agg (encL x)) v := by
  obtain ⟨fuel, hf⟩ := h
  obtain ⟨cs, rfl, _⟩ := WideShapes.okWide_struct Try.underlying75 hval
  obtain ⟨l, ⟨w1, w2, w3⟩, e⟩ := three75.r hf
  have hr : RepL (startG W) (enc3 l) cs.toList := by
    have e : cs.toList = val3 l := e
    rw [e]
    exact repL3
  exact ⟨⟨l.1, l.2.1, l.2.2⟩, ⟨okI_of_wf w1, okI_of_wf w2, okI_of_wf w3⟩, hr.toAgg⟩
set_option maxRecDepth 100000 in
theorem arg_count {r : Reach} {b0 : Nat} {v : Value} {d : DataW H} {ps : List MemPlace} (hval : Value.okWide Try.prog W r b0 78 v) (h : DataW.Trod enc Try.prog W base sp held 78 v d ps) :
    ∃ x : Count, RepV (startG W) (.agg (encC x)) v := by
  obtain ⟨fuel, hf⟩ := h
  obtain ⟨cs, rfl, _⟩ := WideShapes.okWide_struct Try.underlying78 hval
  obtain ⟨l, _, e⟩ := three78.r hf
  have hr : RepL (startG W) (enc3 l) cs.toList := by
    have e : cs.toList = val3 l := e
    rw [e]
    exact repL3
  exact ⟨⟨l.1, l.2.1, l.2.2⟩, hr.toAgg⟩
theorem read75 : Try.prog.readableRec 75 = true := by kernel_rfl
theorem in75 : 75 < Try.prog.types.size := of_decide_eq_true (by kernel_rfl)
theorem read78 : Try.prog.readableRec 78 = true := by kernel_rfl
theorem in78 : 78 < Try.prog.types.size := of_decide_eq_true (by kernel_rfl)
theorem trodAll_five {P : Program} {t t' t'' t3 t4 : TypeId} {args : Array Value} {ds : List (DataW H)} {ps : List MemPlace} (h : DataW.TrodAll enc P W base sp held [t, t', t'', t3, t4] args.toList ds ps) :
    ∃ v v' v'' v3 v4 d d' d'' d3 d4 p p' p'' p3 p4, args = #[v, v', v'', v3, v4] ∧ ds = [d, d', d'', d3, d4] ∧ ps = p ++ p' ++ p'' ++ p3 ++ p4 ∧ DataW.Trod enc P W base sp held t v d p ∧ DataW.Trod enc P W base sp held t' v' d' p' ∧ DataW.Trod enc P W base sp held t'' v'' d'' p'' ∧ DataW.Trod enc P W base sp held t3 v3 d3 p3 ∧ DataW.Trod enc P W base sp held t4 v4 d4 p4 := by
  obtain ⟨v, vs, d, ds', p, q, hargs, rfl, rfl, hd, hrest⟩ := trodAll_cons h
  obtain ⟨v', vs', d', ds'', p', q', rfl, rfl, rfl, hd', hrest'⟩ := trodAll_cons hrest
  obtain ⟨v'', vs'', d'', ds''', p'', q'', rfl, rfl, rfl, hd'', hrest''⟩ := trodAll_cons hrest'
  obtain ⟨v3, vs3, d3, ds3, p3, q3, rfl, rfl, rfl, hd3, hrest3⟩ := trodAll_cons hrest''
  obtain ⟨v4, vs4, d4, ds4, p4, q4, rfl, rfl, rfl, hd4, hrest4⟩ := trodAll_cons hrest3
  obtain ⟨rfl, rfl, rfl⟩ := trodAll_nil hrest4
  exact ⟨v, v', v'', v3, v4, d, d', d'', d3, d4, p, p', p'', p3, p4, by cases args; simp_all, rfl, by simp, hd, hd', hd'', hd3, hd4⟩
theorem trodAll_mk5 {P : Program} {t t' t'' t3 t4 : TypeId} {v v' v'' v3 v4 : Value} {d d' d'' d3 d4 : DataW H} {p p' p'' p3 p4 : List MemPlace} (h : DataW.Trod enc P W base sp held t v d p) (h' : DataW.Trod enc P W base sp held t' v' d' p')
    (h'' : DataW.Trod enc P W base sp held t'' v'' d'' p'') (h3 : DataW.Trod enc P W base sp held t3 v3 d3 p3) (h4 : DataW.Trod enc P W base sp held t4 v4 d4 p4) : DataW.TrodAll enc P W base sp held [t, t', t'', t3, t4] [v, v', v'', v3, v4] [d, d', d'', d3, d4] (p ++ (p' ++ (p'' ++ (p3 ++ p4)))) := ⟨p, p' ++ (p'' ++ (p3 ++ p4)), h, trodAll_mk4 h' h'' h3 h4, rfl⟩
end
end Go.Proofs.Try.Op
