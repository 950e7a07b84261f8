/- Reading a list of rows of three ints out of the start's heap: what is read is what the open walk is handed. No program in sight. -/
import Derived.Test.YtfbbnkaahnpicaaQb
import Derived.Carry
import Derived.Test.YtfbbnkaahnpicaaW
import Derived.WalkKit
import Derived.ProofKit
import Derived.OpenShut
namespace Go.Pg
open Go.RowKit

theorem pick {α : Type} {n : Nat} {p : Nat → α → Prop} (h : ∀ i, i < n → ∃ x, p i x) : ∃ L : List α, L.length = n ∧ ∀ i (hi : i < L.length), p i L[i] := by
  induction n with
  | zero => exact ⟨[], rfl, fun i hi => by simp at hi⟩
  | succ n ih =>
    obtain ⟨L, hl, hL⟩ := ih fun i hi => h i (by omega)
    obtain ⟨x, hx⟩ := h n (by omega)
    refine ⟨L ++ [x], by simp [hl], fun i hi => ?_⟩
    by_cases he : i < L.length
    · rw [List.getElem_append_left he]; exact hL i he
    · have : i = n := by simp at hi; omega
      subst this
      simp [← hl] at hx ⊢
      exact hx

/-- an int of a field, as a reader may meet it -/
def okI3 (l : Int × Int × Int) : Prop := (Lit.int .i64 l.1).wf = true ∧ (Lit.int .i64 l.2.1).wf = true ∧ (Lit.int .i64 l.2.2).wf = true
def enc3 (l : Int × Int × Int) : List V := [.int .i64 l.1, .int .i64 l.2.1, .int .i64 l.2.2]
def val3 (l : Int × Int × Int) : List Value := [.int .i64 l.1, .int .i64 l.2.1, .int .i64 l.2.2]

section
variable {H : Type} {enc : TypeId × Value → H} {P : Program} {W : World} {base : Nat} {sp : Nat → Bool} {held : Bool} {fuel : Nat}

/-- a type of three ints, laid in a row -/
structure Three (enc : TypeId × Value → H) (P : Program) (W : World) (base : Nat) (sp : Nat → Bool) (held : Bool) (e : TypeId) : Prop where
  c : P.cellsOf e = 3
  r : ∀ {fuel : Nat} {cs : List Value} {x : DataW H × List MemPlace}, DataW.trod enc P W base sp held fuel e cs = some x → ∃ l, okI3 l ∧ cs = val3 l

end
end Go.Pg
/- What a reader of the row's data finds: a book, a truth. No condition. -/
namespace Go.Proofs.Try.Op
open Go Go.Pg Go.RowKit
section
variable {H : Type} {enc : TypeId × Value → H} {W : World} {base : Nat} {sp : Nat → Bool} {held : Bool} {fuel : Nat}

/-- the numbers of a book that came from memory -/
structure okBk (b : Book) : Prop where
  ch : okI b.chairs
  co : okI b.coin
  bx : okI b.box
  ls : ∀ t ∈ b.lines, okL t
  cs : ∀ t ∈ b.counts, okI t.a ∧ okI t.lo ∧ okI t.hi

end
end Go.Proofs.Try.Op
