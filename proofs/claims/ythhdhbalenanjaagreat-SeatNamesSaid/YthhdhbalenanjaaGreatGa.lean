/- The seat's ground for open walks: what is kept ahead of each region. No condition. -/
import Derived.Test.YthhdhbalenanjaaGreatChecked
import Derived.Test.YthhdhbalenanjaaGreatGt
namespace Go.Proofs.Tryz.Op
open Go Go.Pg
def assoc {α : Type} : List (Nat × α) → Nat → Option α
  | [], _ => none
  | (k, x) :: r, i => cond (Nat.beq k i) (some x) (assoc r i)
noncomputable def annT : List (Nat × List (Nat × List Nat × List Nat)) := []
def pth : Nat → Nat → List Nat
  | 0, _ => []
  | f + 1, n => cond (Nat.ble n 1) [] (n % 2 :: pth f (n / 2))
noncomputable def rg (f : Func) (n : Nat) : Code := codeAt (bodyOf f) (pth 200 n)
noncomputable def ann : Ann := fun N i => match assoc annT N with
  | some l => assoc l i
  | none => none
noncomputable def kn : CF0 := knX [(19, [], .bool true)]
attribute [simp] wrap_i64 ca2_closed
@[simp] theorem hr0 : handR Tryz.prog 0 = false := by kernel_rfl
@[simp] theorem hr1 : handR Tryz.prog 1 = false := by kernel_rfl
abbrev tq (n : Tmp) : Operand := .tmp n
abbrev ci (n : Int) : Operand := .const (.int .i64 n)
abbrev cb (b : Bool) : Operand := .const (.bool b)
abbrev oq (d : Tmp) (k : IK) : IOp := ⟨none, some d, k⟩
abbrev os (k : IK) : IOp := ⟨none, none, k⟩
abbrev og (g : Tmp) (b : Bool) (d : Tmp) (k : IK) : IOp := ⟨some (g, b), some d, k⟩
abbrev ox (g : Tmp) (b : Bool) (k : IK) : IOp := ⟨some (g, b), none, k⟩
abbrev RX (N : Nat) (r : Code) (i : IR) (a : Tr) : Prop := ∀ (n : Nat) (st : XS), execA Tryz.prog ann kn (n + 1) N r st = toN (runR Tryz.prog (envA Tryz.prog ann kn n) i (trimO a st))
end Go.Proofs.Tryz.Op
