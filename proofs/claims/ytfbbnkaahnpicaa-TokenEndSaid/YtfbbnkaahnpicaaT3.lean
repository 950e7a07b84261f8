/- The walk of TokenMoney: true. No condition. -/
import Derived.Test.YtfbbnkaahnpicaaT2
import Derived.Test.YtfbbnkaahnpicaaFz
import Derived.Test.YtfbbnkaahnpicaaY1
open Go Go.Pg Go.Proofs
namespace Go.Proofs.Try.Op
set_option maxRecDepth 100000
set_option linter.unusedSimpArgs false
@[simp] theorem conv_3_70 (k : IntKind) (n : Int) : evConv Try.prog 3 70 (.int k n) = some (.int .u64 (IntKind.u64.wrap n)) := by
  unfold evConv
  rw [Try.underlying3, Try.underlying70]
@[simp] theorem conv_5_3 (k : IntKind) (n : Int) : evConv Try.prog 5 3 (.int k n) = some (.int .i64 (IntKind.i64.wrap n)) := by
  unfold evConv
  rw [Try.underlying5, Try.underlying3]
@[simp] theorem conv_73_3 (k : IntKind) (n : Int) : evConv Try.prog 73 3 (.int k n) = some (.int .i64 (IntKind.i64.wrap n)) := by
  unfold evConv
  rw [Try.underlying73, Try.underlying3]
theorem w64_0 : IntKind.u64.wrap 0 = 0 := by decide
theorem w64_1 : IntKind.u64.wrap 1 = 1 := by decide
theorem w64_2 : IntKind.u64.wrap 2 = 2 := by decide
theorem w64_3 : IntKind.u64.wrap 3 = 3 := by decide
attribute [simp] w64_0 w64_1 w64_2 w64_3
def rdy (b : Book) : Bool := thinB b && decide (faultB b = 0)
theorem k42 (n : Nat) (b : Book) : callK Try.prog kn (execA Try.prog ann kn (n+600)) 42 [.agg (cellsB b)] = some (.bool (rdy b)) := by
  rw [callK_of rfl, call0_eq Try.func42 b42 rfl (by simp [cellsB, encL, encC])]
  have q19 := fun n => k19 n b
  have q67 := fun n => k67 n b
  unfold rdy
  generalize hT : thinB b = t at q19
  generalize hF : decide (faultB b = 0) = f
  generalize faultB b = A at q67 hF
  simp only [cellsB] at q19 q67 ⊢
  cases t
  · simp [c42, argFr, q19, q67, encL, encC]
  · simp [c42, argFr, q19, q67, encL, encC, hF]
def orI (a b : Int) : Int := IntKind.i64.wrap ((BitVec.ofInt 64 a ||| BitVec.ofInt 64 b).toNat : Int)
def met4 (e0 e1 e2 e3 : Bool) (m : Int) : Int :=
  let m := if e0 = true then orI m 1 else m
  let m := if e1 = true then orI m 2 else m
  let m := if e2 = true then orI m 4 else m
  if e3 = true then orI m 8 else m
end Go.Proofs.Try.Op
