/- The program is of the kind that the computing serves. No condition. -/
import Derived.Test.YtfbbnkaahnpicaaQc
namespace Go.Proofs.Try.Kn
open Go Go.Pg
theorem hP : ProgOK Try.prog := ⟨by kernel_rfl, by kernel_rfl⟩
theorem h239 : callH Try.prog exS 9 59 [i 4] 239 = some (HH 239) := by kernel_rfl
theorem h240 : callH Try.prog exS 9 59 [i 4] 240 = some (HH 240) := by kernel_rfl
theorem h241 : callH Try.prog exS 9 59 [i 4] 241 = some (HH 241) := by kernel_rfl
end Go.Proofs.Try.Kn
