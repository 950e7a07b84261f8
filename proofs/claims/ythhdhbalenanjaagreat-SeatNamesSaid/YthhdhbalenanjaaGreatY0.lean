/- The program keeps to the walk's form; the wakefulness probe comes to true. No condition. -/
import Derived.Test.YthhdhbalenanjaaGreatGa
import Derived.Test.YthhdhbalenanjaaGreatK1
namespace Go.Proofs.Tryz.Kn
open Go Go.Pg
def tabA : Known := [
  (20, [SC [dogs, sunny 1], seats, lw [3, 0]], .tup [lw [1, 1], i 0]),
  (30, [SC [dogs, sunny 1], seats], .tup [.list false [[i 0, i 1], [i 1, i 2]], i 0]),
  (31, [SC [dogs, sunny 2], seats], .tup [lw [1, 3], i 0]),
  (33, [SC [dogs, sunny 1]], .tup [seats, i 1, i 1, i 0]),
  (34, [SC [dogs, sunny 1], seats, i 1, i 1], .bool true),
  (41, [SC [dogs, shy, sunny 1]], .tup [lw [0], i 0]),
  (42, [SC [dogs, shy, sunny 1]], .tup [lw [0, 1], i 0]),
  (46, [SC [fam 2 0 false false]], .tup [.agg [i 0, i 1], i 2, i 0])]
set_option maxRecDepth 100000 in
theorem awake : call0 Tryz.prog (execA Tryz.prog annC (knX tabA) 300) 19 [] = some (.bool true) := by kernel_rfl
theorem tabA_ok : KnOK Tryz.prog tabA :=
  knA hP tabB_ok (knA hP tabB_ok (knA hP tabB_ok (knA hP tabB_ok (knA hP tabB_ok (knA hP tabB_ok (knA hP tabB_ok (knA hP tabB_ok knOK_nil kSRa) kSQa) kSLa) kSVa) kSEa) kSCa) kSBa) kSPa
theorem hkn : CallX0 Tryz.prog Op.kn := knA hP tabA_ok knOK_nil awake
end Go.Proofs.Tryz.Kn
