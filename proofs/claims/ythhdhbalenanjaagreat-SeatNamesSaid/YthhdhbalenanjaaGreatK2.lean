/- The bounds of the closed examples of Seat, by computing. No condition. -/
import Derived.Test.YthhdhbalenanjaaGreatQc
namespace Go.Proofs.Tryz.Kn
open Go Go.Pg
set_option maxRecDepth 100000
theorem kb0 : call0 Tryz.prog ex0 117 [BX [[i 0, i 0]], turn] = some (.tup [.list false [[.list false [[i 2, i 0, i 0, i 0, i 0], [i 2, i 1, i 2, i 1, i 2], [i 2, i 0, i 0, i 0, i 0]]], [.list false [[i 2, i 0, i 1, i 0, i 1], [i 2, i 0, i 0, i 0, i 0], [i 2, i 0, i 0, i 0, i 0]]]], i 0]) := by kernel_rfl
theorem kb1 : call0 Tryz.prog ex0 117 [BX [[i 0, i 0], [i 0, i 0]], turn] = some (.tup [.list false [[.list false [[i 2, i 0, i 0, i 0, i 0], [i 2, i 1, i 2, i 1, i 2], [i 2, i 0, i 0, i 0, i 0]]], [.list false [[i 2, i 0, i 1, i 0, i 1], [i 2, i 0, i 0, i 0, i 0], [i 2, i 0, i 0, i 0, i 0]]]], i 0]) := by kernel_rfl
theorem kb2 : call0 Tryz.prog ex0 117 [BX [[i 0, i 0], [i 0, i 1]], turn] = some (.tup [.list false [[.list false [[i 2, i 0, i 0, i 0, i 0], [i 2, i 1, i 2, i 1, i 2], [i 2, i 1, i 2, i 1, i 2]]], [.list false [[i 2, i 0, i 1, i 0, i 1], [i 2, i 0, i 1, i 0, i 1], [i 2, i 0, i 0, i 0, i 0]]]], i 0]) := by kernel_rfl
theorem kb3 : call0 Tryz.prog ex0 117 [BX [[i 0, i 0], [i 0, i 2]], turn] = some (.tup [.list false [[.list false [[i 2, i 0, i 0, i 0, i 0], [i 2, i 1, i 2, i 1, i 2], [i 2, i 0, i 0, i 0, i 0]]], [.list false [[i 2, i 0, i 1, i 0, i 1], [i 2, i 0, i 0, i 0, i 0], [i 2, i 0, i 1, i 0, i 1]]]], i 0]) := by kernel_rfl
theorem kb4 : call0 Tryz.prog ex0 117 [BX [[i 0, i 0], [i 1, i 0]], turn] = some (.tup [.list false [[.list false [[i 2, i 0, i 0, i 0, i 0], [i 2, i 1, i 2, i 1, i 2], [i 2, i 0, i 0, i 0, i 0]]], [.list false [[i 2, i 0, i 1, i 0, i 1], [i 2, i 1, i 2, i 1, i 2], [i 2, i 0, i 0, i 0, i 0]]]], i 0]) := by kernel_rfl
theorem kb5 : call0 Tryz.prog ex0 117 [BX [[i 0, i 0], [i 1, i 1]], turn] = some (.tup [.list false [[.list false [[i 2, i 0, i 0, i 0, i 0], [i 2, i 1, i 2, i 1, i 2], [i 2, i 0, i 0, i 0, i 0]]], [.list false [[i 2, i 0, i 1, i 0, i 1], [i 2, i 0, i 0, i 0, i 0], [i 2, i 1, i 2, i 1, i 2]]]], i 0]) := by kernel_rfl
theorem kb6 : call0 Tryz.prog ex0 117 [BX [[i 0, i 0], [i 1, i 2]], turn] = some (.tup [.list false [[.list false [[i 2, i 0, i 0, i 0, i 0], [i 2, i 1, i 2, i 1, i 2], [i 2, i 0, i 0, i 0, i 0]]], [.list false [[i 2, i 0, i 1, i 0, i 1], [i 2, i 0, i 0, i 0, i 0], [i 2, i 0, i 0, i 0, i 0]]]], i 0]) := by kernel_rfl
end Go.Proofs.Tryz.Kn
/- The table of these. No condition. -/
namespace Go.Proofs.Tryz.Kn
open Go Go.Pg
def tabB : Known := [
  (117, [BX [[i 0, i 0]], turn], .tup [.list false [[.list false [[i 2, i 0, i 0, i 0, i 0], [i 2, i 1, i 2, i 1, i 2], [i 2, i 0, i 0, i 0, i 0]]], [.list false [[i 2, i 0, i 1, i 0, i 1], [i 2, i 0, i 0, i 0, i 0], [i 2, i 0, i 0, i 0, i 0]]]], i 0]),
  (117, [BX [[i 0, i 0], [i 0, i 0]], turn], .tup [.list false [[.list false [[i 2, i 0, i 0, i 0, i 0], [i 2, i 1, i 2, i 1, i 2], [i 2, i 0, i 0, i 0, i 0]]], [.list false [[i 2, i 0, i 1, i 0, i 1], [i 2, i 0, i 0, i 0, i 0], [i 2, i 0, i 0, i 0, i 0]]]], i 0]),
  (117, [BX [[i 0, i 0], [i 0, i 1]], turn], .tup [.list false [[.list false [[i 2, i 0, i 0, i 0, i 0], [i 2, i 1, i 2, i 1, i 2], [i 2, i 1, i 2, i 1, i 2]]], [.list false [[i 2, i 0, i 1, i 0, i 1], [i 2, i 0, i 1, i 0, i 1], [i 2, i 0, i 0, i 0, i 0]]]], i 0]),
  (117, [BX [[i 0, i 0], [i 0, i 2]], turn], .tup [.list false [[.list false [[i 2, i 0, i 0, i 0, i 0], [i 2, i 1, i 2, i 1, i 2], [i 2, i 0, i 0, i 0, i 0]]], [.list false [[i 2, i 0, i 1, i 0, i 1], [i 2, i 0, i 0, i 0, i 0], [i 2, i 0, i 1, i 0, i 1]]]], i 0]),
  (117, [BX [[i 0, i 0], [i 1, i 0]], turn], .tup [.list false [[.list false [[i 2, i 0, i 0, i 0, i 0], [i 2, i 1, i 2, i 1, i 2], [i 2, i 0, i 0, i 0, i 0]]], [.list false [[i 2, i 0, i 1, i 0, i 1], [i 2, i 1, i 2, i 1, i 2], [i 2, i 0, i 0, i 0, i 0]]]], i 0]),
  (117, [BX [[i 0, i 0], [i 1, i 1]], turn], .tup [.list false [[.list false [[i 2, i 0, i 0, i 0, i 0], [i 2, i 1, i 2, i 1, i 2], [i 2, i 0, i 0, i 0, i 0]]], [.list false [[i 2, i 0, i 1, i 0, i 1], [i 2, i 0, i 0, i 0, i 0], [i 2, i 1, i 2, i 1, i 2]]]], i 0]),
  (117, [BX [[i 0, i 0], [i 1, i 2]], turn], .tup [.list false [[.list false [[i 2, i 0, i 0, i 0, i 0], [i 2, i 1, i 2, i 1, i 2], [i 2, i 0, i 0, i 0, i 0]]], [.list false [[i 2, i 0, i 1, i 0, i 1], [i 2, i 0, i 0, i 0, i 0], [i 2, i 0, i 0, i 0, i 0]]]], i 0])]
theorem tabB_ok : KnOK Tryz.prog tabB :=
  knA hP knOK_nil (knA hP knOK_nil (knA hP knOK_nil (knA hP knOK_nil (knA hP knOK_nil (knA hP knOK_nil (knA hP knOK_nil (knOK_nil) kb6) kb5) kb4) kb3) kb2) kb1) kb0
end Go.Proofs.Tryz.Kn
