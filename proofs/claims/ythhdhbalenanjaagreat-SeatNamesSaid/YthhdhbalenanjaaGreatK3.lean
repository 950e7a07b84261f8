/- What one call of the closed statement comes to, by computing. No condition. -/
import Derived.Test.YthhdhbalenanjaaGreatK2
namespace Go.Proofs.Tryz.Kn
open Go Go.Pg
set_option maxRecDepth 100000
theorem kSNa : call0 Tryz.prog (execA Tryz.prog annC (knX tabB) 300) 31 [SC [dogs, sunny 1], seats] = some (.tup [lw [1, 1], i 0]) := by kernel_rfl
end Go.Proofs.Tryz.Kn
/- What one call of the closed statement comes to, by computing. No condition. -/
namespace Go.Proofs.Tryz.Kn
open Go Go.Pg
set_option maxRecDepth 100000
theorem kSNb : call0 Tryz.prog (execA Tryz.prog annC (knX tabB) 300) 33 [SC [dogs, shy, sunny 1]] = some (.tup [.nil, i 0, i 0, i 10]) := by kernel_rfl
end Go.Proofs.Tryz.Kn
/- What one call of the closed statement comes to, by computing. No condition. -/
namespace Go.Proofs.Tryz.Kn
open Go Go.Pg
set_option maxRecDepth 100000
theorem kSNc : call0 Tryz.prog (execA Tryz.prog annC (knX tabB) 300) 42 [SC [dogs, shy, fam 1 1 false true]] = some (.tup [lw [1], i 0]) := by kernel_rfl
end Go.Proofs.Tryz.Kn
/- What one call of the closed statement comes to, by computing. No condition. -/
namespace Go.Proofs.Tryz.Kn
open Go Go.Pg
set_option maxRecDepth 100000
theorem kSNd : call0 Tryz.prog (execA Tryz.prog annC (knX tabB) 300) 41 [SC [dogs, sunny 1]] = some (.tup [.nil, i 0]) := by kernel_rfl
end Go.Proofs.Tryz.Kn
/- What one call of the closed statement comes to, by computing. No condition. -/
namespace Go.Proofs.Tryz.Kn
open Go Go.Pg
set_option maxRecDepth 100000
theorem kSNe : call0 Tryz.prog (execA Tryz.prog annC (knX tabB) 300) 33 [SC []] = some (.tup [.nil, i 0, i 0, i 0]) := by kernel_rfl
end Go.Proofs.Tryz.Kn
/- What one call of the closed statement comes to, by computing. No condition. -/
namespace Go.Proofs.Tryz.Kn
open Go Go.Pg
set_option maxRecDepth 100000
theorem kSNf : call0 Tryz.prog (execA Tryz.prog annC (knX tabB) 300) 34 [SC [dogs, sunny 1], seats, i 2, i 1] = some (.bool false) := by kernel_rfl
end Go.Proofs.Tryz.Kn
/- What one call of the closed statement comes to, by computing. No condition. -/
namespace Go.Proofs.Tryz.Kn
open Go Go.Pg
set_option maxRecDepth 100000
theorem kSNg : call0 Tryz.prog (execA Tryz.prog annC (knX tabB) 300) 34 [SC [dogs, sunny 1], seats, i 1, i 0] = some (.bool false) := by kernel_rfl
end Go.Proofs.Tryz.Kn
/- What one call of the closed statement comes to, by computing. No condition. -/
namespace Go.Proofs.Tryz.Kn
open Go Go.Pg
set_option maxRecDepth 100000
theorem kSNh : call0 Tryz.prog (execA Tryz.prog annC (knX tabB) 300) 34 [SC [dogs, sunny 1], .list false [[i 1, i 0], [i 0, i 0]], i 0, i 9] = some (.bool false) := by kernel_rfl
end Go.Proofs.Tryz.Kn
/- What one call of the closed statement comes to, by computing. No condition. -/
namespace Go.Proofs.Tryz.Kn
open Go Go.Pg
set_option maxRecDepth 100000
theorem kSNi : call0 Tryz.prog (execA Tryz.prog annC (knX tabB) 300) 34 [SC [dogs, sunny 1], .list false [[i 1, i 0]], i 0, i 9] = some (.bool false) := by kernel_rfl
end Go.Proofs.Tryz.Kn
/- What one call of the closed statement comes to, by computing. No condition. -/
namespace Go.Proofs.Tryz.Kn
open Go Go.Pg
set_option maxRecDepth 100000
theorem kSNj : call0 Tryz.prog (execA Tryz.prog annC (knX tabB) 300) 20 [SC [dogs, sunny 1], seats, lw [3, 1]] = some (.tup [.nil, i 2]) := by kernel_rfl
end Go.Proofs.Tryz.Kn
/- What one call of the closed statement comes to, by computing. No condition. -/
namespace Go.Proofs.Tryz.Kn
open Go Go.Pg
set_option maxRecDepth 100000
theorem kSNk : call0 Tryz.prog (execA Tryz.prog annC (knX tabB) 300) 20 [SC [dogs, sunny 1], .list false [[i 1, i 2], [i 0, i 1]], lw [3, 0]] = some (.tup [.nil, i 2]) := by kernel_rfl
end Go.Proofs.Tryz.Kn
/- What one call of the closed statement comes to, by computing. No condition. -/
namespace Go.Proofs.Tryz.Kn
open Go Go.Pg
set_option maxRecDepth 100000
theorem kSNl : call0 Tryz.prog (execA Tryz.prog annC (knX tabB) 300) 30 [SC [dogs, sunny 1], .list false [[i 1, i 0], [i 1, i 1]]] = some (.tup [.nil, i 2]) := by kernel_rfl
end Go.Proofs.Tryz.Kn
/- What one call of the closed statement comes to, by computing. No condition. -/
namespace Go.Proofs.Tryz.Kn
open Go Go.Pg
set_option maxRecDepth 100000
theorem kSNm : call0 Tryz.prog (execA Tryz.prog annC (knX tabB) 300) 31 [SC [dogs, fam 1 1 false true], .list false [[i 1, i 0], [i 1, i 2]]] = some (.tup [.nil, i 2]) := by kernel_rfl
end Go.Proofs.Tryz.Kn
/- What one call of the closed statement comes to, by computing. No condition. -/
namespace Go.Proofs.Tryz.Kn
open Go Go.Pg
set_option maxRecDepth 100000
theorem kSNn : call0 Tryz.prog (execA Tryz.prog annC (knX tabB) 300) 42 [SC [dogs, sunny 1]] = some (.tup [.nil, i 7]) := by kernel_rfl
end Go.Proofs.Tryz.Kn
/- What one call of the closed statement comes to, by computing. No condition. -/
namespace Go.Proofs.Tryz.Kn
open Go Go.Pg
set_option maxRecDepth 100000
theorem kSNo : call0 Tryz.prog (execA Tryz.prog annC (knX tabB) 300) 20 [SC [dogs, dogs, dogs], .list false [[i 0, i 0], [i 1, i 0], [i 0, i 2]], lw [3, 0]] = some (.tup [.nil, i 2]) := by kernel_rfl
end Go.Proofs.Tryz.Kn
/- What one call of the closed statement comes to, by computing. No condition. -/
namespace Go.Proofs.Tryz.Kn
open Go Go.Pg
set_option maxRecDepth 100000
def full : V := .agg (cB [[i 0, i 0], [i 0, i 0], [i 0, i 0], [i 0, i 0]] ++ [turn, .list false [[rob [true, false, true]], [rob [true, true, true]]], .list false [dogs]])
theorem kSNp : call0 Tryz.prog (execA Tryz.prog annC (knX tabB) 300) 46 [full] = some (.tup [.agg [i 0, i 0], i 0, i 9]) := by kernel_rfl
end Go.Proofs.Tryz.Kn
/- What one call of the closed statement comes to, by computing. No condition. -/
namespace Go.Proofs.Tryz.Kn
open Go Go.Pg
set_option maxRecDepth 100000
theorem kSNq : call0 Tryz.prog (execA Tryz.prog annC (knX tabB) 300) 46 [SC [dogs, dogs, dogs]] = some (.tup [.agg [i 0, i 0], i 0, i 10]) := by kernel_rfl
end Go.Proofs.Tryz.Kn
