/- What one call of the closed example comes to, by computing. No condition. -/
import Derived.Test.YthhdhbalenanjaaGreatK2
namespace Go.Proofs.Tryz.Kn
open Go Go.Pg
set_option maxRecDepth 100000
theorem kSPa : call0 Tryz.prog (execA Tryz.prog annC (knX tabB) 300) 20 [SC [dogs, sunny 1], seats, lw [3, 0]] = some (.tup [lw [1, 1], i 0]) := by kernel_rfl
end Go.Proofs.Tryz.Kn
/- What one call of the closed example comes to, by computing. No condition. -/
namespace Go.Proofs.Tryz.Kn
open Go Go.Pg
set_option maxRecDepth 100000
theorem kSBa : call0 Tryz.prog (execA Tryz.prog annC (knX tabB) 300) 30 [SC [dogs, sunny 1], seats] = some (.tup [.list false [[i 0, i 1], [i 1, i 2]], i 0]) := by kernel_rfl
end Go.Proofs.Tryz.Kn
/- What one call of the closed example comes to, by computing. No condition. -/
namespace Go.Proofs.Tryz.Kn
open Go Go.Pg
set_option maxRecDepth 100000
theorem kSCa : call0 Tryz.prog (execA Tryz.prog annC (knX tabB) 300) 31 [SC [dogs, sunny 2], seats] = some (.tup [lw [1, 3], i 0]) := by kernel_rfl
end Go.Proofs.Tryz.Kn
/- What one call of the closed example comes to, by computing. No condition. -/
namespace Go.Proofs.Tryz.Kn
open Go Go.Pg
set_option maxRecDepth 100000
theorem kSEa : call0 Tryz.prog (execA Tryz.prog annC (knX tabB) 300) 33 [SC [dogs, sunny 1]] = some (.tup [seats, i 1, i 1, i 0]) := by kernel_rfl
end Go.Proofs.Tryz.Kn
/- What one call of the closed example comes to, by computing. No condition. -/
namespace Go.Proofs.Tryz.Kn
open Go Go.Pg
set_option maxRecDepth 100000
theorem kSVa : call0 Tryz.prog (execA Tryz.prog annC (knX tabB) 300) 34 [SC [dogs, sunny 1], seats, i 1, i 1] = some (.bool true) := by kernel_rfl
end Go.Proofs.Tryz.Kn
/- What one call of the closed example comes to, by computing. No condition. -/
namespace Go.Proofs.Tryz.Kn
open Go Go.Pg
set_option maxRecDepth 100000
theorem kSLa : call0 Tryz.prog (execA Tryz.prog annC (knX tabB) 300) 41 [SC [dogs, shy, sunny 1]] = some (.tup [lw [0], i 0]) := by kernel_rfl
end Go.Proofs.Tryz.Kn
/- What one call of the closed example comes to, by computing. No condition. -/
namespace Go.Proofs.Tryz.Kn
open Go Go.Pg
set_option maxRecDepth 100000
theorem kSQa : call0 Tryz.prog (execA Tryz.prog annC (knX tabB) 300) 42 [SC [dogs, shy, sunny 1]] = some (.tup [lw [0, 1], i 0]) := by kernel_rfl
end Go.Proofs.Tryz.Kn
/- What one call of the closed example comes to, by computing. No condition. -/
namespace Go.Proofs.Tryz.Kn
open Go Go.Pg
set_option maxRecDepth 100000
theorem kSRa : call0 Tryz.prog (execA Tryz.prog annC (knX tabB) 300) 46 [SC [fam 2 0 false false]] = some (.tup [.agg [i 0, i 1], i 2, i 0]) := by kernel_rfl
end Go.Proofs.Tryz.Kn
