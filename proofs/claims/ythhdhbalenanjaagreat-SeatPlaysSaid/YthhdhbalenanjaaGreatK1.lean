/- What one call of the closed example comes to, by computing. No condition. -/
import Derived.Test.YthhdhbalenanjaaGreatK2
namespace Go.Proofs.Tryz.Kn
open Go Go.Pg
set_option maxRecDepth 100000
theorem BBJ:EL Tryz.prog (AE Tryz.prog Z8 (lT dK) 300) 20 [SC [S9,KB 1],HJ,lw [3,0]]=some (.tup [lw [1,1],i 0]):=by kernel_rfl
end Go.Proofs.Tryz.Kn
namespace Go.Proofs.Tryz.Kn
open Go Go.Pg
set_option maxRecDepth 100000
theorem BBK:EL Tryz.prog (AE Tryz.prog Z8 (lT dK) 300) 30 [SC [S9,KB 1],HJ]=some (.tup [.list false [[i 0,i 1],[i 1,i 2]],i 0]):=by kernel_rfl
end Go.Proofs.Tryz.Kn
namespace Go.Proofs.Tryz.Kn
open Go Go.Pg
set_option maxRecDepth 100000
theorem BBL:EL Tryz.prog (AE Tryz.prog Z8 (lT dK) 300) 31 [SC [S9,KB 2],HJ]=some (.tup [lw [1,3],i 0]):=by kernel_rfl
end Go.Proofs.Tryz.Kn
namespace Go.Proofs.Tryz.Kn
open Go Go.Pg
set_option maxRecDepth 100000
theorem BBM:EL Tryz.prog (AE Tryz.prog Z8 (lT dK) 300) 33 [SC [S9,KB 1]]=some (.tup [HJ,i 1,i 1,i 0]):=by kernel_rfl
end Go.Proofs.Tryz.Kn
namespace Go.Proofs.Tryz.Kn
open Go Go.Pg
set_option maxRecDepth 100000
theorem BBN:EL Tryz.prog (AE Tryz.prog Z8 (lT dK) 300) 34 [SC [S9,KB 1],HJ,i 1,i 1]=some (.bool true):=by kernel_rfl
end Go.Proofs.Tryz.Kn
namespace Go.Proofs.Tryz.Kn
open Go Go.Pg
set_option maxRecDepth 100000
theorem BBO:EL Tryz.prog (AE Tryz.prog Z8 (lT dK) 300) 41 [SC [S9,shy,KB 1]]=some (.tup [lw [0],i 0]):=by kernel_rfl
end Go.Proofs.Tryz.Kn
namespace Go.Proofs.Tryz.Kn
open Go Go.Pg
set_option maxRecDepth 100000
theorem BBP:EL Tryz.prog (AE Tryz.prog Z8 (lT dK) 300) 42 [SC [S9,shy,KB 1]]=some (.tup [lw [0,1],i 0]):=by kernel_rfl
end Go.Proofs.Tryz.Kn
namespace Go.Proofs.Tryz.Kn
open Go Go.Pg
set_option maxRecDepth 100000
theorem BBQ:EL Tryz.prog (AE Tryz.prog Z8 (lT dK) 300) 46 [SC [fam 2 0 false false]]=some (.tup [.agg [i 0,i 1],i 2,i 0]):=by kernel_rfl
end Go.Proofs.Tryz.Kn
