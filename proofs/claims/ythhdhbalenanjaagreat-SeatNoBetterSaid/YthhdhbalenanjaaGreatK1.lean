/- What one call of the closed example comes to, by computing. No condition. -/
import Derived.Test.YthhdhbalenanjaaGreatK2
set_option maxRecDepth 100000
namespace Go.Proofs.Tryz.Kn
open Go Go.Pg
theorem BMZ:FB Tryz.prog (AE Tryz.prog gH (uC lJ) 300) 20 [SC [V5,MG 1],I3,lw [3,0]]=some (.tup [lw [1,1],i 0]):=by kernel_rfl
open Go Go.Pg
theorem BM0:FB Tryz.prog (AE Tryz.prog gH (uC lJ) 300) 30 [SC [V5,MG 1],I3]=some (.tup [.list false [[i 0,i 1],[i 1,i 2]],i 0]):=by kernel_rfl
open Go Go.Pg
theorem BM1:FB Tryz.prog (AE Tryz.prog gH (uC lJ) 300) 31 [SC [V5,MG 2],I3]=some (.tup [lw [1,3],i 0]):=by kernel_rfl
open Go Go.Pg
theorem BM2:FB Tryz.prog (AE Tryz.prog gH (uC lJ) 300) 33 [SC [V5,MG 1]]=some (.tup [I3,i 1,i 1,i 0]):=by kernel_rfl
open Go Go.Pg
theorem BM3:FB Tryz.prog (AE Tryz.prog gH (uC lJ) 300) 34 [SC [V5,MG 1],I3,i 1,i 1]=some (.bool true):=by kernel_rfl
open Go Go.Pg
theorem BM4:FB Tryz.prog (AE Tryz.prog gH (uC lJ) 300) 41 [SC [V5,shy,MG 1]]=some (.tup [lw [0],i 0]):=by kernel_rfl
open Go Go.Pg
theorem BM5:FB Tryz.prog (AE Tryz.prog gH (uC lJ) 300) 42 [SC [V5,shy,MG 1]]=some (.tup [lw [0,1],i 0]):=by kernel_rfl
open Go Go.Pg
theorem BM6:FB Tryz.prog (AE Tryz.prog gH (uC lJ) 300) 46 [SC [fam 2 0 false false]]=some (.tup [.agg [i 0,i 1],i 2,i 0]):=by kernel_rfl
end Go.Proofs.Tryz.Kn
