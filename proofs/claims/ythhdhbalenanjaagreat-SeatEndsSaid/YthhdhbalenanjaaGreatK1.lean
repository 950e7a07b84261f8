/- What one call of the closed example comes to, by computing. No condition. -/
import Derived.Test.YthhdhbalenanjaaGreatK2
set_option maxRecDepth 100000
namespace Go.Proofs.Tryz.Kn
open Go Go.Pg
theorem BEV:EX Tryz.prog (AE Tryz.prog bN (nV fF) 300) 20 [SC [T4,K0 1],HW,lw [3,0]]=some (.tup [lw [1,1],i 0]):=by kernel_rfl
open Go Go.Pg
theorem BEW:EX Tryz.prog (AE Tryz.prog bN (nV fF) 300) 30 [SC [T4,K0 1],HW]=some (.tup [.list false [[i 0,i 1],[i 1,i 2]],i 0]):=by kernel_rfl
open Go Go.Pg
theorem BEX:EX Tryz.prog (AE Tryz.prog bN (nV fF) 300) 31 [SC [T4,K0 2],HW]=some (.tup [lw [1,3],i 0]):=by kernel_rfl
open Go Go.Pg
theorem BEY:EX Tryz.prog (AE Tryz.prog bN (nV fF) 300) 33 [SC [T4,K0 1]]=some (.tup [HW,i 1,i 1,i 0]):=by kernel_rfl
open Go Go.Pg
theorem BEZ:EX Tryz.prog (AE Tryz.prog bN (nV fF) 300) 34 [SC [T4,K0 1],HW,i 1,i 1]=some (.bool true):=by kernel_rfl
open Go Go.Pg
theorem BE0:EX Tryz.prog (AE Tryz.prog bN (nV fF) 300) 41 [SC [T4,shy,K0 1]]=some (.tup [lw [0],i 0]):=by kernel_rfl
open Go Go.Pg
theorem BE1:EX Tryz.prog (AE Tryz.prog bN (nV fF) 300) 42 [SC [T4,shy,K0 1]]=some (.tup [lw [0,1],i 0]):=by kernel_rfl
open Go Go.Pg
theorem BE2:EX Tryz.prog (AE Tryz.prog bN (nV fF) 300) 46 [SC [fam 2 0 false false]]=some (.tup [.agg [i 0,i 1],i 2,i 0]):=by kernel_rfl
end Go.Proofs.Tryz.Kn
