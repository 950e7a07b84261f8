/- What one call of the closed example comes to, by computing. No condition. -/
import Derived.Test.YthhdhbalenanjaaGreatK2
open Go.Proofs.Tryz renaming prog->bj
set_option maxRecDepth 100000
namespace Go.Proofs.Tryz.Kn
open Go Go.Pg
theorem BHH:E1 bj (AE bj fB (sW kE) 300) 20 [SC [VL,LG 1],KR,lw [3,0]]=some (.tup [lw [1,1],i 0]):=by kernel_rfl
open Go Go.Pg
theorem BHI:E1 bj (AE bj fB (sW kE) 300) 30 [SC [VL,LG 1],KR]=some (.tup [.list false [[i 0,i 1],[i 1,i 2]],i 0]):=by kernel_rfl
open Go Go.Pg
theorem BHJ:E1 bj (AE bj fB (sW kE) 300) 31 [SC [VL,LG 2],KR]=some (.tup [lw [1,3],i 0]):=by kernel_rfl
open Go Go.Pg
theorem BHK:E1 bj (AE bj fB (sW kE) 300) 33 [SC [VL,LG 1]]=some (.tup [KR,i 1,i 1,i 0]):=by kernel_rfl
open Go Go.Pg
theorem BHL:E1 bj (AE bj fB (sW kE) 300) 34 [SC [VL,LG 1],KR,i 1,i 1]=some (.bool true):=by kernel_rfl
open Go Go.Pg
theorem BHM:E1 bj (AE bj fB (sW kE) 300) 41 [SC [VL,shy,LG 1]]=some (.tup [lw [0],i 0]):=by kernel_rfl
open Go Go.Pg
theorem BHN:E1 bj (AE bj fB (sW kE) 300) 42 [SC [VL,shy,LG 1]]=some (.tup [lw [0,1],i 0]):=by kernel_rfl
open Go Go.Pg
theorem BHO:E1 bj (AE bj fB (sW kE) 300) 46 [SC [fam 2 0 false false]]=some (.tup [.agg [i 0,i 1],i 2,i 0]):=by kernel_rfl
end Go.Proofs.Tryz.Kn
