/- What one call of the closed example comes to, by computing. No condition. -/
import Derived.Test.YthhdhbalenanjaaGreatK2
open Go.Proofs.Tryz renaming prog->bj
set_option maxRecDepth 100000
namespace Go.Proofs.Tryz.Kn
open Go Go.Pg
theorem BJJ:E5 bj (AE bj eW (sH jR) 300) 20 [SC [VH,LW 1],K0,lw [3,0]]=some (.tup [lw [1,1],i 0]):=by kernel_rfl
open Go Go.Pg
theorem BJK:E5 bj (AE bj eW (sH jR) 300) 30 [SC [VH,LW 1],K0]=some (.tup [.list false [[i 0,i 1],[i 1,i 2]],i 0]):=by kernel_rfl
open Go Go.Pg
theorem BJL:E5 bj (AE bj eW (sH jR) 300) 31 [SC [VH,LW 2],K0]=some (.tup [lw [1,3],i 0]):=by kernel_rfl
open Go Go.Pg
theorem BJM:E5 bj (AE bj eW (sH jR) 300) 33 [SC [VH,LW 1]]=some (.tup [K0,i 1,i 1,i 0]):=by kernel_rfl
open Go Go.Pg
theorem BJN:E5 bj (AE bj eW (sH jR) 300) 34 [SC [VH,LW 1],K0,i 1,i 1]=some (.bool true):=by kernel_rfl
open Go Go.Pg
theorem BJO:E5 bj (AE bj eW (sH jR) 300) 41 [SC [VH,shy,LW 1]]=some (.tup [lw [0],i 0]):=by kernel_rfl
open Go Go.Pg
theorem BJP:E5 bj (AE bj eW (sH jR) 300) 42 [SC [VH,shy,LW 1]]=some (.tup [lw [0,1],i 0]):=by kernel_rfl
open Go Go.Pg
theorem BJQ:E5 bj (AE bj eW (sH jR) 300) 46 [SC [fam 2 0 false false]]=some (.tup [.agg [i 0,i 1],i 2,i 0]):=by kernel_rfl
end Go.Proofs.Tryz.Kn
