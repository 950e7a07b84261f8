/- What one call of the closed example comes to, by computing. No condition. -/
import Derived.Test.YthhdhbalenanjaaGreatK2
open Go.Proofs.Tryz renaming prog->bj
set_option maxRecDepth 100000
namespace Go.Proofs.Tryz.Kn
open Go Go.Pg
theorem BG2:E2 bj (AE bj eW (sK jU) 300) 20 [SC [VH,LL 1],KT,lw [3,0]]=some (.tup [lw [1,1],i 0]):=by kernel_rfl
open Go Go.Pg
theorem BG3:E2 bj (AE bj eW (sK jU) 300) 30 [SC [VH,LL 1],KT]=some (.tup [.list false [[i 0,i 1],[i 1,i 2]],i 0]):=by kernel_rfl
open Go Go.Pg
theorem BG4:E2 bj (AE bj eW (sK jU) 300) 31 [SC [VH,LL 2],KT]=some (.tup [lw [1,3],i 0]):=by kernel_rfl
open Go Go.Pg
theorem BG5:E2 bj (AE bj eW (sK jU) 300) 33 [SC [VH,LL 1]]=some (.tup [KT,i 1,i 1,i 0]):=by kernel_rfl
open Go Go.Pg
theorem BG6:E2 bj (AE bj eW (sK jU) 300) 34 [SC [VH,LL 1],KT,i 1,i 1]=some (.bool true):=by kernel_rfl
open Go Go.Pg
theorem BG7:E2 bj (AE bj eW (sK jU) 300) 41 [SC [VH,shy,LL 1]]=some (.tup [lw [0],i 0]):=by kernel_rfl
open Go Go.Pg
theorem BG8:E2 bj (AE bj eW (sK jU) 300) 42 [SC [VH,shy,LL 1]]=some (.tup [lw [0,1],i 0]):=by kernel_rfl
open Go Go.Pg
theorem BG9:E2 bj (AE bj eW (sK jU) 300) 46 [SC [fam 2 0 false false]]=some (.tup [.agg [i 0,i 1],i 2,i 0]):=by kernel_rfl
end Go.Proofs.Tryz.Kn
