/- What one call of the closed example comes to, by computing. No condition. -/
import Derived.Test.YthhdhbalenanjaaGreatK2
open Go.Proofs.Tryz renaming prog->bj
set_option maxRecDepth 100000
namespace Go.Proofs.Tryz.Kn
open Go Go.Pg
theorem BJ0:E7 bj (AE bj fL (tA kI) 300) 20 [SC [VV,LZ 1],K2,lw [3,0]]=some (.tup [lw [1,1],i 0]):=by kernel_rfl
open Go Go.Pg
theorem BJ1:E7 bj (AE bj fL (tA kI) 300) 30 [SC [VV,LZ 1],K2]=some (.tup [.list false [[i 0,i 1],[i 1,i 2]],i 0]):=by kernel_rfl
open Go Go.Pg
theorem BJ2:E7 bj (AE bj fL (tA kI) 300) 31 [SC [VV,LZ 2],K2]=some (.tup [lw [1,3],i 0]):=by kernel_rfl
open Go Go.Pg
theorem BJ3:E7 bj (AE bj fL (tA kI) 300) 33 [SC [VV,LZ 1]]=some (.tup [K2,i 1,i 1,i 0]):=by kernel_rfl
open Go Go.Pg
theorem BJ4:E7 bj (AE bj fL (tA kI) 300) 34 [SC [VV,LZ 1],K2,i 1,i 1]=some (.bool true):=by kernel_rfl
open Go Go.Pg
theorem BJ5:E7 bj (AE bj fL (tA kI) 300) 41 [SC [VV,shy,LZ 1]]=some (.tup [lw [0],i 0]):=by kernel_rfl
open Go Go.Pg
theorem BJ6:E7 bj (AE bj fL (tA kI) 300) 42 [SC [VV,shy,LZ 1]]=some (.tup [lw [0,1],i 0]):=by kernel_rfl
open Go Go.Pg
theorem BJ7:E7 bj (AE bj fL (tA kI) 300) 46 [SC [fam 2 0 false false]]=some (.tup [.agg [i 0,i 1],i 2,i 0]):=by kernel_rfl
end Go.Proofs.Tryz.Kn
