/- What one call of the closed example comes to, by computing. No condition. -/
import Derived.Test.YthhdhbalenanjaaGreatK2
open Go.Proofs.Tryz renaming prog->bj
set_option maxRecDepth 100000
namespace Go.Proofs.Tryz.Kn
open Go Go.Pg
theorem BFR:E1 bj (AE bj eI (rP jD) 300) 20 [SC [US,K5 1],NP,lw [3,0]]=some (.tup [lw [1,1],i 0]):=by kernel_rfl
open Go Go.Pg
theorem BFS:E1 bj (AE bj eI (rP jD) 300) 30 [SC [US,K5 1],NP]=some (.tup [.list false [[i 0,i 1],[i 1,i 2]],i 0]):=by kernel_rfl
open Go Go.Pg
theorem BFT:E1 bj (AE bj eI (rP jD) 300) 31 [SC [US,K5 2],NP]=some (.tup [lw [1,3],i 0]):=by kernel_rfl
open Go Go.Pg
theorem BFU:E1 bj (AE bj eI (rP jD) 300) 33 [SC [US,K5 1]]=some (.tup [NP,i 1,i 1,i 0]):=by kernel_rfl
open Go Go.Pg
theorem BFV:E1 bj (AE bj eI (rP jD) 300) 34 [SC [US,K5 1],NP,i 1,i 1]=some (.bool true):=by kernel_rfl
open Go Go.Pg
theorem BFW:E1 bj (AE bj eI (rP jD) 300) 41 [SC [US,shy,K5 1]]=some (.tup [lw [0],i 0]):=by kernel_rfl
open Go Go.Pg
theorem BFX:E1 bj (AE bj eI (rP jD) 300) 42 [SC [US,shy,K5 1]]=some (.tup [lw [0,1],i 0]):=by kernel_rfl
open Go Go.Pg
theorem BFY:E1 bj (AE bj eI (rP jD) 300) 46 [SC [fam 2 0 false false]]=some (.tup [.agg [i 0,i 1],i 2,i 0]):=by kernel_rfl
end Go.Proofs.Tryz.Kn
