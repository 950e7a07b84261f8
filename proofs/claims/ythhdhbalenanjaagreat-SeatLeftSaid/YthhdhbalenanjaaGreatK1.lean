/- What one call of the closed example comes to, by computing. No condition. -/
import Derived.Test.YthhdhbalenanjaaGreatK2
open Go.Proofs.Tryz renaming prog->bj
set_option maxRecDepth 100000
namespace Go.Proofs.Tryz.Kn
open Go Go.Pg
theorem BDO:EK bj (AE bj bT (nU fN) 300) 20 [SC [TX,KW 1],NG,lw [3,0]]=some (.tup [lw [1,1],i 0]):=by kernel_rfl
open Go Go.Pg
theorem BDP:EK bj (AE bj bT (nU fN) 300) 30 [SC [TX,KW 1],NG]=some (.tup [.list false [[i 0,i 1],[i 1,i 2]],i 0]):=by kernel_rfl
open Go Go.Pg
theorem BDQ:EK bj (AE bj bT (nU fN) 300) 31 [SC [TX,KW 2],NG]=some (.tup [lw [1,3],i 0]):=by kernel_rfl
open Go Go.Pg
theorem BDR:EK bj (AE bj bT (nU fN) 300) 33 [SC [TX,KW 1]]=some (.tup [NG,i 1,i 1,i 0]):=by kernel_rfl
open Go Go.Pg
theorem BDS:EK bj (AE bj bT (nU fN) 300) 34 [SC [TX,KW 1],NG,i 1,i 1]=some (.bool true):=by kernel_rfl
open Go Go.Pg
theorem BDT:EK bj (AE bj bT (nU fN) 300) 41 [SC [TX,shy,KW 1]]=some (.tup [lw [0],i 0]):=by kernel_rfl
open Go Go.Pg
theorem BDU:EK bj (AE bj bT (nU fN) 300) 42 [SC [TX,shy,KW 1]]=some (.tup [lw [0,1],i 0]):=by kernel_rfl
open Go Go.Pg
theorem BDV:EK bj (AE bj bT (nU fN) 300) 46 [SC [fam 2 0 false false]]=some (.tup [.agg [i 0,i 1],i 2,i 0]):=by kernel_rfl
end Go.Proofs.Tryz.Kn
