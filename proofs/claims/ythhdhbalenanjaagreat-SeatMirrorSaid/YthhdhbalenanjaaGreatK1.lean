/- What one call of the closed example comes to, by computing. No condition. -/
import Derived.Test.YthhdhbalenanjaaGreatK2
open Go.Proofs.Tryz renaming prog->bj
set_option maxRecDepth 100000
namespace Go.Proofs.Tryz.Kn
open Go Go.Pg
theorem BDI:EQ bj (AE bj cX (pU gZ) 300) 20 [SC [UQ,K4 1],NT,lw [3,0]]=some (.tup [lw [1,1],i 0]):=by kernel_rfl
open Go Go.Pg
theorem BDJ:EQ bj (AE bj cX (pU gZ) 300) 30 [SC [UQ,K4 1],NT]=some (.tup [.list false [[i 0,i 1],[i 1,i 2]],i 0]):=by kernel_rfl
open Go Go.Pg
theorem BDK:EQ bj (AE bj cX (pU gZ) 300) 31 [SC [UQ,K4 2],NT]=some (.tup [lw [1,3],i 0]):=by kernel_rfl
open Go Go.Pg
theorem BDL:EQ bj (AE bj cX (pU gZ) 300) 33 [SC [UQ,K4 1]]=some (.tup [NT,i 1,i 1,i 0]):=by kernel_rfl
open Go Go.Pg
theorem BDM:EQ bj (AE bj cX (pU gZ) 300) 34 [SC [UQ,K4 1],NT,i 1,i 1]=some (.bool true):=by kernel_rfl
open Go Go.Pg
theorem BDN:EQ bj (AE bj cX (pU gZ) 300) 41 [SC [UQ,shy,K4 1]]=some (.tup [lw [0],i 0]):=by kernel_rfl
open Go Go.Pg
theorem BDO:EQ bj (AE bj cX (pU gZ) 300) 42 [SC [UQ,shy,K4 1]]=some (.tup [lw [0,1],i 0]):=by kernel_rfl
open Go Go.Pg
theorem BDP:EQ bj (AE bj cX (pU gZ) 300) 46 [SC [fam 2 0 false false]]=some (.tup [.agg [i 0,i 1],i 2,i 0]):=by kernel_rfl
end Go.Proofs.Tryz.Kn
