/- What one call of the closed example comes to, by computing. No condition. -/
import Derived.Test.YthhdhbalenanjaaGreatK2
set_option maxRecDepth 100000
namespace Go.Proofs.Tryz.Kn
open Go Go.Pg
theorem BFF:E4 Tryz.prog (AE Tryz.prog bS (oI fL) 300) 20 [SC [T8,K0 1],H3,lw [3,0]]=some (.tup [lw [1,1],i 0]):=by kernel_rfl
open Go Go.Pg
theorem BFG:E4 Tryz.prog (AE Tryz.prog bS (oI fL) 300) 30 [SC [T8,K0 1],H3]=some (.tup [.list false [[i 0,i 1],[i 1,i 2]],i 0]):=by kernel_rfl
open Go Go.Pg
theorem BFH:E4 Tryz.prog (AE Tryz.prog bS (oI fL) 300) 31 [SC [T8,K0 2],H3]=some (.tup [lw [1,3],i 0]):=by kernel_rfl
open Go Go.Pg
theorem BFI:E4 Tryz.prog (AE Tryz.prog bS (oI fL) 300) 33 [SC [T8,K0 1]]=some (.tup [H3,i 1,i 1,i 0]):=by kernel_rfl
open Go Go.Pg
theorem BFJ:E4 Tryz.prog (AE Tryz.prog bS (oI fL) 300) 34 [SC [T8,K0 1],H3,i 1,i 1]=some (.bool true):=by kernel_rfl
open Go Go.Pg
theorem BFK:E4 Tryz.prog (AE Tryz.prog bS (oI fL) 300) 41 [SC [T8,shy,K0 1]]=some (.tup [lw [0],i 0]):=by kernel_rfl
open Go Go.Pg
theorem BFL:E4 Tryz.prog (AE Tryz.prog bS (oI fL) 300) 42 [SC [T8,shy,K0 1]]=some (.tup [lw [0,1],i 0]):=by kernel_rfl
open Go Go.Pg
theorem BFM:E4 Tryz.prog (AE Tryz.prog bS (oI fL) 300) 46 [SC [fam 2 0 false false]]=some (.tup [.agg [i 0,i 1],i 2,i 0]):=by kernel_rfl
end Go.Proofs.Tryz.Kn
