/- What one call of the closed example comes to, by computing. No condition. -/
import Derived.Test.YthhdhbalenanjaaGreatK2
open Go.Proofs.Tryz renaming prog->bj
set_option maxRecDepth 100000
namespace Go.Proofs.Tryz.Kn
open Go Go.Pg
theorem BD0:EZ bj (AF bj cI (oL gF) 300) 20 [SC [T8,LK 1],NV,lw [3,0]]=some (.tup [lw [1,1],i 0]):=by kernel_rfl
open Go Go.Pg
theorem BD1:EZ bj (AF bj cI (oL gF) 300) 30 [SC [T8,LK 1],NV]=some (.tup [.list false [[i 0,i 1],[i 1,i 2]],i 0]):=by kernel_rfl
open Go Go.Pg
theorem BD2:EZ bj (AF bj cI (oL gF) 300) 31 [SC [T8,LK 2],NV]=some (.tup [lw [1,3],i 0]):=by kernel_rfl
open Go Go.Pg
theorem BD3:EZ bj (AF bj cI (oL gF) 300) 33 [SC [T8,LK 1]]=some (.tup [NV,i 1,i 1,i 0]):=by kernel_rfl
open Go Go.Pg
theorem BD4:EZ bj (AF bj cI (oL gF) 300) 34 [SC [T8,LK 1],NV,i 1,i 1]=some (.bool true):=by kernel_rfl
open Go Go.Pg
theorem BD5:EZ bj (AF bj cI (oL gF) 300) 41 [SC [T8,shy,LK 1]]=some (.tup [lw [0],i 0]):=by kernel_rfl
open Go Go.Pg
theorem BD6:EZ bj (AF bj cI (oL gF) 300) 42 [SC [T8,shy,LK 1]]=some (.tup [lw [0,1],i 0]):=by kernel_rfl
open Go Go.Pg
theorem BD7:EZ bj (AF bj cI (oL gF) 300) 46 [SC [fam 2 0 false false]]=some (.tup [.agg [i 0,i 1],i 2,i 0]):=by kernel_rfl
end Go.Proofs.Tryz.Kn
