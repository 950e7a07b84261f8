/- The program keeps to the walk's form; the wakefulness probe comes to true. No condition. -/
import Derived.Test.YthhdhbalenanjaaGreatGa
import Derived.Test.YthhdhbalenanjaaGreatK1
namespace Go.Proofs.Tryz.Kn
open Go Go.Pg
def A8F:bG:=[
 (20,[SC [T8,LK 1],NV,lw [3,0]],.tup [lw [1,1],i 0]),
 (30,[SC [T8,LK 1],NV],.tup [.list false [[i 0,i 1],[i 1,i 2]],i 0]),
 (31,[SC [T8,LK 2],NV],.tup [lw [1,3],i 0]),
 (33,[SC [T8,LK 1]],.tup [NV,i 1,i 1,i 0]),
 (34,[SC [T8,LK 1],NV,i 1,i 1],.bool true),
 (41,[SC [T8,shy,LK 1]],.tup [lw [0],i 0]),
 (42,[SC [T8,shy,LK 1]],.tup [lw [0,1],i 0]),
 (46,[SC [fam 2 0 false false]],.tup [.agg [i 0,i 1],i 2,i 0])]
set_option maxRecDepth 100000 in
theorem A8G:EZ Tryz.prog (AF Tryz.prog cI (oL A8F) 300) 19 []=some (.bool true):=by kernel_rfl
theorem ALZ:rP Tryz.prog A8F :=
 oM hP LB (oM hP LB (oM hP LB (oM hP LB (oM hP LB (oM hP LB (oM hP LB (oM hP LB GZ BD7) BD6) BD5) BD4) BD3) BD2) BD1) BD0
theorem hkn:H4 Tryz.prog Op.kn:=oM hP ALZ GZ A8G
end Go.Proofs.Tryz.Kn
