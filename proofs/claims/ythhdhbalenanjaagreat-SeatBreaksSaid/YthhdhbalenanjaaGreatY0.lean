/- The program keeps to the walk's form; the wakefulness probe comes to true. No condition. -/
import Derived.Test.YthhdhbalenanjaaGreatGa
import Derived.Test.YthhdhbalenanjaaGreatK1
namespace Go.Proofs.Tryz.Kn
open Go Go.Pg
def BBT:eB:=[
 (20,[SC [VL,LG 1],KR,lw [3,0]],.tup [lw [1,1],i 0]),
 (30,[SC [VL,LG 1],KR],.tup [.list false [[i 0,i 1],[i 1,i 2]],i 0]),
 (31,[SC [VL,LG 2],KR],.tup [lw [1,3],i 0]),
 (33,[SC [VL,LG 1]],.tup [KR,i 1,i 1,i 0]),
 (34,[SC [VL,LG 1],KR,i 1,i 1],.bool true),
 (41,[SC [VL,shy,LG 1]],.tup [lw [0],i 0]),
 (42,[SC [VL,shy,LG 1]],.tup [lw [0,1],i 0]),
 (46,[SC [fam 2 0 false false]],.tup [.agg [i 0,i 1],i 2,i 0])]
set_option maxRecDepth 100000 in
theorem BBU:E1 Tryz.prog (AE Tryz.prog fB (sW BBT) 300) 19 []=some (.bool true):=by kernel_rfl
theorem APK:vS Tryz.prog BBT :=
 sX hP K5 (sX hP K5 (sX hP K5 (sX hP K5 (sX hP K5 (sX hP K5 (sX hP K5 (sX hP K5 GQ BHO) BHN) BHM) BHL) BHK) BHJ) BHI) BHH
theorem hkn:HW Tryz.prog Op.kn:=sX hP APK GQ BBU
end Go.Proofs.Tryz.Kn
