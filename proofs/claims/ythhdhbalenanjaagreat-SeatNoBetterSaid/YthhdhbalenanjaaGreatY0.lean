/- The program keeps to the walk's form; the wakefulness probe comes to true. No condition. -/
import Derived.Test.YthhdhbalenanjaaGreatGa
import Derived.Test.YthhdhbalenanjaaGreatK1
namespace Go.Proofs.Tryz.Kn
open Go Go.Pg
def BDJ:dO:=[
 (20,[SC [VH,LW 1],K0,lw [3,0]],.tup [lw [1,1],i 0]),
 (30,[SC [VH,LW 1],K0],.tup [.list false [[i 0,i 1],[i 1,i 2]],i 0]),
 (31,[SC [VH,LW 2],K0],.tup [lw [1,3],i 0]),
 (33,[SC [VH,LW 1]],.tup [K0,i 1,i 1,i 0]),
 (34,[SC [VH,LW 1],K0,i 1,i 1],.bool true),
 (41,[SC [VH,shy,LW 1]],.tup [lw [0],i 0]),
 (42,[SC [VH,shy,LW 1]],.tup [lw [0,1],i 0]),
 (46,[SC [fam 2 0 false false]],.tup [.agg [i 0,i 1],i 2,i 0])]
set_option maxRecDepth 100000 in
theorem BDK:E5 Tryz.prog (AE Tryz.prog eW (sH BDJ) 300) 19 []=some (.bool true):=by kernel_rfl
theorem AO7:vH Tryz.prog BDJ :=
 sI hP LL (sI hP LL (sI hP LL (sI hP LL (sI hP LL (sI hP LL (sI hP LL (sI hP LL GQ BJQ) BJP) BJO) BJN) BJM) BJL) BJK) BJJ
theorem hkn:H5 Tryz.prog Op.kn:=sI hP AO7 GQ BDK
end Go.Proofs.Tryz.Kn
