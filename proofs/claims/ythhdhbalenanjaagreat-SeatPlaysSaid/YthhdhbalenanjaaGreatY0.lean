/- The program keeps to the walk's form; the wakefulness probe comes to true. No condition. -/
import Derived.Test.YthhdhbalenanjaaGreatGa
import Derived.Test.YthhdhbalenanjaaGreatK1
namespace Go.Proofs.Tryz.Kn
open Go Go.Pg
def A5P:ZO:=[
 (20,[SC [S9,KB 1],HJ,lw [3,0]],.tup [lw [1,1],i 0]),
 (30,[SC [S9,KB 1],HJ],.tup [.list false [[i 0,i 1],[i 1,i 2]],i 0]),
 (31,[SC [S9,KB 2],HJ],.tup [lw [1,3],i 0]),
 (33,[SC [S9,KB 1]],.tup [HJ,i 1,i 1,i 0]),
 (34,[SC [S9,KB 1],HJ,i 1,i 1],.bool true),
 (41,[SC [S9,shy,KB 1]],.tup [lw [0],i 0]),
 (42,[SC [S9,shy,KB 1]],.tup [lw [0,1],i 0]),
 (46,[SC [fam 2 0 false false]],.tup [.agg [i 0,i 1],i 2,i 0])]
set_option maxRecDepth 100000 in
theorem A5Q:EL Tryz.prog (AE Tryz.prog Z8 (lT A5P) 300) 19 []=some (.bool true):=by kernel_rfl
theorem AII:oI Tryz.prog A5P :=
 lU hP J2 (lU hP J2 (lU hP J2 (lU hP J2 (lU hP J2 (lU hP J2 (lU hP J2 (lU hP J2 FS BBQ) BBP) BBO) BBN) BBM) BBL) BBK) BBJ
theorem hkn:GY Tryz.prog Op.kn:=lU hP AII FS A5Q
end Go.Proofs.Tryz.Kn
