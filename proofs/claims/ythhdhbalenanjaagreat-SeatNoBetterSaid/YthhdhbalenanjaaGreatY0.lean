/- The program keeps to the walk's form; the wakefulness probe comes to true. No condition. -/
import Derived.Test.YthhdhbalenanjaaGreatGa
import Derived.Test.YthhdhbalenanjaaGreatK1
namespace Go.Proofs.Tryz.Kn
open Go Go.Pg
def BGG:eY:=[
 (20,[SC [V5,MG 1],I3,lw [3,0]],.tup [lw [1,1],i 0]),
 (30,[SC [V5,MG 1],I3],.tup [.list false [[i 0,i 1],[i 1,i 2]],i 0]),
 (31,[SC [V5,MG 2],I3],.tup [lw [1,3],i 0]),
 (33,[SC [V5,MG 1]],.tup [I3,i 1,i 1,i 0]),
 (34,[SC [V5,MG 1],I3,i 1,i 1],.bool true),
 (41,[SC [V5,shy,MG 1]],.tup [lw [0],i 0]),
 (42,[SC [V5,shy,MG 1]],.tup [lw [0,1],i 0]),
 (46,[SC [fam 2 0 false false]],.tup [.agg [i 0,i 1],i 2,i 0])]
set_option maxRecDepth 100000 in
theorem BGH:FB Tryz.prog (AE Tryz.prog gH (uC BGG) 300) 19 []=some (.bool true):=by kernel_rfl
theorem AQ7:xE Tryz.prog BGG :=
 uD hP L7 (uD hP L7 (uD hP L7 (uD hP L7 (uD hP L7 (uD hP L7 (uD hP L7 (uD hP L7 GZ BM6) BM5) BM4) BM3) BM2) BM1) BM0) BMZ
theorem hkn:IB Tryz.prog Op.kn:=uD hP AQ7 GZ BGH
end Go.Proofs.Tryz.Kn
