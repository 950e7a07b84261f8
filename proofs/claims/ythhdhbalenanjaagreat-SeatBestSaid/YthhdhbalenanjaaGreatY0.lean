/- The program keeps to the walk's form; the wakefulness probe comes to true. No condition. -/
import Derived.Test.YthhdhbalenanjaaGreatGa
import Derived.Test.YthhdhbalenanjaaGreatK1
namespace Go.Proofs.Tryz.Kn
open Go Go.Pg
def BBJ:dS:=[
 (20,[SC [VH,LL 1],KT,lw [3,0]],.tup [lw [1,1],i 0]),
 (30,[SC [VH,LL 1],KT],.tup [.list false [[i 0,i 1],[i 1,i 2]],i 0]),
 (31,[SC [VH,LL 2],KT],.tup [lw [1,3],i 0]),
 (33,[SC [VH,LL 1]],.tup [KT,i 1,i 1,i 0]),
 (34,[SC [VH,LL 1],KT,i 1,i 1],.bool true),
 (41,[SC [VH,shy,LL 1]],.tup [lw [0],i 0]),
 (42,[SC [VH,shy,LL 1]],.tup [lw [0,1],i 0]),
 (46,[SC [fam 2 0 false false]],.tup [.agg [i 0,i 1],i 2,i 0])]
set_option maxRecDepth 100000 in
theorem BBK:E2 Tryz.prog (AE Tryz.prog eW (sK BBJ) 300) 19 []=some (.bool true):=by kernel_rfl
theorem AO5:vI Tryz.prog BBJ :=
 sM hP LA (sM hP LA (sM hP LA (sM hP LA (sM hP LA (sM hP LA (sM hP LA (sM hP LA GM BG9) BG8) BG7) BG6) BG5) BG4) BG3) BG2
theorem hkn:HX Tryz.prog Op.kn:=sM hP AO5 GM BBK
end Go.Proofs.Tryz.Kn
