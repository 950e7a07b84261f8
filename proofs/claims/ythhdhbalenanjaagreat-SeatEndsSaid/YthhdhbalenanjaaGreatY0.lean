/- The program keeps to the walk's form; the wakefulness probe comes to true. No condition. -/
import Derived.Test.YthhdhbalenanjaaGreatGa
import Derived.Test.YthhdhbalenanjaaGreatK1
namespace Go.Proofs.Tryz.Kn
open Go Go.Pg
def A8Q:aM:=[
 (20,[SC [T4,K0 1],HW,lw [3,0]],.tup [lw [1,1],i 0]),
 (30,[SC [T4,K0 1],HW],.tup [.list false [[i 0,i 1],[i 1,i 2]],i 0]),
 (31,[SC [T4,K0 2],HW],.tup [lw [1,3],i 0]),
 (33,[SC [T4,K0 1]],.tup [HW,i 1,i 1,i 0]),
 (34,[SC [T4,K0 1],HW,i 1,i 1],.bool true),
 (41,[SC [T4,shy,K0 1]],.tup [lw [0],i 0]),
 (42,[SC [T4,shy,K0 1]],.tup [lw [0,1],i 0]),
 (46,[SC [fam 2 0 false false]],.tup [.agg [i 0,i 1],i 2,i 0])]
set_option maxRecDepth 100000 in
theorem A8R:EX Tryz.prog (AE Tryz.prog bN (nV A8Q) 300) 19 []=some (.bool true):=by kernel_rfl
theorem AK0:qZ Tryz.prog A8Q :=
 nW hP KS (nW hP KS (nW hP KS (nW hP KS (nW hP KS (nW hP KS (nW hP KS (nW hP KS F6 BE2) BE1) BE0) BEZ) BEY) BEX) BEW) BEV
theorem hkn:HD Tryz.prog Op.kn:=nW hP AK0 F6 A8R
end Go.Proofs.Tryz.Kn
