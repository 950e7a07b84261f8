/- The program keeps to the walk's form; the wakefulness probe comes to true. No condition. -/
import Derived.Test.YtanlhbmliegjeaaGreatGa
import Derived.Test.YtanlhbmliegjeaaGreatKTa
namespace Go.Proofs.Tryz.Kn
open Go Go.Pg
def A68:eN:=[(7,[cT],.tup [.list false [[i 0,i 0]],i 2,i 0,i 0]),(10,[.agg bT,pT],.tup [.agg [i 2,i 2],i 0])]
set_option maxRecDepth 100000 in
theorem A69:KD Tryz.prog (AE Tryz.prog A0Q (knX A68) 300) 6 []=some (.bool true):=by kernel_rfl
theorem AKQ:zM Tryz.prog A68:=knA hP SV (knA hP SV SV kTb) kTa
theorem hkn:HP Tryz.prog Op.kn:=knA hP AKQ SV A69
end Go.Proofs.Tryz.Kn
