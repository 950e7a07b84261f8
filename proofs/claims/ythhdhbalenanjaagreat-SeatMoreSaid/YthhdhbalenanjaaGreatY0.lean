/- The program keeps to the walk's form; the wakefulness probe comes to true. No condition. -/
import Derived.Test.YthhdhbalenanjaaGreatGa
import Derived.Test.YthhdhbalenanjaaGreatK1
namespace Go.Proofs.Tryz.Kn
open Go Go.Pg
def BD2:eG:=[
 (20,[SC [VV,LZ 1],K2,lw [3,0]],.tup [lw [1,1],i 0]),
 (30,[SC [VV,LZ 1],K2],.tup [.list false [[i 0,i 1],[i 1,i 2]],i 0]),
 (31,[SC [VV,LZ 2],K2],.tup [lw [1,3],i 0]),
 (33,[SC [VV,LZ 1]],.tup [K2,i 1,i 1,i 0]),
 (34,[SC [VV,LZ 1],K2,i 1,i 1],.bool true),
 (41,[SC [VV,shy,LZ 1]],.tup [lw [0],i 0]),
 (42,[SC [VV,shy,LZ 1]],.tup [lw [0,1],i 0]),
 (46,[SC [fam 2 0 false false]],.tup [.agg [i 0,i 1],i 2,i 0])]
set_option maxRecDepth 100000 in
theorem BD3:E7 Tryz.prog (AE Tryz.prog fL (tA BD2) 300) 19 []=some (.bool true):=by kernel_rfl
theorem APV:vW Tryz.prog BD2 :=
 tC hP LO (tC hP LO (tC hP LO (tC hP LO (tC hP LO (tC hP LO (tC hP LO (tC hP LO G8 BJ7) BJ6) BJ5) BJ4) BJ3) BJ2) BJ1) BJ0
theorem hkn:IA Tryz.prog Op.kn:=tC hP APV G8 BD3
end Go.Proofs.Tryz.Kn
