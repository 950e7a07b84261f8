/- The program keeps to the walk's form; the wakefulness probe comes to true. No condition. -/
import Derived.Test.YthhdhbalenanjaaGreatGa
import Derived.Test.YthhdhbalenanjaaGreatK1
namespace Go.Proofs.Tryz.Kn
open Go Go.Pg
def A5V:bB:=[
 (20,[SC [TY,KW 1],NC,lw [3,0]],.tup [lw [1,1],i 0]),
 (30,[SC [TY,KW 1],NC],.tup [.list false [[i 0,i 1],[i 1,i 2]],i 0]),
 (31,[SC [TY,KW 2],NC],.tup [lw [1,3],i 0]),
 (33,[SC [TY,KW 1]],.tup [NC,i 1,i 1,i 0]),
 (34,[SC [TY,KW 1],NC,i 1,i 1],.bool true),
 (41,[SC [TY,shy,KW 1]],.tup [lw [0],i 0]),
 (42,[SC [TY,shy,KW 1]],.tup [lw [0,1],i 0]),
 (46,[SC [fam 2 0 false false]],.tup [.agg [i 0,i 1],i 2,i 0])]
set_option maxRecDepth 100000 in
theorem A5W:EM Tryz.prog (AF Tryz.prog bW (oF A5V) 300) 19 []=some (.bool true):=by kernel_rfl
theorem ALG:rJ Tryz.prog A5V :=
 oG hP KN (oG hP KN (oG hP KN (oG hP KN (oG hP KN (oG hP KN (oG hP KN (oG hP KN GA BBG) BBF) BBE) BBD) BBC) BBB) BBA) BA9
theorem hkn:HN Tryz.prog Op.kn:=oG hP ALG GA A5W
end Go.Proofs.Tryz.Kn
