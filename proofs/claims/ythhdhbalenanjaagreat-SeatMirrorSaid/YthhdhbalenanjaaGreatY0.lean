/- The program keeps to the walk's form; the wakefulness probe comes to true. No condition. -/
import Derived.Test.YthhdhbalenanjaaGreatGa
import Derived.Test.YthhdhbalenanjaaGreatK1
namespace Go.Proofs.Tryz.Kn
open Go Go.Pg
def A7Y:bY:=[
 (20,[SC [UQ,K4 1],NT,lw [3,0]],.tup [lw [1,1],i 0]),
 (30,[SC [UQ,K4 1],NT],.tup [.list false [[i 0,i 1],[i 1,i 2]],i 0]),
 (31,[SC [UQ,K4 2],NT],.tup [lw [1,3],i 0]),
 (33,[SC [UQ,K4 1]],.tup [NT,i 1,i 1,i 0]),
 (34,[SC [UQ,K4 1],NT,i 1,i 1],.bool true),
 (41,[SC [UQ,shy,K4 1]],.tup [lw [0],i 0]),
 (42,[SC [UQ,shy,K4 1]],.tup [lw [0,1],i 0]),
 (46,[SC [fam 2 0 false false]],.tup [.agg [i 0,i 1],i 2,i 0])]
set_option maxRecDepth 100000 in
theorem A7Z:EQ Tryz.prog (AE Tryz.prog cX (pU A7Y) 300) 19 []=some (.bool true):=by kernel_rfl
theorem ANA:tO Tryz.prog A7Y :=
 pV hP KV (pV hP KV (pV hP KV (pV hP KV (pV hP KV (pV hP KV (pV hP KV (pV hP KV GI BDP) BDO) BDN) BDM) BDL) BDK) BDJ) BDI
theorem hkn:HW Tryz.prog Op.kn:=pV hP ANA GI A7Z
end Go.Proofs.Tryz.Kn
