/- The program keeps to the walk's form; the wakefulness probe comes to true. No condition. -/
import Derived.Test.YthhdhbalenanjaaGreatGa
import Derived.Test.YthhdhbalenanjaaGreatK1
namespace Go.Proofs.Tryz.Kn
open Go Go.Pg
def A73:aS:=[
 (20,[SC [TX,KW 1],NG,lw [3,0]],.tup [lw [1,1],i 0]),
 (30,[SC [TX,KW 1],NG],.tup [.list false [[i 0,i 1],[i 1,i 2]],i 0]),
 (31,[SC [TX,KW 2],NG],.tup [lw [1,3],i 0]),
 (33,[SC [TX,KW 1]],.tup [NG,i 1,i 1,i 0]),
 (34,[SC [TX,KW 1],NG,i 1,i 1],.bool true),
 (41,[SC [TX,shy,KW 1]],.tup [lw [0],i 0]),
 (42,[SC [TX,shy,KW 1]],.tup [lw [0,1],i 0]),
 (46,[SC [fam 2 0 false false]],.tup [.agg [i 0,i 1],i 2,i 0])]
set_option maxRecDepth 100000 in
theorem A74:EK Tryz.prog (AE Tryz.prog bT (nU A73) 300) 19 []=some (.bool true):=by kernel_rfl
theorem ALD:qR Tryz.prog A73 :=
 nV hP KO (nV hP KO (nV hP KO (nV hP KO (nV hP KO (nV hP KO (nV hP KO (nV hP KO GG BDV) BDU) BDT) BDS) BDR) BDQ) BDP) BDO
theorem hkn:HL Tryz.prog Op.kn:=nV hP ALD GG A74
end Go.Proofs.Tryz.Kn
