/- The program keeps to the walk's form; the wakefulness probe comes to true. No condition. -/
import Derived.Test.YthhdhbalenanjaaGreatGa
import Derived.Test.YthhdhbalenanjaaGreatK1
namespace Go.Proofs.Tryz.Kn
open Go Go.Pg
def A92:dH:=[
 (20,[SC [US,K5 1],NP,lw [3,0]],.tup [lw [1,1],i 0]),
 (30,[SC [US,K5 1],NP],.tup [.list false [[i 0,i 1],[i 1,i 2]],i 0]),
 (31,[SC [US,K5 2],NP],.tup [lw [1,3],i 0]),
 (33,[SC [US,K5 1]],.tup [NP,i 1,i 1,i 0]),
 (34,[SC [US,K5 1],NP,i 1,i 1],.bool true),
 (41,[SC [US,shy,K5 1]],.tup [lw [0],i 0]),
 (42,[SC [US,shy,K5 1]],.tup [lw [0,1],i 0]),
 (46,[SC [fam 2 0 false false]],.tup [.agg [i 0,i 1],i 2,i 0])]
set_option maxRecDepth 100000 in
theorem A93:E1 Tryz.prog (AE Tryz.prog eI (rP A92) 300) 19 []=some (.bool true):=by kernel_rfl
theorem AOF:uO Tryz.prog A92 :=
 rQ hP KW (rQ hP KW (rQ hP KW (rQ hP KW (rQ hP KW (rQ hP KW (rQ hP KW (rQ hP KW GI BFY) BFX) BFW) BFV) BFU) BFT) BFS) BFR
theorem hkn:HL Tryz.prog Op.kn:=rQ hP AOF GI A93
end Go.Proofs.Tryz.Kn
