/- The program keeps to the walk's form; the wakefulness probe comes to true. No condition. -/
import Derived.Test.YthhdhbalenanjaaGreatGa
import Derived.Test.YthhdhbalenanjaaGreatK1
namespace Go.Proofs.Tryz.Kn
open Go Go.Pg
def A9A:aV:=[
 (20,[SC [T8,K0 1],H3,lw [3,0]],.tup [lw [1,1],i 0]),
 (30,[SC [T8,K0 1],H3],.tup [.list false [[i 0,i 1],[i 1,i 2]],i 0]),
 (31,[SC [T8,K0 2],H3],.tup [lw [1,3],i 0]),
 (33,[SC [T8,K0 1]],.tup [H3,i 1,i 1,i 0]),
 (34,[SC [T8,K0 1],H3,i 1,i 1],.bool true),
 (41,[SC [T8,shy,K0 1]],.tup [lw [0],i 0]),
 (42,[SC [T8,shy,K0 1]],.tup [lw [0,1],i 0]),
 (46,[SC [fam 2 0 false false]],.tup [.agg [i 0,i 1],i 2,i 0])]
set_option maxRecDepth 100000 in
theorem A9B:E4 Tryz.prog (AE Tryz.prog bS (oI A9A) 300) 19 []=some (.bool true):=by kernel_rfl
theorem ALL:rM Tryz.prog A9A :=
 oJ hP KS (oJ hP KS (oJ hP KS (oJ hP KS (oJ hP KS (oJ hP KS (oJ hP KS (oJ hP KS GC BFM) BFL) BFK) BFJ) BFI) BFH) BFG) BFF
theorem hkn:HJ Tryz.prog Op.kn:=oJ hP ALL GC A9B
end Go.Proofs.Tryz.Kn
