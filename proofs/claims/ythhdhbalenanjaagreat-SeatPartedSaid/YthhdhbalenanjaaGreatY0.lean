/- The program keeps to the walk's form; the wakefulness probe comes to true. No condition. -/
import Derived.Test.YthhdhbalenanjaaGreatGa
import Derived.Test.YthhdhbalenanjaaGreatK1
namespace Go.Proofs.Tryz.Kn
open Go Go.Pg
def A6I:Z4:=[
 (20,[SC [TG,KN 1],M9,lw [3,0]],.tup [lw [1,1],i 0]),
 (30,[SC [TG,KN 1],M9],.tup [.list false [[i 0,i 1],[i 1,i 2]],i 0]),
 (31,[SC [TG,KN 2],M9],.tup [lw [1,3],i 0]),
 (33,[SC [TG,KN 1]],.tup [M9,i 1,i 1,i 0]),
 (34,[SC [TG,KN 1],M9,i 1,i 1],.bool true),
 (41,[SC [TG,shy,KN 1]],.tup [lw [0],i 0]),
 (42,[SC [TG,shy,KN 1]],.tup [lw [0,1],i 0]),
 (46,[SC [fam 2 0 false false]],.tup [.agg [i 0,i 1],i 2,i 0])]
set_option maxRecDepth 100000 in
theorem A6J:EG Tryz.prog (AF Tryz.prog aT (mX A6I) 300) 19 []=some (.bool true):=by kernel_rfl
theorem AJ9:pU Tryz.prog A6I :=
 mY hP KF (mY hP KF (mY hP KF (mY hP KF (mY hP KF (mY hP KF (mY hP KF (mY hP KF F6 BB3) BB2) BB1) BB0) BBZ) BBY) BBX) BBW
theorem hkn:HE Tryz.prog Op.kn:=mY hP AJ9 F6 A6J
end Go.Proofs.Tryz.Kn
