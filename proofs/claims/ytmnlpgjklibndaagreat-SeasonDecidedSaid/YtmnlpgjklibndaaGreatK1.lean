/- What some calls of the closed example come to, by computing. No condition. -/
import Derived.Test.YtmnlpgjklibndaaGreatQc
open Go.Proofs.Tryz renaming prog->bj
set_option maxRecDepth 100000
namespace Go.Proofs.Tryz.Kn
open Go Go.Pg
theorem kt0:ES bj (ex []) 115 [bk,i 0]=some (.tup [tv [ln 1 0 1],i 0]):=by kernel_rfl
theorem kt1:ES bj (ex []) 115 [bk,i 1]=some (.tup [tv [ln 1 1 0,ln 1 1 2],i 0]):=by kernel_rfl
theorem kt2:ES bj (ex []) 115 [bk,i 2]=some (.tup [tv [ln 2 0 1,ln 2 1 1],i 0]):=by kernel_rfl
open Go Go.Pg
theorem kt3:ES bj (ex []) 98 [bk]=some (.tup [.agg [i 0,i 1],i 0]):=by kernel_rfl
theorem kt4:ES bj (ex []) 117 [bk,tv [ln 1 0 1,ln 1 1 0,ln 2 0 1]]=some (.bool true):=by kernel_rfl
theorem kt5:ES bj (ex []) 117 [bk,tv [ln 1 0 1,ln 1 1 0,ln 2 1 1]]=some (.bool true):=by kernel_rfl
theorem kt6:ES bj (ex []) 117 [bk,tv [ln 1 0 1,ln 1 1 2,ln 2 0 1]]=some (.bool true):=by kernel_rfl
theorem kt7:ES bj (ex []) 117 [bk,tv [ln 1 0 1,ln 1 1 2,ln 2 1 1]]=some (.bool true):=by kernel_rfl
open Go Go.Pg
def gN:QQ:=[
 (115,[bk,i 0],.tup [tv [ln 1 0 1],i 0]),
 (115,[bk,i 1],.tup [tv [ln 1 1 0,ln 1 1 2],i 0]),
 (115,[bk,i 2],.tup [tv [ln 2 0 1,ln 2 1 1],i 0]),
 (98,[bk],.tup [.agg [i 0,i 1],i 0]),
 (117,[bk,tv [ln 1 0 1,ln 1 1 0,ln 2 0 1]],.bool true),
 (117,[bk,tv [ln 1 0 1,ln 1 1 0,ln 2 1 1]],.bool true),
 (117,[bk,tv [ln 1 0 1,ln 1 1 2,ln 2 0 1]],.bool true),
 (117,[bk,tv [ln 1 0 1,ln 1 1 2,ln 2 1 1]],.bool true)]
theorem KR:iY bj gN :=
 rG (rG (rG (rG (rG (rG (rG (rG (E7) E7 kt7) E7 kt6) E7 kt5) E7 kt4) E7 kt3) E7 kt2) E7 kt1) E7 kt0
end Go.Proofs.Tryz.Kn
