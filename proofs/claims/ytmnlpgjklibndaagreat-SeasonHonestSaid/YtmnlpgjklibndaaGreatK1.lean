/- What some calls of the closed example come to, by computing. No condition. -/
import Derived.Test.YtmnlpgjklibndaaGreatQc
open Go.Proofs.Tryz renaming prog->bj
set_option maxRecDepth 100000
namespace Go.Proofs.Tryz.Kn
open Go Go.Pg
theorem kt0:EJ bj (ex []) 115 [bk,i 0]=some (.tup [tv [ln 1 0 1],i 0]):=by kernel_rfl
theorem kt1:EJ bj (ex []) 115 [bk,i 1]=some (.tup [tv [ln 1 1 0,ln 1 1 2],i 0]):=by kernel_rfl
theorem kt2:EJ bj (ex []) 115 [bk,i 2]=some (.tup [tv [ln 2 0 1,ln 2 1 1],i 0]):=by kernel_rfl
open Go Go.Pg
theorem kt3:EJ bj (ex []) 98 [bk]=some (.tup [.agg [i 0,i 1],i 0]):=by kernel_rfl
theorem kt4:EJ bj (ex []) 117 [bk,tv [ln 1 0 1,ln 1 1 0,ln 2 0 1]]=some (.bool true):=by kernel_rfl
theorem kt5:EJ bj (ex []) 117 [bk,tv [ln 1 0 1,ln 1 1 0,ln 2 1 1]]=some (.bool true):=by kernel_rfl
theorem kt6:EJ bj (ex []) 117 [bk,tv [ln 1 0 1,ln 1 1 2,ln 2 0 1]]=some (.bool true):=by kernel_rfl
theorem kt7:EJ bj (ex []) 117 [bk,tv [ln 1 0 1,ln 1 1 2,ln 2 1 1]]=some (.bool true):=by kernel_rfl
open Go Go.Pg
def eL:P8:=[
 (115,[bk,i 0],.tup [tv [ln 1 0 1],i 0]),
 (115,[bk,i 1],.tup [tv [ln 1 1 0,ln 1 1 2],i 0]),
 (115,[bk,i 2],.tup [tv [ln 2 0 1,ln 2 1 1],i 0]),
 (98,[bk],.tup [.agg [i 0,i 1],i 0]),
 (117,[bk,tv [ln 1 0 1,ln 1 1 0,ln 2 0 1]],.bool true),
 (117,[bk,tv [ln 1 0 1,ln 1 1 0,ln 2 1 1]],.bool true),
 (117,[bk,tv [ln 1 0 1,ln 1 1 2,ln 2 0 1]],.bool true),
 (117,[bk,tv [ln 1 0 1,ln 1 1 2,ln 2 1 1]],.bool true)]
theorem J6:gA bj eL :=
 oC (oC (oC (oC (oC (oC (oC (oC (E0) E0 kt7) E0 kt6) E0 kt5) E0 kt4) E0 kt3) E0 kt2) E0 kt1) E0 kt0
end Go.Proofs.Tryz.Kn
