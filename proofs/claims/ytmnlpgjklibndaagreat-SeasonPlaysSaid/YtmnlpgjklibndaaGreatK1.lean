/- What some calls of the closed example come to, by computing. No condition. -/
import Derived.Test.YtmnlpgjklibndaaGreatQc
open Go.Proofs.Tryz renaming prog->bj
set_option maxRecDepth 100000
namespace Go.Proofs.Tryz.Kn
open Go Go.Pg
theorem kt0:DW bj (ex []) 115 [bk,i 0]=some (.tup [tv [ln 1 0 1],i 0]):=by kernel_rfl
theorem kt1:DW bj (ex []) 115 [bk,i 1]=some (.tup [tv [ln 1 1 0,ln 1 1 2],i 0]):=by kernel_rfl
theorem kt2:DW bj (ex []) 115 [bk,i 2]=some (.tup [tv [ln 2 0 1,ln 2 1 1],i 0]):=by kernel_rfl
open Go Go.Pg
theorem kt3:DW bj (ex []) 98 [bk]=some (.tup [.agg [i 0,i 1],i 0]):=by kernel_rfl
theorem kt4:DW bj (ex []) 117 [bk,tv [ln 1 0 1,ln 1 1 0,ln 2 0 1]]=some (.bool true):=by kernel_rfl
theorem kt5:DW bj (ex []) 117 [bk,tv [ln 1 0 1,ln 1 1 0,ln 2 1 1]]=some (.bool true):=by kernel_rfl
theorem kt6:DW bj (ex []) 117 [bk,tv [ln 1 0 1,ln 1 1 2,ln 2 0 1]]=some (.bool true):=by kernel_rfl
theorem kt7:DW bj (ex []) 117 [bk,tv [ln 1 0 1,ln 1 1 2,ln 2 1 1]]=some (.bool true):=by kernel_rfl
open Go Go.Pg
def aE:ON:=[
 (115,[bk,i 0],.tup [tv [ln 1 0 1],i 0]),
 (115,[bk,i 1],.tup [tv [ln 1 1 0,ln 1 1 2],i 0]),
 (115,[bk,i 2],.tup [tv [ln 2 0 1,ln 2 1 1],i 0]),
 (98,[bk],.tup [.agg [i 0,i 1],i 0]),
 (117,[bk,tv [ln 1 0 1,ln 1 1 0,ln 2 0 1]],.bool true),
 (117,[bk,tv [ln 1 0 1,ln 1 1 0,ln 2 1 1]],.bool true),
 (117,[bk,tv [ln 1 0 1,ln 1 1 2,ln 2 0 1]],.bool true),
 (117,[bk,tv [ln 1 0 1,ln 1 1 2,ln 2 1 1]],.bool true)]
theorem JD:bT bj aE :=
 iT (iT (iT (iT (iT (iT (iT (iT (EE) EE kt7) EE kt6) EE kt5) EE kt4) EE kt3) EE kt2) EE kt1) EE kt0
end Go.Proofs.Tryz.Kn
