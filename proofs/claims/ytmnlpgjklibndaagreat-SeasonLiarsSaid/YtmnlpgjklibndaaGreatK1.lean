/- What some calls of the closed example come to, by computing. No condition. -/
import Derived.Test.YtmnlpgjklibndaaGreatQc
open Go.Proofs.Tryz renaming prog->bj
set_option maxRecDepth 100000
namespace Go.Proofs.Tryz.Kn
open Go Go.Pg
theorem kt0:EB bj (ex []) 115 [bk,i 0]=some (.tup [tv [ln 1 0 1],i 0]):=by kernel_rfl
theorem kt1:EB bj (ex []) 115 [bk,i 1]=some (.tup [tv [ln 1 1 0,ln 1 1 2],i 0]):=by kernel_rfl
theorem kt2:EB bj (ex []) 115 [bk,i 2]=some (.tup [tv [ln 2 0 1,ln 2 1 1],i 0]):=by kernel_rfl
open Go Go.Pg
theorem kt3:EB bj (ex []) 98 [bk]=some (.tup [.agg [i 0,i 1],i 0]):=by kernel_rfl
theorem kt4:EB bj (ex []) 117 [bk,tv [ln 1 0 1,ln 1 1 0,ln 2 0 1]]=some (.bool true):=by kernel_rfl
theorem kt5:EB bj (ex []) 117 [bk,tv [ln 1 0 1,ln 1 1 0,ln 2 1 1]]=some (.bool true):=by kernel_rfl
theorem kt6:EB bj (ex []) 117 [bk,tv [ln 1 0 1,ln 1 1 2,ln 2 0 1]]=some (.bool true):=by kernel_rfl
theorem kt7:EB bj (ex []) 117 [bk,tv [ln 1 0 1,ln 1 1 2,ln 2 1 1]]=some (.bool true):=by kernel_rfl
open Go Go.Pg
def dC:PM:=[
 (115,[bk,i 0],.tup [tv [ln 1 0 1],i 0]),
 (115,[bk,i 1],.tup [tv [ln 1 1 0,ln 1 1 2],i 0]),
 (115,[bk,i 2],.tup [tv [ln 2 0 1,ln 2 1 1],i 0]),
 (98,[bk],.tup [.agg [i 0,i 1],i 0]),
 (117,[bk,tv [ln 1 0 1,ln 1 1 0,ln 2 0 1]],.bool true),
 (117,[bk,tv [ln 1 0 1,ln 1 1 0,ln 2 1 1]],.bool true),
 (117,[bk,tv [ln 1 0 1,ln 1 1 2,ln 2 0 1]],.bool true),
 (117,[bk,tv [ln 1 0 1,ln 1 1 2,ln 2 1 1]],.bool true)]
theorem JS:eS bj dC :=
 mL (mL (mL (mL (mL (mL (mL (mL (ES) ES kt7) ES kt6) ES kt5) ES kt4) ES kt3) ES kt2) ES kt1) ES kt0
end Go.Proofs.Tryz.Kn
