/- What some calls of the closed example come to, by computing. No condition. -/
import Derived.Test.YtmnlpgjklibndaaGreatK1
open Go.Proofs.Tryz renaming prog->bj
set_option maxRecDepth 100000
namespace Go.Proofs.Tryz.Kn
open Go Go.Pg
theorem BF5:ES bj (ex gN) 21 [ct 1]=some (.tup [lw [3,2,1,3],i 0]):=by kernel_rfl
open Go Go.Pg
theorem BF6:ES bj (ex gN) 23 [ct 1]=some (.tup [lw [3,2,3],i 0]):=by kernel_rfl
open Go Go.Pg
theorem BF7:ES bj (ex gN) 24 [ct 0]=some (.tup [i 1,i 0]):=by kernel_rfl
open Go Go.Pg
theorem BF8:ES bj (ex gN) 30 [ct 1,i 0]=some (.tup [tv [ln 1 0 1,ln 1 1 2,ln 2 0 1],i 0]):=by kernel_rfl
open Go Go.Pg
theorem BF9:ES bj (ex gN) 31 [ct 1,i 0,tv [ln 1 0 1,ln 1 1 2,ln 2 0 1]]=some (.bool true):=by kernel_rfl
open Go Go.Pg
theorem BGA:ES bj (ex gN) 38 [ct 1,i 0]=some (.tup [lw [0,2],i 0]):=by kernel_rfl
open Go Go.Pg
theorem BGB:ES bj (ex gN) 41 [ct 1]=some (.tup [.list false [[lw [0,2]],[lw [2,3]]],i 0]):=by kernel_rfl
open Go Go.Pg
theorem BGC:ES bj (ex gN) 42 [ct 1]=some (.tup [lw [0,1],i 0]):=by kernel_rfl
end Go.Proofs.Tryz.Kn
