/- The program keeps to the walk's form; the wakefulness probe comes to true. No condition. -/
import Derived.Test.YtmnlpgjklibndaaGreatK2
namespace Go.Proofs.Tryz.Kn
open Go Go.Pg
def A6M:P8:=[
 (21,[ct 1],.tup [lw [3,2,1,3],i 0]),
 (23,[ct 1],.tup [lw [3,2,3],i 0]),
 (24,[ct 0],.tup [i 1,i 0]),
 (30,[ct 1,i 0],.tup [tv [ln 1 0 1,ln 1 1 2,ln 2 0 1],i 0]),
 (31,[ct 1,i 0,tv [ln 1 0 1,ln 1 1 2,ln 2 0 1]],.bool true),
 (38,[ct 1,i 0],.tup [lw [0,2],i 0]),
 (41,[ct 1],.tup [.list false [[lw [0,2]],[lw [2,3]]],i 0]),
 (42,[ct 1],.tup [lw [0,1],i 0])]
theorem AJ0:gA Tryz.prog A6M :=
 oC (oC (oC (oC (oC (oC (oC (oC (E0) J6 BCM) J6 BCL) J6 BCK) J6 BCJ) J6 BCI) J6 BCH) J6 BCG) J6 BCF
set_option maxRecDepth 100000 in
theorem A6N:EJ Tryz.prog (ex A6M) 20 []=some (.bool true):=by kernel_rfl
theorem ATK(a:Option Addr)(k:Nat):∃r,EJ Tryz.prog (ex []) 118 [.raw (.slice a 0 k)]=some r/\weakM r=.list false []:=by
 cases a with
 |none=>exact⟨.nil,by kernel_rfl,rfl⟩
 |some a=>exact⟨.list false [],by kernel_rfl,rfl⟩
theorem hkn:EN Tryz.prog Op.kn:=rP (mH Op.is_ok) (rP (AI1 hP (JV hP (rQ E0) 300) ATK) (mK E0 (K7 hP (JV hP (rQ AJ0) 300) _ _ _ A6N)))
end Go.Proofs.Tryz.Kn
