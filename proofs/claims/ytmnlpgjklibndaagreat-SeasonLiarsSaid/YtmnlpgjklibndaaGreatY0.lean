/- The program keeps to the walk's form; the wakefulness probe comes to true. No condition. -/
import Derived.Test.YtmnlpgjklibndaaGreatK2
namespace Go.Proofs.Tryz.Kn
open Go Go.Pg
def A4U:PM:=[
 (21,[ct 1],.tup [lw [3,2,1,3],i 0]),
 (23,[ct 1],.tup [lw [3,2,3],i 0]),
 (24,[ct 0],.tup [i 1,i 0]),
 (30,[ct 1,i 0],.tup [tv [ln 1 0 1,ln 1 1 2,ln 2 0 1],i 0]),
 (31,[ct 1,i 0,tv [ln 1 0 1,ln 1 1 2,ln 2 0 1]],.bool true),
 (38,[ct 1,i 0],.tup [lw [0,2],i 0]),
 (41,[ct 1],.tup [.list false [[lw [0,2]],[lw [2,3]]],i 0]),
 (42,[ct 1],.tup [lw [0,1],i 0])]
theorem AIN:eS Tryz.prog A4U :=
 mL (mL (mL (mL (mL (mL (mL (mL (ES) JS BAS) JS BAR) JS BAQ) JS BAP) JS BAO) JS BAN) JS BAM) JS BAL
set_option maxRecDepth 100000 in
theorem A4V:EB Tryz.prog (ex A4U) 20 []=some (.bool true):=by kernel_rfl
theorem ARY(a:Option Addr)(k:Nat):∃r,EB Tryz.prog (ex []) 118 [.raw (.slice a 0 k)]=some r/\weakM r=.list false []:=by
 cases a with
 |none=>exact⟨.nil,by kernel_rfl,rfl⟩
 |some a=>exact⟨.list false [],by kernel_rfl,rfl⟩
theorem hkn:EF Tryz.prog Op.kn:=pE (kO Op.is_ok) (pE (AHO hP (JH hP (pF ES) 300) ARY) (kT ES (KQ hP (JH hP (pF AIN) 300) _ _ _ A4V)))
end Go.Proofs.Tryz.Kn
