/- The program keeps to the walk's form; the wakefulness probe comes to true. No condition. -/
import Derived.Test.YtmnlpgjklibndaaGreatK2
namespace Go.Proofs.Tryz.Kn
open Go Go.Pg
def AZU:ON:=[
 (21,[ct 1],.tup [lw [3,2,1,3],i 0]),
 (23,[ct 1],.tup [lw [3,2,3],i 0]),
 (24,[ct 0],.tup [i 1,i 0]),
 (30,[ct 1,i 0],.tup [tv [ln 1 0 1,ln 1 1 2,ln 2 0 1],i 0]),
 (31,[ct 1,i 0,tv [ln 1 0 1,ln 1 1 2,ln 2 0 1]],.bool true),
 (38,[ct 1,i 0],.tup [lw [0,2],i 0]),
 (41,[ct 1],.tup [.list false [[lw [0,2]],[lw [2,3]]],i 0]),
 (42,[ct 1],.tup [lw [0,1],i 0])]
theorem AE1:bT Tryz.prog AZU :=
 iT (iT (iT (iT (iT (iT (iT (iT (EE) JD A5M) JD A5L) JD A5K) JD A5J) JD A5I) JD A5H) JD A5G) JD A5F
set_option maxRecDepth 100000 in
theorem AZV:DW Tryz.prog (ex AZU) 20 []=some (.bool true):=by kernel_rfl
theorem ANO(a:Option Addr)(k:Nat):∃r,DW Tryz.prog (ex []) 118 [.raw (.slice a 0 k)]=some r/\weakM r=.list false []:=by
 cases a with
 |none=>exact⟨.nil,by kernel_rfl,rfl⟩
 |some a=>exact⟨.list false [],by kernel_rfl,rfl⟩
theorem hkn:DZ Tryz.prog Op.kn:=lO (gD Op.is_ok) (lO (AD2 hP (J7 hP (lP EE) 300) ANO) (gG EE (J3 hP (J7 hP (lP AE1) 300) _ _ _ AZV)))
end Go.Proofs.Tryz.Kn
