/- The program keeps to the walk's form; the wakefulness probe comes to true. No condition. -/
import Derived.Test.YtmnlpgjklibndaaGreatK2
namespace Go.Proofs.Tryz.Kn
open Go Go.Pg
def A92:QQ:=[
 (21,[ct 1],.tup [lw [3,2,1,3],i 0]),
 (23,[ct 1],.tup [lw [3,2,3],i 0]),
 (24,[ct 0],.tup [i 1,i 0]),
 (30,[ct 1,i 0],.tup [tv [ln 1 0 1,ln 1 1 2,ln 2 0 1],i 0]),
 (31,[ct 1,i 0,tv [ln 1 0 1,ln 1 1 2,ln 2 0 1]],.bool true),
 (38,[ct 1,i 0],.tup [lw [0,2],i 0]),
 (41,[ct 1],.tup [.list false [[lw [0,2]],[lw [2,3]]],i 0]),
 (42,[ct 1],.tup [lw [0,1],i 0])]
theorem AMM:iY Tryz.prog A92 :=
 rG (rG (rG (rG (rG (rG (rG (rG (E7) KR BGC) KR BGB) KR BGA) KR BF9) KR BF8) KR BF7) KR BF6) KR BF5
set_option maxRecDepth 100000 in
theorem A93:ES Tryz.prog (ex A92) 20 []=some (.bool true):=by kernel_rfl
theorem AWQ(a:Option Addr)(k:Nat):∃r,ES Tryz.prog (ex []) 118 [.raw (.slice a 0 k)]=some r/\weakM r=.list false []:=by
 cases a with
 |none=>exact⟨.nil,by kernel_rfl,rfl⟩
 |some a=>exact⟨.list false [],by kernel_rfl,rfl⟩
theorem hkn:EX Tryz.prog Op.kn:=uB (oK Op.is_ok) (uB (ALN hP (KI hP (uC E7) 300) AWQ) (oN E7 (LV hP (KI hP (uC AMM) 300) _ _ _ A93)))
end Go.Proofs.Tryz.Kn
