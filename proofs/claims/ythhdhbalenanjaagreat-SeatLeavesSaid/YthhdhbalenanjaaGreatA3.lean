/- A case without some families: it stays valid, its best seating is there just if the groups left can be seated. Plain law of SeatLeft and SeatParted. No program. -/
import Derived.Test.YthhdhbalenanjaaGreatA2
set_option maxRecDepth 100000
open Go Go.Pg Go.Proofs Go.Wind
namespace Go.Proofs.Tryz.Op
theorem RV{c:AP}{k:Nat}(hk:k<c.fams.length):BO c k∈c.fams:=by simp[BO,List.getElem?_eq_getElem hk]
theorem AC5(n:Nat)(out:List Int):(KP n out).length<=n:=by unfold KP;have:=List.length_filter_le (fun k:Nat=>!decide ((k:Int)∈out)) (List.range n);rwa [List.length_range]at this
theorem rY{n:Nat}{a b:List Int}(h:∀k:Nat,k<n->((k:Int)∈a↔(k:Int)∈b)):KP n a=KP n b:=by unfold KP;exact List.filter_congr fun k hk=>by rw[decide_eq_decide.2 (h k (List.mem_range.1 hk))]
end Go.Proofs.Tryz.Op
