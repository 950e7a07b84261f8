/- Contracts: isClaim, Deny, ProveDenial. No condition. -/
import Derived.Test.YtmnlpgjklibndaaGreatJ2
set_option maxRecDepth 100000
set_option linter.unusedSimpArgs false
open Go Go.Pg Go.Proofs Go.Season
namespace Go.Proofs.Tryz.Op
theorem AEK(n:Nat)(c:BC)(k:Int)(hc:c.claims.length<=4611686018427387904):AW Tryz.prog kn (AH Tryz.prog ann kn (n+200)) 77 [.agg (AC c),i k]=some (.bool (D7 k 0 ((c.claims.length:Int)-1))):=by rw[AO rfl,AP Tryz.func77 b77 rfl (by simp[AC,AB,AM,AG,AL])];have hw:IntKind.i64.wrap ((c.claims.length:Int)-1)=(c.claims.length:Int)-1:=AU (by omega) (by omega);have q:=fun n=>kIn n k 0 ((c.claims.length:Int)-1);simp only[AC];simp[c77,AJ,q,hw,AB,AM,AG,AL]
theorem yU(c:BC)(k:Nat)(t:St)(h:1<=t.up.length):AQ t [(k,0,.box (AC c))]=[(k,0,.box (AC c))]:=by obtain⟨up,loc⟩:=t;simp[AC,AB,AM,AG,AL]
def bW:Wrd:=⟨0,false,0,false⟩
theorem yV(n:Nat)(c:BC)(k:Int)(hc:c.claims.length<=4611686018427387904):AW Tryz.prog kn (AH Tryz.prog ann kn (n+200)) 33 [.agg (AC c),i k]=some (.bool (D7 k 0 ((c.claims.length:Int)-1))):=by rw[AO rfl,AP Tryz.func33 b33 rfl (by simp[AC,AB,AM,AG,AL])];have hw:IntKind.i64.wrap ((c.claims.length:Int)-1)=(c.claims.length:Int)-1:=AU (by omega) (by omega);have q:=fun n=>k25 n k 0 ((c.claims.length:Int)-1);simp only[AC];simp[c33,AJ,q,hw,AB,AM,AG,AL]
end Go.Proofs.Tryz.Op
