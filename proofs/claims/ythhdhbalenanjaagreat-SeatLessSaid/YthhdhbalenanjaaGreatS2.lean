/- Contracts: wider; what Bounds does in a truth. No condition but a valid case. -/
import Derived.Test.YthhdhbalenanjaaGreatS1
set_option maxRecDepth 100000
set_option linter.unusedSimpArgs false
open Go Go.Pg Go.Proofs Go.Wind
namespace Go.Wind
end Go.Wind
namespace Go.Proofs.Tryz.Op
@[simp] theorem A87:GL Tryz.prog 80=false:=by kernel_rfl
theorem D9{n k l d a b g o:Nat}(f:Nat):JX n k l d (f+1) (.vec a b g o)=if a=n/\b=k then .vec l d g o else .vec a b g o:=rfl
structure LvB(c:AU)(ss:List (Int×Int))(o:List (Int×Int))(L:AA)(k:Nat):Prop where
 p2:L.get 2=some (0,.box (AE c))
 p6:L.get 6=some (1,.box [sl ((ABF c ss).map A6)])
 p8:∃γ,γ<k/\L.get 8=some (2,.box [pvl 0 920 γ (o.map NK)])/\(o≠[]->L.get 920=some (γ,.vec 69 (o.map NK)))
 st:∀t:St,1<=t.up.length->AJ t L=L
 b2:2<k
 le:o.length<=10
structure LvC(c:AU)(ss:List (Int×Int))(o:List Int×Int)(L:AA)(k:Nat):Prop where
 p2:L.get 2=some (0,.box (AE c))
 p6:L.get 6=some (1,.box [sl ((ABF c ss).map A6)])
 p8:L.get 8=some (2,.box [.fn 81 [] []])
 p9:L.get 9=some (4,.box [.vec 0 25 3 o.1.length])
 p10:L.get 10=some (5,.box [i o.2])
 p25:L.get 25=some (3,.vec 3 (o.1.map AH))
 st:∀t:St,1<=t.up.length->AJ t L=L
 b2:5<k
 le:o.1.length=c.fams.length
end Go.Proofs.Tryz.Op
