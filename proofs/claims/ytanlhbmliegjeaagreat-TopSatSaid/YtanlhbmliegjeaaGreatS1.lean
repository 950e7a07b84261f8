/- Contracts: asked; the way to the truths of a case. No condition but lists of at most 40. -/
import Derived.Test.YtanlhbmliegjeaaGreatC1
set_option maxRecDepth 100000
set_option linter.unusedSimpArgs false
open Go Go.Pg Go.Proofs Go.Wind
namespace Go.Proofs.Tryz.Op
def pvl(l k γ:Nat):List (List V)->V
 |[]=>.nil
 |_::es=>.vec l k γ (es.length+1)
theorem A2H(l k γ:Nat):pvl l k γ []=.nil:=rfl
theorem BDB(l k γ:Nat)(e:List V)(es:List (List V)):pvl l k γ (e::es)=.vec l k γ (es.length+1):=rfl
theorem rX:sl []=.nil:=rfl
theorem rY(e:List V)(es:List (List V)):sl (e::es)=.list false (e::es):=rfl
end Go.Proofs.Tryz.Op
namespace Go.Wind
end Go.Wind
namespace Go.Proofs.Tryz.Op
section
variable {α:Type}{c:A0}{Lv:α->AA->Nat->Prop}{step:α->List Int->α}{f:FuncId}{caps:List V}{γ0 N0:Nat}
end
end Go.Proofs.Tryz.Op
namespace Go.Wind
end Go.Wind
namespace Go.Proofs.Tryz.Op
end Go.Proofs.Tryz.Op
