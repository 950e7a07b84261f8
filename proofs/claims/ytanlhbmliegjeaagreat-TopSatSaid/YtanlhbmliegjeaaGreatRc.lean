/- Contracts: Before, Shorter. No condition. -/
import Derived.Test.YtanlhbmliegjeaaGreatW1
set_option maxRecDepth 100000
set_option linter.unusedSimpArgs false
open Go Go.Pg Go.Proofs Go.Wind
namespace Go.Proofs.Tryz.Op
def vS:List Int->List Int->Bool
 |x::xs,y::ys=>if x=y then vS xs ys else decide (x<y)
 |[],_::_=>true
 |_,[]=>false
def AEM(xs ys:List Int):Bool:=decide (xs.length<ys.length)||(decide (xs.length=ys.length)&&vS xs ys)
end Go.Proofs.Tryz.Op
