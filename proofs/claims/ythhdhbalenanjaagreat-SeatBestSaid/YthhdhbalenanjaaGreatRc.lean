/- Contracts: Before, Shorter. No condition. -/
import Derived.Test.YthhdhbalenanjaaGreatW1
set_option maxRecDepth 100000
set_option linter.unusedSimpArgs false
open Go Go.Pg Go.Proofs Go.Wind
namespace Go.Proofs.Tryz.Op
def zL:List Int->List Int->Bool
 |x::xs,y::ys=>if x=y then zL xs ys else decide (x<y)
 |[],_::_=>true
 |_,[]=>false
def AIH(xs ys:List Int):Bool:=decide (xs.length<ys.length)||(decide (xs.length=ys.length)&&zL xs ys)
end Go.Proofs.Tryz.Op
