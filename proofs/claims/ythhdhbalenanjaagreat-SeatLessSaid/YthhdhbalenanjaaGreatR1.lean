/- Contracts: Before, Shorter. No condition. -/
import Derived.Test.YthhdhbalenanjaaGreatW1
set_option maxRecDepth 100000
set_option linter.unusedSimpArgs false
open Go Go.Pg Go.Proofs Go.Wind
namespace Go.Proofs.Tryz.Op
def FO:List Int->List Int->Bool
 |x::xs,y::ys=>if x=y then FO xs ys else decide (x<y)
 |[],_::_=>true
 |_,[]=>false
theorem rQ(xs:List Int):FO xs []=false:=by cases xs<;>rfl
def GM(xs ys:List Int):Bool:=decide (xs.length<ys.length)||(decide (xs.length=ys.length)&&FO xs ys)
end Go.Proofs.Tryz.Op
