/- Contracts: Before, Shorter. No condition. -/
import Derived.Test.YthhdhbalenanjaaGreatW1
set_option maxRecDepth 100000
set_option linter.unusedSimpArgs false
open Go Go.Pg Go.Proofs Go.Wind
namespace Go.Proofs.Tryz.Op
def E9:List Int->List Int->Bool
 |x::xs,y::ys=>if x=y then E9 xs ys else decide (x<y)
 |[],_::_=>true
 |_,[]=>false
theorem rK(xs:List Int):E9 xs []=false:=by cases xs<;>rfl
def FZ(xs ys:List Int):Bool:=decide (xs.length<ys.length)||(decide (xs.length=ys.length)&&E9 xs ys)
end Go.Proofs.Tryz.Op
