/- Contracts: Before, Shorter. No condition. -/
import Derived.Test.YthhdhbalenanjaaGreatW1
import Derived.Test.YthhdhbalenanjaaGreatL
import Derived.Test.YthhdhbalenanjaaGreatFz
set_option maxRecDepth 100000
set_option linter.unusedSimpArgs false
open Go Go.Pg Go.Proofs Go.Wind
namespace Go.Proofs.Tryz.Op
def V6:List Int→List Int→Bool
 |x::xs,y::ys=>if x=y then V6 xs ys else decide (x<y)
 |[],_::_=>true
 |_,[]=>false
def XU(xs ys:List Int):Bool:=decide (xs.length<ys.length)||(decide (xs.length=ys.length)&&V6 xs ys)
end Go.Proofs.Tryz.Op
