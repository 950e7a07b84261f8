/- Contract: Content. No condition but a valid case. -/
import Derived.Test.YthhdhbalenanjaaGreatSi
import Derived.Test.YthhdhbalenanjaaGreatFz
set_option maxRecDepth 100000
set_option linter.unusedSimpArgs false
open Go Go.Pg Go.Proofs Go.Wind
namespace Go.Proofs.Tryz.Op
def BB5(c:AO)(ss:List (Int×Int))(o:List Int×Int)(t:List Int):List Int×Int:=(AP7 c (A2 c ss) (O1 c t) o.1 (A2 c ss).length,IntKind.i64.wrap (o.2+1))
theorem LvC.more{c:AO}{ss:List (Int×Int)}{o:List Int×Int}{L:AA}{k k':Nat}(h:LvC c ss o L k)(hk:k≤k'):LvC c ss o L k':=by obtain⟨p2,p6,p8,p9,p10,p25,p4,p5,p7⟩:=h;exact⟨p2,p6,p8,p9,p10,p25,p4,by omega,p7⟩
def BB6(nn x:Int):Int:=if x=nn then 1 else if x=0 then 2 else 3
def BXP(nn:Int)(cs:List Int)(k:Nat):List Int:=(cs.take k).map (BB6 nn)++cs.drop k
def lvN(X2 X6 X8:A6)(z:Option (Nat×A6))(nn:Int)(cs:List Int):AA:=(2,0,X2)::(6,1,X6)::(8,2,X8)::(9,4,.box [.vec 0 25 3 cs.length])::(10,5,.box [i nn])::kl 16 [(25,3,.vec 3 (cs.map AJ))] z
def ATR(c:AO)(ss:List (Int×Int)):List Int×Int:=(ABE c.beach).foldl (BB5 c ss) (List.replicate c.fams.length 0,0)
def BB7(c:AO)(ss:List (Int×Int)):List Int:=(ATR c ss).1.map (BB6 (ATR c ss).2)
end Go.Proofs.Tryz.Op
