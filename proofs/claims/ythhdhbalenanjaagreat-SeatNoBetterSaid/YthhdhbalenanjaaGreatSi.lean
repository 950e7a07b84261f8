/- What Content does in a truth. No condition but a valid case. -/
import Derived.Test.YthhdhbalenanjaaGreatSh
set_option maxRecDepth 100000
set_option linter.unusedSimpArgs false
open Go Go.Pg Go.Proofs Go.Wind
namespace Go.Proofs.Tryz.Op
def BNQ(H:List (List JO))(x:Sp):List JO:=((H.getD x.row.toNat []).take (x.place+x.size).toNat).drop x.place.toNat
def BB4(good:Int)(H:List (List JO))(x:Sp):Bool:=(BNQ H x).all fun h=>decide (good≤h.good)
def AP7(c:AO)(S:List Sp)(H:List (List JO))(o:List Int):Nat→List Int
 |0=>o
 |k+1=>if BB4 ((c.fams.map (·.good)).getD k 0) H (S.getD k ⟨0,0,0,0⟩)=true then(AP7 c S H o k).set k (IntKind.i64.wrap ((AP7 c S H o k).getD k 0+1)) else AP7 c S H o k
structure LvC(c:AO)(ss:List (Int×Int))(o:List Int×Int)(L:AA)(k:Nat):Prop where
 p2:L.get 2=some (0,.box (AD c))
 p6:L.get 6=some (1,.box [sl ((A2 c ss).map AQ)])
 p8:L.get 8=some (2,.box [.fn 81 [] []])
 p9:L.get 9=some (4,.box [.vec 0 25 3 o.1.length])
 p10:L.get 10=some (5,.box [i o.2])
 p25:L.get 25=some (3,.vec 3 (o.1.map AJ))
 st:∀t:St,1≤t.up.length→AL t L=L
 b2:5<k
 le:o.1.length=c.fams.length
end Go.Proofs.Tryz.Op
