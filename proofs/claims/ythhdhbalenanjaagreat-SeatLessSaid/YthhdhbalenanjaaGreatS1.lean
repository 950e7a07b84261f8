/- Contracts: asked; the way to the truths of a case. No condition but lists of at most 40. -/
import Derived.Test.YthhdhbalenanjaaGreatC1
set_option maxRecDepth 100000
set_option linter.unusedSimpArgs false
open Go Go.Pg Go.Proofs Go.Wind
namespace Go.Proofs.Tryz.Op
def pvl(l k γ:Nat):List (List V)->V
 |[]=>.nil
 |_::es=>.vec l k γ (es.length+1)
theorem A3X(l k γ:Nat):pvl l k γ []=.nil:=rfl
theorem BEJ(l k γ:Nat)(e:List V)(es:List (List V)):pvl l k γ (e::es)=.vec l k γ (es.length+1):=rfl
theorem iQ:sl []=.nil:=rfl
theorem rR(e:List V)(es:List (List V)):sl (e::es)=.list false (e::es):=rfl
end Go.Proofs.Tryz.Op
namespace Go.Wind
end Go.Wind
namespace Go.Proofs.Tryz.Op
structure Ls(c:AU)(f:FuncId)(caps:List V)(g2 g3 g4 g5 g10:Nat)(t:List Int)(L:AA):Prop where
 p2:L.get 2=some (g2,.box (AE c))
 p3:L.get 3=some (g3,.box [.fn f [] caps])
 p4:L.get 4=some (g4,.box [.vec 1 10 g10 c.beach.winds.length])
 p5:L.get 5=some (g5,.box [.fn 123 [] [.ptr 1 4 g4 0,.ptr 1 2 g2 0,.ptr 1 5 g5 0,.ptr 1 3 g3 0]])
 p10:L.get 10=some (g10,.vec 3 (t.map AH))
 st:∀s:St,2<=s.up.length->AJ s L=L
section
variable {α:Type}{c:AU}{Lv:α->AA->Nat->Prop}{step:α->List Int->α}{f:FuncId}{caps:List V}{γ0 N0:Nat}
end
end Go.Proofs.Tryz.Op
namespace Go.Wind
end Go.Wind
namespace Go.Proofs.Tryz.Op
end Go.Proofs.Tryz.Op
