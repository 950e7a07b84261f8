/- Contracts: asked; the way to the truths of a case. No condition but lists of at most 40. -/
import Derived.Test.YthhdhbalenanjaaGreatC1
import Derived.Test.YthhdhbalenanjaaGreatFz
import Derived.Test.YthhdhbalenanjaaGreatW4
import Derived.Test.YthhdhbalenanjaaGreatN1
set_option maxRecDepth 100000
set_option linter.unusedSimpArgs false
open Go Go.Pg Go.Proofs Go.Wind
namespace Go.Proofs.Tryz.Op
def BNM(c:AO)(ss:List (Int×Int)):Int:=if DZ c≠0 then DZ c else if DL c ss=true then 0 else 2
theorem FA.c1{L L1:AA}{rs:List AA}(h:FA (L::L1::rs))(t:St)(ht:rs.length+3≤t.up.length):AL t L=L:=by have:=h t (by simpa using ht);simp only[List.map_cons,List.cons.injEq]at this;exact this.1
theorem FA.c2{L L1:AA}{rs:List AA}(h:FA (L::L1::rs))(t:St)(ht:rs.length+3≤t.up.length):AL t L1=L1:=by have:=h t (by simpa using ht);simp only[List.map_cons,List.cons.injEq]at this;exact this.2.1
theorem FA.c3{L L1:AA}{rs:List AA}(h:FA (L::L1::rs))(t:St)(ht:rs.length+3≤t.up.length):rs.map (AL t)=rs:=by have:=h t (by simpa using ht);simp only[List.map_cons,List.cons.injEq]at this;exact this.2.2
def pvl(l k γ:Nat):List (List V)→V
 |[]=>.nil
 |_::es=>.vec l k γ (es.length+1)
theorem AYH(l k γ:Nat):pvl l k γ []=.nil:=rfl
theorem xG(l k γ:Nat)(e:List V)(es:List (List V)):pvl l k γ (e::es)=.vec l k γ (es.length+1):=rfl
theorem xH:sl []=.nil:=rfl
theorem xI(e:List V)(es:List (List V)):sl (e::es)=.list false (e::es):=rfl
def kF(L L1:AA)(rs:List AA)(loc:AA):Prop:=∀t:St,rs.length+3≤t.up.length→(AL t L=L∧AL t L1=L1∧rs.map (AL t)=rs)∧AL t loc=loc
theorem kF.stays{L L1 loc:AA}{rs:List AA}(h:kF L L1 rs loc):FA (L::L1::(rs++[loc])):=by intro t ht;obtain⟨⟨h1,h2,h3⟩,h4⟩:=h t (by simp at ht;omega);simp only[List.map_cons,List.map_append,List.map_nil,h1,h2,h3,h4]
theorem kF.more{L L1 loc l2:AA}{rs:List AA}(h:kF L L1 rs loc)(h2:∀t:St,rs.length+4≤t.up.length→AL t l2=l2):kF L L1 (rs++[loc]) l2:=by
 intro t ht;have ht:rs.length+4≤t.up.length:=by simp at ht;omega
 obtain⟨⟨h1,h5,h3⟩,h4⟩:=h t (by omega);exact⟨⟨h1,h5,by simp only[List.map_append,List.map_cons,List.map_nil,h3,h4]⟩,h2 t ht⟩
end Go.Proofs.Tryz.Op
namespace Go.Wind
def AYI(b:AK):List (List Int)→List Int→List (List Int)
 |[],p=>if DA b p=true then[p] else[]
 |l::r,p=>l.flatMap fun x=>AYI b r (p++[x])
end Go.Wind
namespace Go.Proofs.Tryz.Op
structure Ls(c:AO)(f:FuncId)(caps:List V)(g2 g3 g4 g5 g10:Nat)(t:List Int)(L:AA):Prop where
 p2:L.get 2=some (g2,.box (AD c))
 p3:L.get 3=some (g3,.box [.fn f [] caps])
 p4:L.get 4=some (g4,.box [.vec 1 10 g10 c.beach.winds.length])
 p5:L.get 5=some (g5,.box [.fn 123 [] [.ptr 1 4 g4 0,.ptr 1 2 g2 0,.ptr 1 5 g5 0,.ptr 1 3 g3 0]])
 p10:L.get 10=some (g10,.vec 3 (t.map AJ))
 st:∀s:St,2≤s.up.length→AL s L=L
theorem Ls.set{c:AO}{f:FuncId}{caps:List V}{g2 g3 g4 g5 g10:Nat}{t:List Int}{L:AA}(h:Ls c f caps g2 g3 g4 g5 g10 t L){k:Nat}(x:Int):Ls c f caps g2 g3 g4 g5 g10 (t.set k x) ((10,g10,.vec 3 ((t.map AJ).set k (AJ x)))::L) where
 p2:=by simpa using h.p2
 p3:=by simpa using h.p3
 p4:=by simpa using h.p4
 p5:=by simpa using h.p5
 p10:=by simp[List.map_set]
 st:=by intro s hs;rw[A1,h.st s hs,←bZ,KL]
def BBQ{α:Type}(c:AO)(Lv:α→AA→Nat→Prop)(step:α→List Int→α)(f:FuncId)(caps:List V)(γ0 N0:Nat):Prop :=
 ∀(a:α) (L L1:AA) (rs:List AA) (cc:Nat) (fr:Fr) (t:List Int),Lv a L cc→γ0<cc→DA c.beach t=true→kF L L1 rs [] →
  ∃L' c',Lv (step a t) L' c'∧cc≤c'∧∀n,G4 (BN Tryz.prog ann kn (n+N0)) (some 49) ⟨cc,fr,⟨L::L1::rs,[]⟩⟩ f (.list false ((O1 c t).map FN)::caps)=some ⟨c',(49,true,.tup [])::fr,⟨L'::L1::rs,[]⟩⟩
section
variable {α:Type}{c:AO}{Lv:α→AA→Nat→Prop}{step:α→List Int→α}{f:FuncId}{caps:List V}{γ0 N0:Nat}
def BXL(c:AO)(Lv:α→AA→Nat→Prop)(step:α→List Int→α)(f:FuncId)(caps:List V)(γ0 g2 g3 g4 g5 g10 M k:Nat)(ws:List (List Int)):Prop :=
 ∀(p:List Int),p.length=k→A5 p (c.beach.winds.take k)=true→∀(a:α) (L L1:AA) (rs:List AA) (cc dd:Nat) (fr:Fr) (t:List Int),Lv a L cc→Ls c f caps g2 g3 g4 g5 g10 t L1→FA (L1::rs)→g10<cc→γ0<cc→t.length=c.beach.winds.length→t.take k=p →
  ∃L' L1' c' t',Lv ((AYI c.beach ws p).foldl step a) L' c'∧Ls c f caps g2 g3 g4 g5 g10 t' L1'∧cc≤c'∧t'.length=c.beach.winds.length∧t'.take k=p ∧
   ∀n,fM Tryz.prog (some dd) fr Tryz.f123.results.toList (AE Tryz.prog ann kn (n+M) 50 BLF ⟨cc,AG 0 [i k,.ptr 1 4 g4 0,.ptr 1 2 g2 0,.ptr 1 5 g5 0,.ptr 1 3 g3 0],⟨L::L1::rs,[]⟩⟩)=X5 (some dd) fr c' (.tup []) (CL (L'::L1'::rs))
end
end Go.Proofs.Tryz.Op
namespace Go.Wind
def ABE(b:AK):List (List Int):=AYI b b.winds []
end Go.Wind
namespace Go.Proofs.Tryz.Op
end Go.Proofs.Tryz.Op
