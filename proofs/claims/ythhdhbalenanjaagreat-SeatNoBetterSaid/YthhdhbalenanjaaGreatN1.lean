/- The truths of a beach, one after another: what is gone through, and who goes through it. No condition. -/
import Derived.Test.YthhdhbalenanjaaGreatW3
import Derived.Test.YthhdhbalenanjaaGreatFz
set_option maxRecDepth 100000
set_option linter.unusedSimpArgs false
open Go Go.Pg Go.Proofs Go.Wind
namespace Go.Wind
def FE(b:AK)(out:List Int):List (List Int)→List Int→List (List Int)
 |[],p=>if IL p out b.notes 0=true then[p] else[]
 |l::r,p=>l.flatMap fun x=>FE b out r (p++[x])
def runG{α β:Type}(step:α→β→α×Bool):α→List β→α×Bool
 |a,[]=>(a,true)
 |a,t::ts=>if (step a t).2=true then runG step (step a t).1 ts else((step a t).1,false)
theorem JP{α β:Type}(step:α→β→α×Bool):∀(a:α) (l r:List β),runG step a (l++r)=if (runG step a l).2=true then runG step (runG step a l).1 r else runG step a l
 |a,[],r=>by simp[runG]
 |a,t::l,r=>by
  simp only[List.cons_append,runG];by_cases h:(step a t).2=true
  ·simp only[h,if_true];exact JP step _ l r
  ·simp only[h,if_false,Bool.false_eq_true]
theorem lL(b:AK)(out:List Int):∀(ws:List (List Int)) (p:List Int),FE b out ws p=((U9 ws).map (p ++ ·)).filter fun t=>IL t out b.notes 0
 |[],p=>by simp only[FE,U9,List.map_cons,List.map_nil,List.append_nil,List.filter_cons,List.filter_nil]
 |l::r,p=>by
  simp only[FE,U9];induction l with
  |nil=>rfl
  |cons x l ih=>
   rw[List.flatMap_cons,List.flatMap_cons,ih,lL b out r (p++[x]),List.map_append,List.filter_append,List.map_map]
   congr 2
   apply List.map_congr_left
   intro t _
   simp
end Go.Wind
namespace Go.Proofs.Tryz.Op
@[simp] theorem AOO{P:Program}{A:Ann}{kn:CF0}{n:Nat}:(BN P A kn n).cy=eD (AE P A kn n):=rfl
def FA(rs:List AA):Prop:=∀t:St,rs.length+1≤t.up.length→rs.map (AL t)=rs
structure Lt(b:AK)(out:List Int)(γ0 g3 g4 g5 g9:Nat)(t:List Int)(L:AA):Prop where
 p3:L.get 3=some (g3,.box [.yld 0 BT γ0])
 p4:L.get 4=some (g4,.box [.vec 1 9 g9 b.winds.length])
 p5:L.get 5=some (g5,.box [.fn 197 [] [.ptr 1 4 g4 0,.ref (AC b),.ref [li out],.ptr 1 3 g3 0,.ptr 1 5 g5 0]])
 p9:L.get 9=some (g9,.vec 3 (t.map AJ))
 st:∀s:St,2≤s.up.length→AL s L=L
 b9:g9<γ0+4
theorem CW(L:AA)(k γ:Nat)(r:A6):AA.put L k γ r=(k,γ,r)::L:=rfl
theorem KX{rs:List AA}{loc:AA}(h:FA rs)(hl:∀t:St,rs.length+1≤t.up.length→AL t loc=loc):FA (rs++[loc]):=by
 intro t ht;have ht':rs.length+1+1≤t.up.length:=by simpa using ht
 simp only[List.map_append,List.map_cons,List.map_nil];rw[h t (by omega),hl t (by omega)]
theorem KL(t:St)(T:TypeId)(l:List Int):CM t (.vec T (l.map AJ))=.vec T (l.map AJ):=by refine QK fun e he v hv=>?_;obtain⟨x,_,rfl⟩:=List.mem_map.1 he;simp only[AJ,List.mem_cons,List.not_mem_nil,or_false]at hv;rcases hv with rfl;rfl
theorem bZ(l:List Int)(k:Nat)(x:Int):(l.set k x).map AJ=(l.map AJ).set k (AJ x):=List.map_set
theorem Lt.set{b:AK}{out:List Int}{γ0 g3 g4 g5 g9:Nat}{t:List Int}{L:AA}(h:Lt b out γ0 g3 g4 g5 g9 t L){k:Nat}(x:Int):Lt b out γ0 g3 g4 g5 g9 (t.set k x) ((9,g9,.vec 3 ((t.map AJ).set k (AJ x)))::L) where
 p3:=by simpa using h.p3
 p4:=by simpa using h.p4
 p5:=by simpa using h.p5
 p9:=by simp[List.map_set]
 st:=by intro s hs;rw[A1,h.st s hs,←bZ,KL]
 b9:=h.b9
def PW{α:Type}(b:AK)(Lv:Bool→α→AA→Prop)(step:α→List Int→α×Bool)(γ0 N0:Nat):Prop :=
 ∀(a:α) (L L1:AA) (rest:List AA) (loc:AA) (c:Nat) (fr:Fr) (t:List Int) (g9:Nat),Lv true a L→γ0+1<c→A5 t b.winds=true→L1.get 9=some (g9,.vec 3 (t.map AJ))→FA (L1::(rest++[loc])) →
  ∃L' c',Lv (step a t).2 (step a t).1 L'∧c≤c'∧∀n,eD (AE Tryz.prog ann kn (n+N0)) 0 BT γ0 [.vec 1 9 g9 b.winds.length] ⟨c,fr,⟨L::L1::rest,loc⟩⟩=some (.bool (step a t).2,⟨c',fr,⟨L'::L1::rest,loc⟩⟩)
theorem AH5{β:Type}{l p:List β}{n:Nat}{x:β}(h:l.take n=p)(hl:n<l.length):(l.set n x).take (n+1)=p++[x]:=by rw[List.take_succ_eq_append_getElem (by simpa using hl),List.take_set_of_le (Nat.le_refl _),h];simp
theorem iV{β:Type}{l p:List β}{n:Nat}{x:β}(h:l.take (n+1)=p++[x])(hp:p.length=n):l.take n=p:=by
 have:l.take n=(l.take (n+1)).take n:=by rw[List.take_take];congr 1;omega
 rw[this,h,←hp];simp
end Go.Proofs.Tryz.Op
namespace Go.Wind
theorem pN{ws:List (List Int)}{p:List Int}{k:Nat}(h:A5 p (ws.take k)=true)(hk:k<ws.length){x:Int}(hx:x∈ws[k]):A5 (p++[x]) (ws.take (k+1))=true:=by
 have hl:=CS h;rw[List.length_take]at hl;refine M1 (by simp;omega) fun j h1 h2=>?_;rw[List.getElem_take];by_cases hj:j<p.length
 ·rw[List.getElem_append_left hj];have:=GK h j hj (by rw[List.length_take];omega);rwa [List.getElem_take]at this
 ·have:j=k:=by simp at h1;omega
  subst this;rw[List.getElem_append_right (by omega)];simpa using hx
end Go.Wind
namespace Go.Proofs.Tryz.Op
section
variable {α:Type}{b:AK}{out:List Int}{Lv:Bool→α→AA→Prop}{step:α→List Int→α×Bool}{γ0 N0:Nat}
def BXH(b:AK)(out:List Int)(Lv:Bool→α→AA→Prop)(step:α→List Int→α×Bool)(γ0 g3 g4 g5 g9 M k:Nat)(ws:List (List Int)):Prop :=
 ∀(p:List Int),p.length=k→A5 p (b.winds.take k)=true→∀(a:α) (L L1:AA) (rs:List AA) (c dd:Nat) (fr:Fr) (t:List Int),Lv true a L→Lt b out γ0 g3 g4 g5 g9 t L1→FA (L1::rs)→γ0+4<c→t.length=b.winds.length→t.take k=p →
  ∃L' L1' c' t',Lv (runG step a (FE b out ws p)).2 (runG step a (FE b out ws p)).1 L'∧Lt b out γ0 g3 g4 g5 g9 t' L1'∧c≤c'∧t'.length=b.winds.length∧t'.take k=p ∧
   ∀n,fM Tryz.prog (some dd) fr Tryz.f197.results.toList (AE Tryz.prog ann kn (n+M) 44 ACX ⟨c,AG 0 [i k,.ptr 1 4 g4 0,.ref (AC b),.ref [li out],.ptr 1 3 g3 0,.ptr 1 5 g5 0],⟨L::L1::rs,[]⟩⟩)=X5 (some dd) fr c' (.bool (runG step a (FE b out ws p)).2) (CL (L'::L1'::rs))
end
theorem AAK(n:Nat)(b:AK)(out:List Int):A0 Tryz.prog kn (AE Tryz.prog ann kn (n+100)) 185 [.agg (AC b),li out]=some (.fn 196 [] [.ref (AC b),.ref [li out]]):=by rw[AP rfl,AR Tryz.func185 BKY rfl (by simp[AC,AJ,AM,AF])];simp[A86,AG,AC,AJ,AM,AF]
section
variable {α:Type}{b:AK}{out:List Int}{Lv:Bool→α→AA→Prop}{step:α→List Int→α×Bool}{γ0 N0:Nat}
end
end Go.Proofs.Tryz.Op
