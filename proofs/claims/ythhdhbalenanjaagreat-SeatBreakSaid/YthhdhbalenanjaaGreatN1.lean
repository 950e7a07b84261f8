/- The truths of a beach, one after another: what is gone through, and who goes through it. No condition. -/
import Derived.Test.YthhdhbalenanjaaGreatW3
open List renaming flatMap_cons->bj,getElem_take->bk
set_option maxRecDepth 100000
set_option linter.unusedSimpArgs false
open Go Go.Pg Go.Proofs Go.Wind
namespace Go.Wind
def E6(b:AK)(out:List Int):List (List Int)->List Int->List (List Int)
 |[],p=>if HR p out b.notes 0=true then[p] else[]
 |l::r,p=>l.flatMap fun x=>E6 b out r (p++[x])
def runG{α β:Type}(step:α->β->α×Bool):α->List β->α×Bool
 |a,[]=>(a,true)
 |a,t::ts=>if (step a t).2=true then runG step (step a t).1 ts else((step a t).1,false)
theorem IM{α β:Type}(step:α->β->α×Bool):∀(a:α) (l r:List β),runG step a (l++r)=if (runG step a l).2=true then runG step (runG step a l).1 r else runG step a l
 |a,[],r=>by simp[runG]
 |a,t::l,r=>by
  simp only[List.cons_append,runG];by_cases h:(step a t).2=true
  ·simp only[h,if_true];exact IM step _ l r
  ·simp only[h,if_false,Bool.false_eq_true]
theorem fW(b:AK)(out:List Int):∀(ws:List (List Int)) (p:List Int),E6 b out ws p=((V9 ws).map (p ++ ·)).filter fun t=>HR t out b.notes 0
 |[],p=>by simp only[E6,V9,List.map_cons,List.map_nil,List.append_nil,List.filter_cons,List.filter_nil]
 |l::r,p=>by
  simp only[E6,V9];induction l with
  |nil=>rfl
  |cons x l ih=>
   rw[bj,bj,ih,fW b out r (p++[x]),List.map_append,List.filter_append,List.map_map]
   congr 2
   apply List.map_congr_left
   intro t _
   simp
end Go.Wind
namespace Go.Proofs.Tryz.Op
@[simp] theorem AI7{P:Program}{A:Ann}{kn:CF0}{n:Nat}:(BH P A kn n).cy=aJ (AF P A kn n):=rfl
def EQ(rs:List AA):Prop:=∀t:St,rs.length+1<=t.up.length->rs.map (AH t)=rs
structure Lt(b:AK)(out:List Int)(γ0 g3 g4 g5 g9:Nat)(t:List Int)(L:AA):Prop where
 p3:L.get 3=some (g3,.box [.yld 0 A8 γ0])
 p4:L.get 4=some (g4,.box [.vec 1 9 g9 b.winds.length])
 p5:L.get 5=some (g5,.box [.fn 197 [] [.ptr 1 4 g4 0,.ref (AC b),.ref [li out],.ptr 1 3 g3 0,.ptr 1 5 g5 0]])
 p9:L.get 9=some (g9,.vec 3 (t.map AM))
 st:∀s:St,2<=s.up.length->AH s L=L
 b9:g9<γ0+4
theorem DW(L:AA)(k γ:Nat)(r:AV):AA.put L k γ r=(k,γ,r)::L:=rfl
theorem FC{rs:List AA}{loc:AA}(h:EQ rs)(hl:∀t:St,rs.length+1<=t.up.length->AH t loc=loc):EQ (rs++[loc]):=by
 intro t ht;have ht':rs.length+1+1<=t.up.length:=by simpa using ht
 simp only[List.map_append,List.map_cons,List.map_nil];rw[h t (by omega),hl t (by omega)]
theorem O7(t:St)(T:TypeId)(l:List Int):CH t (.vec T (l.map AM))=.vec T (l.map AM):=by refine OV fun e he v hv=>?_;obtain⟨x,_,rfl⟩:=List.mem_map.1 he;simp only[AM,List.mem_cons,List.not_mem_nil,or_false]at hv;rcases hv with rfl;rfl
theorem AC9(l:List Int)(k:Nat)(x:Int):(l.set k x).map AM=(l.map AM).set k (AM x):=List.map_set
def N5{α:Type}(b:AK)(Lv:Bool->α->AA->Prop)(step:α->List Int->α×Bool)(γ0 N0:Nat):Prop :=
 ∀(a:α) (L L1:AA) (rest:List AA) (loc:AA) (c:Nat) (fr:Fr) (t:List Int) (g9:Nat),Lv true a L->γ0+1<c->A5 t b.winds=true->L1.get 9=some (g9,.vec 3 (t.map AM))->EQ (L1::(rest++[loc])) ->
  ∃L' c',Lv (step a t).2 (step a t).1 L'/\c<=c'/\∀n,aJ (AF Tryz.prog ann kn (n+N0)) 0 A8 γ0 [.vec 1 9 g9 b.winds.length] ⟨c,fr,⟨L::L1::rest,loc⟩⟩=some (.bool (step a t).2,⟨c',fr,⟨L'::L1::rest,loc⟩⟩)
theorem ADA{β:Type}{l p:List β}{n:Nat}{x:β}(h:l.take n=p)(hl:n<l.length):(l.set n x).take (n+1)=p++[x]:=by rw[List.take_succ_eq_append_getElem (by simpa using hl),List.take_set_of_le (Nat.le_refl _),h];simp
theorem dK{β:Type}{l p:List β}{n:Nat}{x:β}(h:l.take (n+1)=p++[x])(hp:p.length=n):l.take n=p:=by
 have:l.take n=(l.take (n+1)).take n:=by rw[List.take_take];congr 1;omega
 rw[this,h,<-hp];simp
end Go.Proofs.Tryz.Op
namespace Go.Wind
theorem kE{ws:List (List Int)}{p:List Int}{k:Nat}(h:A5 p (ws.take k)=true)(hk:k<ws.length){x:Int}(hx:x∈ws[k]):A5 (p++[x]) (ws.take (k+1))=true:=by
 have hl:=DD h;rw[List.length_take]at hl;refine LJ (by simp;omega) fun j h1 h2=>?_;rw[bk];by_cases hj:j<p.length
 ·rw[List.getElem_append_left hj];have:=FK h j hj (by rw[List.length_take];omega);rwa [bk]at this
 ·have:j=k:=by simp at h1;omega
  subst this;rw[List.getElem_append_right (by omega)];simpa using hx
end Go.Wind
namespace Go.Proofs.Tryz.Op
section
variable {α:Type}{b:AK}{out:List Int}{Lv:Bool->α->AA->Prop}{step:α->List Int->α×Bool}{γ0 N0:Nat}
end
theorem uA(n:Nat)(b:AK)(out:List Int):A3 Tryz.prog kn (AF Tryz.prog ann kn (n+100)) 185 [.agg (AC b),li out]=some (.fn 196 [] [.ref (AC b),.ref [li out]]):=by rw[AQ rfl,AR Tryz.func185 A9Q rfl (by simp[AC,AM,AW,AL])];simp[AZM,AD,AC,AM,AW,AL]
section
variable {α:Type}{b:AK}{out:List Int}{Lv:Bool->α->AA->Prop}{step:α->List Int->α×Bool}{γ0 N0:Nat}
end
end Go.Proofs.Tryz.Op
