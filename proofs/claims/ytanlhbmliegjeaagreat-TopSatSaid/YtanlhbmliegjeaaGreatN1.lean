/- The truths of a beach, one after another: what is gone through, and who goes through it. No condition. -/
import Derived.Test.YtanlhbmliegjeaaGreatW3
open List renaming flatMap_cons->bj,getElem_take->bk
set_option maxRecDepth 100000
set_option linter.unusedSimpArgs false
open Go Go.Pg Go.Proofs Go.Wind
namespace Go.Wind
def EU(b:AL)(out:List Int):List (List Int)->List Int->List (List Int)
 |[],p=>if HU p out b.notes 0=true then[p] else[]
 |l::r,p=>l.flatMap fun x=>EU b out r (p++[x])
def runG{α β:Type}(step:α->β->α×Bool):α->List β->α×Bool
 |a,[]=>(a,true)
 |a,t::ts=>if (step a t).2=true then runG step (step a t).1 ts else((step a t).1,false)
theorem IZ{α β:Type}(step:α->β->α×Bool):∀(a:α) (l r:List β),runG step a (l++r)=if (runG step a l).2=true then runG step (runG step a l).1 r else runG step a l
 |a,[],r=>by simp[runG]
 |a,t::l,r=>by
  simp only[List.cons_append,runG];by_cases h:(step a t).2=true
  ·simp only[h,if_true];exact IZ step _ l r
  ·simp only[h,if_false,Bool.false_eq_true]
theorem fS(b:AL)(out:List Int):∀(ws:List (List Int)) (p:List Int),EU b out ws p=((VF ws).map (p ++ ·)).filter fun t=>HU t out b.notes 0
 |[],p=>by simp only[EU,VF,List.map_cons,List.map_nil,List.append_nil,List.filter_cons,List.filter_nil]
 |l::r,p=>by
  simp only[EU,VF];induction l with
  |nil=>rfl
  |cons x l ih=>
   rw[bj,bj,ih,fS b out r (p++[x]),List.map_append,List.filter_append,List.map_map]
   congr 2
   apply List.map_congr_left
   intro t _
   simp
end Go.Wind
namespace Go.Proofs.Tryz.Op
@[simp] theorem AH3{P:Program}{A:Ann}{kn:CF0}{n:Nat}:(BH P A kn n).cy=aC (AE P A kn n):=rfl
def HC(rs:List AA):Prop:=∀t:St,rs.length+1<=t.up.length->rs.map (AJ t)=rs
structure Lt(b:AL)(out:List Int)(γ0 g3 g4 g5 g9:Nat)(t:List Int)(L:AA):Prop where
 p3:L.get 3=some (g3,.box [.yld 0 BJ γ0])
 p4:L.get 4=some (g4,.box [.vec 1 9 g9 b.winds.length])
 p5:L.get 5=some (g5,.box [.fn 85 [] [.ptr 1 4 g4 0,.ref (AB b),.ref [li out],.ptr 1 3 g3 0,.ptr 1 5 g5 0]])
 p9:L.get 9=some (g9,.vec 3 (t.map AH))
 st:∀s:St,2<=s.up.length->AJ s L=L
 b9:g9<γ0+4
theorem DB(L:AA)(k γ:Nat)(r:AX):AA.put L k γ r=(k,γ,r)::L:=rfl
theorem J3{rs:List AA}{loc:AA}(h:HC rs)(hl:∀t:St,rs.length+1<=t.up.length->AJ t loc=loc):HC (rs++[loc]):=by
 intro t ht;have ht':rs.length+1+1<=t.up.length:=by simpa using ht
 simp only[List.map_append,List.map_cons,List.map_nil];rw[h t (by omega),hl t (by omega)]
theorem O7(t:St)(T:TypeId)(l:List Int):CC t (.vec T (l.map AH))=.vec T (l.map AH):=by refine L9 fun e he v hv=>?_;obtain⟨x,_,rfl⟩:=List.mem_map.1 he;simp only[AH,List.mem_cons,List.not_mem_nil,or_false]at hv;rcases hv with rfl;rfl
theorem ACP(l:List Int)(k:Nat)(x:Int):(l.set k x).map AH=(l.map AH).set k (AH x):=List.map_set
def N5{α:Type}(b:AL)(Lv:Bool->α->AA->Prop)(step:α->List Int->α×Bool)(γ0 N0:Nat):Prop :=
 ∀(a:α) (L L1:AA) (rest:List AA) (loc:AA) (c:Nat) (fr:Fr) (t:List Int) (g9:Nat),Lv true a L->γ0+1<c->AV t b.winds=true->L1.get 9=some (g9,.vec 3 (t.map AH))->HC (L1::(rest++[loc])) ->
  ∃L' c',Lv (step a t).2 (step a t).1 L'/\c<=c'/\∀n,aC (AE Tryz.prog ann kn (n+N0)) 0 BJ γ0 [.vec 1 9 g9 b.winds.length] ⟨c,fr,⟨L::L1::rest,loc⟩⟩=some (.bool (step a t).2,⟨c',fr,⟨L'::L1::rest,loc⟩⟩)
theorem ACQ{β:Type}{l p:List β}{n:Nat}{x:β}(h:l.take n=p)(hl:n<l.length):(l.set n x).take (n+1)=p++[x]:=by rw[List.take_succ_eq_append_getElem (by simpa using hl),List.take_set_of_le (Nat.le_refl _),h];simp
theorem dH{β:Type}{l p:List β}{n:Nat}{x:β}(h:l.take (n+1)=p++[x])(hp:p.length=n):l.take n=p:=by
 have:l.take n=(l.take (n+1)).take n:=by rw[List.take_take];congr 1;omega
 rw[this,h,<-hp];simp
end Go.Proofs.Tryz.Op
namespace Go.Wind
theorem kR{ws:List (List Int)}{p:List Int}{k:Nat}(h:AV p (ws.take k)=true)(hk:k<ws.length){x:Int}(hx:x∈ws[k]):AV (p++[x]) (ws.take (k+1))=true:=by
 have hl:=CK h;rw[List.length_take]at hl;refine LQ (by simp;omega) fun j h1 h2=>?_;rw[bk];by_cases hj:j<p.length
 ·rw[List.getElem_append_left hj];have:=FT h j hj (by rw[List.length_take];omega);rwa [bk]at this
 ·have:j=k:=by simp at h1;omega
  subst this;rw[List.getElem_append_right (by omega)];simpa using hx
end Go.Wind
namespace Go.Proofs.Tryz.Op
section
variable {α:Type}{b:AL}{out:List Int}{Lv:Bool->α->AA->Prop}{step:α->List Int->α×Bool}{γ0 N0:Nat}
end
theorem uO(n:Nat)(b:AL)(out:List Int):AZ Tryz.prog kn (AE Tryz.prog ann kn (n+100)) 49 [.agg (AB b),li out]=some (.fn 84 [] [.ref (AB b),.ref [li out]]):=by rw[AP rfl,AQ Tryz.func49 b49 rfl (by simp[AB,AH,AN,AM])];simp[c49,AD,AB,AH,AN,AM]
section
variable {α:Type}{b:AL}{out:List Int}{Lv:Bool->α->AA->Prop}{step:α->List Int->α×Bool}{γ0 N0:Nat}
end
end Go.Proofs.Tryz.Op
