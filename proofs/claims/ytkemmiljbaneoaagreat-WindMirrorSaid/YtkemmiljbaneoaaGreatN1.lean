/- The truths of a beach, one after another: what is gone through, and who goes through it. No condition. -/
import Derived.Test.YtkemmiljbaneoaaGreatW3
import Derived.Test.YtkemmiljbaneoaaGreatFz
open Go Go.Pg Go.Proofs Go.Wind
namespace Go.Wind
def dfsW (b:Beach) (out:List Int):List (List Int)→List Int→List (List Int)
 | [],p=>if rightGo p out b.notes 0 = true then [p] else []
 | l :: r,p=>l.flatMap fun x=>dfsW b out r (p ++ [x])
def runG {α β:Type} (step:α→β→α × Bool):α→List β→α × Bool
 | a,[]=>(a,true)
 | a,t :: ts=>if (step a t).2 = true then runG step (step a t).1 ts else ((step a t).1,false)
theorem runG_append {α β:Type} (step:α→β→α × Bool):∀ (a:α) (l r:List β),runG step a (l ++ r) = if (runG step a l).2 = true then runG step (runG step a l).1 r else runG step a l
 | a,[],r=>by simp [runG]
 | a,t :: l,r=>by
  simp only [List.cons_append,runG]
  by_cases h:(step a t).2 = true
  ·simp only [h,if_true]; exact runG_append step _ l r
  ·simp only [h,if_false,Bool.false_eq_true]
theorem dfsW_eq (b:Beach) (out:List Int):∀ (ws:List (List Int)) (p:List Int),dfsW b out ws p = ((prods ws).map (p ++ ·)).filter fun t=>rightGo t out b.notes 0
 | [],p=>by
  simp only [dfsW,prods,List.map_cons,List.map_nil,List.append_nil,List.filter_cons,List.filter_nil]
 | l :: r,p=>by
  simp only [dfsW,prods]
  induction l with
  | nil=>rfl
  | cons x l ih =>
   rw [List.flatMap_cons,List.flatMap_cons,ih,dfsW_eq b out r (p ++ [x]),List.map_append,List.filter_append,List.map_map]
   congr 2
   apply List.map_congr_left
   intro t _
   simp
end Go.Wind
namespace Go.Proofs.Tryz.Op
set_option maxRecDepth 100000
set_option linter.unusedSimpArgs false
@[simp] theorem envA_cy {P:Program} {A:Ann} {kn:CF0} {n:Nat}:(envA P A kn n).cy = yldX (execA P A kn n):=rfl
def Stays (rs:List Level):Prop:=∀ t:St,rs.length + 1≤t.up.length→rs.map (shutLv t) = rs
structure Lt (b:Beach) (out:List Int) (γ0 g3 g4 g5 g9:Nat) (t:List Int) (L:Level):Prop where
 p3:L.get 3 = some (g3,.box [.yld 0 rkey γ0])
 p4:L.get 4 = some (g4,.box [.vec 1 9 g9 b.winds.length])
 p5:L.get 5 = some (g5,.box [.fn 138 [] [.ptr 1 4 g4 0,.ref (cellsB b),.ref [li out],.ptr 1 3 g3 0,.ptr 1 5 g5 0]])
 p9:L.get 9 = some (g9,.vec 3 (t.map encI))
 st:∀ s:St,2≤s.up.length→shutLv s L = L
 b9:g9 < γ0 + 4
theorem put_eq0 (L:Level) (k γ:Nat) (r:Res):Level.put L k γ r = (k,γ,r) :: L:=rfl
theorem stays_more {rs:List Level} {loc:Level} (h:Stays rs) (hl:∀ t:St,rs.length + 1≤t.up.length→shutLv t loc = loc):Stays (rs ++ [loc]):=by
 intro t ht
 have ht':rs.length + 1 + 1≤t.up.length:=by simpa using ht
 simp only [List.map_append,List.map_cons,List.map_nil]
 rw [h t (by omega),hl t (by omega)]
theorem shut_vecI (t:St) (T:TypeId) (l:List Int):shutRes t (.vec T (l.map encI)) = .vec T (l.map encI):=by
 refine shut_vec fun e he v hv=>?_
 obtain ⟨x,_,rfl⟩:=List.mem_map.1 he
 simp only [encI,List.mem_cons,List.not_mem_nil,or_false] at hv
 rcases hv with rfl; rfl
theorem encI_set (l:List Int) (k:Nat) (x:Int):(l.set k x).map encI = (l.map encI).set k (encI x):=List.map_set
theorem Lt.set {b:Beach} {out:List Int} {γ0 g3 g4 g5 g9:Nat} {t:List Int} {L:Level} (h:Lt b out γ0 g3 g4 g5 g9 t L) {k:Nat} (x:Int):Lt b out γ0 g3 g4 g5 g9 (t.set k x) ((9,g9,.vec 3 ((t.map encI).set k (encI x))) :: L) where
 p3:=by simpa using h.p3
 p4:=by simpa using h.p4
 p5:=by simpa using h.p5
 p9:=by simp [List.map_set]
 st:=by
  intro s hs
  rw [shutLv_cons,h.st s hs,← encI_set,shut_vecI]
 b9:=h.b9
def StepOK {α:Type} (b:Beach) (Lv:Bool→α→Level→Prop) (step:α→List Int→α × Bool) (γ0 N0:Nat):Prop :=
 ∀ (a:α) (L L1:Level) (rest:List Level) (loc:Level) (c:Nat) (fr:Fr) (t:List Int) (g9:Nat),Lv true a L→γ0 + 1 < c→listedGo t b.winds = true→L1.get 9 = some (g9,.vec 3 (t.map encI))→Stays (L1 :: (rest ++ [loc])) →
  ∃ L' c',Lv (step a t).2 (step a t).1 L'∧c≤c'∧∀ n,yldX (execA Tryz.prog ann kn (n + N0)) 0 rkey γ0 [.vec 1 9 g9 b.winds.length] ⟨c,fr,⟨L :: L1 :: rest,loc⟩⟩ = some (.bool (step a t).2,⟨c',fr,⟨L' :: L1 :: rest,loc⟩⟩)
theorem take_set {β:Type} {l p:List β} {n:Nat} {x:β} (h:l.take n = p) (hl:n < l.length):(l.set n x).take (n + 1) = p ++ [x]:=by
 rw [List.take_succ_eq_append_getElem (by simpa using hl),List.take_set_of_le (Nat.le_refl _),h]
 simp
theorem take_less {β:Type} {l p:List β} {n:Nat} {x:β} (h:l.take (n + 1) = p ++ [x]) (hp:p.length = n):l.take n = p:=by
 have:l.take n = (l.take (n + 1)).take n:=by rw [List.take_take]; congr 1; omega
 rw [this,h,← hp]
 simp
end Go.Proofs.Tryz.Op
/- The walk through the truths of a beach. No condition. -/
open Go Go.Pg Go.Proofs Go.Wind
namespace Go.Wind
theorem listed_snoc {ws:List (List Int)} {p:List Int} {k:Nat} (h:listedGo p (ws.take k) = true) (hk:k < ws.length) {x:Int} (hx:x ∈ ws[k]):listedGo (p ++ [x]) (ws.take (k + 1)) = true:=by
 have hl:=listed_len h
 rw [List.length_take] at hl
 refine listed_of (by simp; omega) fun j h1 h2=>?_
 rw [List.getElem_take]
 by_cases hj:j < p.length
 ·rw [List.getElem_append_left hj]
  have:=listed_at h j hj (by rw [List.length_take]; omega)
  rwa [List.getElem_take] at this
 ·have:j = k:=by simp at h1; omega
  subst this
  rw [List.getElem_append_right (by omega)]
  simpa using hx
end Go.Wind
namespace Go.Proofs.Tryz.Op
set_option maxRecDepth 100000
set_option linter.unusedSimpArgs false
section
variable {α:Type} {b:Beach} {out:List Int} {Lv:Bool→α→Level→Prop} {step:α→List Int→α × Bool} {γ0 N0:Nat}
def RecT (b:Beach) (out:List Int) (Lv:Bool→α→Level→Prop) (step:α→List Int→α × Bool) (γ0 g3 g4 g5 g9 M k:Nat) (ws:List (List Int)):Prop :=
 ∀ (p:List Int),p.length = k→listedGo p (b.winds.take k) = true→∀ (a:α) (L L1:Level) (rs:List Level) (c dd:Nat) (fr:Fr) (t:List Int),Lv true a L→Lt b out γ0 g3 g4 g5 g9 t L1→Stays (L1 :: rs)→γ0 + 4 < c→t.length = b.winds.length→t.take k = p →
  ∃ L' L1' c' t',Lv (runG step a (dfsW b out ws p)).2 (runG step a (dfsW b out ws p)).1 L'∧Lt b out γ0 g3 g4 g5 g9 t' L1'∧c≤c'∧t'.length = b.winds.length∧t'.take k = p ∧
   ∀ n,finS Tryz.prog (some dd) fr Tryz.f138.results.toList (execA Tryz.prog ann kn (n + M) 44 c138 ⟨c,argFr 0 [i k,.ptr 1 4 g4 0,.ref (cellsB b),.ref [li out],.ptr 1 3 g3 0,.ptr 1 5 g5 0],⟨L :: L1 :: rs,[]⟩⟩) = finU (some dd) fr c' (.bool (runG step a (dfsW b out ws p)).2) (unsnoc (L' :: L1' :: rs))
end
end Go.Proofs.Tryz.Op
/- The loop over the truths; whether there is one. No condition but a valid beach. -/
open Go Go.Pg Go.Proofs Go.Wind
namespace Go.Proofs.Tryz.Op
set_option maxRecDepth 100000
set_option linter.unusedSimpArgs false
theorem kTruths (n:Nat) (b:Beach) (out:List Int):callK Tryz.prog kn (execA Tryz.prog ann kn (n+100)) 117 [.agg (cellsB b),li out] = some (.fn 137 [] [.ref (cellsB b),.ref [li out]]):=by
 rw [callK_of rfl,call0_eq Tryz.func117 b117 rfl (by simp [cellsB,encI,encL,encP])]
 simp [c117,argFr,cellsB,encI,encL,encP]
section
variable {α:Type} {b:Beach} {out:List Int} {Lv:Bool→α→Level→Prop} {step:α→List Int→α × Bool} {γ0 N0:Nat}
end
end Go.Proofs.Tryz.Op
