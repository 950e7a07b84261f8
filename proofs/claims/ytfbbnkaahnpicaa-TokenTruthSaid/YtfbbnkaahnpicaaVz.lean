/- The plain law of Leave: what is left out, by a list and by bits. No condition. -/
import Derived.Test.YtfbbnkaahnpicaaV
import Derived.Test.YtfbbnkaahnpicaaFz
open Go Go.Pg Go.Proofs
namespace Go.Proofs.Try.Op
set_option maxRecDepth 100000
set_option linter.unusedSimpArgs false
def bitsC (x a:Nat):Nat:=(List.range a).countP fun i=>x.testBit i
/-! ### Increasing lists -/
def IncL (N:Nat):Nat→List Int→Prop
 | _,[]=>True
 | fr,a :: r=>∃ i:Nat,a = i∧fr≤i∧i < N∧IncL N (i + 1) r
theorem IncL.more {N:Nat}:∀ {l:List Int} {fr:Nat},IncL N fr l→IncL (N + 1) fr l
 | [],_,_=>trivial
 | _ :: _,_,⟨i,e,h1,h2,h3⟩=>⟨i,e,h1,by omega,h3.more⟩
theorem IncL.snoc {N:Nat}:∀ {l:List Int} {fr:Nat},fr≤N→IncL N fr l→IncL (N + 1) fr (l ++ [(N:Int)])
 | [],fr,hf,_=>⟨N,rfl,hf,by omega,trivial⟩
 | _ :: _,_,_,⟨i,e,h1,h2,h3⟩=>⟨i,e,h1,by omega,h3.snoc (by omega)⟩
theorem IncL.split {N:Nat}:∀ {l:List Int} {fr:Nat},IncL (N + 1) fr l→IncL N fr l∨∃ l',l = l' ++ [(N:Int)]∧IncL N fr l'
 | [],_,_=>.inl trivial
 | a :: r,fr,⟨i,e,h1,h2,h3⟩=>by
  by_cases hi:i = N
  ·subst hi
   cases r with
   | nil=>exact .inr ⟨[],by rw [e]; rfl,trivial⟩
   | cons a' r' =>
    obtain ⟨i',_,h1',h2',_⟩:=h3
    omega
  ·rcases h3.split with h | ⟨l',e',h⟩
   ·exact .inl ⟨i,e,h1,by omega,h⟩
   ·exact .inr ⟨a :: l',by rw [e']; rfl,i,e,h1,by omega,h⟩
/-! ### The order -/
theorem before_tri:∀ {l k:List Int},l.length = k.length→beforeB l k = false→beforeB k l = false→l = k
 | [],[],_,_,_=>rfl
 | [],_ :: _,h,_,_=>by simp at h
 | _ :: _,[],h,_,_=>by simp at h
 | a :: l,b :: k,h,h1,h2=>by
  unfold beforeB at h1 h2
  by_cases e:a = b
  ·rw [if_pos e] at h1
   rw [if_pos e.symm] at h2
   rw [e,before_tri (by simpa using h) h1 h2]
  ·rw [if_neg e] at h1
   rw [if_neg fun hh=>e hh.symm] at h2
   have h1:=of_decide_eq_false h1
   have h2:=of_decide_eq_false h2
   omega
theorem short_tri {l k:List Int} (h1:shortB l k = false) (h2:shortB k l = false):l = k:=by
 unfold shortB at h1 h2
 simp only [Bool.or_eq_false_iff,Bool.and_eq_false_iff,decide_eq_false_iff_not] at h1 h2
 have e:l.length = k.length:=by omega
 exact before_tri e (h1.2.resolve_left fun hh=>hh e) (h2.2.resolve_left fun hh=>hh e.symm)
/-! ### The search -/
theorem first_some {f:Nat→Option (List Int)}:∀ {e j:Nat} {y:List Int},firstS f e j = some y→∃ i,j≤i∧i < j + e∧f i = some y∧∀ k,j≤k→k < i→f k = none
 | 0,_,_,h=>by cases h
 | e + 1,j,y,h=>by
  unfold firstS at h
  cases hf:f j with
  | some x =>
   rw [hf] at h
   cases h
   exact ⟨j,Nat.le_refl _,by omega,hf,fun k h1 h2=>by omega⟩
  | none =>
   rw [hf] at h
   obtain ⟨i,h1,h2,h3,h4⟩:=first_some h
   refine ⟨i,by omega,by omega,h3,fun k k1 k2=>?_⟩
   by_cases hk:k = j
   ·rw [hk]; exact hf
   ·exact h4 k (by omega) k2
theorem first_none {f:Nat→Option (List Int)}:∀ {e j:Nat},firstS f e j = none→∀ k,j≤k→k < j + e→f k = none
 | 0,_,_,k,h1,h2=>by omega
 | e + 1,j,h,k,h1,h2=>by
  unfold firstS at h
  cases hf:f j with
  | some x=>rw [hf] at h; cases h
  | none =>
   rw [hf] at h
   by_cases hk:k = j
   ·rw [hk]; exact hf
   ·exact first_none h k (by omega) (by omega)
theorem inc_room {N:Nat}:∀ {l:List Int} {fr:Nat},IncL N fr l→fr≤N→fr + l.length≤N
 | [],_,_,h=>h
 | _ :: r,fr,⟨i,_,h1,h2,h3⟩,_=>by
  have:=inc_room h3 (by omega)
  simp
  omega
theorem srch_spec (b:Book):∀ (m fr:Nat) (out:List Int),fr≤b.lines.length →
  match srch b m fr out with
  | some y=>∃ t,y = out ++ t∧t.length = m∧IncL b.lines.length fr t∧possP (woB b y) = true∧∀ t',t'.length = m→IncL b.lines.length fr t'→possP (woB b (out ++ t')) = true→beforeB t' t = false
  | none=>∀ t',t'.length = m→IncL b.lines.length fr t'→possP (woB b (out ++ t')) = false
 | 0,fr,out,_=>by
  unfold srch
  by_cases h:possP (woB b out) = true
  ·rw [if_pos h]
   exact ⟨[],by simp,rfl,trivial,h,fun t' _ _ _=>before_nil t'⟩
  ·rw [if_neg h]
   intro t' h1 _
   have:t' = []:=List.eq_nil_of_length_eq_zero h1
   subst this
   rw [List.append_nil]
   simpa using h
 | m + 1,fr,out,hfr=>by
  have hsr:srch b (m + 1) fr out = firstS (fun j=>srch b m (j + 1) (out ++ [(j:Int)])) (b.lines.length - m - fr) fr:=rfl
  rw [hsr]
  -- what a list's first number says
  have key:∀ t',t'.length = m + 1→IncL b.lines.length fr t'→∃ (i:Nat) (r:List Int),t' = (i:Int) :: r∧fr≤i∧i < fr + (b.lines.length - m - fr)∧r.length = m∧IncL b.lines.length (i + 1) r:=by
   intro t' h1 h2
   cases t' with
   | nil=>simp at h1
   | cons a r =>
    obtain ⟨i,e,h3,h4,h5⟩:=h2
    have:=inc_room h5 (by omega)
    have hr:r.length = m:=by simpa using h1
    exact ⟨i,r,by rw [e],h3,by omega,hr,h5⟩
  cases hq:firstS (fun j=>srch b m (j + 1) (out ++ [(j:Int)])) (b.lines.length - m - fr) fr with
  | some y =>
   obtain ⟨i,h1,h2,h3,h4⟩:=first_some hq
   have ih:=srch_spec b m (i + 1) (out ++ [(i:Int)]) (by omega)
   rw [h3] at ih
   obtain ⟨t,e,hl,hi,hp,hmin⟩:=ih
   refine ⟨(i:Int) :: t,by rw [e]; simp,by simp [hl],⟨i,rfl,h1,by omega,hi⟩,hp,fun t' ht' hi' hp'=>?_⟩
   obtain ⟨i',r,rfl,g1,g2,g3,g4⟩:=key t' ht' hi'
   unfold beforeB
   by_cases e':i' = i
   ·subst e'
    rw [if_pos rfl]
    exact hmin r g3 g4 (by simpa using hp')
   ·rw [if_neg (by omega)]
    by_cases hlt:i' < i
    ·have hn:=h4 i' g1 hlt
     have ih':=srch_spec b m (i' + 1) (out ++ [(i':Int)]) (by omega)
     rw [hn] at ih'
     have:=ih' r g3 g4
     rw [List.append_assoc,List.singleton_append] at this
     rw [this] at hp'
     cases hp'
    ·exact decide_eq_false (by omega)
  | none =>
   intro t' ht' hi'
   obtain ⟨i',r,rfl,g1,g2,g3,g4⟩:=key t' ht' hi'
   have hn:srch b m (i' + 1) (out ++ [(i':Int)]) = none:=first_none hq i' g1 g2
   have ih':=srch_spec b m (i' + 1) (out ++ [(i':Int)]) (by omega)
   rw [hn] at ih'
   have:=ih' r g3 g4
   rw [List.append_assoc,List.singleton_append] at this
   exact this
structure Least (b:Book) (y:List Int):Prop where
 inc:IncL b.lines.length 0 y
 can:possP (woB b y) = true
 min:∀ t,IncL b.lines.length 0 t→possP (woB b t) = true→shortB t y = false
theorem Least.uniq {b:Book} {y z:List Int} (h:Least b y) (h':Least b z):y = z:=short_tri (h'.min y h.inc h.can) (h.min z h'.inc h'.can)
theorem leave_spec (b:Book):match leaveP b with
  | some y=>Least b y
  | none=>∀ t,IncL b.lines.length 0 t→possP (woB b t) = false:=by
 have hP:leaveP b = firstS (fun m=>srch b m 0 []) (b.lines.length + 1) 0:=rfl
 rw [hP]
 cases hq:firstS (fun m=>srch b m 0 []) (b.lines.length + 1) 0 with
 | some y =>
  obtain ⟨m,_,h2,h3,h4⟩:=first_some hq
  have ih:=srch_spec b m 0 [] (Nat.zero_le _)
  rw [h3] at ih
  obtain ⟨t,e,hl,hi,hp,hmin⟩:=ih
  rw [List.nil_append] at e
  subst e
  refine ⟨hi,hp,fun t' ht' hp'=>?_⟩
  unfold shortB
  simp only [Bool.or_eq_false_iff,Bool.and_eq_false_iff,decide_eq_false_iff_not]
  have hge:¬ t'.length < y.length:=fun hlt=>by
   have hn:srch b t'.length 0 [] = none:=h4 t'.length (Nat.zero_le _) (by omega)
   have ih':=srch_spec b t'.length 0 [] (Nat.zero_le _)
   rw [hn] at ih'
   have:=ih' t' rfl ht'
   rw [List.nil_append] at this
   rw [this] at hp'
   cases hp'
  refine ⟨hge,?_⟩
  by_cases e:t'.length = y.length
  ·exact .inr (hmin t' (by omega) ht' (by rw [List.nil_append]; exact hp'))
  ·exact .inl e
 | none =>
  intro t ht
  have hr:=inc_room ht (Nat.zero_le _)
  have hn:srch b t.length 0 [] = none:=first_none hq t.length (Nat.zero_le _) (by omega)
  have ih':=srch_spec b t.length 0 [] (Nat.zero_le _)
  rw [hn] at ih'
  have:=ih' t rfl ht
  rwa [List.nil_append] at this
def andnOK:Bool:=(List.range 9).all fun N=>(List.range (2 ^ N)).all fun x=>decide (IntKind.i64.wrap ((BitVec.ofInt 64 ((2 ^ N - 1:Nat):Int) &&& ~~~ BitVec.ofInt 64 (x:Int)).toNat:Int) = ((2 ^ N - 1 - x:Nat):Int))
def stepR (b:Book) (o:Option (List Int)) (x:Nat):Option (List Int) :=
 if ((match o with
  | none=>true
  | some y=>shortB (bitsB x b.lines.length) y) && possP (someB (2 ^ b.lines.length - 1 - x) b.lines.length b)) = true then some (bitsB x b.lines.length) else o
def goR (b:Book):Nat→Nat→Option (List Int)→Option (List Int)
 | 0,_,o=>o
 | d + 1,x,o=>goR b d (x + 1) (stepR b o x)
theorem ite_or {α:Type} (c:Prop) [Decidable c] (a b:α):(if c then a else b) = a∨(if c then a else b) = b:=by
 by_cases h:c
 ·exact Or.inl (if_pos h)
 ·exact Or.inr (if_neg h)
def InvR (b:Book) (x:Nat):Option (List Int)→Prop
 | none=>∀ x',x' < x→possP (woB b (bitsB x' b.lines.length)) = false
 | some y=>IncL b.lines.length 0 y∧possP (woB b y) = true∧∀ x',x' < x→possP (woB b (bitsB x' b.lines.length)) = true→shortB (bitsB x' b.lines.length) y = false
end Go.Proofs.Try.Op
