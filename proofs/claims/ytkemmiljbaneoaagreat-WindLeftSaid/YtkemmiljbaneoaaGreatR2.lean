/- The plain law of Leave: the smallest set. No condition. -/
import Derived.Test.YtkemmiljbaneoaaGreatN2
import Derived.Test.YtkemmiljbaneoaaGreatR1
import Derived.Test.YtkemmiljbaneoaaGreatW1
import Derived.Test.YtkemmiljbaneoaaGreatFz
import Derived.Test.YtkemmiljbaneoaaGreatN1
open Go Go.Pg Go.Proofs Go.Wind
namespace Go.Proofs.Tryz.Op
set_option maxRecDepth 100000
set_option linter.unusedSimpArgs false
/-! ### Increasing lists -/
def IncL (N:Nat):Nat→List Int→Prop
 | _,[]=>True
 | fr,a :: r=>∃ i:Nat,a = i∧fr≤i∧i < N∧IncL N (i + 1) r
theorem IncL.more {N:Nat}:∀ {l:List Int} {fr:Nat},IncL N fr l→IncL (N + 1) fr l
 | [],_,_=>trivial
 | _ :: _,_,⟨i,e,h1,h2,h3⟩=>⟨i,e,h1,by omega,h3.more⟩
theorem IncL.snoc {N:Nat}:∀ {l:List Int} {fr:Nat},fr≤N→IncL N fr l→IncL (N + 1) fr (l ++ [(N:Int)])
 | [],fr,hf,_=>⟨N,rfl,hf,by omega,trivial⟩
 | _ :: _,_,_,⟨i,e,h1,h2,h3⟩=>⟨i,e,h1,by omega,h3.snoc (by omega)⟩
theorem IncL.split {N:Nat}:∀ {l:List Int} {fr:Nat},IncL (N + 1) fr l→IncL N fr l∨∃ l',l = l' ++ [(N:Int)]∧IncL N fr l'
 | [],_,_=>.inl trivial
 | a :: r,fr,⟨i,e,h1,h2,h3⟩=>by
  by_cases hi:i = N
  ·subst hi
   cases r with
   | nil=>exact .inr ⟨[],by rw [e]; rfl,trivial⟩
   | cons a' r' =>
    obtain ⟨i',_,h1',h2',_⟩:=h3
    omega
  ·rcases h3.split with h | ⟨l',e',h⟩
   ·exact .inl ⟨i,e,h1,by omega,h⟩
   ·exact .inr ⟨a :: l',by rw [e']; rfl,i,e,h1,by omega,h⟩
theorem bits_inc (x:Nat):∀ N,IncL N 0 (bitsB x N)
 | 0=>trivial
 | N + 1=>by
  rw [bitsB_succ]
  split
  ·exact (bits_inc x N).snoc (Nat.zero_le _)
  ·exact (bits_inc x N).more
theorem bitsB_congr {x y:Nat}:∀ (N:Nat),(∀ i,i < N→x.testBit i = y.testBit i)→bitsB x N = bitsB y N
 | 0,_=>rfl
 | N + 1,h=>by
  rw [bitsB_succ,bitsB_succ,bitsB_congr N fun i hi=>h i (by omega),h N (by omega)]
theorem inc_bits:∀ (N:Nat) (l:List Int),IncL N 0 l→∃ x,x < 2 ^ N∧l = bitsB x N
 | 0,[],_=>⟨0,by decide,rfl⟩
 | 0,a :: r,h=>by
  obtain ⟨i,_,_,h2,_⟩:=h
  omega
 | N + 1,l,h=>by
  have hp:2 ^ (N + 1) = 2 ^ N + 2 ^ N:=by rw [Nat.pow_succ]; omega
  rcases h.split with h2 | ⟨l',rfl,h2⟩
  ·obtain ⟨x,hx,rfl⟩:=inc_bits N l h2
   refine ⟨x,by omega,?_⟩
   rw [bitsB_succ,Nat.testBit_lt_two_pow hx]
   rfl
  ·obtain ⟨x,hx,rfl⟩:=inc_bits N l' h2
   refine ⟨2 ^ N + x,by omega,?_⟩
   have h1:(2 ^ N + x).testBit N = true:=by
    rw [Nat.testBit_two_pow_add_eq,Nat.testBit_lt_two_pow hx]; rfl
   have h2:∀ i,i < N→(2 ^ N + x).testBit i = x.testBit i:=fun i hi=>Nat.testBit_two_pow_add_gt hi x
   rw [bitsB_succ,h1,if_pos rfl,bitsB_congr N h2]
/-! ### The order -/
theorem before_irrefl:∀ l:List Int,beforeB l l = false
 | []=>rfl
 | a :: r=>by
  unfold beforeB
  rw [if_pos rfl]
  exact before_irrefl r
theorem before_tri:∀ {l k:List Int},l.length = k.length→beforeB l k = false→beforeB k l = false→l = k
 | [],[],_,_,_=>rfl
 | [],_ :: _,h,_,_=>by simp at h
 | _ :: _,[],h,_,_=>by simp at h
 | a :: l,b :: k,h,h1,h2=>by
  unfold beforeB at h1 h2
  by_cases e:a = b
  ·rw [if_pos e] at h1
   rw [if_pos e.symm] at h2
   rw [e,before_tri (by simpa using h) h1 h2]
  ·rw [if_neg e] at h1
   rw [if_neg fun hh=>e hh.symm] at h2
   have h1:=of_decide_eq_false h1
   have h2:=of_decide_eq_false h2
   omega
theorem short_tri {l k:List Int} (h1:shortB l k = false) (h2:shortB k l = false):l = k:=by
 unfold shortB at h1 h2
 simp only [Bool.or_eq_false_iff,Bool.and_eq_false_iff,decide_eq_false_iff_not] at h1 h2
 have e:l.length = k.length:=by omega
 exact before_tri e (h1.2.resolve_left fun hh=>hh e) (h2.2.resolve_left fun hh=>hh e.symm)
/-! ### The search -/
theorem first_some {f:Nat→Option (List Int)}:∀ {e j:Nat} {y:List Int},firstS f e j = some y→∃ i,j≤i∧i < j + e∧f i = some y∧∀ k,j≤k→k < i→f k = none
 | 0,_,_,h=>by cases h
 | e + 1,j,y,h=>by
  unfold firstS at h
  cases hf:f j with
  | some x =>
   rw [hf] at h
   cases h
   exact ⟨j,Nat.le_refl _,by omega,hf,fun k h1 h2=>by omega⟩
  | none =>
   rw [hf] at h
   obtain ⟨i,h1,h2,h3,h4⟩:=first_some h
   refine ⟨i,by omega,by omega,h3,fun k k1 k2=>?_⟩
   by_cases hk:k = j
   ·rw [hk]; exact hf
   ·exact h4 k (by omega) k2
theorem first_none {f:Nat→Option (List Int)}:∀ {e j:Nat},firstS f e j = none→∀ k,j≤k→k < j + e→f k = none
 | 0,_,_,k,h1,h2=>by omega
 | e + 1,j,h,k,h1,h2=>by
  unfold firstS at h
  cases hf:f j with
  | some x=>rw [hf] at h; cases h
  | none =>
   rw [hf] at h
   by_cases hk:k = j
   ·rw [hk]; exact hf
   ·exact first_none h k (by omega) (by omega)
theorem inc_room {N:Nat}:∀ {l:List Int} {fr:Nat},IncL N fr l→fr≤N→fr + l.length≤N
 | [],_,_,h=>h
 | _ :: r,fr,⟨i,_,h1,h2,h3⟩,_=>by
  have:=inc_room h3 (by omega)
  simp
  omega
theorem srch_spec (b:Beach):∀ (m fr:Nat) (out:List Int),fr≤b.notes.length →
  match srch b m fr out with
  | some y=>∃ t,y = out ++ t∧t.length = m∧IncL b.notes.length fr t∧possB b y = true∧∀ t',t'.length = m→IncL b.notes.length fr t'→possB b (out ++ t') = true→beforeB t' t = false
  | none=>∀ t',t'.length = m→IncL b.notes.length fr t'→possB b (out ++ t') = false
 | 0,fr,out,_=>by
  unfold srch
  by_cases h:possB b out = true
  ·rw [if_pos h]
   exact ⟨[],by simp,rfl,trivial,h,fun t' _ _ _=>before_nil t'⟩
  ·rw [if_neg h]
   intro t' h1 _
   have:t' = []:=List.eq_nil_of_length_eq_zero h1
   subst this
   rw [List.append_nil]
   simpa using h
 | m + 1,fr,out,hfr=>by
  have hsr:srch b (m + 1) fr out = firstS (fun j=>srch b m (j + 1) (out ++ [(j:Int)])) (b.notes.length - m - fr) fr:=rfl
  rw [hsr]
  -- what a list's first number says
  have key:∀ t',t'.length = m + 1→IncL b.notes.length fr t'→∃ (i:Nat) (r:List Int),t' = (i:Int) :: r∧fr≤i∧i < fr + (b.notes.length - m - fr)∧r.length = m∧IncL b.notes.length (i + 1) r:=by
   intro t' h1 h2
   cases t' with
   | nil=>simp at h1
   | cons a r =>
    obtain ⟨i,e,h3,h4,h5⟩:=h2
    have:=inc_room h5 (by omega)
    have hr:r.length = m:=by simpa using h1
    exact ⟨i,r,by rw [e],h3,by omega,hr,h5⟩
  cases hq:firstS (fun j=>srch b m (j + 1) (out ++ [(j:Int)])) (b.notes.length - m - fr) fr with
  | some y =>
   obtain ⟨i,h1,h2,h3,h4⟩:=first_some hq
   have ih:=srch_spec b m (i + 1) (out ++ [(i:Int)]) (by omega)
   rw [h3] at ih
   obtain ⟨t,e,hl,hi,hp,hmin⟩:=ih
   refine ⟨(i:Int) :: t,by rw [e]; simp,by simp [hl],⟨i,rfl,h1,by omega,hi⟩,hp,fun t' ht' hi' hp'=>?_⟩
   obtain ⟨i',r,rfl,g1,g2,g3,g4⟩:=key t' ht' hi'
   unfold beforeB
   by_cases e':i' = i
   ·subst e'
    rw [if_pos rfl]
    exact hmin r g3 g4 (by simpa using hp')
   ·rw [if_neg (by omega)]
    by_cases hlt:i' < i
    ·have hn:=h4 i' g1 hlt
     have ih':=srch_spec b m (i' + 1) (out ++ [(i':Int)]) (by omega)
     rw [hn] at ih'
     have:=ih' r g3 g4
     rw [List.append_assoc,List.singleton_append] at this
     rw [this] at hp'
     cases hp'
    ·exact decide_eq_false (by omega)
  | none =>
   intro t' ht' hi'
   obtain ⟨i',r,rfl,g1,g2,g3,g4⟩:=key t' ht' hi'
   have hn:srch b m (i' + 1) (out ++ [(i':Int)]) = none:=first_none hq i' g1 g2
   have ih':=srch_spec b m (i' + 1) (out ++ [(i':Int)]) (by omega)
   rw [hn] at ih'
   have:=ih' r g3 g4
   rw [List.append_assoc,List.singleton_append] at this
   exact this
structure Least (b:Beach) (y:List Int):Prop where
 inc:IncL b.notes.length 0 y
 can:possB b y = true
 min:∀ t,IncL b.notes.length 0 t→possB b t = true→shortB t y = false
theorem Least.uniq {b:Beach} {y z:List Int} (h:Least b y) (h':Least b z):y = z:=short_tri (h'.min y h.inc h.can) (h.min z h'.inc h'.can)
theorem leave_spec (b:Beach):match leaveP b with
  | some y=>Least b y
  | none=>∀ t,IncL b.notes.length 0 t→possB b t = false:=by
 have hP:leaveP b = firstS (fun m=>srch b m 0 []) (b.notes.length + 1) 0:=rfl
 rw [hP]
 cases hq:firstS (fun m=>srch b m 0 []) (b.notes.length + 1) 0 with
 | some y =>
  obtain ⟨m,_,h2,h3,h4⟩:=first_some hq
  have ih:=srch_spec b m 0 [] (Nat.zero_le _)
  rw [h3] at ih
  obtain ⟨t,e,hl,hi,hp,hmin⟩:=ih
  rw [List.nil_append] at e
  subst e
  refine ⟨hi,hp,fun t' ht' hp'=>?_⟩
  unfold shortB
  simp only [Bool.or_eq_false_iff,Bool.and_eq_false_iff,decide_eq_false_iff_not]
  have hge:¬ t'.length < y.length:=fun hlt=>by
   have hn:srch b t'.length 0 [] = none:=h4 t'.length (Nat.zero_le _) (by omega)
   have ih':=srch_spec b t'.length 0 [] (Nat.zero_le _)
   rw [hn] at ih'
   have:=ih' t' rfl ht'
   rw [List.nil_append] at this
   rw [this] at hp'
   cases hp'
  refine ⟨hge,?_⟩
  by_cases e:t'.length = y.length
  ·exact .inr (hmin t' (by omega) ht' (by rw [List.nil_append]; exact hp'))
  ·exact .inl e
 | none =>
  intro t ht
  have hr:=inc_room ht (Nat.zero_le _)
  have hn:srch b t.length 0 [] = none:=first_none hq t.length (Nat.zero_le _) (by omega)
  have ih':=srch_spec b t.length 0 [] (Nat.zero_le _)
  rw [hn] at ih'
  have:=ih' t rfl ht
  rwa [List.nil_append] at this
end Go.Proofs.Tryz.Op
/- Contract of the reference: All. No condition but a valid beach. -/
open Go Go.Pg Go.Proofs Go.Wind
namespace Go.Wind
def maskOf (t:List Int):List (Int × Int)→Nat→Nat→Nat
 | [],_,a=>a
 | p :: r,j,a=>maskOf t r (j + 1) (if t.getD p.1.toNat 0 = p.2 then a ||| 2 ^ j else a)
def allR (b:Beach):List Nat:=(List.range (manyN b.winds)).map fun k=>maskOf (nthGo b.winds k) b.notes 0 0
end Go.Wind
namespace Go.Proofs.Tryz.Op
set_option maxRecDepth 100000
set_option linter.unusedSimpArgs false
theorem or_nat {a b:Nat} (ha:a < 4611686018427387904) (hb:b < 4611686018427387904):IntKind.i64.wrap (((BitVec.ofInt 64 (a:Int) ||| BitVec.ofInt 64 (b:Int)).toNat:Nat):Int) = ((a ||| b:Nat):Int):=by
 have h:(BitVec.ofInt 64 (a:Int) ||| BitVec.ofInt 64 (b:Int)).toNat = a ||| b:=by
  rw [BitVec.toNat_or,BitVec.ofInt_natCast,BitVec.ofInt_natCast,BitVec.toNat_ofNat,BitVec.toNat_ofNat,Nat.mod_eq_of_lt (by omega),Nat.mod_eq_of_lt (by omega)]
 rw [h]
 have:=Nat.or_lt_two_pow (n:=62) (x:=a) (y:=b) (by omega) (by omega)
 exact wrap_i64 (by omega) (by omega)
theorem or_ev {a b:Nat} (ha:a < 4611686018427387904) (hb:b < 4611686018427387904):evInt .or .i64 (a:Int) (b:Int) = some (.int .i64 ((a ||| b:Nat):Int)):=by
 rw [evInt_or]
 exact congrArg (fun z=>some (V.int IntKind.i64 z)) (or_nat ha hb)
end Go.Proofs.Tryz.Op
/- The bridge: a truth without some notes is a mask that holds the others. No program in sight. -/
open Go Go.Pg Go.Proofs Go.Wind
namespace Go.Wind
theorem rightGo_iff (t out:List Int):∀ (l:List (Int × Int)) (k:Nat),rightGo t out l k = true ↔ ∀ i (hi:i < l.length),((k + i:Nat):Int) ∈ out∨rightB t l[i] = true
 | [],k=>by simp [rightGo]
 | x :: r,k=>by
  have ih:=rightGo_iff t out r (k + 1)
  simp only [rightGo,Bool.and_eq_true,Bool.or_eq_true,decide_eq_true_eq,ih]
  constructor
  ·rintro ⟨h1,h2⟩ i hi
   cases i with
   | zero=>simpa using h1
   | succ i =>
    have:=h2 i (by simpa using hi)
    rw [show k + (i + 1) = k + 1 + i by omega]
    simpa using this
  ·intro h
   refine ⟨h 0 (Nat.zero_lt_succ _),fun i hi=>?_⟩
   have:=h (i + 1) (by simpa using hi)
   rw [show k + (i + 1) = k + 1 + i by omega] at this
   simpa using this
theorem maskOf_bit (t:List Int):∀ (l:List (Int × Int)) (j a:Nat),a < 2 ^ j→∀ i,(maskOf t l j a).testBit i = (a.testBit i || (decide (j≤i) && ((l[i - j]?).map (rightB t)).getD false))
 | [],j,a,h,i=>by simp [maskOf]
 | p :: r,j,a,h,i=>by
  have h1:a < 2 ^ (j + 1):=by rw [Nat.pow_succ]; omega
  have h2:2 ^ j < 2 ^ (j + 1):=by have:=Nat.two_pow_pos j; rw [Nat.pow_succ]; omega
  have hlt:(if t.getD p.1.toNat 0 = p.2 then a ||| 2 ^ j else a) < 2 ^ (j + 1):=by
   split
   ·exact Nat.or_lt_two_pow h1 h2
   ·exact h1
  have ih:=maskOf_bit t r (j + 1) (if t.getD p.1.toNat 0 = p.2 then a ||| 2 ^ j else a) hlt i
  have e:maskOf t (p :: r) j a = maskOf t r (j + 1) (if t.getD p.1.toNat 0 = p.2 then a ||| 2 ^ j else a):=rfl
  rw [e,ih]
  have hr:rightB t p = decide (t.getD p.1.toNat 0 = p.2):=rfl
  have hif:(if t.getD p.1.toNat 0 = p.2 then a ||| 2 ^ j else a).testBit i = (a.testBit i || (decide (i = j) && rightB t p)):=by
   rw [hr]
   by_cases he:t.getD p.1.toNat 0 = p.2
   ·rw [if_pos he,Nat.testBit_or,Nat.testBit_two_pow,decide_eq_true he,Bool.and_true]
    congr 1
    exact decide_eq_decide.2 ⟨fun h=>h.symm,fun h=>h.symm⟩
   ·rw [if_neg he,decide_eq_false he,Bool.and_false,Bool.or_false]
  rw [hif]
  by_cases h3:i = j
  ·subst h3
   simp
   intro hh
   omega
  ·by_cases h4:j≤i
   ·obtain ⟨d,rfl⟩:∃ d,i = j + 1 + d:=⟨i - j - 1,by omega⟩
    rw [show j + 1 + d - (j + 1) = d by omega,show j + 1 + d - j = d + 1 by omega]
    simp [h3,h4]
   ·have h5:¬ j + 1≤i:=by omega
    simp [h3,h4,h5]
theorem mask_at (b:Beach) (t:List Int) (i:Nat) (hi:i < b.notes.length):(maskOf t b.notes 0 0).testBit i = rightB t b.notes[i]:=by
 rw [maskOf_bit t b.notes 0 0 (by decide)]
 simp [hi]
theorem and_sub {x m:Nat}:x &&& m = m ↔ ∀ i,m.testBit i = true→x.testBit i = true:=by
 constructor
 ·intro h i hi
  rw [← h,Nat.testBit_and,Bool.and_eq_true] at hi
  exact hi.1
 ·intro h
  apply Nat.eq_of_testBit_eq
  intro i
  rw [Nat.testBit_and]
  cases hm:m.testBit i with
  | false=>simp
  | true=>rw [h i hm]; rfl
theorem canB_iff {b:Beach} (hne:∀ l ∈ b.winds,l ≠ []) (m:Nat):canB (allR b) m = true ↔ ∃ t,listedGo t b.winds = true∧∀ i,m.testBit i = true→(maskOf t b.notes 0 0).testBit i = true:=by
 unfold canB allR
 rw [List.any_eq_true]
 constructor
 ·rintro ⟨x,hx,h⟩
  obtain ⟨k,hk,rfl⟩:=List.mem_map.1 hx
  exact ⟨nthGo b.winds k,nth_listed hne k,and_sub.1 (of_decide_eq_true h)⟩
 ·rintro ⟨t,ht,h⟩
  obtain ⟨k,hk,rfl⟩:=nth_all ht
  exact ⟨_,List.mem_map.2 ⟨k,List.mem_range.2 hk,rfl⟩,decide_eq_true (and_sub.2 h)⟩
end Go.Wind
namespace Go.Proofs.Tryz.Op
set_option maxRecDepth 100000
set_option linter.unusedSimpArgs false
theorem possB_iff (b:Beach) (out:List Int):possB b out = true ↔ ∃ t,listedGo t b.winds = true∧rightGo t out b.notes 0 = true:=by
 unfold possB
 rw [dfsW_eq]
 simp only [List.nil_append,List.map_id',Bool.not_eq_true',decide_eq_false_iff_not]
 constructor
 ·intro h
  obtain ⟨t,ht⟩:=List.exists_mem_of_ne_nil _ h
  rw [List.mem_filter] at ht
  exact ⟨t,mem_prods.1 ht.1,ht.2⟩
 ·rintro ⟨t,h1,h2⟩ h
  have:t ∈ (prods b.winds).filter fun t=>rightGo t out b.notes 0:=List.mem_filter.2 ⟨mem_prods.2 h1,h2⟩
  rw [h] at this
  cases this
theorem mem_bits {x N j:Nat}:((j:Int) ∈ bitsB x N) ↔ j < N∧x.testBit j = true:=by
 unfold bitsB
 rw [List.mem_map]
 constructor
 ·rintro ⟨i,hi,e⟩
  rw [List.mem_filter,List.mem_range] at hi
  have:i = j:=by omega
  subst this
  exact hi
 ·intro h
  exact ⟨j,by rw [List.mem_filter,List.mem_range]; exact h,rfl⟩
theorem poss_can {b:Beach} (hb:Valid b) {x:Nat} (hx:x < 2 ^ b.notes.length):possB b (bitsB x b.notes.length) = canB (allR b) (2 ^ b.notes.length - 1 - x):=by
 rw [Bool.eq_iff_iff,possB_iff,canB_iff hb.ne]
 have hm:∀ i,(2 ^ b.notes.length - 1 - x).testBit i = (decide (i < b.notes.length) && !x.testBit i):=fun i=>by
  rw [show 2 ^ b.notes.length - 1 - x = 2 ^ b.notes.length - (x + 1) by omega,Nat.testBit_two_pow_sub_succ hx]
 have key:∀ t,rightGo t (bitsB x b.notes.length) b.notes 0 = true ↔ ∀ i,(2 ^ b.notes.length - 1 - x).testBit i = true→(maskOf t b.notes 0 0).testBit i = true:=fun t=>by
  rw [rightGo_iff]
  constructor
  ·intro h i hi
   rw [hm,Bool.and_eq_true,decide_eq_true_eq,Bool.not_eq_true'] at hi
   rw [mask_at b t i hi.1]
   rcases h i hi.1 with h | h
   ·rw [Nat.zero_add,mem_bits,hi.2] at h
    cases h.2
   ·exact h
  ·intro h i hi
   by_cases hxi:x.testBit i = true
   ·exact .inl (by rw [Nat.zero_add,mem_bits]; exact ⟨hi,hxi⟩)
   ·right
    have:=h i (by rw [hm,decide_eq_true hi]; simpa using hxi)
    rwa [mask_at b t i hi] at this
 exact exists_congr fun t=>and_congr_right fun _=>key t
end Go.Proofs.Tryz.Op
/- Leave and First of the reference give what the program gives. No program in sight. -/
open Go Go.Pg Go.Proofs Go.Wind
namespace Go.Proofs.Tryz.Op
set_option maxRecDepth 100000
set_option linter.unusedSimpArgs false
theorem before_trans:∀ {a b c:List Int},beforeB a b = true→beforeB b c = true→beforeB a c = true
 | [],[],_,h,_=>by cases h
 | [],_ :: _,[],_,h=>by cases h
 | [],_ :: _,_ :: _,_,_=>rfl
 | _ :: _,[],_,h,_=>by cases h
 | _ :: _,_ :: _,[],_,h=>by cases h
 | x :: a,y :: b,z :: c,h1,h2=>by
  unfold beforeB at h1 h2 ⊢
  by_cases e1:x = y
  ·subst e1
   rw [if_pos rfl] at h1
   by_cases e2:x = z
   ·rw [if_pos e2] at h2 ⊢
    exact before_trans h1 h2
   ·rw [if_neg e2] at h2 ⊢
    exact h2
  ·rw [if_neg e1] at h1
   have h1:=of_decide_eq_true h1
   by_cases e2:y = z
   ·subst e2
    rw [if_neg e1]
    exact decide_eq_true h1
   ·rw [if_neg e2] at h2
    have h2:=of_decide_eq_true h2
    rw [if_neg (by omega)]
    exact decide_eq_true (by omega)
theorem short_trans {a b c:List Int} (h1:shortB a b = true) (h2:shortB b c = true):shortB a c = true:=by
 unfold shortB at *
 simp only [Bool.or_eq_true,Bool.and_eq_true,decide_eq_true_eq] at *
 rcases h1 with h1 | ⟨h1,g1⟩ <;> rcases h2 with h2 | ⟨h2,g2⟩
 ·exact .inl (by omega)
 ·exact .inl (by omega)
 ·exact .inl (by omega)
 ·exact .inr ⟨by omega,before_trans g1 g2⟩
theorem short_irrefl (a:List Int):shortB a a = false:=by
 unfold shortB
 simp [before_irrefl]
def InvR (b:Beach) (x:Nat) (y:List Int):Prop :=
 IncL b.notes.length 0 y∧possB b y = true∧∀ x',x' < x→possB b (bitsB x' b.notes.length) = true→shortB (bitsB x' b.notes.length) y = false
theorem step_inv {b:Beach} (hb:Valid b) {x:Nat} {y:List Int} (hx:x < 2 ^ b.notes.length) (h:InvR b x y):InvR b (x + 1) (stepR (allR b) b.notes.length x y):=by
 have ew:=poss_can hb hx
 obtain ⟨h1,h2,h3⟩:=h
 unfold stepR
 rw [← ew]
 by_cases hs:shortB (bitsB x b.notes.length) y = true
 ·simp only [hs,Bool.true_and]
  cases hp:possB b (bitsB x b.notes.length) with
  | true =>
   rw [if_pos rfl]
   refine ⟨bits_inc _ _,hp,fun x' hx' hp'=>?_⟩
   rcases Nat.lt_or_ge x' x with h4 | h4
   ·cases hq:shortB (bitsB x' b.notes.length) (bitsB x b.notes.length) with
    | false=>rfl
    | true =>
     have:=short_trans hq hs
     rw [h3 x' h4 hp'] at this
     cases this
   ·have e:x' = x:=by omega
    rw [e]
    exact short_irrefl _
  | false =>
   rw [if_neg (by decide)]
   refine ⟨h1,h2,fun x' hx' hp'=>?_⟩
   rcases Nat.lt_or_ge x' x with h4 | h4
   ·exact h3 x' h4 hp'
   ·have e:x' = x:=by omega
    rw [e,hp] at hp'
    cases hp'
 ·have hs:=Bool.eq_false_iff.2 hs
  simp only [hs,Bool.false_and]
  rw [if_neg (by decide)]
  refine ⟨h1,h2,fun x' hx' hp'=>?_⟩
  rcases Nat.lt_or_ge x' x with h4 | h4
  ·exact h3 x' h4 hp'
  ·have e:x' = x:=by omega
   rw [e]
   exact hs
theorem go_inv {b:Beach} (hb:Valid b):∀ (d x:Nat) (y:List Int),x + d = 2 ^ b.notes.length→InvR b x y→InvR b (2 ^ b.notes.length) (goR (allR b) b.notes.length d x y)
 | 0,x,y,hd,h=>by
  have e:x = 2 ^ b.notes.length:=by omega
  rw [← e]
  exact h
 | d + 1,x,y,hd,h=>go_inv hb d (x + 1) (stepR (allR b) b.notes.length x y) (by omega) (step_inv hb (by omega) h)
theorem leave_eq {b:Beach} (hb:Valid b):leaveP b = some (leaveR (allR b) b.notes.length):=by
 have hpos:=Nat.two_pow_pos b.notes.length
 have h0:possB b (bitsB (2 ^ b.notes.length - 1) b.notes.length) = true:=by
  rw [poss_can hb (by omega),canB_iff hb.ne]
  refine ⟨nthGo b.winds 0,nth_listed hb.ne 0,fun i hi=>?_⟩
  rw [Nat.sub_self,Nat.zero_testBit] at hi
  cases hi
 have h:=go_inv hb (2 ^ b.notes.length) 0 _ (by omega) ⟨bits_inc _ _,h0,fun x' hx'=>absurd hx' (by omega)⟩
 have e:goR (allR b) b.notes.length (2 ^ b.notes.length) 0 (bitsB (2 ^ b.notes.length - 1) b.notes.length) = leaveR (allR b) b.notes.length:=rfl
 rw [e] at h
 obtain ⟨h1,h2,h3⟩:=h
 have hs:=leave_spec b
 cases hl:leaveP b with
 | none =>
  rw [hl] at hs
  rw [hs _ h1] at h2
  cases h2
 | some z =>
  rw [hl] at hs
  refine congrArg some (Least.uniq hs ⟨h1,h2,fun t ht hp=>?_⟩)
  obtain ⟨x,hx,e⟩:=inc_bits _ _ ht
  rw [e] at hp ⊢
  exact h3 x hx hp
end Go.Proofs.Tryz.Op
