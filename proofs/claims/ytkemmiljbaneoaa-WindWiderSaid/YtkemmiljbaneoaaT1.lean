/- With one more note: the plain law. No program in sight. -/
import Derived.Test.YtkemmiljbaneoaaI1
import Derived.Test.YtkemmiljbaneoaaN2
import Derived.Test.YtkemmiljbaneoaaN1
import Derived.Test.YtkemmiljbaneoaaJ1
import Derived.Test.YtkemmiljbaneoaaX1
import Derived.Test.YtkemmiljbaneoaaFz
open Go Go.Pg Go.Proofs Go.Wind
namespace Go.Proofs.Try.Op
set_option maxRecDepth 100000
set_option linter.unusedSimpArgs false
/-! ### The smallest set: how long it is -/
def IncL (N:Nat):Nat→List Int→Prop
 | _,[]=>True
 | fr,a :: r=>∃ i:Nat,a = i∧fr≤i∧i < N∧IncL N (i + 1) r
theorem IncL.more {N:Nat}:∀ {l:List Int} {fr:Nat},IncL N fr l→IncL (N + 1) fr l
 | [],_,_=>trivial
 | _ :: _,_,⟨i,e,h1,h2,h3⟩=>⟨i,e,h1,by omega,h3.more⟩
theorem IncL.split {N:Nat}:∀ {l:List Int} {fr:Nat},IncL (N + 1) fr l→IncL N fr l∨∃ l',l = l' ++ [(N:Int)]∧IncL N fr l'
 | [],_,_=>.inl trivial
 | a :: r,fr,⟨i,e,h1,h2,h3⟩=>by
  by_cases hi:i = N
  ·subst hi
   cases r with
   | nil=>exact .inr ⟨[],by rw [e]; rfl,trivial⟩
   | cons a' r' =>
    obtain ⟨i',_,h1',h2',_⟩:=h3
    omega
  ·rcases h3.split with h | ⟨l',e',h⟩
   ·exact .inl ⟨i,e,h1,by omega,h⟩
   ·exact .inr ⟨a :: l',by rw [e']; rfl,i,e,h1,by omega,h⟩
theorem inc_room {N:Nat}:∀ {l:List Int} {fr:Nat},IncL N fr l→fr≤N→fr + l.length≤N
 | [],_,_,h=>h
 | _ :: r,fr,⟨i,_,h1,h2,h3⟩,_=>by
  have:=inc_room h3 (by omega)
  simp
  omega
theorem first_some {f:Nat→Option (List Int)}:∀ {e j:Nat} {y:List Int},firstS f e j = some y→∃ i,j≤i∧i < j + e∧f i = some y∧∀ k,j≤k→k < i→f k = none
 | 0,_,_,h=>by cases h
 | e + 1,j,y,h=>by
  unfold firstS at h
  cases hf:f j with
  | some x =>
   rw [hf] at h
   cases h
   exact ⟨j,Nat.le_refl _,by omega,hf,fun k h1 h2=>by omega⟩
  | none =>
   rw [hf] at h
   obtain ⟨i,h1,h2,h3,h4⟩:=first_some h
   refine ⟨i,by omega,by omega,h3,fun k k1 k2=>?_⟩
   by_cases hk:k = j
   ·rw [hk]; exact hf
   ·exact h4 k (by omega) k2
theorem first_none {f:Nat→Option (List Int)}:∀ {e j:Nat},firstS f e j = none→∀ k,j≤k→k < j + e→f k = none
 | 0,_,_,k,h1,h2=>by omega
 | e + 1,j,h,k,h1,h2=>by
  unfold firstS at h
  cases hf:f j with
  | some x=>rw [hf] at h; cases h
  | none =>
   rw [hf] at h
   by_cases hk:k = j
   ·rw [hk]; exact hf
   ·exact first_none h k (by omega) (by omega)
theorem srch_len (b:Beach):∀ (m fr:Nat) (out:List Int),fr≤b.notes.length →
  match srch b m fr out with
  | some y=>∃ t,y = out ++ t∧t.length = m∧IncL b.notes.length fr t∧possB b y = true
  | none=>∀ t',t'.length = m→IncL b.notes.length fr t'→possB b (out ++ t') = false
 | 0,fr,out,_=>by
  unfold srch
  by_cases h:possB b out = true
  ·rw [if_pos h]
   exact ⟨[],by simp,rfl,trivial,h⟩
  ·rw [if_neg h]
   intro t' h1 _
   have:t' = []:=List.eq_nil_of_length_eq_zero h1
   subst this
   rw [List.append_nil]
   simpa using h
 | m + 1,fr,out,hfr=>by
  have hsr:srch b (m + 1) fr out = firstS (fun j=>srch b m (j + 1) (out ++ [(j:Int)])) (b.notes.length - m - fr) fr:=rfl
  rw [hsr]
  cases hq:firstS (fun j=>srch b m (j + 1) (out ++ [(j:Int)])) (b.notes.length - m - fr) fr with
  | some y =>
   obtain ⟨i,h1,h2,h3,h4⟩:=first_some hq
   have ih:=srch_len b m (i + 1) (out ++ [(i:Int)]) (by omega)
   rw [h3] at ih
   obtain ⟨t,e,hl,hi,hp⟩:=ih
   exact ⟨(i:Int) :: t,by rw [e]; simp,by simp [hl],⟨i,rfl,h1,by omega,hi⟩,hp⟩
  | none =>
   intro t' ht' hi'
   cases t' with
   | nil=>simp at ht'
   | cons a r =>
    obtain ⟨i',e,g1,g2,g4⟩:=hi'
    have hr:=inc_room g4 (by omega)
    have g3:r.length = m:=by simpa using ht'
    have hn:srch b m (i' + 1) (out ++ [(i':Int)]) = none:=first_none hq i' g1 (by omega)
    have ih':=srch_len b m (i' + 1) (out ++ [(i':Int)]) (by omega)
    rw [hn] at ih'
    have:=ih' r g3 g4
    rw [List.append_assoc,List.singleton_append] at this
    rw [e]
    exact this
theorem leave_len (b:Beach):match leaveP b with
  | some y=>IncL b.notes.length 0 y∧possB b y = true∧∀ t,IncL b.notes.length 0 t→possB b t = true→y.length≤t.length
  | none=>∀ t,IncL b.notes.length 0 t→possB b t = false:=by
 have hP:leaveP b = firstS (fun m=>srch b m 0 []) (b.notes.length + 1) 0:=rfl
 rw [hP]
 cases hq:firstS (fun m=>srch b m 0 []) (b.notes.length + 1) 0 with
 | some y =>
  obtain ⟨m,_,h2,h3,h4⟩:=first_some hq
  have ih:=srch_len b m 0 [] (Nat.zero_le _)
  rw [h3] at ih
  obtain ⟨t,e,hl,hi,hp⟩:=ih
  rw [List.nil_append] at e
  subst e
  refine ⟨hi,hp,fun t' ht' hp'=>?_⟩
  refine Nat.le_of_not_lt fun hlt=>?_
  have hn:srch b t'.length 0 [] = none:=h4 t'.length (Nat.zero_le _) (by omega)
  have ih':=srch_len b t'.length 0 [] (Nat.zero_le _)
  rw [hn] at ih'
  have:=ih' t' rfl ht'
  rw [List.nil_append] at this
  rw [this] at hp'
  cases hp'
 | none =>
  intro t ht
  have hr:=inc_room ht (Nat.zero_le _)
  have hn:srch b t.length 0 [] = none:=first_none hq t.length (Nat.zero_le _) (by omega)
  have ih':=srch_len b t.length 0 [] (Nat.zero_le _)
  rw [hn] at ih'
  have:=ih' t rfl ht
  rwa [List.nil_append] at this
theorem rightGo_iff (t out:List Int):∀ (l:List (Int × Int)) (k:Nat),rightGo t out l k = true ↔ ∀ i (hi:i < l.length),((k + i:Nat):Int) ∈ out∨rightB t l[i] = true
 | [],k=>by simp [rightGo]
 | x :: r,k=>by
  have ih:=rightGo_iff t out r (k + 1)
  simp only [rightGo,Bool.and_eq_true,Bool.or_eq_true,decide_eq_true_eq,ih]
  constructor
  ·rintro ⟨h1,h2⟩ i hi
   cases i with
   | zero=>simpa using h1
   | succ i =>
    have:=h2 i (by simpa using hi)
    rw [show k + (i + 1) = k + 1 + i by omega]
    simpa using this
  ·intro h
   refine ⟨h 0 (Nat.zero_lt_succ _),fun i hi=>?_⟩
   have:=h (i + 1) (by simpa using hi)
   rw [show k + (i + 1) = k + 1 + i by omega] at this
   simpa using this
theorem possB_iff (b:Beach) (out:List Int):possB b out = true ↔ ∃ t,listedGo t b.winds = true∧rightGo t out b.notes 0 = true:=by
 unfold possB
 rw [dfsW_eq]
 simp only [List.nil_append,List.map_id',Bool.not_eq_true',decide_eq_false_iff_not]
 constructor
 ·intro h
  obtain ⟨t,ht⟩:=List.exists_mem_of_ne_nil _ h
  rw [List.mem_filter] at ht
  exact ⟨t,mem_prods.1 ht.1,ht.2⟩
 ·rintro ⟨t,h1,h2⟩ h
  have:t ∈ (prods b.winds).filter fun t=>rightGo t out b.notes 0:=List.mem_filter.2 ⟨mem_prods.2 h1,h2⟩
  rw [h] at this
  cases this
theorem poss_all {b:Beach} (hb:Valid b):∃ t,IncL b.notes.length 0 t∧possB b t = true:=by
 have hinc:∀ (d fr:Nat),fr + d = b.notes.length→∃ t:List Int,IncL b.notes.length fr t∧∀ i:Nat,fr≤i→i < b.notes.length→(i:Int) ∈ t:=by
  intro d
  induction d with
  | zero=>exact fun fr h=>⟨[],trivial,fun i h1 h2=>by omega⟩
  | succ d ih =>
   intro fr h
   obtain ⟨t,h1,h2⟩:=ih (fr + 1) (by omega)
   refine ⟨(fr:Int) :: t,⟨fr,rfl,Nat.le_refl _,by omega,h1⟩,fun i g1 g2=>?_⟩
   by_cases e:i = fr
   ·rw [e]; exact List.mem_cons_self
   ·exact List.mem_cons_of_mem _ (h2 i (by omega) g2)
 obtain ⟨t,h1,h2⟩:=hinc b.notes.length 0 (Nat.zero_add _)
 refine ⟨t,h1,(possB_iff b t).2 ?_⟩
 have hne:=hb.ne
 have:∃ u,u ∈ prods b.winds:=by
  clear h1 h2 hinc t
  generalize b.winds = W at hne
  induction W with
  | nil=>exact ⟨[],by simp [prods]⟩
  | cons l W ih =>
   obtain ⟨u,hu⟩:=ih fun l hl=>hne l (List.mem_cons_of_mem _ hl)
   obtain ⟨x,hx⟩:=List.exists_mem_of_ne_nil _ (hne l List.mem_cons_self)
   exact ⟨x :: u,mem_prods.2 (by simp [listedGo,hx,mem_prods.1 hu])⟩
 obtain ⟨u,hu⟩:=this
 exact ⟨u,mem_prods.1 hu,(rightGo_iff _ _ _ _).2 fun i hi=>.inl (h2 _ (Nat.zero_le _) (by omega))⟩
theorem leave_some {b:Beach} (hb:Valid b):(leaveP b).isSome = true:=by
 have h:=leave_len b
 cases hl:leaveP b with
 | some _=>rfl
 | none =>
  rw [hl] at h
  obtain ⟨t,h1,h2⟩:=poss_all hb
  rw [h t h1] at h2
  cases h2
/-! ### One more note -/
def noteB (b:Beach) (x:Int × Int):Beach:={ b with notes:=b.notes ++ [x] }
end Go.Proofs.Try.Op
/- With one more direction among the winds of an hour: the plain law. No program in sight. -/
open Go Go.Pg Go.Proofs Go.Wind
namespace Go.Proofs.Try.Op
set_option maxRecDepth 100000
set_option linter.unusedSimpArgs false
def widW (d:Int) (l:List Int):List Int:=four.filter fun n=>decide (n = d) || decide (n ∈ l)
def widerB (b:Beach) (h:Nat) (d:Int):Beach:={ b with winds:=b.winds.set h (widW d (b.winds.getD h [])) }
theorem winds_dirW {b:Beach} (hb:Valid b):∀ l ∈ b.winds,∀ x ∈ l,0≤x∧x≤3:=fun l hl x hx=>by
 have h2:=List.all_eq_true.1 hb.wo _ hl
 simp only [windOk,dirsB,Bool.and_eq_true,List.all_eq_true] at h2
 exact inI_iff.1 (h2.1.2 _ hx)
theorem listed_wider {b:Beach} (hb:Valid b) {h:Nat} {d:Int} {t:List Int} (ht:listedGo t b.winds = true):listedGo t (widerB b h d).winds = true:=by
 have hl:=listed_len ht
 refine listed_of (by simp [widerB,hl]) fun j h1 h2=>?_
 have hj:j < b.winds.length:=by omega
 have hm:=listed_at ht j h1 hj
 simp only [widerB,List.getElem_set]
 by_cases e:h = j
 ·subst e
  rw [if_pos rfl]
  unfold widW
  rw [List.mem_filter,mem_four,show b.winds.getD h [] = b.winds[h] by rw [List.getD_eq_getElem?_getD,List.getElem?_eq_getElem hj]; rfl]
  exact ⟨winds_dirW hb _ (List.getElem_mem hj) _ hm,by simp [hm]⟩
 ·rw [if_neg e]; exact hm
theorem poss_wider {b:Beach} (hb:Valid b) {h:Nat} {d:Int} {t:List Int} (hp:possB b t = true):possB (widerB b h d) t = true:=by
 rw [possB_iff] at hp ⊢
 obtain ⟨u,h1,h2⟩:=hp
 exact ⟨u,listed_wider hb h1,h2⟩
theorem leave_wider {b:Beach} (hb:Valid b) {h:Nat} {d:Int} {l m:List Int} (hl:leaveP b = some l) (hm:leaveP (widerB b h d) = some m):m.length≤l.length:=by
 have h1:=leave_len b
 have h2:=leave_len (widerB b h d)
 rw [hl] at h1
 rw [hm] at h2
 exact h2.2.2 l h1.1 (poss_wider hb h1.2.1)
theorem truths_wider {b:Beach} (hb:Valid b) {h:Nat} {d:Int} {t:List Int} (ht:t ∈ truthsR b):t ∈ truthsR (widerB b h d):=by
 rw [mem_truths] at ht ⊢
 simp only [isTruthB,Bool.and_eq_true] at ht ⊢
 exact ⟨listed_wider hb ht.1,ht.2⟩
theorem total_wider {b:Beach} {h:Nat} {d:Int} (hb:Valid b) (hx:Valid (widerB b h d)) {ws wx:List (List Int)} (ha:Asked b ws) (hax:Asked (widerB b h d) wx) {plan:List (List Int)} (hp:isPlanB b plan = true):(totalP (widerB b h d) wx plan).1≤(totalP b ws plan).1∧(totalP b ws plan).2≤(totalP (widerB b h d) wx plan).2:=by
 obtain ⟨i1,i2⟩:=totalP_is hb ha (plan_of hp)
 obtain ⟨j1,j2⟩:=totalP_is hx hax (plan_of (b:=widerB b h d) hp)
 exact ⟨j1.sub i1 (fun t h=>truths_wider hb h) fun t _=>Int.le_refl _,j2.sub i2 (fun t h=>truths_wider hb h) fun t _=>Int.le_refl _⟩
theorem best_wider {b:Beach} {h:Nat} {d:Int} (hb:Valid b) (hx:Valid (widerB b h d)) {ws wx:List (List Int)} (ha:Asked b ws) (hax:Asked (widerB b h d) wx) {most:Int} (hm:0≤most):bestV (widerB b h d) wx most≤bestV b ws most :=
 best_le hx hb id hm fun _ hp=>⟨hp,Int.le_refl _,(total_wider hb hx ha hax hp).1⟩
end Go.Proofs.Try.Op
/- WindWider: lists, handed over; an hour's winds anew. No condition. -/
open Go Go.Pg Go.Proofs Go.Wind
namespace Go.Proofs.Try.Op
set_option maxRecDepth 100000
set_option linter.unusedSimpArgs false
@[simp] theorem sr_lists:sliceR Try.prog 15 = true:=by kernel_rfl
theorem convU8m (k:IntKind) (n:Int):evConv Try.prog 5 3 (.int k n) = some (.int .i64 (IntKind.i64.wrap n)):=by
 kernel_rfl
theorem kInside (n:Nat) (a c:Int × Int):callK Try.prog kn (execA Try.prog ann kn (n+100)) 25 [.agg (encR a),.agg (encR c)] = some (.bool (decide (c.1≤a.1) && decide (a.2≤c.2))):=by
 rw [callK_of rfl,call0_eq Try.func25 b25 rfl (by simp [encR])]
 generalize e1:decide (c.1≤a.1) = z1
 generalize e2:decide (a.2≤c.2) = z2
 simp only [encR]
 cases z1 <;> cases z2 <;> simp [c25,argFr,e1,e2]
theorem dfs_none {b:Beach}:dfsW b [] b.winds [] = [] ↔ possB b [] = false:=by simp [possB]
theorem oLists (n:Nat) (ls:List (List Int)) (h1:ls.length≤100) (h2:∀ l ∈ ls,l.length≤100) (hne:ls ≠ []):callO1 Try.prog (execA Try.prog ann kn (n+400)) 15 [lli ls] = some ⟨.vec 22 (ls.map encL),none⟩:=by
 rw [callO1_eq Try.func15 b15 rfl (by simp [encI,encL])]
 obtain ⟨fr,c',γ',e1,q⟩:=lLists ls h1 h2 ls.length 0 0 0 [] (by omega) (by simp)
 have q:=fun n m=>q n (m + 200) (by omega)
 simp at q e1
 simp [c15,argFr,q,e1,retO_eq]
 cases ls with
 | nil=>exact absurd rfl hne
 | cons x xs=>exact rO_pv (P:=Try.prog) (R:=23) (T:=22) (by kernel_rfl) (by simp) _ _ _ 19 γ' (encL x :: xs.map encL) (by simp) (by simp [encL])
theorem adV_nilW {P:Program} {fr:Fr} (e k c:Nat) (loc:Level) (y:List V) (ys:List (List V)) (hl:Level.get loc k = none) (h2:appOK P e 0 (y :: ys) = true):adV P e k c fr ⟨[],loc⟩ .nil (y :: ys) = some (⟨c + 1,(k,true,pv k c (y :: ys)) :: fr,⟨[],(k,c,.vec e (y :: ys)) :: loc⟩⟩,[(0,k),(0,k + apK)]) :=
 adV_pv e k c 0 loc [] y ys hl rfl h2
def widN (d:Int) (l:List Int):Nat→List Int
 | 0=>[]
 | m + 1=>widN d l m ++ (if (decide ((m:Int) = d) || decide ((m:Int) ∈ l)) = true then [(m:Int)] else [])
theorem widN_len (d:Int) (l:List Int):∀ m,(widN d l m).length≤m
 | 0=>Nat.le_refl _
 | m + 1=>by
  have:=widN_len d l m
  simp only [widN,List.length_append]
  split <;> simp <;> omega
theorem widN_four (d:Int) (l:List Int):widN d l 4 = widW d l:=by
 unfold widW four
 rw [show [0,1,2,3] = [(0:Int)] ++ ([1] ++ ([2] ++ [3])) from rfl,List.filter_append,List.filter_append,List.filter_append]
 have e:∀ m:Int,[m].filter (fun n=>decide (n = d) || decide (n ∈ l)) = if (decide (m = d) || decide (m ∈ l)) = true then [m] else []:=fun m=>by
  cases h:(decide (m = d) || decide (m ∈ l)) <;> simp only [List.filter,h] <;> rfl
 rw [e,e,e,e]
 simp only [widN,List.nil_append,List.append_assoc]
 rfl
theorem lWid (b:Beach) (hb:Valid b) (h d:Nat) (hh:h < b.winds.length) (X9:Res) (v2 v3:V):∀ (e m c γ:Nat),m + e = 4→2 < c→∃ (c' γ':Nat),∀ n k,e < k→loopA (execA Try.prog ann kn (n+600) 177) lb7_8 (ann 177 (fstR lb7_8)) k ⟨c,[(2,true,v2),(3,true,v3),(4,true,.ptr 0 4 0 0),(9,true,.ptr 0 9 1 0),(10,true,i h),(11,true,i d),(12,true,i m)],⟨[],(4,0,.box (cellsB b)) :: (9,1,.box [i b.last,i b.rows,i b.places,i b.reach,li b.face,li b.sun,.vec 0 35 2 b.winds.length,.list false (b.breaks.map encP),.list false (b.notes.map encP)]) :: (35,2,.vec 22 ((b.winds.map encL).set h [pv 76 γ ((widN d (b.winds.getD h []) m).map encI)])) :: pl 76 γ 3 ((widN d (b.winds.getD h []) m).map encI)⟩⟩ =
  some (.exit 0,⟨c',[(51,true,.bool false),(50,true,i 4),(2,true,v2),(3,true,v3),(4,true,.ptr 0 4 0 0),(9,true,.ptr 0 9 1 0),(10,true,i h),(11,true,i d),(12,true,i 4)],⟨[],(4,0,.box (cellsB b)) :: (9,1,.box [i b.last,i b.rows,i b.places,i b.reach,li b.face,li b.sun,.vec 0 35 2 b.winds.length,.list false (b.breaks.map encP),.list false (b.notes.map encP)]) :: (35,2,.vec 22 ((b.winds.map encL).set h [pv 76 γ' ((widN d (b.winds.getD h []) 4).map encI)])) :: pl 76 γ' 3 ((widN d (b.winds.getD h []) 4).map encI)⟩⟩)
 | 0,m,c,γ,hm,hc=>by
  obtain rfl:m = 4:=by omega
  refine ⟨c,γ,fun n k hk=>?_⟩
  obtain ⟨k,rfl⟩:∃ k',k = k' + 1:=⟨k - 1,by omega⟩
  generalize widN d (b.winds.getD h []) 4 = acc
  rw [loopA_succ]
  cases acc <;> simp [cellsB]
 | e + 1,m,c,γ,hm,hc=>by
  have hm4:(m:Int) < 4:=by omega
  have hw:=wrapS (k:=m) (by omega)
  have hwh:b.winds.getD h [] = b.winds[h]:=by rw [List.getD_eq_getElem?_getD,List.getElem?_eq_getElem hh]; rfl
  have hln:=widN_len d (b.winds.getD h []) m
  have hap:appOK Try.prog 3 (widN d (b.winds.getD h []) m).length [[i m]] = true:=by
   have:=appI (k:=(widN d (b.winds.getD h []) m).length) (l:=[(m:Int)]) (by rw [List.length_singleton]; omega)
   simpa [encI] using this
  have hwn:widN d (b.winds.getD h []) (m + 1) = widN d (b.winds.getD h []) m ++ (if (decide ((m:Int) = d) || decide ((m:Int) ∈ b.winds.getD h [])) = true then [(m:Int)] else []):=rfl
  have qH:=fun n=>kHas n b.winds[h] m (by have:=hb.wl b.winds[h] (List.getElem_mem hh); omega)
  rw [← hwh] at qH
  generalize e1:decide ((m:Int) = (d:Int)) = z1 at hwn
  generalize e2:decide ((m:Int) ∈ b.winds.getD h []) = z2 at hwn qH
  rw [hwh] at qH
  cases hz:(z1 || z2) with
  | true =>
   obtain ⟨c',γ',ih⟩:=lWid b hb h d hh X9 v2 v3 e (m + 1) (c + 1) c (by omega) (by omega)
   refine ⟨c',γ',fun n k hk=>?_⟩
   obtain ⟨k,rfl⟩:∃ k',k = k' + 1:=⟨k - 1,by omega⟩
   have ih:=ih n k (by omega)
   rw [hwn,if_pos hz] at ih
   generalize widN d (b.winds.getD h []) 4 = fin at *
   generalize widN d (b.winds.getD h []) m = acc at *
   rw [loopA_succ]
   simp only [cellsB] at ih ⊢
   cases z1 <;> cases z2 <;> first | (cases hz; done) | (cases acc <;> (simp [encI] at ih hap; simp [hm4,hw,e1,hh,hap,encI,encL,qH,ih,plK,apK,put_eqX,adV_nilW,show 2 < c + 1 by omega]))
  | false =>
   obtain ⟨c',γ',ih⟩:=lWid b hb h d hh X9 v2 v3 e (m + 1) c γ (by omega) (by omega)
   refine ⟨c',γ',fun n k hk=>?_⟩
   obtain ⟨k,rfl⟩:∃ k',k = k' + 1:=⟨k - 1,by omega⟩
   have ih:=ih n k (by omega)
   rw [hwn,if_neg (by rw [hz]; decide),List.append_nil] at ih
   generalize widN d (b.winds.getD h []) 4 = fin at *
   generalize widN d (b.winds.getD h []) m = acc at *
   obtain ⟨rfl,rfl⟩:z1 = false∧z2 = false:=by cases z1 <;> cases z2 <;> first | exact ⟨rfl,rfl⟩ | cases hz
   rw [loopA_succ]
   simp only [cellsB] at ih ⊢
   cases acc <;> (simp [encI] at ih; simp [hm4,hw,e1,hh,encI,encL,qH,ih,plK,apK,put_eqX])
theorem told_encL (l k:Nat) (x:Option (Nat × Res)) (T:TypeId):(List.map (toldV l k x T)) ∘ encL = encL:=by
 funext l
 simp [encL]
theorem told_set (γ:Nat) (W:List (List Int)) (h:Nat) (f0:Int) (fs:List Int):List.map (List.map (toldV 0 76 (some (γ,Res.vec 3 ([i f0] :: List.map encI fs))) 3)) ((List.map encL W).set h [pv 76 γ ([i f0] :: List.map encI fs)]) = List.map encL (W.set h (f0 :: fs)):=by
 have e:List.map (toldV 0 76 (some (γ,Res.vec 3 ([i f0] :: List.map encI fs))) 3) [pv 76 γ ([i f0] :: List.map encI fs)] = encL (f0 :: fs):=by
  simp [encL,encI]
  rfl
 rw [List.map_set,List.map_map,told_encL,e,List.map_set]
set_option maxHeartbeats 4000000 in
theorem kWiderL (n:Nat) (b:Beach) (_:okB b) (κ1:Nat) (h1:κ1≤255) (κ2:Nat) (h2:κ2≤255) (ws:List Nat) (hws:∀ w ∈ ws,w≤65535):call0 Try.prog (execA Try.prog ann kn (n+31000)) 7 [.agg (cellsB b),.int .u8 κ1,.int .u8 κ2,.list false (ws.map encW)] = some (.bool true):=by
 rw [call0_eq Try.func7 b7 rfl (by simp [cellsB,encI,encL,encP,encW])]
 have qr:=fun n=>kReady n b
 have hpos:Nat.beq 2 1 = false:=rfl
 have hpos9:Nat.beq 9 1 = false:=rfl
 have hc8:∀ k r,rdsK Try.prog (IK.oth (Op.convert 5 3 (tq k))) r = []:=fun k r=>rfl
 have slc:∀ (e:List V) (es:List (List V)),sl (e :: es) = .list false (e :: es):=fun _ _=>rfl
 have slnil:sl ([]:List (List V)) = .nil:=rfl
 cases hR:readyB b with
 | false =>
  rw [hR] at qr
  simp only [cellsB] at qr ⊢
  simp [c7,argFr,qr,encI,encL,encP,encW,kAwakeX]
 | true =>
  rw [hR] at qr
  obtain ⟨hb,_⟩:=ready_of hR
  have hla:=hb.la
  have hro:=hb.ro
  have hpl:=hb.pl
  have hwi:=hb.wi
  have hW:b.winds ≠ []:=fun e=>by rw [e] at hwi; simp at hwi; omega
  have oL:=fun n=>oLists n b.winds (by omega) (fun l hl=>by have:=hb.wl l hl; omega) hW
  have hl0:0 < (b.last + 1).toNat:=by omega
  have el:b.last + 1 = ((b.last + 1).toNat:Int):=by omega
  have w1:IntKind.i64.wrap (κ1:Int) = (κ1:Int):=wrap_i64 (by omega) (by omega)
  have w2:IntKind.i64.wrap (κ2:Int) = (κ2:Int):=wrap_i64 (by omega) (by omega)
  have w3:IntKind.i64.wrap (b.last + 1) = b.last + 1:=wrap_i64 (by omega) (by omega)
  have m1:(κ1:Int).tmod (b.last + 1) = ((κ1 % (b.last + 1).toNat:Nat):Int):=by rw [el]; exact (Int.ofNat_tmod _ _).symm
  have m2:(κ2:Int).tmod 4 = ((κ2 % 4:Nat):Int):=(Int.ofNat_tmod _ 4).symm
  have l1:=Nat.mod_lt κ1 hl0
  have l2:=Nat.mod_lt κ2 (show 0 < 4 by decide)
  generalize κ1 % (b.last + 1).toNat = h at m1 l1
  generalize κ2 % 4 = d at m2 l2
  have wr1:IntKind.i64.wrap (h:Int) = (h:Int):=wrap_i64 (by omega) (by omega)
  have wr2:IntKind.i64.wrap (d:Int) = (d:Int):=wrap_i64 (by omega) (by omega)
  have hln:¬ b.last + 1 = 0:=by omega
  have hh:h < b.winds.length:=by omega
  obtain ⟨c',γ',q8⟩:=lWid b hb h d hh .dead (.int .u8 κ2) (.list false (ws.map encW)) 4 0 3 0 (by omega) (by omega)
  have q8:=fun n k=>q8 n (k + 100) (by omega)
  rw [widN_four,show widN d (b.winds.getD h []) 0 = [] from rfl] at q8
  have qx:=fun n=>kReady n (widerB b h d)
  have hdF:(d:Int) ∈ widW d (b.winds.getD h []):=by
   unfold widW
   rw [List.mem_filter,mem_four]
   exact ⟨by omega,by simp⟩
  cases hX:readyB (widerB b h d) with
  | false =>
   rw [hX] at qx
   obtain ⟨f0,fs,hF⟩:∃ f0 fs,widW d (b.winds.getD h []) = f0 :: fs:=List.exists_cons_of_ne_nil (List.ne_nil_of_mem hdF)
   have hst:=told_set γ' b.winds h f0 fs
   rw [hF] at q8
   simp only [cellsB,widerB,hF] at qr qx q8 ⊢
   simp [encI] at q8
   simp [-List.map_set,c7,argFr,qr,qx,q8,oL,encI,encL,encP,encW,kAwakeX,plK,w1,w2,w3,wr1,wr2,m1,m2,hln,hh,put_eqX,hc8,convU8m,placeL,placeS,placeOf,anyK,celK,hpos,hpos9,told_encL,slc,hst]
  | true =>
   rw [hX] at qx
   obtain ⟨hx,_⟩:=ready_of hX
   have qB:=fun n=>kBeachX n hb
   have qBx:=fun n=>kBeachX n hx
   have hls:=leave_some hb
   have hms:=leave_some hx
   have qL:=fun n=>kLeave n b hb.w40 fun _=>hls
   have qM:=fun n=>kLeave n (widerB b h d) hx.w40 fun _=>hms
   obtain ⟨l,hl⟩:=Option.isSome_iff_exists.1 hls
   obtain ⟨m,hm⟩:=Option.isSome_iff_exists.1 hms
   unfold leaveV at qL qM
   rw [if_pos (fault_of hb),hl,Option.getD_some] at qL
   rw [if_pos (fault_of hx),hm,Option.getD_some] at qM
   have g1:=leave_wider hb hl hm
   obtain ⟨f0,fs,hF⟩:∃ f0 fs,widW d (b.winds.getD h []) = f0 :: fs:=List.exists_cons_of_ne_nil (List.ne_nil_of_mem hdF)
   have hst:=told_set γ' b.winds h f0 fs
   rw [hF] at q8
   by_cases hl0:l = []
   ·subst hl0
    obtain rfl:m = []:=List.eq_nil_of_length_eq_zero (by simpa using g1)
    have hpb:possB b [] = true:=by
     have:=leave_len b
     rw [hl] at this
     exact this.2.1
    have hE:dfsW b [] b.winds [] ≠ []:=fun h=>by
     have:=dfs_none.1 h
     rw [hpb] at this
     cases this
    have hE2:dfsW (widerB b h d) [] (widerB b h d).winds [] ≠ []:=fun h=>by
     have:=dfs_none.1 h
     rw [poss_wider hb hpb] at this
     cases this
    have ha:=asked_dfs hb hE
    have hax:=asked_dfs hx hE2
    have hp:=planW_ok hb ws
    have hpx:isPlanB (widerB b h d) (planOfW b ws) = true:=hp
    have hpo:=plan_of hp
    have qp:=fun n=>kPlan n b hb ws hws
    have qli:=fun n=>kListsX n hb hpo
    have qT:=fun n=>kTotal n b hb.w40 (planOfW b ws)
    have qTx:=fun n=>kTotal n (widerB b h d) hx.w40 (planOfW b ws)
    rw [totalV_ok hb hp hE] at qT
    rw [totalV_ok hx hpx hE2] at qTx
    obtain ⟨t1,t2⟩:=total_wider hb hx ha hax hp
    have m3:(κ2:Int).tmod 40 = ((κ2 % 40:Nat):Int):=(Int.ofNat_tmod _ 40).symm
    have l3:=Nat.mod_lt κ2 (show 0 < 40 by decide)
    generalize κ2 % 40 = mo at m3 l3
    have wr3:IntKind.i64.wrap (mo:Int) = (mo:Int):=wrap_i64 (by omega) (by omega)
    have qb:=fun n=>kBest n b hb.w40 mo
    have qbx:=fun n=>kBest n (widerB b h d) hx.w40 mo
    unfold bestVV at qb qbx
    rw [if_pos (fault_of hb),if_pos (inI_iff.2 (by omega)),if_neg (by simpa using hE)] at qb
    rw [if_pos (fault_of hx),if_pos (inI_iff.2 (by omega)),if_neg (by simpa using hE2)] at qbx
    have hle:=best_wider hb hx ha hax (most:=mo) (by omega)
    have hbp:bestPl b (windsA b) mo ≠ []:=fun h=>by
     have:=(plan_of (best_spec hb (windsA b) (most:=mo) (by omega)).1.1).len
     rw [h] at this; simp at this; omega
    have hxp:bestPl (widerB b h d) (windsA (widerB b h d)) mo ≠ []:=fun h'=>by
     have:=(plan_of (best_spec hx (windsA (widerB b h d)) (most:=mo) (by omega)).1.1).len
     rw [h'] at this
     change ((0:Nat):Int) = b.last + 1 at this
     omega
    rw [slX hbp] at qb
    rw [slX hxp] at qbx
    have qI:=fun n=>kInside n (totalP b (windsA b) (planOfW b ws)) (totalP (widerB b h d) (windsA (widerB b h d)) (planOfW b ws))
    rw [decide_eq_true t1,decide_eq_true t2] at qI
    generalize totalP (widerB b h d) (windsA (widerB b h d)) (planOfW b ws) = R2 at *
    generalize totalP b (windsA b) (planOfW b ws) = R1 at *
    generalize bestV b (windsA b) mo = V1 at *
    generalize bestPl b (windsA b) mo = W1 at *
    generalize bestV (widerB b h d) (windsA (widerB b h d)) mo = V2 at *
    generalize bestPl (widerB b h d) (windsA (widerB b h d)) mo = W2 at *
    generalize planOfW b ws = P at *
    simp only [cellsB,cellsR,widerB,hF,encR,List.map_nil,slnil,Bool.and_self] at qr qx q8 qB qBx qL qM qp qT qTx qb qbx qI ⊢
    simp [encI] at q8
    simp [-List.map_set,c7,argFr,qr,qx,q8,qB,qBx,qL,qM,oL,encI,encL,encP,encW,kAwakeX,plK,w1,w2,w3,wr1,wr2,m1,m2,hln,hh,put_eqX,hc8,convU8m,placeL,placeS,placeOf,anyK,celK,hpos,hpos9,told_encL,slc,hst,qp,qli,qT,qTx,qb,qbx,qI,m3,wr3,hle]
   ·rw [slX hl0] at qL
    have g2:¬ ((l.length:Int) < (m.length:Int)):=by omega
    have hlp:=List.length_pos_iff.2 hl0
    have hlp2:0 < (l.length:Int):=by omega
    have g0:¬ ((l.length:Int) < 0):=by omega
    by_cases hm0:m = []
    ·subst hm0
     simp only [cellsB,cellsR,widerB,hF,List.map_nil,slnil] at qr qx q8 qB qBx qL qM ⊢
     simp [encI] at q8
     simp [-List.map_set,c7,argFr,qr,qx,q8,qB,qBx,qL,qM,oL,encI,encL,encP,encW,kAwakeX,plK,w1,w2,w3,wr1,wr2,m1,m2,hln,hh,put_eqX,hc8,convU8m,placeL,placeS,placeOf,anyK,celK,hpos,hpos9,told_encL,slc,hst,g0,hlp,hlp2]
    ·rw [slX hm0] at qM
     simp only [cellsB,cellsR,widerB,hF] at qr qx q8 qB qBx qL qM ⊢
     simp [encI] at q8
     simp [-List.map_set,c7,argFr,qr,qx,q8,qB,qBx,qL,qM,oL,encI,encL,encP,encW,kAwakeX,plK,w1,w2,w3,wr1,wr2,m1,m2,hln,hh,put_eqX,hc8,convU8m,placeL,placeS,placeOf,anyK,celK,hpos,hpos9,told_encL,slc,hst,g2,hlp,hlp2]
end Go.Proofs.Try.Op
