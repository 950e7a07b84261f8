/- With one more note: the plain law. No program in sight. -/
import Derived.Test.YtkemmiljbaneoaaI1
import Derived.Test.YtkemmiljbaneoaaN2
import Derived.Test.YtkemmiljbaneoaaN1
import Derived.Test.YtkemmiljbaneoaaJ1
import Derived.Test.YtkemmiljbaneoaaX1
import Derived.Test.YtkemmiljbaneoaaFz
open Go Go.Pg Go.Proofs Go.Wind
namespace Go.Proofs.Try.Op
set_option maxRecDepth 100000
set_option linter.unusedSimpArgs false
/-! ### The smallest set: how long it is -/
def IncL (N:Nat):Nat→List Int→Prop
 | _,[]=>True
 | fr,a :: r=>∃ i:Nat,a = i∧fr≤i∧i < N∧IncL N (i + 1) r
theorem IncL.snoc {N:Nat}:∀ {l:List Int} {fr:Nat},fr≤N→IncL N fr l→IncL (N + 1) fr (l ++ [(N:Int)])
 | [],fr,hf,_=>⟨N,rfl,hf,by omega,trivial⟩
 | _ :: _,_,_,⟨i,e,h1,h2,h3⟩=>⟨i,e,h1,by omega,h3.snoc (by omega)⟩
theorem IncL.more {N:Nat}:∀ {l:List Int} {fr:Nat},IncL N fr l→IncL (N + 1) fr l
 | [],_,_=>trivial
 | _ :: _,_,⟨i,e,h1,h2,h3⟩=>⟨i,e,h1,by omega,h3.more⟩
theorem IncL.split {N:Nat}:∀ {l:List Int} {fr:Nat},IncL (N + 1) fr l→IncL N fr l∨∃ l',l = l' ++ [(N:Int)]∧IncL N fr l'
 | [],_,_=>.inl trivial
 | a :: r,fr,⟨i,e,h1,h2,h3⟩=>by
  by_cases hi:i = N
  ·subst hi
   cases r with
   | nil=>exact .inr ⟨[],by rw [e]; rfl,trivial⟩
   | cons a' r' =>
    obtain ⟨i',_,h1',h2',_⟩:=h3
    omega
  ·rcases h3.split with h | ⟨l',e',h⟩
   ·exact .inl ⟨i,e,h1,by omega,h⟩
   ·exact .inr ⟨a :: l',by rw [e']; rfl,i,e,h1,by omega,h⟩
theorem inc_room {N:Nat}:∀ {l:List Int} {fr:Nat},IncL N fr l→fr≤N→fr + l.length≤N
 | [],_,_,h=>h
 | _ :: r,fr,⟨i,_,h1,h2,h3⟩,_=>by
  have:=inc_room h3 (by omega)
  simp
  omega
theorem first_some {f:Nat→Option (List Int)}:∀ {e j:Nat} {y:List Int},firstS f e j = some y→∃ i,j≤i∧i < j + e∧f i = some y∧∀ k,j≤k→k < i→f k = none
 | 0,_,_,h=>by cases h
 | e + 1,j,y,h=>by
  unfold firstS at h
  cases hf:f j with
  | some x =>
   rw [hf] at h
   cases h
   exact ⟨j,Nat.le_refl _,by omega,hf,fun k h1 h2=>by omega⟩
  | none =>
   rw [hf] at h
   obtain ⟨i,h1,h2,h3,h4⟩:=first_some h
   refine ⟨i,by omega,by omega,h3,fun k k1 k2=>?_⟩
   by_cases hk:k = j
   ·rw [hk]; exact hf
   ·exact h4 k (by omega) k2
theorem first_none {f:Nat→Option (List Int)}:∀ {e j:Nat},firstS f e j = none→∀ k,j≤k→k < j + e→f k = none
 | 0,_,_,k,h1,h2=>by omega
 | e + 1,j,h,k,h1,h2=>by
  unfold firstS at h
  cases hf:f j with
  | some x=>rw [hf] at h; cases h
  | none =>
   rw [hf] at h
   by_cases hk:k = j
   ·rw [hk]; exact hf
   ·exact first_none h k (by omega) (by omega)
theorem srch_len (b:Beach):∀ (m fr:Nat) (out:List Int),fr≤b.notes.length →
  match srch b m fr out with
  | some y=>∃ t,y = out ++ t∧t.length = m∧IncL b.notes.length fr t∧possB b y = true
  | none=>∀ t',t'.length = m→IncL b.notes.length fr t'→possB b (out ++ t') = false
 | 0,fr,out,_=>by
  unfold srch
  by_cases h:possB b out = true
  ·rw [if_pos h]
   exact ⟨[],by simp,rfl,trivial,h⟩
  ·rw [if_neg h]
   intro t' h1 _
   have:t' = []:=List.eq_nil_of_length_eq_zero h1
   subst this
   rw [List.append_nil]
   simpa using h
 | m + 1,fr,out,hfr=>by
  have hsr:srch b (m + 1) fr out = firstS (fun j=>srch b m (j + 1) (out ++ [(j:Int)])) (b.notes.length - m - fr) fr:=rfl
  rw [hsr]
  cases hq:firstS (fun j=>srch b m (j + 1) (out ++ [(j:Int)])) (b.notes.length - m - fr) fr with
  | some y =>
   obtain ⟨i,h1,h2,h3,h4⟩:=first_some hq
   have ih:=srch_len b m (i + 1) (out ++ [(i:Int)]) (by omega)
   rw [h3] at ih
   obtain ⟨t,e,hl,hi,hp⟩:=ih
   exact ⟨(i:Int) :: t,by rw [e]; simp,by simp [hl],⟨i,rfl,h1,by omega,hi⟩,hp⟩
  | none =>
   intro t' ht' hi'
   cases t' with
   | nil=>simp at ht'
   | cons a r =>
    obtain ⟨i',e,g1,g2,g4⟩:=hi'
    have hr:=inc_room g4 (by omega)
    have g3:r.length = m:=by simpa using ht'
    have hn:srch b m (i' + 1) (out ++ [(i':Int)]) = none:=first_none hq i' g1 (by omega)
    have ih':=srch_len b m (i' + 1) (out ++ [(i':Int)]) (by omega)
    rw [hn] at ih'
    have:=ih' r g3 g4
    rw [List.append_assoc,List.singleton_append] at this
    rw [e]
    exact this
theorem leave_len (b:Beach):match leaveP b with
  | some y=>IncL b.notes.length 0 y∧possB b y = true∧∀ t,IncL b.notes.length 0 t→possB b t = true→y.length≤t.length
  | none=>∀ t,IncL b.notes.length 0 t→possB b t = false:=by
 have hP:leaveP b = firstS (fun m=>srch b m 0 []) (b.notes.length + 1) 0:=rfl
 rw [hP]
 cases hq:firstS (fun m=>srch b m 0 []) (b.notes.length + 1) 0 with
 | some y =>
  obtain ⟨m,_,h2,h3,h4⟩:=first_some hq
  have ih:=srch_len b m 0 [] (Nat.zero_le _)
  rw [h3] at ih
  obtain ⟨t,e,hl,hi,hp⟩:=ih
  rw [List.nil_append] at e
  subst e
  refine ⟨hi,hp,fun t' ht' hp'=>?_⟩
  refine Nat.le_of_not_lt fun hlt=>?_
  have hn:srch b t'.length 0 [] = none:=h4 t'.length (Nat.zero_le _) (by omega)
  have ih':=srch_len b t'.length 0 [] (Nat.zero_le _)
  rw [hn] at ih'
  have:=ih' t' rfl ht'
  rw [List.nil_append] at this
  rw [this] at hp'
  cases hp'
 | none =>
  intro t ht
  have hr:=inc_room ht (Nat.zero_le _)
  have hn:srch b t.length 0 [] = none:=first_none hq t.length (Nat.zero_le _) (by omega)
  have ih':=srch_len b t.length 0 [] (Nat.zero_le _)
  rw [hn] at ih'
  have:=ih' t rfl ht
  rwa [List.nil_append] at this
theorem rightGo_iff (t out:List Int):∀ (l:List (Int × Int)) (k:Nat),rightGo t out l k = true ↔ ∀ i (hi:i < l.length),((k + i:Nat):Int) ∈ out∨rightB t l[i] = true
 | [],k=>by simp [rightGo]
 | x :: r,k=>by
  have ih:=rightGo_iff t out r (k + 1)
  simp only [rightGo,Bool.and_eq_true,Bool.or_eq_true,decide_eq_true_eq,ih]
  constructor
  ·rintro ⟨h1,h2⟩ i hi
   cases i with
   | zero=>simpa using h1
   | succ i =>
    have:=h2 i (by simpa using hi)
    rw [show k + (i + 1) = k + 1 + i by omega]
    simpa using this
  ·intro h
   refine ⟨h 0 (Nat.zero_lt_succ _),fun i hi=>?_⟩
   have:=h (i + 1) (by simpa using hi)
   rw [show k + (i + 1) = k + 1 + i by omega] at this
   simpa using this
theorem possB_iff (b:Beach) (out:List Int):possB b out = true ↔ ∃ t,listedGo t b.winds = true∧rightGo t out b.notes 0 = true:=by
 unfold possB
 rw [dfsW_eq]
 simp only [List.nil_append,List.map_id',Bool.not_eq_true',decide_eq_false_iff_not]
 constructor
 ·intro h
  obtain ⟨t,ht⟩:=List.exists_mem_of_ne_nil _ h
  rw [List.mem_filter] at ht
  exact ⟨t,mem_prods.1 ht.1,ht.2⟩
 ·rintro ⟨t,h1,h2⟩ h
  have:t ∈ (prods b.winds).filter fun t=>rightGo t out b.notes 0:=List.mem_filter.2 ⟨mem_prods.2 h1,h2⟩
  rw [h] at this
  cases this
theorem poss_all {b:Beach} (hb:Valid b):∃ t,IncL b.notes.length 0 t∧possB b t = true:=by
 have hinc:∀ (d fr:Nat),fr + d = b.notes.length→∃ t:List Int,IncL b.notes.length fr t∧∀ i:Nat,fr≤i→i < b.notes.length→(i:Int) ∈ t:=by
  intro d
  induction d with
  | zero=>exact fun fr h=>⟨[],trivial,fun i h1 h2=>by omega⟩
  | succ d ih =>
   intro fr h
   obtain ⟨t,h1,h2⟩:=ih (fr + 1) (by omega)
   refine ⟨(fr:Int) :: t,⟨fr,rfl,Nat.le_refl _,by omega,h1⟩,fun i g1 g2=>?_⟩
   by_cases e:i = fr
   ·rw [e]; exact List.mem_cons_self
   ·exact List.mem_cons_of_mem _ (h2 i (by omega) g2)
 obtain ⟨t,h1,h2⟩:=hinc b.notes.length 0 (Nat.zero_add _)
 refine ⟨t,h1,(possB_iff b t).2 ?_⟩
 have hne:=hb.ne
 have:∃ u,u ∈ prods b.winds:=by
  clear h1 h2 hinc t
  generalize b.winds = W at hne
  induction W with
  | nil=>exact ⟨[],by simp [prods]⟩
  | cons l W ih =>
   obtain ⟨u,hu⟩:=ih fun l hl=>hne l (List.mem_cons_of_mem _ hl)
   obtain ⟨x,hx⟩:=List.exists_mem_of_ne_nil _ (hne l List.mem_cons_self)
   exact ⟨x :: u,mem_prods.2 (by simp [listedGo,hx,mem_prods.1 hu])⟩
 obtain ⟨u,hu⟩:=this
 exact ⟨u,mem_prods.1 hu,(rightGo_iff _ _ _ _).2 fun i hi=>.inl (h2 _ (Nat.zero_le _) (by omega))⟩
theorem leave_some {b:Beach} (hb:Valid b):(leaveP b).isSome = true:=by
 have h:=leave_len b
 cases hl:leaveP b with
 | some _=>rfl
 | none =>
  rw [hl] at h
  obtain ⟨t,h1,h2⟩:=poss_all hb
  rw [h t h1] at h2
  cases h2
/-! ### One more note -/
def noteB (b:Beach) (x:Int × Int):Beach:={ b with notes:=b.notes ++ [x] }
theorem poss_less {b:Beach} {x:Int × Int} {t:List Int} (h:possB (noteB b x) t = true):possB b t = true:=by
 rw [possB_iff] at h ⊢
 obtain ⟨u,h1,h2⟩:=h
 refine ⟨u,h1,(rightGo_iff _ _ _ _).2 fun i hi=>?_⟩
 have:=(rightGo_iff _ _ _ _).1 h2 i (by simp [noteB]; omega)
 simpa [noteB,List.getElem_append_left hi] using this
theorem poss_out {b:Beach} {t t':List Int} (ht:∀ i:Nat,i < b.notes.length→(i:Int) ∈ t→(i:Int) ∈ t') (h:possB b t = true):possB b t' = true:=by
 rw [possB_iff] at h ⊢
 obtain ⟨u,h1,h2⟩:=h
 refine ⟨u,h1,(rightGo_iff _ _ _ _).2 fun i hi=>?_⟩
 rcases (rightGo_iff _ _ _ _).1 h2 i hi with h | h
 ·exact .inl (by rw [Nat.zero_add] at h ⊢; exact ht i hi h)
 ·exact .inr h
theorem poss_snoc {b:Beach} {x:Int × Int} {t:List Int} (h:possB b t = true):possB (noteB b x) (t ++ [(b.notes.length:Int)]) = true:=by
 rw [possB_iff] at h ⊢
 obtain ⟨u,h1,h2⟩:=h
 refine ⟨u,h1,(rightGo_iff _ _ _ _).2 fun i hi=>?_⟩
 simp only [noteB,List.length_append,List.length_cons,List.length_nil] at hi
 by_cases e:i = b.notes.length
 ·exact .inl (by rw [e]; simp)
 ·rcases (rightGo_iff _ _ _ _).1 h2 i (by omega) with h | h
  ·exact .inl (List.mem_append_left _ h)
  ·exact .inr (by simpa [noteB,List.getElem_append_left (show i < b.notes.length by omega)] using h)
theorem leave_more {b:Beach} {x:Int × Int} {l m:List Int} (hl:leaveP b = some l) (hm:leaveP (noteB b x) = some m):l.length≤m.length∧m.length≤l.length + 1:=by
 have h1:=leave_len b
 have h2:=leave_len (noteB b x)
 rw [hl] at h1
 rw [hm] at h2
 obtain ⟨i1,p1,m1⟩:=h1
 obtain ⟨i2,p2,m2⟩:=h2
 have hN:(noteB b x).notes.length = b.notes.length + 1:=by simp [noteB]
 rw [hN] at i2 m2
 constructor
 ·rcases i2.split with h | ⟨m',e,h⟩
  ·exact m1 m h (poss_less p2)
  ·have:=m1 m' h (poss_out (t:=m) (fun i hi hm=>by
    rw [e,List.mem_append] at hm
    rcases hm with hm | hm
    ·exact hm
    ·rw [List.mem_singleton] at hm; omega) (poss_less p2))
   rw [e,List.length_append]
   omega
 ·have:=m2 _ (i1.snoc (Nat.zero_le _)) (poss_snoc p1)
  rw [List.length_append] at this
  exact this
theorem truths_less {b:Beach} {x:Int × Int} {t:List Int} (h:t ∈ truthsR (noteB b x)):t ∈ truthsR b∧rightB t x = true:=by
 rw [mem_truths] at h ⊢
 simp only [isTruthB,noteB,List.all_append,List.all_cons,List.all_nil,Bool.and_true,Bool.and_eq_true] at h ⊢
 exact ⟨⟨h.1,h.2.1⟩,h.2.2⟩
theorem total_note {b:Beach} {x:Int × Int} (hb:Valid b) (hx:Valid (noteB b x)) {ws wx:List (List Int)} (ha:Asked b ws) (hax:Asked (noteB b x) wx) {plan:List (List Int)} (hp:isPlanB b plan = true):(totalP b ws plan).1≤(totalP (noteB b x) wx plan).1∧(totalP (noteB b x) wx plan).2≤(totalP b ws plan).2:=by
 obtain ⟨i1,i2⟩:=totalP_is hb ha (plan_of hp)
 obtain ⟨j1,j2⟩:=totalP_is hx hax (plan_of (b:=noteB b x) hp)
 exact ⟨i1.sub j1 (fun t h=>(truths_less h).1) fun t _=>Int.le_refl _,i2.sub j2 (fun t h=>(truths_less h).1) fun t _=>Int.le_refl _⟩
theorem best_note {b:Beach} {x:Int × Int} (hb:Valid b) (hx:Valid (noteB b x)) {ws wx:List (List Int)} (ha:Asked b ws) (hax:Asked (noteB b x) wx) {most:Int} (hm:0≤most):bestV b ws most≤bestV (noteB b x) wx most :=
 best_le hb hx id hm fun _ hp=>⟨hp,Int.le_refl _,(total_note hb hx ha hax hp).1⟩
theorem calm_note {b:Beach} {x:Int × Int} (hb:Valid b) (hx:Valid (noteB b x)) {ws wx:List (List Int)} (ha:Asked b ws) (hax:Asked (noteB b x) wx) (hne:truthsR (noteB b x) ≠ []) (hh:x.1.toNat < b.winds.length) (q:Int→Bool):(verd (ws.getD x.1.toNat []) q = 3∨verd (ws.getD x.1.toNat []) q = verd (wx.getD x.1.toNat []) q)∧verd (wx.getD x.1.toNat []) q ≠ 3:=by
 rw [calm_verd hb ha hh,calm_verd hx hax (by simpa [noteB] using hh)]
 refine ⟨verd_sub hne fun t h=>(truths_less h).1,?_⟩
 have hc:∀ t ∈ truthsR (noteB b x),q (t.getD x.1.toNat 0) = q x.2:=fun t h=>by
  have:=(truths_less h).2
  simp only [rightB,decide_eq_true_eq] at this
  rw [← this]
  rfl
 unfold verd
 cases hq:q x.2 with
 | true =>
  rw [if_pos (List.countP_eq_length.2 fun t h=>by rw [hc t h,hq])]
  decide
 | false =>
  rw [if_neg,if_pos (List.countP_eq_zero.2 fun t h=>by rw [hc t h,hq]; decide)]
  ·decide
  ·rw [List.countP_eq_zero.2 fun t h=>by rw [hc t h,hq]; decide]
   exact fun e=>hne (List.eq_nil_of_length_eq_zero e.symm)
end Go.Proofs.Try.Op
/- The walk of WindMore. No condition but the reach of the notes. -/
open Go Go.Pg Go.Proofs Go.Wind
namespace Go.Proofs.Try.Op
set_option maxRecDepth 100000
set_option linter.unusedSimpArgs false
theorem convU8m (k:IntKind) (n:Int):evConv Try.prog 5 3 (.int k n) = some (.int .i64 (IntKind.i64.wrap n)):=by
 kernel_rfl
theorem app_notes {l:List (Int × Int)} {m:Nat} (h:(m + l.length) * 16≤140737488355328):appOK Try.prog 63 m (l.map encP) = true:=by
 rw [appOK_iff (by simp) (by simp)]
 simp [maxLen,encP]
 omega
theorem kInside (n:Nat) (a c:Int × Int):callK Try.prog kn (execA Try.prog ann kn (n+100)) 25 [.agg (encR a),.agg (encR c)] = some (.bool (decide (c.1≤a.1) && decide (a.2≤c.2))):=by
 rw [callK_of rfl,call0_eq Try.func25 b25 rfl (by simp [encR])]
 generalize e1:decide (c.1≤a.1) = z1
 generalize e2:decide (a.2≤c.2) = z2
 simp only [encR]
 cases z1 <;> cases z2 <;> simp [c25,argFr,e1,e2]
theorem dfs_none {b:Beach}:dfsW b [] b.winds [] = [] ↔ possB b [] = false:=by simp [possB]
theorem truths_some {b:Beach} (h:dfsW b [] b.winds [] ≠ []):truthsR b ≠ []:=fun e=>h (List.eq_nil_iff_forall_not_mem.2 fun t ht=>by
 have:=mem_truths.2 ((mem_dfs b t).1 ht)
 rw [e] at this
 cases this)
set_option maxHeartbeats 4000000 in
theorem kMoreL (n:Nat) (b:Beach) (_:okB b) (hz:b.notes.length * 16≤140737488351232) (x:Int × Int) (_:okI x.1∧okI x.2) (ws:List Nat) (hws:∀ w ∈ ws,w≤65535) (κ1:Nat) (h1:κ1≤255) (κ2:Nat) (h2:κ2≤255):call0 Try.prog (execA Try.prog ann kn (n+31000)) 6 [.agg (cellsB b),.agg (encP x),.list false (ws.map encW),.int .u8 κ1,.int .u8 κ2] = some (.bool true):=by
 rw [call0_eq Try.func6 b6 rfl (by simp [cellsB,encI,encL,encP,encW])]
 have qr:=fun n=>kReady n b
 have qx:=fun n=>kReady n (noteB b x)
 have a1:appOK Try.prog 63 0 (b.notes.map encP) = true:=app_notes (by omega)
 have a2:appOK Try.prog 63 b.notes.length [[i x.1,i x.2]] = true:=by
  have:=app_notes (l:=[x]) (m:=b.notes.length) (by simp; omega)
  simpa [encP] using this
 have hpos:Nat.beq 2 1 = false:=rfl
 have hpos9:Nat.beq 9 1 = false:=rfl
 have hc8:∀ k r,rdsK Try.prog (IK.oth (Op.convert 5 3 (tq k))) r = []:=fun k r=>rfl
 have slnil:sl ([]:List (List V)) = .nil:=rfl
 cases hR:readyB b with
 | false =>
  rw [hR] at qr
  simp only [cellsB] at qr ⊢
  simp [c6,argFr,qr,encI,encL,encP,encW,plK,apK,a1,a2,kAwakeX,put_eqX,placeL,placeS,placeOf,anyK,celK,hpos]
 | true =>
 rw [hR] at qr
 cases hX:readyB (noteB b x) with
 | false =>
  rw [hX] at qx
  simp only [cellsB,noteB,List.map_append,List.map_cons,List.map_nil] at qr qx ⊢
  simp [encP] at qx
  simp [c6,argFr,qr,qx,encI,encL,encP,encW,plK,apK,a1,a2,kAwakeX,put_eqX,placeL,placeS,placeOf,anyK,celK,hpos]
 | true =>
  rw [hX] at qx
  obtain ⟨hb,_⟩:=ready_of hR
  obtain ⟨hx,_⟩:=ready_of hX
  have hla:=hb.la
  have hro:=hb.ro
  have hpl:=hb.pl
  have hwi:=hb.wi
  have qB:=fun n=>kBeachX n hb
  have qBx:=fun n=>kBeachX n hx
  have hls:=leave_some hb
  have hms:=leave_some hx
  have qL:=fun n=>kLeave n b hb.w40 fun _=>hls
  have qM:=fun n=>kLeave n (noteB b x) hx.w40 fun _=>hms
  obtain ⟨l,hl⟩:=Option.isSome_iff_exists.1 hls
  obtain ⟨m,hm⟩:=Option.isSome_iff_exists.1 hms
  unfold leaveV at qL qM
  rw [if_pos (fault_of hb),hl,Option.getD_some] at qL
  rw [if_pos (fault_of hx),hm,Option.getD_some] at qM
  obtain ⟨g1,g2⟩:=leave_more hl hm
  by_cases hm0:m = []
  ·subst hm0
   obtain rfl:l = []:=List.eq_nil_of_length_eq_zero (by simpa using g1)
   have hpx:possB (noteB b x) [] = true:=by
    have:=leave_len (noteB b x)
    rw [hm] at this
    exact this.2.1
   have hE:dfsW b [] b.winds [] ≠ []:=fun h=>by
    have:=dfs_none.1 h
    rw [poss_less hpx] at this
    cases this
   have hE2:dfsW (noteB b x) [] (noteB b x).winds [] ≠ []:=fun h=>by
    have:=dfs_none.1 h
    rw [hpx] at this
    cases this
   have ha:=asked_dfs hb hE
   have hax:=asked_dfs hx hE2
   have hp:=planW_ok hb ws
   have hpx:isPlanB (noteB b x) (planOfW b ws) = true:=hp
   have hpo:=plan_of hp
   have qp:=fun n=>kPlan n b hb ws hws
   have qli:=fun n=>kListsX n hb hpo
   have qT:=fun n=>kTotal n b hb.w40 (planOfW b ws)
   have qTx:=fun n=>kTotal n (noteB b x) hx.w40 (planOfW b ws)
   rw [totalV_ok hb hp hE] at qT
   rw [totalV_ok hx hpx hE2] at qTx
   obtain ⟨t1,t2⟩:=total_note hb hx ha hax hp
   have hnx:noteOk b x = true:=List.all_eq_true.1 hx.nok x (by simp [noteB])
   simp only [noteOk,Bool.and_eq_true] at hnx
   have hh:=inI_iff.1 hnx.1
   have hr0:0 < b.rows.toNat:=by omega
   have hp0:0 < b.places.toNat:=by omega
   have er:b.rows = (b.rows.toNat:Int):=by omega
   have ep:b.places = (b.places.toNat:Int):=by omega
   have w1:IntKind.i64.wrap (κ1:Int) = (κ1:Int):=wrap_i64 (by omega) (by omega)
   have w2:IntKind.i64.wrap (κ2:Int) = (κ2:Int):=wrap_i64 (by omega) (by omega)
   have m1:(κ1:Int).tmod b.rows = ((κ1 % b.rows.toNat:Nat):Int):=by rw [er]; exact (Int.ofNat_tmod _ _).symm
   have m2:(κ2:Int).tmod b.places = ((κ2 % b.places.toNat:Nat):Int):=by rw [ep]; exact (Int.ofNat_tmod _ _).symm
   have m3:(κ1:Int).tmod 30 = ((κ1 % 30:Nat):Int):=(Int.ofNat_tmod _ 30).symm
   have l1:=Nat.mod_lt κ1 hr0
   have l2:=Nat.mod_lt κ2 hp0
   have l3:=Nat.mod_lt κ1 (show 0 < 30 by decide)
   generalize κ1 % b.rows.toNat = r at m1 l1
   generalize κ2 % b.places.toNat = p at m2 l2
   generalize κ1 % 30 = mo at m3 l3
   have wr1:IntKind.i64.wrap (r:Int) = (r:Int):=wrap_i64 (by omega) (by omega)
   have wr2:IntKind.i64.wrap (p:Int) = (p:Int):=wrap_i64 (by omega) (by omega)
   have wr3:IntKind.i64.wrap (mo:Int) = (mo:Int):=wrap_i64 (by omega) (by omega)
   have hrn:¬ b.rows = 0:=by omega
   have hpn:¬ b.places = 0:=by omega
   have hsp:isSpotB b ((r:Int),(p:Int)) = true:=by simp only [isSpotB,Bool.and_eq_true,inI_iff]; omega
   have qC:=fun n=>kCalmV n b hb.w40 (planOfW b ws) ((r:Int),(p:Int)) x.1
   have qCx:=fun n=>kCalmV n (noteB b x) hx.w40 (planOfW b ws) ((r:Int),(p:Int)) x.1
   unfold calmV at qC qCx
   rw [if_pos (fault_of hb),if_pos (by rw [hp,hsp,hnx.1]; rfl),if_neg (by simpa using hE)] at qC
   rw [if_pos (fault_of hx),if_pos (by rw [hpx,show isSpotB (noteB b x) ((r:Int),(p:Int)) = true from hsp,show inI x.1 0 (noteB b x).last = true from hnx.1]; rfl),if_neg (by simpa using hE2)] at qCx
   obtain ⟨v1,v2⟩:=calm_note (q:=fun w=>calmP b ((r:Int),(p:Int)) (planAt (planOfW b ws) x.1.toNat r) w) hb hx ha hax (truths_some hE2) (by omega)
   change ∀ n,callK Try.prog kn (execA Try.prog ann kn (n+6200)) 24 [.agg (cellsB (noteB b x)),lli (planOfW b ws),.agg (encP ((r:Int),(p:Int))),i x.1] = some (.tup [i (verd ((windsA (noteB b x)).getD x.1.toNat []) (fun w=>calmP b ((r:Int),(p:Int)) (planAt (planOfW b ws) x.1.toNat r) w)),i 0]) at qCx
   change ∀ n,callK Try.prog kn (execA Try.prog ann kn (n+6200)) 24 [.agg (cellsB b),lli (planOfW b ws),.agg (encP ((r:Int),(p:Int))),i x.1] = some (.tup [i (verd ((windsA b).getD x.1.toNat []) (fun w=>calmP b ((r:Int),(p:Int)) (planAt (planOfW b ws) x.1.toNat r) w)),i 0]) at qC
   have qb:=fun n=>kBest n b hb.w40 mo
   have qbx:=fun n=>kBest n (noteB b x) hx.w40 mo
   unfold bestVV at qb qbx
   rw [if_pos (fault_of hb),if_pos (inI_iff.2 (by omega)),if_neg (by simpa using hE)] at qb
   rw [if_pos (fault_of hx),if_pos (inI_iff.2 (by omega)),if_neg (by simpa using hE2)] at qbx
   have hle:=best_note hb hx ha hax (most:=mo) (by omega)
   have hbp:bestPl b (windsA b) mo ≠ []:=fun h=>by
    have:=(plan_of (best_spec hb (windsA b) (most:=mo) (by omega)).1.1).len
    rw [h] at this; simp at this; omega
   have hxp:bestPl (noteB b x) (windsA (noteB b x)) mo ≠ []:=fun h=>by
    have:=(plan_of (best_spec hx (windsA (noteB b x)) (most:=mo) (by omega)).1.1).len
    rw [h] at this
    change ((0:Nat):Int) = b.last + 1 at this
    omega
   rw [slX hbp] at qb
   rw [slX hxp] at qbx
   have qI:=fun n=>kInside n (totalP (noteB b x) (windsA (noteB b x)) (planOfW b ws)) (totalP b (windsA b) (planOfW b ws))
   rw [decide_eq_true t1,decide_eq_true t2] at qI
   generalize totalP (noteB b x) (windsA (noteB b x)) (planOfW b ws) = R2 at *
   generalize totalP b (windsA b) (planOfW b ws) = R1 at *
   generalize verd ((windsA (noteB b x)).getD x.1.toNat []) (fun w=>calmP b ((r:Int),(p:Int)) (planAt (planOfW b ws) x.1.toNat r) w) = VX at *
   generalize verd ((windsA b).getD x.1.toNat []) (fun w=>calmP b ((r:Int),(p:Int)) (planAt (planOfW b ws) x.1.toNat r) w) = VB at *
   generalize bestV b (windsA b) mo = V1 at *
   generalize bestPl b (windsA b) mo = W1 at *
   generalize bestV (noteB b x) (windsA (noteB b x)) mo = V2 at *
   generalize bestPl (noteB b x) (windsA (noteB b x)) mo = W2 at *
   generalize planOfW b ws = P at *
   simp only [cellsB,cellsR,noteB,encR,List.map_append,List.map_cons,List.map_nil,slnil,Bool.and_self] at qr qx qB qBx qL qM qp qT qTx qC qCx qb qbx qI ⊢
   simp [encP] at qx qBx qM qTx qC qCx qbx
   rcases v1 with v1 | v1 <;> simp [c6,argFr,qr,qx,qB,qBx,qL,qM,qp,qli,qT,qTx,qC,qCx,qb,qbx,qI,encI,encL,encP,encW,plK,apK,a1,a2,kAwakeX,put_eqX,placeL,placeS,placeOf,anyK,celK,hpos,hpos9,hc8,convU8m,w1,w2,wr1,wr2,wr3,m1,m2,m3,hrn,hpn,v1,v2,hle]
  ·rw [slX hm0] at qM
   have g1':¬ ((m.length:Int) < (l.length:Int)):=by omega
   have g2':¬ ((l.length:Int) + 1 < (m.length:Int)):=by omega
   have hmp:=List.length_pos_iff.2 hm0
   have hmp2:0 < (m.length:Int):=by omega
   have hll:l.length≤100:=by
    have:=leave_len b
    rw [hl] at this
    have:=inc_room this.1 (Nat.zero_le _)
    have:=hb.no
    omega
   have hwl:IntKind.i64.wrap ((l.length:Int) + 1) = (l.length:Int) + 1:=wrap_i64 (by omega) (by omega)
   by_cases hl0:l = []
   ·subst hl0
    have g3':¬ (1 < (m.length:Int)):=by simpa using g2'
    have g0':¬ ((m.length:Int) < 0):=by omega
    simp only [cellsB,cellsR,noteB,List.map_append,List.map_cons,List.map_nil,slnil] at qr qx qB qBx qL qM ⊢
    simp [encP] at qx qBx qM
    simp [c6,argFr,qr,qx,qB,qBx,qL,qM,encI,encL,encP,encW,plK,apK,a1,a2,kAwakeX,put_eqX,placeL,placeS,placeOf,anyK,celK,hpos,hmp,hmp2,g0',g3']
   ·rw [slX hl0] at qL
    simp only [cellsB,cellsR,noteB,List.map_append,List.map_cons,List.map_nil] at qr qx qB qBx qL qM ⊢
    simp [encP] at qx qBx qM
    simp [c6,argFr,qr,qx,qB,qBx,qL,qM,encI,encL,encP,encW,plK,apK,a1,a2,kAwakeX,put_eqX,placeL,placeS,placeOf,anyK,celK,hpos,hmp,hmp2,g1',g2',hwl]
end Go.Proofs.Try.Op
