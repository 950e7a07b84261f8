/- The plain law of Hired: its lines are a truth of its book. No condition. -/
import Derived.Test.YtfbbnkaahnpicaaH
import Derived.Test.YtfbbnkaahnpicaaLa
import Derived.Test.YtfbbnkaahnpicaaVz
import Derived.Test.YtfbbnkaahnpicaaU
import Derived.Test.YtfbbnkaahnpicaaUz
import Derived.Test.YtfbbnkaahnpicaaT3
import Derived.Test.YtfbbnkaahnpicaaFz
open Go Go.Pg Go.Proofs
namespace Go.Proofs.Try.Op
set_option maxRecDepth 100000
set_option linter.unusedSimpArgs false
structure Whole (C:Nat) (x:Line):Prop where
 k:x.k = 1∨x.k = 2
 c:0≤x.c∧x.c < C
 t:0≤x.t∧x.t < C
theorem mem_canJ {C e:Nat} {ts:List Line}:∀ {d j:Nat} {out:List Line} {x:Line},x ∈ canJ C e ts d j out→x ∈ out∨∃ i,j≤i∧i < j + d∧x = lineJ C e i∧isPossB (ts ++ [x]) = true
 | 0,_,_,_,h=>.inl h
 | d + 1,j,out,x,h=>by
  unfold canJ at h
  by_cases hp:isPossB (ts ++ [lineJ C e j]) = true
  ·rw [if_pos hp] at h
   rcases mem_canJ h with h | ⟨i,h1,h2,h3⟩
   ·rcases List.mem_append.1 h with h | h
    ·exact .inl h
    ·have:x = lineJ C e j:=by simpa using h
     subst this
     exact .inr ⟨j,Nat.le_refl _,by omega,rfl,hp⟩
   ·exact .inr ⟨i,by omega,by omega,h3⟩
  ·rw [if_neg hp] at h
   rcases mem_canJ h with h | ⟨i,h1,h2,h3⟩
   ·exact .inl h
   ·exact .inr ⟨i,by omega,by omega,h3⟩
theorem mem_canE {C:Nat} {ts:List Line}:∀ {d e:Nat} {out:List Line} {x:Line},x ∈ canE C ts d e out→x ∈ out∨∃ f i,e≤f∧f < e + d∧i < C * C∧x = lineJ C f i∧isPossB (ts ++ [x]) = true
 | 0,_,_,_,h=>.inl h
 | d + 1,e,out,x,h=>by
  unfold canE at h
  rcases mem_canE h with h | ⟨f,i,h1,h2,h3⟩
  ·rcases mem_canJ h with h | ⟨i,_,h2,h3,h4⟩
   ·exact .inl h
   ·exact .inr ⟨e,i,Nat.le_refl _,by omega,by omega,h3,h4⟩
  ·exact .inr ⟨f,i,by omega,by omega,h3⟩
theorem mem_canB {C:Nat} (hC:1≤C) {ts:List Line} {x:Line} (h:x ∈ canB C ts):Whole C x∧isPossB (ts ++ [x]) = true:=by
 rcases mem_canE h with h | ⟨f,i,h1,h2,h3,rfl,h4⟩
 ·cases h
 ·have hm:=Nat.mod_lt i (show 0 < C by omega)
  have hd:i / C < C:=Nat.div_lt_of_lt_mul h3
  have hf:f = 1∨f = 2:=by omega
  refine ⟨⟨?_,⟨Int.natCast_nonneg _,?_⟩,⟨Int.natCast_nonneg _,?_⟩⟩,h4⟩
  ·rcases hf with rfl | rfl
   ·exact .inl rfl
   ·exact .inr rfl
  ·exact Int.ofNat_lt.2 hm
  ·exact Int.ofNat_lt.2 hd
theorem mem_hireL {C w:Nat} {ts:List Line} (h:canB C ts ≠ []):hireL C w ts ∈ canB C ts:=by
 have hp:0 < (canB C ts).length:=by
  cases hx:canB C ts with
  | nil=>exact absurd hx h
  | cons x y=>simp
 have hk:=Nat.mod_lt w hp
 unfold hireL
 rw [List.getD_eq_getElem?_getD,List.getElem?_eq_getElem hk]
 exact List.getElem_mem hk
theorem way_of {v u a b sg:Int} (h1:a≤v) (h2:v≤b) (hu:v ≠ u) (hs:sg = u∨sg = v):v ∈ ways sg u a b:=by
 rw [mem_ways (by omega)]
 rcases hs with rfl | rfl
 ·exact .inl ⟨rfl,h1,h2⟩
 ·exact .inr ⟨hu,rfl⟩
theorem read_mask {C:Nat} {x:Line} (h:Whole C x) (w:Nat):x ∈ readingsP C (maskH w x):=by
 obtain ⟨hk,hc,ht⟩:=h
 rw [mem_readingsP]
 refine ⟨way_of (by omega) (by omega) (by omega) ?_,way_of (by omega) (by omega) (by omega) ?_,way_of (by omega) (by omega) (by omega) ?_⟩
 ·exact ite_or (w / 4096 % 5 = 0) 0 x.k
 ·exact ite_or (w / 64 % 5 = 0) (-1) x.c
 ·exact ite_or (w / 512 % 5 = 0) (-1) x.t
theorem read_self {C:Nat} {x:Line} (h:Whole C x):x ∈ readingsP C x:=by
 obtain ⟨hk,hc,ht⟩:=h
 rw [mem_readingsP]
 exact ⟨way_of (by omega) (by omega) (by omega) (.inr rfl),way_of (by omega) (by omega) (by omega) (.inr rfl),way_of (by omega) (by omega) (by omega) (.inr rfl)⟩
theorem Rd.snoc {C:Int} {l x:Line} (h:x ∈ readingsP C l):∀ {ls ts:List Line},Rd C ls ts→Rd C (ls ++ [l]) (ts ++ [x])
 | [],[],_=>⟨h,trivial⟩
 | [],_ :: _,h'=>by cases h'
 | _ :: _,[],h'=>by cases h'
 | _ :: _,_ :: _,⟨h1,h2⟩=>⟨h1,Rd.snoc h h2⟩
structure Laid (C:Nat) (ts ls:List Line):Prop where
 rd:Rd C ls ts
 po:isPossB ts = true
 wh:∀ x ∈ ts,Whole C x
theorem hireG_laid {C:Nat} (hC:1≤C) (ws:List Nat):∀ (d r:Nat) (ts ls:List Line),Laid C ts ls→Laid C (hireG C ws d r ts ls).1 (hireG C ws d r ts ls).2
 | 0,_,_,_,h=>h
 | d + 1,r,ts,ls,h=>by
  unfold hireG
  by_cases hn:canB C ts = []
  ·rw [if_pos hn]
   exact h
  ·rw [if_neg hn]
   obtain ⟨h1,h2⟩:=mem_canB hC (mem_hireL (w:=wordB ws (r + 1)) hn)
   refine hireG_laid hC ws d (r + 1) _ _ ⟨?_,h2,fun x hx=>?_⟩
   ·unfold nextH
    rcases ite_or (100 < manyGo C 1 (ls ++ [maskH (wordB ws (r + 1)) (hireL C (wordB ws (r + 1)) ts)])) (ls ++ [hireL C (wordB ws (r + 1)) ts]) (ls ++ [maskH (wordB ws (r + 1)) (hireL C (wordB ws (r + 1)) ts)]) with e | e
    ·rw [e]
     exact Rd.snoc (read_self h1) h.rd
    ·rw [e]
     exact Rd.snoc (read_mask h1 _) h.rd
   ·rcases List.mem_append.1 hx with hx | hx
    ·exact h.wh x hx
    ·have:x = hireL C (wordB ws (r + 1)) ts:=by simpa using hx
     rw [this]
     exact h1
theorem mem_cntG {b:Book} {ts:List Line} {ws:List Nat}:∀ {d r:Nat} {cs:List Count} {x:Count},x ∈ cntG b ts ws d r cs→x ∈ cs∨∃ w,x = cntH b ts w∧0≤moneyB b ts (w % (ts.length + 1))
 | 0,_,_,_,h=>.inl h
 | d + 1,r,cs,x,h=>by
  unfold cntG at h
  by_cases hc:0≤moneyB b ts (wordB ws (r + 11) % (ts.length + 1))∧(cntH b ts (wordB ws (r + 11))).hi≤2000
  ·rw [if_pos hc] at h
   rcases mem_cntG h with h | h
   ·rcases List.mem_append.1 h with h | h
    ·exact .inl h
    ·have:x = cntH b ts (wordB ws (r + 11)):=by simpa using h
     exact .inr ⟨_,this,hc.1⟩
   ·exact .inr h
  ·rw [if_neg hc] at h
   exact mem_cntG h
theorem maxZ_le {m d:Int} (hm:0≤m) (hd:0≤d):maxZ (m - d)≤m∧m≤maxZ (m + d):=by
 unfold maxZ
 constructor <;> split <;> omega
theorem cnt_ok {b b':Book} (h1:b'.coin = b.coin) (h2:b'.box = b.box) {ts:List Line} {w:Nat} (hm:0≤moneyB b ts (w % (ts.length + 1))):cntOne b' ts (cntH b ts w) = true:=by
 have e:moneyB b' ts (w % (ts.length + 1)) = moneyB b ts (w % (ts.length + 1)):=by unfold moneyB; rw [h1,h2]
 have ha:(cntH b ts w).a.toNat = w % (ts.length + 1):=Int.toNat_natCast _
 have hlo:(cntH b ts w).lo = maxZ (moneyB b ts (w % (ts.length + 1)) - (w / 16 % 8:Nat)):=rfl
 have hhi:(cntH b ts w).hi = maxZ (moneyB b ts (w % (ts.length + 1)) + (w / 128 % 8:Nat)):=rfl
 unfold cntOne
 rw [ha,hlo,hhi,e]
 have k1:=(maxZ_le hm (Int.natCast_nonneg (w / 16 % 8))).1
 have k2:=(maxZ_le hm (Int.natCast_nonneg (w / 128 % 8))).2
 simp only [inB,Bool.and_eq_true,decide_eq_true_eq]
 exact ⟨k1,k2⟩
theorem hired_fits {b:Book} (h1:1≤b.chairs) (ws:List Nat) (hf:faultB (hiredB b ws) = 0):fitsB (hiredB b ws) (hireP b ws).1 = true∧∀ x ∈ (hireP b ws).1,Whole b.chairs.toNat x:=by
 have hl:=hireG_laid (C:=b.chairs.toNat) (by omega) ws (wordB ws 0 % 9) 0 [] [] ⟨trivial,rfl,fun x hx=>by cases hx⟩
 have hCC:((b.chairs.toNat:Nat):Int) = b.chairs:=by omega
 obtain ⟨_,_,_,_,_,_,_,_,hok,_,_⟩:=fault0 hf
 refine ⟨?_,hl.wh⟩
 unfold fitsB
 have e1:isReadB (hiredB b ws) (hireP b ws).1 = true:=by
  rw [isRead_iff (b:=hiredB b ws) h1 hok]
  have:=hl.rd
  rw [hCC] at this
  exact this
 have e2:isPossB (hireP b ws).1 = true:=hl.po
 rw [e1,e2,Bool.true_and,Bool.true_and,List.all_eq_true]
 intro x hx
 rcases mem_cntG hx with h | ⟨w,rfl,hm⟩
 ·cases h
 ·exact cnt_ok rfl rfl hm
def isOut (sel:Line→Int) (ts:List Line) (k:Nat) (j:Nat):Bool:=decide (0≤outB sel ts k (j:Int))
def numO (sel:Line→Int) (ts:List Line) (k C:Nat):Nat:=(List.range C).countP (isOut sel ts k)
theorem count_turn (p q:Nat→Bool) (c:Nat) (h:∀ j,j ≠ c→q j = p j):∀ C:Nat,(List.range C).countP q + (if c < C then (p c).toNat else 0) = (List.range C).countP p + (if c < C then (q c).toNat else 0)
 | 0=>by simp
 | C + 1=>by
  have ih:=count_turn p q c h C
  rw [List.range_succ,List.countP_append,List.countP_append,List.countP_singleton,List.countP_singleton]
  by_cases e:C = c
  ·subst e
   have g1:¬ C < C:=Nat.lt_irrefl C
   have g2:C < C + 1:=Nat.lt_succ_self C
   simp only [g1,g2,if_true,if_false] at ih ⊢
   cases p C <;> cases q C <;> simp at ih ⊢ <;> omega
  ·rw [h C e]
   by_cases hc:c < C
   ·have g2:c < C + 1:=by omega
    simp only [hc,g2,if_true] at ih ⊢
    omega
   ·have g2:¬ c < C + 1:=by omega
    simp only [hc,g2,if_false] at ih ⊢
    omega
theorem poss_at {ts:List Line}:∀ {l:List Line} {k:Nat},possGo ts k l = true→∀ (j:Nat) (h:j < l.length),possOne ts (k + j) l[j] = true
 | t :: r,k,h,0,_=>by
  unfold possGo at h
  exact (Bool.and_eq_true _ _ ▸ h).1
 | t :: r,k,h,j + 1,hj=>by
  unfold possGo at h
  have:=poss_at (Bool.and_eq_true _ _ ▸ h).2 j (by simpa using hj)
  rw [show k + (j + 1) = k + 1 + j by omega]
  exact this
theorem out_turn (sel:Line→Int) {ts:List Line} {k:Nat} (hk:k < ts.length) {c:Nat} (hc:sel ts[k] = c):(∀ j,j ≠ c→isOut sel ts (k + 1) j = isOut sel ts k j)∧isOut sel ts (k + 1) c = decide (ts[k].k = 1):=by
 constructor
 ·intro j hj
  unfold isOut
  rw [outB_succ sel ts k hk,hc,if_neg (by omega)]
 ·unfold isOut
  rw [outB_succ sel ts k hk,hc,if_pos rfl]
  by_cases h:ts[k].k = 1
  ·rw [if_pos h]; simp [h]
  ·rw [if_neg h]; simp [h]
theorem num_money {b:Book} {C:Nat} {ts:List Line} (hp:isPossB ts = true) (hw:∀ x ∈ ts,Whole C x):∀ k,k≤ts.length→numO Line.c ts k C = numO Line.t ts k C∧moneyB b ts k = b.box + b.coin * (numO Line.c ts k C:Nat)
 | 0,_=>by
  have h0:∀ sel,numO sel ts 0 C = 0:=fun sel=>by
   unfold numO
   rw [List.countP_eq_zero]
   intro j _
   simp [isOut,outB,outGo]
  rw [h0,h0]
  refine ⟨rfl,?_⟩
  simp [moneyB,moneyGo]
 | k + 1,hk=>by
  have hk':k < ts.length:=by omega
  obtain ⟨ih1,ih2⟩:=num_money (b:=b) hp hw k (by omega)
  obtain ⟨wk,⟨wc1,wc2⟩,⟨wt1,wt2⟩⟩:=hw _ (List.getElem_mem hk')
  have hpo:=poss_at hp k hk'
  rw [Nat.zero_add] at hpo
  obtain ⟨c,hc⟩:∃ c:Nat,ts[k].c = c:=⟨ts[k].c.toNat,by omega⟩
  obtain ⟨t,ht⟩:∃ t:Nat,ts[k].t = t:=⟨ts[k].t.toNat,by omega⟩
  have hcC:c < C:=by omega
  have htC:t < C:=by omega
  obtain ⟨a1,a2⟩:=out_turn Line.c hk' hc
  obtain ⟨b1,b2⟩:=out_turn Line.t hk' ht
  have n1:=count_turn (isOut Line.c ts k) (isOut Line.c ts (k + 1)) c a1 C
  have n2:=count_turn (isOut Line.t ts k) (isOut Line.t ts (k + 1)) t b1 C
  rw [if_pos hcC,if_pos hcC] at n1
  rw [if_pos htC,if_pos htC] at n2
  rw [a2] at n1
  rw [b2] at n2
  have hm:moneyB b ts (k + 1) = if ts[k].k = 1 then moneyB b ts k + b.coin else moneyB b ts k - b.coin:=moneyB_succ b ts k hk'
  have p1:isOut Line.c ts k c = decide (ts[k].k = 2):=by
   unfold possOne at hpo
   rw [hc,ht] at hpo
   simp only [Bool.not_eq_true',Bool.or_eq_false_iff,bne_eq_false_iff_eq] at hpo
   exact hpo.1
  have p2:isOut Line.t ts k t = decide (ts[k].k = 2):=by
   unfold possOne at hpo
   rw [hc,ht] at hpo
   simp only [Bool.not_eq_true',Bool.or_eq_false_iff,bne_eq_false_iff_eq] at hpo
   exact hpo.2
  rw [p1] at n1
  rw [p2] at n2
  unfold numO at ih1 ih2 ⊢
  rcases wk with wk | wk
  ·simp [wk] at n1 n2 hm
   rw [hm,ih2,n1,n2,ih1]
   refine ⟨rfl,?_⟩
   rw [show ((List.countP (isOut Line.t ts k) (List.range C) + 1:Nat):Int) = (List.countP (isOut Line.t ts k) (List.range C):Nat) + 1 by simp,Int.mul_add]
   omega
  ·simp [wk] at n1 n2 hm
   rw [hm,ih2]
   have e:((List.countP (isOut Line.c ts k) (List.range C):Nat):Int) = (List.countP (isOut Line.c ts (k + 1)) (List.range C):Nat) + 1:=by omega
   refine ⟨by omega,?_⟩
   rw [e,Int.mul_add]
   omega
def steadyB (v:Int) (o:Bool):Bool:=inB v 1 3 && ((!decide (v = 1) || o) && (!decide (v = 2) || !o))
theorem steady_ok {L:List (List Line)} {t:List Line} (ht:t ∈ L) (sel:Line→Int) (k:Nat) (x:Nat):steadyB (verd (L.length:Nat) (outN sel L k (x:Int):Nat)) (isOut sel t k x) = true:=by
 unfold verd
 by_cases h1:((outN sel L k (x:Int):Nat):Int) = (L.length:Nat)
 ·rw [if_pos h1]
  have h1:outN sel L k (x:Int) = L.length:=Int.ofNat.inj h1
  have:=count_all.1 h1 t ht
  have e:isOut sel t k x = true:=this
  rw [e]
  rfl
 ·rw [if_neg h1]
  by_cases h2:((outN sel L k (x:Int):Nat):Int) = 0
  ·rw [if_pos h2]
   have h2:outN sel L k (x:Int) = 0:=by omega
   have:=count_none.1 h2 t ht
   have e:isOut sel t k x = false:=this
   rw [e]
   rfl
  ·rw [if_neg h2]
   cases isOut sel t k x <;> rfl
theorem was_has {b:Book} (hf:faultB b = 0) {t:List Line} (ht:t ∈ truthsR b) {k:Nat} (hk:k < b.lines.length) (hkt:k < t.length):t[k] ∈ wasP b k:=by
 obtain ⟨h1,h4,_,_,_,_,_,_,hok,_⟩:=fault0 hf
 have hfit:=(truthsR_mem hf).1 ht
 unfold fitsB at hfit
 simp only [Bool.and_eq_true] at hfit
 have hr:=(isRead_iff h1 hok).1 hfit.1
 have hline:b.lines.getD k line0 = b.lines[k]:=by simp [List.getD_eq_getElem?_getD,hk]
 have hrd:∀ {ls ts:List Line},Rd b.chairs ls ts→∀ (j:Nat) (g1:j < ls.length) (g2:j < ts.length),ts[j] ∈ readingsP b.chairs ls[j]:=by
  intro ls
  induction ls with
  | nil=>intro ts _ j g1 _; exact absurd g1 (Nat.not_lt_zero _)
  | cons l ls ih =>
   intro ts h j g1 g2
   cases ts with
   | nil=>exact absurd g2 (Nat.not_lt_zero _)
   | cons x xs =>
    obtain ⟨h1,h2⟩:=h
    cases j with
    | zero=>exact h1
    | succ j=>exact ih h2 j (by simpa using g1) (by simpa using g2)
 rw [was_eq hf hk]
 unfold wasR
 rw [List.mem_filter,hline,readings_eq h1 h4 (List.all_eq_true.1 hok _ (List.getElem_mem hk))]
 refine ⟨hrd hr k hk hkt,?_⟩
 unfold isIn
 rw [List.any_eq_true]
 refine ⟨t,ht,?_⟩
 simp [List.getD_eq_getElem?_getD,hkt]
theorem wl_nil:∀ (l:List Line) (j:Nat),wlGo [] j l = l
 | [],_=>rfl
 | x :: r,j=>by
  unfold wlGo
  rw [if_neg (by simp),wl_nil r]
theorem wo_nil (b:Book):woB b [] = b:=by
 have h1:b.counts.map (wc []) = b.counts:=by
  conv=>rhs; rw [← List.map_id b.counts]
  refine List.map_congr_left fun x _=>?_
  unfold wc
  simp [less]
 unfold woB
 rw [wl_nil,h1]
theorem leave_nil {b:Book} (hp:possP b = true):leaveP b = some []:=by
 have hs:=leave_spec b
 cases hl:leaveP b with
 | none =>
  rw [hl] at hs
  have:=hs [] trivial
  rw [wo_nil,hp] at this
  cases this
 | some y =>
  rw [hl] at hs
  have:=hs.min [] trivial (by rw [wo_nil]; exact hp)
  cases y with
  | nil=>rfl
  | cons x y=>simp [shortB] at this
theorem first_no {b:Book} (hf:faultB b = 0) {t:List Line} (ht:t ∈ truthsR b):firstP b = none:=by
 have hfit:=(truthsR_mem hf).1 ht
 obtain ⟨h1,h4,_,_,_,_,_,_,hok,_⟩:=fault0 hf
 have cut:∀ j,j≤b.lines.length→possP (cutB b j) = true:=fun j hj=>by
  rw [poss_R (cut_fault hf j)]
  refine List.ne_nil_of_mem ((truthsR_mem (cut_fault hf j)).2 (?_:fitsB (cutB b j) (t.take j) = true))
  simp only [fitsB,isReadB,Bool.and_eq_true,decide_eq_true_eq] at hfit ⊢
  obtain ⟨⟨g1,g2⟩,g3,_⟩:=hfit
  have hlen:(b.lines.take j).length = j:=by simp; omega
  refine ⟨⟨by simp [cutB]; omega,?_⟩,?_,rfl⟩
  ·have rg:∀ (ls ts:List Line) (j:Nat),readGo b.chairs ls ts = true→readGo b.chairs (ls.take j) (ts.take j) = true:=by
    intro ls
    induction ls with
    | nil=>intro ts j _; simp [readGo]
    | cons l ls ih =>
     intro ts j h
     cases ts with
     | nil=>cases j <;> simp [readGo]
     | cons x xs =>
      cases j with
      | zero=>simp [readGo]
      | succ j =>
       simp only [readGo,Bool.and_eq_true,List.take_succ_cons] at h ⊢
       exact ⟨h.1,ih xs j h.2⟩
   exact rg _ _ j g2
  ·unfold isPossB at g3 ⊢
   rw [poss_take _ 0 (by simp; omega)]
   exact poss_pre t 0 _ g3
 have go:∀ (d j:Nat),j + d = b.lines.length→firstGo b d j = none:=by
  intro d
  induction d with
  | zero=>intro j _; rfl
  | succ d ih =>
   intro j hj
   show (if possP (cutB b (j + 1)) = true then _ else _) = _
   rw [if_pos (cut (j + 1) (by omega))]
   exact ih (j + 1) (by omega)
 exact go b.lines.length 0 (by omega)
theorem k65 (n:Nat) (v:Int) (o:Bool):callK Try.prog kn (execA Try.prog ann kn (n+200)) 65 [i v,.bool o] = some (.bool (steadyB v o)):=by
 rw [callK_of rfl,call0_eq Try.func65 b65 rfl (by simp)]
 have q25:=fun n=>k25 n v 1 3
 unfold steadyB
 generalize inB v 1 3 = z at q25 ⊢
 by_cases h1:v = 1
 ·subst h1
  cases z <;> cases o <;> simp [c65,argFr,q25]
 ·have e1:decide (v = 1) = false:=by simpa using h1
  by_cases h2:v = 2
  ·subst h2
   cases z <;> cases o <;> simp [c65,argFr,q25]
  ·have e2:decide (v = 2) = false:=by simpa using h2
   cases z <;> cases o <;> simp [c65,argFr,q25,e1,e2,h1,h2]
theorem k62 (n:Nat) (v lo hi:Int):callK Try.prog kn (execA Try.prog ann kn (n+100)) 62 [i v,.agg [i lo,i hi]] = some (.bool (inB v lo hi)):=by
 rw [callK_of rfl,call0_eq Try.func62 b62 rfl (by simp)]
 unfold inB
 by_cases h1:lo≤v
 ·by_cases h2:v≤hi <;> simp [c62,argFr,h1,h2]
 ·simp [c62,argFr,h1]
theorem numO_succ (sel:Line→Int) (ts:List Line) (k j:Nat):numO sel ts k (j + 1) = numO sel ts k j + (isOut sel ts k j).toNat:=by
 unfold numO
 rw [List.range_succ,List.countP_append,List.countP_singleton]
 cases isOut sel ts k j <;> rfl
theorem numO_le (sel:Line→Int) (ts:List Line) (k C:Nat):numO sel ts k C≤C:=by
 have h:numO sel ts k C≤(List.range C).length:=List.countP_le_length
 rwa [List.length_range] at h
theorem l18a (b:Book) (C:Nat) (hC:b.chairs = C) (h4:C≤4) (ts:List Line) (hts:ts.length≤20) (a:Nat) (ha:a≤ts.length) (VC VT:List Int) (hc:VC.length = C) (ht:VT.length = C)
  (sc:∀ j (h:j < VC.length),steadyB VC[j] (isOut Line.c ts a j) = true) (st:∀ j (h:j < VT.length),steadyB VT[j] (isOut Line.t ts a j) = true) (Y:List V) (M:V) (hM:closedV 9 M = true) (c:Nat):∀ (d j:Nat),j + d = C→∀ n m,d < m →
  loopA (execA Try.prog ann kn (n+400) 261) lb18_17 (some ([3,7,8,9,10,13,14,24,25,26],[3,7,52,67,69,70,76,78,84,91,97,98,103,158,160,225,227])) m ⟨c,[(3,true,.ptr 0 3 0 0),(7,true,.ptr 0 7 1 0),(8,true,sl (ts.map encL)),(9,true,i a),(10,true,M),(13,true,.list false (VC.map encI)),(14,true,.list false (VT.map encI)),(24,true,i (numO Line.c ts a j:Nat)),(25,true,i (numO Line.t ts a j:Nat)),(26,true,i j)],⟨[],[(3,0,.box (cellsB b)),(7,1,.box Y)]⟩⟩ =
   some (.exit 0,⟨c,[(182,true,.bool false),(181,true,i C),(180,true,.ptr 0 3 0 0),(179,true,i C),(3,true,.ptr 0 3 0 0),(7,true,.ptr 0 7 1 0),(8,true,sl (ts.map encL)),(9,true,i a),(10,true,M),(13,true,.list false (VC.map encI)),(14,true,.list false (VT.map encI)),(24,true,i (numO Line.c ts a C:Nat)),(25,true,i (numO Line.t ts a C:Nat)),(26,true,i C)],⟨[],[(3,0,.box (cellsB b)),(7,1,.box Y)]⟩⟩)
 | 0,j,hd,n,m,hm=>by
  have hj:j = C:=by omega
  subst hj
  obtain ⟨m,rfl⟩:∃ m',m = m' + 1:=⟨m - 1,by omega⟩
  simp only [cellsB,hC]
  simp [loopA_succ]
  done
 | d + 1,j,hd,n,m,hm=>by
  have hj:j < C:=by omega
  have hjc:j < VC.length:=by omega
  have hjt:j < VT.length:=by omega
  have ih:=l18a b C hC h4 ts hts a ha VC VT hc ht sc st Y M hM c d (j + 1) (by omega) n (m - 1) (by omega)
  have sc:=sc j hjc
  have st:=st j hjt
  have q63:=fun n=>k63 n ts (j:Int) a ha (by omega)
  have q64:=fun n=>k64 n ts (j:Int) a ha (by omega)
  have q65:=fun n=>k65 n VC[j] (isOut Line.c ts a j)
  have q65t:=fun n=>k65 n VT[j] (isOut Line.t ts a j)
  rw [sc] at q65
  rw [st] at q65t
  have l1:=numO_le Line.c ts a j
  have l2:=numO_le Line.t ts a j
  rw [numO_succ,numO_succ] at ih
  have hw:IntKind.i64.wrap ((j:Int) + 1) = (j:Int) + 1:=wrap_i64 (by omega) (by omega)
  have hw1:IntKind.i64.wrap ((numO Line.c ts a j:Nat) + 1:Int) = (numO Line.c ts a j:Nat) + 1:=wrap_i64 (by omega) (by omega)
  have hw2:IntKind.i64.wrap ((numO Line.t ts a j:Nat) + 1:Int) = (numO Line.t ts a j:Nat) + 1:=wrap_i64 (by omega) (by omega)
  have e1:decide (0≤outB Line.c ts a (j:Int)) = isOut Line.c ts a j:=rfl
  have e2:decide (0≤outB Line.t ts a (j:Int)) = isOut Line.t ts a j:=rfl
  obtain ⟨m,rfl⟩:∃ m',m = m' + 1:=⟨m - 1,by omega⟩
  rw [Nat.add_sub_cancel] at ih
  rw [loopA_succ]
  generalize numO Line.c ts a j = x at *
  generalize numO Line.t ts a j = y at *
  generalize numO Line.c ts a C = X at *
  generalize numO Line.t ts a C = Yn at *
  generalize isOut Line.c ts a j = o1 at *
  generalize isOut Line.t ts a j = o2 at *
  generalize outB Line.c ts a (j:Int) = O1 at *
  generalize outB Line.t ts a (j:Int) = O2 at *
  simp only [cellsB,hC] at ih ⊢
  cases o1 <;> cases o2 <;> (simp at ih; simp [hj,hjc,hjt,hw,hw1,hw2,q63,q64,q65,q65t,e1,e2,encI,ih])
  all_goals done
theorem l18b (b b':Book) (hf:faultB b' = 0) (ts:List Line) (ht:ts ∈ truthsR b') (hlt:ts.length = b'.lines.length) (hok:∀ x ∈ ts,okL x) (a M X X':V) (ha:closedV 9 a = true) (hM:closedV 9 M = true) (hX:closedV 9 X = true) (hX':closedV 9 X' = true) (c:Nat):∀ (d j:Nat),j + d = ts.length→∀ n m,d < m →
  loopA (execA Try.prog ann kn (n+4500) 261) lb18_27 (some ([3,7,8,9,10,24,25,29],[3,7,52,67,69,70,76,78,84,91,97,98,103,158,160,225,227])) m ⟨c,[(3,true,.ptr 0 3 0 0),(7,true,.ptr 0 7 1 0),(8,true,.list false (ts.map encL)),(9,true,a),(10,true,M),(24,true,X),(25,true,X'),(29,true,i j)],⟨[],[(3,0,.box (cellsB b)),(7,1,.box (cellsR b'))]⟩⟩ =
   some (.exit 2,⟨c,[(220,true,.bool false),(219,true,i ts.length),(218,true,.list false (ts.map encL)),(217,true,i ts.length),(3,true,.ptr 0 3 0 0),(7,true,.ptr 0 7 1 0),(8,true,.list false (ts.map encL)),(9,true,a),(10,true,M),(24,true,X),(25,true,X'),(29,true,i ts.length)],⟨[],[(3,0,.box (cellsB b)),(7,1,.box (cellsR b'))]⟩⟩)
 | 0,j,hd,n,m,hm=>by
  have hj:j = ts.length:=by omega
  subst hj
  obtain ⟨m,rfl⟩:∃ m',m = m' + 1:=⟨m - 1,by omega⟩
  simp only [cellsB,cellsR]
  simp [loopA_succ]
  done
 | d + 1,j,hd,n,m,hm=>by
  obtain ⟨h1,h4,hl8,hc4,_⟩:=fault0 hf
  have hj:j < ts.length:=by omega
  have hjl:j < b'.lines.length:=by omega
  have ih:=l18b b b' hf ts ht hlt hok a M X X' ha hM hX hX' c d (j + 1) (by omega) n (m - 1) (by omega)
  have q22:=fun n=>k22 n b' (by omega) (by omega)
  have q33:=fun n=>k33 n b' (j:Int) (by omega)
  unfold wasV at q33
  have hin:inB (j:Int) 0 ((b'.lines.length:Int) - 1) = true:=by simp [inB]; omega
  have hE:truthsR b' ≠ []:=List.ne_nil_of_mem ht
  rw [hin,asked_eq hf,if_pos rfl,if_neg hE,if_pos rfl,Int.toNat_natCast] at q33
  obtain ⟨w1,w2⟩:=was_ok hf hjl
  have q66:=fun n=>k66 n (wasP b' j) w1 ts[j] (hok _ (List.getElem_mem hj)) (by omega)
  have hm:=was_has hf ht hjl hj
  rw [decide_eq_true hm] at q66
  have hw:IntKind.i64.wrap ((j:Int) + 1) = (j:Int) + 1:=wrap_i64 (by omega) (by omega)
  obtain ⟨m,rfl⟩:∃ m',m = m' + 1:=⟨m - 1,by omega⟩
  rw [Nat.add_sub_cancel] at ih
  rw [loopA_succ]
  generalize wasP b' j = W at *
  generalize htj:ts[j] = t at *
  simp only [encL] at q66
  simp only [cellsB,cellsT,cellsR] at q22 q33 ih ⊢
  simp at ih
  simp [hj,hw,htj,q22,q33,q66,encL,encC,ih]
  done
theorem in_of {v lo hi:Int} (h:inB v lo hi = true):lo≤v∧v≤hi:=by
 simpa [inB] using h
theorem l18n (b:Book) (Y:List V) (a M X X':V) (c n m:Nat) :
  loopA (execA Try.prog ann kn (n+100) 261) lb18_27 (some ([3,7,8,9,10,24,25,29],[3,7,52,67,69,70,76,78,84,91,97,98,103,158,160,225,227])) (m + 1) ⟨c,[(3,true,.ptr 0 3 0 0),(7,true,.ptr 0 7 1 0),(8,true,.nil),(9,true,a),(10,true,M),(24,true,X),(25,true,X'),(29,true,i 0)],⟨[],[(3,0,.box (cellsB b)),(7,1,.box Y)]⟩⟩ =
   some (.exit 2,⟨c,[(220,true,.bool false),(219,true,i 0),(218,true,.nil),(217,true,i 0),(3,true,.ptr 0 3 0 0),(7,true,.ptr 0 7 1 0),(8,true,.nil),(9,true,a),(10,true,M),(24,true,X),(25,true,X'),(29,true,i 0)],⟨[],[(3,0,.box (cellsB b)),(7,1,.box Y)]⟩⟩):=by
 simp [loopA_succ]
theorem k18u (n:Nat) (b:Book) (ws:List Nat) (κ:Nat) (hws:∀ w ∈ ws,w≤65535) (hκ:κ≤255):call0 Try.prog (execA Try.prog ann kn (n+5700)) 18 [.agg (cellsB b),.list false (ws.map encU),.int .u8 κ] = some (.bool true):=by
 rw [call0_eq Try.func18 b18 rfl (by simp [cellsB,encL,encC,encU])]
 have q1:=fun n=>k25 n b.chairs 1 4
 have q2:=fun n=>k25 n b.coin 1 99
 have q3:=fun n=>k25 n b.box 0 999
 cases hi1:inB b.chairs 1 4 with
 | false =>
  rw [hi1] at q1
  simp only [cellsB] at q1 ⊢
  simp [c18,argFr,q1,encU,encL,encC,k20]
 | true =>
 cases hi2:inB b.coin 1 99 with
 | false =>
  rw [hi1] at q1
  rw [hi2] at q2
  simp only [cellsB] at q1 ⊢
  simp [c18,argFr,q1,q2,encU,encL,encC,k20]
 | true =>
 cases hi3:inB b.box 0 999 with
 | false =>
  rw [hi1] at q1
  rw [hi2] at q2
  rw [hi3] at q3
  simp only [cellsB] at q1 ⊢
  simp [c18,argFr,q1,q2,q3,encU,encL,encC,k20]
 | true =>
 obtain ⟨h1,h4⟩:=in_of hi1
 obtain ⟨hc1,hc2⟩:=in_of hi2
 obtain ⟨hx1,hx2⟩:=in_of hi3
 rw [hi1] at q1
 rw [hi2] at q2
 rw [hi3] at q3
 have q61:=fun n=>k61 n b ws h1 h4 hc1 hc2 hx1 hx2 hws
 have q42:=fun n=>k42 n (hiredB b ws)
 have hlen8:=hireP_len b ws
 cases hR:rdy (hiredB b ws) with
 | false =>
  rw [hR] at q42
  generalize hiredB b ws = b' at *
  simp only [cellsB,cellsR] at q61 q42 ⊢
  simp [c18,argFr,q1,q2,q3,q61,q42,encU,encL,encC,k20]
  done
 | true =>
 rw [hR] at q42
 simp only [rdy,Bool.and_eq_true,decide_eq_true_eq] at hR
 obtain ⟨hTh,hf⟩:=hR
 obtain ⟨hfit,hwh⟩:=hired_fits h1 ws hf
 have eC:(hiredB b ws).chairs = b.chairs:=rfl
 have eco:(hiredB b ws).coin = b.coin:=rfl
 have ebx:(hiredB b ws).box = b.box:=rfl
 generalize (hireP b ws).1 = ts at *
 generalize hiredB b ws = b' at *
 have ht:=(truthsR_mem hf).2 hfit
 obtain ⟨h1',h4',hl8,hc4,_,_,_,_,hok,hcok,hm⟩:=fault0 hf
 obtain ⟨t1,t2⟩:=truthsR_len hf
 have hlt:=t1 ts ht
 have hokL:=truths_ok hf ts ht
 have hE:truthsR b' ≠ []:=List.ne_nil_of_mem ht
 have hposs:=(poss_R hf).2 hE
 have hw1:IntKind.i64.wrap (κ:Int) = (κ:Int):=wrap_i64 (by omega) (by omega)
 have hw2:IntKind.i64.wrap ((ts.length:Int) + 1) = (ts.length:Int) + 1:=wrap_i64 (by omega) (by omega)
 have hne:¬ ((ts.length:Int) + 1 = 0):=by omega
 have hmod:(κ:Int).tmod ((ts.length:Int) + 1) = ((κ % (ts.length + 1):Nat):Int):=(Int.ofNat_tmod κ (ts.length + 1)).symm
 have hk:κ % (ts.length + 1)≤ts.length:=by have:=Nat.mod_lt κ (show 0 < ts.length + 1 by omega); omega
 generalize κ % (ts.length + 1) = a at hmod hk
 have hin:inB (a:Int) 0 b'.lines.length = true:=by simp [inB]; omega
 have q22:=fun n=>k22 n b' (by omega) (by omega)
 have q35:=fun n=>k35 n ts (by omega)
 have q54:=fun n=>k54 n b' ts hokL
 have q53:=fun n=>k53 n b' ts hokL
 have q21:=fun n=>k21 n b' (a:Int)
 have q28:=fun n=>k28 n b' (a:Int)
 have q29:=fun n=>k29 n b'
 have q38:=fun n=>k38 n b'
 have q37:=fun n=>k37 n b'
 rw [prove_eq,hf,hfit] at q53
 unfold playB at q54
 unfold outV at q21
 unfold moneyV at q28
 unfold mixedV at q29
 unfold leaveV at q38
 unfold firstV at q37
 rw [check_eq,if_pos hf] at q54 q38 q37
 rw [leave_nil hposs] at q38
 rw [first_no hf ht] at q37
 rw [hin,asked_eq hf,if_pos rfl,if_neg hE,if_pos rfl,Int.toNat_natCast] at q21 q28
 rw [asked_eq hf,if_pos rfl,if_neg hE,if_pos rfl] at q29
 have hrp:(isReadB b' ts && isPossB ts) = true:=by
  unfold fitsB at hfit
  simp only [Bool.and_eq_true] at hfit ⊢
  exact ⟨hfit.1,hfit.2.1⟩
 have hp:isPossB ts = true:=(Bool.and_eq_true _ _ ▸ hrp).2
 obtain ⟨L,s1,s2,s3⟩:=(scenes_spec (ts:=ts) hf).2 hrp
 rw [s1] at q54
 simp only [s2,s3] at q54
 have hBM:=(boundsM hf (k:=a) (by omega) hE).all ts ht
 have hBX:=(boundsX hf hE).all ts ht
 have q62:=fun n=>k62 n (moneyB b' ts a) (boundsP b' Scene.money a).1 (boundsP b' Scene.money a).2
 have q62x:=fun n=>k62 n (mixB ts) (boundsP b' Scene.mixed b'.lines.length).1 (boundsP b' Scene.mixed b'.lines.length).2
 have i1:inB (moneyB b' ts a) (boundsP b' Scene.money a).1 (boundsP b' Scene.money a).2 = true:=by simpa [inB] using hBM
 have i2:inB (mixB ts) (boundsP b' Scene.mixed b'.lines.length).1 (boundsP b' Scene.mixed b'.lines.length).2 = true:=by simpa [inB] using hBX
 rw [i1] at q62
 rw [i2] at q62x
 have vC:=verdsC hf (k:=a) (by omega)
 have vT:=verdsT hf (k:=a) (by omega)
 obtain ⟨C,hC⟩:∃ C:Nat,b.chairs = C:=⟨b.chairs.toNat,by omega⟩
 have hCt:b.chairs.toNat = C:=by omega
 rw [eC,hCt] at vC vT
 have lC:(verdsP b' chP a).length = C:=by rw [vC]; simp
 have lT:(verdsP b' tkP a).length = C:=by rw [vT]; simp
 have sC:∀ j (h:j < (verdsP b' chP a).length),steadyB (verdsP b' chP a)[j] (isOut Line.c ts a j) = true:=fun j h=>by
  have e:(verdsP b' chP a)[j] = verd ((truthsR b').length:Nat) (outN Line.c (truthsR b') a (j:Nat)):=by simp [vC]
  rw [e]
  exact steady_ok ht Line.c a j
 have sT:∀ j (h:j < (verdsP b' tkP a).length),steadyB (verdsP b' tkP a)[j] (isOut Line.t ts a j) = true:=fun j h=>by
  have e:(verdsP b' tkP a)[j] = verd ((truthsR b').length:Nat) (outN Line.t (truthsR b') a (j:Nat)):=by simp [vT]
  rw [e]
  exact steady_ok ht Line.t a j
 rw [hCt] at hwh
 obtain ⟨nm1,nm2⟩:=num_money (b:=b') hp hwh a hk
 rw [eco,ebx] at nm2
 have hML:(List.map (moneyB b' ts) (List.range' 0 (ts.length + 1))).length = ts.length + 1:=by simp
 have hMa:(List.map (moneyB b' ts) (List.range' 0 (ts.length + 1)))[a]? = some (moneyB b' ts a):=by
  rw [List.getElem?_map,List.getElem?_range' (by omega)]
  simp
 generalize List.map (moneyB b' ts) (List.range' 0 (ts.length + 1)) = ML at *
 have hslM:sl (ML.map encI) = .list false (ML.map encI):=by
  cases ML with
  | nil=>simp at hML
  | cons x y=>rfl
 have hslC:∀ V:List Int,V.length = C→sl (V.map encI) = .list false (V.map encI):=fun V hV=>by
  cases V with
  | nil=>simp at hV; omega
  | cons x y=>rfl
 rw [hslM] at q54
 rw [hslC _ lC,hslC _ lT] at q21
 have la:=l18a b C hC (by omega) ts (by omega) a hk (verdsP b' chP a) (verdsP b' tkP a) lC lT sC sT (cellsR b') (.list false (ML.map encI)) (by simp [encI]) 4 C 0 (by omega)
 have hz:∀ sel,numO sel ts a 0 = 0:=fun _=>rfl
 rw [hz,hz] at la
 have hX4:=numO_le Line.c ts a C
 have g1:0≤b.coin * (numO Line.c ts a C:Nat):=Int.mul_nonneg (by omega) (Int.natCast_nonneg _)
 have g2:b.coin * (numO Line.c ts a C:Nat)≤99 * 4:=Int.mul_le_mul hc2 (by omega) (Int.natCast_nonneg _) (by decide)
 rw [← nm1] at la
 generalize numO Line.c ts a C = X at *
 have w1:IntKind.i64.wrap (b.coin * (X:Int)) = b.coin * (X:Int):=wrap_i64 (by omega) (by omega)
 have w2:IntKind.i64.wrap (b.box + b.coin * (X:Int)) = b.box + b.coin * (X:Int):=wrap_i64 (by omega) (by omega)
 have lb:=l18b b b' hf ts ht hlt hokL (i a) (.list false (ML.map encI)) (i X) (i X) rfl (by simp [encI]) rfl rfl 4 ts.length 0 (by omega)
 have haL:(a:Int) < (ts.length:Int) + 1:=by omega
 have ham:a < ML.length:=by omega
 have hMa2:ML[a] = b.box + b.coin * (X:Int):=by
  have:=hMa
  rw [List.getElem?_eq_getElem ham] at this
  rw [Option.some.inj this,nm2]
 rw [nm2] at q62
 have hlC:((verdsP b' chP a).length:Int) = b.chairs:=by omega
 have hlT:((verdsP b' tkP a).length:Int) = b.chairs:=by omega
 have hlM:(ML.length:Int) = (ts.length:Int) + 1:=by omega
 have la:=la (n + 5283) (n + 5683) (by omega)
 have lb:=lb (n + 1182) (n + 5682) (by omega)
 rw [show n + 5283 + 400 = n + 5683 from rfl] at la
 rw [show n + 1182 + 4500 = n + 5682 from rfl] at lb
 generalize verdsP b' chP a = VC at *
 generalize verdsP b' tkP a = VT at *
 generalize boundsP b' Scene.money a = bm at *
 generalize boundsP b' Scene.mixed b'.lines.length = bx at *
 simp only [cellsB,cellsT,cellsR] at q61 q42 q22 q35 q54 q53 q21 q28 q29 q38 q37 la lb ⊢
 cases ts with
 | nil =>
  have slnil:sl ([]:List (List V)) = .nil:=rfl
  have ln:=l18n b [i b'.chairs,i b'.coin,i b'.box,sl (List.map encL b'.lines),sl (List.map encC b'.counts)] (i 0) (.list false (ML.map encI)) (i X) (i X) 4 (n + 5582) (n + 5681)
  rw [show n + 5582 + 100 = n + 5682 from rfl,show n + 5681 + 1 = n + 5682 from rfl] at ln
  simp only [cellsB] at ln
  have ha0:a = 0:=by simpa using hk
  subst ha0
  simp only [Int.natCast_zero] at q28
  simp only [List.map_nil,Bool.and_true,decide_true] at q53
  simp [slnil] at la q54 q21 q35 q61 hlM hmod hw2 hne hMa2
  simp [c18,argFr,q1,q2,q3,q61,q42,q22,q35,q54,q53,q21,q28,q29,q38,q37,q62,q62x,la,ln,hw1,hw2,hmod,hlC,hlT,hlM,haL,ham,hMa2,w1,w2,encU,encL,encC,encI,k20]
  done
 | cons t0 tr =>
  have hslT:sl ((t0 :: tr).map encL) = .list false ((t0 :: tr).map encL):=rfl
  rw [hslT] at q61 q35 la
  generalize t0 :: tr = ts at *
  simp at la lb q54 q21
  simp [c18,argFr,q1,q2,q3,q61,q42,q22,q35,q54,q53,q21,q28,q29,q38,q37,q62,q62x,la,lb,hw1,hw2,hne,hmod,hlC,hlT,hlM,haL,ham,hMa2,w1,w2,encU,encL,encC,encI,k20]
  done
theorem k18 (n:Nat) (b:Book) (ws:List Nat) (κ:Nat) (_:okBk b) (hws:∀ w ∈ ws,w≤65535) (hκ:κ≤255):call0 Try.prog (execA Try.prog ann kn (n+5700)) 18 [.agg (cellsB b),.list false (ws.map encW),.int .u8 κ] = some (.bool true):=k18u n b ws κ hws hκ
end Go.Proofs.Try.Op
