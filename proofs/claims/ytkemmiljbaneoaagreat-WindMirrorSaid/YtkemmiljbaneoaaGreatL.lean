/- Beaches, their truths and what is so in them, plainly. No condition; no program in sight. -/
namespace Go.Wind
structure Beach where
 last:Int
 rows:Int
 places:Int
 reach:Int
 face:List Int
 sun:List Int
 winds:List (List Int)
 breaks:List (Int × Int)
 notes:List (Int × Int)
def inI (n lo hi:Int):Bool:=decide (lo≤n) && decide (n≤hi)
theorem inI_iff {n lo hi:Int}:inI n lo hi = true ↔ lo≤n∧n≤hi:=by simp [inI]
def isSpotB (b:Beach) (s:Int × Int):Bool:=inI s.1 0 (b.rows - 1) && inI s.2 0 (b.places - 1)
def dirsB (l:List Int) (lo:Int):Bool:=l.all fun n=>inI n lo 3
def incB:List Int→Bool
 | []=>true
 | [_]=>true
 | x :: y :: r=>decide (x < y) && incB (y :: r)
def windOk (l:List Int):Bool:=!l.isEmpty && dirsB l 0 && incB l
def noteOk (b:Beach) (x:Int × Int):Bool:=inI x.1 0 b.last && inI x.2 0 3
def faultB (b:Beach):Int :=
 if (decide (4 < b.last) || decide (3 < b.rows) || decide (5 < b.places) || decide (4 < b.breaks.length) || decide (5 < b.notes.length)) = true then 3
 else if (decide (b.last < 0) || decide (b.rows < 1) || decide (b.places < 1) || !inI b.reach 0 4 || !decide ((b.face.length:Int) = b.rows) || !decide ((b.sun.length:Int) = b.last + 1) || !decide ((b.winds.length:Int) = b.last + 1) || !dirsB b.face 0 || !dirsB b.sun (-1)) = true then 1
 else if b.winds.all windOk = false then 1 else if b.breaks.all (isSpotB b) = false then 1 else if b.notes.all (noteOk b) = false then 1 else 0
structure Valid (b:Beach):Prop where
 la:0≤b.last∧b.last≤4
 ro:1≤b.rows∧b.rows≤3
 pl:1≤b.places∧b.places≤5
 re:0≤b.reach∧b.reach≤4
 br:b.breaks.length≤4
 no:b.notes.length≤5
 fa:(b.face.length:Int) = b.rows
 su:(b.sun.length:Int) = b.last + 1
 wi:(b.winds.length:Int) = b.last + 1
 fd:dirsB b.face 0 = true
 sd:dirsB b.sun (-1) = true
 wo:b.winds.all windOk = true
 bo:b.breaks.all (isSpotB b) = true
 nok:b.notes.all (noteOk b) = true
theorem valid_of {b:Beach} (h:faultB b = 0):Valid b:=by
 unfold faultB at h
 split at h
 ·cases h
 split at h
 ·cases h
 split at h
 ·cases h
 split at h
 ·cases h
 split at h
 ·cases h
 rename_i h1 h2 h3 h4 h5
 simp only [Bool.or_eq_true,decide_eq_true_eq,Bool.not_eq_true',decide_eq_false_iff_not,not_or,Bool.not_eq_false] at h1 h2
 obtain ⟨⟨⟨⟨a1,a2⟩,a3⟩,a4⟩,a5⟩:=h1
 obtain ⟨⟨⟨⟨⟨⟨⟨⟨c1,c2⟩,c3⟩,c4⟩,c5⟩,c6⟩,c7⟩,c8⟩,c9⟩:=h2
 have:=inI_iff.1 c4
 simp only [Bool.not_eq_false] at h3 h4 h5
 exact ⟨⟨by omega,by omega⟩,⟨by omega,by omega⟩,⟨by omega,by omega⟩,this,by omega,by omega,Classical.not_not.1 c5,Classical.not_not.1 c6,Classical.not_not.1 c7,c8,c9,h3,h4,h5⟩
theorem fault_of {b:Beach} (h:Valid b):faultB b = 0:=by
 obtain ⟨la,ro,pl,re,br,no,fa,su,wi,fd,sd,wo,bo,nok⟩:=h
 unfold faultB
 rw [if_neg,if_neg,if_neg,if_neg,if_neg]
 ·simp [nok]
 ·simp [bo]
 ·simp [wo]
 ·simp only [Bool.or_eq_true,decide_eq_true_eq,Bool.not_eq_true',decide_eq_false_iff_not,not_or,Bool.not_eq_false]
  exact ⟨⟨⟨⟨⟨⟨⟨⟨by omega,by omega⟩,by omega⟩,inI_iff.2 re⟩,by simpa using fa⟩,by simpa using su⟩,by simpa using wi⟩,fd⟩,sd⟩
 ·simp only [Bool.or_eq_true,decide_eq_true_eq,not_or]
  exact ⟨⟨⟨⟨by omega,by omega⟩,by omega⟩,by omega⟩,by omega⟩

/-! ### Truths -/
def manyN:List (List Int)→Nat
 | []=>1
 | l :: r=>l.length * manyN r
def nthGo:List (List Int)→Nat→List Int
 | [],_=>[]
 | l :: r,n=>l.getD (n % l.length) 0 :: nthGo r (n / l.length)
def prods:List (List Int)→List (List Int)
 | []=>[[]]
 | l :: r=>l.flatMap fun x=>(prods r).map (x :: ·)
def listedGo:List Int→List (List Int)→Bool
 | [],[]=>true
 | x :: t,l :: r=>decide (x ∈ l) && listedGo t r
 | _,_=>false
theorem listed_len:∀ {t:List Int} {ws:List (List Int)},listedGo t ws = true→t.length = ws.length
 | [],[],_=>rfl
 | x :: t,l :: r,h=>by
  simp only [listedGo,Bool.and_eq_true] at h
  simp [listed_len h.2]
theorem listed_at:∀ {t:List Int} {ws:List (List Int)},listedGo t ws = true→∀ h (h1:h < t.length) (h2:h < ws.length),t[h] ∈ ws[h]
 | x :: t,l :: r,hh,0,_,_=>by
  simp only [listedGo,Bool.and_eq_true,decide_eq_true_eq] at hh
  exact hh.1
 | x :: t,l :: r,hh,h + 1,h1,h2=>by
  simp only [listedGo,Bool.and_eq_true] at hh
  simpa using listed_at hh.2 h (by simpa using h1) (by simpa using h2)
theorem listed_of:∀ {t:List Int} {ws:List (List Int)},t.length = ws.length→(∀ h (h1:h < t.length) (h2:h < ws.length),t[h] ∈ ws[h])→listedGo t ws = true
 | [],[],_,_=>rfl
 | x :: t,l :: r,hl,h=>by
  simp only [listedGo,Bool.and_eq_true,decide_eq_true_eq]
  exact ⟨h 0 (by simp) (by simp),listed_of (by simpa using hl) fun j h1 h2=>h (j + 1) (by simpa using h1) (by simpa using h2)⟩
theorem mem_prods:∀ {ws:List (List Int)} {t:List Int},t ∈ prods ws ↔ listedGo t ws = true
 | [],t=>by cases t <;> simp [prods,listedGo]
 | l :: r,t=>by
  cases t with
  | nil=>simp [prods,listedGo]
  | cons x t =>
   simp only [prods,List.mem_flatMap,List.mem_map,listedGo,Bool.and_eq_true,decide_eq_true_eq]
   constructor
   ·rintro ⟨y,hy,z,hz,e⟩
    cases e
    exact ⟨hy,mem_prods.1 hz⟩
   ·rintro ⟨h1,h2⟩
    exact ⟨x,h1,t,mem_prods.2 h2,rfl⟩
theorem nth_listed:∀ {ws:List (List Int)} (_:∀ l ∈ ws,l ≠ []) (n:Nat),listedGo (nthGo ws n) ws = true
 | [],_,_=>rfl
 | l :: r,h,n=>by
  have hl:0 < l.length:=List.length_pos_iff.2 (h l (by simp))
  simp only [nthGo,listedGo,Bool.and_eq_true,decide_eq_true_eq]
  have hm:n % l.length < l.length:=Nat.mod_lt _ hl
  refine ⟨?_,nth_listed (fun l hl=>h l (by simp [hl])) _⟩
  rw [List.getD_eq_getElem?_getD,List.getElem?_eq_getElem hm]
  exact List.getElem_mem hm
theorem nth_all:∀ {ws:List (List Int)} {t:List Int},listedGo t ws = true→∃ n,n < manyN ws∧nthGo ws n = t
 | [],[],_=>⟨0,by simp [manyN],rfl⟩
 | l :: r,x :: t,h=>by
  simp only [listedGo,Bool.and_eq_true,decide_eq_true_eq] at h
  obtain ⟨m,h1,h2⟩:=nth_all h.2
  obtain ⟨j,hj,hx⟩:=List.getElem_of_mem h.1
  refine ⟨j + l.length * m,?_,?_⟩
  ·simp only [manyN]
   have:l.length * m + l.length≤l.length * manyN r:=by
    rw [← Nat.mul_succ]; exact Nat.mul_le_mul_left _ h1
   omega
  ·have hl:0 < l.length:=by omega
   simp only [nthGo,Nat.add_mul_mod_self_left,Nat.mod_eq_of_lt hj,Nat.add_mul_div_left _ _ hl,Nat.div_eq_of_lt hj,Nat.zero_add,h2]
   rw [List.getD_eq_getElem?_getD,List.getElem?_eq_getElem hj]
   simp [hx]
theorem many_pos:∀ {ws:List (List Int)},(∀ l ∈ ws,l ≠ [])→0 < manyN ws
 | [],_=>by simp [manyN]
 | l :: r,h=>Nat.mul_pos (List.length_pos_iff.2 (h l (by simp))) (many_pos fun l hl=>h l (by simp [hl]))

def atI (l:List Int) (h:Int):Int:=l.getD h.toNat 0
def rightB (t:List Int) (x:Int × Int):Bool:=decide (atI t x.1 = x.2)
def isTruthB (b:Beach) (t:List Int):Bool:=listedGo t b.winds && b.notes.all (rightB t)
def truthsR (b:Beach):List (List Int):=((List.range (manyN b.winds)).map (nthGo b.winds)).filter (isTruthB b)
theorem Valid.ne {b:Beach} (h:Valid b):∀ l ∈ b.winds,l ≠ []:=fun l hl e=>by
 have:=List.all_eq_true.1 h.wo l hl
 subst e
 simp [windOk] at this
theorem mem_truths {b:Beach} {t:List Int}:t ∈ truthsR b ↔ isTruthB b t = true:=by
 unfold truthsR
 rw [List.mem_filter,List.mem_map]
 constructor
 ·exact fun h=>h.2
 ·intro ht
  refine ⟨?_,ht⟩
  simp only [isTruthB,Bool.and_eq_true] at ht
  obtain ⟨n,h1,h2⟩:=nth_all ht.1
  exact ⟨n,List.mem_range.2 h1,h2⟩
end Go.Wind
/- What a place has in an hour, by the reference and by the program; bounds of sums over free hours. No condition; no program in sight. -/
namespace Go.Wind
def planAt (p:List (List Int)) (h r:Nat):Int:=(p.getD h []).getD r 0
def stepW (s:Int × Int) (wind:Int) (j:Int):Int × Int:=if wind = 0 then (s.1 - j,s.2) else if wind = 1 then (s.1,s.2 + j) else if wind = 2 then (s.1 + j,s.2) else if wind = 3 then (s.1,s.2 - j) else s
def shR (b:Beach) (s:Int × Int) (face wind:Int):Bool:=decide ((face + 2) % 4 = wind) || (List.range b.reach.toNat).any fun i=>b.breaks.any fun k=>decide (k = stepW s wind (i + 1))
def farP (s k:Int × Int) (wind:Int):Int:=if wind = 0∧k.2 = s.2 then s.1 - k.1 else if wind = 2∧k.2 = s.2 then k.1 - s.1 else if wind = 3∧k.1 = s.1 then s.2 - k.2 else if wind = 1∧k.1 = s.1 then k.2 - s.2 else 0
def brokenP (b:Beach) (s:Int × Int) (wind:Int):Bool:=b.breaks.any fun k=>inI (farP s k wind) 1 b.reach
def calmP (b:Beach) (s:Int × Int) (face wind:Int):Bool:=decide (face = (wind + 2) % 4) || brokenP b s wind
/-! ### Counts of hours -/
def cnt (f:Nat→Bool):Nat→Nat
 | 0=>0
 | n + 1=>cnt f n + (if f n = true then 1 else 0)
theorem cnt_le (f:Nat→Bool):∀ n,cnt f n≤n
 | 0=>Nat.le_refl _
 | n + 1=>by
  have:=cnt_le f n
  simp only [cnt]
  split <;> omega
theorem cnt_mono {f g:Nat→Bool}:∀ {n:Nat},(∀ h,h < n→f h = true→g h = true)→cnt f n≤cnt g n
 | 0,_=>Nat.le_refl _
 | n + 1,h=>by
  have:=cnt_mono (n:=n) fun j hj=>h j (by omega)
  have:=h n (by omega)
  simp only [cnt]
  split <;> split <;> simp_all
  all_goals omega
theorem cnt_congr {f g:Nat→Bool} {n:Nat} (h:∀ j,j < n→f j = g j):cnt f n = cnt g n :=
 Nat.le_antisymm (cnt_mono fun j hj e=>by rw [← h j hj]; exact e) (cnt_mono fun j hj e=>by rw [h j hj]; exact e)
def litB (b:Beach) (plan:List (List Int)) (r h:Nat):Bool:=decide (planAt plan h r = b.sun.getD h 0)
structure Hrs where
 sun:Int
 calm:Int
 good:Int
deriving DecidableEq
def hoursB (calm:Nat→Bool) (lit:Nat→Bool) (n:Nat):Hrs:=⟨cnt lit n,cnt calm n,cnt (fun h=>lit h && calm h) n⟩
def calmAt (b:Beach) (plan:List (List Int)) (t:List Int) (r p h:Nat):Bool:=calmP b (r,p) (planAt plan h r) (t.getD h 0)
def hoursP (b:Beach) (plan:List (List Int)) (t:List Int) (r p:Nat):Hrs:=hoursB (calmAt b plan t r p) (litB b plan r) t.length
def hoursR (b:Beach) (plan:List (List Int)) (t:List Int) (r p:Nat):Hrs:=hoursB (fun h=>shR b (r,p) (planAt plan h r) (t.getD h 0)) (litB b plan r) t.length

/-! ### Plans -/
def isPlanB (b:Beach) (plan:List (List Int)):Bool:=(plan.all fun l=>decide ((l.length:Int) = b.rows) && dirsB l 0) && decide ((plan.length:Int) = b.last + 1)
structure PlanOf (b:Beach) (plan:List (List Int)):Prop where
 len:(plan.length:Int) = b.last + 1
 row:∀ h,h < plan.length→((plan.getD h []).length:Int) = b.rows
 dir:∀ h r,h < plan.length→r < (plan.getD h []).length→inI (planAt plan h r) 0 3 = true
theorem plan_of {b:Beach} {plan:List (List Int)} (h:isPlanB b plan = true):PlanOf b plan:=by
 simp only [isPlanB,Bool.and_eq_true,List.all_eq_true,decide_eq_true_eq] at h
 obtain ⟨h1,h2⟩:=h
 refine ⟨h2,fun j hj=>?_,fun j r hj hr=>?_⟩
 ·rw [List.getD_eq_getElem?_getD,List.getElem?_eq_getElem hj]
  exact (h1 _ (List.getElem_mem hj)).1
 ·have:=(h1 _ (List.getElem_mem hj)).2
  have e:plan.getD j [] = plan[j]:=by rw [List.getD_eq_getElem?_getD,List.getElem?_eq_getElem hj]; rfl
  unfold planAt
  rw [e] at hr ⊢
  rw [List.getD_eq_getElem?_getD,List.getElem?_eq_getElem hr]
  exact List.all_eq_true.1 this _ (List.getElem_mem hr)
theorem inc_dirs {b:Beach} (h:Valid b) {j:Nat} (hj:j < b.winds.length) {n:Int} (hn:n ∈ b.winds[j]):inI n 0 3 = true:=by
 have:=List.all_eq_true.1 h.wo _ (List.getElem_mem hj)
 simp only [windOk,Bool.and_eq_true] at this
 exact List.all_eq_true.1 this.1.2 n hn
theorem listed_dir {b:Beach} (h:Valid b) {t:List Int} (ht:listedGo t b.winds = true) {j:Nat} (hj:j < t.length):inI (t.getD j 0) 0 3 = true:=by
 have hl:=listed_len ht
 rw [List.getD_eq_getElem?_getD,List.getElem?_eq_getElem hj]
 exact inc_dirs h (by omega) (listed_at ht j hj (by omega))
end Go.Wind
/- Bounds: the truths are free in each hour. No condition; no program in sight. -/
namespace Go.Wind
def allow (b:Beach) (h:Nat) (l:List Int):List Int:=l.filter fun n=>b.notes.all fun x=>!decide (x.1 = h) || decide (x.2 = n)
def awGo (b:Beach):Nat→List (List Int)→List (List Int)
 | _,[]=>[]
 | h,l :: r=>allow b h l :: awGo b (h + 1) r
def aw (b:Beach):List (List Int):=awGo b 0 b.winds
theorem awGo_len (b:Beach):∀ (h:Nat) (ws:List (List Int)),(awGo b h ws).length = ws.length
 | _,[]=>rfl
 | h,l :: r=>by simp [awGo,awGo_len b (h + 1) r]
theorem awGo_get (b:Beach):∀ (h:Nat) (ws:List (List Int)) (j:Nat) (h1:j < (awGo b h ws).length) (h2:j < ws.length),(awGo b h ws)[j] = allow b (h + j) ws[j]
 | h,l :: r,0,_,_=>rfl
 | h,l :: r,j + 1,h1,h2=>by
  have:=awGo_get b (h + 1) r j (by simpa [awGo] using h1) (by simpa using h2)
  simp only [awGo,List.getElem_cons_succ,this]
  rw [show h + 1 + j = h + (j + 1) by omega]
theorem aw_len (b:Beach):(aw b).length = b.winds.length:=awGo_len b 0 _
theorem aw_get (b:Beach) (j:Nat) (h1:j < (aw b).length) (h2:j < b.winds.length):(aw b)[j] = allow b j b.winds[j]:=by
 have:=awGo_get b 0 b.winds j h1 h2
 rwa [Nat.zero_add] at this
theorem truth_free {b:Beach} (h:Valid b) {t:List Int}:isTruthB b t = true ↔ listedGo t (aw b) = true:=by
 unfold isTruthB
 rw [Bool.and_eq_true,List.all_eq_true]
 have wi:=h.wi
 constructor
 ·rintro ⟨h1,h2⟩
  have hl:=listed_len h1
  refine listed_of (by rw [aw_len,hl]) fun j j1 j2=>?_
  rw [aw_get b j j2 (by omega)]
  refine List.mem_filter.2 ⟨listed_at h1 j j1 (by omega),List.all_eq_true.2 fun x hx=>?_⟩
  by_cases e:x.1 = (j:Int)
  ·have:=h2 x hx
   simp only [rightB,atI,e,Int.toNat_natCast,List.getD_eq_getElem?_getD,List.getElem?_eq_getElem j1,Option.getD_some,decide_eq_true_eq] at this
   simp [this]
  ·simp [e]
 ·intro h1
  have hl:=listed_len h1
  rw [aw_len] at hl
  refine ⟨listed_of hl fun j j1 j2=>?_,fun x hx=>?_⟩
  ·have:=listed_at h1 j j1 (by rw [aw_len]; exact j2)
   rw [aw_get b j _ j2] at this
   exact (List.mem_filter.1 this).1
  ·have hn:=List.all_eq_true.1 h.nok x hx
   simp only [noteOk,Bool.and_eq_true,inI_iff] at hn
   obtain ⟨⟨n1,n2⟩,_⟩:=hn
   have hj:x.1.toNat < t.length:=by omega
   have:=listed_at h1 x.1.toNat hj (by rw [aw_len]; omega)
   rw [aw_get b _ _ (by omega)] at this
   have:=List.all_eq_true.1 (List.mem_filter.1 this).2 x hx
   have e:x.1 = ((x.1.toNat:Nat):Int):=by omega
   simp only [← e,decide_true,Bool.not_true,Bool.false_or,decide_eq_true_eq] at this
   simp only [rightB,atI,List.getD_eq_getElem?_getD,List.getElem?_eq_getElem hj,Option.getD_some,decide_eq_true_eq]
   exact this.symm
theorem has_truth {b:Beach} (h:Valid b):truthsR b ≠ [] ↔ ∀ l ∈ aw b,l ≠ []:=by
 constructor
 ·intro he l hl
  obtain ⟨t,ht⟩:=List.exists_mem_of_ne_nil _ he
  have:=(truth_free h).1 (mem_truths.1 ht)
  obtain ⟨j,hj,rfl⟩:=List.getElem_of_mem hl
  have:=listed_at this j (by rw [listed_len this]; exact hj) hj
  exact List.ne_nil_of_mem this
 ·intro ha
  have:=nth_listed ha 0
  exact List.ne_nil_of_mem (mem_truths.2 ((truth_free h).2 this))

/-! ### Sums over the hours -/
def sumT (g:Nat→Int→Int):Nat→List Int→Int
 | _,[]=>0
 | h,x :: t=>g h x + sumT g (h + 1) t
def sumN (g:Nat→Int):Nat→Nat→Int
 | _,0=>0
 | h,n + 1=>g h + sumN g (h + 1) n
theorem sum_low {g:Nat→Int→Int} {lo:Nat→Int}:∀ (A:List (List Int)) (h:Nat),(∀ j (hj:j < A.length),∀ n ∈ A[j],lo (h + j)≤g (h + j) n)→∀ t,listedGo t A = true→sumN lo h A.length≤sumT g h t
 | [],h,_,[],_=>Int.le_refl _
 | l :: r,h,hA,x :: t,ht=>by
  simp only [listedGo,Bool.and_eq_true,decide_eq_true_eq] at ht
  have h1:=hA 0 (by simp) x ht.1
  have h2:=sum_low r (h + 1) (fun j hj n hn=>by have:=hA (j + 1) (by simpa using hj) n hn; rwa [show h + (j + 1) = h + 1 + j by omega] at this) t ht.2
  simp only [List.length_cons,sumN,sumT]
  simp only [Nat.add_zero] at h1
  omega
theorem sum_high {g:Nat→Int→Int} {hi:Nat→Int}:∀ (A:List (List Int)) (h:Nat),(∀ j (hj:j < A.length),∀ n ∈ A[j],g (h + j) n≤hi (h + j))→∀ t,listedGo t A = true→sumT g h t≤sumN hi h A.length
 | [],h,_,[],_=>Int.le_refl _
 | l :: r,h,hA,x :: t,ht=>by
  simp only [listedGo,Bool.and_eq_true,decide_eq_true_eq] at ht
  have h1:=hA 0 (by simp) x ht.1
  have h2:=sum_high r (h + 1) (fun j hj n hn=>by have:=hA (j + 1) (by simpa using hj) n hn; rwa [show h + (j + 1) = h + 1 + j by omega] at this) t ht.2
  simp only [List.length_cons,sumN,sumT]
  simp only [Nat.add_zero] at h1
  omega
theorem sum_at {g:Nat→Int→Int} {z:Nat→Int}:∀ (A:List (List Int)) (h:Nat),(∀ j (hj:j < A.length),∃ n ∈ A[j],g (h + j) n = z (h + j))→∃ t,listedGo t A = true∧sumT g h t = sumN z h A.length
 | [],h,_=>⟨[],rfl,rfl⟩
 | l :: r,h,hA=>by
  obtain ⟨n,hn,he⟩:=hA 0 (by simp)
  obtain ⟨t,ht,hs⟩:=sum_at r (h + 1) fun j hj=>by
   obtain ⟨n,h1,h2⟩:=hA (j + 1) (by simpa using hj)
   exact ⟨n,h1,by rwa [show h + (j + 1) = h + 1 + j by omega] at h2⟩
  refine ⟨n :: t,?_,?_⟩
  ·simp only [listedGo,Bool.and_eq_true,decide_eq_true_eq]
   exact ⟨hn,ht⟩
  ·simp only [Nat.add_zero] at he
   simp only [List.length_cons,sumN,sumT,he,hs]
def minF (z:Int) (l:List Int):Int:=l.foldl min z
def maxF (z:Int) (l:List Int):Int:=l.foldl max z
theorem minF_le:∀ (l:List Int) (z:Int),minF z l≤z∧∀ x ∈ l,minF z l≤x
 | [],z=>⟨Int.le_refl _,by simp⟩
 | y :: l,z=>by
  obtain ⟨h1,h2⟩:=minF_le l (min z y)
  have:minF z (y :: l) = minF (min z y) l:=rfl
  rw [this]
  refine ⟨by omega,fun x hx=>?_⟩
  rcases List.mem_cons.1 hx with rfl | hx
  ·omega
  ·exact h2 x hx
theorem minF_mem:∀ (l:List Int) (z:Int),minF z l = z∨minF z l ∈ l
 | [],z=>.inl rfl
 | y :: l,z=>by
  have e:minF z (y :: l) = minF (min z y) l:=rfl
  rw [e]
  rcases minF_mem l (min z y) with h | h
  ·rw [h]
   rcases Int.le_total z y with h | h
   ·left; omega
   ·right; rw [show min z y = y by omega]; simp
  ·exact .inr (List.mem_cons.2 (.inr h))
theorem maxF_le:∀ (l:List Int) (z:Int),z≤maxF z l∧∀ x ∈ l,x≤maxF z l
 | [],z=>⟨Int.le_refl _,by simp⟩
 | y :: l,z=>by
  obtain ⟨h1,h2⟩:=maxF_le l (max z y)
  have:maxF z (y :: l) = maxF (max z y) l:=rfl
  rw [this]
  refine ⟨by omega,fun x hx=>?_⟩
  rcases List.mem_cons.1 hx with rfl | hx
  ·omega
  ·exact h2 x hx
theorem maxF_mem:∀ (l:List Int) (z:Int),maxF z l = z∨maxF z l ∈ l
 | [],z=>.inl rfl
 | y :: l,z=>by
  have e:maxF z (y :: l) = maxF (max z y) l:=rfl
  rw [e]
  rcases maxF_mem l (max z y) with h | h
  ·rw [h]
   rcases Int.le_total z y with h | h
   ·right; rw [show max z y = y by omega]; simp
   ·left; omega
  ·exact .inr (List.mem_cons.2 (.inr h))
structure IsMin {α:Type} (l:List α) (f:α→Int) (m:Int):Prop where
 le:∀ x ∈ l,m≤f x
 at':∃ x ∈ l,f x = m
structure IsMax {α:Type} (l:List α) (f:α→Int) (m:Int):Prop where
 le:∀ x ∈ l,f x≤m
 at':∃ x ∈ l,f x = m
theorem minF_is {α:Type} {l:List α} {f:α→Int} {z:Int} (hz:∀ x ∈ l,f x≤z) (hn:l ≠ []):IsMin l f (minF z (l.map f)):=by
 obtain ⟨h1,h2⟩:=minF_le (l.map f) z
 refine ⟨fun x hx=>h2 _ (List.mem_map_of_mem hx),?_⟩
 rcases minF_mem (l.map f) z with h | h
 ·obtain ⟨y,hy⟩:=List.exists_mem_of_ne_nil _ hn
  have:=h2 _ (List.mem_map_of_mem hy)
  have:=hz y hy
  exact ⟨y,hy,by omega⟩
 ·obtain ⟨x,hx,e⟩:=List.mem_map.1 h
  exact ⟨x,hx,e⟩
theorem maxF_is {α:Type} {l:List α} {f:α→Int} {z:Int} (hz:∀ x ∈ l,z≤f x) (hn:l ≠ []):IsMax l f (maxF z (l.map f)):=by
 obtain ⟨h1,h2⟩:=maxF_le (l.map f) z
 refine ⟨fun x hx=>h2 _ (List.mem_map_of_mem hx),?_⟩
 rcases maxF_mem (l.map f) z with h | h
 ·obtain ⟨y,hy⟩:=List.exists_mem_of_ne_nil _ hn
  have:=h2 _ (List.mem_map_of_mem hy)
  have:=hz y hy
  exact ⟨y,hy,by omega⟩
 ·obtain ⟨x,hx,e⟩:=List.mem_map.1 h
  exact ⟨x,hx,e⟩
theorem sum_min {b:Beach} (h:Valid b) (g:Nat→Int→Int) (lo:Nat→Int) (hlo:∀ j (hj:j < (aw b).length),IsMin (aw b)[j] (g j) (lo j)):IsMin (truthsR b) (sumT g 0) (sumN lo 0 b.winds.length):=by
 refine ⟨fun t ht=>?_,?_⟩
 ·have:=sum_low (g:=g) (lo:=lo) (aw b) 0 (fun j hj n hn=>by simpa using (hlo j hj).le n hn) t ((truth_free h).1 (mem_truths.1 ht))
  rwa [aw_len] at this
 ·obtain ⟨t,h1,h2⟩:=sum_at (g:=g) (z:=lo) (aw b) 0 fun j hj=>by simpa using (hlo j hj).at'
  rw [aw_len] at h2
  exact ⟨t,mem_truths.2 ((truth_free h).2 h1),h2⟩
theorem sum_max {b:Beach} (h:Valid b) (g:Nat→Int→Int) (hi:Nat→Int) (hhi:∀ j (hj:j < (aw b).length),IsMax (aw b)[j] (g j) (hi j)):IsMax (truthsR b) (sumT g 0) (sumN hi 0 b.winds.length):=by
 refine ⟨fun t ht=>?_,?_⟩
 ·have:=sum_high (g:=g) (hi:=hi) (aw b) 0 (fun j hj n hn=>by simpa using (hhi j hj).le n hn) t ((truth_free h).1 (mem_truths.1 ht))
  rwa [aw_len] at this
 ·obtain ⟨t,h1,h2⟩:=sum_at (g:=g) (z:=hi) (aw b) 0 fun j hj=>by simpa using (hhi j hj).at'
  rw [aw_len] at h2
  exact ⟨t,mem_truths.2 ((truth_free h).2 h1),h2⟩
end Go.Wind
/- Valid beaches: how long their lists are. No condition; no program in sight. -/
namespace Go.Wind
theorem inc_len:∀ {l:List Int} {lo:Int},incB l = true→(∀ x ∈ l,lo≤x∧x≤3)→lo≤4→(l.length:Int)≤4 - lo
 | [],lo,_,_,h=>by simp; omega
 | [x],lo,_,h,_=>by have:=h x (by simp); simp; omega
 | x :: y :: r,lo,h,ha,hl=>by
  simp only [incB,Bool.and_eq_true,decide_eq_true_eq] at h
  have hx:=ha x (by simp)
  have:∀ z ∈ y :: r,lo + 1≤z∧z≤3:=by
   have key:∀ (l:List Int) (y:Int),incB (y :: l) = true→∀ z ∈ y :: l,y≤z:=by
    intro l
    induction l with
    | nil=>intro y _ z hz; simp at hz; omega
    | cons w l ih =>
     intro y hi z hz
     simp only [incB,Bool.and_eq_true,decide_eq_true_eq] at hi
     rcases List.mem_cons.1 hz with rfl | hz
     ·omega
     ·have:=ih w hi.2 z hz; omega
   intro z hz
   have h1:=key r y h.2 z hz
   have h2:=ha z (List.mem_cons_of_mem _ hz)
   omega
  have h3:=inc_len h.2 this (by omega)
  simp only [List.length_cons] at h3 ⊢
  omega
theorem wind_len {l:List Int} (h:windOk l = true):1≤l.length∧l.length≤4:=by
 simp only [windOk,Bool.and_eq_true] at h
 obtain ⟨⟨h1,h2⟩,h3⟩:=h
 have:=inc_len (lo:=0) h3 (fun x hx=>inI_iff.1 (List.all_eq_true.1 h2 x hx)) (by omega)
 refine ⟨?_,by omega⟩
 cases l with
 | nil=>simp at h1
 | cons x l=>simp
theorem Valid.wl {b:Beach} (h:Valid b):∀ l ∈ b.winds,1≤l.length∧l.length≤4:=fun l hl=>wind_len (List.all_eq_true.1 h.wo l hl)
theorem Valid.hl {b:Beach} (h:Valid b):b.winds.length≤5:=by have:=h.la; have:=h.wi; omega
theorem many_le:∀ {ws:List (List Int)},(∀ l ∈ ws,l.length≤4)→manyN ws≤4 ^ ws.length
 | [],_=>Nat.le_refl _
 | l :: r,h=>by
  have h1:=many_le (ws:=r) fun l hl=>h l (by simp [hl])
  have h2:=h l (by simp)
  simp only [manyN,List.length_cons,Nat.pow_succ]
  rw [Nat.mul_comm (4 ^ r.length)]
  exact Nat.mul_le_mul h2 h1
theorem Valid.many {b:Beach} (h:Valid b):manyN b.winds≤1024:=by
 have h1:=many_le fun l hl=>(h.wl l hl).2
 have h2:4 ^ b.winds.length≤4 ^ 5:=Nat.pow_le_pow_right (by omega) h.hl
 omega
end Go.Wind
/- Plans by words. No condition; no program in sight. -/
namespace Go.Wind
def wordN (ws:List Nat) (k:Nat):Nat:=if ws.length = 0 then 0 else ws.getD (k % ws.length) 0
def planE (ws:List Nat) (h r:Nat):Int:=((wordN ws h / 2 ^ (2 * r) % 4:Nat):Int)
def planRow (ws:List Nat) (h n:Nat):List Int:=(List.range n).map (planE ws h)
def planW (ws:List Nat) (R H:Nat):List (List Int):=(List.range H).map fun h=>planRow ws h R
theorem planRow_succ (ws:List Nat) (h n:Nat):planRow ws h (n + 1) = planRow ws h n ++ [planE ws h n]:=by simp [planRow,List.range_succ]
theorem planW_succ (ws:List Nat) (R H:Nat):planW ws R (H + 1) = planW ws R H ++ [planRow ws H R]:=by simp [planW,List.range_succ]
theorem planE_dir (ws:List Nat) (h r:Nat):inI (planE ws h r) 0 3 = true:=by
 rw [inI_iff]
 unfold planE
 have:wordN ws h / 2 ^ (2 * r) % 4 < 4:=Nat.mod_lt _ (by omega)
 omega
def planOfW (b:Beach) (ws:List Nat):List (List Int):=planW ws b.rows.toNat (b.last + 1).toNat
theorem planW_ok {b:Beach} (hb:Valid b) (ws:List Nat):isPlanB b (planOfW b ws) = true:=by
 have hla:=hb.la
 have hro:=hb.ro
 simp only [isPlanB,Bool.and_eq_true,List.all_eq_true,decide_eq_true_eq]
 refine ⟨fun l hl=>?_,?_⟩
 ·simp only [planOfW,planW,List.mem_map,List.mem_range] at hl
  obtain ⟨h,_,rfl⟩:=hl
  refine ⟨by simp [planRow]; omega,?_⟩
  simp only [dirsB,List.all_eq_true]
  intro x hx
  simp only [planRow,List.mem_map] at hx
  obtain ⟨r,_,rfl⟩:=hx
  exact planE_dir ws h r
 ·simp [planOfW,planW]; omega
end Go.Wind
