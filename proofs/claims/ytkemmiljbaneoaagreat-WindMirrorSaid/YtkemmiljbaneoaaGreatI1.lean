/- The winds that the truths of a beach have, hour by hour. No condition; no program in sight. -/
import Derived.Test.YtkemmiljbaneoaaGreatL
namespace Go.Wind
def addN (ws:List (List Int)) (h:Nat) (n:Int):List (List Int):=if n ∈ ws.getD h [] then ws else ws.set h (ws.getD h [] ++ [n])
def addW:List (List Int)→Nat→List Int→List (List Int)
 | ws,_,[]=>ws
 | ws,h,n :: t=>addW (addN ws h n) (h + 1) t
def askW (k:Nat) (T:List (List Int)):List (List Int):=T.foldl (fun ws t=>addW ws 0 t) (List.replicate k [])
theorem addN_len (ws:List (List Int)) (h:Nat) (n:Int):(addN ws h n).length = ws.length:=by
 unfold addN; split <;> simp
theorem addW_len:∀ (t:List Int) (ws:List (List Int)) (h:Nat),(addW ws h t).length = ws.length
 | [],_,_=>rfl
 | n :: t,ws,h=>(addW_len t (addN ws h n) (h + 1)).trans (addN_len ws h n)
theorem fold_len:∀ (T:List (List Int)) (ws:List (List Int)),(T.foldl (fun ws t=>addW ws 0 t) ws).length = ws.length
 | [],_=>rfl
 | t :: T,ws=>(fold_len T (addW ws 0 t)).trans (addW_len t ws 0)
theorem askW_len (k:Nat) (T:List (List Int)):(askW k T).length = k:=by
 unfold askW; rw [fold_len]; simp
theorem getD_set (ws:List (List Int)) (h:Nat) (l:List Int) (j:Nat) (hj:j < ws.length):(ws.set h l).getD j [] = if h = j then l else ws.getD j []:=by
 simp only [List.getD_eq_getElem?_getD,List.getElem?_set]
 by_cases e:h = j
 ·subst e; simp [hj]
 ·simp [e]
theorem mem_addN {ws:List (List Int)} {h:Nat} {n x:Int} {j:Nat} (hj:j < ws.length):x ∈ (addN ws h n).getD j [] ↔ x ∈ ws.getD j []∨(h = j∧n = x):=by
 unfold addN
 split
 ·rename_i hn
  refine ⟨.inl,fun h'=>?_⟩
  rcases h' with h' | ⟨rfl,rfl⟩
  ·exact h'
  ·exact hn
 ·rw [getD_set _ _ _ _ hj]
  by_cases e:h = j
  ·subst e
   rw [if_pos rfl,List.mem_append,List.mem_singleton]
   simp [eq_comm]
  ·rw [if_neg e]
   simp [e]
theorem mem_addW:∀ (t:List Int) {ws:List (List Int)} {h j:Nat} {x:Int} (_:j < ws.length),x ∈ (addW ws h t).getD j [] ↔ x ∈ ws.getD j []∨∃ i,i < t.length∧h + i = j∧t.getD i 0 = x
 | [],ws,h,j,x,hj=>by simp [addW]
 | n :: t,ws,h,j,x,hj=>by
  show x ∈ (addW (addN ws h n) (h + 1) t).getD j [] ↔ _
  rw [mem_addW t (by rw [addN_len]; exact hj),mem_addN hj]
  constructor
  ·rintro ((h1 | ⟨h1,h2⟩) | ⟨i,h1,h2,h3⟩)
   ·exact .inl h1
   ·exact .inr ⟨0,by simp,by omega,by simpa using h2⟩
   ·exact .inr ⟨i + 1,by simpa using h1,by omega,by simpa using h3⟩
  ·rintro (h1 | ⟨i,h1,h2,h3⟩)
   ·exact .inl (.inl h1)
   ·cases i with
    | zero=>exact .inl (.inr ⟨by omega,by simpa using h3⟩)
    | succ i=>exact .inr ⟨i,by simpa using h1,by omega,by simpa using h3⟩
theorem mem_fold:∀ (T:List (List Int)) {ws:List (List Int)} {j:Nat} {x:Int} (_:j < ws.length),x ∈ (T.foldl (fun ws t=>addW ws 0 t) ws).getD j [] ↔ x ∈ ws.getD j []∨∃ t ∈ T,j < t.length∧t.getD j 0 = x
 | [],ws,j,x,hj=>by simp
 | t :: T,ws,j,x,hj=>by
  rw [List.foldl_cons,mem_fold T (by rw [addW_len]; exact hj),mem_addW t hj]
  constructor
  ·rintro ((h1 | ⟨i,h1,h2,h3⟩) | ⟨u,h1,h2⟩)
   ·exact .inl h1
   ·have:i = j:=by omega
    subst this
    exact .inr ⟨t,by simp,h1,h3⟩
   ·exact .inr ⟨u,by simp [h1],h2⟩
  ·rintro (h1 | ⟨u,h1,h2,h3⟩)
   ·exact .inl (.inl h1)
   ·rcases List.mem_cons.1 h1 with rfl | h1
    ·exact .inl (.inr ⟨j,h2,by omega,h3⟩)
    ·exact .inr ⟨u,h1,h2,h3⟩
theorem mem_ask {k:Nat} {T:List (List Int)} {j:Nat} {x:Int} (hj:j < k):x ∈ (askW k T).getD j [] ↔ ∃ t ∈ T,j < t.length∧t.getD j 0 = x:=by
 unfold askW
 rw [mem_fold T (by simpa using hj)]
 simp [List.getD_eq_getElem?_getD,hj]
def NoTwice (ws:List (List Int)):Prop:=∀ l ∈ ws,l.Nodup
theorem addN_nodup {ws:List (List Int)} (h:NoTwice ws) (k:Nat) (n:Int):NoTwice (addN ws k n):=by
 unfold addN
 split
 ·exact h
 ·rename_i hn
  intro l hl
  rcases Nat.lt_or_ge k ws.length with hk | hk
  ·rcases List.mem_or_eq_of_mem_set hl with h1 | h1
   ·exact h l h1
   ·subst h1
    have hm:ws.getD k [] = ws[k]:=by rw [List.getD_eq_getElem?_getD,List.getElem?_eq_getElem hk]; rfl
    rw [hm] at hn ⊢
    rw [List.nodup_append]
    refine ⟨h _ (List.getElem_mem hk),by simp,fun a ha b hb=>?_⟩
    simp only [List.mem_singleton] at hb
    subst hb
    exact fun e=>hn (e ▸ ha)
  ·rw [List.set_eq_of_length_le hk] at hl
   exact h l hl
theorem nodup_bound:∀ (k:Nat) (l:List Int),l.Nodup→(∀ x ∈ l,0≤x∧x < k)→l.length≤k
 | 0,l,_,hx=>by
  cases l with
  | nil=>simp
  | cons x l=>have:=hx x (by simp); omega
 | k + 1,l,hn,hx=>by
  have h1:(l.erase (k:Int)).length≤k:=nodup_bound k _ (hn.erase _) fun x hm=>by
   have hm1:=(hn.mem_erase_iff.1 hm)
   have:=hx x hm1.2
   have:=hm1.1
   omega
  rw [List.length_erase] at h1
  split at h1 <;> omega
structure RowsOK (ws:List (List Int)):Prop where
 nd:NoTwice ws
 lo:∀ l ∈ ws,∀ x ∈ l,0≤x∧x≤3
theorem RowsOK.len {ws:List (List Int)} (h:RowsOK ws):∀ l ∈ ws,l.length≤4:=fun l hl=>nodup_bound 4 l (h.nd l hl) fun x hx=>by have:=h.lo l hl x hx; omega
theorem RowsOK.add {ws:List (List Int)} (h:RowsOK ws) (k:Nat) (n:Int) (hn:0≤n∧n≤3):RowsOK (addN ws k n):=by
 refine ⟨addN_nodup h.nd k n,fun l hl x hx=>?_⟩
 unfold addN at hl
 split at hl
 ·exact h.lo l hl x hx
 ·rcases List.mem_or_eq_of_mem_set hl with h1 | h1
  ·exact h.lo l h1 x hx
  ·subst h1
   rcases List.mem_append.1 hx with hx | hx
   ·rcases Nat.lt_or_ge k ws.length with hk | hk
    ·have hm:ws.getD k [] = ws[k]:=by rw [List.getD_eq_getElem?_getD,List.getElem?_eq_getElem hk]; rfl
     rw [hm] at hx
     exact h.lo _ (List.getElem_mem hk) x hx
    ·rw [List.getD_eq_getElem?_getD,List.getElem?_eq_none hk] at hx
     simp at hx
   ·rw [List.mem_singleton.1 hx]; exact hn
theorem RowsOK.adds:∀ (t:List Int) {ws:List (List Int)} (_:RowsOK ws) (k:Nat) (_:∀ n ∈ t,0≤n∧n≤3),RowsOK (addW ws k t)
 | [],_,h,_,_=>h
 | n :: t,_,h,k,hn=>RowsOK.adds t (h.add k n (hn n (by simp))) (k + 1) fun x hx=>hn x (by simp [hx])
theorem RowsOK.fold:∀ (T:List (List Int)) {ws:List (List Int)} (_:RowsOK ws) (_:∀ t ∈ T,∀ n ∈ t,0≤n∧n≤3),RowsOK (T.foldl (fun ws t=>addW ws 0 t) ws)
 | [],_,h,_=>h
 | t :: T,_,h,hT=>RowsOK.fold T (h.adds t 0 (hT t (by simp))) fun u hu=>hT u (by simp [hu])
theorem RowsOK.ask (k:Nat) (T:List (List Int)) (hT:∀ t ∈ T,∀ n ∈ t,0≤n∧n≤3):RowsOK (askW k T):=RowsOK.fold T ⟨fun l hl=>by rw [List.eq_of_mem_replicate hl]; simp,fun l hl x hx=>by rw [List.eq_of_mem_replicate hl] at hx; cases hx⟩ hT
theorem listed_nums {b:Beach} (hb:Valid b) {t:List Int} (ht:listedGo t b.winds = true):∀ n ∈ t,0≤n∧n≤3:=fun n hn=>by
 obtain ⟨j,hj,rfl⟩:=List.getElem_of_mem hn
 have:=listed_dir hb ht hj
 rw [List.getD_eq_getElem?_getD,List.getElem?_eq_getElem hj,inI_iff] at this
 exact this
theorem ask_aw {b:Beach} (hb:Valid b) {T:List (List Int)} (hT:∀ t,t ∈ T ↔ isTruthB b t = true) (hne:T ≠ []) {j:Nat} (hj:j < b.winds.length) (x:Int):x ∈ (askW b.winds.length T).getD j [] ↔ x ∈ (aw b)[j]'(by rw [aw_len]; exact hj):=by
 rw [mem_ask hj]
 constructor
 ·rintro ⟨t,ht,h1,rfl⟩
  have:=listed_at ((truth_free hb).1 ((hT t).1 ht)) j h1 (by rw [aw_len]; exact hj)
  rwa [List.getD_eq_getElem?_getD,List.getElem?_eq_getElem h1]
 ·intro hx
  obtain ⟨t0,ht0⟩:=List.exists_mem_of_ne_nil _ hne
  have h0:=(truth_free hb).1 ((hT t0).1 ht0)
  have hl:=listed_len h0
  have hjt:j < t0.length:=by rw [hl,aw_len]; exact hj
  refine ⟨t0.set j x,(hT _).2 ((truth_free hb).2 (listed_of (by simpa using hl) fun k h1 h2=>?_)),by simpa using hjt,by simp [List.getD_eq_getElem?_getD,hjt]⟩
  rw [List.getElem_set]
  by_cases e:j = k
  ·subst e; rw [if_pos rfl]; exact hx
  ·rw [if_neg e]; exact listed_at h0 k (by simpa using h1) h2
end Go.Wind
/- Bounds of sums, hour by hour and over all truths. No condition; no program in sight. -/
namespace Go.Wind
def sumU (f:Nat→Int):Nat→Int
 | 0=>0
 | n + 1=>sumU f n + f n
theorem sumU_congr {f g:Nat→Int}:∀ {n:Nat},(∀ i,i < n→f i = g i)→sumU f n = sumU g n
 | 0,_=>rfl
 | n + 1,h=>by
  simp only [sumU]
  rw [sumU_congr (n:=n) fun i hi=>h i (by omega),h n (by omega)]
theorem sumU_add (f g:Nat→Int):∀ n,sumU (fun i=>f i + g i) n = sumU f n + sumU g n
 | 0=>rfl
 | n + 1=>by
  simp only [sumU,sumU_add f g n]
  omega
theorem sumU_zero:∀ n,sumU (fun _=>0) n = 0
 | 0=>rfl
 | n + 1=>by simp only [sumU,sumU_zero n]; rfl
theorem sumU_swap (f:Nat→Nat→Int) (m:Nat):∀ n,sumU (fun i=>sumU (f i) m) n = sumU (fun j=>sumU (fun i=>f i j) n) m
 | 0=>(sumU_zero m).symm
 | n + 1=>by
  show sumU (fun i=>sumU (f i) m) n + sumU (f n) m = sumU (fun j=>sumU (fun i=>f i j) n + f n j) m
  rw [sumU_add,sumU_swap f m n]
theorem sumU_le {f:Nat→Int} {c:Int}:∀ {n:Nat},(∀ i,i < n→0≤f i∧f i≤c)→0≤sumU f n∧sumU f n≤n * c
 | 0,_=>by simp [sumU]
 | n + 1,h=>by
  have h1:=sumU_le (n:=n) fun i hi=>h i (by omega)
  have h2:=h n (by omega)
  simp only [sumU]
  have e:((n + 1:Nat):Int) * c = (n:Int) * c + c:=by rw [Int.natCast_succ,Int.add_mul,Int.one_mul]
  omega
theorem sumN_U (f:Nat→Int):∀ (n h:Nat),sumN f h n = sumU (fun i=>f (h + i)) n
 | 0,_=>rfl
 | n + 1,h=>by
  have e:∀ (g:Nat→Int) (n:Nat),sumU g (n + 1) = g 0 + sumU (fun i=>g (i + 1)) n:=by
   intro g n
   induction n with
   | zero=>simp [sumU]
   | succ n ih =>
    have:sumU g (n + 1 + 1) = sumU g (n + 1) + g (n + 1):=rfl
    rw [this,ih]
    simp only [sumU]
    omega
  rw [e]
  show f h + sumN f (h + 1) n = _
  rw [sumN_U f n (h + 1)]
  congr 1
  exact sumU_congr fun i _=>by congr 1; omega
theorem sumT_U (g:Nat→Int→Int):∀ (t:List Int) (h:Nat),sumT g h t = sumN (fun i=>g i (t.getD (i - h) 0)) h t.length
 | [],_=>rfl
 | x :: t,h=>by
  show g h x + sumT g (h + 1) t = g h ((x :: t).getD (h - h) 0) + sumN (fun i=>g i ((x :: t).getD (i - h) 0)) (h + 1) t.length
  rw [Nat.sub_self,sumT_U g t (h + 1)]
  congr 1
  rw [sumN_U,sumN_U]
  refine sumU_congr fun i _=>?_
  rw [show h + 1 + i - (h + 1) = i by omega,show h + 1 + i - h = i + 1 by omega]
  rfl
theorem sumT_eq (g:Nat→Int→Int) (t:List Int):sumT g 0 t = sumU (fun h=>g h (t.getD h 0)) t.length:=by
 rw [sumT_U,sumN_U]
 exact sumU_congr fun i _=>by simp
def rngF (z:Int × Int) (l:List Int):Int × Int:=l.foldl (fun r n=>(min r.1 n,max r.2 n)) z
theorem rngF_eq:∀ (l:List Int) (z:Int × Int),rngF z l = (minF z.1 l,maxF z.2 l)
 | [],_=>rfl
 | n :: l,z=>rngF_eq l (min z.1 n,max z.2 n)
theorem rngF_le:∀ (l:List Int) (z:Int × Int) (lo hi:Int),(∀ x ∈ l,lo≤x∧x≤hi)→lo≤z.1→z.2≤hi→lo≤(rngF z l).1∧(rngF z l).1≤z.1∧z.2≤(rngF z l).2∧(rngF z l).2≤hi
 | [],z,lo,hi,_,h1,h2=>⟨h1,Int.le_refl _,Int.le_refl _,h2⟩
 | n :: l,z,lo,hi,h,h1,h2=>by
  have hn:=h n (by simp)
  have:=rngF_le l (min z.1 n,max z.2 n) lo hi (fun x hx=>h x (by simp [hx])) (by simp only; omega) (by simp only; omega)
  have e:rngF z (n :: l) = rngF (min z.1 n,max z.2 n) l:=rfl
  rw [e]
  simp only at this
  omega
theorem IsMin.congr {α:Type} {l m:List α} {f:α→Int} {v:Int} (h:∀ x,x ∈ l ↔ x ∈ m) (hm:IsMin l f v):IsMin m f v :=
 ⟨fun x hx=>hm.le x ((h x).2 hx),by obtain ⟨x,h1,h2⟩:=hm.at'; exact ⟨x,(h x).1 h1,h2⟩⟩
theorem IsMax.congr {α:Type} {l m:List α} {f:α→Int} {v:Int} (h:∀ x,x ∈ l ↔ x ∈ m) (hm:IsMax l f v):IsMax m f v :=
 ⟨fun x hx=>hm.le x ((h x).2 hx),by obtain ⟨x,h1,h2⟩:=hm.at'; exact ⟨x,(h x).1 h1,h2⟩⟩
theorem IsMin.fun_congr {α:Type} {l:List α} {f g:α→Int} {v:Int} (h:∀ x ∈ l,f x = g x) (hm:IsMin l f v):IsMin l g v :=
 ⟨fun x hx=>by rw [← h x hx]; exact hm.le x hx,by obtain ⟨x,h1,h2⟩:=hm.at'; exact ⟨x,h1,by rw [← h x h1]; exact h2⟩⟩
theorem IsMax.fun_congr {α:Type} {l:List α} {f g:α→Int} {v:Int} (h:∀ x ∈ l,f x = g x) (hm:IsMax l f v):IsMax l g v :=
 ⟨fun x hx=>by rw [← h x hx]; exact hm.le x hx,by obtain ⟨x,h1,h2⟩:=hm.at'; exact ⟨x,h1,by rw [← h x h1]; exact h2⟩⟩
def sumB (z:Int × Int) (ws:List (List Int)) (g:Nat→Int→Int) (n:Nat):Int × Int:=(sumU (fun h=>(rngF z ((ws.getD h []).map (g h))).1) n,sumU (fun h=>(rngF z ((ws.getD h []).map (g h))).2) n)
structure Asked (b:Beach) (ws:List (List Int)):Prop where
 len:ws.length = b.winds.length
 ok:RowsOK ws
 mem:∀ j (hj:j < b.winds.length) (x:Int),x ∈ ws.getD j [] ↔ x ∈ (aw b)[j]'(by rw [aw_len]; exact hj)
 ne:∀ l ∈ aw b,l ≠ []
theorem asked_of {b:Beach} (hb:Valid b) {T:List (List Int)} (hT:∀ t,t ∈ T ↔ isTruthB b t = true) (hne:T ≠ []):Asked b (askW b.winds.length T):=by
 refine ⟨askW_len _ _,RowsOK.ask _ _ fun t ht=>?_,fun j hj x=>ask_aw hb hT hne hj x,?_⟩
 ·have:=(hT t).1 ht
  simp only [isTruthB,Bool.and_eq_true] at this
  exact listed_nums hb this.1
 ·refine (has_truth hb).1 ?_
  obtain ⟨t,ht⟩:=List.exists_mem_of_ne_nil _ hne
  exact List.ne_nil_of_mem (mem_truths.2 ((hT t).1 ht))
theorem Asked.row {b:Beach} {ws:List (List Int)} (h:Asked b ws) {j:Nat} (hj:j < b.winds.length):ws.getD j [] ≠ []:=by
 have h1:=h.ne _ (List.getElem_mem (by rw [aw_len]; exact hj:j < (aw b).length))
 obtain ⟨x,hx⟩:=List.exists_mem_of_ne_nil _ h1
 exact List.ne_nil_of_mem ((h.mem j hj x).2 hx)
theorem sumB_min {b:Beach} (hb:Valid b) {ws:List (List Int)} (ha:Asked b ws) (z:Int × Int) (g:Nat→Int→Int) (hz:∀ h n,g h n≤z.1):IsMin (truthsR b) (sumT g 0) (sumB z ws g b.winds.length).1:=by
 have:=sum_min hb g (fun h=>(rngF z ((ws.getD h []).map (g h))).1) fun j hj=>by
  rw [aw_len] at hj
  rw [rngF_eq]
  exact (minF_is (fun x _=>hz j x) (ha.row hj)).congr fun x=>ha.mem j hj x
 rw [sumN_U] at this
 simp only [Nat.zero_add] at this
 exact this
theorem sumB_max {b:Beach} (hb:Valid b) {ws:List (List Int)} (ha:Asked b ws) (z:Int × Int) (g:Nat→Int→Int) (hz:∀ h n,z.2≤g h n):IsMax (truthsR b) (sumT g 0) (sumB z ws g b.winds.length).2:=by
 have:=sum_max hb g (fun h=>(rngF z ((ws.getD h []).map (g h))).2) fun j hj=>by
  rw [aw_len] at hj
  rw [rngF_eq]
  exact (maxF_is (fun x _=>hz j x) (ha.row hj)).congr fun x=>ha.mem j hj x
 rw [sumN_U] at this
 simp only [Nat.zero_add] at this
 exact this

/-! ### What the hours of places and the totals are sums of -/
def boolI (b:Bool):Int:=if b = true then 1 else 0
theorem boolI_le (b:Bool):0≤boolI b∧boolI b≤1:=by cases b <;> simp [boolI]
theorem cnt_U (f:Nat→Bool):∀ n,((cnt f n:Nat):Int) = sumU (fun h=>boolI (f h)) n
 | 0=>rfl
 | n + 1=>by
  have ih:=cnt_U f n
  simp only [cnt,sumU]
  rw [← ih]
  unfold boolI
  split <;> simp
def goodI (b:Beach) (s:Int × Int) (h:Nat) (f w:Int):Int:=boolI (decide (b.sun.getD h 0 = f) && calmP b s f w)
def calmI (b:Beach) (s:Int × Int) (f w:Int):Int:=boolI (calmP b s f w)
theorem hoursP_good (b:Beach) (plan:List (List Int)) (t:List Int) (r p:Nat):(hoursP b plan t r p).good = sumT (fun h w=>goodI b (r,p) h (planAt plan h r) w) 0 t:=by
 rw [sumT_eq]
 refine (cnt_U _ _).trans (sumU_congr fun h _=>?_)
 have:litB b plan r h = decide (b.sun.getD h 0 = planAt plan h r):=by
  unfold litB
  congr 1
  exact propext eq_comm
 rw [this]
 rfl
def goodN (b:Beach) (h:Nat) (f:Nat→Int) (w:Int):Int:=sumU (fun r=>sumU (fun p=>goodI b (r,p) h (f r) w) b.places.toNat) b.rows.toNat
theorem goodN_le (b:Beach) (h:Nat) (f:Nat→Int) (w:Int):0≤goodN b h f w∧goodN b h f w≤b.rows.toNat * b.places.toNat:=by
 unfold goodN
 refine sumU_le fun r _=>?_
 have:=sumU_le (n:=b.places.toNat) (c:=1) fun p _=>boolI_le (decide (b.sun.getD h 0 = f r) && calmP b (r,p) (f r) w)
 rw [Int.mul_one] at this
 exact this
def totT (b:Beach) (plan:List (List Int)) (t:List Int):Int:=sumU (fun r=>sumU (fun p=>(hoursP b plan t r p).good) b.places.toNat) b.rows.toNat
theorem totT_eq (b:Beach) (plan:List (List Int)) (t:List Int):totT b plan t = sumT (fun h w=>goodN b h (planAt plan h) w) 0 t:=by
 rw [sumT_eq]
 unfold totT goodN
 have e1:∀ r p,(hoursP b plan t r p).good = sumU (fun h=>goodI b (r,p) h (planAt plan h r) (t.getD h 0)) t.length:=fun r p=>by rw [hoursP_good,sumT_eq]
 simp only [e1]
 rw [← sumU_swap (fun r h=>sumU (fun p=>goodI b (r,p) h (planAt plan h r) (t.getD h 0)) b.places.toNat) t.length]
 exact sumU_congr fun r _=>sumU_swap (fun p h=>goodI b (r,p) h (planAt plan h r) (t.getD h 0)) t.length _
def goodR (b:Beach) (ws:List (List Int)) (h:Nat) (f:Nat→Int):Int × Int:=rngF (b.rows * b.places,0) ((ws.getD h []).map (goodN b h f))
def totalP (b:Beach) (ws plan:List (List Int)):Int × Int:=(sumU (fun h=>(goodR b ws h (planAt plan h)).1) plan.length,sumU (fun h=>(goodR b ws h (planAt plan h)).2) plan.length)
def boundP (ws:List (List Int)) (g:Nat→Int→Int):Int × Int:=sumB (1,0) ws g ws.length
theorem totalP_is {b:Beach} (hb:Valid b) {ws:List (List Int)} (ha:Asked b ws) {plan:List (List Int)} (hp:PlanOf b plan):IsMin (truthsR b) (totT b plan) (totalP b ws plan).1∧IsMax (truthsR b) (totT b plan) (totalP b ws plan).2:=by
 have hl:plan.length = b.winds.length:=by have:=hp.len; have:=hb.wi; omega
 have hro:=hb.ro
 have hpl:=hb.pl
 have hz:∀ h n,goodN b h (planAt plan h) n≤b.rows * b.places:=fun h n=>by
  have:=(goodN_le b h (planAt plan h) n).2
  have e1:((b.rows.toNat:Nat):Int) = b.rows:=by omega
  have e2:((b.places.toNat:Nat):Int) = b.places:=by omega
  rwa [e1,e2] at this
 have h1:=sumB_min hb ha (b.rows * b.places,0) (fun h w=>goodN b h (planAt plan h) w) hz
 have h2:=sumB_max hb ha (b.rows * b.places,0) (fun h w=>goodN b h (planAt plan h) w) fun h n=>(goodN_le b h (planAt plan h) n).1
 rw [← hl] at h1 h2
 exact ⟨h1.fun_congr fun t _=>(totT_eq b plan t).symm,h2.fun_congr fun t _=>(totT_eq b plan t).symm⟩
/-! ### Verdicts -/
def verd {α:Type} (l:List α) (q:α→Bool):Int:=if l.countP q = l.length then 1 else if l.countP q = 0 then 2 else 3
end Go.Wind
/- The work of plans. No condition; no program in sight. -/
namespace Go.Wind
def turnI (a b:Int):Int:=min (max (a - b) (b - a)) (4 - max (a - b) (b - a))
def quarI (a b:Int):Int:=min ((b - a + 4) % 4) ((a - b + 4) % 4)
theorem turn_self (a:Int):turnI a a = 0:=by unfold turnI; omega
theorem turn_le {a b:Int} (ha:0≤a∧a≤3) (hb:0≤b∧b≤3):0≤turnI a b∧turnI a b≤2:=by unfold turnI; omega
def turnedP (b:Beach) (f g:Nat→Int):Int:=sumU (fun r=>turnI (f r) (g r) * b.places) b.rows.toNat
theorem turned_self (b:Beach) (f:Nat→Int):turnedP b f f = 0:=by
 unfold turnedP
 simp only [turn_self,Int.zero_mul]
 exact sumU_zero _
theorem turned_congr {b:Beach} {f f' g g':Nat→Int} (h1:∀ r,r < b.rows.toNat→f r = f' r) (h2:∀ r,r < b.rows.toNat→g r = g' r):turnedP b f g = turnedP b f' g' :=
 sumU_congr fun r hr=>by rw [h1 r hr,h2 r hr]
theorem turned_le {b:Beach} (hb:Valid b) {f g:Nat→Int} (hf:∀ r,r < b.rows.toNat→0≤f r∧f r≤3) (hg:∀ r,r < b.rows.toNat→0≤g r∧g r≤3):0≤turnedP b f g∧turnedP b f g≤30:=by
 have hpl:=hb.pl
 have hro:=hb.ro
 have:=sumU_le (f:=fun r=>turnI (f r) (g r) * b.places) (c:=10) (n:=b.rows.toNat) fun r hr=>by
  have h:=turn_le (hf r hr) (hg r hr)
  have h1:0 * b.places≤turnI (f r) (g r) * b.places:=Int.mul_le_mul_of_nonneg_right h.1 (by omega)
  have h2:turnI (f r) (g r) * b.places≤2 * b.places:=Int.mul_le_mul_of_nonneg_right h.2 (by omega)
  omega
 unfold turnedP
 omega
def facesAt (b:Beach) (plan:List (List Int)) (h:Nat):Nat→Int:=if h = 0 then fun r=>b.face.getD r 0 else planAt plan (h - 1)
def workH (b:Beach) (plan:List (List Int)) (n:Nat):Int:=sumU (fun h=>turnedP b (facesAt b plan h) (planAt plan h)) n
def workP (b:Beach) (plan:List (List Int)):Int:=workH b plan plan.length
theorem face_dir {b:Beach} (hb:Valid b) {r:Nat} (hr:r < b.rows.toNat):0≤b.face.getD r 0∧b.face.getD r 0≤3:=by
 have hfa:=hb.fa
 have hl:r < b.face.length:=by omega
 rw [List.getD_eq_getElem?_getD,List.getElem?_eq_getElem hl,← inI_iff]
 exact List.all_eq_true.1 hb.fd _ (List.getElem_mem hl)
theorem plan_dir {b:Beach} {plan:List (List Int)} (hp:PlanOf b plan) {h r:Nat} (hh:h < plan.length) (hr:r < b.rows.toNat):0≤planAt plan h r∧planAt plan h r≤3:=by
 have:=hp.dir h r hh (by have:=hp.row h hh; omega)
 exact inI_iff.1 this
theorem facesAt_dir {b:Beach} (hb:Valid b) {plan:List (List Int)} (hp:PlanOf b plan) {h r:Nat} (hh:h≤plan.length) (hr:r < b.rows.toNat):0≤facesAt b plan h r∧facesAt b plan h r≤3:=by
 unfold facesAt
 by_cases e:h = 0
 ·rw [if_pos e]; exact face_dir hb hr
 ·rw [if_neg e]; exact plan_dir hp (by omega) hr
def workR (b:Beach) (plan:List (List Int)):Int:=sumU (fun h=>sumU (fun r=>quarI (facesAt b plan h r) (planAt plan h r) * b.places) b.rows.toNat) plan.length
end Go.Wind
/- The reference's bounds, over all truths, are the program's. No condition; no program in sight. -/
namespace Go.Wind
def emptyR:Int × Int:=(1099511627776,-1)
def refTotal (b:Beach) (plan:List (List Int)):Int × Int:=rngF emptyR ((truthsR b).map (totT b plan))
def refCalm (b:Beach) (plan:List (List Int)) (r p:Nat):Int × Int:=rngF emptyR ((truthsR b).map fun t=>(hoursP b plan t r p).calm)
def refGood (b:Beach) (plan:List (List Int)) (r p:Nat):Int × Int:=rngF emptyR ((truthsR b).map fun t=>(hoursP b plan t r p).good)
theorem truth_listed {b:Beach} {t:List Int} (h:t ∈ truthsR b):listedGo t b.winds = true:=by
 have:=mem_truths.1 h
 simp only [isTruthB,Bool.and_eq_true] at this
 exact this.1
def calmB (b:Beach) (ws plan:List (List Int)) (r p:Nat):Int × Int:=boundP ws fun h w=>calmI b (r,p) (planAt plan h r) w
def goodB (b:Beach) (ws plan:List (List Int)) (r p:Nat):Int × Int:=boundP ws fun h w=>goodI b (r,p) h (planAt plan h r) w
def sunB (b:Beach) (plan:List (List Int)) (r n:Nat):Int:=((cnt (litB b plan r) n:Nat):Int)
end Go.Wind
/- The best totals: what the search finds. No condition; no program in sight. -/
namespace Go.Wind
def dirF (g:List Int):Nat→Int:=fun r=>g.getD r 0
def four:List Int:=[0,1,2,3]
def allF (R:Nat):List (List Int):=(prods (List.replicate R four)).map (· ++ List.replicate (3 - R) 0)
def padF (l:List Int):List Int:=l ++ List.replicate (3 - l.length) 0
theorem mem_four {x:Int}:x ∈ four ↔ 0≤x∧x≤3:=by
 simp only [four,List.mem_cons,List.not_mem_nil,or_false]
 omega
theorem listed_four:∀ {R:Nat} {l:List Int},listedGo l (List.replicate R four) = true ↔ l.length = R∧∀ x ∈ l,0≤x∧x≤3
 | 0,l=>by cases l <;> simp [listedGo]
 | R + 1,l=>by
  cases l with
  | nil=>simp [listedGo,List.replicate_succ]
  | cons x l =>
   rw [List.replicate_succ]
   simp only [listedGo,Bool.and_eq_true,decide_eq_true_eq,mem_four,listed_four (R:=R),List.length_cons,List.mem_cons,forall_eq_or_imp]
   constructor
   ·rintro ⟨h1,h2,h3⟩; exact ⟨by omega,h1,h3⟩
   ·rintro ⟨h1,h2,h3⟩; exact ⟨h2,by omega,h3⟩
theorem mem_allF {R:Nat} {g:List Int}:g ∈ allF R ↔ ∃ l:List Int,l.length = R∧(∀ x ∈ l,0≤x∧x≤3)∧g = l ++ List.replicate (3 - R) 0:=by
 unfold allF
 rw [List.mem_map]
 constructor
 ·rintro ⟨l,hl,rfl⟩
  rw [mem_prods,listed_four] at hl
  exact ⟨l,hl.1,hl.2,rfl⟩
 ·rintro ⟨l,h1,h2,rfl⟩
  exact ⟨l,mem_prods.2 (listed_four.2 ⟨h1,h2⟩),rfl⟩
theorem allF_len {R:Nat} (hR:R≤3) {g:List Int} (hg:g ∈ allF R):g.length = 3:=by
 obtain ⟨l,h1,_,rfl⟩:=mem_allF.1 hg
 simp; omega
theorem allF_dir {R:Nat} {g:List Int} (hg:g ∈ allF R) {r:Nat} (_:r < R):0≤dirF g r∧dirF g r≤3:=by
 obtain ⟨l,h1,h2,rfl⟩:=mem_allF.1 hg
 unfold dirF
 have hr:r < l.length:=by omega
 rw [List.getD_eq_getElem?_getD,List.getElem?_append_left hr,List.getElem?_eq_getElem hr]
 exact h2 _ (List.getElem_mem hr)
def sureP (b:Beach) (ws:List (List Int)) (h:Nat) (g:List Int):Int:=(goodR b ws h (dirF g)).1
def workF (b:Beach) (f g:List Int):Int:=turnedP b (dirF f) (dirF g)
def stepB (work sure:List Int→Int) (left:Int) (acc:Int × List Int) (g:List Int):Int × List Int:=if left < work g then acc else if acc.1 < sure g then (sure g,g) else acc
def bestT (b:Beach) (ws:List (List Int)):Nat→Nat→Int→List Int→Int × List Int
 | 0,_,_,_=>(0,[0,0,0])
 | d + 1,h,left,f=>(allF b.rows.toNat).foldl (stepB (workF b f) (fun g=>sureP b ws h g + (bestT b ws d (h + 1) (left - workF b f g) g).1) left) (-1,[0,0,0])
theorem foldB_spec (work sure:List Int→Int) (left:Int):∀ (l:List (List Int)) (acc:Int × List Int),((l.foldl (stepB work sure left) acc = acc∨∃ g ∈ l,work g≤left∧l.foldl (stepB work sure left) acc = (sure g,g)))∧acc.1≤(l.foldl (stepB work sure left) acc).1∧∀ g ∈ l,work g≤left→sure g≤(l.foldl (stepB work sure left) acc).1
 | [],acc=>⟨.inl rfl,Int.le_refl _,fun g hg=>by cases hg⟩
 | x :: l,acc=>by
  obtain ⟨h1,h2,h3⟩:=foldB_spec work sure left l (stepB work sure left acc x)
  have e:(x :: l).foldl (stepB work sure left) acc = l.foldl (stepB work sure left) (stepB work sure left acc x):=rfl
  have hs:(stepB work sure left acc x = acc∨(work x≤left∧stepB work sure left acc x = (sure x,x)))∧acc.1≤(stepB work sure left acc x).1∧(work x≤left→sure x≤(stepB work sure left acc x).1):=by
   unfold stepB
   by_cases c1:left < work x
   ·rw [if_pos c1]; exact ⟨.inl rfl,Int.le_refl _,fun h=>by omega⟩
   ·rw [if_neg c1]
    by_cases c2:acc.1 < sure x
    ·rw [if_pos c2]; exact ⟨.inr ⟨by omega,rfl⟩,by simp only; omega,fun _=>Int.le_refl _⟩
    ·rw [if_neg c2]; exact ⟨.inl rfl,Int.le_refl _,fun _=>by omega⟩
  obtain ⟨s1,s2,s3⟩:=hs
  rw [e]
  refine ⟨?_,by omega,fun g hg hw=>?_⟩
  ·rcases h1 with h1 | ⟨g,hg,hw,h1⟩
   ·rcases s1 with s1 | ⟨w1,s1⟩
    ·exact .inl (h1.trans s1)
    ·exact .inr ⟨x,by simp,w1,h1.trans s1⟩
   ·exact .inr ⟨g,by simp [hg],hw,h1⟩
  ·rcases List.mem_cons.1 hg with rfl | hg
   ·have:=s3 hw; omega
   ·exact h3 g hg hw
def seqW (b:Beach):List Int→List (List Int)→Int
 | _,[]=>0
 | f,g :: gs=>workF b f g + seqW b g gs
def seqS (b:Beach) (ws:List (List Int)):Nat→List (List Int)→Int
 | _,[]=>0
 | h,g :: gs=>sureP b ws h g + seqS b ws (h + 1) gs
theorem workF_le {b:Beach} (hb:Valid b) {f g:List Int} (hf:f ∈ allF b.rows.toNat) (hg:g ∈ allF b.rows.toNat):0≤workF b f g∧workF b f g≤30 :=
 turned_le hb (fun _ hr=>allF_dir hf hr) (fun _ hr=>allF_dir hg hr)
theorem sureP_le {b:Beach} (hb:Valid b) (ws:List (List Int)) (h:Nat) (g:List Int):0≤sureP b ws h g∧sureP b ws h g≤15:=by
 have hro:=hb.ro
 have hpl:=hb.pl
 have e1:((b.rows.toNat:Nat):Int) = b.rows:=by omega
 have e2:((b.places.toNat:Nat):Int) = b.places:=by omega
 have h0:0≤b.rows * b.places:=Int.mul_nonneg (by omega) (by omega)
 have h15:b.rows * b.places≤3 * 5:=Int.mul_le_mul (by omega) (by omega) (by omega) (by omega)
 unfold sureP goodR
 have:=rngF_le ((ws.getD h []).map (goodN b h (dirF g))) (b.rows * b.places,0) 0 (b.rows * b.places) (fun x hx=>by
  obtain ⟨w,_,rfl⟩:=List.mem_map.1 hx
  have:=goodN_le b h (dirF g) w
  rwa [e1,e2] at this) h0 h0
 simp only at this
 omega
theorem bestT_spec {b:Beach} (hb:Valid b) (ws:List (List Int)):∀ (d h:Nat) (left:Int) (f:List Int),f ∈ allF b.rows.toNat→0≤left →
  (∀ gs,gs.length = d→(∀ g ∈ gs,g ∈ allF b.rows.toNat)→seqW b f gs≤left→seqS b ws h gs≤(bestT b ws d h left f).1)∧0≤(bestT b ws d h left f).1∧(bestT b ws d h left f).1≤15 * d
 | 0,h,left,f,_,_=>⟨fun gs hl _ _=>by
   have:gs = []:=List.eq_nil_of_length_eq_zero hl
   subst this
   exact Int.le_refl _,Int.le_refl _,by simp [bestT]⟩
 | d + 1,h,left,f,hf,hl=>by
  have e:bestT b ws (d + 1) h left f = (allF b.rows.toNat).foldl (stepB (workF b f) (fun g=>sureP b ws h g + (bestT b ws d (h + 1) (left - workF b f g) g).1) left) (-1,[0,0,0]):=rfl
  obtain ⟨h1,h2,h3⟩:=foldB_spec (workF b f) (fun g=>sureP b ws h g + (bestT b ws d (h + 1) (left - workF b f g) g).1) left (allF b.rows.toNat) (-1,[0,0,0])
  rw [← e] at h1 h2 h3
  have key:∀ g,g ∈ allF b.rows.toNat→workF b f g≤left→_:=fun g hg hw=>bestT_spec hb ws d (h + 1) (left - workF b f g) g hg (by omega)
  have hself:workF b f f = 0:=turned_self b _
  have hge:0≤(bestT b ws (d + 1) h left f).1:=by
   have q1:=h3 f hf (by omega)
   have q2:=(key f hf (by omega)).2.1
   have q3:=(sureP_le hb ws h f).1
   omega
  refine ⟨fun gs hlen hmem hw=>?_,hge,?_⟩
  ·cases gs with
   | nil=>cases hlen
   | cons g gs =>
    have hg:=hmem g (by simp)
    have hsw:0≤seqW b g gs:=by
     have:∀ (gs:List (List Int)) (g:List Int),g ∈ allF b.rows.toNat→(∀ x ∈ gs,x ∈ allF b.rows.toNat)→0≤seqW b g gs:=by
      intro gs
      induction gs with
      | nil=>intro g _ _; exact Int.le_refl _
      | cons y ys ih =>
       intro g hg hm
       have q1:=(workF_le hb hg (hm y (by simp))).1
       have q2:=ih y (hm y (by simp)) fun x hx=>hm x (by simp [hx])
       simp only [seqW]
       omega
     exact this gs g hg fun x hx=>hmem x (by simp [hx])
    simp only [seqW] at hw
    have q1:=h3 g hg (by omega)
    have q2:=(key g hg (by omega)).1 gs (by simpa using hlen) (fun x hx=>hmem x (by simp [hx])) (by omega)
    simp only [seqS]
    omega
  ·rcases h1 with h1 | ⟨g,hg,hw,h1⟩
   ·rw [h1] at hge
    simp at hge
   ·rw [h1]
    have q2:=(key g hg hw).2.2
    have q3:=(sureP_le hb ws h g).2
    simp only
    rw [Int.natCast_succ]
    omega
theorem bestT_next {b:Beach} (hb:Valid b) (ws:List (List Int)) (d h:Nat) (left:Int) (f:List Int) (hf:f ∈ allF b.rows.toNat) (hl:0≤left) :
  (bestT b ws (d + 1) h left f).2 ∈ allF b.rows.toNat∧workF b f (bestT b ws (d + 1) h left f).2≤left∧(bestT b ws (d + 1) h left f).1 = sureP b ws h (bestT b ws (d + 1) h left f).2 + (bestT b ws d (h + 1) (left - workF b f (bestT b ws (d + 1) h left f).2) (bestT b ws (d + 1) h left f).2).1:=by
 have e:bestT b ws (d + 1) h left f = (allF b.rows.toNat).foldl (stepB (workF b f) (fun g=>sureP b ws h g + (bestT b ws d (h + 1) (left - workF b f g) g).1) left) (-1,[0,0,0]):=rfl
 have h1:=(foldB_spec (workF b f) (fun g=>sureP b ws h g + (bestT b ws d (h + 1) (left - workF b f g) g).1) left (allF b.rows.toNat) (-1,[0,0,0])).1
 rw [← e] at h1
 have hge:=(bestT_spec hb ws (d + 1) h left f hf hl).2.1
 rcases h1 with h1 | ⟨g,hg,hw,h1⟩
 ·rw [h1] at hge
  simp at hge
 ·rw [h1]
  exact ⟨hg,hw,rfl⟩
def bestG (b:Beach) (ws:List (List Int)):Nat→Nat→Int→List Int→List (List Int)
 | 0,_,_,_=>[]
 | d + 1,h,left,f=>(bestT b ws (d + 1) h left f).2 :: bestG b ws d (h + 1) (left - workF b f (bestT b ws (d + 1) h left f).2) (bestT b ws (d + 1) h left f).2
theorem bestG_spec {b:Beach} (hb:Valid b) (ws:List (List Int)):∀ (d h:Nat) (left:Int) (f:List Int),f ∈ allF b.rows.toNat→0≤left →
  (bestG b ws d h left f).length = d∧(∀ g ∈ bestG b ws d h left f,g ∈ allF b.rows.toNat)∧seqW b f (bestG b ws d h left f)≤left∧seqS b ws h (bestG b ws d h left f) = (bestT b ws d h left f).1
 | 0,h,left,f,_,hl=>⟨rfl,fun g hg=>(by cases hg),hl,rfl⟩
 | d + 1,h,left,f,hf,hl=>by
  obtain ⟨h1,h2,h3⟩:=bestT_next hb ws d h left f hf hl
  have ih:=bestG_spec hb ws d (h + 1) (left - workF b f (bestT b ws (d + 1) h left f).2) (bestT b ws (d + 1) h left f).2 h1 (by omega)
  have e:bestG b ws (d + 1) h left f = (bestT b ws (d + 1) h left f).2 :: bestG b ws d (h + 1) (left - workF b f (bestT b ws (d + 1) h left f).2) (bestT b ws (d + 1) h left f).2:=rfl
  obtain ⟨i1,i2,i3,i4⟩:=ih
  rw [e]
  refine ⟨by rw [List.length_cons,i1],fun g hg=>?_,?_,?_⟩
  ·rcases List.mem_cons.1 hg with rfl | hg
   ·exact h1
   ·exact i2 g hg
  ·simp only [seqW]
   omega
  ·simp only [seqS]
   rw [i4,← h3]
theorem sumU_shift (g:Nat→Int):∀ n,sumU g (n + 1) = g 0 + sumU (fun i=>g (i + 1)) n
 | 0=>by simp [sumU]
 | n + 1=>by
  have:sumU g (n + 1 + 1) = sumU g (n + 1) + g (n + 1):=rfl
  rw [this,sumU_shift g n]
  simp only [sumU]
  omega
theorem seqS_U (b:Beach) (ws:List (List Int)):∀ (gs:List (List Int)) (h:Nat),seqS b ws h gs = sumU (fun i=>sureP b ws (h + i) (gs.getD i [])) gs.length
 | [],_=>rfl
 | g :: gs,h=>by
  rw [List.length_cons,sumU_shift]
  show sureP b ws h g + seqS b ws (h + 1) gs = _
  rw [seqS_U b ws gs (h + 1)]
  congr 1
  exact sumU_congr fun i _=>by rw [show h + 1 + i = h + (i + 1) by omega]; rfl
theorem seqW_U (b:Beach):∀ (gs:List (List Int)) (f:List Int),seqW b f gs = sumU (fun i=>workF b (if i = 0 then f else gs.getD (i - 1) []) (gs.getD i [])) gs.length
 | [],_=>rfl
 | g :: gs,f=>by
  rw [List.length_cons,sumU_shift]
  show workF b f g + seqW b g gs = _
  rw [seqW_U b gs g]
  congr 1
  refine sumU_congr fun i _=>?_
  rw [if_neg (Nat.succ_ne_zero i)]
  cases i with
  | zero=>rfl
  | succ i=>rfl
theorem goodN_congr {b:Beach} {h:Nat} {f g:Nat→Int} (hfg:∀ r,r < b.rows.toNat→f r = g r) (w:Int):goodN b h f w = goodN b h g w :=
 sumU_congr fun r hr=>by rw [hfg r hr]
theorem goodR_congr {b:Beach} {ws:List (List Int)} {h:Nat} {f g:Nat→Int} (hfg:∀ r,r < b.rows.toNat→f r = g r):goodR b ws h f = goodR b ws h g:=by
 unfold goodR
 rw [show goodN b h f = goodN b h g from funext fun w=>goodN_congr hfg w]
def SameG (b:Beach) (plan gs:List (List Int)):Prop:=plan.length = gs.length∧∀ h,h < plan.length→∀ r,r < b.rows.toNat→planAt plan h r = dirF (gs.getD h []) r
theorem same_sure {b:Beach} {ws plan gs:List (List Int)} (h:SameG b plan gs):(totalP b ws plan).1 = seqS b ws 0 gs:=by
 rw [seqS_U,← h.1]
 refine sumU_congr fun i hi=>?_
 rw [Nat.zero_add]
 exact congrArg Prod.fst (goodR_congr fun r hr=>h.2 i hi r hr)
theorem same_work {b:Beach} {plan gs:List (List Int)} {f:List Int} (hf:∀ r,r < b.rows.toNat→b.face.getD r 0 = dirF f r) (h:SameG b plan gs):workP b plan = seqW b f gs:=by
 rw [seqW_U,← h.1]
 refine sumU_congr fun i hi=>turned_congr (fun r hr=>?_) fun r hr=>h.2 i hi r hr
 unfold facesAt
 by_cases e:i = 0
 ·rw [if_pos e,if_pos e]; exact hf r hr
 ·rw [if_neg e,if_neg e]; exact h.2 (i - 1) (by omega) r hr
theorem planAt_map {gs:List (List Int)} {R h r:Nat} (hr:r < R) (hh:h < gs.length):planAt (gs.map (List.take R)) h r = dirF (gs.getD h []) r:=by
 unfold planAt dirF
 simp only [List.getD_eq_getElem?_getD,List.getElem?_map,List.getElem?_eq_getElem hh,Option.map_some,Option.getD_some,List.getElem?_take]
 rw [if_pos hr]
theorem padF_mem {R:Nat} {l:List Int} (hl:l.length = R) (hd:∀ x ∈ l,0≤x∧x≤3):padF l ∈ allF R:=mem_allF.2 ⟨l,hl,hd,by rw [padF,hl]⟩
theorem padF_dir {l:List Int} {r:Nat}:dirF (padF l) r = l.getD r 0:=by
 unfold dirF padF
 simp only [List.getD_eq_getElem?_getD]
 rcases Nat.lt_or_ge r l.length with h | h
 ·rw [List.getElem?_append_left h]
 ·rw [List.getElem?_append_right h,List.getElem?_eq_none h,List.getElem?_replicate]
  split <;> rfl
theorem take_plan {b:Beach} (hb:Valid b) {gs:List (List Int)} (hl:(gs.length:Int) = b.last + 1) (hg:∀ g ∈ gs,g ∈ allF b.rows.toNat):isPlanB b (gs.map (List.take b.rows.toNat)) = true∧SameG b (gs.map (List.take b.rows.toNat)) gs:=by
 have hro:=hb.ro
 refine ⟨?_,by simp,fun h hh r hr=>planAt_map hr (by simpa using hh)⟩
 simp only [isPlanB,Bool.and_eq_true,List.all_eq_true,decide_eq_true_eq,List.length_map]
 refine ⟨fun l hl=>?_,hl⟩
 obtain ⟨g,hgm,rfl⟩:=List.mem_map.1 hl
 obtain ⟨m,h1,h2,rfl⟩:=mem_allF.1 (hg g hgm)
 rw [← h1,List.take_left]
 refine ⟨by omega,?_⟩
 simp only [dirsB,List.all_eq_true]
 exact fun x hx=>inI_iff.2 (h2 x hx)
theorem plan_same {b:Beach} {plan:List (List Int)} (hp:isPlanB b plan = true):SameG b plan (plan.map padF)∧∀ g ∈ plan.map padF,g ∈ allF b.rows.toNat:=by
 simp only [isPlanB,Bool.and_eq_true,List.all_eq_true,decide_eq_true_eq] at hp
 refine ⟨⟨by simp,fun h hh r hr=>?_⟩,fun g hg=>?_⟩
 ·have e:(plan.map padF).getD h [] = padF (plan.getD h []):=by
   simp only [List.getD_eq_getElem?_getD,List.getElem?_map,List.getElem?_eq_getElem hh,Option.map_some,Option.getD_some]
  rw [e,padF_dir]
  rfl
 ·obtain ⟨l,hl,rfl⟩:=List.mem_map.1 hg
  obtain ⟨h1,h2⟩:=hp.1 l hl
  refine padF_mem (by omega) fun x hx=>?_
  simp only [dirsB,List.all_eq_true] at h2
  exact inI_iff.1 (h2 x hx)
def bestV (b:Beach) (ws:List (List Int)) (most:Int):Int:=(bestT b ws b.winds.length 0 most (padF b.face)).1
def bestPl (b:Beach) (ws:List (List Int)) (most:Int):List (List Int):=(bestG b ws b.winds.length 0 most (padF b.face)).map (List.take b.rows.toNat)
theorem face_mem {b:Beach} (hb:Valid b):padF b.face ∈ allF b.rows.toNat:=by
 have hfa:=hb.fa
 refine padF_mem (by omega) fun x hx=>?_
 have:=hb.fd
 simp only [dirsB,List.all_eq_true] at this
 exact inI_iff.1 (this x hx)
theorem best_spec {b:Beach} (hb:Valid b) (ws:List (List Int)) {most:Int} (hm:0≤most) :
  (isPlanB b (bestPl b ws most) = true∧workP b (bestPl b ws most)≤most∧(totalP b ws (bestPl b ws most)).1 = bestV b ws most) ∧
  ∀ plan,isPlanB b plan = true→workP b plan≤most→(totalP b ws plan).1≤bestV b ws most:=by
 have hwi:=hb.wi
 have hf:=face_mem hb
 have hd:∀ r,r < b.rows.toNat→b.face.getD r 0 = dirF (padF b.face) r:=fun r _=>padF_dir.symm
 obtain ⟨g1,g2,g3,g4⟩:=bestG_spec hb ws b.winds.length 0 most (padF b.face) hf hm
 obtain ⟨t1,t2⟩:=take_plan hb (by omega) g2
 refine ⟨⟨t1,?_,?_⟩,fun plan hp hw=>?_⟩
 ·unfold bestPl; rw [same_work hd t2]; exact g3
 ·unfold bestPl; rw [same_sure t2]; exact g4
 ·obtain ⟨s1,s2⟩:=plan_same hp
  have hlen:(plan.map padF).length = b.winds.length:=by
   have:=(plan_of hp).len
   rw [List.length_map]
   omega
  rw [same_sure s1]
  refine (bestT_spec hb ws b.winds.length 0 most (padF b.face) hf hm).1 _ hlen s2 ?_
  rwa [← same_work hd s1]
end Go.Wind
/- Best totals of two beaches. No condition; no program in sight. -/
namespace Go.Wind
theorem best_le {b x:Beach} (hb:Valid b) (hx:Valid x) {ws wx:List (List Int)} (φ:List (List Int)→List (List Int)) {most:Int} (hm:0≤most)
  (h:∀ plan,isPlanB b plan = true→isPlanB x (φ plan) = true∧workP x (φ plan)≤workP b plan∧(totalP b ws plan).1≤(totalP x wx (φ plan)).1):bestV b ws most≤bestV x wx most:=by
 obtain ⟨⟨h1,h2,h3⟩,_⟩:=best_spec hb ws hm
 obtain ⟨p1,p2,p3⟩:=h _ h1
 have:=(best_spec hx wx hm).2 _ p1 (by omega)
 omega
theorem IsMin.sub {α:Type} {l m:List α} {f g:α→Int} {v w:Int} (hl:IsMin l f v) (hm:IsMin m g w) (hsub:∀ x ∈ m,x ∈ l) (hfg:∀ x ∈ m,f x≤g x):v≤w:=by
 obtain ⟨x,h1,h2⟩:=hm.at'
 have:=hl.le x (hsub x h1)
 have:=hfg x h1
 omega
theorem IsMax.sub {α:Type} {l m:List α} {f g:α→Int} {v w:Int} (hl:IsMax l f v) (hm:IsMax m g w) (hsub:∀ x ∈ m,x ∈ l) (hfg:∀ x ∈ m,g x≤f x):w≤v:=by
 obtain ⟨x,h1,h2⟩:=hm.at'
 have:=hl.le x (hsub x h1)
 have:=hfg x h1
 omega
end Go.Wind
/- One hour alone. No condition; no program in sight. -/
namespace Go.Wind
def noNotes (b:Beach):Beach:={ b with notes:=[] }
def hourB (b:Beach) (h:Nat):Beach:={ b with last:=0,sun:=[b.sun.getD h 0],winds:=[b.winds.getD h []],notes:=[] }
end Go.Wind
