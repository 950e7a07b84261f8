/- The plain law: readings, what agrees, scenes. No condition. -/
import Derived.Test.YtfbbnkaahnpicaaW
import Derived.Test.YtfbbnkaahnpicaaFy
open Go Go.Pg Go.Proofs
namespace Go.Proofs.Try.Op
set_option maxRecDepth 100000
set_option linter.unusedSimpArgs false
/-! ### The readings: the program's and the reference's -/
def lenOK:Bool:=[1,2,3,4].all fun C:Int=>[0,1,2].all fun k:Int=>[-1,0,1,2,3].all fun c:Int=>[-1,0,1,2,3].all fun t:Int =>
 !(lineOk C ⟨k,c,t⟩) || ((readings C ⟨k,c,t⟩).length == (readingsP C ⟨k,c,t⟩).length)
theorem lenOK_true:lenOK = true:=by decide +kernel
theorem mem5 {x:Int} (h:-1≤x) (h2:x≤3):x ∈ ([-1,0,1,2,3]:List Int):=by
 have:x = -1∨x = 0∨x = 1∨x = 2∨x = 3:=by omega
 rcases this with rfl | rfl | rfl | rfl | rfl <;> decide
theorem mem4 {x:Int} (h:1≤x) (h2:x≤4):x ∈ ([1,2,3,4]:List Int):=by
 have:x = 1∨x = 2∨x = 3∨x = 4:=by omega
 rcases this with rfl | rfl | rfl | rfl <;> decide
theorem mem3 {x:Int} (h:0≤x) (h2:x≤2):x ∈ ([0,1,2]:List Int):=by
 have:x = 0∨x = 1∨x = 2:=by omega
 rcases this with rfl | rfl | rfl <;> decide
theorem len_eq {C:Int} (h1:1≤C) (h4:C≤4) {l:Line} (h:lineOk C l = true):(readings C l).length = (readingsP C l).length:=by
 obtain ⟨k,c,t⟩:=l
 obtain ⟨v1,v2,v3⟩:=valL_spec h
 simp only at v1 v2 v3
 have q:=List.all_eq_true.1 (List.all_eq_true.1 (List.all_eq_true.1 (List.all_eq_true.1 lenOK_true C (mem4 h1 h4)) k (mem3 v1.1 v1.2)) c (mem5 v2.1 (by omega))) t (mem5 v3.1 (by omega))
 rw [h] at q
 simpa using q
theorem many_eq {C:Int} (h1:1≤C) (h4:C≤4):∀ (ls:List Line) (v w:Int),(∀ l ∈ ls,lineOk C l = true)→0≤v→v≤5000→(v≤4096→w = v)→(4096 < v→4096 < w∧w≤4097)→(4096 < manyGo C v ls ↔ 4096 < manyP C w ls)∧(manyGo C v ls≤4096→manyP C w ls = manyGo C v ls)
 | [],v,w,_,_,_,h3,h5=>by
  simp only [manyGo,manyP,List.foldl_nil]
  omega
 | l :: ls,v,w,hl,h0,h0',h3,h5=>by
  have e:=len_eq h1 h4 (hl l (by simp))
  have hr:=readings_len C l h4
  have hq:=mul_range h0 h0' hr
  simp only [manyGo,manyP,List.foldl_cons]
  rw [← e]
  have:=many_eq h1 h4 ls (min5 (v * ((readings C l).length:Int))) (min4 (w * ((readings C l).length:Int))) (fun x hx=>hl x (by simp [hx])) (by unfold min5; split <;> omega) (by unfold min5; split <;> omega) ?_ ?_
  ·exact this
  ·intro h
   by_cases hv:v≤4096
   ·rw [h3 hv]; unfold min5 min4 at *; split at h <;> split <;> omega
   ·obtain ⟨w1,w2⟩:=h5 (by omega)
    rcases Nat.eq_zero_or_pos (readings C l).length with hz | hz
    ·rw [hz]; simp [min5,min4]
    ·have g1:v * 1≤v * ((readings C l).length:Int):=Int.mul_le_mul_of_nonneg_left (by omega) (by omega)
     unfold min5 at h
     split at h <;> omega
  ·intro h
   by_cases hv:v≤4096
   ·rw [h3 hv]; unfold min5 min4 at *; split at h <;> split <;> omega
   ·obtain ⟨w1,w2⟩:=h5 (by omega)
    rcases Nat.eq_zero_or_pos (readings C l).length with hz | hz
    ·rw [hz] at h; simp [min5] at h
    ·have g1:w * 1≤w * ((readings C l).length:Int):=Int.mul_le_mul_of_nonneg_left (by omega) (by omega)
     unfold min4
     split <;> omega
theorem check_eq (b:Book):checkP b = faultB b:=by
 unfold checkP faultB
 split
 ·rfl
 ·split
  ·rfl
  ·rename_i h2
   split
   ·rfl
   ·rename_i h3
    split
    ·rfl
    ·simp [inB] at h2
     simp only [Bool.not_eq_false] at h3
     have:=(many_eq (C:=b.chairs) (by omega) (by omega) b.lines 1 1 (fun l hl=>List.all_eq_true.1 h3 l hl) (by omega) (by omega) (by omega) (by omega)).1
     simp only [this]

/-! ### What agrees with a line -/
theorem mem_rng {a x:Int}:∀ {d:Nat},x ∈ rng a d ↔ a≤x∧x < a + d
 | 0=>by simp only [rng,List.not_mem_nil,false_iff]; omega
 | d + 1=>by
  have:=mem_rng (a:=a + 1) (x:=x) (d:=d)
  simp only [rng,List.mem_cons,this]
  omega
theorem mem_ways {sg no a b x:Int} (h:a≤b + 1):x ∈ ways sg no a b ↔ (sg = no∧a≤x∧x≤b)∨(sg ≠ no∧x = sg):=by
 unfold ways
 split
 ·rename_i e
  rw [mem_rng]
  simp only [e,true_and,ne_eq,not_true_eq_false,false_and,or_false]
  omega
 ·rename_i e
  simp [e]
theorem mem_readingsP {C:Int} {l x:Line}:x ∈ readingsP C l ↔ x.k ∈ ways l.k 0 1 2∧x.c ∈ ways l.c (-1) 0 (C - 1)∧x.t ∈ ways l.t (-1) 0 (C - 1):=by
 refine ⟨readingsP_mem,fun ⟨h1,h2,h3⟩=>?_⟩
 unfold readingsP rd1 rd2 rd3
 simp only [List.mem_flatMap,List.mem_map]
 exact ⟨_,h1,_,h2,_,h3,rfl⟩
theorem eqL_iff {l x:Line}:eqL l x = true ↔ l = x:=by
 obtain ⟨a,b,c⟩:=l
 obtain ⟨d,e,f⟩:=x
 simp [eqL]
theorem agrees_eq {C:Int} (h1:1≤C) {l:Line} (h:lineOk C l = true) (x:Line):agreesP C l x = readOne C l x:=by
 obtain ⟨v1,v2,v3⟩:=valL_spec h
 have e1:agreesP C l x = true ↔ x ∈ readingsP C l:=by
  unfold agreesP
  rw [List.any_eq_true]
  constructor
  ·rintro ⟨y,hy,he⟩; rw [eqL_iff] at he; rw [he]; exact hy
  ·intro hx; exact ⟨x,hx,eqL_iff.2 rfl⟩
 rw [Bool.eq_iff_iff,e1,mem_readingsP,mem_ways (by omega),mem_ways (by omega),mem_ways (by omega)]
 simp only [readOne,inB,agreesB,Bool.and_eq_true,Bool.or_eq_true,decide_eq_true_eq]
 omega
/-! ### By which line one is out, step by step -/
theorem outGo_snoc (sel:Line→Int) (x:Int) (t:Line):∀ (l:List Line) (k:Nat) (v:Int),outGo sel x k v (l ++ [t]) = if sel t = x then (if t.k = 1 then ((k + l.length:Nat):Int) else -1) else outGo sel x k v l
 | [],k,v=>by simp [outGo]
 | a :: l,k,v=>by
  simp only [List.cons_append,outGo,outGo_snoc sel x t l,List.length_cons]
  have:k + 1 + l.length = k + (l.length + 1):=by omega
  rw [this]
theorem take_snoc {α:Type} {l:List α} {k:Nat} (h:k < l.length):l.take (k + 1) = l.take k ++ [l[k]]:=by
 rw [List.take_succ_eq_append_getElem h]
theorem outB_succ (sel:Line→Int) (ts:List Line) (k:Nat) (h:k < ts.length) (x:Int):outB sel ts (k + 1) x = if sel ts[k] = x then (if ts[k].k = 1 then (k:Int) else -1) else outB sel ts k x:=by
 unfold outB
 rw [take_snoc h,outGo_snoc]
 simp [Nat.min_eq_left (Nat.le_of_lt h)]
theorem moneyGo_snoc (coin:Int) (t:Line):∀ (l:List Line) (v:Int),moneyGo coin v (l ++ [t]) = if t.k = 1 then moneyGo coin v l + coin else moneyGo coin v l - coin
 | [],v=>by simp [moneyGo]
 | a :: l,v=>by simp only [List.cons_append,moneyGo,moneyGo_snoc coin t l]
theorem moneyB_succ (b:Book) (ts:List Line) (k:Nat) (h:k < ts.length):moneyB b ts (k + 1) = if ts[k].k = 1 then moneyB b ts k + b.coin else moneyB b ts k - b.coin:=by
 unfold moneyB
 rw [take_snoc h,moneyGo_snoc]
structure Same (b:Book) (ts:List Line) (k:Nat) (s:Scene):Prop where
 ok:s.ok
 ch:∀ j:Nat,j < 4→s.ch.getD j 0 = outB Line.c ts k j + 1
 tk:∀ j:Nat,j < 4→s.tk.getD j 0 = outB Line.t ts k j + 1
 money:s.money = moneyB b ts k
theorem outB_ge (sel:Line→Int) (ts:List Line) (x:Int):∀ (k:Nat),k≤ts.length→-1≤outB sel ts k x
 | 0,_=>by simp [outB,outGo]
 | k + 1,h=>by
  rw [outB_succ sel ts k (by omega)]
  have:=outB_ge sel ts x k (by omega)
  split
  ·split <;> omega
  ·exact this
theorem same_next {b:Book} {ts:List Line} {k:Nat} {s:Scene} (h:Same b ts k s) (hk:k < ts.length) (hk1:1≤ts[k].k∧ts[k].k≤2) (hc:0≤ts[k].c∧ts[k].c < 4) (ht:0≤ts[k].t∧ts[k].t < 4) :
  (nextB b.coin s k ts[k]).2 = possOne ts k ts[k]∧(possOne ts k ts[k] = true→Same b ts (k + 1) (nextB b.coin s k ts[k]).1∧(nextB b.coin s k ts[k]).1.mixed = if mixOne ts k ts[k] = true then s.mixed + 1 else s.mixed):=by
 have hcn:((ts[k].c.toNat:Nat):Int) = ts[k].c:=by omega
 have htn:((ts[k].t.toNat:Nat):Int) = ts[k].t:=by omega
 have g1:=h.ch ts[k].c.toNat (by omega)
 have g2:=h.tk ts[k].t.toNat (by omega)
 rw [hcn] at g1
 rw [htn] at g2
 have b1:=outB_ge Line.c ts ts[k].c k (by omega)
 have b2:=outB_ge Line.t ts ts[k].t k (by omega)
 have d1:decide (s.ch.getD ts[k].c.toNat 0 = 0) = !decide (0≤outB Line.c ts k ts[k].c):=dec_not (by rw [g1]; omega)
 have d2:decide (s.tk.getD ts[k].t.toNat 0 = 0) = !decide (0≤outB Line.t ts k ts[k].t):=dec_not (by rw [g2]; omega)
 have d3:decide (s.ch.getD ts[k].c.toNat 0 = s.tk.getD ts[k].t.toNat 0) = decide (outB Line.c ts k ts[k].c = outB Line.t ts k ts[k].t):=by
  rw [g1,g2]; congr 1; apply propext; omega
 have hset:∀ (l:List Int) (n:Nat) (v:Int) (j:Nat),l.length = 4→j < 4→(l.set n v).getD j 0 = if n = j then v else l.getD j 0:=by
  intro l n v j hl hj
  simp only [List.getD_eq_getElem?_getD,List.getElem?_set,hl]
  split
  ·rename_i e; subst e; simp [hj]
  ·rfl
 unfold nextB possOne mixOne
 simp only [d1,d2,d3,Bool.not_not]
 by_cases h2:ts[k].k = 2
 ·have hp:¬ ts[k].k = 1:=by omega
  simp only [h2,decide_true,Bool.true_and,if_true]
  cases e:((decide (0≤outB Line.c ts k ts[k].c) != true) || (decide (0≤outB Line.t ts k ts[k].t) != true)) with
  | true=>simp
  | false =>
   refine ⟨by simp,fun _=>⟨⟨⟨by simp [h.ok.ch],by simp [h.ok.tk]⟩,fun j hj=>?_,fun j hj=>?_,?_⟩,?_⟩⟩
   ·simp only [Bool.false_eq_true,if_false]
    rw [hset _ _ _ _ h.ok.ch hj,outB_succ _ _ _ hk,h.ch j hj]
    by_cases ej:ts[k].c.toNat = j
    ·have:ts[k].c = (j:Int):=by omega
     simp [ej,this,h2]
    ·have:¬ ts[k].c = (j:Int):=by omega
     simp [ej,this]
   ·simp only [Bool.false_eq_true,if_false]
    rw [hset _ _ _ _ h.ok.tk hj,outB_succ _ _ _ hk,h.tk j hj]
    by_cases ej:ts[k].t.toNat = j
    ·have:ts[k].t = (j:Int):=by omega
     simp [ej,this,h2]
    ·have:¬ ts[k].t = (j:Int):=by omega
     simp [ej,this]
   ·simp only [Bool.false_eq_true,if_false]
    rw [moneyB_succ b ts k hk,if_neg hp,h.money]
   ·simp only [Bool.false_eq_true,if_false]
    cases decide (outB Line.c ts k ts[k].c = outB Line.t ts k ts[k].t) <;> simp
 ·have hp:ts[k].k = 1:=by omega
  have hd:decide (ts[k].k = 2) = false:=by simpa using h2
  simp only [hd,Bool.false_and,Bool.false_eq_true,if_false]
  cases e:((decide (0≤outB Line.c ts k ts[k].c) != false) || (decide (0≤outB Line.t ts k ts[k].t) != false)) with
  | true=>simp
  | false =>
   refine ⟨by simp,fun _=>⟨⟨⟨by simp [h.ok.ch],by simp [h.ok.tk]⟩,fun j hj=>?_,fun j hj=>?_,?_⟩,?_⟩⟩
   ·simp only [Bool.false_eq_true,if_false]
    rw [hset _ _ _ _ h.ok.ch hj,outB_succ _ _ _ hk,h.ch j hj]
    by_cases ej:ts[k].c.toNat = j
    ·have:ts[k].c = (j:Int):=by omega
     simp [ej,this,hp]
    ·have:¬ ts[k].c = (j:Int):=by omega
     simp [ej,this]
   ·simp only [Bool.false_eq_true,if_false]
    rw [hset _ _ _ _ h.ok.tk hj,outB_succ _ _ _ hk,h.tk j hj]
    by_cases ej:ts[k].t.toNat = j
    ·have:ts[k].t = (j:Int):=by omega
     simp [ej,this,hp]
    ·have:¬ ts[k].t = (j:Int):=by omega
     simp [ej,this]
   ·simp only [Bool.false_eq_true,if_false]
    rw [moneyB_succ b ts k hk,if_pos hp,h.money]
   ·simp
theorem same_begin (b:Book) (ts:List Line):Same b ts 0 (beginB b):=by
 refine ⟨begin_ok b,fun j hj=>?_,fun j hj=>?_,?_⟩
 ·have:j = 0∨j = 1∨j = 2∨j = 3:=by omega
  rcases this with rfl | rfl | rfl | rfl <;> simp [beginB,outB,outGo]
 ·have:j = 0∨j = 1∨j = 2∨j = 3:=by omega
  rcases this with rfl | rfl | rfl | rfl <;> simp [beginB,outB,outGo]
 ·simp [beginB,moneyB,moneyGo]
theorem go_spec {b:Book} {ts:List Line} (h1:1≤b.chairs) (h4:b.chairs≤4) (hok:b.lines.all (lineOk b.chairs) = true) (hlen:ts.length = b.lines.length):∀ (d k:Nat) (s:Scene),k + d = ts.length→Same b ts k s →
  ((readGo b.chairs (b.lines.drop k) (ts.drop k) && possGo ts k (ts.drop k)) = false→scenesGo b k s (b.lines.drop k) (ts.drop k) = none) ∧
  ((readGo b.chairs (b.lines.drop k) (ts.drop k) && possGo ts k (ts.drop k)) = true→∃ L,scenesGo b k s (b.lines.drop k) (ts.drop k) = some L∧L.map Scene.money = (List.range' (k + 1) d).map (moneyB b ts)∧lastM s.mixed L = mixGo ts k s.mixed (ts.drop k))
 | 0,k,s,hd,hs=>by
  have:k = ts.length:=by omega
  subst this
  have e:b.lines.drop ts.length = []:=by rw [hlen]; simp
  simp only [e,List.drop_length]
  refine ⟨fun h=>by simp [readGo,possGo] at h,fun _=>⟨[],rfl,rfl,by simp [lastM,mixGo]⟩⟩
 | d + 1,k,s,hd,hs=>by
  have hk:k < ts.length:=by omega
  have hk2:k < b.lines.length:=by omega
  have hlk:=List.all_eq_true.1 hok _ (List.getElem_mem hk2)
  rw [List.drop_eq_getElem_cons hk,List.drop_eq_getElem_cons hk2]
  simp only [readGo,possGo,scenesGo,mixGo]
  have ha:=agrees_eq h1 hlk ts[k]
  cases hr:readOne b.chairs b.lines[k] ts[k] with
  | false =>
   rw [hr] at ha
   simp [ha]
  | true =>
   rw [hr] at ha
   obtain ⟨r1,r2,r3⟩:=agreesP_ok h4 hlk ha
   obtain ⟨n1,n2⟩:=same_next hs hk r1 (by omega) (by omega)
   cases hp:possOne ts k ts[k] with
   | false =>
    rw [hp] at n1
    simp [ha,n1]
   | true =>
    rw [hp] at n1
    obtain ⟨m1,m2⟩:=n2 hp
    have hcx:((k:Nat):Int) = (k:Int):=rfl
    obtain ⟨i1,i2⟩:=go_spec h1 h4 hok hlen d (k + 1) _ (by omega) m1
    simp only [Bool.true_and,ha,n1,if_true]
    refine ⟨fun h=>?_,fun h=>?_⟩
    ·rw [i1 h]; rfl
    ·obtain ⟨L,q1,q2,q3⟩:=i2 h
     refine ⟨_,by rw [q1]; rfl,?_,?_⟩
     ·rw [List.map_cons,q2,m1.money,List.range'_succ]; rfl
     ·have:lastM s.mixed ((nextB b.coin s k ts[k]).1 :: L) = lastM (nextB b.coin s k ts[k]).1.mixed L:=by
       simp only [lastM,List.map_cons,List.getLast?_cons,Option.getD_some]
      rw [this,q3,m2]
theorem scenes_spec {b:Book} {ts:List Line} (hf:faultB b = 0) :
  ((isReadB b ts && isPossB ts) = false→scenesB b ts = none) ∧
  ((isReadB b ts && isPossB ts) = true→∃ L,scenesB b ts = some L∧L.map Scene.money = (List.range' 0 (ts.length + 1)).map (moneyB b ts)∧lastM 0 L = mixB ts):=by
 obtain ⟨h1,h4,_,_,_,_,_,_,hok,_,_⟩:=fault0 hf
 unfold scenesB isReadB isPossB mixB
 by_cases hlen:ts.length = b.lines.length
 ·obtain ⟨i1,i2⟩:=go_spec h1 h4 hok hlen ts.length 0 (beginB b) (by omega) (same_begin b ts)
  simp only [List.drop_zero] at i1 i2
  simp only [hlen,decide_true,Bool.true_and,if_true]
  refine ⟨fun h=>by rw [i1 h]; rfl,fun h=>?_⟩
  obtain ⟨L,q1,q2,q3⟩:=i2 h
  refine ⟨_,by rw [q1]; rfl,?_,?_⟩
  ·rw [List.map_cons,q2,(same_begin b ts).money,← hlen,List.range'_succ]; rfl
  ·have:lastM 0 (beginB b :: L) = lastM (beginB b).mixed L:=by
    simp only [lastM,List.map_cons,List.getLast?_cons,Option.getD_some]
   rw [this,q3]; rfl
 ·simp [hlen]
def allM (b:Book):Nat→Bool→List Int→Bool
 | _,v,[]=>v
 | k,v,m :: r=>allM b (k + 1) (v && b.counts.all (countOne m k)) r
theorem allC_M (b:Book):∀ (L:List Scene) (k:Nat) (v:Bool),allC b k v L = allM b k v (L.map Scene.money)
 | [],_,_=>rfl
 | s :: L,k,v=>by simp only [allC,List.map_cons,allM,allC_M b L]
theorem allM_iff (b:Book) (f:Nat→Int):∀ (d k:Nat) (v:Bool),allM b k v ((List.range' k d).map f) = true ↔ v = true∧∀ j,k≤j→j < k + d→b.counts.all (countOne (f j) j) = true
 | 0,k,v=>by
  simp only [List.range'_zero,List.map_nil,allM]
  exact ⟨fun h=>⟨h,fun j h1 h2=>by omega⟩,fun h=>h.1⟩
 | d + 1,k,v=>by
  simp only [List.range'_succ,List.map_cons,allM,allM_iff b f d,Bool.and_eq_true]
  refine ⟨fun ⟨⟨h1,h2⟩,h3⟩=>⟨h1,fun j j1 j2=>?_⟩,fun ⟨h1,h2⟩=>⟨⟨h1,h2 k (by omega) (by omega)⟩,fun j j1 j2=>h2 j (by omega) (by omega)⟩⟩
  by_cases e:j = k
  ·subst e; exact h2
  ·exact h3 j (by omega) (by omega)
theorem prove_eq (b:Book) (ts:List Line):proveB b ts = (decide (faultB b = 0) && fitsB b ts):=by
 unfold proveB
 rw [check_eq]
 by_cases hf:faultB b = 0
 ·simp only [hf,decide_true,Bool.true_and]
  obtain ⟨i1,i2⟩:=scenes_spec (ts:=ts) hf
  unfold fitsB
  rw [← Bool.and_assoc]
  cases h:(isReadB b ts && isPossB ts) with
  | false=>rw [i1 h]; simp
  | true =>
   obtain ⟨L,q1,q2,_⟩:=i2 h
   rw [q1]
   simp only [Bool.true_and]
   rw [allC_M,q2,Bool.eq_iff_iff,allM_iff]
   obtain ⟨_,_,_,_,_,_,_,_,_,hcok,_⟩:=fault0 hf
   have hl:ts.length = b.lines.length:=by
    simp only [isReadB,Bool.and_eq_true,decide_eq_true_eq] at h; exact h.1.1
   have hcs:∀ x ∈ b.counts,0≤x.a∧x.a≤ts.length:=by
    intro x hx
    have:=List.all_eq_true.1 hcok x hx
    simp only [countOk,inB,Bool.and_eq_true,decide_eq_true_eq] at this
    rw [hl]; exact this.1
   simp only [true_and,List.all_eq_true]
   refine ⟨fun h x hx=>?_,fun h j _ hj x hx=>?_⟩
   ·obtain ⟨a1,a2⟩:=hcs x hx
    have:=h x.a.toNat (by omega) (by omega) x hx
    have e:((x.a.toNat:Nat):Int) = x.a:=by omega
    rw [countOne,e] at this
    simpa [cntOne] using this
   ·unfold countOne
    by_cases e:x.a = (j:Int)
    ·have:=h x hx
     unfold cntOne at this
     rw [e] at this ⊢
     simpa using this
    ·simp [e]
 ·simp [hf]
theorem k20 (n:Nat) (d:Option Tmp) (st:XS):ca2 (envA Try.prog ann kn n) d st 20 [] = valI d st (some (.bool true)):=by
 rw [ca2_closed d rfl]; rfl
end Go.Proofs.Try.Op
