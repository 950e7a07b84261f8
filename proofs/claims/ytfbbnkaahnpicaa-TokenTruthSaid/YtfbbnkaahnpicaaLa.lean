/- The plain law: the truths that the program goes through are those of the reference. No condition. -/
import Derived.Test.YtfbbnkaahnpicaaT1
open Go Go.Pg Go.Proofs
namespace Go.Proofs.Try.Op
set_option maxRecDepth 100000
set_option linter.unusedSimpArgs false
/-! ### Readings -/
def tri (l:Line):Int × Int × Int:=(l.k,l.c,l.t)
theorem tri_map:∀ {x y:List Line},x.map tri = y.map tri→x = y
 | [],[],_=>rfl
 | [],_ :: _,h=>by simp at h
 | _ :: _,[],h=>by simp at h
 | a :: x,b :: y,h=>by
  simp only [List.map_cons,List.cons.injEq] at h
  obtain ⟨h1,h2⟩:=h
  obtain ⟨a1,a2,a3⟩:=a
  obtain ⟨b1,b2,b3⟩:=b
  simp only [tri,Prod.mk.injEq] at h1
  obtain ⟨rfl,rfl,rfl⟩:=h1
  rw [tri_map h2]
def eqOK:Bool:=[1,2,3,4].all fun C:Int=>[0,1,2].all fun k:Int=>[-1,0,1,2,3].all fun c:Int=>[-1,0,1,2,3].all fun t:Int =>
 !(lineOk C ⟨k,c,t⟩) || ((readings C ⟨k,c,t⟩).map tri == (readingsP C ⟨k,c,t⟩).map tri)
theorem eqOK_true:eqOK = true:=by decide +kernel
theorem readings_eq {C:Int} (h1:1≤C) (h4:C≤4) {l:Line} (h:lineOk C l = true):readings C l = readingsP C l:=by
 obtain ⟨k,c,t⟩:=l
 obtain ⟨v1,v2,v3⟩:=valL_spec h
 simp only at v1 v2 v3
 have q:=List.all_eq_true.1 (List.all_eq_true.1 (List.all_eq_true.1 (List.all_eq_true.1 eqOK_true C (mem4 h1 h4)) k (mem3 v1.1 v1.2)) c (mem5 v2.1 (by omega))) t (mem5 v3.1 (by omega))
 rw [h] at q
 exact tri_map (by simpa using q)
theorem agreesP_iff {C:Int} {l x:Line}:agreesP C l x = true ↔ x ∈ readingsP C l:=by
 unfold agreesP
 rw [List.any_eq_true]
 constructor
 ·rintro ⟨y,hy,he⟩; rw [eqL_iff] at he; rw [he]; exact hy
 ·intro hx; exact ⟨x,hx,eqL_iff.2 rfl⟩
def Rd (C:Int):List Line→List Line→Prop
 | [],[]=>True
 | l :: ls,x :: xs=>x ∈ readingsP C l∧Rd C ls xs
 | _,_=>False
theorem Rd.len {C:Int}:∀ {ls xs:List Line},Rd C ls xs→xs.length = ls.length
 | [],[],_=>rfl
 | [],_ :: _,h=>by cases h
 | _ :: _,[],h=>by cases h
 | _ :: ls,_ :: xs,h=>by simp [Rd.len h.2]
theorem rd_iff {C:Int} (h1:1≤C):∀ {ls xs:List Line},(∀ l ∈ ls,lineOk C l = true)→((xs.length = ls.length∧readGo C ls xs = true) ↔ Rd C ls xs)
 | [],[],_=>by simp [Rd,readGo]
 | [],_ :: _,_=>by simp [Rd]
 | _ :: _,[],_=>by simp [Rd]
 | l :: ls,x :: xs,h=>by
  have ih:=rd_iff h1 (ls:=ls) (xs:=xs) fun y hy=>h y (by simp [hy])
  have ha:=agrees_eq h1 (h l (by simp)) x
  simp only [Rd,readGo,List.length_cons,Nat.add_right_cancel_iff,Bool.and_eq_true,← ha,agreesP_iff,← ih]
  exact ⟨fun ⟨a,b,c⟩=>⟨b,a,c⟩,fun ⟨a,b,c⟩=>⟨b,a,c⟩⟩
theorem isRead_iff {b:Book} (h1:1≤b.chairs) (hok:b.lines.all (lineOk b.chairs) = true) {t:List Line}:isReadB b t = true ↔ Rd b.chairs b.lines t:=by
 rw [← rd_iff h1 (fun l hl=>List.all_eq_true.1 hok l hl)]
 simp [isReadB]
/-! ### Numbers of readings -/
def prodR (C:Int):List Line→Nat
 | []=>1
 | l :: r=>(readings C l).length * prodR C r
theorem nth_surj {C:Int} (h1:1≤C) (h4:C≤4):∀ {ls xs:List Line},(∀ l ∈ ls,lineOk C l = true)→Rd C ls xs→∃ n,n < prodR C ls∧nthGo C n ls = xs
 | [],[],_,_=>⟨0,by simp [prodR],rfl⟩
 | [],_ :: _,_,h=>by cases h
 | _ :: _,[],_,h=>by cases h
 | l :: ls,x :: xs,hl,h=>by
  obtain ⟨m,hm,e⟩:=nth_surj h1 h4 (ls:=ls) (xs:=xs) (fun y hy=>hl y (by simp [hy])) h.2
  have hr:=readings_eq h1 h4 (hl l (by simp))
  obtain ⟨j,hj,e2⟩:=List.getElem_of_mem h.1
  rw [← hr] at hj
  have hp:0 < (readings C l).length:=by omega
  refine ⟨j + (readings C l).length * m,?_,?_⟩
  ·simp only [prodR]
   calc j + (readings C l).length * m < (readings C l).length + (readings C l).length * m:=by omega
    _ = (readings C l).length * (m + 1):=by rw [Nat.mul_succ]; omega
    _≤_:=Nat.mul_le_mul_left _ hm
  ·simp only [nthGo]
   rw [Nat.add_mul_mod_self_left,Nat.mod_eq_of_lt hj,Nat.add_mul_div_left _ _ hp,Nat.div_eq_of_lt hj,Nat.zero_add,e]
   congr 1
   rw [List.getD_eq_getElem?_getD,List.getElem?_eq_getElem hj]
   simp only [Option.getD_some]
   rw [← e2]
   congr 1
theorem nth_rd {C:Int} (h1:1≤C) (h4:C≤4):∀ {ls:List Line} (n:Nat),(∀ l ∈ ls,lineOk C l = true)→Rd C ls (nthGo C n ls)
 | [],n,_=>trivial
 | l :: ls,n,h=>by
  refine ⟨?_,nth_rd h1 h4 _ fun y hy=>h y (by simp [hy])⟩
  have hr:=readings_eq h1 h4 (h l (by simp))
  have hp:=readings_pos h1 h4 (h l (by simp))
  have hj:n % (readings C l).length < (readings C l).length:=Nat.mod_lt _ hp
  rw [← hr,List.getD_eq_getElem?_getD,List.getElem?_eq_getElem hj]
  exact List.getElem_mem hj
theorem prod_pos {C:Int} (h1:1≤C) (h4:C≤4):∀ {ls:List Line},(∀ l ∈ ls,lineOk C l = true)→1≤prodR C ls
 | [],_=>by simp [prodR]
 | l :: ls,h=>by
  have i1:=prod_pos h1 h4 (ls:=ls) fun y hy=>h y (by simp [hy])
  have i2:=readings_pos h1 h4 (h l (by simp))
  exact Nat.mul_pos i2 i1
theorem many_prod {C:Int} (h1:1≤C) (h4:C≤4):∀ {ls:List Line} (v:Nat),(∀ l ∈ ls,lineOk C l = true)→1≤v→manyGo C v ls≤4096→manyGo C v ls = ((v * prodR C ls:Nat):Int)
 | [],v,_,_,_=>by simp [manyGo,prodR]
 | l :: ls,v,h,hv,hm=>by
  have i2:=readings_pos h1 h4 (h l (by simp))
  have hls:=fun y hy=>h y (List.mem_cons_of_mem l hy)
  have hpp:=prod_pos h1 h4 hls
  simp only [manyGo,List.foldl_cons] at hm ⊢
  by_cases hc:v * (readings C l).length < 5000
  ·have e:min5 ((v:Int) * ((readings C l).length:Int)) = ((v * (readings C l).length:Nat):Int):=by
    unfold min5; rw [if_pos (by exact_mod_cast hc)]; simp
   rw [e] at hm ⊢
   have:=many_prod h1 h4 (ls:=ls) (v * (readings C l).length) hls (Nat.mul_pos hv i2) hm
   simp only [manyGo] at this
   rw [this,prodR,Nat.mul_assoc]
  ·exfalso
   have e:min5 ((v:Int) * ((readings C l).length:Int)) = 5000:=by
    unfold min5
    rw [if_neg]
    intro hh
    exact hc (by exact_mod_cast hh)
   rw [e] at hm
   have key:∀ (ls:List Line),(∀ l ∈ ls,lineOk C l = true)→ls.foldl (fun n l=>min5 (n * ((readings C l).length:Int))) 5000 = 5000:=by
    intro ls
    induction ls with
    | nil=>intro _; rfl
    | cons a r ih =>
     intro hh
     have:=readings_pos h1 h4 (hh a (by simp))
     simp only [List.foldl_cons]
     have:min5 (5000 * ((readings C a).length:Int)) = 5000:=by unfold min5; split <;> omega
     rw [this]
     exact ih fun y hy=>hh y (by simp [hy])
   rw [key ls hls] at hm
   omega
theorem truthsR_mem {b:Book} (hf:faultB b = 0) {t:List Line}:t ∈ truthsR b ↔ fitsB b t = true:=by
 obtain ⟨h1,h4,hl8,hc4,hc1,hc2,hx1,hx2,hok,hcok,hm⟩:=fault0 hf
 have hls:=fun l hl=>List.all_eq_true.1 hok l hl
 have hN:=many_prod h1 h4 1 hls (Nat.le_refl _) hm
 simp only [Nat.one_mul] at hN
 have hN':manyGo b.chairs 1 b.lines = ((prodR b.chairs b.lines:Nat):Int):=hN
 unfold truthsR trGo fitsB truOne
 rw [hN',Int.toNat_natCast]
 simp only [List.mem_filter,List.mem_map,List.mem_range'_1,Bool.and_eq_true,isRead_iff h1 hok]
 constructor
 ·rintro ⟨⟨n,_,rfl⟩,h⟩
  exact ⟨nth_rd h1 h4 n hls,h⟩
 ·rintro ⟨h,h'⟩
  obtain ⟨n,hn,e⟩:=nth_surj h1 h4 hls h
  exact ⟨⟨n,⟨by omega,by omega⟩,e⟩,h'⟩
/-! ### The program's walk -/
theorem allC_v (b:Book):∀ (L:List Scene) (k:Nat) (v:Bool),allC b k v L = (v && allC b k true L)
 | [],k,v=>by simp [allC]
 | s :: L,k,v=>by
  simp only [allC,Bool.true_and]
  rw [allC_v b L (k + 1) (v && b.counts.all (countOne s.money k)),allC_v b L (k + 1) (b.counts.all (countOne s.money k)),Bool.and_assoc]
theorem dfs_mem (b:Book):∀ (d k:Nat) (s:Scene) (ls:List Line) (ss:List Scene) (p:List Line × List Scene),k + d = b.lines.length →
  (p ∈ dfsP b d k s ls ss ↔ ∃ r u,p = (ls ++ r,ss ++ u)∧r.length = d∧scenesGo b k s (b.lines.drop k) r = some u∧allC b k true (s :: u) = true)
 | 0,k,s,ls,ss,p,hd=>by
  have e:b.lines.drop k = []:=List.drop_eq_nil_of_le (by omega)
  simp only [dfsP,e]
  constructor
  ·intro h
   split at h
   ·rename_i hc
    simp only [List.mem_singleton] at h
    exact ⟨[],[],by simp [h],rfl,rfl,by simpa [allC] using hc⟩
   ·simp at h
  ·rintro ⟨r,u,rfl,hr,hs,hc⟩
   have:r = []:=List.eq_nil_of_length_eq_zero hr
   subst this
   have:u = []:=by simpa [scenesGo] using hs.symm
   subst this
   rw [if_pos (by simpa [allC] using hc)]
   simp
 | d + 1,k,s,ls,ss,p,hd=>by
  have hk:k < b.lines.length:=by omega
  simp only [dfsP,List.getElem?_eq_getElem hk,List.drop_eq_getElem_cons hk]
  constructor
  ·intro h
   split at h
   ·rename_i hc
    simp only [List.mem_flatMap] at h
    obtain ⟨x,hx,h⟩:=h
    split at h
    ·rename_i hn
     obtain ⟨r,u,rfl,hr,hs,hcs⟩:=(dfs_mem b d (k + 1) _ _ _ p (by omega)).1 h
     refine ⟨x :: r,(nextB b.coin s k x).1 :: u,by simp,by simp [hr],?_,?_⟩
     ·simp only [scenesGo,if_pos (agreesP_iff.2 hx),if_pos hn,hs]; rfl
     ·rw [allC,allC_v,hcs,Bool.true_and,hc]; rfl
    ·simp at h
   ·simp at h
  ·rintro ⟨r,u,rfl,hr,hs,hc⟩
   rw [allC,allC_v,Bool.true_and,Bool.and_eq_true] at hc
   rw [if_pos hc.1]
   cases r with
   | nil=>simp at hr
   | cons x r =>
    simp only [scenesGo] at hs
    split at hs
    ·rename_i ha
     split at hs
     ·rename_i hn
      rw [Option.map_eq_some_iff] at hs
      obtain ⟨u',hs,rfl⟩:=hs
      refine List.mem_flatMap.2 ⟨x,agreesP_iff.1 ha,?_⟩
      rw [if_pos hn]
      exact (dfs_mem b d (k + 1) _ _ _ _ (by omega)).2 ⟨r,u',by simp,by simpa using hr,hs,hc.2⟩
     ·cases hs
    ·cases hs
theorem truthsP_mem {b:Book} {t:List Line} {L:List Scene}:(t,L) ∈ truthsP b ↔ scenesB b t = some L∧allC b 0 true L = true:=by
 unfold truthsP
 rw [dfs_mem b _ _ _ _ _ _ (by omega)]
 unfold scenesB
 constructor
 ·rintro ⟨r,u,e,hr,hs,hc⟩
  simp only [List.nil_append,List.singleton_append,Prod.mk.injEq] at e
  obtain ⟨rfl,rfl⟩:=e
  simp only [List.drop_zero] at hs
  rw [if_pos hr,hs]
  exact ⟨rfl,hc⟩
 ·rintro ⟨hs,hc⟩
  split at hs
  ·rename_i hr
   rw [Option.map_eq_some_iff] at hs
   obtain ⟨u,hs,rfl⟩:=hs
   exact ⟨t,u,by simp,hr,by simpa using hs,hc⟩
  ·cases hs
theorem fits_iff {b:Book} (hf:faultB b = 0) {t:List Line}:fitsB b t = true ↔ ∃ L,(t,L) ∈ truthsP b:=by
 have h:=prove_eq b t
 rw [hf] at h
 simp only [decide_true,Bool.true_and] at h
 rw [← h]
 unfold proveB
 rw [check_eq,hf]
 simp only [decide_true,Bool.true_and,truthsP_mem]
 cases scenesB b t with
 | none=>simp
 | some L=>simp
theorem go_same {b:Book} {ts:List Line} (h4:b.chairs≤4) (hok:b.lines.all (lineOk b.chairs) = true) (hlen:ts.length = b.lines.length):∀ (d k:Nat) (s:Scene) (u:List Scene),k + d = ts.length→Same b ts k s→scenesGo b k s (b.lines.drop k) (ts.drop k) = some u →
  u.length = d∧∀ j (h:j < u.length),Same b ts (k + 1 + j) u[j]
 | 0,k,s,u,hd,hs,hu=>by
  have e:b.lines.drop k = []:=List.drop_eq_nil_of_le (by omega)
  rw [e] at hu
  have:u = []:=by simpa [scenesGo] using hu.symm
  subst this
  exact ⟨rfl,fun j h=>by simp at h⟩
 | d + 1,k,s,u,hd,hs,hu=>by
  have hk:k < ts.length:=by omega
  have hk2:k < b.lines.length:=by omega
  have hlk:=List.all_eq_true.1 hok _ (List.getElem_mem hk2)
  rw [List.drop_eq_getElem_cons hk,List.drop_eq_getElem_cons hk2] at hu
  simp only [scenesGo] at hu
  split at hu
  ·rename_i ha
   split at hu
   ·rename_i hn
    rw [Option.map_eq_some_iff] at hu
    obtain ⟨u',hu,rfl⟩:=hu
    obtain ⟨r1,r2,r3⟩:=agreesP_ok h4 hlk ha
    obtain ⟨n1,n2⟩:=same_next hs hk r1 (by omega) (by omega)
    rw [hn] at n1
    obtain ⟨m1,_⟩:=n2 n1.symm
    obtain ⟨i1,i2⟩:=go_same h4 hok hlen d (k + 1) _ u' (by omega) m1 hu
    refine ⟨by simp [i1],fun j h=>?_⟩
    cases j with
    | zero=>simpa using m1
    | succ j =>
     have:=i2 j (by simpa using h)
     rw [show k + 1 + (j + 1) = k + 1 + 1 + j by omega]
     simpa using this
   ·cases hu
  ·cases hu
theorem corr {b:Book} (hf:faultB b = 0) {t:List Line} {L:List Scene} (h:(t,L) ∈ truthsP b):fitsB b t = true∧t.length = b.lines.length∧L.length = b.lines.length + 1∧(∀ k,k≤b.lines.length→Same b t k (L.getD k scene0))∧(L.getD b.lines.length scene0).mixed = mixB t:=by
 have hfit:fitsB b t = true:=(fits_iff hf).2 ⟨L,h⟩
 obtain ⟨h1,h4,hl8,hc4,hc1,hc2,hx1,hx2,hok,hcok,hm⟩:=fault0 hf
 obtain ⟨hs,hc⟩:=truthsP_mem.1 h
 have hs0:=hs
 unfold scenesB at hs
 split at hs
 ·rename_i hlen
  rw [Option.map_eq_some_iff] at hs
  obtain ⟨u,hu,rfl⟩:=hs
  obtain ⟨i1,i2⟩:=go_same h4 hok hlen t.length 0 (beginB b) u (by omega) (same_begin b t) (by simpa using hu)
  refine ⟨hfit,hlen,by simp [i1,hlen],fun k hk=>?_,?_⟩
  ·cases k with
   | zero=>exact same_begin b t
   | succ k =>
    have hk':k < u.length:=by omega
    have:=i2 k hk'
    rw [show 0 + 1 + k = k + 1 by omega] at this
    simpa [List.getD_eq_getElem?_getD,hk'] using this
  ·obtain ⟨_,j2⟩:=scenes_spec (ts:=t) hf
   have hrp:(isReadB b t && isPossB t) = true:=by
    simp only [fitsB,Bool.and_eq_true] at hfit
    simp [hfit.1,hfit.2.1]
   obtain ⟨L',e1,e2,e3⟩:=j2 hrp
   rw [hs0] at e1
   cases e1
   rw [← e3]
   simp only [lastM,List.map_cons,List.getLast?_eq_getElem?,List.length_cons,List.length_map]
   have:b.lines.length = u.length:=by omega
   rw [this,List.getD_eq_getElem?_getD]
   simp
   cases u with
   | nil=>rfl
   | cons a u =>
    show _ = ((a :: u).map Scene.mixed)[u.length]'(by simp)
    rw [List.getElem_map]
    rfl
 ·cases hs
theorem ends_dfs (b:Book):∀ (d k:Nat) (s:Scene) (ls:List Line) (ss:List Scene),endsP b d k s = true ↔ dfsP b d k s ls ss ≠ []
 | 0,k,s,ls,ss=>by
  simp only [endsP,dfsP]
  split <;> simp_all
 | d + 1,k,s,ls,ss=>by
  simp only [endsP,dfsP]
  cases hc:b.counts.all (countOne s.money k) with
  | false=>simp
  | true =>
   simp only [Bool.true_and,if_true]
   cases b.lines[k]? with
   | none=>simp
   | some l =>
    simp only [List.any_eq_true,Bool.and_eq_true,ne_eq,List.flatMap_eq_nil_iff]
    constructor
    ·rintro ⟨x,hx,hn,he⟩ hh
     have:=hh x hx
     rw [if_pos hn] at this
     exact (ends_dfs b d (k + 1) _ _ _).1 he this
    ·intro hh
     rw [Classical.not_forall] at hh
     obtain ⟨x,hh⟩:=hh
     rw [Classical.not_imp] at hh
     obtain ⟨hx,hh⟩:=hh
     split at hh
     ·rename_i hn
      exact ⟨x,hx,hn,(ends_dfs b d (k + 1) _ _ _).2 hh⟩
     ·exact absurd rfl hh
theorem poss_iff (b:Book):possP b = true ↔ truthsP b ≠ []:=ends_dfs b _ _ _ _ _
theorem poss_R {b:Book} (hf:faultB b = 0):possP b = true ↔ truthsR b ≠ []:=by
 rw [poss_iff]
 constructor
 ·intro h
  obtain ⟨⟨t,L⟩,hp⟩:=List.exists_mem_of_ne_nil _ h
  exact List.ne_nil_of_mem ((truthsR_mem hf).2 ((fits_iff hf).2 ⟨L,hp⟩))
 ·intro h
  obtain ⟨t,ht⟩:=List.exists_mem_of_ne_nil _ h
  obtain ⟨L,hL⟩:=(fits_iff hf).1 ((truthsR_mem hf).1 ht)
  exact List.ne_nil_of_mem hL
theorem wrap1_nat {n:Nat} (h:n < 4611686018427387904):wrap1 (n:Int) = ((n + 1:Nat):Int):=by
 unfold wrap1
 rw [wrap_i64 (by omega) (by omega)]
 rfl
theorem incGo_range (q:Scene→Nat→Bool) (s:Scene) (f:Nat→Int):∀ (C j:Nat),incGo q s j ((List.range' j C).map f) = (List.range' j C).map fun j=>if q s j = true then wrap1 (f j) else f j
 | 0,j=>rfl
 | C + 1,j=>by
  simp only [List.range'_succ,List.map_cons,incGo,incGo_range q s f C (j + 1)]
def Eqv (s s':Scene):Prop:=s.ch = s'.ch∧s.tk = s'.tk
theorem run_stepV (q:Scene→Nat→Bool) (C k:Nat):∀ (l:List (List Line × List Scene)) (K:List Scene) (a:VA),a.ys = (List.range' 0 C).map (fun j=>((K.countP fun s=>q s j:Nat):Int))→a.many = K.length→K.length + l.length < 4611686018427387904→(0 < a.many→∃ s ∈ K,Eqv a.last s) →
  ∃ K':List Scene,(runT (fun a _ ss=>stepV q (ss.getD k scene0) a) a l).ys = (List.range' 0 C).map (fun j=>((K'.countP fun s=>q s j:Nat):Int))∧(runT (fun a _ ss=>stepV q (ss.getD k scene0) a) a l).many = K'.length∧(∀ s ∈ K',s ∈ K∨∃ p ∈ l,s = p.2.getD k scene0)∧(∀ s ∈ K,s ∈ K')∧(∀ p ∈ l,∃ s ∈ K',Eqv (p.2.getD k scene0) s)
 | [],K,a,h1,h2,h3,h4=>⟨K,h1,h2,fun s hs=>.inl hs,fun s hs=>hs,fun p hp=>by simp at hp⟩
 | p :: l,K,a,h1,h2,h3,h4=>by
  have hr:runT (fun a _ ss=>stepV q (ss.getD k scene0) a) a (p :: l) = runT (fun a _ ss=>stepV q (ss.getD k scene0) a) (stepV q (p.2.getD k scene0) a) l:=rfl
  rw [hr]
  generalize hs:p.2.getD k scene0 = s
  simp only [List.length_cons] at h3
  unfold stepV
  by_cases hd:0 < a.many∧s.ch = a.last.ch∧s.tk = a.last.tk
  ·rw [if_pos hd]
   obtain ⟨K',i1,i2,i3,i4,i5⟩:=run_stepV q C k l K a h1 h2 (by omega) h4
   refine ⟨K',i1,i2,fun x hx=>?_,i4,fun x hx=>?_⟩
   ·rcases i3 x hx with h | ⟨y,hy,e⟩
    ·exact .inl h
    ·exact .inr ⟨y,by simp [hy],e⟩
   ·rcases List.mem_cons.1 hx with rfl | hx
    ·obtain ⟨y,hy,e⟩:=h4 hd.1
     exact ⟨y,i4 y hy,by rw [hs]; exact ⟨hd.2.1.trans e.1,hd.2.2.trans e.2⟩⟩
    ·exact i5 x hx
  ·rw [if_neg hd]
   obtain ⟨K',i1,i2,i3,i4,i5⟩:=run_stepV q C k l (K ++ [s]) ⟨incGo q s 0 a.ys,wrap1 a.many,s⟩ (by
    simp only [h1,incGo_range]
    refine List.map_congr_left fun j hj=>?_
    rw [List.countP_append]
    have hle:=List.countP_le_length (p:=fun s=>q s j) (l:=K)
    cases hq:q s j with
    | true=>rw [if_pos rfl,wrap1_nat (by omega)]; simp [hq]
    | false=>simp [hq]) (by rw [h2,wrap1_nat (by omega)]; simp) (by simp; omega) (fun _=>⟨s,by simp,⟨rfl,rfl⟩⟩)
   refine ⟨K',i1,i2,fun x hx=>?_,fun x hx=>i4 x (by simp [hx]),fun x hx=>?_⟩
   ·rcases i3 x hx with h | ⟨y,hy,e⟩
    ·rcases List.mem_append.1 h with h | h
     ·exact .inl h
     ·exact .inr ⟨p,by simp,by rw [hs]; simpa using h⟩
    ·exact .inr ⟨y,by simp [hy],e⟩
   ·rcases List.mem_cons.1 hx with rfl | hx
    ·exact ⟨s,i4 s (by simp),by rw [hs]; exact ⟨rfl,rfl⟩⟩
    ·exact i5 x hx
theorem dfs_len (b:Book) (h4:b.chairs≤4):∀ (d k:Nat) (s:Scene) (ls:List Line) (ss:List Scene),(dfsP b d k s ls ss).length≤32 ^ d
 | 0,k,s,ls,ss=>by simp only [dfsP]; split <;> simp
 | d + 1,k,s,ls,ss=>by
  simp only [dfsP]
  split
  ·split
   ·rename_i l _
    have key:∀ (R:List Line),(R.flatMap fun x=>if (nextB b.coin s k x).2 = true then dfsP b d (k + 1) (nextB b.coin s k x).1 (ls ++ [x]) (ss ++ [(nextB b.coin s k x).1]) else []).length≤R.length * 32 ^ d:=by
     intro R
     induction R with
     | nil=>simp
     | cons x R ih =>
      simp only [List.flatMap_cons,List.length_append,List.length_cons,Nat.succ_mul]
      have:(if (nextB b.coin s k x).2 = true then dfsP b d (k + 1) (nextB b.coin s k x).1 (ls ++ [x]) (ss ++ [(nextB b.coin s k x).1]) else []).length≤32 ^ d:=by
       split
       ·exact dfs_len b h4 d _ _ _ _
       ·simp
      omega
    have:=key (readingsP b.chairs l)
    have hr:=readingsP_len b.chairs l h4
    calc _≤_:=this
     _≤32 * 32 ^ d:=Nat.mul_le_mul_right _ hr
     _ = _:=by rw [Nat.pow_succ,Nat.mul_comm]
   ·simp
  ·simp
theorem truthsP_len {b:Book} (h4:b.chairs≤4) (hl:b.lines.length≤8):(truthsP b).length < 4611686018427387904:=by
 have:=dfs_len b h4 b.lines.length 0 (beginB b) [] [beginB b]
 have h2:32 ^ b.lines.length≤32 ^ 8:=Nat.pow_le_pow_right (by omega) hl
 have:(truthsP b).length≤32 ^ b.lines.length:=this
 have h3:(32:Nat) ^ 8 < 4611686018427387904:=by decide
 omega
theorem verd_congr {m y m' y':Nat} (h1:y = m ↔ y' = m') (h2:y = 0 ↔ y' = 0):verd m y = verd m' y':=by
 unfold verd
 have e1:((y:Int) = (m:Int)) = ((y':Int) = (m':Int)):=by apply propext; constructor <;> intro h <;> (have:=h1; omega)
 have e2:((y:Int) = 0) = ((y':Int) = 0):=by apply propext; constructor <;> intro h <;> (have:=h2; omega)
 simp only [e1,e2]
theorem count_all {α:Type} {p:α→Bool} {l:List α}:l.countP p = l.length ↔ ∀ x ∈ l,p x = true:=List.countP_eq_length
theorem count_none {α:Type} {p:α→Bool} {l:List α}:l.countP p = 0 ↔ ∀ x ∈ l,p x = false:=by
 rw [List.countP_eq_zero]
 simp
theorem verds_eq {b:Book} (hf:faultB b = 0) {k:Nat} (hk:k≤b.lines.length) (q:Scene→Nat→Bool) (sel:Line→Int) (hq:∀ s s' j,Eqv s s'→q s j = q s' j)
  (hs:∀ t s j,j < 4→Same b t k s→k≤t.length→q s j = decide (0≤outB sel t k (j:Nat))) :
  verdsP b q k = (List.range' 0 b.chairs.toNat).map fun j=>verd ((truthsR b).length:Nat) (outN sel (truthsR b) k (j:Nat)):=by
 obtain ⟨h1,h4,hl8,_⟩:=fault0 hf
 obtain ⟨K,i1,i2,i3,_,i5⟩:=run_stepV q b.chairs.toNat k (truthsP b) [] ⟨List.replicate b.chairs.toNat 0,0,scene0⟩ (by simp [List.map_const']) rfl (by simpa using truthsP_len h4 hl8) (by simp)
 unfold verdsP
 simp only
 rw [i1,i2,List.map_map]
 refine List.map_congr_left fun j hj=>?_
 have hj4:j < 4:=by simp at hj; omega
 simp only [Function.comp]
 have a1:∀ v:Bool,(∀ s ∈ K,q s j = v) ↔ ∀ t ∈ truthsR b,decide (0≤outB sel t k (j:Nat)) = v:=by
  intro v
  constructor
  ·intro h t ht
   obtain ⟨L,hL⟩:=(fits_iff hf).1 ((truthsR_mem hf).1 ht)
   obtain ⟨_,c2,_,c4,_⟩:=corr hf hL
   obtain ⟨s,hs',e⟩:=i5 _ hL
   rw [← hs t _ j hj4 (c4 k hk) (by omega),hq _ _ j e]
   exact h s hs'
  ·intro h s hs'
   rcases i3 s hs' with hh | ⟨⟨t,L⟩,hL,rfl⟩
   ·simp at hh
   ·obtain ⟨c1,c2,_,c4,_⟩:=corr hf hL
    rw [hs t _ j hj4 (c4 k hk) (by omega)]
    exact h t ((truthsR_mem hf).2 c1)
 refine verd_congr ?_ ?_
 ·rw [count_all,outN,count_all]
  exact a1 true
 ·rw [count_none,outN,count_none]
  exact a1 false
theorem chP_same {b:Book} {t:List Line} {k:Nat} {s:Scene} {j:Nat} (hj:j < 4) (h:Same b t k s) (hk:k≤t.length):chP s j = decide (0≤outB Line.c t k (j:Nat)):=by
 have:=outB_ge Line.c t (j:Nat) k hk
 unfold chP
 rw [h.ch j hj,Bool.eq_iff_iff]
 simp
 omega
theorem tkP_same {b:Book} {t:List Line} {k:Nat} {s:Scene} {j:Nat} (hj:j < 4) (h:Same b t k s) (hk:k≤t.length):tkP s j = decide (0≤outB Line.t t k (j:Nat)):=by
 have:=outB_ge Line.t t (j:Nat) k hk
 unfold tkP
 rw [h.tk j hj,Bool.eq_iff_iff]
 simp
 omega
theorem verdsC {b:Book} (hf:faultB b = 0) {k:Nat} (hk:k≤b.lines.length):verdsP b chP k = (List.range' 0 b.chairs.toNat).map fun j=>verd ((truthsR b).length:Nat) (outN Line.c (truthsR b) k (j:Nat)) :=
 verds_eq hf hk chP Line.c (fun s s' j e=>by unfold chP; rw [e.1]) fun t s j hj h hk=>chP_same hj h hk
theorem verdsT {b:Book} (hf:faultB b = 0) {k:Nat} (hk:k≤b.lines.length):verdsP b tkP k = (List.range' 0 b.chairs.toNat).map fun j=>verd ((truthsR b).length:Nat) (outN Line.t (truthsR b) k (j:Nat)) :=
 verds_eq hf hk tkP Line.t (fun s s' j e=>by unfold tkP; rw [e.2]) fun t s j hj h hk=>tkP_same hj h hk
/-! ### Bounds -/
theorem run_widen (f:List Scene→Int):∀ (l:List (List Line × List Scene)) (lo hi:Int),lo≤hi→∃ lo' hi',runT (fun a _ ss=>widen a (f ss)) (some (lo,hi)) l = some (lo',hi')∧lo'≤lo∧hi≤hi'∧(∀ p ∈ l,lo'≤f p.2∧f p.2≤hi')∧(lo' = lo∨∃ p ∈ l,f p.2 = lo')∧(hi' = hi∨∃ p ∈ l,f p.2 = hi')
 | [],lo,hi,_=>⟨lo,hi,rfl,by omega,by omega,fun p hp=>by simp at hp,.inl rfl,.inl rfl⟩
 | p :: l,lo,hi,h=>by
  obtain ⟨lo',hi',e,i1,i2,i3,i4,i5⟩:=run_widen f l (minI lo (f p.2)) (maxI hi (f p.2)) (by unfold minI maxI; split <;> split <;> omega)
  have m1:minI lo (f p.2)≤lo∧minI lo (f p.2)≤f p.2∧(minI lo (f p.2) = lo∨minI lo (f p.2) = f p.2):=by unfold minI; split <;> omega
  have m2:hi≤maxI hi (f p.2)∧f p.2≤maxI hi (f p.2)∧(maxI hi (f p.2) = hi∨maxI hi (f p.2) = f p.2):=by unfold maxI; split <;> omega
  refine ⟨lo',hi',e,by omega,by omega,fun x hx=>?_,?_,?_⟩
  ·rcases List.mem_cons.1 hx with rfl | hx
   ·omega
   ·exact i3 x hx
  ·rcases i4 with h | ⟨x,hx,e⟩
   ·rcases m1.2.2 with h' | h'
    ·exact .inl (by omega)
    ·exact .inr ⟨p,by simp,by omega⟩
   ·exact .inr ⟨x,by simp [hx],e⟩
  ·rcases i5 with h | ⟨x,hx,e⟩
   ·rcases m2.2.2 with h' | h'
    ·exact .inl (by omega)
    ·exact .inr ⟨p,by simp,by omega⟩
   ·exact .inr ⟨x,by simp [hx],e⟩
structure BoundsOf {α:Type} (l:List α) (f:α→Int) (r:Int × Int):Prop where
 all:∀ x ∈ l,r.1≤f x∧f x≤r.2
 lo:∃ x ∈ l,f x = r.1
 hi:∃ x ∈ l,f x = r.2
theorem BoundsOf.uniq {α β:Type} {l:List α} {m:List β} {f:α→Int} {g:β→Int} {r r':Int × Int} (h:BoundsOf l f r) (h':BoundsOf m g r') (e:∀ v,(∃ x ∈ l,f x = v) ↔ ∃ y ∈ m,g y = v):r = r':=by
 obtain ⟨lo,hi⟩:=r
 obtain ⟨lo',hi'⟩:=r'
 obtain ⟨y1,hy1,e1⟩:=(e _).1 h.lo
 obtain ⟨y2,hy2,e2⟩:=(e _).1 h.hi
 obtain ⟨x1,hx1,e3⟩:=(e _).2 h'.lo
 obtain ⟨x2,hx2,e4⟩:=(e _).2 h'.hi
 have a1:=h'.all _ hy1
 have a2:=h'.all _ hy2
 have a3:=h.all _ hx1
 have a4:=h.all _ hx2
 simp only at *
 have q1:lo = lo':=by omega
 have q2:hi = hi':=by omega
 rw [q1,q2]
theorem boundsP_of {b:Book} (φ:Scene→Int) (k:Nat) (h:truthsP b ≠ []):BoundsOf (truthsP b) (fun p=>φ (p.2.getD k scene0)) (boundsP b φ k):=by
 unfold boundsP
 cases hT:truthsP b with
 | nil=>exact absurd hT h
 | cons p l =>
  have hr:runT (fun a _ ss=>widen a (φ (ss.getD k scene0))) none (p :: l) = runT (fun a _ ss=>widen a (φ (ss.getD k scene0))) (some (φ (p.2.getD k scene0),φ (p.2.getD k scene0))) l:=rfl
  rw [hr]
  obtain ⟨lo',hi',e,i1,i2,i3,i4,i5⟩:=run_widen (fun ss=>φ (ss.getD k scene0)) l (φ (p.2.getD k scene0)) (φ (p.2.getD k scene0)) (Int.le_refl _)
  rw [e]
  simp only [Option.getD_some]
  refine ⟨fun x hx=>?_,?_,?_⟩
  ·rcases List.mem_cons.1 hx with rfl | hx
   ·exact ⟨i1,i2⟩
   ·exact i3 x hx
  ·rcases i4 with h | ⟨x,hx,e⟩
   ·exact ⟨p,by simp,h.symm⟩
   ·exact ⟨x,by simp [hx],e⟩
  ·rcases i5 with h | ⟨x,hx,e⟩
   ·exact ⟨p,by simp,h.symm⟩
   ·exact ⟨x,by simp [hx],e⟩
theorem boundsM {b:Book} (hf:faultB b = 0) {k:Nat} (hk:k≤b.lines.length) (h:truthsR b ≠ []):BoundsOf (truthsR b) (fun t=>moneyB b t k) (boundsP b Scene.money k):=by
 have h':=(poss_iff b).1 ((poss_R hf).2 h)
 obtain ⟨i1,⟨⟨t2,L2⟩,hp2,e2⟩,⟨⟨t3,L3⟩,hp3,e3⟩⟩:=boundsP_of (b:=b) Scene.money k h'
 have key:∀ {t L},(t,L) ∈ truthsP b→(L.getD k scene0).money = moneyB b t k:=fun hL=>((corr hf hL).2.2.2.1 k hk).money
 refine ⟨fun t ht=>?_,⟨t2,(truthsR_mem hf).2 (corr hf hp2).1,by rw [← e2]; exact (key hp2).symm⟩,⟨t3,(truthsR_mem hf).2 (corr hf hp3).1,by rw [← e3]; exact (key hp3).symm⟩⟩
 obtain ⟨L,hL⟩:=(fits_iff hf).1 ((truthsR_mem hf).1 ht)
 have:=i1 _ hL
 rw [key hL] at this
 exact this
theorem boundsX {b:Book} (hf:faultB b = 0) (h:truthsR b ≠ []):BoundsOf (truthsR b) mixB (boundsP b Scene.mixed b.lines.length):=by
 have h':=(poss_iff b).1 ((poss_R hf).2 h)
 obtain ⟨i1,⟨⟨t2,L2⟩,hp2,e2⟩,⟨⟨t3,L3⟩,hp3,e3⟩⟩:=boundsP_of (b:=b) Scene.mixed b.lines.length h'
 have key:∀ {t L},(t,L) ∈ truthsP b→(L.getD b.lines.length scene0).mixed = mixB t:=fun hL=>(corr hf hL).2.2.2.2
 refine ⟨fun t ht=>?_,⟨t2,(truthsR_mem hf).2 (corr hf hp2).1,by rw [← e2]; exact (key hp2).symm⟩,⟨t3,(truthsR_mem hf).2 (corr hf hp3).1,by rw [← e3]; exact (key hp3).symm⟩⟩
 obtain ⟨L,hL⟩:=(fits_iff hf).1 ((truthsR_mem hf).1 ht)
 have:=i1 _ hL
 rw [key hL] at this
 exact this
end Go.Proofs.Try.Op
