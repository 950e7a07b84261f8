/- The walk of WindBest. No condition. -/
import Derived.Test.YtkemmiljbaneoaaGreatJ2
import Derived.Test.YtkemmiljbaneoaaGreatJ1
import Derived.Test.YtkemmiljbaneoaaGreatV1
import Derived.Test.YtkemmiljbaneoaaGreatFz
open Go Go.Pg Go.Proofs Go.Wind
namespace Go.Proofs.Tryz.Op
set_option maxRecDepth 100000
set_option linter.unusedSimpArgs false
theorem thin_lensB {b:Beach} (h:thinB b = true):b.face.length≤100∧b.sun.length≤100∧b.winds.length≤100∧(∀ l ∈ b.winds,l.length≤40)∧b.breaks.length≤100∧b.notes.length≤100:=by
 simp only [thinB,Bool.and_eq_true,Bool.not_eq_true',Bool.or_eq_false_iff,Bool.not_eq_false',decide_eq_false_iff_not] at h
 obtain ⟨⟨⟨⟨⟨h1,h2⟩,h3⟩,h4⟩,h5⟩,_⟩:=h
 obtain ⟨h6,h7⟩:=brief_len h3
 exact ⟨by omega,by omega,by omega,fun l hl=>by have:=h7 l hl; omega,by omega,by omega⟩
theorem truths_nilB {b:Beach}:truthsR b = [] ↔ dfsW b [] b.winds [] = []:=by
 constructor
 ·intro h
  refine List.eq_nil_iff_forall_not_mem.2 fun t ht=>?_
  have:=mem_truths.2 ((mem_dfs b t).1 ht)
  rw [h] at this
  cases this
 ·intro h
  refine List.eq_nil_iff_forall_not_mem.2 fun t ht=>?_
  have:=(mem_dfs b t).2 (mem_truths.1 ht)
  rw [h] at this
  cases this
theorem prove_bad {b:Beach} {pl:List (List Int)} {most total:Int} (h:¬ (totalV b pl).2 = 0):proveV b pl most total = false:=by
 unfold proveV
 rw [decide_eq_false h,Bool.false_and]
set_option maxHeartbeats 8000000 in
theorem kBestL (n:Nat) (b:Beach) (_:okB b) (work:Int) (_:okI work) (pl:List (List Int)) (_:∀ x ∈ pl,∀ n ∈ x,okI n) (total:Int) (_:okI total):call0 Tryz.prog (execA Tryz.prog ann kn (n+31000)) 5 [.agg (cellsB b),i work,lli pl,i total] = some (.bool true):=by
 rw [call0_eq Tryz.func5 b5 rfl (by simp [cellsB,encI,encL,encP])]
 have qT:=fun n=>kThin n b
 have qb:=fun n=>kBrief n pl
 cases hT:thinB b with
 | false =>
  rw [hT] at qT
  simp only [cellsB] at qT ⊢
  simp [c5,argFr,qT,encI,encL,encP,plK,kAwakeX]
 | true =>
 rw [hT] at qT
 cases hP:briefB pl with
 | false =>
  rw [hP] at qb
  simp only [cellsB] at qT ⊢
  simp [c5,argFr,qT,qb,encI,encL,encP,plK,kAwakeX]
 | true =>
 rw [hP] at qb
 obtain ⟨l1,l2,l3,l4,l5,l6⟩:=thin_lensB hT
 obtain ⟨p1,p2⟩:=brief_len hP
 have l100:∀ l ∈ b.winds,l.length≤100:=fun l hl=>by have:=l4 l hl; omega
 have qB:=fun n=>kBeach n b l1 l2 l3 l100 l5 l6
 have qL:=fun n=>kLists n pl (by omega) fun l hl=>by have:=p2 l hl; omega
 have qBe:=fun n=>kBest n b l4 work
 have qPr:=fun n=>kProveTotal n b l4 pl work total
 have qsu:=fun n=>kSure n b l100
 have qf:=fun n=>kfault n b l100
 have slnil:sl ([]:List (List V)) = .nil:=rfl
 unfold bestVV at qBe
 unfold sureV at qsu
 by_cases h0:faultB b = 0
 ·have hb:=valid_of h0
  have hla:=hb.la
  have hro:=hb.ro
  have hwi:=hb.wi
  rw [if_pos h0] at qBe qsu
  rw [h0] at qf
  have qPs:=fun n=>kPlans n hb
  have qM:=fun n=>kMany n b hb
  by_cases hk:plansN (b.rows.toNat * (b.last + 1).toNat)≤256
  ·have hk':¬ (256:Int) < plansN (b.rows.toNat * (b.last + 1).toNat):=by omega
   by_cases hm:(20:Int) < (manyN b.winds:Int)
   ·generalize plansN (b.rows.toNat * (b.last + 1).toNat) = X at *
    generalize manyN b.winds = Y at *
    simp only [cellsB] at qT qf qPs qM ⊢
    simp [c5,argFr,qT,qb,qf,qPs,qM,hk',hm,encI,encL,encP,plK,kAwakeX]
   ·have qip:=fun n=>kIsPlanR n b hb pl (by omega)
    have qin:=fun n=>kIn n work 0 99
    by_cases hT0:truthsR b = []
    ·rw [if_pos hT0,hT0] at qsu
     rw [prove_bad (by
      unfold totalV
      rw [if_pos h0]
      split
      ·rw [if_pos (by rw [truths_nilB.1 hT0]; rfl)]; decide
      ·decide)] at qPr
     generalize plansN (b.rows.toNat * (b.last + 1).toNat) = X at *
     generalize manyN b.winds = Y at *
     cases hz:inI work 0 99 with
     | false =>
      rw [hz] at qin
      rw [hz,if_neg (by decide)] at qBe
      simp only [cellsB,cellsR,List.map_nil,slnil] at qT qB qBe qPr qsu qf qPs qM ⊢
      simp [c5,argFr,qT,qb,qB,qL,qBe,qPr,qsu,qf,qPs,qM,qin,hk',hm,encI,encL,encP,plK,kAwakeX]
     | true =>
      rw [hz] at qin
      rw [hz,if_pos rfl,if_pos (by rw [truths_nilB.1 hT0]; rfl)] at qBe
      simp only [cellsB,cellsR,List.map_nil,slnil] at qT qB qBe qPr qsu qf qPs qM ⊢
      simp [c5,argFr,qT,qb,qB,qL,qBe,qPr,qsu,qf,qPs,qM,qin,hk',hm,encI,encL,encP,plK,kAwakeX]
    ·have hE:dfsW b [] b.winds [] ≠ []:=fun e=>hT0 (truths_nilB.2 e)
     have ha:=asked_dfs hb hE
     have hTl:(truthsR b).length≤1100:=by
      have h1:=hb.many
      have h2:(truthsR b).length≤((List.range (manyN b.winds)).map (nthGo b.winds)).length:=List.length_filter_le _ _
      rw [List.length_map,List.length_range] at h2
      omega
     have hTt:∀ t ∈ truthsR b,listedGo t b.winds = true:=fun t ht=>truth_listed ht
     rw [if_neg hT0] at qsu
     simp only at qsu
     rw [slX hT0] at qsu
     cases hz:inI work 0 99 with
     | false =>
      rw [hz] at qin
      rw [hz,if_neg (by decide)] at qBe
      cases hp:isPlanB b pl with
      | false =>
       rw [hp] at qip
       rw [prove_bad (by
        unfold totalV
        rw [if_pos h0,if_neg (by rw [hp]; decide)]
        decide)] at qPr
       generalize plansN (b.rows.toNat * (b.last + 1).toNat) = X at *
       generalize manyN b.winds = Y at *
       generalize truthsR b = T at *
       simp only [cellsB,cellsR,List.map_nil,slnil] at qT qB qBe qPr qsu qf qPs qM qip ⊢
       simp [c5,argFr,qT,qb,qB,qL,qBe,qPr,qsu,qf,qPs,qM,qin,qip,hk',hm,encI,encL,encP,plK,kAwakeX]
      | true =>
       rw [hp] at qip
       have hpo:=plan_of hp
       have qWr:=fun n=>kWorkR n hb hpo
       rw [← work_eq hb hpo] at qWr
       have qTr:=fun n=>kTotalR n hb hpo (truthsR b) hTt hTl
       change ∀ n,_ = some (V.agg (encR (refTotal b pl))) at qTr
       rw [refTotal_eq hb ha hpo] at qTr
       have hpv:proveV b pl work total = (decide (workP b pl≤work) && decide (total≤(totalP b (windsA b) pl).1)):=by
        unfold proveV
        rw [totalV_ok hb hp hE]
        rfl
       rw [hpv] at qPr
       generalize plansN (b.rows.toNat * (b.last + 1).toNat) = X at *
       generalize manyN b.winds = Y at *
       generalize totalP b (windsA b) pl = R at *
       generalize workP b pl = W at *
       generalize truthsR b = T at *
       simp only [cellsB,cellsR,encR,List.map_nil,slnil] at qT qB qBe qPr qsu qf qPs qM qip qWr qTr ⊢
       by_cases c1:W≤work <;> by_cases c2:total≤R.1 <;> (simp [c1,c2] at qPr; simp [c5,argFr,qT,qb,qB,qL,qBe,qPr,qsu,qf,qPs,qM,qin,qip,qWr,qTr,c1,c2,hk',hm,encI,encL,encP,plK,kAwakeX])
     | true =>
      rw [hz] at qin
      have hwk:=inI_iff.1 hz
      rw [hz,if_pos rfl,if_neg (by simpa using hE)] at qBe
      obtain ⟨⟨x1,x2,x3⟩,_⟩:=best_spec hb (windsA b) (most:=work) hwk.1
      have hxo:=plan_of x1
      have hxl:=hxo.len
      have qR:=fun n=>kBestR n hb hk ha work hwk.1
      have qbr:=fun n=>kBrief n (bestPl b (windsA b) work)
      rw [brief_plan hb hxo] at qbr
      have qix:=fun n=>kIsPlanR n b hb (bestPl b (windsA b) work) (by omega)
      rw [x1] at qix
      have qWx:=fun n=>kWorkR n hb hxo
      rw [← work_eq hb hxo] at qWx
      have qTx:=fun n=>kTotalR n hb hxo (truthsR b) hTt hTl
      change ∀ n,_ = some (V.agg (encR (refTotal b (bestPl b (windsA b) work)))) at qTx
      rw [refTotal_eq hb ha hxo] at qTx
      have hxne:bestPl b (windsA b) work ≠ []:=fun h=>by rw [h] at hxl; simp at hxl; omega
      rw [slX hxne] at qBe
      generalize workP b (bestPl b (windsA b) work) = WX at *
      obtain ⟨r1,r2⟩:∃ r:Int × Int,r = totalP b (windsA b) (bestPl b (windsA b) work):=⟨_,rfl⟩
      rw [← r2] at x3 qTx
      obtain ⟨r1,r3⟩:=r1
      simp only at x3
      subst x3
      cases hp:isPlanB b pl with
      | false =>
       rw [hp] at qip
       rw [prove_bad (by
        unfold totalV
        rw [if_pos h0,if_neg (by rw [hp]; decide)]
        decide)] at qPr
       generalize bestV b (windsA b) work = V at *
       generalize bestPl b (windsA b) work = XP at *
       generalize plansN (b.rows.toNat * (b.last + 1).toNat) = X at *
       generalize manyN b.winds = Y at *
       generalize truthsR b = T at *
       simp only [cellsB,cellsR,encR] at qT qB qBe qPr qsu qf qPs qM qip qR qix qWx qTx ⊢
       simp [c5,argFr,qT,qb,qB,qL,qBe,qPr,qsu,qf,qPs,qM,qin,qip,qR,qbr,qix,qWx,qTx,x2,hk',hm,encI,encL,encP,plK,kAwakeX]
      | true =>
       rw [hp] at qip
       have hpo:=plan_of hp
       have qWr:=fun n=>kWorkR n hb hpo
       rw [← work_eq hb hpo] at qWr
       have qTr:=fun n=>kTotalR n hb hpo (truthsR b) hTt hTl
       change ∀ n,_ = some (V.agg (encR (refTotal b pl))) at qTr
       rw [refTotal_eq hb ha hpo] at qTr
       have hpv:proveV b pl work total = (decide (workP b pl≤work) && decide (total≤(totalP b (windsA b) pl).1)):=by
        unfold proveV
        rw [totalV_ok hb hp hE]
        rfl
       rw [hpv] at qPr
       generalize bestV b (windsA b) work = V at *
       generalize bestPl b (windsA b) work = XP at *
       generalize plansN (b.rows.toNat * (b.last + 1).toNat) = X at *
       generalize manyN b.winds = Y at *
       generalize totalP b (windsA b) pl = R at *
       generalize workP b pl = W at *
       generalize truthsR b = T at *
       simp only [cellsB,cellsR,encR] at qT qB qBe qPr qsu qf qPs qM qip qWr qTr qR qix qWx qTx ⊢
       by_cases c1:W≤work <;> by_cases c2:total≤R.1 <;> (simp [c1,c2] at qPr; simp [c5,argFr,qT,qb,qB,qL,qBe,qPr,qsu,qf,qPs,qM,qin,qip,qWr,qTr,qR,qbr,qix,qWx,qTx,x2,c1,c2,hk',hm,encI,encL,encP,plK,kAwakeX])
  ·have hk':(256:Int) < plansN (b.rows.toNat * (b.last + 1).toNat):=by omega
   generalize plansN (b.rows.toNat * (b.last + 1).toNat) = X at *
   simp only [cellsB] at qT qf qPs ⊢
   simp [c5,argFr,qT,qb,qf,qPs,hk',encI,encL,encP,plK,kAwakeX]
 ·rw [if_neg h0] at qBe qsu
  rw [prove_bad (by
   unfold totalV
   rw [if_neg h0]
   exact h0)] at qPr
  simp only [cellsB,cellsR,List.map_nil,slnil] at qT qB qBe qPr qsu qf ⊢
  simp [c5,argFr,qT,qb,qB,qL,qBe,qPr,qsu,qf,h0,encI,encL,encP,plK,kAwakeX]
end Go.Proofs.Tryz.Op
