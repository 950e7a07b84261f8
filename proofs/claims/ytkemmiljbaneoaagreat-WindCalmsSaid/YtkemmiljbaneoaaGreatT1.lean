/- The walk of WindCalms. No condition. -/
import Derived.Test.YtkemmiljbaneoaaGreatE1
import Derived.Test.YtkemmiljbaneoaaGreatX1
import Derived.Test.YtkemmiljbaneoaaGreatFz
open Go Go.Pg Go.Proofs Go.Wind
namespace Go.Proofs.Tryz.Op
set_option maxRecDepth 100000
set_option linter.unusedSimpArgs false
theorem thin_lensX {b:Beach} (h:thinB b = true):b.face.length≤100∧b.sun.length≤100∧b.winds.length≤100∧(∀ l ∈ b.winds,l.length≤40)∧b.breaks.length≤100∧b.notes.length≤100:=by
 simp only [thinB,Bool.and_eq_true,Bool.not_eq_true',Bool.or_eq_false_iff,Bool.not_eq_false',decide_eq_false_iff_not] at h
 obtain ⟨⟨⟨⟨⟨h1,h2⟩,h3⟩,h4⟩,h5⟩,_⟩:=h
 obtain ⟨h6,h7⟩:=brief_len h3
 exact ⟨by omega,by omega,by omega,fun l hl=>by have:=h7 l hl; omega,by omega,by omega⟩
theorem truths_nil {b:Beach}:truthsR b = [] ↔ dfsW b [] b.winds [] = []:=by
 constructor
 ·intro h
  refine Classical.byContradiction fun hn=>?_
  obtain ⟨t,ht⟩:=List.exists_mem_of_ne_nil _ hn
  have:=mem_truths.2 ((mem_dfs b t).1 ht)
  rw [h] at this
  cases this
 ·intro h
  refine Classical.byContradiction fun hn=>?_
  obtain ⟨t,ht⟩:=List.exists_mem_of_ne_nil _ hn
  have:=(mem_dfs b t).2 (mem_truths.1 ht)
  rw [h] at this
  cases this
theorem truthsR_len {b:Beach} (hb:Valid b):(truthsR b).length≤1100:=by
 have h1:=hb.many
 have h2:(truthsR b).length≤((List.range (manyN b.winds)).map (nthGo b.winds)).length:=List.length_filter_le _ _
 rw [List.length_map,List.length_range] at h2
 omega
set_option maxHeartbeats 4000000 in
theorem kCalmsL (n:Nat) (b:Beach) (_:okB b) (pl:List (List Int)) (_:∀ x ∈ pl,∀ n ∈ x,okI n) (sp:Int × Int) (_:okI sp.1∧okI sp.2) (hour:Int) (_:okI hour):call0 Tryz.prog (execA Tryz.prog ann kn (n+7000)) 4 [.agg (cellsB b),lli pl,.agg (encP sp),i hour] = some (.bool true):=by
 rw [call0_eq Tryz.func4 b4 rfl (by simp [cellsB,encI,encL,encP])]
 have qT:=fun n=>kThin n b
 have qb:=fun n=>kBrief n pl
 cases hT:thinB b with
 | false =>
  rw [hT] at qT
  simp only [cellsB,encP] at qT ⊢
  simp [c4,argFr,qT,encI,encL,encP,plK,kAwakeX]
 | true =>
 rw [hT] at qT
 cases hP:briefB pl with
 | false =>
  rw [hP] at qb
  simp only [cellsB,encP] at qT ⊢
  simp [c4,argFr,qT,qb,encI,encL,encP,plK,kAwakeX]
 | true =>
 rw [hP] at qb
 obtain ⟨l1,l2,l3,l4,l5,l6⟩:=thin_lensX hT
 obtain ⟨p1,p2⟩:=brief_len hP
 have l100:∀ l ∈ b.winds,l.length≤100:=fun l hl=>by have:=l4 l hl; omega
 have qB:=fun n=>kBeach n b l1 l2 l3 l100 l5 l6
 have qL:=fun n=>kLists n pl (by omega) fun l hl=>by have:=p2 l hl; omega
 have qS:=fun n=>kSpotL n sp
 have qC:=fun n=>kCalmV n b l4 pl sp hour
 have qTo:=fun n=>kTotal n b l4 pl
 have qsu:=fun n=>kSure n b l100
 have qf:=fun n=>kfault n b l100
 have slnil:sl ([]:List (List V)) = .nil:=rfl
 have hq0:=eqR 0 0 0 0 (okI_small (by decide)) (okI_small (by decide)) (okI_small (by decide)) (okI_small (by decide))
 simp only [decide_true,Bool.and_true] at hq0
 by_cases h0:faultB b = 0
 ·have hb:=valid_of h0
  have hla:=hb.la
  have hro:=hb.ro
  have hpl:=hb.pl
  rw [h0] at qf
  have qp:=fun n=>kIsPlanR n b hb pl (by omega)
  have qs:=fun n=>kSpotR n b sp (by omega) (by omega)
  have qi:=fun n=>kIn n hour 0 b.last
  by_cases hT0:truthsR b = []
  ·have hd0:=truths_nil.1 hT0
   have hC:calmV b pl sp hour = (0,if (isPlanB b pl && isSpotB b sp && inI hour 0 b.last) = true then 11 else 2):=by
    unfold calmV
    rw [if_pos h0]
    split
    ·rw [if_pos (by rw [hd0]; rfl)]
    ·rfl
   have hV:totalV b pl = ((0,0),if isPlanB b pl = true then 11 else 2):=by
    unfold totalV
    rw [if_pos h0]
    split
    ·rw [if_pos (by rw [hd0]; rfl)]
    ·rfl
   have hS:sureV b = ([],11):=by unfold sureV; rw [if_pos h0,if_pos hT0,hT0]
   rw [hC] at qC
   rw [hV] at qTo
   rw [hS] at qsu
   generalize isPlanB b pl = z1 at qC qTo qp
   generalize isSpotB b sp = z2 at qC qs
   generalize inI hour 0 b.last = z3 at qC qi
   simp only [cellsB,cellsR,encP,encR,List.map_nil,slnil] at qT qB qS qC qTo qsu qf qp qs ⊢
   cases z1 <;> cases z2 <;> cases z3 <;> (simp at qC qTo; simp [c4,argFr,qT,qb,qB,qL,qS,qC,qTo,qsu,qf,qp,qs,qi,hq0,encI,encL,encP,plK,kAwakeX])
  ·have hd0:dfsW b [] b.winds [] ≠ []:=fun e=>hT0 (truths_nil.2 e)
   have hde:((dfsW b [] b.winds []).isEmpty = true) = False:=by simpa using hd0
   have hS:sureV b = (truthsR b,0):=by unfold sureV; rw [if_pos h0,if_neg hT0]
   have ha:=asked_dfs hb hd0
   rw [hS] at qsu
   simp only at qsu
   rw [slX hT0] at qsu
   have hTl:=truthsR_len hb
   have hTt:∀ t ∈ truthsR b,listedGo t b.winds = true:=fun t ht=>truth_listed ht
   cases hz1:isPlanB b pl with
   | false =>
    have hC:calmV b pl sp hour = (0,2):=by
     unfold calmV
     rw [if_pos h0,hz1]
     rfl
    have hV:totalV b pl = ((0,0),2):=by
     unfold totalV
     rw [if_pos h0,if_neg (by rw [hz1]; decide)]
    rw [hC] at qC
    rw [hV] at qTo
    rw [hz1] at qp
    generalize truthsR b = T at qsu
    generalize isSpotB b sp = z2 at qs
    generalize inI hour 0 b.last = z3 at qi
    simp only [cellsB,cellsR,encP,encR] at qT qB qS qC qTo qsu qf qp qs ⊢
    cases z2 <;> cases z3 <;> simp [c4,argFr,qT,qb,qB,qL,qS,qC,qTo,qsu,qf,qp,qs,qi,hq0,encI,encL,encP,plK,kAwakeX]
   | true =>
    have hp:=plan_of hz1
    have hlen:=hp.len
    have hwi:=hb.wi
    have hV:=totalV_ok hb hz1 hd0
    have qR:=fun n=>kTotalR n hb hp (truthsR b) hTt hTl
    change ∀ n,_ = some (V.agg (encR (refTotal b pl))) at qR
    rw [refTotal_eq hb ha hp] at qR
    rw [hV] at qTo
    rw [hz1] at qp
    obtain ⟨i1,i2⟩:=totalP_is hb ha hp
    have hb1:0≤(totalP b (windsA b) pl).1∧(totalP b (windsA b) pl).1≤75:=by
     obtain ⟨t,t1,t2⟩:=i1.at'
     rw [← t2]; exact totT_le hb pl t1
    have hb2:0≤(totalP b (windsA b) pl).2∧(totalP b (windsA b) pl).2≤75:=by
     obtain ⟨t,t1,t2⟩:=i2.at'
     rw [← t2]; exact totT_le hb pl t1
    have qto:=fun n=>kTo n (totalP b (windsA b) pl)
    have hq1:=eqR (totalP b (windsA b) pl).1 (totalP b (windsA b) pl).2 (totalP b (windsA b) pl).1 (totalP b (windsA b) pl).2 (okI_small (by omega)) (okI_small (by omega)) (okI_small (by omega)) (okI_small (by omega))
    simp only [decide_true,Bool.and_true] at hq1
    cases hz23:(isSpotB b sp && inI hour 0 b.last) with
    | false =>
     have hC:calmV b pl sp hour = (0,2):=by
      unfold calmV
      rw [if_pos h0,hz1,Bool.true_and,hz23]
      rfl
     rw [hC] at qC
     generalize truthsR b = T at qsu qR
     generalize totalP b (windsA b) pl = TP at qTo qR qto hq1
     generalize isSpotB b sp = z2 at qs hz23
     generalize inI hour 0 b.last = z3 at qi hz23
     simp only [cellsB,cellsR,encP,encR] at qT qB qS qC qTo qsu qf qp qs qR qto ⊢
     cases z2 <;> cases z3 <;> first | (cases hz23; done) | simp [c4,argFr,qT,qb,qB,qL,qS,qC,qTo,qsu,qf,qp,qs,qi,qR,qto,hq0,hq1,encI,encL,encP,plK,kAwakeX]
    | true =>
     have hz23':=hz23
     simp only [Bool.and_eq_true] at hz23'
     obtain ⟨hz2,hz3⟩:=hz23'
     have hC:calmV b pl sp hour = (verd ((windsA b).getD hour.toNat []) (fun w=>calmP b sp (planAt pl hour.toNat sp.1.toNat) w),0):=by
      unfold calmV
      rw [if_pos h0,hz1,Bool.true_and,hz23,if_pos rfl,if_neg (by rw [hde]; exact id)]
     rw [hC] at qC
     rw [hz2] at qs
     rw [hz3] at qi
     simp only [isSpotB,Bool.and_eq_true,inI_iff] at hz2 hz3
     obtain ⟨⟨s1a,s1b⟩,s2a,s2b⟩:=hz2
     obtain ⟨S1,hS1⟩:∃ S:Nat,sp.1 = S:=⟨sp.1.toNat,by omega⟩
     obtain ⟨S2,hS2⟩:∃ S:Nat,sp.2 = S:=⟨sp.2.toNat,by omega⟩
     obtain ⟨H,hH⟩:∃ H:Nat,hour = H:=⟨hour.toNat,by omega⟩
     subst hH
     obtain ⟨sp1,sp2⟩:=sp
     simp only at hS1 hS2 s1a s1b s2a s2b
     subst hS1 hS2
     simp only [Int.toNat_natCast] at qC
     have qCR:=fun n=>kCalmR n hb hp (S1,S2) (by simp only; omega) (by simp only; omega) H (by omega) (truthsR b) hTt hTl hT0
     simp only at qCR
     rw [← calm_verd hb ha (h:=H) (by omega) fun w=>calmP b ((S1:Int),(S2:Int)) (planAt pl H S1) w] at qCR
     generalize verd ((windsA b).getD H []) (fun w=>calmP b ((S1:Int),(S2:Int)) (planAt pl H S1) w) = VD at qC qCR
     generalize truthsR b = T at qsu qR qCR
     generalize totalP b (windsA b) pl = TP at qTo qR qto hq1
     simp only [cellsB,cellsR,encP,encR] at qT qB qS qC qTo qsu qf qp qs qR qto qCR ⊢
     simp [c4,argFr,qT,qb,qB,qL,qS,qC,qTo,qsu,qf,qp,qs,qi,qR,qto,qCR,hq0,hq1,encI,encL,encP,plK,kAwakeX]
 ·have hC:calmV b pl sp hour = (0,faultB b):=by unfold calmV; rw [if_neg h0]
  have hV:totalV b pl = ((0,0),faultB b):=by unfold totalV; rw [if_neg h0]
  have hS:sureV b = ([],faultB b):=by unfold sureV; rw [if_neg h0]
  rw [hC] at qC
  rw [hV] at qTo
  rw [hS] at qsu
  generalize faultB b = A at qC qTo qsu qf h0
  simp only [cellsB,cellsR,encP,encR,List.map_nil,slnil] at qT qB qS qC qTo qsu qf ⊢
  simp [c4,argFr,qT,qb,qB,qL,qS,qC,qTo,qsu,qf,h0,hq0,encI,encL,encP,plK,kAwakeX]
end Go.Proofs.Tryz.Op
