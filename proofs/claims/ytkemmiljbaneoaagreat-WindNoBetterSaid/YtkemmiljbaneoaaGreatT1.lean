/- The walk of WindNoBetter. No condition. -/
import Derived.Test.YtkemmiljbaneoaaGreatJ1
import Derived.Test.YtkemmiljbaneoaaGreatE1
import Derived.Test.YtkemmiljbaneoaaGreatV1
import Derived.Test.YtkemmiljbaneoaaGreatW1
import Derived.Test.YtkemmiljbaneoaaGreatFz
open Go Go.Pg Go.Proofs Go.Wind
namespace Go.Proofs.Tryz.Op
set_option maxRecDepth 100000
set_option linter.unusedSimpArgs false
theorem convN (k:IntKind) (n:Int):evConv Tryz.prog 5 3 (.int k n) = some (.int .i64 (IntKind.i64.wrap n)):=by
 kernel_rfl
theorem convW (k:IntKind) (n:Int):evConv Tryz.prog 95 3 (.int k n) = some (.int .i64 (IntKind.i64.wrap n)):=by
 unfold evConv
 simp
theorem brief_plan {b:Beach} (hb:Valid b) {p:List (List Int)} (hp:PlanOf b p):briefB p = true:=by
 have hla:=hb.la
 have hro:=hb.ro
 have hlen:=hp.len
 simp only [briefB,Bool.and_eq_true,List.all_eq_true,decide_eq_true_eq]
 refine ⟨fun l hl=>?_,by omega⟩
 obtain ⟨h,hh,rfl⟩:=List.getElem_of_mem (List.mem_of_mem_take hl)
 have:=(row_inX hb hp hh).1
 omega
set_option maxHeartbeats 4000000 in
theorem kNoBetter (n:Nat) (b:Beach) (_:okB b) (ws:List Nat) (hws:∀ w ∈ ws,w≤65535) (w:Nat) (hw:w≤65535) (κ:Nat) (hκ:κ≤255):call0 Tryz.prog (execA Tryz.prog ann kn (n+31000)) 8 [.agg (cellsB b),.list false (ws.map encW),.int .u16 w,.int .u8 κ] = some (.bool true):=by
 rw [call0_eq Tryz.func8 b8 rfl (by simp [cellsB,encI,encL,encP,encW])]
 have qr:=fun n=>kReady n b
 cases hR:readyB b with
 | false =>
  rw [hR] at qr
  simp only [cellsB] at qr ⊢
  simp [c8,argFr,qr,encI,encL,encP,encW,kAwakeX]
 | true =>
  rw [hR] at qr
  obtain ⟨hb,_⟩:=ready_of hR
  have hla:=hb.la
  have hro:=hb.ro
  have hwi:=hb.wi
  have hp:=planW_ok hb ws
  have hpo:=plan_of hp
  have qp:=fun n=>kPlan n b hb ws hws
  have qB:=fun n=>kBeachX n hb
  have qli:=fun n=>kListsX n hb hpo
  have qW:=fun n=>kWork (b:=b) (plan:=planOfW b ws) n hb.w40
  unfold workV at qW
  rw [if_pos (fault_of hb),if_pos hp] at qW
  have hw0:=(workH_le hb hpo _ (Nat.le_refl _)).1
  change 0≤workP b (planOfW b ws) at hw0
  have qT:=fun n=>kTotal n b hb.w40 (planOfW b ws)
  have qt:=fun n=>kTruthsRR n b hb
  have wr1:IntKind.i64.wrap (κ:Int) = (κ:Int):=wrap_i64 (by omega) (by omega)
  have m1:(κ:Int).tmod 12 = ((κ % 12:Nat):Int):=(Int.ofNat_tmod _ 12).symm
  have hk12:κ % 12 < 12:=Nat.mod_lt _ (by decide)
  generalize κ % 12 = K at m1 hk12
  have wk:IntKind.i64.wrap (K:Int) = (K:Int):=wrap_i64 (by omega) (by omega)
  obtain ⟨M,hM⟩:∃ M,M = (if workP b (planOfW b ws) < 99 then workP b (planOfW b ws) else 99):=⟨_,rfl⟩
  have hM0:0≤M∧M≤99∧(workP b (planOfW b ws)≤99→M = workP b (planOfW b ws)):=by
   rw [hM]; split <;> omega
  obtain ⟨M2,hM2⟩:∃ M2,M2 = (if M + K < 99 then M + K else 99):=⟨_,rfl⟩
  have hM20:M≤M2∧0≤M2∧M2≤99:=by
   rw [hM2]; split <;> omega
  have wmk:IntKind.i64.wrap (M + (K:Int)) = M + (K:Int):=wrap_i64 (by omega) (by omega)
  have qb1:=fun n=>kBest n b hb.w40 M
  have qb2:=fun n=>kBest n b hb.w40 M2
  unfold bestVV at qb1 qb2
  rw [if_pos (fault_of hb),if_pos (inI_iff.2 ⟨hM0.1,hM0.2.1⟩)] at qb1
  rw [if_pos (fault_of hb),if_pos (inI_iff.2 ⟨hM20.2.1,hM20.2.2⟩)] at qb2
  by_cases hE:dfsW b [] b.winds [] = []
  ·have hT:truthsR b = []:=List.eq_nil_iff_forall_not_mem.2 fun t ht=>by
    have:=(mem_dfs b t).2 (mem_truths.1 ht)
    rw [hE] at this
    cases this
   have slnil:sl ([]:List (List V)) = .nil:=rfl
   rw [if_pos (by rw [hE]; rfl)] at qb1 qb2
   rw [totalV_none hb (plan:=planOfW b ws) hp hE] at qT
   rw [hT] at qt
   generalize workP b (planOfW b ws) = W at *
   generalize planOfW b ws = P at *
   have hwn:¬ W < 0:=by omega
   simp only [cellsB,cellsR,encR,List.map_nil,slnil] at qr qp qB qW qT qb1 qb2 qt ⊢
   simp [c8,argFr,encI,encL,encP,encW,plK,qr,qp,qB,qli,qW,qT,qb1,qb2,qt,wr1,m1,wk,wmk,convN,← hM,← hM2,hwn,put_eqX,kAwakeX]
  ·have ha:=asked_dfs hb hE
   have hT:truthsR b ≠ []:=fun h=>hE (List.eq_nil_iff_forall_not_mem.2 fun t ht=>by
    have:=mem_truths.2 ((mem_dfs b t).1 ht)
    rw [h] at this
    cases this)
   have hTl:(truthsR b).length≤1100:=by
    have h1:=hb.many
    have h2:(truthsR b).length≤((List.range (manyN b.winds)).map (nthGo b.winds)).length:=List.length_filter_le _ _
    rw [List.length_map,List.length_range] at h2
    omega
   rw [if_neg (by simpa using hE)] at qb1 qb2
   rw [totalV_ok hb (plan:=planOfW b ws) hp hE] at qT
   rw [slX hT] at qt
   obtain ⟨⟨x1,x2,x3⟩,x4⟩:=best_spec hb (windsA b) (most:=M) hM0.1
   have hbm:=best_more hb (windsA b) hM0.1 hM20.1
   have hxo:=plan_of x1
   have qbr:=fun n=>kBrief n (bestPl b (windsA b) M)
   rw [brief_plan hb hxo] at qbr
   have hxl:=hxo.len
   have qip:=fun n=>kIsPlanR n b hb (bestPl b (windsA b) M) (by omega)
   rw [x1] at qip
   have qwr:=fun n=>kWorkR n hb hxo
   rw [← work_eq hb hxo] at qwr
   have qlx:=fun n=>kListsX n hb hxo
   have qpt:=fun n=>kProveTotal n b hb.w40 (bestPl b (windsA b) M) M (bestV b (windsA b) M)
   have hpv:proveV b (bestPl b (windsA b) M) M (bestV b (windsA b) M) = true:=by
    unfold proveV
    rw [totalV_ok hb x1 hE]
    simp only [decide_true,Bool.true_and,Bool.and_eq_true,decide_eq_true_eq]
    exact ⟨x2,by omega⟩
   rw [hpv] at qpt
   have hi:w % (truthsR b).length < (truthsR b).length:=Nat.mod_lt _ (List.length_pos_iff.2 hT)
   have hmem:(truthsR b)[w % (truthsR b).length] ∈ truthsR b:=List.getElem_mem hi
   have htl:=truth_listed hmem
   have qR:=fun n=>kRefPlay n b hb (bestPl b (windsA b) M) hxo _ htl
   rw [refP_eq hb hxo htl] at qR
   obtain ⟨o1,o2⟩:=play_small hb (bestPl b (windsA b) M) htl
   have qS:=fun n=>kSum n _ o1 o2
   rw [sum_tot] at qS
   obtain ⟨i1,_⟩:=totalP_is hb ha hxo
   have hge:=i1.le _ hmem
   rw [x3] at hge
   have hpl:(playP b (bestPl b (windsA b) M) (truthsR b)[w % (truthsR b).length] b.rows.toNat).length = b.rows.toNat:=by simp [playP]
   have hpne:playP b (bestPl b (windsA b) M) (truthsR b)[w % (truthsR b).length] b.rows.toNat ≠ []:=fun h=>by
    rw [h] at hpl
    simp at hpl
    omega
   rw [slX hpne] at qR
   have hxne:bestPl b (windsA b) M ≠ []:=fun h=>by rw [h] at hxl; simp at hxl; omega
   rw [slX hxne] at qb1
   have hP4:=x4 (planOfW b ws) hp
   have ww:IntKind.i64.wrap (w:Int) = (w:Int):=wrap_i64 (by omega) (by omega)
   have mw:(w:Int).tmod ((truthsR b).length:Int) = ((w % (truthsR b).length:Nat):Int):=(Int.ofNat_tmod _ _).symm
   have wmw:IntKind.i64.wrap ((w % (truthsR b).length:Nat):Int) = ((w % (truthsR b).length:Nat):Int):=wrap_i64 (by omega) (by omega)
   have hz:¬ ((truthsR b).length:Int) = 0:=by omega
   generalize w % (truthsR b).length = j at *
   generalize hTT:(truthsR b)[j] = t at *
   generalize playP b (bestPl b (windsA b) M) t b.rows.toNat = A at *
   generalize totT b (bestPl b (windsA b) M) t = Y at *
   generalize bestPl b (windsA b) M2 = X2 at *
   generalize bestV b (windsA b) M2 = far at *
   generalize workP b (bestPl b (windsA b) M) = WX at *
   generalize bestPl b (windsA b) M = X at *
   generalize bestV b (windsA b) M = best at *
   generalize totalP b (windsA b) (planOfW b ws) = R at *
   generalize workP b (planOfW b ws) = W at *
   generalize planOfW b ws = P at *
   generalize truthsR b = T at *
   have hwn:¬ W < 0:=by omega
   have hfb:¬ far < best:=by omega
   have hwx:¬ M < WX:=by omega
   have hyb:best≤Y:=hge
   simp only [cellsB,cellsR,encR] at qr qp qB qW qT qb1 qb2 qt qip qwr qpt qR ⊢
   by_cases h99:W≤99
   ·have hRb:¬ best < R.1:=by
     have:=hP4 (by omega)
     omega
    simp [c8,argFr,encI,encL,encP,encW,encHs,encH,plK,qr,qp,qB,qli,qlx,qW,qT,qb1,qb2,qt,qbr,qip,qwr,qpt,qR,qS,wr1,m1,wk,wmk,ww,mw,wmw,hz,hi,hTT,hT,convN,convW,← hM,← hM2,hwn,hfb,hwx,hyb,h99,hRb,put_eqX,kAwakeX]
   ·simp [c8,argFr,encI,encL,encP,encW,encHs,encH,plK,qr,qp,qB,qli,qlx,qW,qT,qb1,qb2,qt,qbr,qip,qwr,qpt,qR,qS,wr1,m1,wk,wmk,ww,mw,wmw,hz,hi,hTT,hT,convN,convW,← hM,← hM2,hwn,hfb,hwx,hyb,h99,put_eqX,kAwakeX]
end Go.Proofs.Tryz.Op
