/- With one more break, or a greater reach, no place has fewer hours. No program. -/
import Derived.Test.YtkemmiljbaneoaaI1
import Derived.Test.YtkemmiljbaneoaaW1
import Derived.Test.YtkemmiljbaneoaaW4
import Derived.Test.YtkemmiljbaneoaaW3
import Derived.Test.YtkemmiljbaneoaaL
import Derived.Test.YtkemmiljbaneoaaFz
import Derived.Test.YtkemmiljbaneoaaJ1
import Derived.Test.YtkemmiljbaneoaaX1
namespace Go.Wind
def moreB (b:Beach) (s:Int × Int) (re:Int):Beach:={ b with breaks:=b.breaks ++ [s],reach:=re }
theorem moreB_valid {b:Beach} (hb:Valid b) (h3:b.breaks.length≤3) {s:Int × Int} (hs:isSpotB b s = true) {re:Int} (hr:0≤re∧re≤4):Valid (moreB b s re):=by
 obtain ⟨la,ro,pl,_,_,no,fa,su,wi,fd,sd,wo,bo,nok⟩:=hb
 refine ⟨la,ro,pl,hr,by simp [moreB]; omega,no,fa,su,wi,fd,sd,wo,?_,nok⟩
 simp only [moreB,List.all_append,List.all_cons,List.all_nil,Bool.and_true,Bool.and_eq_true]
 exact ⟨bo,hs⟩
theorem calm_more {b:Beach} {s q:Int × Int} {re f w:Int} (hr:b.reach≤re) (h:calmP b q f w = true):calmP (moreB b s re) q f w = true:=by
 simp only [calmP,Bool.or_eq_true,brokenP,List.any_eq_true] at h ⊢
 rcases h with h | ⟨k,k1,k2⟩
 ·exact .inl h
 ·refine .inr ⟨k,by simp [moreB,k1],?_⟩
  rw [inI_iff] at k2 ⊢
  exact ⟨k2.1,by simp only [moreB]; omega⟩
theorem hours_more {b:Beach} {s:Int × Int} {re:Int} (hr:b.reach≤re) (plan:List (List Int)) (t:List Int) (r p:Nat):(hoursP b plan t r p).calm≤(hoursP (moreB b s re) plan t r p).calm∧(hoursP b plan t r p).good≤(hoursP (moreB b s re) plan t r p).good∧(hoursP (moreB b s re) plan t r p).sun = (hoursP b plan t r p).sun:=by
 have hc:∀ h,calmAt b plan t r p h = true→calmAt (moreB b s re) plan t r p h = true:=fun h=>calm_more hr
 have h1:=cnt_mono (n:=t.length) fun i _=>hc i
 have h2:=cnt_mono (f:=fun h=>litB b plan r h && calmAt b plan t r p h) (g:=fun h=>litB b plan r h && calmAt (moreB b s re) plan t r p h) (n:=t.length) (fun h _ hh=>by
  simp only [Bool.and_eq_true] at hh ⊢
  exact ⟨hh.1,hc h hh.2⟩)
 have e1:(hoursP b plan t r p).calm = ((cnt (calmAt b plan t r p) t.length:Nat):Int):=rfl
 have e2:(hoursP (moreB b s re) plan t r p).calm = ((cnt (calmAt (moreB b s re) plan t r p) t.length:Nat):Int):=rfl
 have e3:(hoursP b plan t r p).good = ((cnt (fun h=>litB b plan r h && calmAt b plan t r p h) t.length:Nat):Int):=rfl
 have e4:(hoursP (moreB b s re) plan t r p).good = ((cnt (fun h=>litB b plan r h && calmAt (moreB b s re) plan t r p h) t.length:Nat):Int):=rfl
 exact ⟨by omega,by omega,rfl⟩
theorem sumU_mono {f g:Nat→Int} (h:∀ i,f i≤g i):∀ n,sumU f n≤sumU g n
 | 0=>Int.le_refl _
 | n + 1=>by
  have ih:=sumU_mono h n
  have:=h n
  simp only [sumU]
  omega
theorem tot_more {b:Beach} {s:Int × Int} {re:Int} (hr:b.reach≤re) (plan:List (List Int)) (t:List Int):totT b plan t≤totT (moreB b s re) plan t :=
 sumU_mono (fun r=>sumU_mono (fun p=>(hours_more hr plan t r p).2.1) _) _
theorem best_moreB {b:Beach} (hb:Valid b) {s:Int × Int} {re:Int} (hr:b.reach≤re) (hx:Valid (moreB b s re)) {ws wx:List (List Int)} (ha:Asked b ws) (hax:Asked (moreB b s re) wx) {most:Int} (hm:0≤most):bestV b ws most≤bestV (moreB b s re) wx most:=by
 refine best_le hb hx id hm fun plan hp=>⟨hp,Int.le_refl _,?_⟩
 obtain ⟨i1,_⟩:=totalP_is hb ha (plan_of hp)
 obtain ⟨j1,_⟩:=totalP_is hx hax (plan_of (b:=moreB b s re) hp)
 exact i1.sub j1 (fun _ h=>h) fun t _=>tot_more hr plan t
end Go.Wind
/- The walk of WindBack. No condition. -/
open Go Go.Pg Go.Proofs Go.Wind
namespace Go.Proofs.Try.Op
set_option maxRecDepth 100000
set_option linter.unusedSimpArgs false
theorem sl_ne {α:Type} {f:α→List V} {l:List α} (h:l ≠ []):sl (l.map f) = .list false (l.map f):=by
 cases l with
 | nil=>exact absurd rfl h
 | cons x l=>rfl
theorem playP_get {b:Beach} {p:List (List Int)} {t:List Int} {R r:Nat} (h:r < R):(playP b p t R)[r]? = some (rowP b p t r):=by simp [playP,h]
theorem rowP_get {b:Beach} {p:List (List Int)} {t:List Int} {r q:Nat} {x:Hrs} (h:(rowP b p t r)[q]? = some x):x = hoursP b p t r q:=by
 simp only [rowP,List.getElem?_map,Option.map_eq_some_iff] at h
 obtain ⟨j,h1,rfl⟩:=h
 rw [List.getElem?_range] at h1
 ·cases h1; rfl
 ·by_cases hq:q < b.places.toNat
  ·exact hq
  ·rw [List.getElem?_eq_none (by simp; omega)] at h1; cases h1
theorem rowP_len (b:Beach) (p:List (List Int)) (t:List Int) (r:Nat):(rowP b p t r).length = b.places.toNat:=by simp [rowP]
theorem playV_ok {b:Beach} (hb:Valid b) {p:List (List Int)} (hp:isPlanB b p = true) {t:List Int} (ht:listedGo t b.winds = true):playV b p t = (playP b p t b.rows.toNat,0):=by
 unfold playV
 rw [if_neg (by simp [fault_of hb]),if_pos ⟨hp,ht⟩]
theorem shaped_play {b x:Beach} (hb:Valid b) (e1:x.places = b.places) (p:List (List Int)) (t:List Int):shapedB b (playP x p t b.rows.toNat) = true:=by
 have:=hb.ro
 have:=hb.pl
 simp only [shapedB,Bool.and_eq_true,List.all_eq_true,decide_eq_true_eq]
 refine ⟨fun l hl=>?_,by simp [playP]; omega⟩
 simp only [playP,List.mem_map] at hl
 obtain ⟨r,_,rfl⟩:=hl
 rw [rowP_len,e1]
 omega
end Go.Proofs.Try.Op
/- The walk of WindBreak. No condition. -/
open Go Go.Pg Go.Proofs Go.Wind
namespace Go.Proofs.Try.Op
set_option maxRecDepth 100000
set_option linter.unusedSimpArgs false
theorem convU8 (k:IntKind) (n:Int):evConv Try.prog 5 3 (.int k n) = some (.int .i64 (IntKind.i64.wrap n)):=by
 kernel_rfl
theorem convU16 (k:IntKind) (n:Int):evConv Try.prog 46 3 (.int k n) = some (.int .i64 (IntKind.i64.wrap n)):=by
 unfold evConv
 simp
theorem app_breaks {l:List (Int × Int)} {m:Nat} (h:(m + l.length) * 16≤140737488355328):appOK Try.prog 48 m (l.map encP) = true:=by
 rw [appOK_iff (by simp) (by simp)]
 simp [maxLen,encP]
 omega
theorem dfs_more (b:Beach) (s:Int × Int) (re:Int):(dfsW (moreB b s re) [] b.winds [] = []) ↔ dfsW b [] b.winds [] = []:=by
 have e:∀ t,isTruthB (moreB b s re) t = isTruthB b t:=fun _=>rfl
 have h1:=mem_dfs b
 have h2:∀ t,t ∈ dfsW (moreB b s re) [] b.winds [] ↔ isTruthB b t = true:=fun t=>mem_dfs (moreB b s re) t
 constructor <;> intro h <;> refine List.eq_nil_iff_forall_not_mem.2 fun t ht=>?_
 ·rw [h1,← h2,h] at ht; cases ht
 ·rw [h2,← h1,h] at ht; cases ht
theorem lBk18 (b:Beach) (hb:Valid b) (r:Nat) (X13:Res) (K L:List (List Hrs)) (Kr Lr:List Hrs) (hK:K[r]? = some Kr) (hL:L[r]? = some Lr) (hq2:∀ (q:Nat) (x y:Hrs),Kr[q]? = some x→Lr[q]? = some y→x.calm≤y.calm∧x.good≤y.good∧y.sun = x.sun) (hKl:(Kr.length:Int) = b.places) (hLl:(Lr.length:Int) = b.places) (c:Nat):∀ (d q:Nat),q + d = b.places.toNat→∀ n m,d < m→loopA (execA Try.prog ann kn (n+400) 223) lb4_18 (ann 223 (fstR lb4_18)) m ⟨c,[(6,true,.ptr 0 6 0 0),(16,true,.list false (K.map encHs)),(18,true,.list false (L.map encHs)),(26,true,i r),(27,true,i q)],⟨[],[(6,0,.box (cellsB b)),(13,1,X13)]⟩⟩ =
  some (.exit 2,⟨c,[(164,true,.bool false),(163,true,i b.places),(162,true,.ptr 0 6 0 2),(161,true,i b.places),(6,true,.ptr 0 6 0 0),(16,true,.list false (K.map encHs)),(18,true,.list false (L.map encHs)),(26,true,i r),(27,true,i b.places)],⟨[],[(6,0,.box (cellsB b)),(13,1,X13)]⟩⟩)
 | 0,q,hd,n,m + 1,hm=>by
  have hpc:=hb.pl
  have:(q:Int) = b.places:=by omega
  rw [loopA_succ]
  simp [cellsB,this]
 | d + 1,q,hd,n,m + 1,hm=>by
  have hpc:=hb.pl
  have hw:=wrapS (k:=q) (by omega)
  have hq:(q:Int) < b.places:=by omega
  have hKq:q < Kr.length:=by omega
  have hLq:q < Lr.length:=by omega
  obtain ⟨k1,k2,k3⟩:=hq2 q Kr[q] Lr[q] (List.getElem?_eq_getElem hKq) (List.getElem?_eq_getElem hLq)
  have k1':¬ Lr[q].calm < Kr[q].calm:=by omega
  have k2':¬ Lr[q].good < Kr[q].good:=by omega
  have ih:=lBk18 b hb r X13 K L Kr Lr hK hL hq2 hKl hLl c d (q + 1) (by omega) n m (by omega)
  obtain ⟨hK1,hKe⟩:=List.getElem?_eq_some_iff.1 hK
  obtain ⟨hL1,hLe⟩:=List.getElem?_eq_some_iff.1 hL
  rw [loopA_succ]
  simp only [cellsB] at ih ⊢
  simp [encH,encHs] at ih
  simp [hq,hw,hK1,hL1,hKe,hLe,hKq,hLq,k1',k2',k3,encL,encI,encH,encHs,plK,ih]
theorem lBk15 (b:Beach) (hb:Valid b) (s:Int × Int) (re:Int) (hre:b.reach≤re) (p:List (List Int)) (t:List Int) (X13:Res) (c:Nat):∀ (d r:Nat),r + d = b.rows.toNat→∃ fr:Fr,∀ n m,d < m→loopA (execA Try.prog ann kn (n+600) 223) lb4_15 (ann 223 (fstR lb4_15)) m ⟨c,[(6,true,.ptr 0 6 0 0),(16,true,.list false ((playP b p t b.rows.toNat).map encHs)),(18,true,.list false ((playP (moreB b s re) p t b.rows.toNat).map encHs)),(26,true,i r)],⟨[],[(6,0,.box (cellsB b)),(13,1,X13)]⟩⟩ =
  some (.exit 0,⟨c,fr,⟨[],[(6,0,.box (cellsB b)),(13,1,X13)]⟩⟩)
 | 0,r,hd=>by
  have hro:=hb.ro
  have:b.rows = (r:Int):=by omega
  refine ⟨?fr,fun n m hm=>?g2⟩
  case g2 =>
   obtain ⟨m,rfl⟩:∃ m',m = m' + 1:=⟨m - 1,by omega⟩
   rw [loopA_succ]
   simp [cellsB,this]
   rfl
 | d + 1,r,hd=>by
  have hro:=hb.ro
  have hpc:=hb.pl
  have hw:=wrapS (k:=r) (by omega)
  have hr:(r:Int) < b.rows:=by omega
  have hr2:r < b.rows.toNat:=by omega
  have q2:=lBk18 b hb r X13 (playP b p t b.rows.toNat) (playP (moreB b s re) p t b.rows.toNat) (rowP b p t r) (rowP (moreB b s re) p t r) (playP_get hr2) (playP_get hr2)
   (fun q x y hx hy=>by rw [rowP_get hx,rowP_get hy]; exact hours_more hre p t r q)
   (by rw [rowP_len]; omega) (by rw [rowP_len]; show ((b.places.toNat:Nat):Int) = b.places; omega) c b.places.toNat 0 (by omega)
  have q2:=fun n m=>q2 n (m + 100) (by omega)
  obtain ⟨fr,ih⟩:=lBk15 b hb s re hre p t X13 c d (r + 1) (by omega)
  refine ⟨fr,fun n m hm=>?_⟩
  obtain ⟨m,rfl⟩:∃ m',m = m' + 1:=⟨m - 1,by omega⟩
  have ih:=ih n m (by omega)
  generalize (playP b p t b.rows.toNat).map encHs = KK at *
  generalize (playP (moreB b s re) p t b.rows.toNat).map encHs = LL at *
  rw [loopA_succ]
  simp only [cellsB] at q2 ih ⊢
  simp at q2 ih
  simp [hr,hw,q2,ih]
set_option maxHeartbeats 4000000 in
theorem kBreak (n:Nat) (b:Beach) (_:okB b) (w:Nat) (hw:w≤65535) (ws:List Nat) (hws:∀ w ∈ ws,w≤65535) (κ1:Nat) (h1:κ1≤255) (κ2:Nat) (h2:κ2≤255) (κ3:Nat) (h3:κ3≤255):call0 Try.prog (execA Try.prog ann kn (n+31000)) 4 [.agg (cellsB b),.int .u16 w,.list false (ws.map encW),.int .u8 κ1,.int .u8 κ2,.int .u8 κ3] = some (.bool true):=by
 rw [call0_eq Try.func4 b4 rfl (by simp [cellsB,encI,encL,encP,encW])]
 have qr:=fun n=>kReady n b
 cases hR:readyB b with
 | false =>
  rw [hR] at qr
  simp only [cellsB] at qr ⊢
  simp [c4,argFr,qr,encI,encL,encP,encW,kAwakeX]
 | true =>
  rw [hR] at qr
  obtain ⟨hb,hm80⟩:=ready_of hR
  have hla:=hb.la
  have hro:=hb.ro
  have hpc:=hb.pl
  have hre:=hb.re
  have hwi:=hb.wi
  by_cases hbr:b.breaks.length≤3
  ·have a1:appOK Try.prog 48 0 (b.breaks.map encP) = true:=app_breaks (by omega)
   have hr0:0 < b.rows.toNat:=by omega
   have hp0:0 < b.places.toNat:=by omega
   have er:b.rows = (b.rows.toNat:Int):=by omega
   have ep:b.places = (b.places.toNat:Int):=by omega
   have w1:IntKind.i64.wrap (κ1:Int) = (κ1:Int):=wrap_i64 (by omega) (by omega)
   have w2:IntKind.i64.wrap (κ2:Int) = (κ2:Int):=wrap_i64 (by omega) (by omega)
   have w3:IntKind.i64.wrap (κ3:Int) = (κ3:Int):=wrap_i64 (by omega) (by omega)
   have m1:(κ1:Int).tmod b.rows = ((κ1 % b.rows.toNat:Nat):Int):=by rw [er]; exact (Int.ofNat_tmod _ _).symm
   have m2:(κ2:Int).tmod b.places = ((κ2 % b.places.toNat:Nat):Int):=by rw [ep]; exact (Int.ofNat_tmod _ _).symm
   have m3:(κ3:Int).tmod 2 = ((κ3 % 2:Nat):Int):=(Int.ofNat_tmod _ 2).symm
   have m4:(κ3:Int).tmod 40 = ((κ3 % 40:Nat):Int):=(Int.ofNat_tmod _ 40).symm
   have l1:=Nat.mod_lt κ1 hr0
   have l2:=Nat.mod_lt κ2 hp0
   have l3:=Nat.mod_lt κ3 (show 0 < 2 by decide)
   have l4:=Nat.mod_lt κ3 (show 0 < 40 by decide)
   generalize κ1 % b.rows.toNat = r at m1 l1
   generalize κ2 % b.places.toNat = p at m2 l2
   generalize κ3 % 2 = d at m3 l3
   generalize κ3 % 40 = mo at m4 l4
   have wr1:IntKind.i64.wrap (r:Int) = (r:Int):=wrap_i64 (by omega) (by omega)
   have wr2:IntKind.i64.wrap (p:Int) = (p:Int):=wrap_i64 (by omega) (by omega)
   have wr3:IntKind.i64.wrap (d:Int) = (d:Int):=wrap_i64 (by omega) (by omega)
   have wr4:IntKind.i64.wrap (mo:Int) = (mo:Int):=wrap_i64 (by omega) (by omega)
   have wr5:IntKind.i64.wrap (b.reach + (d:Int)) = b.reach + (d:Int):=wrap_i64 (by omega) (by omega)
   have a2:appOK Try.prog 48 b.breaks.length [[i r,i p]] = true:=by
    have:=app_breaks (l:=[((r:Int),(p:Int))]) (m:=b.breaks.length) (by simp; omega)
    simpa [encP] using this
   have hrn:¬ b.rows = 0:=by omega
   have hpn:¬ b.places = 0:=by omega
   have hbr':¬ (3 < (b.breaks.length:Int)):=by omega
   have hc8:∀ k r,rdsK Try.prog (IK.oth (Op.convert 5 3 (tq k))) r = []:=fun k r=>rfl
   have hc16:∀ k r,rdsK Try.prog (IK.oth (Op.convert 46 3 (tq k))) r = []:=fun k r=>rfl
   obtain ⟨RE,hRE⟩:∃ RE,RE = (if b.reach + (d:Int) < 4 then b.reach + (d:Int) else 4):=⟨_,rfl⟩
   have hRE2:b.reach≤RE∧0≤RE∧RE≤4:=by rw [hRE]; split <;> omega
   have hx:Valid (moreB b (r,p) RE):=moreB_valid hb hbr (by simp only [isSpotB,Bool.and_eq_true,inI_iff]; omega) hRE2.2
   have hmp:=many_pos (fun l hl=>hb.ne l hl)
   have hm:(w:Int).tmod (manyN b.winds:Int) = ((w % manyN b.winds:Nat):Int):=(Int.ofNat_tmod _ _).symm
   have hml:=Nat.mod_lt w hmp
   have hmz:¬ ((manyN b.winds:Int) = 0):=by omega
   have ht:=nth_listed (fun l hl=>hb.ne l hl) (w % manyN b.winds)
   have hp:=planW_ok hb ws
   have hlw:=listed_len ht
   have qm:=fun n=>kMany n b hb
   have qn:=fun n=>kNth n b hb (w % manyN b.winds) (by omega)
   have qp:=fun n=>kPlan n b hb ws hws
   have qB:=fun n=>kBeachX n hb
   have qBx:=fun n=>kBeachX n hx
   have hpo:=plan_of hp
   have qli:=fun n=>kListsX n hb hpo
   have qt:=fun n=>kList n (nthGo b.winds (w % manyN b.winds)) (by omega)
   have hwr:IntKind.i64.wrap (w:Int) = (w:Int):=wrap_i64 (by omega) (by omega)
   have hnt:nthGo b.winds (w % manyN b.winds) ≠ []:=fun e=>by
    rw [e] at hlw; simp at hlw; omega
   rw [slX hnt] at qn
   generalize nthGo b.winds (w % manyN b.winds) = T at *
   generalize w % manyN b.winds = k at *
   have hne:∀ x:Beach,playP x (planOfW b ws) T b.rows.toNat ≠ []:=fun x e=>by
    have:=congrArg List.length e
    simp [playP] at this
    omega
   have qP:∀ x:Beach,Valid x→x.winds = b.winds→x.rows = b.rows→x.last = b.last→∀ n,callK Try.prog kn (execA Try.prog ann kn (n+2200)) 20 [.agg (cellsB x),lli (planOfW b ws),li T] = some (.tup [.list false ((playP x (planOfW b ws) T b.rows.toNat).map encHs),i 0]):=fun x hx e1 e2 e3 n=>by
    have:=kPlayL n x (fun l hl=>by rw [e1] at hl; have:=hb.wl l hl; omega) (planOfW b ws) T
    rw [playV_ok hx (by unfold isPlanB; rw [e2,e3]; exact hp) (by rw [e1]; exact ht),e2,sl_ne (hne x)] at this
    exact this
   have qP1:=qP b hb rfl rfl rfl
   have qPx:=qP (moreB b (r,p) RE) hx rfl rfl rfl
   have qs:=fun n=>kShaped n b (playP b (planOfW b ws) T b.rows.toNat) (by simp [playP]; omega)
   have qsx:=fun n=>kShaped n b (playP (moreB b (r,p) RE) (planOfW b ws) T b.rows.toNat) (by simp [playP]; omega)
   rw [shaped_play hb rfl] at qs
   rw [shaped_play (x:=moreB b (r,p) RE) hb rfl] at qsx
   have qb:=fun n=>kBest n b hb.w40 mo
   have qbx:=fun n=>kBest n (moreB b (r,p) RE) hx.w40 mo
   unfold bestVV at qb qbx
   rw [if_pos (fault_of hb),if_pos (inI_iff.2 (by omega))] at qb
   rw [if_pos (fault_of hx),if_pos (inI_iff.2 (by omega))] at qbx
   have hdm:=dfs_more b (r,p) RE
   have hwx:(moreB b (r,p) RE).winds = b.winds:=rfl
   have hpos:Nat.beq 9 1 = false:=rfl
   obtain ⟨fr,q15⟩:=lBk15 b hb (r,p) RE hRE2.1 (planOfW b ws) T (.box [i b.last,i b.rows,i b.places,i RE,li b.face,li b.sun,lli b.winds,.list false (b.breaks.map encP ++ [[i r,i p]]),.list false (b.notes.map encP)]) 4 b.rows.toNat 0 (by omega)
   have q15:=fun n m=>q15 n (m + 100) (by omega)
   by_cases hE:dfsW b [] b.winds [] = []
   ·have slnil:sl ([]:List (List V)) = .nil:=rfl
    rw [if_pos (by rw [hE]; rfl)] at qb
    rw [if_pos (by rw [hwx,hdm.2 hE]; rfl)] at qbx
    generalize playP b (planOfW b ws) T b.rows.toNat = K at *
    generalize playP (moreB b (r,p) RE) (planOfW b ws) T b.rows.toNat = L at *
    generalize planOfW b ws = P at *
    generalize (manyN b.winds:Int) = mm at *
    simp only [cellsB,cellsR,moreB,li,List.map_nil,List.map_append,List.map_cons,slnil] at qr qm qn qp qB qBx qP1 qPx qs qsx qb qbx q15 ⊢
    simp [encHs,encH,encP] at qP1 qPx qs qsx qBx qbx q15
    simp [c4,argFr,qr,qm,qn,qp,qB,qBx,qP1,qPx,qli,qt,qs,qsx,qb,qbx,q15,encI,encL,encP,encW,encHs,encH,kAwakeX,convU8,convU16,apK,plK,a1,a2,w1,w2,w3,hwr,wr1,wr2,wr3,wr4,wr5,m1,m2,m3,m4,hm,hmz,hrn,hpn,hbr',put_eqX,hc8,hc16,← hRE,placeL,placeS,placeOf,anyK,celK,hpos]
   ·have ha:=asked_dfs hb hE
    have hE2:dfsW (moreB b (r,p) RE) [] b.winds [] ≠ []:=fun h=>hE (hdm.1 h)
    have hax:=asked_dfs hx hE2
    have hle:=best_moreB hb hRE2.1 hx ha hax (most:=mo) (by omega)
    rw [if_neg (by simpa using hE)] at qb
    rw [if_neg (by rw [hwx]; simpa using hE2)] at qbx
    have hbp:bestPl b (windsA b) mo ≠ []:=fun h=>by
     have:=(plan_of (best_spec hb (windsA b) (most:=mo) (by omega)).1.1).len
     rw [h] at this; simp at this; omega
    have hxp:bestPl (moreB b (r,p) RE) (windsA (moreB b (r,p) RE)) mo ≠ []:=fun h=>by
     have:=(plan_of (best_spec hx (windsA (moreB b (r,p) RE)) (most:=mo) (by omega)).1.1).len
     rw [h] at this
     change ((0:Nat):Int) = b.last + 1 at this
     omega
    rw [slX hbp] at qb
    rw [slX hxp] at qbx
    have hle':¬ bestV (moreB b (r,p) RE) (windsA (moreB b (r,p) RE)) mo < bestV b (windsA b) mo:=by omega
    generalize bestV b (windsA b) mo = V1 at *
    generalize bestPl b (windsA b) mo = W1 at *
    generalize bestV (moreB b (r,p) RE) (windsA (moreB b (r,p) RE)) mo = V2 at *
    generalize bestPl (moreB b (r,p) RE) (windsA (moreB b (r,p) RE)) mo = W2 at *
    generalize playP b (planOfW b ws) T b.rows.toNat = K at *
    generalize playP (moreB b (r,p) RE) (planOfW b ws) T b.rows.toNat = L at *
    generalize planOfW b ws = P at *
    generalize (manyN b.winds:Int) = mm at *
    simp only [cellsB,cellsR,moreB,li,List.map_nil,List.map_append,List.map_cons] at qr qm qn qp qB qBx qP1 qPx qs qsx qb qbx q15 ⊢
    simp [encHs,encH,encP] at qP1 qPx qs qsx qBx qbx q15
    simp [c4,argFr,qr,qm,qn,qp,qB,qBx,qP1,qPx,qli,qt,qs,qsx,qb,qbx,q15,encI,encL,encP,encW,encHs,encH,kAwakeX,convU8,convU16,apK,plK,a1,a2,w1,w2,w3,hwr,wr1,wr2,wr3,wr4,wr5,m1,m2,m3,m4,hm,hmz,hrn,hpn,hbr',put_eqX,hc8,hc16,← hRE,placeL,placeS,placeOf,anyK,celK,hpos,hle']
  ·have hbr':3 < (b.breaks.length:Int):=by omega
   simp only [cellsB] at qr ⊢
   simp [c4,argFr,qr,encI,encL,encP,encW,kAwakeX,hbr']
end Go.Proofs.Try.Op
