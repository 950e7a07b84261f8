/- The mirrored beach: the plain law. No program in sight. -/
import Derived.Test.YtkemmiljbaneoaaGreatI1
import Derived.Test.YtkemmiljbaneoaaGreatJ1
import Derived.Test.YtkemmiljbaneoaaGreatFz
import Derived.Test.YtkemmiljbaneoaaGreatX1
import Derived.Test.YtkemmiljbaneoaaGreatW1
import Derived.Test.YtkemmiljbaneoaaGreatW4
namespace Go.Wind
/-! ### Mirrored directions -/
def flipI (n:Int):Int:=if n = 1∨n = 3 then 4 - n else n
theorem flip_flip (n:Int):flipI (flipI n) = n:=by
 unfold flipI
 split
 ·rw [if_pos (by omega)]; omega
 ·rfl
theorem flip_dir {n:Int} (h:0≤n∧n≤3):0≤flipI n∧flipI n≤3:=by unfold flipI; split <;> omega
theorem flip_inj {x y:Int}:flipI x = flipI y ↔ x = y:=⟨fun h=>by rw [← flip_flip x,h,flip_flip],fun h=>by rw [h]⟩
def flipL (l:List Int):List Int:=l.map flipI
theorem flipL_flip (l:List Int):flipL (flipL l) = l:=by
 unfold flipL
 rw [List.map_map,show flipI ∘ flipI = id from funext flip_flip,List.map_id]
theorem flipL_len (l:List Int):(flipL l).length = l.length:=List.length_map _
theorem flipL_getD (l:List Int) (i:Nat):(flipL l).getD i 0 = flipI (l.getD i 0):=by
 unfold flipL
 rw [List.getD_eq_getElem?_getD,List.getD_eq_getElem?_getD,List.getElem?_map]
 cases l[i]? <;> rfl
def flipP (plan:List (List Int)):List (List Int):=plan.map flipL
theorem flipP_flip (plan:List (List Int)):flipP (flipP plan) = plan:=by
 unfold flipP
 rw [List.map_map,show flipL ∘ flipL = id from funext flipL_flip,List.map_id]
theorem flipP_at (plan:List (List Int)) (h r:Nat):planAt (flipP plan) h r = flipI (planAt plan h r):=by
 unfold planAt
 rw [← flipL_getD]
 congr 1
 unfold flipP
 rw [List.getD_eq_getElem?_getD,List.getD_eq_getElem?_getD,List.getElem?_map]
 cases plan[h]? <;> rfl
def mirW (l:List Int):List Int:=four.filter fun n=>decide (flipI n ∈ l)
theorem mem_mirW {l:List Int} {n:Int}:n ∈ mirW l ↔ (0≤n∧n≤3)∧flipI n ∈ l:=by
 unfold mirW
 rw [List.mem_filter,mem_four]
 simp
theorem inc_four (p:Int→Bool):incB (four.filter p) = true:=by
 unfold four
 cases h0:p 0 <;> cases h1:p 1 <;> cases h2:p 2 <;> cases h3:p 3 <;> simp [List.filter,h0,h1,h2,h3,incB]
theorem mirW_ok {l:List Int} (h:windOk l = true):windOk (mirW l) = true:=by
 simp only [windOk,Bool.and_eq_true,Bool.not_eq_true',dirsB,List.all_eq_true] at h ⊢
 obtain ⟨⟨h1,h2⟩,_⟩:=h
 refine ⟨⟨?_,fun n hn=>inI_iff.2 (mem_mirW.1 hn).1⟩,inc_four _⟩
 cases l with
 | nil=>simp at h1
 | cons x r =>
  have:flipI x ∈ mirW (x :: r):=mem_mirW.2 ⟨flip_dir (inI_iff.1 (h2 x (by simp))),by rw [flip_flip]; simp⟩
  cases hm:mirW (x :: r) with
  | nil=>rw [hm] at this; cases this
  | cons _ _=>rfl
def mirS (b:Beach) (s:Int × Int):Int × Int:=(s.1,b.places - 1 - s.2)
def mirN (x:Int × Int):Int × Int:=(x.1,flipI x.2)
def mirB (b:Beach):Beach:={ b with face:=flipL b.face,sun:=flipL b.sun,winds:=b.winds.map mirW,breaks:=b.breaks.map (mirS b),notes:=b.notes.map mirN }
theorem mir_valid {b:Beach} (hb:Valid b):Valid (mirB b):=by
 obtain ⟨la,ro,pl,re,br,no,fa,su,wi,fd,sd,wo,bo,nok⟩:=hb
 refine ⟨la,ro,pl,re,by simpa [mirB] using br,by simpa [mirB] using no,by simpa [mirB,flipL] using fa,by simpa [mirB,flipL] using su,by simpa [mirB] using wi,?_,?_,?_,?_,?_⟩
 ·simp only [dirsB,List.all_eq_true,mirB,flipL,List.mem_map] at fd ⊢
  rintro _ ⟨x,hx,rfl⟩
  exact inI_iff.2 (flip_dir (inI_iff.1 (fd x hx)))
 ·simp only [dirsB,List.all_eq_true,mirB,flipL,List.mem_map] at sd ⊢
  rintro _ ⟨x,hx,rfl⟩
  have:=inI_iff.1 (sd x hx)
  rw [inI_iff]
  unfold flipI
  split <;> omega
 ·simp only [List.all_eq_true,mirB,List.mem_map] at wo ⊢
  rintro _ ⟨l,hl,rfl⟩
  exact mirW_ok (wo l hl)
 ·simp only [List.all_eq_true,mirB,List.mem_map] at bo ⊢
  rintro _ ⟨s,hs,rfl⟩
  have:=bo s hs
  simp only [isSpotB,Bool.and_eq_true,inI_iff,mirS] at this ⊢
  omega
 ·simp only [List.all_eq_true,mirB,List.mem_map] at nok ⊢
  rintro _ ⟨s,hs,rfl⟩
  have:=nok s hs
  simp only [noteOk,Bool.and_eq_true,inI_iff,mirN] at this ⊢
  exact ⟨this.1,flip_dir this.2⟩
/-! ### The hours -/
theorem far_mir (b:Beach) (s k:Int × Int) (w:Int):farP (mirS b s) (mirS b k) (flipI w) = farP s k w:=by
 have e1:(b.places - 1 - k.2 = b.places - 1 - s.2) ↔ k.2 = s.2:=by omega
 unfold farP mirS flipI
 simp only [e1]
 by_cases h1:w = 1
 ·subst h1
  by_cases hk:k.1 = s.1
  ·simp [hk]; omega
  ·simp [hk]
 by_cases h3:w = 3
 ·subst h3
  by_cases hk:k.1 = s.1
  ·simp [hk]; omega
  ·simp [hk]
 simp [h1,h3]
theorem broken_mir (b:Beach) (s:Int × Int) (w:Int):brokenP (mirB b) (mirS b s) (flipI w) = brokenP b s w:=by
 unfold brokenP
 simp only [mirB,List.any_map]
 congr 1
 funext k
 simp only [Function.comp,far_mir]
theorem calm_mir (b:Beach) (s:Int × Int) (f:Int) {w:Int} (hw:0≤w∧w≤3):calmP (mirB b) (mirS b s) (flipI f) (flipI w) = calmP b s f w:=by
 unfold calmP
 rw [broken_mir]
 have h1:w = 0∨w = 1∨w = 2∨w = 3:=by omega
 have:(flipI w + 2) % 4 = flipI ((w + 2) % 4):=by rcases h1 with rfl | rfl | rfl | rfl <;> decide
 rw [this]
 simp only [flip_inj]
theorem lit_mir (b:Beach) (plan:List (List Int)) (r h:Nat):litB (mirB b) (flipP plan) r h = litB b plan r h:=by
 unfold litB
 simp only [mirB,flipP_at,flipL_getD,flip_inj]
theorem truth_dir {b:Beach} (hb:Valid b) {t:List Int} (ht:listedGo t b.winds = true) {h:Nat} (hh:h < t.length):0≤t.getD h 0∧t.getD h 0≤3:=by
 have hl:=listed_len ht
 rw [List.getD_eq_getElem?_getD,List.getElem?_eq_getElem hh]
 have h1:=listed_at ht h hh (by omega)
 have h2:=List.all_eq_true.1 hb.wo _ (List.getElem_mem (show h < b.winds.length by omega))
 simp only [windOk,dirsB,Bool.and_eq_true,List.all_eq_true] at h2
 exact inI_iff.1 (h2.1.2 _ h1)
theorem hours_mir {b:Beach} (hb:Valid b) (plan:List (List Int)) {t:List Int} (ht:listedGo t b.winds = true) (r:Nat) {p:Nat} (hp:p < b.places.toNat):hoursP (mirB b) (flipP plan) (flipL t) r (b.places.toNat - 1 - p) = hoursP b plan t r p:=by
 have hpl:=hb.pl
 have e:(((r:Int),((b.places.toNat - 1 - p:Nat):Int)):Int × Int) = mirS b ((r:Int),(p:Int)):=by
  unfold mirS
  exact Prod.ext rfl (by simp only; omega)
 have hc:∀ h,h < t.length→calmAt (mirB b) (flipP plan) (flipL t) r (b.places.toNat - 1 - p) h = calmAt b plan t r p h:=fun h hh=>by
  unfold calmAt
  rw [e,flipP_at,flipL_getD,calm_mir b _ _ (truth_dir hb ht hh)]
 have hl:litB (mirB b) (flipP plan) r = litB b plan r:=funext fun h=>lit_mir b plan r h
 unfold hoursP hoursB
 rw [hl,flipL_len,cnt_congr hc,cnt_congr (f:=fun h=>litB b plan r h && calmAt (mirB b) (flipP plan) (flipL t) r (b.places.toNat - 1 - p) h) fun h hh=>by rw [hc h hh]]
theorem sumU_rev:∀ (n:Nat) (g:Nat→Int),sumU (fun i=>g (n - 1 - i)) n = sumU g n
 | 0,_=>rfl
 | n + 1,g=>by
  rw [sumU_shift g n,← sumU_rev n fun i=>g (i + 1)]
  show sumU (fun i=>g (n + 1 - 1 - i)) n + g (n + 1 - 1 - n) = _
  rw [show n + 1 - 1 - n = 0 by omega,sumU_congr (f:=fun i=>g (n + 1 - 1 - i)) (g:=fun i=>g (n - 1 - i + 1)) fun i hi=>by rw [show n + 1 - 1 - i = n - 1 - i + 1 by omega]]
  omega
theorem tot_mir {b:Beach} (hb:Valid b) (plan:List (List Int)) {t:List Int} (ht:listedGo t b.winds = true):totT (mirB b) (flipP plan) (flipL t) = totT b plan t:=by
 unfold totT
 refine sumU_congr fun r _=>?_
 have hp:(mirB b).places = b.places:=rfl
 rw [hp,← sumU_rev b.places.toNat fun p=>(hoursP (mirB b) (flipP plan) (flipL t) r p).good]
 exact sumU_congr fun p hp=>by rw [hours_mir hb plan ht r hp]
/-! ### The truths -/
theorem listed_mir:∀ {ws:List (List Int)} {t:List Int},(∀ l ∈ ws,∀ x ∈ l,0≤x∧x≤3)→(listedGo (flipL t) (ws.map mirW) = true ↔ listedGo t ws = true)
 | [],[],_=>by simp [flipL,listedGo]
 | [],_ :: _,_=>by simp [flipL,listedGo]
 | _ :: _,[],_=>by simp [flipL,listedGo]
 | l :: ws,x :: t,h=>by
  have ih:=listed_mir (ws:=ws) (t:=t) fun l hl=>h l (List.mem_cons_of_mem _ hl)
  unfold flipL at ih ⊢
  simp only [List.map_cons,listedGo,Bool.and_eq_true,decide_eq_true_eq,ih,mem_mirW,flip_flip]
  constructor
  ·exact fun ⟨⟨_,h1⟩,h2⟩=>⟨h1,h2⟩
  ·exact fun ⟨h1,h2⟩=>⟨⟨flip_dir (h l (by simp) x h1),h1⟩,h2⟩
theorem winds_dir {b:Beach} (hb:Valid b):∀ l ∈ b.winds,∀ x ∈ l,0≤x∧x≤3:=fun l hl x hx=>by
 have h2:=List.all_eq_true.1 hb.wo _ hl
 simp only [windOk,dirsB,Bool.and_eq_true,List.all_eq_true] at h2
 exact inI_iff.1 (h2.1.2 _ hx)
theorem truth_mir {b:Beach} (hb:Valid b) {t:List Int}:flipL t ∈ truthsR (mirB b) ↔ t ∈ truthsR b:=by
 rw [mem_truths,mem_truths]
 have e:(rightB (flipL t)) ∘ mirN = rightB t:=funext fun x=>by
  simp only [Function.comp,rightB,mirN,atI,flipL_getD]
  exact decide_eq_decide.2 flip_inj
 unfold isTruthB
 rw [Bool.and_eq_true,Bool.and_eq_true,show (mirB b).winds = b.winds.map mirW from rfl,listed_mir (winds_dir hb),show (mirB b).notes = b.notes.map mirN from rfl,List.all_map,e]
theorem truth_rim {b:Beach} (hb:Valid b) {t:List Int} (h:t ∈ truthsR (mirB b)):flipL t ∈ truthsR b:=(truth_mir hb).1 (by rwa [flipL_flip])
/-! ### Plans, work, the best -/
theorem plan_mir {b:Beach} {plan:List (List Int)} (h:isPlanB b plan = true):isPlanB (mirB b) (flipP plan) = true:=by
 simp only [isPlanB,Bool.and_eq_true,List.all_eq_true,decide_eq_true_eq,flipP,List.length_map,List.mem_map] at h ⊢
 refine ⟨?_,h.2⟩
 rintro _ ⟨l,hl,rfl⟩
 obtain ⟨h1,h2⟩:=h.1 l hl
 refine ⟨by rw [flipL_len]; exact h1,?_⟩
 simp only [dirsB,List.all_eq_true,flipL,List.mem_map] at h2 ⊢
 rintro _ ⟨x,hx,rfl⟩
 exact inI_iff.2 (flip_dir (inI_iff.1 (h2 x hx)))
theorem turn_mir {x y:Int} (hx:0≤x∧x≤3) (hy:0≤y∧y≤3):turnI (flipI x) (flipI y) = turnI x y:=by
 have h1:x = 0∨x = 1∨x = 2∨x = 3:=by omega
 have h2:y = 0∨y = 1∨y = 2∨y = 3:=by omega
 rcases h1 with rfl | rfl | rfl | rfl <;> rcases h2 with rfl | rfl | rfl | rfl <;> decide
theorem work_mir {b:Beach} (hb:Valid b) {plan:List (List Int)} (hp:PlanOf b plan):workP (mirB b) (flipP plan) = workP b plan:=by
 unfold workP workH
 rw [show (flipP plan).length = plan.length from List.length_map _]
 refine sumU_congr fun h hh=>sumU_congr fun r hr=>?_
 have e:facesAt (mirB b) (flipP plan) h r = flipI (facesAt b plan h r):=by
  unfold facesAt
  by_cases h0:h = 0
  ·rw [if_pos h0,if_pos h0]; exact flipL_getD _ _
  ·rw [if_neg h0,if_neg h0]; exact flipP_at _ _ _
 rw [e,flipP_at,turn_mir (facesAt_dir hb hp (by omega) hr) (plan_dir hp hh hr)]
 rfl
theorem best_mir {b:Beach} (hb:Valid b) {ws wx:List (List Int)} (ha:Asked b ws) (hax:Asked (mirB b) wx) {most:Int} (hm:0≤most):bestV (mirB b) wx most = bestV b ws most:=by
 have hx:=mir_valid hb
 refine Int.le_antisymm (best_le hx hb flipP hm fun plan hp=>?_) (best_le hb hx flipP hm fun plan hp=>?_)
 ·have hp':isPlanB b (flipP plan) = true:=plan_mir (b:=mirB b) hp
  refine ⟨hp',?_,?_⟩
  ·rw [← work_mir hb (plan_of hp'),flipP_flip]
   exact Int.le_refl _
  ·obtain ⟨i1,_⟩:=totalP_is hx hax (plan_of hp)
   obtain ⟨j1,_⟩:=totalP_is hb ha (plan_of hp')
   obtain ⟨t,h1,h2⟩:=j1.at'
   have h3:=i1.le _ ((truth_mir hb).2 h1)
   have h4:=tot_mir hb (flipP plan) (truth_listed h1)
   rw [flipP_flip] at h4
   omega
 ·refine ⟨plan_mir hp,Int.le_of_eq (work_mir hb (plan_of hp)),?_⟩
  obtain ⟨i1,_⟩:=totalP_is hb ha (plan_of hp)
  obtain ⟨j1,_⟩:=totalP_is hx hax (plan_of (plan_mir hp))
  obtain ⟨t,h1,h2⟩:=j1.at'
  have h3:=i1.le _ (truth_rim hb h1)
  have h4:=tot_mir hb plan (truth_listed (truth_rim hb h1))
  rw [flipL_flip] at h4
  omega
end Go.Wind
/- Contracts: flip, flips. No condition but short lists. -/
open Go Go.Pg Go.Proofs Go.Wind
namespace Go.Proofs.Tryz.Op
set_option maxRecDepth 100000
set_option linter.unusedSimpArgs false
theorem kFlip (n:Nat) (x:Int) (hx:-1≤x∧x≤3):callK Tryz.prog kn (execA Tryz.prog ann kn (n+100)) 52 [i x] = some (i (flipI x)):=by
 rw [callK_of rfl,call0_eq Tryz.func52 b52 rfl (by simp)]
 have h:x = -1∨x = 0∨x = 1∨x = 2∨x = 3:=by omega
 rcases h with rfl | rfl | rfl | rfl | rfl <;> simp [c52,argFr,flipI] <;> rfl
theorem lFlips (xs:List Int) (h1:xs.length≤100) (h2:∀ x ∈ xs,-1≤x∧x≤3):∀ (d k c γ:Nat),k + d = xs.length→∃ fr c' γ',getF fr 3 = some (true,pv 18 γ' ((flipL xs).map encI))∧∀ n m,d < m→loopA (execA Tryz.prog ann kn (n+200) 20) lb50_3 (ann 20 (fstR lb50_3)) m ⟨c,[(0,true,li xs),(3,true,pv 18 γ ((flipL (xs.take k)).map encI)),(4,true,i k)],⟨[],pl 18 γ 3 ((flipL (xs.take k)).map encI)⟩⟩ =
  some (.exit 0,⟨c',fr,⟨[],pl 18 γ' 3 ((flipL xs).map encI)⟩⟩)
 | 0,k,c,γ,hk=>by
  have:k = xs.length:=by omega
  subst this
  rw [List.take_length]
  refine ⟨?fr,c,γ,?_,fun n m hm=>?_⟩
  rotate_left 2
  ·obtain ⟨m,rfl⟩:∃ m',m = m' + 1:=⟨m - 1,by omega⟩
   rw [loopA_succ]
   simp
   rfl
  ·simp
 | d + 1,k,c,γ,hk=>by
  have hk':k < xs.length:=by omega
  have hw:=wrapS (k:=k) (by omega)
  have q:=fun n=>kFlip n xs[k] (h2 _ (List.getElem_mem hk'))
  have htl:(flipL (xs.take k)).length = k:=by rw [flipL_len,List.length_take]; omega
  have ha:appOK Tryz.prog 3 (flipL (xs.take k)).length [[i (flipI xs[k])]] = true:=by
   have:=appI (k:=(flipL (xs.take k)).length) (l:=[flipI xs[k]]) (by rw [List.length_singleton]; omega)
   simpa [encI] using this
  obtain ⟨fr,c',γ',e1,ih⟩:=lFlips xs h1 h2 d (k + 1) (c + 1) c (by omega)
  refine ⟨fr,c',γ',e1,fun n m hm=>?_⟩
  obtain ⟨m,rfl⟩:∃ m',m = m' + 1:=⟨m - 1,by omega⟩
  have ih:=ih n m (by omega)
  have hst:flipL (xs.take (k + 1)) = flipL (xs.take k) ++ [flipI xs[k]]:=by rw [List.take_succ_eq_append_getElem hk',flipL,List.map_append]; rfl
  rw [hst] at ih
  generalize flipL (xs.take k) = acc at *
  generalize flipL xs = fin at *
  rw [loopA_succ]
  simp [encI] at ih
  simp [hk',hw,encI,q,ha,ih]
theorem kFlips (n:Nat) (xs:List Int) (h1:xs.length≤100) (h2:∀ x ∈ xs,-1≤x∧x≤3):callK Tryz.prog kn (execA Tryz.prog ann kn (n+400)) 50 [li xs] = some (sl ((flipL xs).map encI)):=by
 rw [callK_of rfl,call0_eq Tryz.func50 b50 rfl (by simp [encI])]
 obtain ⟨fr,c',γ',e1,q⟩:=lFlips xs h1 h2 xs.length 0 0 0 (by omega)
 have q:=fun n m=>q n (m + 200) (by omega)
 simp [flipL] at q e1
 simp [c50,argFr,q,e1,flipL]
 simp [encI]
@[simp] theorem sr_flips:sliceR Tryz.prog 50 = true:=by kernel_rfl
theorem oFlips (n:Nat) (xs:List Int) (h1:xs.length≤100) (h2:∀ x ∈ xs,-1≤x∧x≤3) (hne:xs ≠ []):callO1 Tryz.prog (execA Tryz.prog ann kn (n+400)) 50 [li xs] = some ⟨.vec 3 ((flipL xs).map encI),none⟩:=by
 rw [callO1_eq Tryz.func50 b50 rfl (by simp [encI])]
 obtain ⟨fr,c',γ',e1,q⟩:=lFlips xs h1 h2 xs.length 0 0 0 (by omega)
 have q:=fun n m=>q n (m + 200) (by omega)
 cases hx:flipL xs with
 | nil =>
  have:=flipL_len xs
  rw [hx] at this
  exact absurd (List.eq_nil_of_length_eq_zero this.symm) hne
 | cons x r =>
  rw [hx] at q e1
  simp [flipL] at q e1
  simp [c50,argFr,q,e1,retO_eq]
  exact rO_pv (P:=Tryz.prog) (R:=22) (T:=3) (by kernel_rfl) (by simp) _ _ _ 18 γ' ((x :: r).map encI) (by simp) (by simp [encI])
end Go.Proofs.Tryz.Op
/- WindMirror: its loops. No condition. -/
open Go Go.Pg Go.Proofs Go.Wind
namespace Go.Proofs.Tryz.Op
set_option maxRecDepth 100000
set_option linter.unusedSimpArgs false
theorem convU8m (k:IntKind) (n:Int):evConv Tryz.prog 5 3 (.int k n) = some (.int .i64 (IntKind.i64.wrap n)):=by
 kernel_rfl
theorem convW (k:IntKind) (n:Int):evConv Tryz.prog 95 3 (.int k n) = some (.int .i64 (IntKind.i64.wrap n)):=by
 unfold evConv
 simp
theorem dirs_of {l:List Int} {lo:Int} (h:dirsB l lo = true):∀ x ∈ l,lo≤x∧x≤3:=fun x hx=>inI_iff.1 (List.all_eq_true.1 h x hx)
def mirT (l:List Int):Nat→List Int
 | 0=>[]
 | m + 1=>mirT l m ++ (if decide (flipI (m:Int) ∈ l) = true then [(m:Int)] else [])
theorem mirT_len (l:List Int):∀ m,(mirT l m).length≤m
 | 0=>Nat.le_refl _
 | m + 1=>by
  have:=mirT_len l m
  simp only [mirT,List.length_append]
  split <;> simp <;> omega
theorem mirT_four (l:List Int):mirT l 4 = mirW l:=by
 unfold mirW four
 rw [show [0,1,2,3] = [(0:Int)] ++ ([1] ++ ([2] ++ [3])) from rfl,List.filter_append,List.filter_append,List.filter_append]
 have e:∀ m:Int,[m].filter (fun n=>decide (flipI n ∈ l)) = if decide (flipI m ∈ l) = true then [m] else []:=fun m=>by
  cases h:decide (flipI m ∈ l) <;> simp only [List.filter,h] <;> rfl
 rw [e,e,e,e]
 simp only [mirT,List.nil_append,List.append_assoc]
 rfl
abbrev boxM (b:Beach) (F S:List Int) (v6 v7 v8:V):Res:=.box [i b.last,i b.rows,i b.places,i b.reach,.vec 0 38 2 F.length,.vec 0 41 3 S.length,v6,v7,v8]
theorem lM10 (b:Beach) (hb:Valid b) (h:Nat) (hh:h < b.winds.length) (F S:List Int) (es:List (List V)) (γr:Nat) (v1 v2 v3:V):∀ (e m c γ:Nat),m + e = 4→3 < c→∃ (c' γ':Nat),c≤c'∧∀ n k,e < k→loopA (execA Tryz.prog ann kn (n+500) 254) lb9_10 (ann 254 (fstR lb9_10)) k ⟨c,[(1,true,v1),(2,true,v2),(3,true,v3),(4,true,.ptr 0 4 0 0),(9,true,.ptr 0 9 1 0),(10,true,i h),(11,true,pv 68 γ ((mirT b.winds[h] m).map encI)),(12,true,i m)],⟨[],(4,0,.box (cellsB b)) :: (9,1,boxM b F S (pv 73 γr es) .nil .nil) :: (38,2,.vec 3 (F.map encI)) :: (41,3,.vec 3 (S.map encI)) :: (pl 68 γ 3 ((mirT b.winds[h] m).map encI) ++ pl 73 γr 22 es)⟩⟩ =
  some (.exit 2,⟨c',[(54,true,.bool false),(53,true,i 4),(1,true,v1),(2,true,v2),(3,true,v3),(4,true,.ptr 0 4 0 0),(9,true,.ptr 0 9 1 0),(10,true,i h),(11,true,pv 68 γ' ((mirT b.winds[h] 4).map encI)),(12,true,i 4)],⟨[],(4,0,.box (cellsB b)) :: (9,1,boxM b F S (pv 73 γr es) .nil .nil) :: (38,2,.vec 3 (F.map encI)) :: (41,3,.vec 3 (S.map encI)) :: (pl 68 γ' 3 ((mirT b.winds[h] 4).map encI) ++ pl 73 γr 22 es)⟩⟩)
 | 0,m,c,γ,hm,hc=>by
  obtain rfl:m = 4:=by omega
  refine ⟨c,γ,Nat.le_refl _,fun n k hk=>?_⟩
  obtain ⟨k,rfl⟩:∃ k',k = k' + 1:=⟨k - 1,by omega⟩
  generalize mirT b.winds[h] 4 = acc
  rw [loopA_succ]
  cases acc <;> cases es <;> simp [cellsB]
 | e + 1,m,c,γ,hm,hc=>by
  have hm4:(m:Int) < 4:=by omega
  have hw:=wrapS (k:=m) (by omega)
  have hln:=mirT_len b.winds[h] m
  have hap:appOK Tryz.prog 3 (mirT b.winds[h] m).length [[i m]] = true:=by
   have:=appI (k:=(mirT b.winds[h] m).length) (l:=[(m:Int)]) (by rw [List.length_singleton]; omega)
   simpa [encI] using this
  have hwn:mirT b.winds[h] (m + 1) = mirT b.winds[h] m ++ (if decide (flipI (m:Int) ∈ b.winds[h]) = true then [(m:Int)] else []):=rfl
  have qH:=fun n=>kHas n b.winds[h] (flipI (m:Int)) (by have:=hb.wl b.winds[h] (List.getElem_mem hh); omega)
  have qF:=fun n=>kFlip n (m:Int) (by omega)
  generalize flipI (m:Int) = fm at *
  generalize e2:decide (fm ∈ b.winds[h]) = z2 at hwn qH
  cases z2 with
  | true =>
   obtain ⟨c',γ',hcc,ih⟩:=lM10 b hb h hh F S es γr v1 v2 v3 e (m + 1) (c + 1) c (by omega) (by omega)
   refine ⟨c',γ',by omega,fun n k hk=>?_⟩
   obtain ⟨k,rfl⟩:∃ k',k = k' + 1:=⟨k - 1,by omega⟩
   have ih:=ih n k (by omega)
   rw [hwn,if_pos rfl] at ih
   generalize mirT b.winds[h] 4 = fin at *
   generalize mirT b.winds[h] m = acc at *
   rw [loopA_succ]
   simp only [cellsB] at ih ⊢
   cases acc with
   | nil=>cases es <;> (simp [encI,pv] at ih hap; simp [hm4,hw,hh,hap,encI,encL,qH,qF,ih,plK,apK,put_eqX,pv])
   | cons a acc=>cases es <;> (simp [encI] at ih hap; simp [hm4,hw,hh,hap,encI,encL,qH,qF,ih,plK,apK,put_eqX])
  | false =>
   obtain ⟨c',γ',hcc,ih⟩:=lM10 b hb h hh F S es γr v1 v2 v3 e (m + 1) c γ (by omega) (by omega)
   refine ⟨c',γ',by omega,fun n k hk=>?_⟩
   obtain ⟨k,rfl⟩:∃ k',k = k' + 1:=⟨k - 1,by omega⟩
   have ih:=ih n k (by omega)
   rw [hwn,if_neg (by decide),List.append_nil] at ih
   generalize mirT b.winds[h] 4 = fin at *
   generalize mirT b.winds[h] m = acc at *
   rw [loopA_succ]
   simp only [cellsB] at ih ⊢
   cases acc <;> cases es <;> (simp [encI] at ih; simp [hm4,hw,hh,encI,encL,qH,qF,ih,plK,apK,put_eqX])
theorem told_encL (l k:Nat) (x:Option (Nat × Res)) (T:Nat):(List.map (toldV l k x T)) ∘ encL = encL:=by
 funext l
 cases T <;> simp [encL,toldV]
theorem told_encI (l k:Nat) (x:Option (Nat × Res)) (T:Nat):(List.map (toldV l k x T)) ∘ encI = encI:=by
 funext l
 cases T <;> simp [encI,toldV]
theorem get_plA {k j γ γ':Nat} {T T':TypeId} {es fs:List (List V)} (h:j ≠ k):Level.get (pl k γ T es ++ pl j γ' T' fs) k = Level.get (pl k γ T es) k:=by
 cases es <;> cases fs <;> simp [Level.get,Ne.symm h]
theorem get_plB {k j γ γ':Nat} {T T':TypeId} {es fs:List (List V)} (h:j ≠ k):Level.get (pl k γ T es ++ pl j γ' T' fs) j = Level.get (pl j γ' T' fs) j:=by
 cases es <;> cases fs <;> simp [Level.get,h]
theorem told_encP (l k:Nat) (x:Option (Nat × Res)) (T:Nat):(List.map (toldV l k x T)) ∘ encP = encP:=by
 funext l
 cases T <;> simp [encP,toldV]
theorem lM6 (b:Beach) (hb:Valid b) (F S:List Int) (w κ:Nat) (W2:List (List V)):∀ (e h c γr:Nat),h + e = b.winds.length→3 < c→∃ (c' γ':Nat),c≤c'∧∀ n k,e < k→loopA (execA Tryz.prog ann kn (n+800) 254) lb9_6 (ann 254 (fstR lb9_6)) k ⟨c,[(1,true,.int .u16 w),(2,true,.list false W2),(3,true,.int .u8 κ),(4,true,.ptr 0 4 0 0),(9,true,.ptr 0 9 1 0),(10,true,i h)],⟨[],(4,0,.box (cellsB b)) :: (9,1,boxM b F S (pv 73 γr (((b.winds.take h).map mirW).map encL)) .nil .nil) :: (38,2,.vec 3 (F.map encI)) :: (41,3,.vec 3 (S.map encI)) :: pl 73 γr 22 (((b.winds.take h).map mirW).map encL)⟩⟩ =
  some (.exit 0,⟨c',[(50,true,.bool false),(49,true,i b.last),(48,true,.ptr 0 4 0 0),(47,true,i (b.last + 1)),(1,true,.int .u16 w),(2,true,.list false W2),(3,true,.int .u8 κ),(4,true,.ptr 0 4 0 0),(9,true,.ptr 0 9 1 0),(10,true,i (b.last + 1))],⟨[],(4,0,.box (cellsB b)) :: (9,1,boxM b F S (pv 73 γ' ((b.winds.map mirW).map encL)) .nil .nil) :: (38,2,.vec 3 (F.map encI)) :: (41,3,.vec 3 (S.map encI)) :: pl 73 γ' 22 ((b.winds.map mirW).map encL)⟩⟩)
 | 0,h,c,γr,hm,hc=>by
  have hwi:=hb.wi
  obtain rfl:h = b.winds.length:=by omega
  rw [List.take_length]
  have h3:¬ (b.last + 1≤b.last):=by omega
  refine ⟨c,γr,Nat.le_refl _,fun n k hk=>?_⟩
  obtain ⟨k,rfl⟩:∃ k',k = k' + 1:=⟨k - 1,by omega⟩
  generalize b.winds.map mirW = R
  rw [loopA_succ]
  cases R <;> simp [cellsB,hwi,h3]
 | e + 1,h,c,γr,hm,hc=>by
  have hwi:=hb.wi
  have hla:=hb.la
  have hh:h < b.winds.length:=by omega
  have hle:(h:Int)≤b.last:=by omega
  have hw:=wrapS (k:=h) (by omega)
  have hRl:((b.winds.take h).map mirW).length = h:=by rw [List.length_map,List.length_take]; omega
  have hap:appOK Tryz.prog 22 ((b.winds.take h).map mirW).length [[li (mirW b.winds[h])]] = true:=by
   have:=appL (k:=((b.winds.take h).map mirW).length) (l:=[mirW b.winds[h]]) (by rw [List.length_singleton]; omega)
   simpa [encL] using this
  have hst:(b.winds.take (h + 1)).map mirW = (b.winds.take h).map mirW ++ [mirW b.winds[h]]:=by rw [List.take_succ_eq_append_getElem hh,List.map_append]; rfl
  have hwo:=mirW_ok (List.all_eq_true.1 hb.wo _ (List.getElem_mem hh))
  obtain ⟨a,r1,hM⟩:∃ a r1,mirW b.winds[h] = a :: r1:=List.exists_cons_of_ne_nil (fun e:mirW b.winds[h] = []=>by rw [e] at hwo; simp [windOk] at hwo)
  obtain ⟨c1,γ1,hcc,q10⟩:=lM10 b hb h hh F S (((b.winds.take h).map mirW).map encL) γr (.int .u16 w) (.list false W2) (.int .u8 κ) 4 0 c 0 (by omega) hc
  have q10:=fun n k=>q10 n (k + 100) (by omega)
  rw [mirT_four,show mirT b.winds[h] 0 = [] from rfl,hM] at q10
  obtain ⟨c',γ',hcc',ih⟩:=lM6 b hb F S w κ W2 e (h + 1) (c1 + 1) c1 (by omega) (by omega)
  refine ⟨c',γ',by omega,fun n k hk=>?_⟩
  obtain ⟨k,rfl⟩:∃ k',k = k' + 1:=⟨k - 1,by omega⟩
  have ih:=ih n k (by omega)
  rw [hst,hM] at ih
  rw [hM] at hap
  generalize b.winds.map mirW = fin at *
  generalize (b.winds.take h).map mirW = R at *
  rw [loopA_succ]
  simp only [cellsB] at ih q10 ⊢
  cases R with
  | nil =>
   simp [encI,encL,pv] at ih q10 hap
   simp only [li,List.map_cons,encI] at hap ih
   simp [hle,hw,q10,hap,show 0 < c1 by omega,encI,encL,ih,plK,apK,put_eqX,pv,told_encI,told_encL]
  | cons r R =>
   have slc:∀ (e:List V) (es:List (List V)),sl (e :: es) = .list false (e :: es):=fun _ _=>rfl
   simp [encI,encL] at ih q10 hap
   simp only [li,List.map_cons,encI] at hap ih
   simp [hle,hw,q10,hap,show 0 < c1 by omega,encI,encL,ih,plK,apK,put_eqX,told_encI,told_encL,slc]
theorem adV_nilW {P:Program} {fr:Fr} (e k c:Nat) (loc:Level) (y:List V) (ys:List (List V)) (hl:Level.get loc k = none) (h2:appOK P e 0 (y :: ys) = true):adV P e k c fr ⟨[],loc⟩ .nil (y :: ys) = some (⟨c + 1,(k,true,pv k c (y :: ys)) :: fr,⟨[],(k,c,.vec e (y :: ys)) :: loc⟩⟩,[(0,k),(0,k + apK)]) :=
 adV_pv e k c 0 loc [] y ys hl rfl h2
theorem app_spots {l:List (Int × Int)} {m:Nat} (h:m + l.length≤100000):appOK Tryz.prog 50 m (l.map encP) = true:=by
 rw [appOK_iff (by simp) (by simp)]
 simp [maxLen,encP]
 omega
theorem app_notesM {l:List (Int × Int)} {m:Nat} (h:m + l.length≤100000):appOK Tryz.prog 101 m (l.map encP) = true:=by
 rw [appOK_iff (by simp) (by simp)]
 simp [maxLen,encP]
 omega
theorem lM16 (b:Beach) (hb:Valid b) (F S:List Int) (w κ:Nat) (W2 e73:List (List V)) (γ3:Nat) (v6:V):∀ (e j c γ:Nat),j + e = b.breaks.length→3 < c→∃ (c' γ':Nat),c≤c'∧∀ n k,e < k→loopA (execA Tryz.prog ann kn (n+500) 254) lb9_16 (ann 254 (fstR lb9_16)) k ⟨c,[(1,true,.int .u16 w),(2,true,.list false W2),(3,true,.int .u8 κ),(4,true,.ptr 0 4 0 0),(9,true,.ptr 0 9 1 0),(13,true,i j)],⟨[],(4,0,.box (cellsB b)) :: (9,1,boxM b F S v6 (pv 102 γ (((b.breaks.take j).map (mirS b)).map encP)) .nil) :: (38,2,.vec 3 (F.map encI)) :: (41,3,.vec 3 (S.map encI)) :: (73,γ3,.vec 22 e73) :: pl 102 γ 50 (((b.breaks.take j).map (mirS b)).map encP)⟩⟩ =
  some (.exit 4,⟨c',[(79,true,.bool false),(78,true,i b.breaks.length),(77,true,.list false (b.breaks.map encP)),(76,true,.ptr 0 4 0 7),(75,true,i b.breaks.length),(1,true,.int .u16 w),(2,true,.list false W2),(3,true,.int .u8 κ),(4,true,.ptr 0 4 0 0),(9,true,.ptr 0 9 1 0),(13,true,i b.breaks.length)],⟨[],(4,0,.box (cellsB b)) :: (9,1,boxM b F S v6 (pv 102 γ' ((b.breaks.map (mirS b)).map encP)) .nil) :: (38,2,.vec 3 (F.map encI)) :: (41,3,.vec 3 (S.map encI)) :: (73,γ3,.vec 22 e73) :: pl 102 γ' 50 ((b.breaks.map (mirS b)).map encP)⟩⟩)
 | 0,j,c,γ,hm,hc=>by
  obtain rfl:j = b.breaks.length:=by omega
  rw [List.take_length]
  refine ⟨c,γ,Nat.le_refl _,fun n k hk=>?_⟩
  obtain ⟨k,rfl⟩:∃ k',k = k' + 1:=⟨k - 1,by omega⟩
  generalize b.breaks.map (mirS b) = R
  rw [loopA_succ]
  cases R <;> simp [cellsB]
 | e + 1,j,c,γ,hm,hc=>by
  have hbr:=hb.br
  have hpl:=hb.pl
  have hj:j < b.breaks.length:=by omega
  have hw:=wrapS (k:=j) (by omega)
  have hRl:((b.breaks.take j).map (mirS b)).length = j:=by rw [List.length_map,List.length_take]; omega
  have hsp:=List.all_eq_true.1 hb.bo _ (List.getElem_mem hj)
  simp only [isSpotB,Bool.and_eq_true,inI_iff] at hsp
  have w1:IntKind.i64.wrap (b.places - 1) = b.places - 1:=wrap_i64 (by omega) (by omega)
  have w2:IntKind.i64.wrap (b.places - 1 - b.breaks[j].2) = b.places - 1 - b.breaks[j].2:=wrap_i64 (by omega) (by omega)
  have hap:appOK Tryz.prog 50 ((b.breaks.take j).map (mirS b)).length [[i b.breaks[j].1,i (b.places - 1 - b.breaks[j].2)]] = true:=by
   have:=app_spots (m:=((b.breaks.take j).map (mirS b)).length) (l:=[mirS b b.breaks[j]]) (by rw [List.length_singleton]; omega)
   simpa [encP,mirS] using this
  have hst:(b.breaks.take (j + 1)).map (mirS b) = (b.breaks.take j).map (mirS b) ++ [(b.breaks[j].1,b.places - 1 - b.breaks[j].2)]:=by rw [List.take_succ_eq_append_getElem hj,List.map_append]; rfl
  obtain ⟨c',γ',hcc,ih⟩:=lM16 b hb F S w κ W2 e73 γ3 v6 e (j + 1) (c + 1) c (by omega) (by omega)
  refine ⟨c',γ',by omega,fun n k hk=>?_⟩
  obtain ⟨k,rfl⟩:∃ k',k = k' + 1:=⟨k - 1,by omega⟩
  have ih:=ih n k (by omega)
  rw [hst] at ih
  generalize b.breaks.map (mirS b) = fin at *
  generalize (b.breaks.take j).map (mirS b) = R at *
  rw [loopA_succ]
  simp only [cellsB] at ih ⊢
  cases R with
  | nil =>
   simp [encP,pv] at ih hap
   simp [hj,hw,w1,w2,hap,encP,ih,plK,apK,put_eqX,adV_nilW,pv,show 1 < c + 1 by omega]
  | cons r R =>
   simp [encP] at ih hap
   simp [hj,hw,w1,w2,hap,encP,ih,plK,apK,put_eqX,show 1 < c + 1 by omega]
theorem lM20 (b:Beach) (hb:Valid b) (F S:List Int) (w κ:Nat) (W2 e73 e102:List (List V)) (γ3 γ2:Nat) (v6:V):∀ (e j c γ:Nat),j + e = b.notes.length→3 < c→∃ (c' γ':Nat),c≤c'∧∀ n k,e < k→loopA (execA Tryz.prog ann kn (n+500) 254) lb9_20 (ann 254 (fstR lb9_20)) k ⟨c,[(1,true,.int .u16 w),(2,true,.list false W2),(3,true,.int .u8 κ),(4,true,.ptr 0 4 0 0),(9,true,.ptr 0 9 1 0),(14,true,i j)],⟨[],(4,0,.box (cellsB b)) :: (9,1,boxM b F S v6 (pv 102 γ2 e102) (pv 128 γ (((b.notes.take j).map mirN).map encP))) :: (38,2,.vec 3 (F.map encI)) :: (41,3,.vec 3 (S.map encI)) :: (73,γ3,.vec 22 e73) :: (pl 102 γ2 50 e102 ++ pl 128 γ 101 (((b.notes.take j).map mirN).map encP))⟩⟩ =
  some (.exit 6,⟨c',[(108,true,.bool false),(107,true,i b.notes.length),(106,true,.list false (b.notes.map encP)),(105,true,.ptr 0 4 0 8),(104,true,i b.notes.length),(1,true,.int .u16 w),(2,true,.list false W2),(3,true,.int .u8 κ),(4,true,.ptr 0 4 0 0),(9,true,.ptr 0 9 1 0),(14,true,i b.notes.length)],⟨[],(4,0,.box (cellsB b)) :: (9,1,boxM b F S v6 (pv 102 γ2 e102) (pv 128 γ' ((b.notes.map mirN).map encP))) :: (38,2,.vec 3 (F.map encI)) :: (41,3,.vec 3 (S.map encI)) :: (73,γ3,.vec 22 e73) :: (pl 102 γ2 50 e102 ++ pl 128 γ' 101 ((b.notes.map mirN).map encP))⟩⟩)
 | 0,j,c,γ,hm,hc=>by
  obtain rfl:j = b.notes.length:=by omega
  rw [List.take_length]
  refine ⟨c,γ,Nat.le_refl _,fun n k hk=>?_⟩
  obtain ⟨k,rfl⟩:∃ k',k = k' + 1:=⟨k - 1,by omega⟩
  generalize b.notes.map mirN = R
  rw [loopA_succ]
  cases R <;> cases e102 <;> simp [cellsB]
 | e + 1,j,c,γ,hm,hc=>by
  have hno:=hb.no
  have hj:j < b.notes.length:=by omega
  have hw:=wrapS (k:=j) (by omega)
  have hRl:((b.notes.take j).map mirN).length = j:=by rw [List.length_map,List.length_take]; omega
  have hsp:=List.all_eq_true.1 hb.nok _ (List.getElem_mem hj)
  simp only [noteOk,Bool.and_eq_true,inI_iff] at hsp
  have qF:=fun n=>kFlip n b.notes[j].2 (by omega)
  have hap:appOK Tryz.prog 101 ((b.notes.take j).map mirN).length [[i b.notes[j].1,i (flipI b.notes[j].2)]] = true:=by
   have:=app_notesM (m:=((b.notes.take j).map mirN).length) (l:=[mirN b.notes[j]]) (by rw [List.length_singleton]; omega)
   simpa [encP,mirN] using this
  have hst:(b.notes.take (j + 1)).map mirN = (b.notes.take j).map mirN ++ [(b.notes[j].1,flipI b.notes[j].2)]:=by rw [List.take_succ_eq_append_getElem hj,List.map_append]; rfl
  obtain ⟨c',γ',hcc,ih⟩:=lM20 b hb F S w κ W2 e73 e102 γ3 γ2 v6 e (j + 1) (c + 1) c (by omega) (by omega)
  refine ⟨c',γ',by omega,fun n k hk=>?_⟩
  obtain ⟨k,rfl⟩:∃ k',k = k' + 1:=⟨k - 1,by omega⟩
  have ih:=ih n k (by omega)
  rw [hst] at ih
  generalize b.notes.map mirN = fin at *
  generalize (b.notes.take j).map mirN = R at *
  rw [loopA_succ]
  simp only [cellsB] at ih ⊢
  cases R with
  | nil =>
   cases e102 <;> (simp [encP,pv] at ih hap; simp [hj,hw,qF,hap,encP,ih,plK,apK,put_eqX,adV_nilW,pv,show 1 < c + 1 by omega])
  | cons r R =>
   cases e102 <;> (simp [encP] at ih hap; simp [hj,hw,qF,hap,encP,ih,plK,apK,put_eqX,show 1 < c + 1 by omega])
theorem playV_ok {b:Beach} (hb:Valid b) {p:List (List Int)} (hp:isPlanB b p = true) {t:List Int} (ht:listedGo t b.winds = true):playV b p t = (playP b p t b.rows.toNat,0):=by
 unfold playV
 rw [if_neg (by simp [fault_of hb]),if_pos ⟨hp,ht⟩]
theorem playP_get {b:Beach} {p:List (List Int)} {t:List Int} {R r:Nat} (h:r < R):(playP b p t R)[r]? = some (rowP b p t r):=by simp [playP,h]
theorem rowP_at {b:Beach} {p:List (List Int)} {t:List Int} {r q:Nat} (h:q < b.places.toNat):(rowP b p t r)[q]? = some (hoursP b p t r q):=by
 simp [rowP,h]
theorem rowP_len (b:Beach) (p:List (List Int)) (t:List Int) (r:Nat):(rowP b p t r).length = b.places.toNat:=by simp [rowP]
theorem shaped_play {b x:Beach} (hb:Valid b) (e1:x.places = b.places) (p:List (List Int)) (t:List Int):shapedB b (playP x p t b.rows.toNat) = true:=by
 have:=hb.ro
 have:=hb.pl
 simp only [shapedB,Bool.and_eq_true,List.all_eq_true,decide_eq_true_eq]
 refine ⟨fun l hl=>?_,by simp [playP]; omega⟩
 simp only [playP,List.mem_map] at hl
 obtain ⟨r,_,rfl⟩:=hl
 rw [rowP_len,e1]
 omega
theorem lM27 (b:Beach) (hb:Valid b) (P:List (List Int)) (hp:PlanOf b P) (vk:V) (T:List Int) (X9:Res):∀ (e h c γ:Nat),h + e = P.length→1 < c→∃ (c' γ':Nat),c≤c'∧∀ n k,e < k→loopA (execA Tryz.prog ann kn (n+800) 254) lb9_27 (ann 254 (fstR lb9_27)) k ⟨c,[(3,true,vk),(4,true,.ptr 0 4 0 0),(9,true,.ptr 0 9 1 0),(15,true,li T),(16,true,lli P),(17,true,pv 153 γ (((P.take h).map flipL).map encL)),(18,true,i h)],⟨[],(4,0,.box (cellsB b)) :: (9,1,X9) :: pl 153 γ 22 (((P.take h).map flipL).map encL)⟩⟩ =
  some (.exit 8,⟨c',[(143,true,.bool false),(142,true,i P.length),(141,true,lli P),(140,true,i P.length),(3,true,vk),(4,true,.ptr 0 4 0 0),(9,true,.ptr 0 9 1 0),(15,true,li T),(16,true,lli P),(17,true,pv 153 γ' ((P.map flipL).map encL)),(18,true,i P.length)],⟨[],(4,0,.box (cellsB b)) :: (9,1,X9) :: pl 153 γ' 22 ((P.map flipL).map encL)⟩⟩)
 | 0,h,c,γ,hm,hc=>by
  obtain rfl:h = P.length:=by omega
  rw [List.take_length]
  refine ⟨c,γ,Nat.le_refl _,fun n k hk=>?_⟩
  obtain ⟨k,rfl⟩:∃ k',k = k' + 1:=⟨k - 1,by omega⟩
  generalize P.map flipL = R
  rw [loopA_succ]
  cases R <;> simp
 | e + 1,h,c,γ,hm,hc=>by
  have hro:=hb.ro
  have hla:=hb.la
  have hpl:=hp.len
  have hh:h < P.length:=by omega
  have hw:=wrapS (k:=h) (by omega)
  obtain ⟨r1,r2,r3⟩:=row_inX hb hp hh
  have hne:P[h] ≠ []:=fun e=>by rw [e] at r2; simp at r2; omega
  have hne2:flipL P[h] ≠ []:=fun e=>by
   have:=flipL_len P[h]
   rw [e] at this
   exact hne (List.eq_nil_of_length_eq_zero this.symm)
  have qF:=fun n=>kFlips n P[h] (by omega) (fun x hx=>by have:=r3 x hx; omega)
  rw [slX hne2] at qF
  have hRl:((P.take h).map flipL).length = h:=by rw [List.length_map,List.length_take]; omega
  have hap:appOK Tryz.prog 22 ((P.take h).map flipL).length [[li (flipL P[h])]] = true:=by
   have:=appL (k:=((P.take h).map flipL).length) (l:=[flipL P[h]]) (by rw [List.length_singleton]; omega)
   simpa [encL] using this
  have hst:(P.take (h + 1)).map flipL = (P.take h).map flipL ++ [flipL P[h]]:=by rw [List.take_succ_eq_append_getElem hh,List.map_append]; rfl
  obtain ⟨c',γ',hcc,ih⟩:=lM27 b hb P hp vk T X9 e (h + 1) (c + 1) c (by omega) (by omega)
  refine ⟨c',γ',by omega,fun n k hk=>?_⟩
  obtain ⟨k,rfl⟩:∃ k',k = k' + 1:=⟨k - 1,by omega⟩
  have ih:=ih n k (by omega)
  rw [hst] at ih
  generalize flipL P[h] = fl at *
  generalize P.map flipL = fin at *
  generalize (P.take h).map flipL = R at *
  rw [loopA_succ]
  cases R with
  | nil =>
   simp [encL,pv] at ih hap
   simp [hh,hw,qF,hap,encL,ih,plK,apK,put_eqX,pv]
  | cons r R =>
   simp [encL] at ih hap
   simp [hh,hw,qF,hap,encL,ih,plK,apK,put_eqX]
theorem lM40 (b:Beach) (hb:Valid b) (r:Nat) (X9:Res) (K L:List (List Hrs)) (Kr Lr:List Hrs) (hK:K[r]? = some Kr) (hL:L[r]? = some Lr) (hKl:(Kr.length:Int) = b.places) (hLl:(Lr.length:Int) = b.places) (hq2:∀ (q:Nat) (x:Hrs),Kr[q]? = some x→Lr[b.places.toNat - 1 - q]? = some x) (hs:∀ x ∈ Kr,okI x.sun∧okI x.calm∧okI x.good) (c:Nat):∀ (d q:Nat),q + d = b.places.toNat→∀ n m,d < m→loopA (execA Tryz.prog ann kn (n+400) 254) lb9_40 (ann 254 (fstR lb9_40)) m ⟨c,[(4,true,.ptr 0 4 0 0),(19,true,.list false (K.map encHs)),(21,true,.list false (L.map encHs)),(29,true,i r),(30,true,i q)],⟨[],[(4,0,.box (cellsB b)),(9,1,X9)]⟩⟩ =
  some (.exit 12,⟨c,[(231,true,.bool false),(230,true,i b.places),(229,true,.ptr 0 4 0 2),(228,true,i b.places),(4,true,.ptr 0 4 0 0),(19,true,.list false (K.map encHs)),(21,true,.list false (L.map encHs)),(29,true,i r),(30,true,i b.places)],⟨[],[(4,0,.box (cellsB b)),(9,1,X9)]⟩⟩)
 | 0,q,hd,n,m + 1,hm=>by
  have hpc:=hb.pl
  have:(q:Int) = b.places:=by omega
  rw [loopA_succ]
  simp [cellsB,this]
 | d + 1,q,hd,n,m + 1,hm=>by
  have hpc:=hb.pl
  have hw:=wrapS (k:=q) (by omega)
  have hq:(q:Int) < b.places:=by omega
  have hKq:q < Kr.length:=by omega
  have hj:b.places.toNat - 1 - q < Lr.length:=by omega
  have hx:=hq2 q Kr[q] (List.getElem?_eq_getElem hKq)
  rw [List.getElem?_eq_getElem hj,Option.some.injEq] at hx
  obtain ⟨s1,s2,s3⟩:=hs _ (List.getElem_mem hKq)
  have w1:IntKind.i64.wrap (b.places - 1) = b.places - 1:=wrap_i64 (by omega) (by omega)
  have w2:IntKind.i64.wrap (b.places - 1 - (q:Int)) = ((b.places.toNat - 1 - q:Nat):Int):=by rw [wrap_i64 (by omega) (by omega)]; omega
  have ih:=lM40 b hb r X9 K L Kr Lr hK hL hKl hLl hq2 hs c d (q + 1) (by omega) n m (by omega)
  obtain ⟨hK1,hKe⟩:=List.getElem?_eq_some_iff.1 hK
  obtain ⟨hL1,hLe⟩:=List.getElem?_eq_some_iff.1 hL
  have he:=eqH Kr[q].sun Kr[q].calm Kr[q].good Kr[q].sun Kr[q].calm Kr[q].good s1 s2 s3 s1 s2 s3
  simp only [decide_true,Bool.and_true] at he
  generalize b.places.toNat - 1 - q = j at *
  rw [loopA_succ]
  simp only [cellsB] at ih ⊢
  simp [encH,encHs] at ih
  simp [hq,hw,w1,w2,hK1,hL1,hKe,hLe,hKq,hj,hx,encL,encI,encH,encHs,plK,he,ih]
theorem lM37 (b:Beach) (hb:Valid b) (P:List (List Int)) (T:List Int) (ht:listedGo T b.winds = true) (X9:Res) (c:Nat):∀ (d r:Nat),r + d = b.rows.toNat→∃ fr:Fr,∀ n m,d < m→loopA (execA Tryz.prog ann kn (n+600) 254) lb9_37 (ann 254 (fstR lb9_37)) m ⟨c,[(4,true,.ptr 0 4 0 0),(19,true,.list false ((playP b P T b.rows.toNat).map encHs)),(21,true,.list false ((playP (mirB b) (flipP P) (flipL T) b.rows.toNat).map encHs)),(29,true,i r)],⟨[],[(4,0,.box (cellsB b)),(9,1,X9)]⟩⟩ =
  some (.exit 10,⟨c,fr,⟨[],[(4,0,.box (cellsB b)),(9,1,X9)]⟩⟩)
 | 0,r,hd=>by
  have hro:=hb.ro
  have:b.rows = (r:Int):=by omega
  refine ⟨?fr,fun n m hm=>?g2⟩
  case g2 =>
   obtain ⟨m,rfl⟩:∃ m',m = m' + 1:=⟨m - 1,by omega⟩
   rw [loopA_succ]
   simp [cellsB,this]
   rfl
 | d + 1,r,hd=>by
  have hro:=hb.ro
  have hpc:=hb.pl
  have hw:=wrapS (k:=r) (by omega)
  have hr:(r:Int) < b.rows:=by omega
  have hr2:r < b.rows.toNat:=by omega
  have hpm:(mirB b).places = b.places:=rfl
  have hTl:=listed_len ht
  have hwi:=hb.wi
  have hla:=hb.la
  have q2:=lM40 b hb r X9 (playP b P T b.rows.toNat) (playP (mirB b) (flipP P) (flipL T) b.rows.toNat) (rowP b P T r) (rowP (mirB b) (flipP P) (flipL T) r) (playP_get hr2) (playP_get hr2)
   (by rw [rowP_len]; omega) (by rw [rowP_len,hpm]; omega)
   (fun q x hx=>by
    by_cases hq:q < b.places.toNat
    ·rw [rowP_at hq] at hx
     cases hx
     rw [rowP_at (by rw [hpm]; omega),hours_mir hb P ht r hq]
    ·rw [List.getElem?_eq_none (by rw [rowP_len]; omega)] at hx
     cases hx)
   (fun x hx=>by
    simp only [rowP,List.mem_map] at hx
    obtain ⟨q,_,rfl⟩:=hx
    have b1:=hrs_le (calmAt b P T r q) (litB b P r) T.length
    unfold okI
    change 0≤(hoursP b P T r q).sun∧(hoursP b P T r q).sun≤T.length∧0≤(hoursP b P T r q).calm∧(hoursP b P T r q).calm≤T.length∧0≤(hoursP b P T r q).good∧(hoursP b P T r q).good≤T.length at b1
    omega)
   c b.places.toNat 0 (by omega)
  have q2:=fun n m=>q2 n (m + 100) (by omega)
  obtain ⟨fr,ih⟩:=lM37 b hb P T ht X9 c d (r + 1) (by omega)
  refine ⟨fr,fun n m hm=>?_⟩
  obtain ⟨m,rfl⟩:∃ m',m = m' + 1:=⟨m - 1,by omega⟩
  have ih:=ih n m (by omega)
  generalize (playP b P T b.rows.toNat).map encHs = KK at *
  generalize (playP (mirB b) (flipP P) (flipL T) b.rows.toNat).map encHs = LL at *
  rw [loopA_succ]
  simp only [cellsB] at q2 ih ⊢
  simp at q2 ih
  simp [hr,hw,q2,ih]
theorem dfs_mir {b:Beach} (hb:Valid b):dfsW (mirB b) [] (mirB b).winds [] = [] ↔ dfsW b [] b.winds [] = []:=by
 have h1:=fun t=>mem_dfs b t
 have h2:=fun t=>mem_dfs (mirB b) t
 constructor <;> intro h <;> refine List.eq_nil_iff_forall_not_mem.2 fun t ht=>?_
 ·have h3:=(truth_mir hb).2 (mem_truths.2 ((h1 t).1 ht))
  have h4:=(h2 _).2 (mem_truths.1 h3)
  rw [h] at h4; cases h4
 ·have h3:=truth_rim hb (mem_truths.2 ((h2 t).1 ht))
  have h4:=(h1 _).2 (mem_truths.1 h3)
  rw [h] at h4; cases h4
end Go.Proofs.Tryz.Op
/- The walk of WindMirror. No condition. -/
open Go Go.Pg Go.Proofs Go.Wind
namespace Go.Proofs.Tryz.Op
set_option maxRecDepth 100000
set_option linter.unusedSimpArgs false
set_option maxHeartbeats 4000000 in
theorem kMirrorL (n:Nat) (b:Beach) (_:okB b) (w:Nat) (hw:w≤65535) (ws:List Nat) (hws:∀ w ∈ ws,w≤65535) (κ:Nat) (hκ:κ≤255):call0 Tryz.prog (execA Tryz.prog ann kn (n+31000)) 9 [.agg (cellsB b),.int .u16 w,.list false (ws.map encW),.int .u8 κ] = some (.bool true):=by
 rw [call0_eq Tryz.func9 b9 rfl (by simp [cellsB,encI,encL,encP,encW])]
 have qr:=fun n=>kReady n b
 have hpos:Nat.beq 2 1 = false:=rfl
 have hpos9:Nat.beq 9 1 = false:=rfl
 have hc8:∀ k r,rdsK Tryz.prog (IK.oth (Op.convert 5 3 (tq k))) r = []:=fun k r=>rfl
 have hc16:∀ k r,rdsK Tryz.prog (IK.oth (Op.convert 95 3 (tq k))) r = []:=fun k r=>rfl
 cases hR:readyB b with
 | false =>
  rw [hR] at qr
  simp only [cellsB] at qr ⊢
  simp [c9,argFr,qr,encI,encL,encP,encW,kAwakeX]
 | true =>
  rw [hR] at qr
  obtain ⟨hb,_⟩:=ready_of hR
  have hla:=hb.la
  have hro:=hb.ro
  have hpl:=hb.pl
  have hwi:=hb.wi
  have hfa:=hb.fa
  have hsu:=hb.su
  have hfn:b.face ≠ []:=fun e=>by rw [e] at hfa; simp at hfa; omega
  have hsn:b.sun ≠ []:=fun e=>by rw [e] at hsu; simp at hsu; omega
  have of1:=fun n=>oFlips n b.face (by omega) (fun x hx=>by have:=dirs_of hb.fd x hx; omega) hfn
  have of2:=fun n=>oFlips n b.sun (by omega) (fun x hx=>by have:=dirs_of hb.sd x hx; omega) hsn
  have hWn:b.winds ≠ []:=fun e=>by rw [e] at hwi; simp at hwi; omega
  obtain ⟨c1,γ1,hc1,q6⟩:=lM6 b hb (flipL b.face) (flipL b.sun) w κ (ws.map encW) b.winds.length 0 4 0 (by omega) (by omega)
  have q6:=fun n k=>q6 n (k + 100) (by omega)
  obtain ⟨z,zs,hz⟩:∃ z zs,b.winds.map mirW = z :: zs:=List.exists_cons_of_ne_nil (fun e:b.winds.map mirW = []=>hWn (List.map_eq_nil_iff.1 e))
  have hbr:=hb.br
  have hno:=hb.no
  obtain ⟨c2,γ2,hc2,q16⟩:=lM16 b hb (flipL b.face) (flipL b.sun) w κ (ws.map encW) ((z :: zs).map encL) γ1 (pv 73 γ1 ((z :: zs).map encL)) b.breaks.length 0 c1 0 (by omega) (by omega)
  have q16:=fun n k=>q16 n (k + 100) (by omega)
  obtain ⟨c3,γ3,hc3,q20⟩:=lM20 b hb (flipL b.face) (flipL b.sun) w κ (ws.map encW) ((z :: zs).map encL) ((b.breaks.map (mirS b)).map encP) γ1 γ2 (pv 73 γ1 ((z :: zs).map encL)) b.notes.length 0 c2 0 (by omega) (by omega)
  have q20:=fun n k=>q20 n (k + 100) (by omega)
  rw [hz] at q6
  simp only [List.take_zero,List.map_nil] at q6 q16 q20
  have hx:=mir_valid hb
  have hmp:=many_pos (fun l hl=>hb.ne l hl)
  have hm:(w:Int).tmod (manyN b.winds:Int) = ((w % manyN b.winds:Nat):Int):=(Int.ofNat_tmod _ _).symm
  have hml:=Nat.mod_lt w hmp
  have hmz:¬ ((manyN b.winds:Int) = 0):=by omega
  have ht:=nth_listed (fun l hl=>hb.ne l hl) (w % manyN b.winds)
  have hp:=planW_ok hb ws
  have hpo:=plan_of hp
  have hlw:=listed_len ht
  have qm:=fun n=>kMany n b hb
  have qn:=fun n=>kNth n b hb (w % manyN b.winds) (by omega)
  have qp:=fun n=>kPlan n b hb ws hws
  have hwr:IntKind.i64.wrap (w:Int) = (w:Int):=wrap_i64 (by omega) (by omega)
  have hnt:nthGo b.winds (w % manyN b.winds) ≠ []:=fun e=>by
   rw [e] at hlw; simp at hlw; omega
  rw [slX hnt] at qn
  generalize nthGo b.winds (w % manyN b.winds) = T at *
  generalize w % manyN b.winds = k at *
  generalize planOfW b ws = P at *
  have hpx:isPlanB (mirB b) (flipP P) = true:=plan_mir hp
  have hpxo:=plan_of hpx
  have hPl:=hpo.len
  have htx:listedGo (flipL T) (mirB b).winds = true:=(listed_mir (winds_dir hb)).2 ht
  have hTd:∀ x ∈ T,-1≤x∧x≤3:=fun x hx=>by
   obtain ⟨j,hj,rfl⟩:=List.getElem_of_mem hx
   have:=truth_dir hb ht hj
   rw [List.getD_eq_getElem?_getD,List.getElem?_eq_getElem hj] at this
   have h':0≤T[j]∧T[j]≤3:=this
   omega
  have hfT:flipL T ≠ []:=fun e=>by
   have:=flipL_len T
   rw [e] at this
   exact hnt (List.eq_nil_of_length_eq_zero this.symm)
  obtain ⟨c4,γ4,hc4,q27⟩:=lM27 b hb P hpo (.int .u8 κ) T (.box [i b.last,i b.rows,i b.places,i b.reach,li (flipL b.face),li (flipL b.sun),.list false ((z :: zs).map encL),sl ((b.breaks.map (mirS b)).map encP),sl ((b.notes.map mirN).map encP)]) P.length 0 c3 0 (by omega) (by omega)
  have q27:=fun n k=>q27 n (k + 100) (by omega)
  simp only [List.take_zero,List.map_nil] at q27
  obtain ⟨y,ys,hy⟩:∃ y ys,P.map flipL = y :: ys:=List.exists_cons_of_ne_nil (fun e:P.map flipL = []=>by
   rw [List.map_eq_nil_iff.1 e] at hPl
   simp at hPl
   omega)
  have qB:=fun n=>kBeachX n hb
  have qBx:=fun n=>kBeachX n hx
  have qli:=fun n=>kListsX n hb hpo
  have qlx:=fun n=>kListsX n hx hpxo
  have qt:=fun n=>kList n T (by omega)
  have qft:=fun n=>kFlips n T (by omega) hTd
  rw [slX hfT] at qft
  have hne:∀ (x:Beach) (p:List (List Int)) (t:List Int),playP x p t b.rows.toNat ≠ []:=fun x p t e=>by
   have:=congrArg List.length e
   simp [playP] at this
   omega
  have qP1:=fun n=>kPlayL n b hb.w40 P T
  have qPx:=fun n=>kPlayL n (mirB b) hx.w40 (flipP P) (flipL T)
  rw [playV_ok hb hp ht,slX (hne _ _ _)] at qP1
  rw [playV_ok hx hpx htx,show (mirB b).rows = b.rows from rfl,slX (hne _ _ _)] at qPx
  have qs:=fun n=>kShaped n b (playP b P T b.rows.toNat) (by simp [playP]; omega)
  have qsx:=fun n=>kShaped n b (playP (mirB b) (flipP P) (flipL T) b.rows.toNat) (by simp [playP]; omega)
  rw [shaped_play hb rfl] at qs
  rw [shaped_play (x:=mirB b) hb rfl] at qsx
  have wk:IntKind.i64.wrap (κ:Int) = (κ:Int):=wrap_i64 (by omega) (by omega)
  have m3:(κ:Int).tmod 99 = ((κ % 99:Nat):Int):=(Int.ofNat_tmod _ 99).symm
  have l3:=Nat.mod_lt κ (show 0 < 99 by decide)
  generalize κ % 99 = mo at m3 l3
  have wr3:IntKind.i64.wrap (mo:Int) = (mo:Int):=wrap_i64 (by omega) (by omega)
  have qb:=fun n=>kBest n b hb.w40 mo
  have qbx:=fun n=>kBest n (mirB b) hx.w40 mo
  unfold bestVV at qb qbx
  rw [if_pos (fault_of hb),if_pos (inI_iff.2 (by omega))] at qb
  rw [if_pos (fault_of hx),if_pos (inI_iff.2 (by omega))] at qbx
  obtain ⟨fr,q37⟩:=lM37 b hb P T ht (.box [i b.last,i b.rows,i b.places,i b.reach,li (flipL b.face),li (flipL b.sun),.list false ((z :: zs).map encL),sl ((b.breaks.map (mirS b)).map encP),sl ((b.notes.map mirN).map encP)]) c4 b.rows.toNat 0 (by omega)
  have q37:=fun n m=>q37 n (m + 100) (by omega)
  have slc:∀ (e:List V) (es:List (List V)),sl (e :: es) = .list false (e :: es):=fun _ _=>rfl
  have slnil:sl ([]:List (List V)) = .nil:=rfl
  have hcx:cellsB (mirB b) = [i b.last,i b.rows,i b.places,i b.reach,li (flipL b.face),li (flipL b.sun),.list false ((z :: zs).map encL),.list false ((b.breaks.map (mirS b)).map encP),.list false ((b.notes.map mirN).map encP)]:=by
   rw [← hz]; rfl
  have hdm:=dfs_mir hb
  by_cases hE:dfsW b [] b.winds [] = []
  ·rw [if_pos (by rw [hE]; rfl)] at qb
   rw [if_pos (by rw [hdm.2 hE]; rfl)] at qbx
   generalize playP b P T b.rows.toNat = K at *
   generalize playP (mirB b) (flipP P) (flipL T) b.rows.toNat = L at *
   rw [hcx] at qBx qPx qbx
   simp only [cellsR,mirB,flipP,hy] at qBx qPx qlx
   rw [hz] at qBx
   rw [hy] at q27
   simp only [lli,List.map_cons] at qBx qPx qlx
   generalize b.breaks.map (mirS b) = BR at *
   generalize b.notes.map mirN = NR at *
   generalize flipL b.face = F at *
   generalize flipL b.sun = S at *
   generalize flipL T = FT at *
   generalize (manyN b.winds:Int) = mm at *
   simp only [cellsB,cellsR,li,List.map_nil,slnil] at qr q6 q16 q20 q27 qm qn qp qB qBx qP1 qPx qs qsx qb qbx q37 ⊢
   simp [encL,encHs,encH] at q6 q16 q20 q27 q37 qBx qPx qbx qlx qP1 qs qsx
   simp [c9,argFr,qr,of1,of2,q6,q16,q20,q27,qm,qn,qp,qB,qBx,qli,qlx,qt,qft,qP1,qPx,qs,qsx,qb,qbx,q37,hm,hmz,hwr,encI,encL,encP,encW,encHs,encH,kAwakeX,plK,apK,put_eqX,hc8,hc16,convW,convU8m,wk,m3,wr3,placeL,placeS,placeOf,anyK,celK,hpos,hpos9,told_encI,told_encL,told_encP,get_plA,get_plB,slc]
  ·have ha:=asked_dfs hb hE
   have hE2:dfsW (mirB b) [] (mirB b).winds [] ≠ []:=fun h=>hE (hdm.1 h)
   have hax:=asked_dfs hx hE2
   have hle:=best_mir hb ha hax (most:=mo) (by omega)
   rw [if_neg (by simpa using hE)] at qb
   rw [if_neg (by simpa using hE2),hle] at qbx
   have hbp:bestPl b (windsA b) mo ≠ []:=fun h=>by
    have:=(plan_of (best_spec hb (windsA b) (most:=mo) (by omega)).1.1).len
    rw [h] at this; simp at this; omega
   have hxp:bestPl (mirB b) (windsA (mirB b)) mo ≠ []:=fun h=>by
    have:=(plan_of (best_spec hx (windsA (mirB b)) (most:=mo) (by omega)).1.1).len
    rw [h] at this
    change ((0:Nat):Int) = b.last + 1 at this
    omega
   rw [slX hbp] at qb
   rw [slX hxp] at qbx
   generalize bestV b (windsA b) mo = V1 at *
   generalize bestPl b (windsA b) mo = W1 at *
   generalize bestPl (mirB b) (windsA (mirB b)) mo = W2 at *
   generalize playP b P T b.rows.toNat = K at *
   generalize playP (mirB b) (flipP P) (flipL T) b.rows.toNat = L at *
   rw [hcx] at qBx qPx qbx
   simp only [cellsR,mirB,flipP,hy] at qBx qPx qlx
   rw [hz] at qBx
   rw [hy] at q27
   simp only [lli,List.map_cons] at qBx qPx qlx
   generalize b.breaks.map (mirS b) = BR at *
   generalize b.notes.map mirN = NR at *
   generalize flipL b.face = F at *
   generalize flipL b.sun = S at *
   generalize flipL T = FT at *
   generalize (manyN b.winds:Int) = mm at *
   simp only [cellsB,cellsR,li,List.map_nil,slnil] at qr q6 q16 q20 q27 qm qn qp qB qBx qP1 qPx qs qsx qb qbx q37 ⊢
   simp [encL,encHs,encH] at q6 q16 q20 q27 q37 qBx qPx qbx qlx qP1 qs qsx
   simp [c9,argFr,qr,of1,of2,q6,q16,q20,q27,qm,qn,qp,qB,qBx,qli,qlx,qt,qft,qP1,qPx,qs,qsx,qb,qbx,q37,hm,hmz,hwr,encI,encL,encP,encW,encHs,encH,kAwakeX,plK,apK,put_eqX,hc8,hc16,convW,convU8m,wk,m3,wr3,placeL,placeS,placeOf,anyK,celK,hpos,hpos9,told_encI,told_encL,told_encP,get_plA,get_plB,slc]
end Go.Proofs.Tryz.Op
