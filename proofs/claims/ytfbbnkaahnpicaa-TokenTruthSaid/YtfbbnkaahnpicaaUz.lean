/- A row that is laid anew, and one more element. No program in sight. -/
import Derived.Test.YtfbbnkaahnpicaaSx
import Derived.Test.YtfbbnkaahnpicaaGt
import Derived.Test.YtfbbnkaahnpicaaU
import Derived.Test.YtfbbnkaahnpicaaFz
import Derived.Test.YtfbbnkaahnpicaaT2
open Go Go.Pg Go.Proofs
namespace Go.Pg
variable {P:Program} {fr:Fr} {s:St}
@[simp] theorem adV_new (e d c:Nat) (ys:List (List V)) (h:appOK P e 0 ys = true):adV P e d c fr s (.list true []) ys = some (⟨c + 1,(d,true,.vec s.up.length d c ys.length) :: fr,s.put s.up.length d c (.vec e ys)⟩,[(s.up.length,d),(s.up.length,d + apK)]):=by
 unfold adV
 simp [newE,h]
@[simp] theorem adV_vec (e d c l q γ n:Nat) (ys:List (List V)):adV P e d c fr s (.vec l q γ n) ys = wp [(l,q),(l,q + apK)] (apW P e d c fr s l q γ n ys (s.get l q)):=rfl
@[simp] theorem evNil_eptr (l k g i o:Nat):evNil (.eptr l k g i o) = some (.eptr l k g i o):=rfl
end Go.Pg
/- Contracts: has, inside. No condition. -/
open Go Go.Pg Go.Proofs
namespace Go.Proofs.Try.Op
set_option maxRecDepth 100000
set_option linter.unusedSimpArgs false
theorem l66 (xs:List Line) (hxs:∀ x ∈ xs,okL x) (x:Line) (hx:okL x) (c:Nat):∀ (d j:Nat),j + d = xs.length→∀ n m,d < m→xs.length≤90 →
  loopA (execA Try.prog ann kn (n+100) 24) lb66_2 (some ([0,3,5],[3])) m ⟨c,[(0,true,.list false (xs.map encL)),(3,true,.ptr 0 3 0 0),(5,true,i j)],⟨[],[(3,0,.box (encL x))]⟩⟩ =
   if x ∈ xs.drop j then some (.ret,⟨c,[(4,true,.bool true)],⟨[],[]⟩⟩)
   else some (.exit 0,⟨c,[(9,true,.bool false),(8,true,i xs.length),(7,true,.list false (xs.map encL)),(6,true,i xs.length),(0,true,.list false (xs.map encL)),(3,true,.ptr 0 3 0 0),(5,true,i xs.length)],⟨[],[(3,0,.box (encL x))]⟩⟩)
 | 0,j,hd,n,m,hm,hl=>by
  have hj:j = xs.length:=by omega
  subst hj
  obtain ⟨m,rfl⟩:∃ m',m = m' + 1:=⟨m - 1,by omega⟩
  rw [List.drop_length,if_neg (by simp)]
  simp [loopA_succ,encL]
  done
 | d + 1,j,hd,n,m,hm,hl=>by
  have hj:j < xs.length:=by omega
  have hw:IntKind.i64.wrap ((j:Int) + 1) = (j:Int) + 1:=wrap_i64 (by omega) (by omega)
  obtain ⟨m,rfl⟩:∃ m',m = m' + 1:=⟨m - 1,by omega⟩
  have ih:=l66 xs hxs x hx c d (j + 1) (by omega) n m (by omega) hl
  have he:=eqD_96 xs[j] x (hxs _ (List.getElem_mem hj)) hx
  rw [List.drop_eq_getElem_cons hj,loopA_succ]
  simp only [encL] at he ih ⊢
  by_cases h:x = xs[j]
  ·rw [decide_eq_true h.symm] at he
   rw [if_pos (List.mem_cons.2 (.inl h))]
   simp [hj,hw,encL,he]
   done
  ·rw [decide_eq_false (fun e=>h e.symm)] at he
   have e:(x ∈ xs[j] :: xs.drop (j + 1)) = (x ∈ xs.drop (j + 1)):=propext ⟨fun hh=>(List.mem_cons.1 hh).resolve_left h,fun hh=>List.mem_cons.2 (.inr hh)⟩
   simp only [e]
   simp at ih
   simp [hj,hw,encL,he,ih]
   done
theorem k66 (n:Nat) (xs:List Line) (hxs:∀ x ∈ xs,okL x) (x:Line) (hx:okL x) (hl:xs.length≤90):callK Try.prog kn (execA Try.prog ann kn (n+200)) 66 [.list false (xs.map encL),.agg (encL x)] = some (.bool (decide (x ∈ xs))):=by
 rw [callK_of rfl,call0_eq Try.func66 b66 rfl (by simp [encL])]
 have h:=l66 xs hxs x hx 1 xs.length 0 (by omega) (n + 95) (n + 195) (by omega) hl
 rw [List.drop_zero] at h
 simp only [encL] at h ⊢
 by_cases hm:x ∈ xs
 ·rw [if_pos hm] at h
  simp at h
  simp [c66,argFr,h,hm]
  done
 ·rw [if_neg hm] at h
  simp at h
  simp [c66,argFr,h,hm]
  done
structure Into (x b:Book) (k:Nat) (ln:Option Nat):Prop where
 ch:x.chairs = b.chairs
 fx:faultB x = 0
 fb:faultB b = 0
 kx:k≤x.lines.length
 kb:k≤b.lines.length
 lx:∀ l,ln = some l→l < x.lines.length
 lb:∀ l,ln = some l→l < b.lines.length
 ne:truthsR x ≠ []
 into:∀ t ∈ truthsR x,∃ u ∈ truthsR b,moneyB b u k = moneyB x t k∧u.take k = t.take k∧∀ l,ln = some l→u.getD l line0 = t.getD l line0
theorem verd_sub {T U:List (List Line)} {p q:List Line→Bool} (hne:T ≠ []) (h:∀ t ∈ T,∃ u ∈ U,p u = q t) (hv:verd (U.length:Nat) (U.countP p:Nat) ≠ 3):verd (T.length:Nat) (T.countP q:Nat) = verd (U.length:Nat) (U.countP p:Nat):=by
 have hl:T.length ≠ 0:=fun e=>hne (List.eq_nil_of_length_eq_zero e)
 by_cases h1:U.countP p = U.length
 ·have hq:T.countP q = T.length:=count_all.2 fun t ht=>by
   obtain ⟨u,hu,e⟩:=h t ht
   rw [← e]
   exact count_all.1 h1 u hu
  rw [hq,h1]
  simp [verd]
 ·by_cases h2:U.countP p = 0
  ·have hq:T.countP q = 0:=count_none.2 fun t ht=>by
    obtain ⟨u,hu,e⟩:=h t ht
    rw [← e]
    exact count_none.1 h2 u hu
   rw [hq,h2]
   have e1:¬ (((0:Nat):Int) = (T.length:Int)):=by omega
   have e2:¬ (((0:Nat):Int) = (U.length:Int)):=by omega
   unfold verd
   rw [if_neg e1,if_neg e2]
  ·exfalso
   apply hv
   have e1:¬ ((U.countP p:Int) = (U.length:Int)):=by omega
   have e2:¬ ((U.countP p:Int) = 0):=by omega
   unfold verd
   rw [if_neg e1,if_neg e2]
section
variable {x b:Book} {k:Nat} {ln:Option Nat}
theorem Into.neb (h:Into x b k ln):truthsR b ≠ []:=by
 obtain ⟨t,ht⟩:=List.exists_mem_of_ne_nil _ h.ne
 obtain ⟨u,hu,_⟩:=h.into t ht
 exact List.ne_nil_of_mem hu
theorem Into.money (h:Into x b k ln):(boundsP b Scene.money k).1≤(boundsP x Scene.money k).1∧(boundsP x Scene.money k).2≤(boundsP b Scene.money k).2:=by
 obtain ⟨_,⟨t1,h1,e1⟩,⟨t2,h2,e2⟩⟩:=boundsM h.fx h.kx h.ne
 obtain ⟨a,_,_⟩:=boundsM h.fb h.kb h.neb
 obtain ⟨u1,g1,m1,_⟩:=h.into t1 h1
 obtain ⟨u2,g2,m2,_⟩:=h.into t2 h2
 have q1:(boundsP b Scene.money k).1≤moneyB b u1 k:=(a u1 g1).1
 have q2:moneyB b u2 k≤(boundsP b Scene.money k).2:=(a u2 g2).2
 have e1:moneyB x t1 k = (boundsP x Scene.money k).1:=e1
 have e2:moneyB x t2 k = (boundsP x Scene.money k).2:=e2
 omega
theorem Into.sub (h:Into x b k ln) (sel:Line→Int) (j:Int) (hv:verd ((truthsR b).length:Nat) (outN sel (truthsR b) k j) ≠ 3):verd ((truthsR x).length:Nat) (outN sel (truthsR x) k j) = verd ((truthsR b).length:Nat) (outN sel (truthsR b) k j):=by
 refine verd_sub h.ne (fun t ht=>?_) hv
 obtain ⟨u,hu,_,e,_⟩:=h.into t ht
 exact ⟨u,hu,by unfold outB; rw [e]⟩
structure Sub (C D:List Int) (n:Nat):Prop where
 lc:C.length = n
 ld:D.length = n
 eq:∀ (j:Nat) (h:j < C.length) (h2:j < D.length),D[j] ≠ 3→C[j] = D[j]
theorem Into.chairs (h:Into x b k ln):Sub (verdsP x chP k) (verdsP b chP k) b.chairs.toNat:=by
 rw [verdsC h.fx h.kx,verdsC h.fb h.kb,h.ch]
 exact ⟨by simp,by simp,fun j h1 h2 hv=>by
  simp only [List.getElem_map,List.getElem_range'] at hv ⊢
  exact h.sub _ _ hv⟩
theorem Into.tokens (h:Into x b k ln):Sub (verdsP x tkP k) (verdsP b tkP k) b.chairs.toNat:=by
 rw [verdsT h.fx h.kx,verdsT h.fb h.kb,h.ch]
 exact ⟨by simp,by simp,fun j h1 h2 hv=>by
  simp only [List.getElem_map,List.getElem_range'] at hv ⊢
  exact h.sub _ _ hv⟩
theorem Into.was (h:Into x b k ln) {l:Nat} (hl:ln = some l) {y:Line} (hy:y ∈ wasP x l):y ∈ wasP b l:=by
 unfold wasP at hy ⊢
 rw [List.mem_filter] at hy ⊢
 obtain ⟨_,hy⟩:=hy
 obtain ⟨t,ht,e⟩:=(found_mem h.fx).1 (of_decide_eq_true hy)
 obtain ⟨u,hu,_,_,g⟩:=h.into t ((truthsR_mem h.fx).2 ht)
 have hu:=(truthsR_mem h.fb).1 hu
 have:=g l hl
 rw [e] at this
 refine ⟨?_,decide_eq_true ((found_mem h.fb).2 ⟨u,hu,this⟩)⟩
 rw [← this]
 exact fits_reading h.fb (h.lb l hl) hu
end
def lnI:Option Nat→Int
 | some l=>l
 | none=>-1
def swI (p q z:Int):Int:=if z = p then q else if z = q then p else z
def swL (p q:Int) (l:Line):Line:=⟨l.k,l.c,swI p q l.t⟩
def exL (l:Line):Line:=⟨l.k,l.t,l.c⟩
def mapB (φ:Line→Line) (b:Book):Book:={ b with lines:=b.lines.map φ }
structure Ex (C:Int) (φ:Line→Line):Prop where
 inv:∀ l,φ (φ l) = l
 kind:∀ l,(φ l).k = l.k
 ok:∀ l,lineOk C (φ l) = lineOk C l
 len:∀ l,lineOk C l = true→(readings C (φ l)).length = (readings C l).length
 read:∀ l x,readOne C (φ l) (φ x) = readOne C l x
 poss:∀ ts k t,possOne (ts.map φ) k (φ t) = possOne ts k t
 mix:∀ ts k t,mixOne (ts.map φ) k (φ t) = mixOne ts k t
theorem outGo_map {φ:Line→Line} (hk:∀ l,(φ l).k = l.k) {s s':Line→Int} {x x':Int} (h:∀ l,s' (φ l) = x' ↔ s l = x):∀ (ts:List Line) (k:Nat) (v:Int),outGo s' x' k v (ts.map φ) = outGo s x k v ts
 | [],_,_=>rfl
 | t :: r,k,v=>by
  simp only [List.map_cons,outGo,hk,h]
  exact outGo_map hk h r _ _
theorem outB_map {φ:Line→Line} (hk:∀ l,(φ l).k = l.k) {s s':Line→Int} {x x':Int} (h:∀ l,s' (φ l) = x' ↔ s l = x) (ts:List Line) (a:Nat):outB s' (ts.map φ) a x' = outB s ts a x:=by
 unfold outB
 rw [← List.map_take]
 exact outGo_map hk h _ _ _
def numOK:Bool:=[1,2,3,4].all fun C:Int=>[0,1,2].all fun k:Int=>[-1,0,1,2,3].all fun c:Int=>[-1,0,1,2,3].all fun t:Int =>
 !(lineOk C ⟨k,c,t⟩) || decide ((readings C ⟨k,c,t⟩).length = (if k = 0 then 2 else 1) * ((if c < 0 then C.toNat else 1) * (if t < 0 then C.toNat else 1)))
theorem numOK_true:numOK = true:=by decide +kernel
theorem num_eq {C:Int} (h1:1≤C) (h4:C≤4) {l:Line} (h:lineOk C l = true):(readings C l).length = (if l.k = 0 then 2 else 1) * ((if l.c < 0 then C.toNat else 1) * (if l.t < 0 then C.toNat else 1)):=by
 obtain ⟨k,c,t⟩:=l
 obtain ⟨v1,v2,v3⟩:=valL_spec h
 simp only at v1 v2 v3
 have q:=List.all_eq_true.1 (List.all_eq_true.1 (List.all_eq_true.1 (List.all_eq_true.1 numOK_true C (mem4 h1 h4)) k (mem3 v1.1 v1.2)) c (mem5 v2.1 (by omega))) t (mem5 v3.1 (by omega))
 rw [h] at q
 simpa using q
section
variable {C:Int} {φ:Line→Line}
theorem Ex.mapmap (h:Ex C φ) (t:List Line):(t.map φ).map φ = t:=by
 rw [List.map_map]
 conv=>rhs; rw [← List.map_id t]
 exact List.map_congr_left fun l _=>h.inv l
theorem Ex.many (h:Ex C φ):∀ (ls:List Line) (n:Int),(∀ l ∈ ls,lineOk C l = true)→manyGo C n (ls.map φ) = manyGo C n ls
 | [],_,_=>rfl
 | l :: r,n,hl=>by
  have ih:=Ex.many h r (min5 (n * ((readings C l).length:Int))) fun x hx=>hl x (by simp [hx])
  unfold manyGo at ih ⊢
  simp only [List.map_cons,List.foldl_cons,h.len l (hl l (by simp))]
  exact ih
theorem Ex.readGo (h:Ex C φ):∀ (ls ts:List Line),readGo C (ls.map φ) (ts.map φ) = Op.readGo C ls ts
 | [],[]=>rfl
 | [],_ :: _=>rfl
 | _ :: _,[]=>rfl
 | l :: ls,t :: ts=>by
  simp only [List.map_cons,Op.readGo,h.read,Ex.readGo h ls ts]
theorem Ex.possGo (h:Ex C φ) (ts:List Line):∀ (l:List Line) (k:Nat),possGo (ts.map φ) k (l.map φ) = Op.possGo ts k l
 | [],_=>rfl
 | x :: r,k=>by
  simp only [List.map_cons,Op.possGo,h.poss,Ex.possGo h ts r]
theorem Ex.mixGo (h:Ex C φ) (ts:List Line):∀ (l:List Line) (k:Nat) (v:Int),mixGo (ts.map φ) k v (l.map φ) = Op.mixGo ts k v l
 | [],_,_=>rfl
 | x :: r,k,v=>by
  simp only [List.map_cons,Op.mixGo,h.mix,Ex.mixGo h ts r]
theorem Ex.mixB (h:Ex C φ) (ts:List Line):mixB (ts.map φ) = Op.mixB ts:=h.mixGo ts ts 0 0
theorem Ex.moneyGo (h:Ex C φ) (coin:Int):∀ (ts:List Line) (v:Int),moneyGo coin v (ts.map φ) = Op.moneyGo coin v ts
 | [],_=>rfl
 | x :: r,v=>by
  simp only [List.map_cons,Op.moneyGo,h.kind,Ex.moneyGo h coin r]
theorem Ex.moneyB (h:Ex C φ) (b:Book) (ts:List Line) (a:Nat):moneyB (mapB φ b) (ts.map φ) a = Op.moneyB b ts a:=by
 unfold Op.moneyB
 rw [← List.map_take]
 exact h.moneyGo _ _ _
variable {b:Book}
theorem Ex.fault (h:Ex b.chairs φ) (hf:faultB b = 0):faultB (mapB φ b) = 0:=by
 obtain ⟨h1,h4,hl8,hc4,hc1,hc2,hx1,hx2,hok,hcok,hm⟩:=fault0 hf
 have e1:(b.lines.map φ).all (lineOk b.chairs) = b.lines.all (lineOk b.chairs):=by
  rw [List.all_map]
  congr 1
  exact funext h.ok
 have e2:=h.many b.lines 1 fun l hl=>List.all_eq_true.1 hok l hl
 rw [← hf]
 simp only [faultB,mapB,e1,e2,List.length_map]
 rfl
theorem Ex.fits (h:Ex b.chairs φ) (t:List Line):fitsB (mapB φ b) (t.map φ) = fitsB b t:=by
 have e:∀ x,cntOne (mapB φ b) (t.map φ) x = cntOne b t x:=fun x=>by unfold cntOne; rw [h.moneyB]
 have e1:isReadB (mapB φ b) (t.map φ) = isReadB b t:=by
  simp only [isReadB,mapB,List.length_map,h.readGo]
 have e2:isPossB (t.map φ) = isPossB t:=h.possGo t t 0
 have e3:(mapB φ b).counts.all (cntOne (mapB φ b) (t.map φ)) = b.counts.all (cntOne b t):=by
  show b.counts.all (cntOne (mapB φ b) (t.map φ)) = _
  congr 1
  exact funext e
 unfold fitsB
 rw [e1,e2,e3]
theorem Ex.mem (h:Ex b.chairs φ) (hf:faultB b = 0) {t:List Line}:t.map φ ∈ truthsR (mapB φ b) ↔ t ∈ truthsR b:=by
 rw [truthsR_mem hf,truthsR_mem (h.fault hf),h.fits]
theorem Ex.mem2 (h:Ex b.chairs φ) (hf:faultB b = 0) {t:List Line}:t ∈ truthsR (mapB φ b) ↔ t.map φ ∈ truthsR b:=by
 rw [← h.mem hf,h.mapmap]
theorem Ex.none (h:Ex b.chairs φ) (hf:faultB b = 0):truthsR (mapB φ b) = [] ↔ truthsR b = []:=by
 rw [List.eq_nil_iff_forall_not_mem,List.eq_nil_iff_forall_not_mem]
 exact ⟨fun q t ht=>q _ ((h.mem hf).2 ht),fun q t ht=>q _ ((h.mem2 hf).1 ht)⟩
theorem Ex.asked (h:Ex b.chairs φ) (hf:faultB b = 0):askedP (mapB φ b) true = askedP b true:=by
 rw [asked_eq hf,asked_eq (h.fault hf)]
 by_cases hE:truthsR b = []
 ·rw [if_pos ((h.none hf).2 hE),if_pos hE]
 ·rw [if_neg fun q=>hE ((h.none hf).1 q),if_neg hE]
theorem Ex.verd (h:Ex b.chairs φ) (hf:faultB b = 0) (s s':Line→Int) (hs:∀ l,s' (φ l) = s l) (k:Nat) (j:Int) :
  verd ((truthsR (mapB φ b)).length:Nat) (outN s' (truthsR (mapB φ b)) k j) = Op.verd ((truthsR b).length:Nat) (outN s (truthsR b) k j):=by
 have e:∀ t,outB s' (t.map φ) k j = outB s t k j:=fun t=>outB_map h.kind (fun l=>by rw [hs]) t k
 have a1:∀ v:Bool,(∀ t ∈ truthsR (mapB φ b),decide (0≤outB s' t k j) = v) ↔ ∀ t ∈ truthsR b,decide (0≤outB s t k j) = v:=by
  intro v
  constructor
  ·intro q t ht
   rw [← e t]
   exact q _ ((h.mem hf).2 ht)
  ·intro q t ht
   have:=q _ ((h.mem2 hf).1 ht)
   rw [← e,h.mapmap] at this
   exact this
 refine verd_congr ?_ ?_
 ·rw [outN,outN,count_all,count_all]
  exact a1 true
 ·rw [outN,outN,count_none,count_none]
  exact a1 false
theorem Ex.bounds (h:Ex b.chairs φ) (hf:faultB b = 0) {f f':List Line→Int} (hff:∀ t,f' (t.map φ) = f t) {r r':Int × Int} (h1:BoundsOf (truthsR b) f r) (h2:BoundsOf (truthsR (mapB φ b)) f' r'):r' = r:=by
 refine h2.uniq h1 fun v=>⟨?_,?_⟩
 ·rintro ⟨t,ht,e⟩
  refine ⟨t.map φ,(h.mem2 hf).1 ht,?_⟩
  rw [← hff,h.mapmap]
  exact e
 ·rintro ⟨t,ht,e⟩
  exact ⟨t.map φ,(h.mem hf).2 ht,by rw [hff]; exact e⟩
structure Same2 (b b':Book) (k:Nat):Prop where
 asked:askedP b' true = askedP b true
 money:truthsR b ≠ []→boundsP b' Scene.money k = boundsP b Scene.money k
 mixed:truthsR b ≠ []→boundsP b' Scene.mixed b'.lines.length = boundsP b Scene.mixed b.lines.length
theorem Ex.same (h:Ex b.chairs φ) (hf:faultB b = 0) {k:Nat} (hk:k≤b.lines.length):Same2 b (mapB φ b) k where
 asked:=h.asked hf
 money:=fun hE=>by
  have hk':k≤(mapB φ b).lines.length:=by simpa [mapB] using hk
  exact h.bounds hf (fun t=>h.moneyB b t k) (boundsM hf hk hE) (boundsM (h.fault hf) hk' fun q=>hE ((h.none hf).1 q))
 mixed:=fun hE=>h.bounds hf h.mixB (boundsX hf hE) (boundsX (h.fault hf) fun q=>hE ((h.none hf).1 q))
end
/-! ### One more count -/
def moreC (b:Book) (c:Count):Book:={ b with counts:=b.counts ++ [c] }
/-! ### One more line -/
def moreL (b:Book) (l:Line):Book:={ b with lines:=b.lines ++ [l] }
theorem poss_take {t:List Line} {n:Nat}:∀ (l:List Line) (k:Nat),k + l.length≤n→possGo (t.take n) k l = possGo t k l
 | [],_,_=>rfl
 | x :: r,k,h=>by
  have h:k + r.length + 1≤n:=by simpa [Nat.add_assoc] using h
  have ih:=poss_take (t:=t) (n:=n) r (k + 1) (by omega)
  have e:∀ (s:Line→Int) (z:Int),outB s (t.take n) k z = outB s t k z:=fun s z=>by
   unfold outB
   rw [List.take_take,Nat.min_eq_left (by omega)]
  simp only [possGo,possOne,e,ih]
theorem poss_pre {t:List Line}:∀ (l:List Line) (k m:Nat),possGo t k l = true→possGo t k (l.take m) = true
 | [],_,m,_=>by simp [possGo]
 | x :: r,k,0,_=>by simp [possGo]
 | x :: r,k,m + 1,h=>by
  simp only [possGo,Bool.and_eq_true] at h
  simp only [List.take_succ_cons,possGo,Bool.and_eq_true]
  exact ⟨h.1,poss_pre r (k + 1) m h.2⟩
/-! ### A sign that becomes readable -/
def setL (b:Book) (j:Nat) (l:Line):Book:={ b with lines:=b.lines.set j l }
structure Finer (C:Int) (l l':Line):Prop where
 ok:lineOk C l' = true
 k:l.k = 0∨l.k = l'.k
 c:l.c < 0∨l.c = l'.c
 t:l.t < 0∨l.t = l'.t
theorem Finer.refl {C:Int} {l:Line} (h:lineOk C l = true):Finer C l l:=⟨h,.inr rfl,.inr rfl,.inr rfl⟩
theorem Finer.read {C:Int} {l l':Line} (h:Finer C l l') {x:Line} (hr:readOne C l' x = true):readOne C l x = true:=by
 obtain ⟨k,c,t⟩:=l
 obtain ⟨k',c',t'⟩:=l'
 obtain ⟨ok,hk,hc,ht⟩:=h
 obtain ⟨v1,v2,v3⟩:=valL_spec ok
 simp only at hk hc ht v1 v2 v3
 simp only [readOne,agreesB,inB,Bool.and_eq_true,Bool.or_eq_true,decide_eq_true_eq] at hr ⊢
 omega
theorem Finer.len {C:Int} (h1:1≤C) (h4:C≤4) {l l':Line} (hl:lineOk C l = true) (h:Finer C l l'):(readings C l').length≤(readings C l).length:=by
 rw [num_eq h1 h4 hl,num_eq h1 h4 h.ok]
 have hp:1≤C.toNat:=by omega
 obtain ⟨v1,v2,v3⟩:=valL_spec h.ok
 refine Nat.mul_le_mul ?_ (Nat.mul_le_mul ?_ ?_)
 ·rcases h.k with e | e
  ·rw [if_pos e]; split <;> omega
  ·rw [e]; exact Nat.le_refl _
 ·rcases h.c with e | e
  ·rw [if_pos e]; split <;> omega
  ·rw [e]; exact Nat.le_refl _
 ·rcases h.t with e | e
  ·rw [if_pos e]; split <;> omega
  ·rw [e]; exact Nat.le_refl _
end Go.Proofs.Try.Op
