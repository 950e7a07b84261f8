/- The level of one who asks for the winds of all truths. No condition. -/
import Derived.Test.YtkemmiljbaneoaaGreatO1
import Derived.Test.YtkemmiljbaneoaaGreatI1
import Derived.Test.YtkemmiljbaneoaaGreatFz
import Derived.Test.YtkemmiljbaneoaaGreatW3
open Go Go.Pg Go.Proofs Go.Wind
namespace Go.Proofs.Tryz.Op
set_option maxRecDepth 100000
set_option linter.unusedSimpArgs false
def rowV (γ h:Nat):List Int→V
 | []=>.nil
 | w=>.vec 1 (800 + h) γ w.length
@[simp] theorem rowV_nil (γ h:Nat):rowV γ h [] = .nil:=rfl
theorem rowV_ne {γ h:Nat} {w:List Int} (hw:w ≠ []):rowV γ h w = .vec 1 (800 + h) γ w.length:=by
 cases w with
 | nil=>exact absurd rfl hw
 | cons x w=>rfl
def rowsA (γs:Nat→Nat) (ws:List (List Int)):List (List V):=ws.mapIdx fun h w=>[rowV (γs h) h w]
noncomputable def bodyAs:Code:=.block 1 (.seq r76_10 (.seq r76_11 (.block 2 (.loop lb76_12))))
@[simp] theorem uAs (n:Nat) (st:XS):execA Tryz.prog ann kn n 69 bodyAs st = execA Tryz.prog ann kn n 69 (.block 1 (.seq r76_10 (.seq r76_11 (.block 2 (.loop lb76_12))))) st:=rfl
noncomputable def frAs (b:Beach) (c0:Nat):Fr:=[(30,true,.fn 137 [] [.ref (cellsB b),.ref [li []]]),(29,true,.agg (cellsB b)),(2,true,.ptr 1 2 c0 0),(7,true,.ptr 1 7 (c0 + 5) 0),(8,true,.ptr 1 8 (c0 + 6) 0)]
noncomputable def loopAs (b:Beach) (c0:Nat) (ls:LS):Res:=.loop (frAs b c0) [31] r76_9 bodyAs 69 ls
structure RwA (c0 c:Nat) (ws:List (List Int)) (L:Level) (γs:Nat→Nat):Prop where
 p24:L.get 24 = some (c0 + 1,.vec 22 (rowsA γs ws))
 row:∀ h,ws.getD h [] ≠ []→L.get (800 + h) = some (γs h,.vec 3 ((ws.getD h []).map encI))∧γs h < c
 no:∀ h,h < 5→ws.getD h [] = []→L.get (800 + h) = none
structure LvA (b:Beach) (c0:Nat) (ls:LS) (c:Nat) (s:Bool) (ws:List (List Int)) (L:Level):Prop where
 p7:L.get 7 = some (c0 + 5,.box [.ptr 1 28 (c0 + 4) 0])
 p28:L.get 28 = some (c0 + 4,.box (cellsB b ++ [.vec 1 24 (c0 + 1) b.winds.length,.mp 1 25 (c0 + 2),.mp 1 26 (c0 + 3)]))
 p25:L.get 25 = some (c0 + 2,.map [])
 p26:L.get 26 = some (c0 + 3,.map [])
 p8:L.get 8 = some (c0 + 6,.box [.bool s])
 rows:∃ γs,RwA c0 c ws L γs
 pr:L.get rkey = some (c0 + 7,loopAs b c0 ls)
 len:ws.length = b.winds.length
 st:∀ t:St,2≤t.up.length→t.loc.get 63 = none→shutLv t L = L
 pp:L.get 2 = some (c0,.box (cellsB b))∧L.get 30 = none∧L.get 63 = none
theorem RwA.mono {c0 c c1:Nat} {ws:List (List Int)} {L:Level} {γs:Nat→Nat} (h:RwA c0 c ws L γs) (hc:c≤c1):RwA c0 c1 ws L γs :=
 ⟨h.p24,fun k hk=>⟨(h.row k hk).1,Nat.lt_of_lt_of_le (h.row k hk).2 hc⟩,h.no⟩
theorem LvA.mono {b:Beach} {c0 c c1:Nat} {ls:LS} {s:Bool} {ws:List (List Int)} {L:Level} (h:LvA b c0 ls c s ws L) (hc:c≤c1):LvA b c0 ls c1 s ws L :=
 ⟨h.p7,h.p28,h.p25,h.p26,h.p8,by obtain ⟨γs,hr⟩:=h.rows; exact ⟨γs,hr.mono hc⟩,h.pr,h.len,h.st,h.pp⟩
theorem rowsV_flat (st:XS) (v:V) (hv:∀ l k o,toldV l k o 3 v = v):∀ ks,rowsV st ks v = v
 | []=>rfl
 | k :: ks=>by
  have ih:=rowsV_flat st v hv ks
  obtain ⟨c,fr,up,loc⟩:=st
  by_cases h:k < 10000
  ·rw [rowsV_cons _ _ _ _ _ _ _ h,hv,ih]
  ·rw [rowsV_abs _ _ _ _ h,hv,ih]
theorem rows_told {c0 c:Nat} {ws:List (List Int)} {L:Level} {γs:Nat→Nat} (h:RwA c0 c ws L γs) {k:Nat} (hk:k≤4) (hne:ws.getD k [] ≠ []) (B:Level) (R:List Level) (c1:Nat) (fr:Fr) (loc:Level) :
  rowsV ⟨c1,fr,⟨B :: L :: R,loc⟩⟩ [20800,20801,20802,20803,20804] (.vec 1 (800 + k) (γs k) (ws.getD k []).length) = li (ws.getD k []):=by
 have hr:=(h.row k hne).1
 have e1:¬ 1 = R.length + 1 + 1:=by omega
 have:k = 0∨k = 1∨k = 2∨k = 3∨k = 4:=by omega
 generalize ws.getD k [] = w at hr hne ⊢
 have hget:∀ j,St.get ⟨B :: L :: R,loc⟩ 1 j = L.get j:=fun j=>by
  simp [St.get]
 simp only [rowsV_abs _ _ _ _ (show ¬ 20800 < 10000 by decide),rowsV_abs _ _ _ _ (show ¬ 20801 < 10000 by decide),rowsV_abs _ _ _ _ (show ¬ 20802 < 10000 by decide),rowsV_abs _ _ _ _ (show ¬ 20803 < 10000 by decide),rowsV_abs _ _ _ _ (show ¬ 20804 < 10000 by decide),rowsV_nil,Nat.reduceDiv,Nat.reduceMod,Nat.reduceSub,hget]
 have skip:∀ a o,a ≠ 800 + k→toldV 1 a o 3 (.vec 1 (800 + k) (γs k) w.length) = .vec 1 (800 + k) (γs k) w.length:=fun a o ha=>by
  simp only [toldV]
  split
  ·rw [if_neg fun e=>ha e.2.1.symm]
  ·rfl
 have hit:toldV 1 (800 + k) (L.get (800 + k)) 3 (.vec 1 (800 + k) (γs k) w.length) = li w:=by
  rw [hr]; simp [toldV]
 rcases this with rfl | rfl | rfl | rfl | rfl
 ·rw [hit]; simp
 ·rw [skip 800 _ (by decide),hit]; simp
 ·rw [skip 800 _ (by decide),skip 801 _ (by decide),hit]; simp
 ·rw [skip 800 _ (by decide),skip 801 _ (by decide),skip 802 _ (by decide),hit]; simp
 ·rw [skip 800 _ (by decide),skip 801 _ (by decide),skip 802 _ (by decide),skip 803 _ (by decide),hit]
theorem rowsA_len (γs:Nat→Nat) (ws:List (List Int)):(rowsA γs ws).length = ws.length:=by unfold rowsA; simp
theorem rowsA_get {γs:Nat→Nat} {ws:List (List Int)} {h:Nat} (h1:h < (rowsA γs ws).length) (h2:h < ws.length):(rowsA γs ws)[h] = [rowV (γs h) h ws[h]]:=by
 simp only [rowsA,List.getElem_mapIdx]
def putG (γs:Nat→Nat) (h c:Nat):Nat→Nat:=fun j=>if j = h then c else γs j
theorem rowsA_app {γs:Nat→Nat} {ws:List (List Int)} {h:Nat} (_:h < ws.length) (c:Nat) {w:List Int} (hw:w ≠ []):(rowsA γs ws).set h [.vec 1 (800 + h) c w.length] = rowsA (putG γs h c) (ws.set h w):=by
 apply List.ext_getElem (by simp [rowsA_len])
 intro j h1 h2
 have hj:j < ws.length:=by simpa [rowsA_len] using h1
 rw [List.getElem_set,rowsA_get h2 (by simpa using hj),List.getElem_set]
 by_cases e:h = j
 ·subst e
  rw [if_pos rfl,if_pos rfl,rowV_ne hw,putG,if_pos rfl]
 ·rw [if_neg e,if_neg e,rowsA_get _ hj,putG,if_neg fun h=>e h.symm]
theorem mv_row {n d γ j:Nat} {w:List Int}:mvP n 63 1 d 3 (rowV γ j w) = rowV γ j w:=by
 cases w with
 | nil=>rfl
 | cons x w =>
  show (if 1 = n∧800 + j = 63 then _ else _) = _
  rw [if_neg (by omega)]
theorem rowsA_mv {γs:Nat→Nat} {ws:List (List Int)} {h:Nat} (hh:h < ws.length) (n c:Nat) {w:List Int} (hw:w ≠ []):((rowsA γs ws).set h [.vec n 63 c w.length]).map (List.map (mvP n 63 1 (800 + h) 3)) = rowsA (putG γs h c) (ws.set h w):=by
 rw [← rowsA_app hh c hw,List.map_set]
 congr 1
 ·apply List.ext_getElem (by simp)
  intro j h1 h2
  have hj:j < ws.length:=by simpa [rowsA_len] using h1
  rw [List.getElem_map,rowsA_get _ hj]
  exact congrArg (fun v=>[v]) mv_row
 ·simp [mvP]
theorem getD_set' (ws:List (List Int)) (h:Nat) (l:List Int) (j:Nat) (hh:h < ws.length):(ws.set h l).getD j [] = if j = h then l else ws.getD j []:=by
 simp only [List.getD_eq_getElem?_getD,List.getElem?_set]
 by_cases e:h = j
 ·subst e; simp [hh]
 ·rw [if_neg e,if_neg fun h=>e h.symm]
theorem RwA.put {c0 c:Nat} {ws:List (List Int)} {L:Level} {γs:Nat→Nat} (hr:RwA c0 c ws L γs) {h:Nat} (hh:h < ws.length) {w:List Int} (hw:w ≠ []) {L':Level}
  (h24:L'.get 24 = some (c0 + 1,.vec 22 (rowsA (putG γs h c) (ws.set h w)))) (h800:L'.get (800 + h) = some (c,.vec 3 (w.map encI))) (hot:∀ j,j ≠ h→L'.get (800 + j) = L.get (800 + j)):RwA c0 (c + 1) (ws.set h w) L' (putG γs h c):=by
 refine ⟨h24,fun j hj=>?_,fun j hj5 hj=>?_⟩
 ·rw [getD_set' _ _ _ _ hh] at hj ⊢
  by_cases e:j = h
  ·subst e
   rw [if_pos rfl,putG,if_pos rfl]
   exact ⟨h800,Nat.lt_succ_self _⟩
  ·rw [if_neg e] at hj ⊢
   rw [hot j e,putG,if_neg e]
   exact ⟨(hr.row j hj).1,Nat.lt_succ_of_lt (hr.row j hj).2⟩
 ·rw [getD_set' _ _ _ _ hh] at hj
  by_cases e:j = h
  ·subst e
   rw [if_pos rfl] at hj
   exact absurd hj hw
  ·rw [if_neg e] at hj
   rw [hot j e]
   exact hr.no j hj5 hj
theorem closeOX_low {t:St} {l k γ m:Nat} (h:¬ l = t.up.length):closeOX t (.vec l k γ m) = some (.vec l k γ m):=by
 obtain ⟨up,loc⟩:=t
 rw [closeOX_vec,closeX_vec,if_neg h]
theorem shut_rows {t:St} (ht:2≤t.up.length) (γs:Nat→Nat) (ws:List (List Int)):shutRes t (.vec 22 (rowsA γs ws)) = .vec 22 (rowsA γs ws):=by
 refine shut_vec fun e he v hv=>?_
 obtain ⟨j,hj,rfl⟩:=List.getElem_of_mem he
 rw [rowsA_get hj (by simpa [rowsA_len] using hj)] at hv
 simp only [List.mem_cons,List.not_mem_nil,or_false] at hv
 subst hv
 have hne:¬ 1 = t.up.length:=by omega
 cases ws[j]'(by simpa [rowsA_len] using hj) with
 | nil=>rfl
 | cons x w=>exact closeOX_low hne
theorem mapOO_none {α β:Type} {f:α→Option β}:∀ {l:List α} {x:α},x ∈ l→f x = none→mapOO f l = none
 | y :: l,x,hx,hf=>by
  simp only [mapOO]
  rcases List.mem_cons.1 hx with rfl | hx
  ·rw [hf]
  ·rw [mapOO_none hx hf]
   cases f y <;> rfl
theorem shut_shadow {t:St} (ht:2≤t.up.length) (h63:t.loc.get 63 = none) {γs:Nat→Nat} {ws:List (List Int)} {h:Nat} (hh:h < ws.length) (n c m:Nat):shutRes t (.vec 22 ((rowsA γs ws).set h [.vec n 63 c m])) = .vec 22 ((rowsA γs ws).set h [.vec n 63 c m]):=by
 by_cases e:n = t.up.length
 ·have hx:closeOX t (.vec n 63 c m) = none:=by
   obtain ⟨up,loc⟩:=t
   simp only at h63 e
   rw [closeOX_vec,closeX_vec,if_pos e,h63]
   rfl
  have hm:mapOO (mapOO (closeOX t)) ((rowsA γs ws).set h [.vec n 63 c m]) = none:=by
   refine mapOO_none (x:=[.vec n 63 c m]) ?_ (mapOO_none (x:=.vec n 63 c m) (by simp) hx)
   rw [List.mem_iff_getElem]
   exact ⟨h,by simpa [rowsA_len] using hh,by simp⟩
  show (match (match mapOO (mapOO (closeOX t)) ((rowsA γs ws).set h [.vec n 63 c m]) with | some ds=>some (Res.vec 22 ds) | none=>none) with | some r'=>r' | none=>_) = _
  rw [hm]
 ·refine shut_vec fun x hx v hv=>?_
  rcases List.mem_or_eq_of_mem_set hx with hx | rfl
  ·obtain ⟨j,hj,rfl⟩:=List.getElem_of_mem hx
   rw [rowsA_get hj (by simpa [rowsA_len] using hj)] at hv
   simp only [List.mem_cons,List.not_mem_nil,or_false] at hv
   subst hv
   have hne:¬ 1 = t.up.length:=by omega
   cases ws[j]'(by simpa [rowsA_len] using hj) with
   | nil=>rfl
   | cons x w=>exact closeOX_low hne
  ·simp only [List.mem_cons,List.not_mem_nil,or_false] at hv
   subst hv
   exact closeOX_low e
end Go.Proofs.Tryz.Op
/- A truth's winds are noted, hour by hour. No condition. -/
open Go Go.Pg Go.Proofs Go.Wind
namespace Go.Proofs.Tryz.Op
set_option maxRecDepth 100000
set_option linter.unusedSimpArgs false
theorem gh_mv (st:XS):ghO [25008011801063] st = mv1 63 (mvLvl 8 st) (mvSlot 800 11 st) [24] st:=rfl
theorem gh_mv0 (c:Nat) (fr:Fr) (up:List Level):ghO [25008011801063] ⟨c,fr,⟨up,[]⟩⟩ = ⟨c,fr,⟨up,[]⟩⟩:=by
 rw [gh_mv]; rfl
theorem getF_mvF {n k l d:Nat} (fr:Fr) (j:Nat):getF (mvF n k l d fr) j = (getF fr j).map fun x=>(x.1,mvP n k l d 3 x.2):=by
 rw [getF_eq,getF_eq,mvF_get]
theorem gh_mv1 (c γ h g7 o7 g24:Nat) (T:TypeId) (es:List (List V)) (fr:Fr) (B L:Level) (R:List Level) (r24:Res) (h7:getF fr 7 = some (true,.ptr 1 7 g7 o7)) (h10:getF fr 10 = some (true,.int .i64 h)) (h24:L.get 24 = some (g24,r24)) :
  ghO [25008011801063] ⟨c,fr,⟨B :: L :: R,[(63,γ,.vec T es)]⟩⟩ = ⟨c,mvF (R.length + 1 + 1) 63 1 (800 + h) fr,⟨B :: ((800 + h,γ,mvR (R.length + 1 + 1) 63 1 (800 + h) (.vec T es)) :: (24,g24,mvR (R.length + 1 + 1) 63 1 (800 + h) r24) :: L) :: R,[]⟩⟩:=by
 rw [gh_mv]
 have e1:mvLvl 8 ⟨c,fr,⟨B :: L :: R,[(63,γ,.vec T es)]⟩⟩ = 1:=by
  show (match getF fr 7 with | some (true,.ptr l _ _ _)=>l | _=>0) = 1
  rw [h7]
 have e2:mvSlot 800 11 ⟨c,fr,⟨B :: L :: R,[(63,γ,.vec T es)]⟩⟩ = 800 + h:=by
  show (match getF fr 10 with | some (true,.int _ n)=>800 + n.toNat | _=>800) = 800 + h
  rw [h10]
  simp
 rw [e1,e2]
 unfold mv1
 have e3:mvOK 1 (B :: L :: R).length (Level.get [(63,γ,.vec T es)] 63) = true:=by
  simp [mvOK,Level.get,plR]
 simp only [e3]
 simp [mvS,Level.get,mvU,h24,mvL,St.put,put_eq0]
theorem mvP_int {n k l d:Nat} (f:Nat) (q:IntKind) (x:Int):mvP n k l d f (.int q x) = .int q x:=by cases f <;> rfl
theorem mvP_ptrK {n k l d a b g o:Nat} (f:Nat) (h:¬ b = k):mvP n k l d f (.ptr a b g o) = .ptr a b g o:=by
 cases f with
 | zero=>rfl
 | succ f=>simp only [mvP]; rw [if_neg fun e=>h e.2]
theorem mvP_vecK {n k l d a b g o:Nat} (f:Nat) (h:¬ b = k):mvP n k l d f (.vec a b g o) = .vec a b g o:=by
 cases f with
 | zero=>rfl
 | succ f=>simp only [mvP]; rw [if_neg fun e=>h e.2]
theorem mvR_vec {n k l d:Nat} (T:TypeId) (es:List (List V)):mvR n k l d (.vec T es) = .vec T (es.map (List.map (mvP n k l d 3))):=rfl
theorem appJ {k:Nat} {x:Int} (h:k≤10000):appOK Tryz.prog 3 k [[.int .i64 x]] = true:=by
 rw [appOK_iff (by simp) (by simp)]
 simp [maxLen]; omega
theorem adV_nil {P:Program} {fr:Fr} {s:St} (e d c:Nat) (y:List V) (ys:List (List V)) (h:appOK P e 0 (y :: ys) = true):adV P e d c fr s .nil (y :: ys) = some (⟨c + 1,(d,true,.vec s.up.length d c (ys.length + 1)) :: fr,s.put s.up.length d c (.vec e (y :: ys))⟩,[(s.up.length,d),(s.up.length,d + apK)]):=by
 unfold adV
 simp [newE,h]
theorem lAs (b:Beach) (c0:Nat) (h5:b.winds.length≤5) (s:Bool) (t:List Int) (ht:t.length = b.winds.length) (hn:∀ n ∈ t,0≤n∧n≤3) (B:Level) (L1:Level) (R:List Level) (g9:Nat) (p9:L1.get 9 = some (g9,.vec 3 (t.map encI))) :
  ∀ (d h c:Nat) (ws:List (List Int)) (L:Level),h + d = t.length→LvA b c0 .busy c s ws L→c0 + 8≤c→RowsOK ws →
  ∃ fr' c' L',LvA b c0 .busy c' s (addW ws h (t.drop h)) L'∧c≤c'∧∀ n m,d < m→loopA (execA Tryz.prog ann kn (n+1400) 69) lb76_12 (ann 69 (fstR lb76_12)) m ⟨c,[(7,true,.ptr 1 7 (c0 + 5) 0),(32,true,.vec 2 9 g9 t.length),(33,true,i t.length),(34,true,i h)],⟨B :: L :: L1 :: R,[]⟩⟩ =
   some (.exit 2,⟨c',fr',⟨B :: L' :: L1 :: R,[]⟩⟩)
 | 0,h,c,ws,L,hd,hL,hc,hok=>by
  have:h = t.length:=by omega
  subst this
  refine ⟨?fr,c,L,by simpa [addW] using hL,Nat.le_refl _,fun n m hm=>?g⟩
  case g =>
   obtain ⟨m,rfl⟩:∃ m',m = m' + 1:=⟨m - 1,by omega⟩
   rw [loopA_succ]
   simp
   rfl
 | d + 1,h,c,ws,L,hd,hL,hc,hok=>by
  have hh:h < t.length:=by omega
  have hw:=wrapS (k:=h) (by omega)
  have hdrop:t.drop h = t[h] :: t.drop (h + 1):=List.drop_eq_getElem_cons hh
  have hLo:=hL
  obtain ⟨p7,p28,p25,p26,p8,⟨γs,hr⟩,pr,hlen,pst,pp⟩:=hL
  have hg:ws.getD h [] = ws[h]'(by omega):=by rw [List.getD_eq_getElem?_getD,List.getElem?_eq_getElem (by omega)]; rfl
  have hl4:(ws.getD h []).length≤4:=by rw [hg]; exact hok.len _ (List.getElem_mem _)
  have qc:=fun n=>kContains n (ws.getD h []) t[h] (by omega)
  have h24:=hr.p24
  have hra:(rowsA γs ws)[h]? = some [rowV (γs h) h (ws.getD h [])]:=by
   unfold rowsA
   rw [List.getElem?_mapIdx,List.getElem?_eq_getElem (by omega),hg]
   rfl
  have hrl:(rowsA γs ws).length = ws.length:=by unfold rowsA; simp
  have hrx:(rowsA γs ws)[h]'(by omega) = [rowV (γs h) h (ws.getD h [])]:=by
   have:=hra
   rw [List.getElem?_eq_getElem (by omega),Option.some.injEq] at this
   exact this
  have hhw:h < b.winds.length:=by omega
  have hhr:h < (rowsA γs ws).length:=by omega
  have ha0:appOK Tryz.prog 3 0 [[.int .i64 t[h]]] = true:=appJ (by omega)
  have hc0:c0 < c:=by omega
  have hws:h < ws.length:=by omega
  have hx3:=hn t[h] (List.getElem_mem hh)
  have hka:∀ k,900≤k→(800 + h = k) = False:=fun k hk=>by simp; omega
  have hkb:∀ k,k < 800→(800 + h = k) = False:=fun k hk=>by simp; omega
  have hkc:∀ k,k < 800→(k = 800 + h) = False:=fun k hk=>by simp; omega
  have hkd:∀ k,900≤k→(k = 800 + h) = False:=fun k hk=>by simp; omega
  have hrb:b.winds.length≤(rowsA γs ws).length:=by omega
  by_cases hm:t[h] ∈ ws.getD h []
  ·have hmd:decide (t[h] ∈ ws.getD h []) = true:=decide_eq_true hm
   rw [hmd] at qc
   have hne:ws.getD h [] ≠ []:=List.ne_nil_of_mem hm
   have hwv:=rowV_ne (γ:=γs h) (h:=h) hne
   have hrt:=fun c1 fr loc=>rows_told hr (k:=h) (by omega) hne B (L1 :: R) c1 fr loc
   obtain ⟨fr',c',L',i1,i2,ih⟩:=lAs b c0 h5 s t ht hn B L1 R g9 p9 d (h + 1) c ws L (by omega) hLo hc hok
   have hadd:addW ws h (t.drop h) = addW ws (h + 1) (t.drop (h + 1)):=by
    rw [hdrop]
    show addW (addN ws h t[h]) (h + 1) (t.drop (h + 1)) = _
    rw [addN,if_pos hm]
   rw [hadd]
   refine ⟨fr',c',L',i1,i2,fun n m hm'=>?_⟩
   obtain ⟨m,rfl⟩:∃ m',m = m' + 1:=⟨m - 1,by omega⟩
   have ih:=ih n m (by omega)
   have hfl:∀ st x,rowsV st [20800,20801,20802,20803,20804] (.int .i64 x) = .int .i64 x:=fun st x=>rowsV_flat st _ (fun _ _ _=>toldV_int _ _ _) _
   rw [hwv] at hrx
   generalize ws.getD h [] = w at *
   rw [loopA_succ]
   simp only [cellsB,encI] at p28 qc ih ⊢
   simp at ih
   simp [-rowsV_abs,hh,hw,encI,p7,p28,p9,h24,hhr,hhw,hrb,hrx,hrt,hfl,qc,gh_mv0,ih]
  ·have hmd:decide (t[h] ∈ ws.getD h []) = false:=decide_eq_false hm
   rw [hmd] at qc
   have hfl:∀ st x,rowsV st [20800,20801,20802,20803,20804] (.int .i64 x) = .int .i64 x:=fun st x=>rowsV_flat st _ (fun _ _ _=>toldV_int _ _ _) _
   have hfn:∀ st,rowsV st [20800,20801,20802,20803,20804] .nil = .nil:=fun st=>rowsV_flat st _ (fun _ _ _=>toldV_nil _) _
   by_cases hne:ws.getD h [] = []
   ·rw [hne] at hrx qc
    rw [rowV_nil] at hrx
    have hne1:([t[h]]:List Int) ≠ []:=by simp
    have hadd:addN ws h t[h] = ws.set h [t[h]]:=by rw [addN,if_neg hm,hne]; rfl
    have hrs:=rowsA_mv (γs:=γs) hws (R.length + 1 + 1 + 1) c hne1
    have hL':LvA b c0 .busy (c + 1) s (ws.set h [t[h]]) ((800 + h,c,.vec 3 [[.int .i64 t[h]]]) :: (24,c0 + 1,.vec 22 (rowsA (putG γs h c) (ws.set h [t[h]]))) :: (24,c0 + 1,.vec 22 ((rowsA γs ws).set h [.vec (R.length + 1 + 1 + 1) 63 c 1])) :: L):=by
     refine ⟨?_,?_,?_,?_,?_,⟨putG γs h c,hr.put hws hne1 (by simp; omega) (by simp [encI]) fun j hj=>by simp [hj,show ¬ 800 + j = 24 by omega]⟩,?_,by simpa using hlen,fun T h1 h2=>?_,by simpa [hkc] using pp⟩
     ·simpa [hkc] using p7
     ·simpa [hkc] using p28
     ·simpa [hkc] using p25
     ·simpa [hkc] using p26
     ·simpa [hkc] using p8
     ·simpa [rkey,hkd] using pr
     ·rw [shutLv_cons,shutLv_cons,shutLv_cons,shut_rows h1,shut_shadow h1 h2 hws,pst T h1 h2,show [[V.int .i64 t[h]]] = [t[h]].map encI from rfl,shut_vecI]
    obtain ⟨fr',c',L',i1,i2,ih⟩:=lAs b c0 h5 s t ht hn B L1 R g9 p9 d (h + 1) (c + 1) _ _ (by omega) hL' (by omega) (by rw [← hadd]; exact hok.add h _ hx3)
    have hadw:addW ws h (t.drop h) = addW (ws.set h [t[h]]) (h + 1) (t.drop (h + 1)):=by
     rw [hdrop,← hadd]
     rfl
    rw [hadw]
    refine ⟨fr',c',L',i1,by omega,fun n m hm'=>?_⟩
    obtain ⟨m,rfl⟩:∃ m',m = m' + 1:=⟨m - 1,by omega⟩
    have ih:=ih n m (by omega)
    rw [loopA_succ]
    simp only [List.length_singleton] at hrs
    have hgh:=fun c1 fr (h7:getF fr 7 = some (true,.ptr 1 7 (c0 + 5) 0)) (h10:getF fr 10 = some (true,.int .i64 h))=>gh_mv1 c1 c h _ _ (c0 + 1) 3 [[.int .i64 t[h]]] fr B ((24,c0 + 1,.vec 22 ((rowsA γs ws).set h [.vec (R.length + 1 + 1 + 1) 63 c 1])) :: L) (L1 :: R) _ h7 h10 rfl
    simp only [cellsB,encI,li,List.map_nil] at p28 qc ih ⊢
    simp at ih
    simp [-rowsV_abs,hh,hw,encI,p7,p28,p9,h24,hhr,hhw,hrb,hrx,hfl,hfn,qc,adV_nil,ha0,hka,hkb,hkc,hkd,apK,put_eq0,hc0,getF_mvF,hgh,hrs,mvP_int,mvP_ptrK,mvP_vecK,mvR_vec,ih]
   ·have hwv:=rowV_ne (γ:=γs h) (h:=h) hne
    have hrt:=fun c1 fr loc=>rows_told hr (k:=h) (by omega) hne B (L1 :: R) c1 fr loc
    have hrow:=(hr.row h hne).1
    have hγ:=(hr.row h hne).2
    rw [hwv] at hrx
    have ha1:appOK Tryz.prog 3 (ws.getD h []).length [[.int .i64 t[h]]] = true:=appJ (by omega)
    have hadd:addN ws h t[h] = ws.set h (ws.getD h [] ++ [t[h]]):=by rw [addN,if_neg hm]
    generalize ws.getD h [] = w at *
    have hne1:w ++ [t[h]] ≠ []:=by simp
    have hrs:=rowsA_app (γs:=γs) hws c hne1
    simp only [List.length_append,List.length_singleton] at hrs
    have hL':LvA b c0 .busy (c + 1) s (ws.set h (w ++ [t[h]])) ((24,c0 + 1,.vec 22 (rowsA (putG γs h c) (ws.set h (w ++ [t[h]])))) :: (800 + h,c,.vec 3 (w.map encI ++ [[.int .i64 t[h]]])) :: L):=by
     refine ⟨?_,?_,?_,?_,?_,⟨putG γs h c,hr.put hws hne1 (by simp) (by simp [encI,show ¬ 800 + h = 24 by omega]) fun j hj=>by simp [hj,show ¬ 800 + j = 24 by omega]⟩,?_,by simpa using hlen,fun T h1 h2=>?_,by simpa [hkc] using pp⟩
     ·simpa [hkc] using p7
     ·simpa [hkc] using p28
     ·simpa [hkc] using p25
     ·simpa [hkc] using p26
     ·simpa [hkc] using p8
     ·simpa [rkey,hkd] using pr
     ·have e:(w.map encI ++ [[V.int .i64 t[h]]]) = (w ++ [t[h]]).map encI:=by simp [encI]
      rw [shutLv_cons,shutLv_cons,shut_rows h1,e,shut_vecI,pst T h1 h2]
    obtain ⟨fr',c',L',i1,i2,ih⟩:=lAs b c0 h5 s t ht hn B L1 R g9 p9 d (h + 1) (c + 1) _ _ (by omega) hL' (by omega) (by rw [← hadd]; exact hok.add h _ hx3)
    have hadw:addW ws h (t.drop h) = addW (ws.set h (w ++ [t[h]])) (h + 1) (t.drop (h + 1)):=by
     rw [hdrop,← hadd]
     rfl
    rw [hadw]
    refine ⟨fr',c',L',i1,by omega,fun n m hm'=>?_⟩
    obtain ⟨m,rfl⟩:∃ m',m = m' + 1:=⟨m - 1,by omega⟩
    have ih:=ih n m (by omega)
    rw [loopA_succ]
    simp only [cellsB,encI] at p28 qc ih ⊢
    simp at ih
    simp [-rowsV_abs,hh,hw,encI,p7,p28,p9,h24,hhr,hhw,hrb,hrx,hrt,hfl,qc,hrow,hγ,ha1,hka,hkb,hkc,hkd,apK,put_eq0,hc0,hrs,gh_mv0,ih]
end Go.Proofs.Tryz.Op
/- The round of one who asks: a truth after another. No condition. -/
open Go Go.Pg Go.Proofs Go.Wind
namespace Go.Proofs.Tryz.Op
set_option maxRecDepth 100000
set_option linter.unusedSimpArgs false
structure LvAs (b:Beach) (c0:Nat) (c:Nat) (g:Bool) (a:Bool × List (List Int)) (L:Level):Prop where
 go:g = true
 lv:LvA b c0 .ready c a.1 a.2 L
 ok:RowsOK a.2
def stepA (a:Bool × List (List Int)) (t:List Int):(Bool × List (List Int)) × Bool:=((true,addW a.2 0 t),true)
theorem LvA.put {b:Beach} {c0 c:Nat} {ls ls':LS} {s s':Bool} {ws:List (List Int)} {L:Level} (h:LvA b c0 ls c s ws L) (h5:b.winds.length≤5):LvA b c0 ls' c s' ws ((8,c0 + 6,.box [.bool s']) :: (rkey,c0 + 7,loopAs b c0 ls') :: L):=by
 obtain ⟨p7,p28,p25,p26,p8,⟨γs,hr⟩,pr,hlen,pst,pp⟩:=h
 refine ⟨by simpa [rkey] using p7,by simpa [rkey] using p28,by simpa [rkey] using p25,by simpa [rkey] using p26,by simp,⟨γs,by simpa [rkey] using hr.p24,fun j hj=>?_,fun j hj5 hj=>?_⟩,by simp [rkey],hlen,fun t h1 h2=>?_,by simpa [rkey] using pp⟩
 ·have hj4:(j:Nat) < ws.length:=by
   rcases Nat.lt_or_ge j ws.length with h | h
   ·exact h
   ·exact absurd (by rw [List.getD_eq_getElem?_getD,List.getElem?_eq_none h]; rfl) hj
  have e1:¬ 800 + j = 8:=by omega
  have e2:¬ 800 + j = 1000000:=by omega
  have:=hr.row j hj
  simpa [rkey,e1,e2] using this
 ·have e1:¬ 800 + j = 8:=by omega
  have e2:¬ 800 + j = 1000000:=by omega
  have:=hr.no j hj5 hj
  simpa [rkey,e1,e2] using this
 ·rw [shutLv_cons,shutLv_cons,pst t h1 h2]
  simp [loopAs]
theorem LvA.back {b:Beach} {c0 c:Nat} {ls ls':LS} {s:Bool} {ws:List (List Int)} {L:Level} (h:LvA b c0 ls c s ws L) (h5:b.winds.length≤5):LvA b c0 ls' c s ws ((rkey,c0 + 7,loopAs b c0 ls') :: L):=by
 obtain ⟨p7,p28,p25,p26,p8,⟨γs,hr⟩,pr,hlen,pst,pp⟩:=h
 refine ⟨by simpa [rkey] using p7,by simpa [rkey] using p28,by simpa [rkey] using p25,by simpa [rkey] using p26,by simpa [rkey] using p8,⟨γs,by simpa [rkey] using hr.p24,fun j hj=>?_,fun j hj5 hj=>?_⟩,by simp [rkey],hlen,fun t h1 h2=>?_,by simpa [rkey] using pp⟩
 ·have hj4:(j:Nat) < ws.length:=by
   rcases Nat.lt_or_ge j ws.length with h | h
   ·exact h
   ·exact absurd (by rw [List.getD_eq_getElem?_getD,List.getElem?_eq_none h]; rfl) hj
  have e2:¬ 800 + j = 1000000:=by omega
  have:=hr.row j hj
  simpa [rkey,e2] using this
 ·have e2:¬ 800 + j = 1000000:=by omega
  have:=hr.no j hj5 hj
  simpa [rkey,e2] using this
 ·rw [shutLv_cons,pst t h1 h2]
  simp [loopAs]
theorem stepAs (b:Beach) (hb:Valid b) (c0:Nat) (B:Level) (hB:∀ t:St,1≤t.up.length→shutLv t B = B):StepOK1 B b (LvAs b c0) stepA (c0 + 7) 1500:=by
 intro a L L1 rest loc c fr t g9 hL hc ht p9 hst
 obtain ⟨_,hL,hok⟩:=hL
 have hL0:=hL.put (ls':=.busy) (s':=true) hb.hl
 have hlt:=listed_len ht
 obtain ⟨fr',c',L',i1,i2,ih⟩:=lAs b c0 hb.hl true t hlt (listed_nums hb ht) B L1 (rest ++ [loc]) g9 p9 t.length 0 c a.2 _ (by omega) hL0 (by omega) hok
 rw [List.drop_zero] at i1
 have i1':=i1
 obtain ⟨q7,q28,q25,q26,q8,hrr,qr,qlen,qst,qpp⟩:=i1
 have p8:=hL.p8
 have pr:=hL.pr
 have e1:c0 + 7 < c:=by omega
 have e2:c0 + 7 < c':=by omega
 have e3:c0 + 6 < c:=by omega
 have e4:c0 < c:=by omega
 have hun:∀ A A':Level,unsnoc (A :: A' :: L1 :: (rest ++ [loc])) = some (A :: A' :: L1 :: rest,loc):=fun A A'=>by
  rw [← List.cons_append,← List.cons_append,← List.cons_append,unsnoc_snoc]
 have hst':=fun t h=>hst t h
 simp only [List.map_cons,List.map_append,List.map_nil,List.cons.injEq] at hst'
 have hsr:∀ t:St,(L1 :: (rest ++ [loc])).length + 2≤t.up.length→(rest.map (shutLv t) = rest∧shutLv t loc = loc):=fun t h=>by
  have:=(hst' t h).2
  exact ⟨List.append_inj_left' this rfl,by simpa using List.append_inj_right' this rfl⟩
 have h1s:∀ t:St,(L1 :: (rest ++ [loc])).length + 2≤t.up.length→shutLv t L1 = L1:=fun t h=>(hst' t h).1
 refine ⟨?L,c',⟨rfl,?lv,RowsOK.adds t hok 0 (listed_nums hb ht)⟩,i2,fun n=>?g⟩
 case g =>
  rw [yld_run (by simpa [loopAs] using pr) rfl (by omega)]
  simp only [putPs,Fr.put,frAs]
  have h5:=hb.hl
  have ih:=ih (n + 95) (n + 1495) (by omega)
  rw [show n + 95 + 1400 = n + 1495 by omega] at ih
  simp
  rw [roundB_normal (fr0:=frAs b c0) (ps:=[31]) (asg:=r76_9) (body':=bodyAs) (N:=69) (by simpa [loopAs] using pr) e1]
  rw [show Res.loop (frAs b c0) [31] r76_9 bodyAs 69 LS.busy = loopAs b c0 .busy from rfl]
  simp [rkey] at ih
  simp [p8,Level.put,rkey,e3]
  rw [show (33,true,V.int IntKind.i64 (b.winds.length:Int)) = (33,true,V.int IntKind.i64 (t.length:Int)) by rw [hlt],← hlt]
  rw [ih]
  simp
  rw [show (1000000:Nat) = rkey from rfl,roundE_normal (fr0:=frAs b c0) (ps:=[31]) (asg:=r76_9) (body:=bodyAs) (N:=69) (by simpa [loopAs] using qr) (hun _ _) (by simp) e2]
  have s1:shutLv ⟨B :: L' :: L1 :: (rest ++ [loc]),[]⟩ L' = L':=qst _ (by simp) rfl
  have s2:=h1s ⟨B :: L' :: L1 :: (rest ++ [loc]),[]⟩ (by simp)
  have s3:=hsr ⟨B :: L' :: L1 :: (rest ++ [loc]),[]⟩ (by simp)
  rw [List.map_cons,List.map_cons,List.map_cons,hB _ (by simp),s1,s2,s3.1,s3.2]
  rfl
 case lv=>exact i1'.back hb.hl
end Go.Proofs.Tryz.Op
/- The contract of asked: the beach at work, handed over. No condition but a valid beach. -/
open Go Go.Pg Go.Proofs Go.Wind
namespace Go.Proofs.Tryz.Op
set_option maxRecDepth 100000
set_option linter.unusedSimpArgs false
theorem runA:∀ (T:List (List Int)) (a:Bool × List (List Int)),runG stepA a T = ((a.1 || !T.isEmpty,T.foldl (fun ws t=>addW ws 0 t) a.2),true)
 | [],a=>by simp [runG]
 | t :: T,a=>by
  have e:(stepA a t).2 = true:=rfl
  rw [runG,if_pos e,runA T]
  simp [stepA]
def windsA (b:Beach):List (List Int):=askW b.winds.length (dfsW b [] b.winds [])
def FineOK (b:Beach) (B:Level) (ff:FuncId) (cap:List V) (c0:Nat) (z:Bool):Prop:=∀ n d fr,ca2 (envA Tryz.prog ann kn (n+1200)) (some d) ⟨c0 + 1,fr,⟨[B],[(2,c0,.box (cellsB b))]⟩⟩ ff cap = some ⟨c0 + 1,(d,true,.bool z) :: fr,⟨[B],[(2,c0,.box (cellsB b))]⟩⟩
@[simp] theorem constV_ptr:constV (.pointer none) = some (.raw (.pointer none)):=rfl
@[simp] theorem closeX_ptr0 (s:St) (f:Nat):closeX s (f + 1) (.raw (.pointer none)) = some (.raw (.pointer none)):=rfl
theorem _root_.Go.Wind.Valid.w40 {b:Beach} (hb:Valid b):∀ l ∈ b.winds,l.length≤40:=fun l hl=>by have:=(hb.wl l hl).2; omega
section
variable {b:Beach} {B:Level} {ff:FuncId} {cap:List V}
theorem kAskedFault (h40:∀ l ∈ b.winds,l.length≤40) (hB:∀ t:St,1≤t.up.length→shutLv t B = B) (hco:cap.all (closedV 8) = false) (h:¬ faultB b = 0) (c d:Nat) (fr:Fr):∀ n,ca2 (envA Tryz.prog ann kn (n+6000)) (some d) ⟨c,fr,⟨[],B⟩⟩ 76 [.agg (cellsB b),.fn ff [] cap] =
  some ⟨c + 1,(d,true,.tup [.raw (.pointer none),i (faultB b)]) :: fr,⟨[],B⟩⟩:=by
 intro n
 rw [cf_open Tryz.func76 b76 rfl (by simp [cellsB,encI,encL,encP,hco])]
 have q1:=fun n=>kCheck n b h40
 simp only [cellsB] at q1 ⊢
 simp [c76,argFr,encI,encL,encP,q1,h,hB]
theorem kAskedPoor (hb:Valid b) (hB:∀ t:St,1≤t.up.length→shutLv t B = B) (hcw:cap.map weakV = cap) (hco:cap.all (closedV 8) = false) (c d:Nat) (hf:FineOK b B ff cap c false) (fr:Fr):∀ n,ca2 (envA Tryz.prog ann kn (n+6000)) (some d) ⟨c,fr,⟨[],B⟩⟩ 76 [.agg (cellsB b),.fn ff [] cap] =
  some ⟨c + 1,(d,true,.tup [.raw (.pointer none),i 2]) :: fr,⟨[],B⟩⟩:=by
 intro n
 rw [cf_open Tryz.func76 b76 rfl (by simp [cellsB,encI,encL,encP,hco])]
 have q1:=fun n=>kCheck n b hb.w40
 have hf:=fun n d fr=>hf (n + 4795) d fr
 rw [fault_of hb] at q1
 simp only [cellsB,Nat.add_assoc,Nat.reduceAdd] at q1 hf ⊢
 simp [c76,argFr,encI,encL,encP,q1,hB,hcw,hf]
theorem rowsA_start (γs:Nat→Nat) (k:Nat):rowsA γs (List.replicate k []) = List.replicate k [.nil]:=by
 apply List.ext_getElem (by simp [rowsA])
 intro j h1 h2
 rw [rowsA_get h1 (by simpa [rowsA] using h1)]
 simp
noncomputable def lvA0 (b:Beach) (c:Nat):Level:=[(rkey,c + 7,loopAs b c .ready),(2,c,.box (cellsB b)),(7,c + 5,.box [.ptr 1 28 (c + 4) 0]),(8,c + 6,.box [.bool false]),(24,c + 1,.vec 22 (List.replicate b.winds.length [.nil])),(25,c + 2,.map []),(26,c + 3,.map []),
 (28,c + 4,.box (cellsB b ++ [.vec 1 24 (c + 1) b.winds.length,.mp 1 25 (c + 2),.mp 1 26 (c + 3)]))]
theorem get_none:∀ (L:Level) (k:Nat),(∀ e ∈ L,e.1 ≠ k)→L.get k = none
 | [],_,_=>rfl
 | (j,x) :: L,k,h=>by
  have h1:=h (j,x) (by simp)
  rw [Level.get,if_neg fun e=>h1 e.symm]
  exact get_none L k fun e he=>h e (by simp [he])
theorem lvA_start (hb:Valid b) (c:Nat):LvAs b c (c + 8) true (false,List.replicate b.winds.length []) (lvA0 b c):=by
 have h5:=hb.hl
 refine ⟨rfl,⟨rfl,rfl,rfl,rfl,rfl,⟨fun _=>0,?_,fun h hh=>?_,fun h h5 _=>?_⟩,rfl,by simp,fun t h1 h2=>?_,rfl,rfl,rfl⟩,⟨fun l hl=>?_,fun l hl x hx=>?_⟩⟩
 ·rw [rowsA_start]
  rfl
 ·exfalso
  refine hh ?_
  simp only [List.getD_eq_getElem?_getD,List.getElem?_replicate]
  split <;> rfl
 ·refine get_none _ _ fun e he=>?_
  simp only [lvA0,List.mem_cons,List.not_mem_nil,or_false] at he
  rcases he with rfl | rfl | rfl | rfl | rfl | rfl | rfl | rfl <;> simp only [rkey] <;> omega
 ·have e1:¬ 1 = t.up.length:=by omega
  have hs:=shut_rows (t:=t) h1 (fun _=>0) (List.replicate b.winds.length [])
  rw [rowsA_start] at hs
  unfold lvA0
  simp only [shutLv_cons,shutLv_nil,hs]
  obtain ⟨up,loc⟩:=t
  simp only at e1
  have hm:shutRes ⟨up,loc⟩ (.map []) = .map []:=rfl
  simp [loopAs,cellsB,encI,encL,encP,e1,hm]
 ·rw [List.eq_of_mem_replicate hl]; simp
 ·rw [List.eq_of_mem_replicate hl] at hx; cases hx
theorem kAskedNone (hb:Valid b) (hB:∀ t:St,1≤t.up.length→shutLv t B = B) (hcw:cap.map weakV = cap) (hco:cap.all (closedV 8) = false) (c d:Nat) (hf:FineOK b B ff cap c true) (hT:dfsW b [] b.winds [] = []) (fr:Fr):∃ c',c≤c'∧∀ n,ca2 (envA Tryz.prog ann kn (n+6000)) (some d) ⟨c,fr,⟨[],B⟩⟩ 76 [.agg (cellsB b),.fn ff [] cap] =
  some ⟨c',(d,true,.tup [.raw (.pointer none),i 11]) :: fr,⟨[],B⟩⟩:=by
 have q1:=fun n=>kCheck n b hb.w40
 rw [fault_of hb] at q1
 have hf:=fun n d fr=>hf (n + 4795) d fr
 have q79:=fun n=>kTruths n b []
 have hwi:=hb.wi
 have hla:=hb.la
 have hw:IntKind.i64.wrap (b.last + 1) = (b.winds.length:Int):=by rw [wrap_i64 (by omega) (by omega)]; omega
 have m1:b.winds.length * 24≤140737488355328:=by omega
 have m2:b.winds.length≤maxLen:=by unfold maxLen; omega
 obtain ⟨L',c',r1,r2,r3⟩:=kTruthsB (out:=[]) hb (by simp) hB (fun c c1 g a L hc h=>⟨h.go,h.lv.mono hc,h.ok⟩) (fun c g a L h=>h.lv.st) (stepAs b hb c B hB) (false,List.replicate b.winds.length []) (lvA0 b c) (lvA_start hb c) (frAs b c)
 rw [runA,hT] at r1
 obtain ⟨_,⟨p7,p28,p25,p26,p8,hrr,pr,plen,pst,p2,p30,p63⟩,rok⟩:=r1
 have r3:=fun n=>r3 (n + 1491)
 refine ⟨c',by omega,fun n=>?_⟩
 rw [cf_open Tryz.func76 b76 rfl (by simp [cellsB,encI,encL,encP,hco])]
 simp only [cellsB,li,List.map_nil,lvA0,loopAs,frAs,bodyAs,rkey,List.cons_append,List.nil_append,Nat.add_assoc,Nat.reduceAdd] at q1 hf q79 r3 p28 pr ⊢
 simp [c76,argFr,encI,encL,encP,q1,hB,hcw,hf,q79,hw,m1,m2,exec_range,Nat.add_assoc]
 rw [xRange_eq rfl]
 simp [rkey,Nat.add_assoc]
 rw [r3,rE_ready (by simpa [rkey] using pr) (by omega)]
 simp only [List.isEmpty_nil,Bool.not_true,Bool.or_false] at p8
 obtain ⟨γs,p24,rrow,rno⟩:=hrr
 have rn:∀ h,h < 5→L'.get (800 + h) = none:=fun h hh=>rno h hh (by
  simp only [List.foldl_nil,List.getD_eq_getElem?_getD,List.getElem?_replicate]
  split <;> rfl)
 have r0:=rn 0 (by omega)
 have r1:=rn 1 (by omega)
 have r2:=rn 2 (by omega)
 have r3:=rn 3 (by omega)
 have r4:=rn 4 (by omega)
 simp only [Nat.add_zero,Nat.reduceAdd] at r0 r1 r2 r3 r4
 simp [p2,p7,p8,p24,p25,p26,p28,p30,p63,r0,r1,r2,r3,r4,Level.put,rkey,hB]
end
end Go.Proofs.Tryz.Op
/- The contract of asked: the beach at work, handed over. No condition but a valid beach with a truth. -/
open Go Go.Pg Go.Proofs Go.Wind
namespace Go.Proofs.Tryz.Op
set_option maxRecDepth 100000
set_option linter.unusedSimpArgs false
theorem gh19 (st:XS):ghO [1000000000000024,24,901025,902026,903028] st =
  (fun s=>mv1 28 (mvLvl 0 s) 902 [] s) ((fun s=>mv1 26 (mvLvl 0 s) 901 [] s) ((fun s=>mv1 25 (mvLvl 0 s) 900 [] s) (told1 24 (tellR 24 st)))):=rfl
noncomputable def mvZ (k d c:Nat) (fr:Fr) (B loc:Level):Option (Nat × Res)→XS
 | some (γ,r)=>⟨c,mvF 1 k 0 d fr,⟨[(d,γ,mvR 1 k 0 d r) :: B],mvL 1 k 0 d loc⟩⟩
 | none=>⟨c,fr,⟨[B],loc⟩⟩
@[simp] theorem mvZ_some (k d c γ:Nat) (fr:Fr) (B loc:Level) (r:Res):mvZ k d c fr B loc (some (γ,r)) = ⟨c,mvF 1 k 0 d fr,⟨[(d,γ,mvR 1 k 0 d r) :: B],mvL 1 k 0 d loc⟩⟩:=rfl
def plO:Option (Nat × Res)→Bool
 | some x=>plR x.2
 | none=>true
theorem plO_some (γ:Nat) (r:Res):plO (some (γ,r)) = plR r:=rfl
theorem mv1_to {k d c:Nat} {fr:Fr} {B loc:Level} (hp:plO (loc.get k) = true):mv1 k 0 d [] ⟨c,fr,⟨[B],loc⟩⟩ = mvZ k d c fr B loc (loc.get k):=by
 unfold mv1
 cases h:loc.get k with
 | none=>simp [mvZ,mvOK,h]
 | some x =>
  obtain ⟨γ,r⟩:=x
  rw [h,plO_some] at hp
  have e3:mvOK 0 [B].length (some (γ,r)) = true:=by simp [mvOK,hp]
  simp only [h,e3]
  simp [mvS,h,mvU,St.put,put_eq0]
theorem mvLvl0 (c:Nat) (fr:Fr) (B loc:Level):mvLvl 0 ⟨c,fr,⟨[B],loc⟩⟩ = 0:=rfl
theorem tellR_eq (k c:Nat) (fr:Fr) (up:List Level) (loc:Level):tellR k ⟨c,fr,⟨up,loc⟩⟩ = toldO (rowsOf up.length (loc.get k)) ⟨c,fr,⟨up,loc⟩⟩:=rfl
theorem rowsOf_some (n γ:Nat) (T:TypeId) (es:List (List V)):rowsOf n (some (γ,.vec T es)) = es.filterMap fun e=>match e with
  | [.vec l k _ _]=>if l = n then some k else none
  | _=>none:=rfl
theorem told_E (l k f:Nat) (o:Option (Nat × Res)) (a:Int):List.map (toldV l k o f) (encI a) = encI a:=by simp [encI]
theorem told_Es (l k f:Nat) (o:Option (Nat × Res)) (w:List Int):List.map (List.map (toldV l k o f) ∘ encI) w = w.map encI:=List.map_congr_left fun a _=>told_E l k f o a
theorem shut_map0 (t:St):shutRes t (.map []) = .map []:=rfl
theorem mvF_nil {n k l d:Nat}:mvF n k l d [] = []:=rfl
theorem mvF_cons {n k l d:Nat} (j:Nat) (c:Bool) (v:V) (fr:Fr):mvF n k l d ((j,c,v) :: fr) = (j,c,mvP n k l d 3 v) :: mvF n k l d fr:=rfl
theorem mvL_nil {n k l d:Nat}:mvL n k l d [] = []:=rfl
theorem mvL_cons {n k l d:Nat} (j g:Nat) (r:Res) (L:Level):mvL n k l d ((j,g,r) :: L) = if j = k then mvL n k l d L else (j,g,mvR n k l d r) :: mvL n k l d L:=rfl
theorem mvP_bool {n k l d:Nat} (f:Nat) (x:Bool):mvP n k l d f (.bool x) = .bool x:=by cases f <;> rfl
theorem mvP_list {n k l d:Nat} (f:Nat) (x:Bool) (es:List (List V)):mvP n k l d f (.list x es) = .list x es:=by cases f <;> rfl
theorem mvP_ptr {n k l d a b g o:Nat} (f:Nat):mvP n k l d (f + 1) (.ptr a b g o) = if a = n∧b = k then .ptr l d g o else .ptr a b g o:=rfl
theorem mvP_mp {n k l d a b g:Nat} (f:Nat):mvP n k l d (f + 1) (.mp a b g) = if a = n∧b = k then .mp l d g else .mp a b g:=rfl
theorem mvR_box {n k l d:Nat} (cs:List V):mvR n k l d (.box cs) = .box (cs.map (mvP n k l d 3)):=rfl
theorem mvR_map {n k l d:Nat} (es:List (V × V)):mvR n k l d (.map es) = .map es:=rfl
theorem told1_eq (k c:Nat) (fr:Fr) (up:List Level) (loc:Level):told1 k ⟨c,fr,⟨up,loc⟩⟩ = ⟨c,toldF up.length k (loc.get k) fr,⟨up,toldL up.length k (loc.get k) loc⟩⟩:=rfl
theorem toldO_one (k:Nat) (ks:List Nat) (st:XS):toldO (k :: ks) st = toldO ks (told1 k st):=rfl
theorem ask_get {b:Beach} {T:List (List Int)} (hT:T ≠ []) (hl:∀ t ∈ T,t.length = b.winds.length) {h:Nat} (hh:h < b.winds.length):(askW b.winds.length T).getD h [] ≠ []:=by
 obtain ⟨t,ht⟩:=List.exists_mem_of_ne_nil _ hT
 exact List.ne_nil_of_mem ((mem_ask hh).2 ⟨t,ht,by rw [hl t ht]; exact hh,rfl⟩)
section
variable {b:Beach} {B:Level} {ff:FuncId} {cap:List V}
theorem dfs_len {b:Beach}:∀ t ∈ dfsW b [] b.winds [],t.length = b.winds.length:=fun t ht=>by
 rw [dfsW_eq] at ht
 simp only [List.nil_append,List.map_id',List.mem_filter] at ht
 exact listed_len (mem_prods.1 ht.1)
theorem kAskedOK (hb:Valid b) (hB:∀ t:St,1≤t.up.length→shutLv t B = B) (hcw:cap.map weakV = cap) (hco:cap.all (closedV 8) = false) (c d:Nat) (hf:FineOK b B ff cap c true) (hT:dfsW b [] b.winds [] ≠ []) (fr:Fr):∃ c',c + 8≤c'∧∀ n,ca2 (envA Tryz.prog ann kn (n+6000)) (some d) ⟨c,fr,⟨[],B⟩⟩ 76 [.agg (cellsB b),.fn ff [] cap] =
  some ⟨c',(d,true,.tup [.ptr 0 902 (c + 4) 0,i 0]) :: fr,⟨[],(902,c + 4,.box (cellsB b ++ [lli (windsA b),.mp 0 900 (c + 2),.mp 0 901 (c + 3)])) :: (901,c + 3,.map []) :: (900,c + 2,.map []) :: B⟩⟩:=by
 have q1:=fun n=>kCheck n b hb.w40
 rw [fault_of hb] at q1
 have hf:=fun n d fr=>hf (n + 4795) d fr
 have q79:=fun n=>kTruths n b []
 have hwi:=hb.wi
 have hla:=hb.la
 have hw:IntKind.i64.wrap (b.last + 1) = (b.winds.length:Int):=by rw [wrap_i64 (by omega) (by omega)]; omega
 have m1:b.winds.length * 24≤140737488355328:=by omega
 have m2:b.winds.length≤maxLen:=by unfold maxLen; omega
 obtain ⟨L',c',r1,r2,r3⟩:=kTruthsB (out:=[]) hb (by simp) hB (fun c c1 g a L hc h=>⟨h.go,h.lv.mono hc,h.ok⟩) (fun c g a L h=>h.lv.st) (stepAs b hb c B hB) (false,List.replicate b.winds.length []) (lvA0 b c) (lvA_start hb c) (frAs b c)
 rw [runA] at r1
 have hTe:(dfsW b [] b.winds []).isEmpty = false:=by cases h:dfsW b [] b.winds [] with | nil=>exact absurd h hT | cons x l=>rfl
 rw [hTe] at r1
 obtain ⟨_,⟨p7,p28,p25,p26,p8,hrr,pr,plen,pst,p2,p30,p63⟩,rok⟩:=r1
 have hws:List.foldl (fun ws t=>addW ws 0 t) (List.replicate b.winds.length []) (dfsW b [] b.winds []) = windsA b:=rfl
 have hne:=fun h (hh:h < b.winds.length)=>ask_get hT dfs_len hh
 have hwd:askW b.winds.length (dfsW b [] b.winds []) = windsA b:=rfl
 rw [hwd] at hne
 simp only [hws] at hrr plen
 have h5:=hb.hl
 have r3:=fun n=>r3 (n + 1491)
 refine ⟨c',by omega,fun n=>?_⟩
 rw [cf_open Tryz.func76 b76 rfl (by simp [cellsB,encI,encL,encP,hco])]
 simp only [cellsB,li,List.map_nil,lvA0,loopAs,frAs,bodyAs,rkey,List.cons_append,List.nil_append,Nat.add_assoc,Nat.reduceAdd] at q1 hf q79 r3 p2 p28 pr ⊢
 simp [c76,argFr,encI,encL,encP,q1,hB,hcw,hf,q79,hw,m1,m2,exec_range,Nat.add_assoc]
 rw [xRange_eq rfl]
 simp [rkey,Nat.add_assoc]
 rw [r3,rE_ready (by simpa [rkey] using pr) (by omega)]
 simp only [Bool.not_false,Bool.or_true] at p8
 obtain ⟨γs,p24,rrow,rno⟩:=hrr
 generalize windsA b = ws at *
 have hlen:ws.length = 1∨ws.length = 2∨ws.length = 3∨ws.length = 4∨ws.length = 5:=by omega
 rcases hlen with hl | hl | hl | hl | hl
 ·match ws,hl with
  | [w0],_ =>
   have hk1:b.winds.length = 1:=plen.symm
   have n0:=hne 0 (by omega)
   have r0:=(rrow 0 n0).1
   have r1:=rno 1 (by omega) rfl
   have r2:=rno 2 (by omega) rfl
   have r3:=rno 3 (by omega) rfl
   have r4:=rno 4 (by omega) rfl
   simp only [List.getD_cons_zero,List.getD_cons_succ] at n0 r0
   simp only [Nat.add_zero,Nat.reduceAdd] at r0 r1 r2 r3 r4
   simp [rowsA,rowV_ne,n0,p2,p7,p8,p24,p25,p26,p28,p30,p63,r0,r1,r2,r3,r4,Level.put,rkey,hB,gh19,tellR_eq,rowsOf_some,toldO_one,told1_eq,mvLvl0,mv1_to,plO_some,plR,hk1,mvF_nil,mvF_cons,mvL_nil,mvL_cons,mvP_bool,mvP_list,mvP_ptr,mvP_mp,mvP_int,mvR_box,mvR_map,mvR_vec,mvP_vecK,shut_map0,encL,told_E,told_Es]
 ·match ws,hl with
  | [w0,w1],_ =>
   have hk1:b.winds.length = 2:=plen.symm
   have n0:=hne 0 (by omega)
   have r0:=(rrow 0 n0).1
   have n1:=hne 1 (by omega)
   have r1:=(rrow 1 n1).1
   have r2:=rno 2 (by omega) rfl
   have r3:=rno 3 (by omega) rfl
   have r4:=rno 4 (by omega) rfl
   simp only [List.getD_cons_zero,List.getD_cons_succ] at n0 n1 r0 r1
   simp only [Nat.add_zero,Nat.reduceAdd] at r0 r1 r2 r3 r4
   simp [rowsA,rowV_ne,n0,n1,p2,p7,p8,p24,p25,p26,p28,p30,p63,r0,r1,r2,r3,r4,Level.put,rkey,hB,gh19,tellR_eq,rowsOf_some,toldO_one,told1_eq,mvLvl0,mv1_to,plO_some,plR,hk1,mvF_nil,mvF_cons,mvL_nil,mvL_cons,mvP_bool,mvP_list,mvP_ptr,mvP_mp,mvP_int,mvR_box,mvR_map,mvR_vec,mvP_vecK,shut_map0,encL,told_E,told_Es]
 ·match ws,hl with
  | [w0,w1,w2],_ =>
   have hk1:b.winds.length = 3:=plen.symm
   have n0:=hne 0 (by omega)
   have r0:=(rrow 0 n0).1
   have n1:=hne 1 (by omega)
   have r1:=(rrow 1 n1).1
   have n2:=hne 2 (by omega)
   have r2:=(rrow 2 n2).1
   have r3:=rno 3 (by omega) rfl
   have r4:=rno 4 (by omega) rfl
   simp only [List.getD_cons_zero,List.getD_cons_succ] at n0 n1 n2 r0 r1 r2
   simp only [Nat.add_zero,Nat.reduceAdd] at r0 r1 r2 r3 r4
   simp [rowsA,rowV_ne,n0,n1,n2,p2,p7,p8,p24,p25,p26,p28,p30,p63,r0,r1,r2,r3,r4,Level.put,rkey,hB,gh19,tellR_eq,rowsOf_some,toldO_one,told1_eq,mvLvl0,mv1_to,plO_some,plR,hk1,mvF_nil,mvF_cons,mvL_nil,mvL_cons,mvP_bool,mvP_list,mvP_ptr,mvP_mp,mvP_int,mvR_box,mvR_map,mvR_vec,mvP_vecK,shut_map0,encL,told_E,told_Es]
 ·match ws,hl with
  | [w0,w1,w2,w3],_ =>
   have hk1:b.winds.length = 4:=plen.symm
   have n0:=hne 0 (by omega)
   have r0:=(rrow 0 n0).1
   have n1:=hne 1 (by omega)
   have r1:=(rrow 1 n1).1
   have n2:=hne 2 (by omega)
   have r2:=(rrow 2 n2).1
   have n3:=hne 3 (by omega)
   have r3:=(rrow 3 n3).1
   have r4:=rno 4 (by omega) rfl
   simp only [List.getD_cons_zero,List.getD_cons_succ] at n0 n1 n2 n3 r0 r1 r2 r3
   simp only [Nat.add_zero,Nat.reduceAdd] at r0 r1 r2 r3 r4
   simp [rowsA,rowV_ne,n0,n1,n2,n3,p2,p7,p8,p24,p25,p26,p28,p30,p63,r0,r1,r2,r3,r4,Level.put,rkey,hB,gh19,tellR_eq,rowsOf_some,toldO_one,told1_eq,mvLvl0,mv1_to,plO_some,plR,hk1,mvF_nil,mvF_cons,mvL_nil,mvL_cons,mvP_bool,mvP_list,mvP_ptr,mvP_mp,mvP_int,mvR_box,mvR_map,mvR_vec,mvP_vecK,shut_map0,encL,told_E,told_Es]
 ·match ws,hl with
  | [w0,w1,w2,w3,w4],_ =>
   have hk1:b.winds.length = 5:=plen.symm
   have n0:=hne 0 (by omega)
   have r0:=(rrow 0 n0).1
   have n1:=hne 1 (by omega)
   have r1:=(rrow 1 n1).1
   have n2:=hne 2 (by omega)
   have r2:=(rrow 2 n2).1
   have n3:=hne 3 (by omega)
   have r3:=(rrow 3 n3).1
   have n4:=hne 4 (by omega)
   have r4:=(rrow 4 n4).1
   simp only [List.getD_cons_zero,List.getD_cons_succ] at n0 n1 n2 n3 n4 r0 r1 r2 r3 r4
   simp only [Nat.add_zero,Nat.reduceAdd] at r0 r1 r2 r3 r4
   simp [rowsA,rowV_ne,n0,n1,n2,n3,n4,p2,p7,p8,p24,p25,p26,p28,p30,p63,r0,r1,r2,r3,r4,Level.put,rkey,hB,gh19,tellR_eq,rowsOf_some,toldO_one,told1_eq,mvLvl0,mv1_to,plO_some,plR,hk1,mvF_nil,mvF_cons,mvL_nil,mvL_cons,mvP_bool,mvP_list,mvP_ptr,mvP_mp,mvP_int,mvR_box,mvR_map,mvR_vec,mvP_vecK,shut_map0,encL,told_E,told_Es]
end
end Go.Proofs.Tryz.Op
