/- Contracts: play, Play. No condition but a valid beach. -/
import Derived.Test.YtkemmiljbaneoaaGreatW3
import Derived.Test.YtkemmiljbaneoaaGreatFz
open Go Go.Pg Go.Proofs Go.Wind
namespace Go.Wind
def addH (x y:Hrs):Hrs:=⟨x.sun + y.sun,x.calm + y.calm,x.good + y.good⟩
end Go.Wind
namespace Go.Proofs.Tryz.Op
set_option maxRecDepth 100000
set_option linter.unusedSimpArgs false
@[simp] theorem weakV_eptr (l k γ i o:Nat):weakV (.eptr l k γ i o) = .eptr l k γ i o:=rfl
@[simp] theorem closedV_eptr (f l k γ i o:Nat):closedV (f + 1) (.eptr l k γ i o) = false:=rfl
theorem put_eq (L:Level) (k γ:Nat) (r:Res):Level.put L k γ r = (k,γ,r) :: L:=rfl
theorem shutH (t:St) (l:List Hrs):shutRes t (.vec 107 (l.map encH)) = .vec 107 (l.map encH):=shut_vec fun e he v hv=>by
 obtain ⟨x,_,rfl⟩:=List.mem_map.1 he
 simp only [encH,List.mem_cons,List.not_mem_nil,or_false] at hv
 rcases hv with rfl | rfl | rfl <;> rfl
theorem setH (rs:List Hrs) (p:Nat) (x y z:Int):(rs.map encH).set p [.int .i64 x,.int .i64 y,.int .i64 z] = (rs.set p ⟨x,y,z⟩).map encH:=by rw [List.map_set]; rfl
theorem kAdd (c γ p:Nat) (B:Res) (rest:Level) (rs:List Hrs) (hB:∀ t,shutRes t B = B) (hr:∀ t,shutLv t rest = rest) (hp:p < rs.length) (hγ:γ < c) (y:Hrs) (w1:IntKind.i64.wrap (rs[p].sun + y.sun) = rs[p].sun + y.sun) (w2:IntKind.i64.wrap (rs[p].calm + y.calm) = rs[p].calm + y.calm) (w3:IntKind.i64.wrap (rs[p].good + y.good) = rs[p].good + y.good):∃ X1 X2,∀ (n d:Nat) (fr:Fr),ca2 (envA Tryz.prog ann kn (n+100)) (some d) ⟨c,fr,⟨[],(3,0,B) :: (20,γ,.vec 107 (rs.map encH)) :: rest⟩⟩ 127 [.eptr 0 20 γ p 0,.agg [i y.sun,i y.calm,i y.good]] =
  some ⟨c + 1,(d,true,.tup []) :: fr,⟨[],(20,γ,.vec 107 ((rs.set p (addH rs[p] y)).map encH)) :: (20,γ,X1) :: (20,γ,X2) :: (3,0,B) :: (20,γ,.vec 107 (rs.map encH)) :: rest⟩⟩:=by
 refine ⟨.vec 107 ((rs.set p ⟨rs[p].sun + y.sun,rs[p].calm + y.calm,rs[p].good⟩).map encH),.vec 107 ((rs.set p ⟨rs[p].sun + y.sun,rs[p].calm,rs[p].good⟩).map encH),fun n d fr=>?_⟩
 rw [cf_open Tryz.func127 b127 rfl (by simp [show closedV 9 (V.eptr 0 20 γ p 0) = false from rfl])]
 have hg:γ < c + 1:=by omega
 have e:(rs.map encH).set p [i (rs[p].sun + y.sun),i (rs[p].calm + y.calm),i (rs[p].good + y.good)] = (rs.set p (addH rs[p] y)).map encH:=setH rs p _ _ _
 rw [← e]
 rw [← setH,← setH]
 generalize hz:(some _:Option XS) = Z
 simp [c127,argFr,encH,hp,hg,w1,w2,w3,put_eq]
 simp only [setH,shutH,hB,hr] at hz ⊢
 exact hz
theorem hrs_step (b:Beach) (plan:List (List Int)) (t:List Int) (r p h:Nat):addH (hoursB (calmAt b plan t r p) (litB b plan r) h) (ofB b (r,p) h (planAt plan h r) (t.getD h 0)) = hoursB (calmAt b plan t r p) (litB b plan r) (h + 1):=by
 have e:litB b plan r h = decide (b.sun.getD h 0 = planAt plan h r):=by
  unfold litB
  congr 1
  exact propext eq_comm
 have e2:calmAt b plan t r p h = calmP b (r,p) (planAt plan h r) (t.getD h 0):=rfl
 simp only [hoursB,cnt,ofB,addH,← e,← e2]
 have g:∀ (f:Nat→Bool),((cnt f h:Nat):Int) + (if f h = true then 1 else 0) = ((cnt f h + if f h = true then 1 else 0:Nat):Int):=fun f=>by
  split <;> simp
 rw [g,g,g (fun h=>litB b plan r h && calmAt b plan t r p h)]
theorem hrs_le (calm lit:Nat→Bool) (n:Nat):0≤(hoursB calm lit n).sun∧(hoursB calm lit n).sun≤n∧0≤(hoursB calm lit n).calm∧(hoursB calm lit n).calm≤n∧0≤(hoursB calm lit n).good∧(hoursB calm lit n).good≤n:=by
 have h1:=cnt_le lit n
 have h2:=cnt_le calm n
 have h3:=cnt_le (fun h=>lit h && calm h) n
 simp only [hoursB]
 omega
theorem of_le (b:Beach) (s:Int × Int) (h:Nat) (f w:Int):0≤(ofB b s h f w).sun∧(ofB b s h f w).sun≤1∧0≤(ofB b s h f w).calm∧(ofB b s h f w).calm≤1∧0≤(ofB b s h f w).good∧(ofB b s h f w).good≤1:=by
 unfold ofB
 simp only
 cases decide (b.sun.getD h 0 = f) <;> cases calmP b s f w <;> simp
theorem shutPl (t:St) (k γ:Nat) (T:TypeId) (A:List (List V)) (hA:∀ e ∈ A,∀ v ∈ e,closeOX t v = some v):shutLv t (pl k γ T A) = pl k γ T A:=by
 cases A with
 | nil=>rfl
 | cons e es =>
  show shutLv t [(k,γ,.vec T (e :: es))] = _
  rw [shutLv_cons,shut_vec hA]; rfl
theorem shutB (t:St) (b:Beach):shutRes t (.box (cellsB b)) = .box (cellsB b):=by
 simp [cellsB,encI,encL,encP]
def encHs (l:List Hrs):List V:=[.list false (l.map encH)]
theorem closeHs (t:St) (A:List (List Hrs)):∀ e ∈ A.map encHs,∀ v ∈ e,closeOX t v = some v:=by
 intro e he v hv
 obtain ⟨l,_,rfl⟩:=List.mem_map.1 he
 simp only [encHs,List.mem_cons,List.not_mem_nil,or_false] at hv
 subst hv
 simp [closeOX,encH]
theorem lPlay9 (b:Beach) (hb:Valid b) (plan:List (List Int)) (hp:PlanOf b plan) (t:List Int) (ht:listedGo t b.winds = true) (r p:Nat) (hr:(r:Int) < b.rows) (hp2:(p:Int) < b.places) (A:List (List Hrs)) (tot:Int) (γ3:Nat):∀ (d h c γ:Nat) (rs:List Hrs),h + d = t.length→(rs.length:Int) = b.places→rs[p]? = some (hoursB (calmAt b plan t r p) (litB b plan r) h)→γ < c→∀ n m,d < m→loopA (execA Tryz.prog ann kn (n+1400) 67) lb105_9 (ann 67 (fstR lb105_9)) m ⟨c,[(1,true,lli plan),(2,true,li t),(3,true,.ptr 0 3 0 0),(6,true,pv 63 γ3 (A.map encHs)),(7,true,i tot),(8,true,i r),(9,true,.vec 0 20 γ rs.length),(10,true,i p),(14,true,i b.rows),(15,true,i r),(22,true,i rs.length),(23,true,i p),(26,true,li t),(27,true,i t.length),(28,true,i h)],⟨[],(3,0,.box (cellsB b)) :: (20,γ,.vec 107 (rs.map encH)) :: pl 63 γ3 108 (A.map encHs)⟩⟩ =
  some (.exit 4,⟨c + d,[(29,true,.bool false),(1,true,lli plan),(2,true,li t),(3,true,.ptr 0 3 0 0),(6,true,pv 63 γ3 (A.map encHs)),(7,true,i tot),(8,true,i r),(9,true,.vec 0 20 γ rs.length),(10,true,i p),(14,true,i b.rows),(15,true,i r),(22,true,i rs.length),(23,true,i p),(26,true,li t),(27,true,i t.length),(28,true,i t.length)],⟨[],(3,0,.box (cellsB b)) :: (20,γ,.vec 107 ((rs.set p (hoursP b plan t r p)).map encH)) :: pl 63 γ3 108 (A.map encHs)⟩⟩)
 | 0,h,c,γ,rs,hd,hl,e,hγ,n,m + 1,hm=>by
  have:h = t.length:=by omega
  subst this
  have:rs.set p (hoursP b plan t r p) = rs:=by
   have hpl:p < rs.length:=by omega
   rw [List.getElem?_eq_getElem hpl,Option.some.injEq] at e
   unfold hoursP
   rw [← e]
   exact List.set_getElem_self hpl
  rw [this,loopA_succ]
  simp [cellsB]
 | d + 1,h,c,γ,rs,hd,hl,e,hγ,n,m + 1,hm=>by
  have hd':h < t.length:=by omega
  have hw:=wrapS (k:=h) (by have:=listed_len ht; have:=hb.hl; omega)
  have hlw:=listed_len ht
  have hwi:=hb.wi
  have hsu:=hb.su
  have hpn:=hp.len
  have hh:h < plan.length:=by omega
  have hpe:plan.getD h [] = plan[h]:=by rw [List.getD_eq_getElem?_getD,List.getElem?_eq_getElem hh]; rfl
  have hr2:r < plan[h].length:=by have:=hp.row h hh; rw [hpe] at this; omega
  have hx:planAt plan h r = plan[h][r]:=by unfold planAt; rw [hpe,List.getD_eq_getElem?_getD,List.getElem?_eq_getElem hr2]; rfl
  have htd:t.getD h 0 = t[h]:=by rw [List.getD_eq_getElem?_getD,List.getElem?_eq_getElem hd']; rfl
  have hdir:=listed_dir hb ht hd'
  rw [htd,inI_iff] at hdir
  have hro:=hb.ro
  have hpc:=hb.pl
  have q:=fun n=>kOf n b hb (r,p) (by simp only; omega) h (by omega) (planAt plan h r) t[h] hdir
  rw [hx] at q
  have hpl:p < rs.length:=by omega
  rw [List.getElem?_eq_getElem hpl,Option.some.injEq] at e
  have st:=hrs_step b plan t r p h
  rw [hx,htd,← e] at st
  have b1:=hrs_le (calmAt b plan t r p) (litB b plan r) h
  have b2:=of_le b (r,p) h plan[h][r] t[h]
  rw [← e] at b1
  have hh5:h≤5:=by have:=hb.la; omega
  generalize ofB b (r,p) h plan[h][r] t[h] = y at q st b2
  obtain ⟨X1,X2,q2⟩:=kAdd c γ p (.box (cellsB b)) (pl 63 γ3 108 (A.map encHs)) rs (fun t=>shutB t b) (fun t=>shutPl t 63 γ3 108 _ (closeHs t A)) hpl hγ y (wrap_i64 (by omega) (by omega)) (wrap_i64 (by omega) (by omega)) (wrap_i64 (by omega) (by omega))
  have ih:=lPlay9 b hb plan hp t ht r p hr hp2 A tot γ3 d (h + 1) (c + 1) γ (rs.set p (addH rs[p] y)) (by omega) (by simpa using hl) (by rw [List.getElem?_set_self hpl,st]) (by omega) n m (by omega)
  rw [List.set_set] at ih
  generalize rs.set p (hoursP b plan t r p) = F at ih ⊢
  generalize hR:rs.set p (addH rs[p] y) = R at ih q2
  have hRl:R.length = rs.length:=by rw [← hR]; simp
  have hc':c + 1 + d = c + (d + 1):=by omega
  rw [hRl,hc'] at ih
  rw [loopA_succ]
  simp only [cellsB,encP] at q q2 ih ⊢
  simp at ih
  simp [hd',hw,encI,encL,hh,hr2,q,encP,encH,plK,hpl,q2,ih]
def totRow (b:Beach) (plan:List (List Int)) (t:List Int) (r:Nat):Nat→Int
 | 0=>0
 | p + 1=>totRow b plan t r p + (hoursP b plan t r p).good
theorem totRow_le (b:Beach) (plan:List (List Int)) (t:List Int) (r:Nat):∀ p,0≤totRow b plan t r p∧totRow b plan t r p≤p * t.length
 | 0=>by simp [totRow]
 | p + 1=>by
  have h1:=totRow_le b plan t r p
  have h2:=hrs_le (calmAt b plan t r p) (litB b plan r) t.length
  simp only [totRow,hoursP]
  have e:((p + 1:Nat):Int) * (t.length:Int) = (p:Int) * t.length + t.length:=by rw [Int.natCast_succ,Int.add_mul,Int.one_mul]
  omega
def mixR (b:Beach) (plan:List (List Int)) (t:List Int) (r p:Nat):List Hrs:=(List.range b.places.toNat).map fun j=>if j < p then hoursP b plan t r j else ⟨0,0,0⟩
def rowP (b:Beach) (plan:List (List Int)) (t:List Int) (r:Nat):List Hrs:=(List.range b.places.toNat).map (hoursP b plan t r)
theorem mixR_len (b:Beach) (plan:List (List Int)) (t:List Int) (r p:Nat):(mixR b plan t r p).length = b.places.toNat:=by simp [mixR]
theorem mixR_get {b:Beach} {plan:List (List Int)} {t:List Int} {r p:Nat} (h:p < b.places.toNat):(mixR b plan t r p)[p]? = some ⟨0,0,0⟩:=by simp [mixR,h]
theorem mixR_set {b:Beach} {plan:List (List Int)} {t:List Int} {r p:Nat}:(mixR b plan t r p).set p (hoursP b plan t r p) = mixR b plan t r (p + 1):=by
 apply List.ext_getElem (by simp [mixR])
 intro j h1 h2
 simp only [mixR,List.getElem_set,List.getElem_map,List.getElem_range]
 by_cases e:p = j
 ·subst e; simp
 ·rw [if_neg e]
  have:(j < p) = (j < p + 1):=propext ⟨fun h=>by omega,fun h=>by omega⟩
  simp only [this]
theorem mixR_full (b:Beach) (plan:List (List Int)) (t:List Int) (r:Nat):mixR b plan t r b.places.toNat = rowP b plan t r:=by
 apply List.ext_getElem (by simp [mixR,rowP])
 intro j h1 h2
 have:j < b.places.toNat:=by simpa [mixR] using h1
 simp only [mixR,rowP,List.getElem_map,List.getElem_range,if_pos this]
theorem mixR_zero (b:Beach) (plan:List (List Int)) (t:List Int) (r:Nat):mixR b plan t r 0 = List.replicate b.places.toNat ⟨0,0,0⟩:=by
 apply List.ext_getElem (by simp [mixR])
 intro j h1 h2
 simp [mixR]
theorem lPlay6 (b:Beach) (hb:Valid b) (plan:List (List Int)) (hp:PlanOf b plan) (t:List Int) (ht:listedGo t b.winds = true) (r:Nat) (hr:(r:Int) < b.rows) (A:List (List Hrs)) (tot:Int) (htot:0≤tot∧tot≤1000) (γ3 γ:Nat):∀ (d p c:Nat),p + d = b.places.toNat→γ < c→∃ c',γ < c'∧∀ n m,d < m→loopA (execA Tryz.prog ann kn (n+1600) 67) lb105_6 (ann 67 (fstR lb105_6)) m ⟨c,[(1,true,lli plan),(2,true,li t),(3,true,.ptr 0 3 0 0),(6,true,pv 63 γ3 (A.map encHs)),(7,true,i (tot + totRow b plan t r p)),(8,true,i r),(9,true,.vec 0 20 γ b.places.toNat),(14,true,i b.rows),(15,true,i r),(22,true,i b.places.toNat),(23,true,i p)],⟨[],(3,0,.box (cellsB b)) :: (20,γ,.vec 107 ((mixR b plan t r p).map encH)) :: pl 63 γ3 108 (A.map encHs)⟩⟩ =
  some (.exit 2,⟨c',[(24,true,.bool false),(1,true,lli plan),(2,true,li t),(3,true,.ptr 0 3 0 0),(6,true,pv 63 γ3 (A.map encHs)),(7,true,i (tot + totRow b plan t r b.places.toNat)),(8,true,i r),(9,true,.vec 0 20 γ b.places.toNat),(14,true,i b.rows),(15,true,i r),(22,true,i b.places.toNat),(23,true,i b.places.toNat)],⟨[],(3,0,.box (cellsB b)) :: (20,γ,.vec 107 ((rowP b plan t r).map encH)) :: pl 63 γ3 108 (A.map encHs)⟩⟩)
 | 0,p,c,hd,hγ=>by
  have:p = b.places.toNat:=by omega
  subst this
  refine ⟨c,hγ,fun n m hm=>?_⟩
  obtain ⟨m,rfl⟩:∃ m',m = m' + 1:=⟨m - 1,by omega⟩
  rw [mixR_full,loopA_succ]
  simp [cellsB]
 | d + 1,p,c,hd,hγ=>by
  have hpc:=hb.pl
  have hla:=hb.la
  have hlw:=listed_len ht
  have hwi:=hb.wi
  have hw:=wrapS (k:=p) (by omega)
  have hp':p < b.places.toNat:=by omega
  obtain ⟨c',h1,ih⟩:=lPlay6 b hb plan hp t ht r hr A tot htot γ3 γ d (p + 1) (c + t.length) (by omega) (by omega)
  have q:=lPlay9 b hb plan hp t ht r p hr (by omega) A (tot + totRow b plan t r p) γ3 t.length 0 c γ (mixR b plan t r p) (by omega) (by rw [mixR_len]; omega) (mixR_get hp') hγ
  rw [mixR_set,mixR_len] at q
  have q:=fun n m=>q n (m + 100) (by omega)
  have hg:(mixR b plan t r (p + 1))[p]? = some (hoursP b plan t r p):=by
   rw [← mixR_set,List.getElem?_set_self (by rw [mixR_len]; exact hp')]
  have hl:=mixR_len b plan t r (p + 1)
  have b1:=totRow_le b plan t r p
  have b2:=hrs_le (calmAt b plan t r p) (litB b plan r) t.length
  have b3:(p:Int) * t.length≤5 * 5:=Int.mul_le_mul (by omega) (by omega) (by omega) (by omega)
  have e1:tot + totRow b plan t r (p + 1) = tot + totRow b plan t r p + (hoursP b plan t r p).good:=by simp only [totRow]; omega
  have hwt:IntKind.i64.wrap (tot + totRow b plan t r p + (hoursP b plan t r p).good) = tot + totRow b plan t r p + (hoursP b plan t r p).good:=wrap_i64 (by unfold hoursP; omega) (by unfold hoursP; omega)
  rw [e1] at ih
  refine ⟨c',h1,fun n m hm=>?_⟩
  obtain ⟨m,rfl⟩:∃ m',m = m' + 1:=⟨m - 1,by omega⟩
  have ih:=ih n m (by omega)
  generalize mixR b plan t r (p + 1) = R at ih q hg hl
  generalize mixR b plan t r p = R0 at q ⊢
  have hgl:p < R.length:=by omega
  rw [List.getElem?_eq_getElem hgl,Option.some.injEq] at hg
  generalize hoursP b plan t r p = y at *
  generalize totRow b plan t r b.places.toNat = TT at ih ⊢
  generalize rowP b plan t r = RR at ih ⊢
  generalize b.places.toNat = PP at hp' hl ih q ⊢
  rw [loopA_succ]
  simp only [cellsB] at q ih ⊢
  simp at ih q
  have hle:PP≤R.length:=by omega
  simp [hp',hw,hwt,hgl,hle,hg,encH,plK,q,ih]
def totAll (b:Beach) (plan:List (List Int)) (t:List Int):Nat→Int
 | 0=>0
 | r + 1=>totAll b plan t r + totRow b plan t r b.places.toNat
theorem totAll_le (b:Beach) (hb:Valid b) (plan:List (List Int)) (t:List Int) (h5:t.length≤5):∀ r,r≤3→0≤totAll b plan t r∧totAll b plan t r≤r * 25
 | 0,_=>by simp [totAll]
 | r + 1,h=>by
  have h1:=totAll_le b hb plan t h5 r (by omega)
  have h2:=totRow_le b plan t r b.places.toNat
  have:=hb.pl
  have b3:(b.places.toNat:Int) * t.length≤5 * 5:=Int.mul_le_mul (by omega) (by omega) (by omega) (by omega)
  simp only [totAll]
  omega
def playP (b:Beach) (plan:List (List Int)) (t:List Int) (n:Nat):List (List Hrs):=(List.range n).map (rowP b plan t)
theorem playP_succ (b:Beach) (plan:List (List Int)) (t:List Int) (n:Nat):playP b plan t (n + 1) = playP b plan t n ++ [rowP b plan t n]:=by
 simp [playP,List.range_succ]
theorem appHs {k:Nat} {x:List Hrs} (h:k≤10000):appOK Tryz.prog 108 k [encHs x] = true:=by
 rw [appOK_iff (by simp [encHs]) (by simp)]
 simp [maxLen,encHs]; omega
theorem lPlay2 (b:Beach) (hb:Valid b) (plan:List (List Int)) (hp:PlanOf b plan) (t:List Int) (ht:listedGo t b.winds = true):∀ (d r c γ3:Nat),r + d = b.rows.toNat→0 < c→∃ fr c' γ',(getF fr 6 = some (true,pv 63 γ' ((playP b plan t b.rows.toNat).map encHs))∧getF fr 7 = some (true,i (totAll b plan t b.rows.toNat)))∧∀ n m,d < m→loopA (execA Tryz.prog ann kn (n+1800) 67) lb105_2 (ann 67 (fstR lb105_2)) m ⟨c,[(1,true,lli plan),(2,true,li t),(3,true,.ptr 0 3 0 0),(6,true,pv 63 γ3 ((playP b plan t r).map encHs)),(7,true,i (totAll b plan t r)),(14,true,i b.rows),(15,true,i r)],⟨[],(3,0,.box (cellsB b)) :: pl 63 γ3 108 ((playP b plan t r).map encHs)⟩⟩ =
  some (.exit 0,⟨c',fr,⟨[],(3,0,.box (cellsB b)) :: pl 63 γ' 108 ((playP b plan t b.rows.toNat).map encHs)⟩⟩)
 | 0,r,c,γ3,hd,hc=>by
  have hr:r = b.rows.toNat:=by omega
  have hro:=hb.ro
  have hr':b.rows = (r:Int):=by omega
  rw [← hr]
  refine ⟨?fr,c,γ3,?g1,fun n m hm=>?g2⟩
  case g2 =>
   obtain ⟨m,rfl⟩:∃ m',m = m' + 1:=⟨m - 1,by omega⟩
   rw [loopA_succ]
   simp [cellsB,hr']
   rfl
  case g1=>simp
 | d + 1,r,c,γ3,hd,hc=>by
  have hro:=hb.ro
  have hpc:=hb.pl
  have hw:=wrapS (k:=r) (by omega)
  have hr':(r:Int) < b.rows:=by omega
  have hla:=hb.la
  have hlw:=listed_len ht
  have hwi:=hb.wi
  have b1:=totAll_le b hb plan t (by omega) r (by omega)
  obtain ⟨c1,h1,q⟩:=lPlay6 b hb plan hp t ht r hr' (playP b plan t r) (totAll b plan t r) (by omega) γ3 c b.places.toNat 0 (c + 1) (by omega) (by omega)
  have q:=fun n m=>q n (m + 100) (by omega)
  obtain ⟨fr,c',γ',e1,ih⟩:=lPlay2 b hb plan hp t ht d (r + 1) (c1 + 1) c1 (by omega) (by omega)
  have e:totAll b plan t (r + 1) = totAll b plan t r + totRow b plan t r b.places.toNat:=rfl
  have happ:=appHs (k:=(playP b plan t r).length) (x:=rowP b plan t r) (by simp [playP]; omega)
  rw [mixR_zero] at q
  rw [playP_succ,e] at ih
  refine ⟨fr,c',γ',e1,fun n m hm=>?_⟩
  obtain ⟨m,rfl⟩:∃ m',m = m' + 1:=⟨m - 1,by omega⟩
  have ih:=ih n m (by omega)
  have h0:totRow b plan t r 0 = 0:=rfl
  rw [h0] at q
  generalize playP b plan t b.rows.toNat = FF at ih ⊢
  generalize totRow b plan t r b.places.toNat = TT at ih q
  have hRl:(rowP b plan t r).length = b.places.toNat:=by simp [rowP]
  generalize rowP b plan t r = RR at ih q happ hRl
  obtain ⟨PP,hPP⟩:∃ P:Nat,b.places = P:=⟨b.places.toNat,by omega⟩
  have hP2:b.places.toNat = PP:=by omega
  rw [hP2] at q hRl
  subst hRl
  rw [loopA_succ]
  simp only [cellsB,hPP] at q ih ⊢
  simp [encHs] at ih q happ
  simp [encH] at q
  have m1:RR.length * 24≤140737488355328:=by omega
  have m2:RR.length≤maxLen:=by simp [maxLen]; omega
  have htl:∀ o,toldL 0 20 o (pl 63 γ3 108 ((playP b plan t r).map encHs)) = pl 63 γ3 108 ((playP b plan t r).map encHs):=fun o=>toldL_pl3 (by decide) _ _ _ (by simp [encHs,encH])
  simp [hr',hw,encHs,q,ih,happ,m1,m2,htl]
theorem kPlay (n:Nat) (b:Beach) (hb:Valid b) (plan:List (List Int)) (hp:PlanOf b plan) (t:List Int) (ht:listedGo t b.winds = true):callK Tryz.prog kn (execA Tryz.prog ann kn (n+2000)) 105 [.agg (cellsB b),lli plan,li t] = some (.tup [sl ((playP b plan t b.rows.toNat).map encHs),i (totAll b plan t b.rows.toNat)]):=by
 rw [callK_of rfl,call0_eq Tryz.func105 b105 rfl (by simp [cellsB,encI,encL,encP])]
 have hro:=hb.ro
 obtain ⟨fr,c',γ',⟨e1,e2⟩,q⟩:=lPlay2 b hb plan hp t ht b.rows.toNat 0 1 0 (by omega) (by omega)
 have q:=fun n m=>q n (m + 100) (by omega)
 have h0:playP b plan t 0 = []:=rfl
 have h1:totAll b plan t 0 = 0:=rfl
 rw [h0,h1] at q
 generalize playP b plan t b.rows.toNat = FF at *
 generalize totAll b plan t b.rows.toNat = TT at *
 simp only [cellsB] at q ⊢
 simp at q
 simp [c105,argFr,q,e1,e2]
 simp [encHs,encH]
def playV (b:Beach) (plan:List (List Int)) (t:List Int):List (List Hrs) × Int :=
 if faultB b ≠ 0 then ([],faultB b) else if isPlanB b plan = true∧listedGo t b.winds = true then (playP b plan t b.rows.toNat,0) else ([],2)
theorem kPlayL (n:Nat) (b:Beach) (h40:∀ l ∈ b.winds,l.length≤40) (plan:List (List Int)) (t:List Int):callK Tryz.prog kn (execA Tryz.prog ann kn (n+2200)) 54 [.agg (cellsB b),lli plan,li t] = some (.tup [sl ((playV b plan t).1.map encHs),i (playV b plan t).2]):=by
 rw [callK_of rfl,call0_eq Tryz.func54 b54 rfl (by simp [cellsB,encI,encL,encP])]
 have q1:=fun n=>kCheck n b h40
 unfold playV
 by_cases h:faultB b = 0
 ·have hb:=valid_of h
  have q2:=fun n=>kIsPlan n b hb plan
  have q3:=fun n=>kIsListed n b hb t
  rw [if_neg (by simp [h])]
  rw [h] at q1
  by_cases h2:isPlanB b plan = true
  ·by_cases h3:listedGo t b.winds = true
   ·have q4:=fun n=>kPlay n b hb plan (plan_of h2) t h3
    rw [if_pos ⟨h2,h3⟩]
    rw [h2] at q2
    rw [h3] at q3
    simp only [cellsB] at q1 q2 q3 q4 ⊢
    simp [c54,argFr,encI,encL,encP,q1,q2,q3,q4]
    simp [encHs,encH]
   ·rw [if_neg (fun h=>h3 h.2)]
    have h3:listedGo t b.winds = false:=by simpa using h3
    rw [h2] at q2
    rw [h3] at q3
    simp only [cellsB] at q1 q2 q3 ⊢
    simp [c54,argFr,encI,encL,encP,q1,q2,q3]
    try rfl
  ·rw [if_neg (fun h=>h2 h.1)]
   have h2:isPlanB b plan = false:=by simpa using h2
   rw [h2] at q2
   simp only [cellsB] at q1 q2 ⊢
   simp [c54,argFr,encI,encL,encP,q1,q2]
   try rfl
 ·rw [if_pos h]
  simp only [cellsB] at q1 ⊢
  simp [c54,argFr,encI,encL,encP,q1,h]
  try rfl
end Go.Proofs.Tryz.Op
/- Contracts: Beach, shaped. No condition but lists of at most 100. -/
open Go Go.Pg Go.Proofs Go.Wind
namespace Go.Proofs.Tryz.Op
set_option maxRecDepth 100000
set_option linter.unusedSimpArgs false
theorem get_pl8 {j k m:Nat} (h1:j ≠ m) (h2:k ≠ m) (γ:Nat) (T:TypeId) (es:List (List V)) (x:Nat × Res):(pl j γ T es ++ [(k,x)]).get m = none:=by
 cases es <;> simp [h1.symm,h2.symm]
theorem appP {k:Nat} {x:Int × Int} (h:k≤10000):appOK Tryz.prog 65 k [[i x.1,i x.2]] = true:=by
 rw [appOK_iff (by simp) (by simp)]
 simp [maxLen]; omega
theorem appN {k:Nat} {x:Int × Int} (h:k≤10000):appOK Tryz.prog 126 k [[i x.1,i x.2]] = true:=by
 rw [appOK_iff (by simp) (by simp)]
 simp [maxLen]; omega
def boxW (b:Beach) (x y:V):Res:=.box [i b.last,i b.rows,i b.places,i b.reach,li b.face,li b.sun,lli b.winds,x,y]
theorem lBeach3 (b:Beach) (Z:Res) (hl:b.breaks.length≤100):∀ (d k c γ:Nat) (acc:List (Int × Int)),k + d = b.breaks.length→acc.length≤k→2 < c→∃ c' γ',2 < c'∧∀ n m,d < m→loopA (execA Tryz.prog ann kn (n+400) 68) lb17_3 (ann 68 (fstR lb17_3)) m ⟨c,[(1,true,.ptr 0 1 0 0),(2,true,.ptr 0 2 1 0),(3,true,.ptr 0 3 2 0),(4,true,i k)],⟨[],(1,0,.box (cellsB b)) :: (2,1,Z) :: (3,2,boxW b (pv 40 γ (acc.map encP)) .nil) :: pl 40 γ 65 (acc.map encP)⟩⟩ =
  some (.exit 0,⟨c',[(28,true,.bool false),(27,true,i b.breaks.length),(26,true,.list false (b.breaks.map encP)),(25,true,.ptr 0 1 0 7),(24,true,i b.breaks.length),(1,true,.ptr 0 1 0 0),(2,true,.ptr 0 2 1 0),(3,true,.ptr 0 3 2 0),(4,true,i b.breaks.length)],⟨[],(1,0,.box (cellsB b)) :: (2,1,Z) :: (3,2,boxW b (pv 40 γ' ((acc ++ b.breaks.drop k).map encP)) .nil) :: pl 40 γ' 65 ((acc ++ b.breaks.drop k).map encP)⟩⟩)
 | 0,k,c,γ,acc,hk,ha,hc=>by
  have:k = b.breaks.length:=by omega
  subst this
  refine ⟨c,γ,hc,fun n m hm=>?_⟩
  obtain ⟨m,rfl⟩:∃ m',m = m' + 1:=⟨m - 1,by omega⟩
  rw [List.drop_length,List.append_nil,loopA_succ]
  simp [cellsB,boxW]
 | d + 1,k,c,γ,acc,hk,ha,hc=>by
  have hk':k < b.breaks.length:=by omega
  have hw:=wrapS (k:=k) (by omega)
  have q:=fun n=>kSpotL n b.breaks[k]
  have happ:=appP (k:=acc.length) (x:=b.breaks[k]) (by omega)
  obtain ⟨c',γ',h1,ih⟩:=lBeach3 b Z hl d (k + 1) (c + 1) c (acc ++ [b.breaks[k]]) (by omega) (by simp; omega) (by omega)
  have hgo:acc ++ b.breaks.drop k = acc ++ [b.breaks[k]] ++ b.breaks.drop (k + 1):=by
   rw [List.drop_eq_getElem_cons hk']; simp
  rw [← hgo] at ih
  refine ⟨c',γ',h1,fun n m hm=>?_⟩
  obtain ⟨m,rfl⟩:∃ m',m = m' + 1:=⟨m - 1,by omega⟩
  have ih:=ih n m (by omega)
  have hc2:2 < c + 1:=by omega
  generalize acc ++ b.breaks.drop k = fin at ih ⊢
  rw [loopA_succ]
  simp only [cellsB,boxW] at ih ⊢
  simp [encP] at ih q
  simp [hk',hw,encP,q,happ,plK,apK,put_eq,hc2,ih]
theorem lBeach7 (b:Beach) (Z:Res) (hl:b.notes.length≤100) (γ0:Nat) (A:List (List V)):∀ (d k c γ:Nat) (acc:List (Int × Int)),k + d = b.notes.length→acc.length≤k→2 < c→∃ c' γ',2 < c'∧∀ n m,d < m→loopA (execA Tryz.prog ann kn (n+400) 68) lb17_7 (ann 68 (fstR lb17_7)) m ⟨c,[(1,true,.ptr 0 1 0 0),(2,true,.ptr 0 2 1 0),(3,true,.ptr 0 3 2 0),(5,true,i k)],⟨[],(1,0,.box (cellsB b)) :: (2,1,Z) :: (3,2,boxW b (pv 40 γ0 A) (pv 65 γ (acc.map encP))) :: (pl 40 γ0 65 A ++ pl 65 γ 126 (acc.map encP))⟩⟩ =
  some (.exit 2,⟨c',[(46,true,.bool false),(45,true,i b.notes.length),(44,true,.list false (b.notes.map encP)),(43,true,.ptr 0 1 0 8),(42,true,i b.notes.length),(1,true,.ptr 0 1 0 0),(2,true,.ptr 0 2 1 0),(3,true,.ptr 0 3 2 0),(5,true,i b.notes.length)],⟨[],(1,0,.box (cellsB b)) :: (2,1,Z) :: (3,2,boxW b (pv 40 γ0 A) (pv 65 γ' ((acc ++ b.notes.drop k).map encP))) :: (pl 40 γ0 65 A ++ pl 65 γ' 126 ((acc ++ b.notes.drop k).map encP))⟩⟩)
 | 0,k,c,γ,acc,hk,ha,hc=>by
  have:k = b.notes.length:=by omega
  subst this
  refine ⟨c,γ,hc,fun n m hm=>?_⟩
  obtain ⟨m,rfl⟩:∃ m',m = m' + 1:=⟨m - 1,by omega⟩
  rw [List.drop_length,List.append_nil,loopA_succ]
  simp [cellsB,boxW,kl_pl2,kl_pl3,kl_pl7,get_pl2,get_pl5,get_pl6]
 | d + 1,k,c,γ,acc,hk,ha,hc=>by
  have hk':k < b.notes.length:=by omega
  have hw:=wrapS (k:=k) (by omega)
  have happ:=appN (k:=acc.length) (x:=b.notes[k]) (by omega)
  obtain ⟨c',γ',h1,ih⟩:=lBeach7 b Z hl γ0 A d (k + 1) (c + 1) c (acc ++ [b.notes[k]]) (by omega) (by simp; omega) (by omega)
  have hgo:acc ++ b.notes.drop k = acc ++ [b.notes[k]] ++ b.notes.drop (k + 1):=by
   rw [List.drop_eq_getElem_cons hk']; simp
  rw [← hgo] at ih
  refine ⟨c',γ',h1,fun n m hm=>?_⟩
  obtain ⟨m,rfl⟩:∃ m',m = m' + 1:=⟨m - 1,by omega⟩
  have ih:=ih n m (by omega)
  have hc2:2 < c + 1:=by omega
  generalize acc ++ b.notes.drop k = fin at ih ⊢
  rw [loopA_succ]
  simp only [cellsB,boxW] at ih ⊢
  simp [encP] at ih
  simp [hk',hw,encP,happ,plK,apK,put_eq,hc2,kl_pl2,kl_pl3,kl_pl7,get_pl2,get_pl5,get_pl6,get_pl4,kl_pl4,get_pl8,ih]
theorem closed_sl {f:Nat} {l:List (List V)} (h:closedV f (.list false l) = true) (hf:f ≠ 0):closedV f (sl l) = true:=by
 cases l with
 | nil =>
  cases f with
  | zero=>exact absurd rfl hf
  | succ f=>rfl
 | cons e es=>exact h
theorem kBeach (n:Nat) (b:Beach) (hf:b.face.length≤100) (hs:b.sun.length≤100) (hw:b.winds.length≤100) (h1:∀ l ∈ b.winds,l.length≤100) (hb:b.breaks.length≤100) (hn:b.notes.length≤100):callK Tryz.prog kn (execA Tryz.prog ann kn (n+600)) 17 [.agg (cellsB b)] = some (.agg (cellsR b)):=by
 rw [callK_of rfl,call0_eq Tryz.func17 b17 rfl (by simp [cellsB,encI,encL,encP])]
 have q1:=fun n=>kList n b.face hf
 have q2:=fun n=>kList n b.sun hs
 have q3:=fun n=>kLists n b.winds hw h1
 obtain ⟨c1,γ1,g1,r1⟩:=lBeach3 b (.box [i 0,i 0,i 0,i 0,.nil,.nil,.nil,.nil,.nil]) hb b.breaks.length 0 3 0 [] (by omega) (by simp) (by omega)
 have r1:=fun n m=>r1 n (m + 200) (by omega)
 rw [List.drop_zero,List.nil_append] at r1
 obtain ⟨c2,γ2,g2,r2⟩:=lBeach7 b (.box [i 0,i 0,i 0,i 0,.nil,.nil,.nil,.nil,.nil]) hn γ1 (b.breaks.map encP) b.notes.length 0 c1 0 [] (by omega) (by simp) (by omega)
 have r2:=fun n m=>r2 n (m + 200) (by omega)
 rw [List.drop_zero,List.nil_append] at r2
 simp only [cellsB,cellsR,boxW] at r1 r2 ⊢
 simp at r1 r2
 have g3:1 < c2:=by omega
 simp [c17,argFr,encI,encL,q1,q2,q3,r1,r2,put_eq,g3,kl_pl2,kl_pl3,kl_pl7,get_pl2,get_pl5,get_pl6]
 rw [closeX_pv (T:=65) 2 _ 40 γ1 _ (by simp [get_pl5]),closeX_pv (T:=126) 2 _ 65 γ2 _ (by simp [get_pl2])]
 have hcl:∀ l:List (Int × Int),closedV 8 (sl (l.map encP)) = true:=fun l=>closed_sl (by simp [encP]) (by decide)
 simp [encI,encL,hcl]
theorem lShaped (b:Beach) (A:List (List Hrs)) (hA:A.length≤100):∀ (d k:Nat),k + d = A.length→∃ fr,getF fr 1 = some (true,.list false (A.map encHs))∧getF fr 2 = some (true,.ptr 0 2 0 0)∧∀ n m,d < m→loopA (execA Tryz.prog ann kn (n+100) 25) lb56_2 (ann 25 (fstR lb56_2)) m ⟨1,[(1,true,.list false (A.map encHs)),(2,true,.ptr 0 2 0 0),(5,true,i k)],⟨[],[(2,0,.box (cellsB b))]⟩⟩ =
  if (A.drop k).all (fun l=>decide ((l.length:Int) = b.places)) = true then some (.exit 0,⟨1,fr,⟨[],[(2,0,.box (cellsB b))]⟩⟩) else some (.ret,⟨1,[(4,true,.bool false)],⟨[],[]⟩⟩)
 | 0,k,hk=>by
  have:k = A.length:=by omega
  subst this
  refine ⟨?fr,?g1,?g2,fun n m hm=>?g3⟩
  case g3 =>
   obtain ⟨m,rfl⟩:∃ m',m = m' + 1:=⟨m - 1,by omega⟩
   rw [List.drop_length,loopA_succ]
   simp [cellsB]
   rfl
  case g1=>simp
  case g2=>simp
 | d + 1,k,hk=>by
  have hk':k < A.length:=by omega
  have hw:=wrapS (k:=k) (by omega)
  obtain ⟨fr,e1,e2,ih⟩:=lShaped b A hA d (k + 1) (by omega)
  rw [List.drop_eq_getElem_cons hk']
  simp only [List.all_cons]
  by_cases h:(A[k].length:Int) = b.places
  ·simp only [h,decide_true,Bool.true_and]
   refine ⟨fr,e1,e2,fun n m hm=>?_⟩
   obtain ⟨m,rfl⟩:∃ m',m = m' + 1:=⟨m - 1,by omega⟩
   have ih:=ih n m (by omega)
   generalize (A.drop (k + 1)).all (fun l=>decide ((l.length:Int) = b.places)) = z at ih ⊢
   rw [loopA_succ]
   simp only [cellsB] at ih ⊢
   simp at ih
   simp [hk',hw,encHs,h,plK,ih]
  ·simp only [h,decide_false,Bool.false_and]
   refine ⟨fr,e1,e2,fun n m hm=>?_⟩
   obtain ⟨m,rfl⟩:∃ m',m = m' + 1:=⟨m - 1,by omega⟩
   rw [loopA_succ]
   simp [cellsB,hk',hw,encHs,h,plK]
def shapedB (b:Beach) (A:List (List Hrs)):Bool:=(A.all fun l=>decide ((l.length:Int) = b.places)) && decide ((A.length:Int) = b.rows)
theorem kShaped (n:Nat) (b:Beach) (A:List (List Hrs)) (hA:A.length≤100):callK Tryz.prog kn (execA Tryz.prog ann kn (n+300)) 56 [.agg (cellsB b),.list false (A.map encHs)] = some (.bool (shapedB b A)):=by
 rw [callK_of rfl,call0_eq Tryz.func56 b56 rfl (by simp [cellsB,encI,encL,encP,encHs,encH])]
 obtain ⟨fr,e1,e2,q⟩:=lShaped b A hA A.length 0 (by omega)
 have q:=fun n m=>q n (m + 110) (by omega)
 rw [List.drop_zero] at q
 unfold shapedB
 generalize A.all (fun l=>decide ((l.length:Int) = b.places)) = z at q ⊢
 simp only [cellsB] at q ⊢
 cases z <;> (simp at q; simp [c56,argFr,q,e1,e2])
end Go.Proofs.Tryz.Op
