/- Contracts: Min of two, minimum, wider, facing, turn, the directions as an array. No condition. -/
import Derived.Test.YtkemmiljbaneoaaGreatW3
import Derived.Test.YtkemmiljbaneoaaGreatI1
import Derived.Test.YtkemmiljbaneoaaGreatFz
import Derived.Test.YtkemmiljbaneoaaGreatH1
import Derived.Test.YtkemmiljbaneoaaGreatW1
import Derived.Test.YtkemmiljbaneoaaGreatW4
open Go Go.Pg Go.Proofs Go.Wind
namespace Go.Proofs.Tryz.Op
set_option maxRecDepth 100000
set_option linter.unusedSimpArgs false
theorem min_lt (a b:Int):(if b < a then b else a) = min a b:=by split <;> omega
theorem max_lt (a b:Int):(if a < b then b else a) = max a b:=by split <;> omega
theorem kMin2 (n:Nat) (a b:Int):callK Tryz.prog kn (execA Tryz.prog ann kn (n+100)) 147 [.list false [[i a],[i b]]] = some (i (min a b)):=by
 rw [callK_of rfl,call0_eq Tryz.func147 b147 rfl (by simp)]
 have hw:IntKind.i64.wrap (1 + 1) = 2:=by decide
 simp [c147,argFr]
 rw [loopA_succ]
 simp [hw,min_lt]
 rw [loopA_succ]
 simp
theorem kMinimum (n:Nat) (a b:Int):callK Tryz.prog kn (execA Tryz.prog ann kn (n+200)) 140 [.list false [[i a],[i b]]] = some (i (min a b)):=by
 rw [callK_of rfl,call0_eq Tryz.func140 b140 rfl (by simp)]
 have q:=fun n=>kMin2 n a b
 simp [c140,argFr,q]
def encR (r:Int × Int):List V:=[i r.1,i r.2]
theorem kWider (n:Nat) (r:Int × Int) (x:Int):callK Tryz.prog kn (execA Tryz.prog ann kn (n+300)) 119 [.agg (encR r),i x] = some (.agg (encR (min r.1 x,max r.2 x))):=by
 rw [callK_of rfl,call0_eq Tryz.func119 b119 rfl (by simp [encR])]
 have q:=fun n=>kMinimum n r.1 x
 simp [c119,argFr,encR,q,max_lt]
def encF (g:List Int):List V:=g.map fun x=>i x
theorem fac_sl0 (a b c:V):evSlice Tryz.prog ⟨[],[(2,0,.box [a,b,c])]⟩ 149 (.ptr 0 2 0 0) none none none = some (.vtl 0 2 0 0 3):=by kernel_rfl
theorem fac_slice (r:Operand→Option V) (hr:r (tq 2) = some (.ptr 0 2 0 0)) (a b c:V):evP Tryz.prog (mkO (.slice 149 (tq 2) none none none)) ⟨[],[(2,0,.box [a,b,c])]⟩ r = some (.vtl 0 2 0 0 3):=by
 have e:evP Tryz.prog (mkO (.slice 149 (tq 2) none none none)) ⟨[],[(2,0,.box [a,b,c])]⟩ r = (r (tq 2)).bind fun p=>evSlice Tryz.prog ⟨[],[(2,0,.box [a,b,c])]⟩ 149 p none none none:=by
  simp only [evP,mkO]
  cases r (tq 2) <;> rfl
 rw [e,hr]
 exact fac_sl0 a b c
theorem fac_copy0 (E:XE) (fr:Fr):stepK Tryz.prog E (some 5) (.cpy [tq 3,tq 4] [22,22]) ⟨1,(4,true,.list false []) :: (3,true,.vtl 0 2 0 0 3) :: fr,⟨[],[(2,0,.box [i 0,i 0,i 0])]⟩⟩ =
  some ⟨1,(5,true,i 0) :: (4,true,.list false []) :: (3,true,.vtl 0 2 0 0 3) :: fr,⟨[],[(2,0,.box [i 0,i 0,i 0]),(2,0,.box [i 0,i 0,i 0])]⟩⟩:=by kernel_rfl
theorem fac_copy1 (E:XE) (a:Int) (fr:Fr):stepK Tryz.prog E (some 5) (.cpy [tq 3,tq 4] [22,22]) ⟨1,(4,true,.list false [[i a]]) :: (3,true,.vtl 0 2 0 0 3) :: fr,⟨[],[(2,0,.box [i 0,i 0,i 0])]⟩⟩ =
  some ⟨1,(5,true,i 1) :: (4,true,.list false [[i a]]) :: (3,true,.vtl 0 2 0 0 3) :: fr,⟨[],[(2,0,.box [i a,i 0,i 0]),(2,0,.box [i 0,i 0,i 0])]⟩⟩:=by kernel_rfl
theorem fac_copy2 (E:XE) (a b:Int) (fr:Fr):stepK Tryz.prog E (some 5) (.cpy [tq 3,tq 4] [22,22]) ⟨1,(4,true,.list false [[i a],[i b]]) :: (3,true,.vtl 0 2 0 0 3) :: fr,⟨[],[(2,0,.box [i 0,i 0,i 0])]⟩⟩ =
  some ⟨1,(5,true,i 2) :: (4,true,.list false [[i a],[i b]]) :: (3,true,.vtl 0 2 0 0 3) :: fr,⟨[],[(2,0,.box [i a,i b,i 0]),(2,0,.box [i 0,i 0,i 0])]⟩⟩:=by kernel_rfl
theorem fac_copy3 (E:XE) (a b c:Int) (fr:Fr):stepK Tryz.prog E (some 5) (.cpy [tq 3,tq 4] [22,22]) ⟨1,(4,true,.list false [[i a],[i b],[i c]]) :: (3,true,.vtl 0 2 0 0 3) :: fr,⟨[],[(2,0,.box [i 0,i 0,i 0])]⟩⟩ =
  some ⟨1,(5,true,i 3) :: (4,true,.list false [[i a],[i b],[i c]]) :: (3,true,.vtl 0 2 0 0 3) :: fr,⟨[],[(2,0,.box [i a,i b,i c]),(2,0,.box [i 0,i 0,i 0])]⟩⟩:=by kernel_rfl
theorem fac_copy (E:XE) (l:List Int) (hl:l.length≤3) (fr:Fr):stepK Tryz.prog E (some 5) (.cpy [tq 3,tq 4] [22,22]) ⟨1,(4,true,li l) :: (3,true,.vtl 0 2 0 0 3) :: fr,⟨[],[(2,0,.box [i 0,i 0,i 0])]⟩⟩ =
  some ⟨1,(5,true,i (l.length:Int)) :: (4,true,li l) :: (3,true,.vtl 0 2 0 0 3) :: fr,⟨[],[(2,0,.box (encF (padF l))),(2,0,.box [i 0,i 0,i 0])]⟩⟩:=by
 match l,hl with
 | [],_=>exact fac_copy0 E fr
 | [a],_=>exact fac_copy1 E a fr
 | [a,b],_=>exact fac_copy2 E a b fr
 | [a,b,c],_=>exact fac_copy3 E a b c fr
theorem three {α:Type} (l:List α) (h:l.length = 3):∃ x y z,l = [x,y,z]:=by
 match l,h with
 | [x,y,z],_=>exact ⟨x,y,z,rfl⟩
theorem kFacing (n:Nat) (l:List Int) (hl:l.length≤3):callK Tryz.prog kn (execA Tryz.prog ann kn (n+100)) 95 [li l] = some (.agg (encF (padF l))):=by
 rw [callK_of rfl,call0_eq Tryz.func95 b95 rfl (by simp [encI])]
 have q:=fun E=>fac_copy E l hl [(0,true,li l),(2,true,.ptr 0 2 0 0)]
 obtain ⟨x,y,z,hF⟩:=three (padF l) (by simp [padF]; omega)
 rw [hF] at q ⊢
 simp [c95,argFr,fac_slice,q,encF]
end Go.Proofs.Tryz.Op
/- The contract of good: how many places are good in an hour, at least and at most. No condition but a valid beach. -/
open Go Go.Pg Go.Proofs Go.Wind
namespace Go.Proofs.Tryz.Op
set_option maxRecDepth 100000
set_option linter.unusedSimpArgs false
@[simp] theorem evNil_ref (cs:List V):evNil (.ref cs) = some (.ref cs):=rfl
theorem put_eqX (L:Level) (k γ:Nat) (r:Res):Level.put L k γ r = (k,γ,r) :: L:=rfl
@[simp] theorem sr_wider:sliceR Tryz.prog 119 = false:=by kernel_rfl
def cellsWk (b:Beach) (ws:List (List Int)):List V:=[i b.last,i b.rows,i b.places,i b.reach,li b.face,li b.sun,lli b.winds,.list false (b.breaks.map encP),.list false (b.notes.map encP),lli ws,.any,.any]
section
variable {b:Beach} {ws:List (List Int)} {g0 g1 g2:Int} {h:Nat}
def manyR (b:Beach) (h:Nat) (f:Nat→Int) (w:Int) (r:Nat):Int:=sumU (fun r=>sumU (fun p=>goodI b (r,p) h (f r) w) b.places.toNat) r
end
end Go.Proofs.Tryz.Op
/- The contract of total and Total. No condition. -/
open Go Go.Pg Go.Proofs Go.Wind
namespace Go.Proofs.Tryz.Op
set_option maxRecDepth 100000
set_option linter.unusedSimpArgs false
@[simp] theorem sr_good:sliceR Tryz.prog 122 = false:=by kernel_rfl
@[simp] theorem sr_total:sliceR Tryz.prog 92 = false:=by kernel_rfl
section
variable {b:Beach} {ws plan:List (List Int)}
def totU (b:Beach) (ws plan:List (List Int)) (n:Nat):Int × Int:=(sumU (fun h=>(goodR b ws h (planAt plan h)).1) n,sumU (fun h=>(goodR b ws h (planAt plan h)).2) n)
theorem planAt_pad {h:Nat} (hh:h < plan.length):dirF (padF plan[h]) = planAt plan h:=by
 funext r
 rw [padF_dir]
 unfold planAt
 have:plan.getD h [] = plan[h]:=by rw [List.getD_eq_getElem?_getD,List.getElem?_eq_getElem hh]; rfl
 rw [this]
theorem mem_dfs (b:Beach) (t:List Int):t ∈ dfsW b [] b.winds [] ↔ isTruthB b t = true:=by
 rw [dfsW_eq]
 simp only [List.nil_append,List.map_id',List.mem_filter,mem_prods,isTruthB,Bool.and_eq_true,List.all_eq_true]
 refine and_congr_right fun _=>?_
 rw [rightGo_nil,List.all_eq_true]
theorem windsA_ok (hb:Valid b):RowsOK (windsA b):=RowsOK.ask _ _ fun t ht=>listed_nums hb (by
 have:=(mem_dfs b t).1 ht
 simp only [isTruthB,Bool.and_eq_true] at this
 exact this.1)
theorem asked_dfs (hb:Valid b) (hT:dfsW b [] b.winds [] ≠ []):Asked b (windsA b):=asked_of hb (mem_dfs b) hT
def lvP (b:Beach) (plan:List (List Int)) (r:Res):Level:=[(2,0,.box (cellsB b)),(3,1,.box [lli plan]),(4,2,r)]
def totalV (b:Beach) (plan:List (List Int)):(Int × Int) × Int:=if faultB b = 0 then (if isPlanB b plan = true then (if (dfsW b [] b.winds []).isEmpty = true then ((0,0),11) else (totalP b (windsA b) plan,0)) else ((0,0),2)) else ((0,0),faultB b)
end
end Go.Proofs.Tryz.Op
/- Ranges and bounds are equal if their numbers are; what Total gives of a valid beach. No condition. -/
open Go Go.Pg Go.Proofs Go.Wind
namespace Go.Proofs.Tryz.Op
set_option maxRecDepth 100000
set_option linter.unusedSimpArgs false
theorem okI_small {n:Int} (h:-1000≤n∧n≤1000):okI n:=⟨by omega,by omega⟩
@[simp] theorem clI (f:Nat) (l:List Int):(l.all ((fun e=>e.all (closedV (f + 1))) ∘ encI)) = true:=by simp [encI]
@[simp] theorem clP (f:Nat) (l:List (Int × Int)):(l.all ((fun e=>e.all (closedV (f + 1))) ∘ encP)) = true:=by simp [encP]
@[simp] theorem clL (f:Nat) (l:List (List Int)):(l.all ((fun e=>e.all (closedV (f + 2))) ∘ encL)) = true:=by simp [encL,encI]
/-! what many laws need -/
theorem slX {α:Type} {f:α→List V} {l:List α} (h:l ≠ []):sl (l.map f) = .list false (l.map f):=by
 cases l with
 | nil=>exact absurd rfl h
 | cons x l=>rfl
theorem kAwakeX (n:Nat) (d:Option Tmp) (st:XS):ca2 (envA Tryz.prog ann kn n) d st 15 [] = valI d st (some (.bool true)):=by
 rw [ca2_closed d rfl]; rfl
theorem row_inX {b:Beach} {plan:List (List Int)} (hb:Valid b) (hp:PlanOf b plan) {h:Nat} (hh:h < plan.length):plan[h].length≤3∧(plan[h].length:Int) = b.rows∧∀ x ∈ plan[h],0≤x∧x≤3:=by
 have hro:=hb.ro
 have e:plan.getD h [] = plan[h]:=by rw [List.getD_eq_getElem?_getD,List.getElem?_eq_getElem hh]; rfl
 have hr:=hp.row h hh
 have hd:=hp.dir h
 rw [e] at hr
 refine ⟨by omega,hr,fun x hx=>?_⟩
 obtain ⟨r,h1,rfl⟩:=List.getElem_of_mem hx
 have:=hd r hh (by rw [e]; exact h1)
 unfold planAt at this
 rw [e,List.getD_eq_getElem?_getD,List.getElem?_eq_getElem h1] at this
 exact inI_iff.1 this
end Go.Proofs.Tryz.Op
/- Contracts: turn, turned, the work of a plan. No condition but a valid beach. -/
open Go Go.Pg Go.Proofs Go.Wind
namespace Go.Proofs.Tryz.Op
set_option maxRecDepth 100000
set_option linter.unusedSimpArgs false
@[simp] theorem sr_facing:sliceR Tryz.prog 95 = false:=by kernel_rfl
theorem kTurn (n:Nat) (x y:Int) (hx:0≤x∧x≤3) (hy:0≤y∧y≤3):callK Tryz.prog kn (execA Tryz.prog ann kn (n+300)) 126 [i x,i y] = some (i (turnI x y)):=by
 rw [callK_of rfl,call0_eq Tryz.func126 b126 rfl (by simp)]
 have w1:IntKind.i64.wrap (x - y) = x - y:=wrap_i64 (by omega) (by omega)
 have w2:IntKind.i64.wrap (y - x) = y - x:=wrap_i64 (by omega) (by omega)
 have w3:IntKind.i64.wrap (4 - max (x - y) (y - x)) = 4 - max (x - y) (y - x):=wrap_i64 (by omega) (by omega)
 have q:=fun n=>kMinimum n (max (x - y) (y - x)) (4 - max (x - y) (y - x))
 unfold turnI
 simp [c126,argFr,w1,w2,max_lt,w3,q]
section
variable {b:Beach} {x0 x1 x2 y0 y1 y2:Int}
theorem lTurned2 (hb:Valid b) (hx:∀ r,r < b.rows.toNat→0≤dirF [x0,x1,x2] r∧dirF [x0,x1,x2] r≤3) (hy:∀ r,r < b.rows.toNat→0≤dirF [y0,y1,y2] r∧dirF [y0,y1,y2] r≤3):∀ (d r:Nat),r + d = b.rows.toNat→∀ n k,d < k→loopA (execA Tryz.prog ann kn (n+500) 27) lb98_2 (ann 27 (fstR lb98_2)) k ⟨3,[(3,true,.ptr 0 3 0 0),(4,true,.ptr 0 4 1 0),(5,true,.ptr 0 5 2 0),(6,true,i (sumU (fun r=>turnI (dirF [x0,x1,x2] r) (dirF [y0,y1,y2] r) * b.places) r)),(9,true,i b.rows),(10,true,i r)],⟨[],[(3,0,.box (cellsB b)),(4,1,.box [i x0,i x1,i x2]),(5,2,.box [i y0,i y1,i y2])]⟩⟩ =
  some (.exit 0,⟨3,[(11,true,.bool false),(3,true,.ptr 0 3 0 0),(4,true,.ptr 0 4 1 0),(5,true,.ptr 0 5 2 0),(6,true,i (turnedP b (dirF [x0,x1,x2]) (dirF [y0,y1,y2]))),(9,true,i b.rows),(10,true,i b.rows)],⟨[],[(3,0,.box (cellsB b)),(4,1,.box [i x0,i x1,i x2]),(5,2,.box [i y0,i y1,i y2])]⟩⟩)
 | 0,r,hd,n,k + 1,hk=>by
  have hro:=hb.ro
  have:r = b.rows.toNat:=by omega
  subst this
  have hc:((b.rows.toNat:Nat):Int) = b.rows:=by omega
  rw [loopA_succ]
  simp [cellsB,hc,turnedP]
 | d + 1,r,hd,n,k + 1,hk=>by
  have hro:=hb.ro
  have hpl:=hb.pl
  have hr:(r:Int) < b.rows:=by omega
  have hwr:=wrapS (k:=r) (by omega)
  have ih:=lTurned2 hb hx hy d (r + 1) (by omega) n k (by omega)
  have q:=fun n=>kTurn n (dirF [x0,x1,x2] r) (dirF [y0,y1,y2] r) (hx r (by omega)) (hy r (by omega))
  have ht:=turn_le (hx r (by omega)) (hy r (by omega))
  have hs:=sumU_le (n:=r) (c:=10) (f:=fun r=>turnI (dirF [x0,x1,x2] r) (dirF [y0,y1,y2] r) * b.places) fun j hj=>by
   have h:=turn_le (hx j (by omega)) (hy j (by omega))
   have h1:0 * b.places≤turnI (dirF [x0,x1,x2] j) (dirF [y0,y1,y2] j) * b.places:=Int.mul_le_mul_of_nonneg_right h.1 (by omega)
   have h2:turnI (dirF [x0,x1,x2] j) (dirF [y0,y1,y2] j) * b.places≤2 * b.places:=Int.mul_le_mul_of_nonneg_right h.2 (by omega)
   omega
  have e1:sumU (fun r=>turnI (dirF [x0,x1,x2] r) (dirF [y0,y1,y2] r) * b.places) (r + 1) = sumU (fun r=>turnI (dirF [x0,x1,x2] r) (dirF [y0,y1,y2] r) * b.places) r + turnI (dirF [x0,x1,x2] r) (dirF [y0,y1,y2] r) * b.places:=rfl
  rw [e1] at ih
  generalize sumU (fun r=>turnI (dirF [x0,x1,x2] r) (dirF [y0,y1,y2] r) * b.places) r = S at ih hs ⊢
  generalize turnedP b (dirF [x0,x1,x2]) (dirF [y0,y1,y2]) = TT at ih ⊢
  generalize turnI (dirF [x0,x1,x2] r) (dirF [y0,y1,y2] r) = t at ih q ht
  have m1:0 * b.places≤t * b.places:=Int.mul_le_mul_of_nonneg_right ht.1 (by omega)
  have m2:t * b.places≤2 * b.places:=Int.mul_le_mul_of_nonneg_right ht.2 (by omega)
  have w1:IntKind.i64.wrap (t * b.places) = t * b.places:=wrap_i64 (by omega) (by omega)
  have w2:IntKind.i64.wrap (S + t * b.places) = S + t * b.places:=wrap_i64 (by omega) (by omega)
  rw [loopA_succ]
  simp only [cellsB] at ih ⊢
  have h3:r = 0∨r = 1∨r = 2:=by omega
  rcases h3 with rfl | rfl | rfl
  all_goals
   simp [dirF] at q ih hr hwr
   simp [hr,hwr,q,w1,w2,ih]
theorem kTurned (n:Nat) (hb:Valid b) (hx:∀ r,r < b.rows.toNat→0≤dirF [x0,x1,x2] r∧dirF [x0,x1,x2] r≤3) (hy:∀ r,r < b.rows.toNat→0≤dirF [y0,y1,y2] r∧dirF [y0,y1,y2] r≤3):callK Tryz.prog kn (execA Tryz.prog ann kn (n+700)) 98 [.agg (cellsB b),.agg [i x0,i x1,i x2],.agg [i y0,i y1,i y2]] = some (i (turnedP b (dirF [x0,x1,x2]) (dirF [y0,y1,y2]))):=by
 rw [callK_of rfl,call0_eq Tryz.func98 b98 rfl (by simp [cellsB,encI,encL,encP])]
 have hro:=hb.ro
 have q:=fun n k=>lTurned2 hb hx hy b.rows.toNat 0 (by omega) n (k + 150) (by omega)
 have e0:sumU (fun r=>turnI (dirF [x0,x1,x2] r) (dirF [y0,y1,y2] r) * b.places) 0 = 0:=rfl
 rw [e0] at q
 generalize turnedP b (dirF [x0,x1,x2]) (dirF [y0,y1,y2]) = TT at q ⊢
 simp only [cellsB] at q ⊢
 simp at q
 simp [c98,argFr,encI,encL,encP,q]
end
theorem eqF (a1 a2 a3 b1 b2 b3:Int) (h1:okI a1) (h2:okI a2) (h3:okI a3) (g1:okI b1) (g2:okI b2) (g3:okI b3):evEq Tryz.prog 149 [i a1,i a2,i a3] [i b1,i b2,i b3] = some (decide (a1 = b1) && (decide (a2 = b2) && decide (a3 = b3))):=by
 have kl:∀ a b c:Int,okI a→okI b→okI c→Program.keyLits Tryz.prog 16 149 [.int .i64 a,.int .i64 b,.int .i64 c] = some [.int .i64 a,.int .i64 b,.int .i64 c]:=fun a b c ha hb hc=>by
  unfold Program.keyLits
  simp [Tryz.underlying149]
  refine ⟨[[.int .i64 a],[.int .i64 b],[.int .i64 c]],?_,rfl⟩
  simp [show List.range 3 = [0,1,2] from rfl,k3I (wfI ha),k3I (wfI hb),k3I (wfI hc)]
 have kt:(aggT Tryz.prog 149 && Program.keyTypeAt Tryz.prog 16 149 && !(Tryz.prog.eqGuardType Tryz.prog.depth 149)) = true:=by kernel_rfl
 unfold evEq
 simp [plainC,kl _ _ _ h1 h2 h3,kl _ _ _ g1 g2 g3]
 refine ⟨⟨by simpa using kt,by simp [flatLits]⟩,?_⟩
 simp only [eqLits,Bool.and_true]
 congr 1
section
variable {b:Beach} {plan:List (List Int)}
def faceG (b:Beach) (plan:List (List Int)) (h:Nat):List Int:=if h = 0 then padF b.face else padF (plan.getD (h - 1) [])
theorem faceG_dir (b:Beach) (plan:List (List Int)) (h:Nat):dirF (faceG b plan h) = facesAt b plan h:=by
 unfold faceG facesAt
 by_cases e:h = 0
 ·rw [if_pos e,if_pos e]
  funext r
  exact padF_dir
 ·rw [if_neg e,if_neg e]
  funext r
  exact padF_dir
theorem pad_in {l:List Int} (hl:l.length≤3) (hd:∀ x ∈ l,0≤x∧x≤3):∃ x y z,padF l = [x,y,z]∧(0≤x∧x≤3)∧(0≤y∧y≤3)∧(0≤z∧z≤3):=by
 obtain ⟨x,y,z,h⟩:=three (padF l) (by simp [padF]; omega)
 have key:∀ w ∈ padF l,0≤w∧w≤3:=fun w hw=>by
  rcases List.mem_append.1 hw with hw | hw
  ·exact hd w hw
  ·rw [List.eq_of_mem_replicate hw]; omega
 rw [h] at key
 exact ⟨x,y,z,h,key x (by simp),key y (by simp),key z (by simp)⟩
theorem face_in (hb:Valid b):b.face.length≤3∧∀ x ∈ b.face,0≤x∧x≤3:=by
 have hro:=hb.ro
 have hfa:=hb.fa
 refine ⟨by omega,fun x hx=>?_⟩
 have:=hb.fd
 simp only [dirsB,List.all_eq_true] at this
 exact inI_iff.1 (this x hx)
theorem faceG_in (hb:Valid b) (hp:PlanOf b plan) {h:Nat} (hh:h≤plan.length):∃ x y z,faceG b plan h = [x,y,z]∧(0≤x∧x≤3)∧(0≤y∧y≤3)∧(0≤z∧z≤3):=by
 unfold faceG
 by_cases e:h = 0
 ·rw [if_pos e]
  obtain ⟨h1,h2⟩:=face_in hb
  exact pad_in h1 h2
 ·rw [if_neg e]
  have hh1:h - 1 < plan.length:=by omega
  obtain ⟨h1,_,h2⟩:=row_inX hb hp hh1
  have e:plan.getD (h - 1) [] = plan[h - 1]:=by rw [List.getD_eq_getElem?_getD,List.getElem?_eq_getElem hh1]; rfl
  rw [e]
  exact pad_in h1 h2
theorem lWork3 (hb:Valid b) (hp:PlanOf b plan) (h5:plan.length≤5):∀ (d h c:Nat),h + d = plan.length→3≤c→∃ c',∀ n k,d < k→loopA (execA Tryz.prog ann kn (n+900) 32) lb75_3 (ann 32 (fstR lb75_3)) k ⟨c,[(2,true,.ptr 0 2 0 0),(4,true,i (workH b plan h)),(5,true,.ptr 0 5 2 0),(12,true,lli plan),(13,true,i plan.length),(14,true,i h)],⟨[],[(2,0,.box (cellsB b)),(5,2,.box (encF (faceG b plan h)))]⟩⟩ =
  some (.exit 0,⟨c',[(15,true,.bool false),(2,true,.ptr 0 2 0 0),(4,true,i (workP b plan)),(5,true,.ptr 0 5 2 0),(12,true,lli plan),(13,true,i plan.length),(14,true,i plan.length)],⟨[],[(2,0,.box (cellsB b)),(5,2,.box (encF (faceG b plan plan.length)))]⟩⟩)
 | 0,h,c,hd,hc=>by
  have:h = plan.length:=by omega
  subst this
  refine ⟨c,fun n k hk=>?_⟩
  obtain ⟨k,rfl⟩:∃ k',k = k' + 1:=⟨k - 1,by omega⟩
  rw [loopA_succ]
  simp [cellsB,workP]
 | d + 1,h,c,hd,hc=>by
  have hh:h < plan.length:=by omega
  have hwh:=wrapS (k:=h) (by omega)
  obtain ⟨c',ih⟩:=lWork3 hb hp h5 d (h + 1) (c + 2) (by omega) (by omega)
  refine ⟨c',fun n k hk=>?_⟩
  obtain ⟨k,rfl⟩:∃ k',k = k' + 1:=⟨k - 1,by omega⟩
  have ih:=ih n k (by omega)
  obtain ⟨r1,r2,r3⟩:=row_inX hb hp hh
  have qf:=fun n=>kFacing n plan[h] r1
  obtain ⟨y0,y1,y2,hY,hy0,hy1,hy2⟩:=pad_in r1 r3
  obtain ⟨x0,x1,x2,hX,hx0,hx1,hx2⟩:=faceG_in hb hp (h:=h) (by omega)
  have hge:faceG b plan (h + 1) = padF plan[h]:=by
   unfold faceG
   rw [if_neg (by omega),Nat.add_sub_cancel,List.getD_eq_getElem?_getD,List.getElem?_eq_getElem hh]
   rfl
  have hdY:dirF [y0,y1,y2] = planAt plan h:=by rw [← hY,planAt_pad hh]
  have hdX:dirF [x0,x1,x2] = facesAt b plan h:=by rw [← hX,faceG_dir]
  have qt:=fun n=>kTurned (x0:=x0) (x1:=x1) (x2:=x2) (y0:=y0) (y1:=y1) (y2:=y2) n hb (fun r hr=>by rw [hdX]; exact facesAt_dir hb hp (by omega) hr) (fun r hr=>by rw [hdY]; exact plan_dir hp hh hr)
  rw [hdX,hdY] at qt
  have hq:=eqF y0 y1 y2 x0 x1 x2 (okI_small (by omega)) (okI_small (by omega)) (okI_small (by omega)) (okI_small (by omega)) (okI_small (by omega)) (okI_small (by omega))
  have hwk:=workH_le hb hp h (by omega)
  have htu:=turned_le hb (f:=facesAt b plan h) (g:=planAt plan h) (fun r hr=>facesAt_dir hb hp (by omega) hr) (fun r hr=>plan_dir hp hh hr)
  have e1:workH b plan (h + 1) = workH b plan h + turnedP b (facesAt b plan h) (planAt plan h):=rfl
  rw [hge,hY,e1] at ih
  rw [hY] at qf
  rw [hX]
  have hself:y0 = x0∧y1 = x1∧y2 = x2→turnedP b (facesAt b plan h) (planAt plan h) = 0:=fun hh=>by
   rw [← hdX,← hdY,hh.1,hh.2.1,hh.2.2]
   exact turned_self b _
  generalize faceG b plan plan.length = FE at *
  generalize turnedP b (facesAt b plan h) (planAt plan h) = t at *
  generalize workP b plan = WP at *
  generalize workH b plan h = W at *
  have w1:IntKind.i64.wrap (W + t) = W + t:=wrap_i64 (by omega) (by omega)
  have hc1:2 < c + 1 + 1:=by omega
  rw [loopA_succ]
  simp only [cellsB,encF,List.map_cons,List.map_nil] at qf qt ih ⊢
  simp at ih
  by_cases hE:y0 = x0∧y1 = x1∧y2 = x2
  ·have ht0:=hself hE
   obtain ⟨rfl,rfl,rfl⟩:=hE
   subst ht0
   rw [Int.add_zero] at ih
   simp [hh,hwh,encI,encL,encP,qf,hq,put_eqX,ih]
  ·have hz:(decide (y0 = x0) && (decide (y1 = x1) && decide (y2 = x2))) = false:=by
    rw [← Bool.not_eq_true]
    simpa using hE
   rw [hz] at hq
   simp [hh,hwh,encI,encL,encP,qf,qt,hq,w1,hc1,put_eqX,ih]
theorem kWorkP (n:Nat) (hb:Valid b) (hp:PlanOf b plan):callK Tryz.prog kn (execA Tryz.prog ann kn (n+1200)) 75 [.agg (cellsB b),lli plan] = some (i (workP b plan)):=by
 rw [callK_of rfl,call0_eq Tryz.func75 b75 rfl (by simp [cellsB,encI,encL,encP])]
 have hpl:=hp.len
 have hla:=hb.la
 obtain ⟨c',q⟩:=lWork3 hb hp (by omega) plan.length 0 3 (by omega) (by omega)
 have q:=fun n k=>q n (k + 150) (by omega)
 have e0:workH b plan 0 = 0:=rfl
 have eg:faceG b plan 0 = padF b.face:=rfl
 rw [e0,eg] at q
 obtain ⟨h1,h2⟩:=face_in hb
 have qf:=fun n=>kFacing n b.face h1
 generalize encF (faceG b plan plan.length) = FE at q
 obtain ⟨x,y,z,hF,_⟩:=pad_in h1 h2
 rw [hF] at q qf
 simp only [cellsB,encF,List.map_cons,List.map_nil] at q qf ⊢
 simp at q
 simp [c75,argFr,encI,encL,encP,qf,put_eqX,q]
def workV (b:Beach) (plan:List (List Int)):Int × Int:=if faultB b = 0 then (if isPlanB b plan = true then (workP b plan,0) else (0,2)) else (0,faultB b)
theorem kWork (n:Nat) (h40:∀ l ∈ b.winds,l.length≤40):callK Tryz.prog kn (execA Tryz.prog ann kn (n+1600)) 16 [.agg (cellsB b),lli plan] = some (.tup [i (workV b plan).1,i (workV b plan).2]):=by
 rw [callK_of rfl,call0_eq Tryz.func16 b16 rfl (by simp [cellsB,encI,encL,encP])]
 have qc:=fun n=>kCheck n b h40
 unfold workV
 by_cases h:faultB b = 0
 ·have hb:=valid_of h
  have qp:=fun n=>kIsPlan n b hb plan
  rw [h] at qc
  rw [if_pos h]
  cases hz:isPlanB b plan with
  | true =>
   have qw:=fun n=>kWorkP n hb (plan_of hz)
   rw [hz] at qp
   rw [if_pos rfl]
   simp only [cellsB] at qc qp qw ⊢
   simp [c16,argFr,encI,encL,encP,qc,qp,qw]
  | false =>
   rw [hz] at qp
   rw [if_neg (by decide)]
   simp only [cellsB] at qc qp ⊢
   simp [c16,argFr,encI,encL,encP,qc,qp]
 ·rw [if_neg h]
  simp only [cellsB] at qc ⊢
  simp [c16,argFr,encI,encL,encP,qc,h]
end
end Go.Proofs.Tryz.Op
/- The contract of bounds: of a place's hours. No condition but a valid beach. -/
open Go Go.Pg Go.Proofs Go.Wind
namespace Go.Proofs.Tryz.Op
set_option maxRecDepth 100000
set_option linter.unusedSimpArgs false
@[simp] theorem sr_bounds:sliceR Tryz.prog 80 = false:=by kernel_rfl
theorem kHCalm (n:Nat) (x:Hrs):callK Tryz.prog kn (execA Tryz.prog ann kn (n+50)) 79 [.agg (encH x)] = some (i x.calm):=by
 rw [callK_of rfl,call0_eq Tryz.func79 b79 rfl (by simp [encH])]
 simp [c79,argFr,encH]
theorem kHGood (n:Nat) (x:Hrs):callK Tryz.prog kn (execA Tryz.prog ann kn (n+50)) 81 [.agg (encH x)] = some (i x.good):=by
 rw [callK_of rfl,call0_eq Tryz.func81 b81 rfl (by simp [encH])]
 simp [c81,argFr,encH]
section
variable {b:Beach} {ws plan:List (List Int)} {ff:FuncId} {sel:Hrs→Int} {s:Nat × Nat}
def selN (b:Beach) (plan:List (List Int)) (s:Nat × Nat) (sel:Hrs→Int) (h:Nat) (w:Int):Int:=sel (ofB b (s.1,s.2) h (planAt plan h s.1) w)
theorem lBd6 (hb:Valid b) (hp:PlanOf b plan) (hsel:∀ n x,callK Tryz.prog kn (execA Tryz.prog ann kn (n+50)) ff [.agg (encH x)] = some (i (sel x))) (hs1:(s.1:Int) < b.rows) (hs2:(s.2:Int) < b.places) (out:Int × Int) (h:Nat) (hh:h < plan.length) (xs:List Int) (hx:∀ x ∈ xs,0≤x∧x≤3) (hxl:xs.length≤100) (γ:Nat):∀ (d j c:Nat),j + d = xs.length→γ < c→∃ c',c≤c'∧∀ n k,d < k→loopA (execA Tryz.prog ann kn (n+1400) 66) lb80_6 (ann 66 (fstR lb80_6)) k ⟨c,[(1,true,.ref (cellsWk b ws)),(2,true,lli plan),(4,true,.ptr 0 4 0 0),(7,true,.ptr 0 7 1 0),(8,true,.ptr 0 8 2 0),(9,true,i h),(11,true,.ptr 0 11 γ 0),(17,true,lli ws),(18,true,i ws.length),(19,true,i h),(25,true,li xs),(26,true,i xs.length),(27,true,i j)],⟨[],[(4,0,.box [.fn ff [] []]),(7,1,.box [i s.1,i s.2]),(8,2,.box (encR out)),(11,γ,.box (encR (rngF (1,0) ((xs.take j).map (selN b plan s sel h)))))]⟩⟩ =
  some (.exit 2,⟨c',[(28,true,.bool false),(1,true,.ref (cellsWk b ws)),(2,true,lli plan),(4,true,.ptr 0 4 0 0),(7,true,.ptr 0 7 1 0),(8,true,.ptr 0 8 2 0),(9,true,i h),(11,true,.ptr 0 11 γ 0),(17,true,lli ws),(18,true,i ws.length),(19,true,i h),(25,true,li xs),(26,true,i xs.length),(27,true,i xs.length)],⟨[],[(4,0,.box [.fn ff [] []]),(7,1,.box [i s.1,i s.2]),(8,2,.box (encR out)),(11,γ,.box (encR (rngF (1,0) (xs.map (selN b plan s sel h)))))]⟩⟩)
 | 0,j,c,hd,hc=>by
  have:j = xs.length:=by omega
  subst this
  refine ⟨c,Nat.le_refl _,fun n k hk=>?_⟩
  obtain ⟨k,rfl⟩:∃ k',k = k' + 1:=⟨k - 1,by omega⟩
  rw [loopA_succ,List.take_length]
  simp [encR]
 | d + 1,j,c,hd,hc=>by
  have hj:j < xs.length:=by omega
  have hla:=hb.la
  have hro:=hb.ro
  have hpl:=hb.pl
  have hsu:=hb.su
  have hlen:=hp.len
  have hwj:=wrapS (k:=j) (by omega)
  obtain ⟨c',hc',ih⟩:=lBd6 hb hp hsel hs1 hs2 out h hh xs hx hxl γ d (j + 1) (c + 1) (by omega) (by omega)
  refine ⟨c',by omega,fun n k hk=>?_⟩
  obtain ⟨k,rfl⟩:∃ k',k = k' + 1:=⟨k - 1,by omega⟩
  have ih:=ih n k (by omega)
  have hxj:=hx _ (List.getElem_mem hj)
  have e1:(xs.take (j + 1)).map (selN b plan s sel h) = (xs.take j).map (selN b plan s sel h) ++ [selN b plan s sel h xs[j]]:=by
   rw [List.take_succ_eq_append_getElem hj,List.map_append,List.map_cons,List.map_nil]
  have e2:rngF (1,0) ((xs.take (j + 1)).map (selN b plan s sel h)) = (min (rngF (1,0) ((xs.take j).map (selN b plan s sel h))).1 (selN b plan s sel h xs[j]),max (rngF (1,0) ((xs.take j).map (selN b plan s sel h))).2 (selN b plan s sel h xs[j])):=by
   rw [e1]
   unfold rngF
   rw [List.foldl_append]
   rfl
  rw [e2] at ih
  have qw:=fun n=>kWider n (rngF (1,0) ((xs.take j).map (selN b plan s sel h))) (selN b plan s sel h xs[j])
  obtain ⟨r1,r2,r3⟩:=row_inX hb hp hh
  have hsr:s.1 < plan[h].length:=by omega
  have hpa:planAt plan h s.1 = plan[h][s.1]:=by
   unfold planAt
   rw [show plan.getD h [] = plan[h] by rw [List.getD_eq_getElem?_getD,List.getElem?_eq_getElem hh]; rfl,List.getD_eq_getElem?_getD,List.getElem?_eq_getElem hsr]
   rfl
  have qo:=fun n=>kOf n b hb (s.1,s.2) (by simp only; omega) h (by omega) (planAt plan h s.1) xs[j] hxj
  have qs:=fun n=>hsel n (ofB b (s.1,s.2) h (planAt plan h s.1) xs[j])
  have es:selN b plan s sel h xs[j] = sel (ofB b (s.1,s.2) h (planAt plan h s.1) xs[j]):=rfl
  rw [es] at ih qw
  rw [hpa] at qo qs ih qw
  generalize rngF (1,0) (xs.map (selN b plan s sel h)) = RR at ih ⊢
  generalize rngF (1,0) ((xs.take j).map (selN b plan s sel h)) = R at ih qw ⊢
  generalize sel (ofB b (s.1,s.2) h plan[h][s.1] xs[j]) = y at qs ih qw
  generalize ofB b (s.1,s.2) h plan[h][s.1] xs[j] = O at qs qo
  have hc1:γ < c + 1:=by omega
  rw [loopA_succ]
  simp only [cellsB,cellsWk,encR,encP,encH] at qo qs ih qw ⊢
  simp at ih
  simp [hj,hwj,hh,hsr,encI,encL,encP,qo,qs,qw,hc1,put_eqX,ih]
def bndU (b:Beach) (ws plan:List (List Int)) (s:Nat × Nat) (sel:Hrs→Int) (n:Nat):Int × Int:=sumB (1,0) ws (selN b plan s sel) n
theorem rng01 {l:List Int} (h:∀ x ∈ l,0≤x∧x≤1):0≤(rngF (1,0) l).1∧(rngF (1,0) l).1≤1∧0≤(rngF (1,0) l).2∧(rngF (1,0) l).2≤1:=by
 have:=rngF_le l (1,0) 0 1 h (by simp) (by simp)
 simp only at this
 omega
theorem lBd2 (hb:Valid b) (hp:PlanOf b plan) (hsel:∀ n x,callK Tryz.prog kn (execA Tryz.prog ann kn (n+50)) ff [.agg (encH x)] = some (i (sel x))) (hse:∀ h w,0≤selN b plan s sel h w∧selN b plan s sel h w≤1) (hs1:(s.1:Int) < b.rows) (hs2:(s.2:Int) < b.places) (hwl:ws.length = b.winds.length) (hok:RowsOK ws):∀ (d h c:Nat),h + d = ws.length→3≤c→∃ c',3≤c'∧∀ n k,d < k→loopA (execA Tryz.prog ann kn (n+1600) 66) lb80_2 (ann 66 (fstR lb80_2)) k ⟨c,[(1,true,.ref (cellsWk b ws)),(2,true,lli plan),(4,true,.ptr 0 4 0 0),(7,true,.ptr 0 7 1 0),(8,true,.ptr 0 8 2 0),(17,true,lli ws),(18,true,i ws.length),(19,true,i h)],⟨[],[(4,0,.box [.fn ff [] []]),(7,1,.box [i s.1,i s.2]),(8,2,.box (encR (bndU b ws plan s sel h)))]⟩⟩ =
  some (.exit 0,⟨c',[(20,true,.bool false),(1,true,.ref (cellsWk b ws)),(2,true,lli plan),(4,true,.ptr 0 4 0 0),(7,true,.ptr 0 7 1 0),(8,true,.ptr 0 8 2 0),(17,true,lli ws),(18,true,i ws.length),(19,true,i ws.length)],⟨[],[(4,0,.box [.fn ff [] []]),(7,1,.box [i s.1,i s.2]),(8,2,.box (encR (bndU b ws plan s sel ws.length)))]⟩⟩)
 | 0,h,c,hd,hc=>by
  have:h = ws.length:=by omega
  subst this
  refine ⟨c,hc,fun n k hk=>?_⟩
  obtain ⟨k,rfl⟩:∃ k',k = k' + 1:=⟨k - 1,by omega⟩
  rw [loopA_succ]
  simp [encR]
 | d + 1,h,c,hd,hc=>by
  have hh:h < ws.length:=by omega
  have hh5:=hb.hl
  have hwi:=hb.wi
  have hlen:=hp.len
  have hwh:=wrapS (k:=h) (by omega)
  have hwd:ws.getD h [] = ws[h]:=by rw [List.getD_eq_getElem?_getD,List.getElem?_eq_getElem hh]; rfl
  have hw4:=hok.len _ (List.getElem_mem hh)
  obtain ⟨c1,hc1,q⟩:=lBd6 (ws:=ws) hb hp hsel hs1 hs2 (bndU b ws plan s sel h) h (by omega) ws[h] (hok.lo _ (List.getElem_mem hh)) (by omega) c ws[h].length 0 (c + 1) (by omega) (by omega)
  obtain ⟨c',hc',ih⟩:=lBd2 hb hp hsel hse hs1 hs2 hwl hok d (h + 1) c1 (by omega) (by omega)
  refine ⟨c',hc',fun n k hk=>?_⟩
  obtain ⟨k,rfl⟩:∃ k',k = k' + 1:=⟨k - 1,by omega⟩
  have ih:=ih n k (by omega)
  have q:=fun n k=>q n (k + 100) (by omega)
  have e1:bndU b ws plan s sel (h + 1) = ((bndU b ws plan s sel h).1 + (rngF (1,0) (ws[h].map (selN b plan s sel h))).1,(bndU b ws plan s sel h).2 + (rngF (1,0) (ws[h].map (selN b plan s sel h))).2):=by
   rw [← hwd]; rfl
  have hr:=rng01 (l:=ws[h].map (selN b plan s sel h)) fun x hx=>by
   obtain ⟨w,_,rfl⟩:=List.mem_map.1 hx
   exact hse h w
  have hb1:=sumU_le (n:=h) (c:=1) (f:=fun h=>(rngF (1,0) ((ws.getD h []).map (selN b plan s sel h))).1) fun j _=>by
   have:=rng01 (l:=(ws.getD j []).map (selN b plan s sel j)) fun x hx=>by
    obtain ⟨w,_,rfl⟩:=List.mem_map.1 hx
    exact hse j w
   omega
  have hb2:=sumU_le (n:=h) (c:=1) (f:=fun h=>(rngF (1,0) ((ws.getD h []).map (selN b plan s sel h))).2) fun j _=>by
   have:=rng01 (l:=(ws.getD j []).map (selN b plan s sel j)) fun x hx=>by
    obtain ⟨w,_,rfl⟩:=List.mem_map.1 hx
    exact hse j w
   omega
  change 0≤(bndU b ws plan s sel h).1∧(bndU b ws plan s sel h).1≤h * 1 at hb1
  change 0≤(bndU b ws plan s sel h).2∧(bndU b ws plan s sel h).2≤h * 1 at hb2
  rw [e1] at ih
  rw [List.take_zero,List.map_nil] at q
  have e0:rngF (1,0) [] = (1,0):=rfl
  rw [e0] at q
  generalize bndU b ws plan s sel ws.length = TT at ih ⊢
  generalize bndU b ws plan s sel h = T at ih q hb1 hb2 ⊢
  generalize rngF (1,0) (ws[h].map (selN b plan s sel h)) = R at ih q hr
  have w1:IntKind.i64.wrap (T.1 + R.1) = T.1 + R.1:=wrap_i64 (by omega) (by omega)
  have w2:IntKind.i64.wrap (T.2 + R.2) = T.2 + R.2:=wrap_i64 (by omega) (by omega)
  have hc2:2 < c1:=by omega
  have hcc:c < c + 1:=by omega
  rw [loopA_succ]
  simp only [cellsWk,encR] at q ih ⊢
  simp at q ih
  simp [hh,hwh,encI,encL,q,w1,w2,hc2,hcc,put_eqX,ih]
theorem kBoundsA (n:Nat) (hb:Valid b) (hp:PlanOf b plan) (hsel:∀ n x,callK Tryz.prog kn (execA Tryz.prog ann kn (n+50)) ff [.agg (encH x)] = some (i (sel x))) (hse:∀ h w,0≤selN b plan s sel h w∧selN b plan s sel h w≤1) (hs1:(s.1:Int) < b.rows) (hs2:(s.2:Int) < b.places) (hwl:ws.length = b.winds.length) (hok:RowsOK ws):callK Tryz.prog kn (execA Tryz.prog ann kn (n+1800)) 80 [.agg [.fn ff [] []],.ref (cellsWk b ws),lli plan,.agg [i s.1,i s.2]] = some (.agg (encR (bndU b ws plan s sel ws.length))):=by
 rw [callK_of rfl,call0_eq Tryz.func80 b80 rfl (by simp [cellsWk,encI,encL,encP])]
 obtain ⟨c',hc',q⟩:=lBd2 (s:=s) hb hp hsel hse hs1 hs2 hwl hok ws.length 0 3 (by omega) (Nat.le_refl _)
 have h5:=hb.hl
 have q:=fun n k=>q n (k + 150) (by omega)
 have e0:bndU b ws plan s sel 0 = (0,0):=rfl
 rw [e0] at q
 generalize bndU b ws plan s sel ws.length = T at q ⊢
 have hc2:2 < c':=by omega
 simp only [cellsWk,encR] at q ⊢
 simp at q
 simp [c80,argFr,encL,q,hc2,put_eqX]
end
end Go.Proofs.Tryz.Op
/- The contract of Bounds. No condition. -/
open Go Go.Pg Go.Proofs Go.Wind
namespace Go.Wind
structure Bnd where
 sun:Int
 calm:Int × Int
 good:Int × Int
end Go.Wind
namespace Go.Proofs.Tryz.Op
set_option maxRecDepth 100000
set_option linter.unusedSimpArgs false
@[simp] theorem rds_field (T:TypeId) (x:Operand) (k:Nat) (f:Operand→Option V):rdsK Tryz.prog (.oth (.field T x k)) f = []:=rfl
@[simp] theorem weakC_fn0 (f:FuncId):weakC (.fn f [] []) = .fn f [] []:=rfl
@[simp] theorem weakM_fn0 (f:FuncId):weakM (.fn f [] []) = .fn f [] []:=rfl
@[simp] theorem closed_fn0 (k:Nat) (f:FuncId):closedV (k + 1) (.fn f [] []) = true:=rfl
def encB (x:Bnd):List V:=[i x.sun,i x.calm.1,i x.calm.2,i x.good.1,i x.good.2]
section
variable {b:Beach} {ws plan:List (List Int)}
def bndP (b:Beach) (ws plan:List (List Int)) (r p:Nat):Bnd:=⟨sunB b plan r plan.length,calmB b ws plan r p,goodB b ws plan r p⟩
theorem sunB_succ (b:Beach) (plan:List (List Int)) (r n:Nat):sunB b plan r (n + 1) = sunB b plan r n + (if litB b plan r n = true then 1 else 0):=by
 unfold sunB
 simp only [cnt]
 split <;> simp
theorem lBds14 (hb:Valid b) (hp:PlanOf b plan) (r p:Nat) (hr:(r:Int) < b.rows) (hp2:(p:Int) < b.places) (A:List (List V)) (γ8 γ12:Nat):∀ (d h c γ:Nat) (rs:List Bnd),h + d = plan.length→(rs.length:Int) = b.places→rs[p]? = some ⟨sunB b plan r h,(0,0),(0,0)⟩→γ < c→∀ n k,d < k→loopA (execA Tryz.prog ann kn (n+1400) 90) lb19_14 (ann 90 (fstR lb19_14)) k ⟨c,[(2,true,.ptr 0 2 0 0),(3,true,.ptr 0 3 1 0),(6,true,.ref (cellsWk b ws)),(8,true,pv 87 γ8 A),(9,true,i r),(10,true,.vec 0 30 γ rs.length),(11,true,i p),(12,true,.ptr 0 12 γ12 0),(24,true,i b.rows),(25,true,i r),(32,true,i rs.length),(33,true,i p),(40,true,i plan.length),(41,true,i h)],⟨[],(2,0,.box (cellsB b)) :: (3,1,.box [lli plan]) :: (12,γ12,.box [i r,i p]) :: (30,γ,.vec 57 (rs.map encB)) :: pl 87 γ8 48 A⟩⟩ =
  some (.exit 4,⟨c,(42,true,.bool false) :: [(2,true,.ptr 0 2 0 0),(3,true,.ptr 0 3 1 0),(6,true,.ref (cellsWk b ws)),(8,true,pv 87 γ8 A),(9,true,i r),(10,true,.vec 0 30 γ rs.length),(11,true,i p),(12,true,.ptr 0 12 γ12 0),(24,true,i b.rows),(25,true,i r),(32,true,i rs.length),(33,true,i p),(40,true,i plan.length),(41,true,i plan.length)],⟨[],(2,0,.box (cellsB b)) :: (3,1,.box [lli plan]) :: (12,γ12,.box [i r,i p]) :: (30,γ,.vec 57 ((rs.set p ⟨sunB b plan r plan.length,(0,0),(0,0)⟩).map encB)) :: pl 87 γ8 48 A⟩⟩)
 | 0,h,c,γ,rs,hd,hl,e,hγ,n,k + 1,hk=>by
  have:h = plan.length:=by omega
  subst this
  have:rs.set p ⟨sunB b plan r plan.length,(0,0),(0,0)⟩ = rs:=by
   have hpl:p < rs.length:=by omega
   rw [List.getElem?_eq_getElem hpl,Option.some.injEq] at e
   rw [← e]
   exact List.set_getElem_self hpl
  rw [this,loopA_succ]
  simp
 | d + 1,h,c,γ,rs,hd,hl,e,hγ,n,k + 1,hk=>by
  have hh:h < plan.length:=by omega
  have hla:=hb.la
  have hro:=hb.ro
  have hpc:=hb.pl
  have hsu:=hb.su
  have hlen:=hp.len
  have hwh:=wrapS (k:=h) (by omega)
  obtain ⟨r1,r2,r3⟩:=row_inX hb hp hh
  have hr2:r < plan[h].length:=by omega
  have hpa:planAt plan h r = plan[h][r]:=by
   unfold planAt
   rw [show plan.getD h [] = plan[h] by rw [List.getD_eq_getElem?_getD,List.getElem?_eq_getElem hh]; rfl,List.getD_eq_getElem?_getD,List.getElem?_eq_getElem hr2]
   rfl
  have q:=fun n=>kOf n b hb (r,p) (by simp only; omega) h (by omega) (planAt plan h r) 0 (by omega)
  rw [hpa] at q
  have hpl:p < rs.length:=by omega
  have ih:=lBds14 hb hp r p hr hp2 A γ8 γ12 d (h + 1) c γ (rs.set p ⟨sunB b plan r (h + 1),(0,0),(0,0)⟩) (by omega) (by simpa using hl) (by rw [List.getElem?_set_self hpl]) hγ n k (by omega)
  rw [List.set_set,List.length_set] at ih
  rw [List.getElem?_eq_getElem hpl,Option.some.injEq] at e
  have hs:=cnt_le (litB b plan r) h
  have hsb:0≤sunB b plan r h∧sunB b plan r h≤h:=by unfold sunB; omega
  have hof:(ofB b (r,p) h plan[h][r] 0).sun = if litB b plan r h = true then 1 else 0:=by
   have:litB b plan r h = decide (b.sun.getD h 0 = plan[h][r]):=by
    unfold litB
    rw [hpa]
    congr 1
    exact propext eq_comm
   rw [this]
   rfl
  have hst:sunB b plan r (h + 1) = sunB b plan r h + (ofB b (r,p) h plan[h][r] 0).sun:=by rw [sunB_succ,hof]
  have hw:IntKind.i64.wrap (sunB b plan r h + (ofB b (r,p) h plan[h][r] 0).sun) = sunB b plan r h + (ofB b (r,p) h plan[h][r] 0).sun:=wrap_i64 (by rw [hof]; split <;> omega) (by rw [hof]; split <;> omega)
  rw [hst] at ih
  generalize rs.set p ⟨sunB b plan r plan.length,(0,0),(0,0)⟩ = F at ih ⊢
  generalize sunB b plan r h = S at *
  generalize ofB b (r,p) h plan[h][r] 0 = O at *
  rw [List.map_set] at ih
  have heg:(rs.map encB)[p]'(by simpa using hpl) = [i S,i 0,i 0,i 0,i 0]:=by rw [List.getElem_map,e]; rfl
  rw [loopA_succ]
  simp only [cellsB,encP,encH,encB,cellsWk] at q ih heg ⊢
  simp at ih
  simp [hh,hr2,hwh,encI,encL,encP,q,hpl,heg,hw,hγ,put_eqX,apK,ih]
def mixB (b:Beach) (ws plan:List (List Int)) (r p:Nat):List Bnd:=(List.range b.places.toNat).map fun j=>if j < p then bndP b ws plan r j else ⟨0,(0,0),(0,0)⟩
def rowB (b:Beach) (ws plan:List (List Int)) (r:Nat):List Bnd:=(List.range b.places.toNat).map (bndP b ws plan r)
theorem mixB_len (b:Beach) (ws plan:List (List Int)) (r p:Nat):(mixB b ws plan r p).length = b.places.toNat:=by simp [mixB]
theorem mixB_get {r p:Nat} (h:p < b.places.toNat):(mixB b ws plan r p)[p]? = some ⟨0,(0,0),(0,0)⟩:=by simp [mixB,h]
theorem mixB_set {r p:Nat}:(mixB b ws plan r p).set p (bndP b ws plan r p) = mixB b ws plan r (p + 1):=by
 apply List.ext_getElem (by simp [mixB])
 intro j h1 h2
 simp only [mixB,List.getElem_set,List.getElem_map,List.getElem_range]
 by_cases e:p = j
 ·subst e; simp
 ·rw [if_neg e]
  have:(j < p) = (j < p + 1):=propext ⟨fun h=>by omega,fun h=>by omega⟩
  simp only [this]
theorem mixB_full (b:Beach) (ws plan:List (List Int)) (r:Nat):mixB b ws plan r b.places.toNat = rowB b ws plan r:=by
 apply List.ext_getElem (by simp [mixB,rowB])
 intro j h1 h2
 have:j < b.places.toNat:=by simpa [mixB] using h1
 simp only [mixB,rowB,List.getElem_map,List.getElem_range,if_pos this]
theorem mixB_zero (b:Beach) (ws plan:List (List Int)) (r:Nat):mixB b ws plan r 0 = List.replicate b.places.toNat ⟨0,(0,0),(0,0)⟩:=by
 apply List.ext_getElem (by simp [mixB])
 intro j h1 h2
 simp [mixB]
theorem lBds10 (hb:Valid b) (hp:PlanOf b plan) (hwl:ws.length = b.winds.length) (hok:RowsOK ws) (r:Nat) (hr:(r:Int) < b.rows) (A:List (List V)) (γ8 γ:Nat):∀ (d p c:Nat),p + d = b.places.toNat→γ < c→∃ c',γ < c'∧∀ n k,d < k→loopA (execA Tryz.prog ann kn (n+2000) 90) lb19_10 (ann 90 (fstR lb19_10)) k ⟨c,[(2,true,.ptr 0 2 0 0),(3,true,.ptr 0 3 1 0),(6,true,.ref (cellsWk b ws)),(8,true,pv 87 γ8 A),(9,true,i r),(10,true,.vec 0 30 γ b.places.toNat),(24,true,i b.rows),(25,true,i r),(32,true,i b.places.toNat),(33,true,i p)],⟨[],(2,0,.box (cellsB b)) :: (3,1,.box [lli plan]) :: (30,γ,.vec 57 ((mixB b ws plan r p).map encB)) :: pl 87 γ8 48 A⟩⟩ =
  some (.exit 2,⟨c',(34,true,.bool false) :: [(2,true,.ptr 0 2 0 0),(3,true,.ptr 0 3 1 0),(6,true,.ref (cellsWk b ws)),(8,true,pv 87 γ8 A),(9,true,i r),(10,true,.vec 0 30 γ b.places.toNat),(24,true,i b.rows),(25,true,i r),(32,true,i b.places.toNat),(33,true,i b.places.toNat)],⟨[],(2,0,.box (cellsB b)) :: (3,1,.box [lli plan]) :: (30,γ,.vec 57 ((rowB b ws plan r).map encB)) :: pl 87 γ8 48 A⟩⟩)
 | 0,p,c,hd,hγ=>by
  have:p = b.places.toNat:=by omega
  subst this
  refine ⟨c,hγ,fun n k hk=>?_⟩
  obtain ⟨k,rfl⟩:∃ k',k = k' + 1:=⟨k - 1,by omega⟩
  rw [mixB_full,loopA_succ]
  simp
 | d + 1,p,c,hd,hγ=>by
  have hpc:=hb.pl
  have hla:=hb.la
  have hlen:=hp.len
  have hw:=wrapS (k:=p) (by omega)
  have hp':p < b.places.toNat:=by omega
  obtain ⟨c',h1,ih⟩:=lBds10 hb hp hwl hok r hr A γ8 γ d (p + 1) (c + 3) (by omega) (by omega)
  have q:=lBds14 (ws:=ws) hb hp r p hr (by omega) A γ8 c plan.length 0 (c + 1) γ (mixB b ws plan r p) (by omega) (by rw [mixB_len]; omega) (mixB_get hp') (by omega)
  rw [mixB_len] at q
  have q:=fun n m=>q n (m + 100) (by omega)
  have qc:=fun n=>kBoundsA (ws:=ws) (ff:=79) (sel:=Hrs.calm) (s:=(r,p)) n hb hp kHCalm (fun h w=>boolI_le _) hr (by simp only; omega) hwl hok
  have qg:=fun n=>kBoundsA (ws:=ws) (ff:=81) (sel:=Hrs.good) (s:=(r,p)) n hb hp kHGood (fun h w=>boolI_le _) hr (by simp only; omega) hwl hok
  have ec:bndU b ws plan (r,p) Hrs.calm ws.length = calmB b ws plan r p:=rfl
  have eg:bndU b ws plan (r,p) Hrs.good ws.length = goodB b ws plan r p:=rfl
  rw [ec] at qc
  rw [eg] at qg
  have hst:((mixB b ws plan r p).set p ⟨sunB b plan r plan.length,(0,0),(0,0)⟩).set p (bndP b ws plan r p) = mixB b ws plan r (p + 1):=by rw [List.set_set,mixB_set]
  have hl:=mixB_len b ws plan r p
  have hbp:encB (bndP b ws plan r p) = [i (sunB b plan r plan.length),i (calmB b ws plan r p).1,i (calmB b ws plan r p).2,i (goodB b ws plan r p).1,i (goodB b ws plan r p).2]:=rfl
  rw [← hst,List.map_set,hbp] at ih
  generalize mixB b ws plan r p = R0 at q ih hl ⊢
  generalize bndP b ws plan r p = BP at *
  generalize calmB b ws plan r p = C at *
  generalize goodB b ws plan r p = G at *
  generalize rowB b ws plan r = RR at ih ⊢
  generalize sunB b plan r plan.length = S at *
  generalize b.places.toNat = PP at hp' hl ih q ⊢
  have hpl:p < R0.length:=by omega
  have heg:((R0.set p ⟨S,(0,0),(0,0)⟩).map encB)[p]? = some [i S,i 0,i 0,i 0,i 0]:=by simp [encB,hpl]
  have hle:PP≤R0.length:=by omega
  refine ⟨c',h1,fun n k hk=>?_⟩
  obtain ⟨k,rfl⟩:∃ k',k = k' + 1:=⟨k - 1,by omega⟩
  have ih:=ih n k (by omega)
  rw [loopA_succ]
  generalize hRR:R0.set p ⟨S,(0,0),(0,0)⟩ = R1 at *
  have hl1:R1.length = PP:=by rw [← hRR]; simpa using hl
  have hpl1:p < R1.length:=by omega
  rw [List.getElem?_eq_getElem (by simpa using hpl1),Option.some.injEq] at heg
  simp only [cellsB,cellsWk,encR] at q qc qg ih ⊢
  simp at q ih
  simp [hp',hw,encI,encL,encP,q,qc,qg,hpl1,heg,put_eqX,apK,anyK,celK,placeS,placeL,placeOf,show Nat.beq 2 1 = false from rfl,hl1,show γ < c + 1 + 1 + 1 by omega,ih]
def bndsP (b:Beach) (ws plan:List (List Int)) (n:Nat):List (List Bnd):=(List.range n).map (rowB b ws plan)
theorem bndsP_succ (b:Beach) (ws plan:List (List Int)) (n:Nat):bndsP b ws plan (n + 1) = bndsP b ws plan n ++ [rowB b ws plan n]:=by
 simp [bndsP,List.range_succ]
def encBs (l:List Bnd):List V:=[.list false (l.map encB)]
theorem appBs {k:Nat} {x:List Bnd} (h:k≤10000):appOK Tryz.prog 48 k [encBs x] = true:=by
 rw [appOK_iff (by simp [encBs]) (by simp)]
 simp [maxLen,encBs]; omega
theorem lBds6 (hb:Valid b) (hp:PlanOf b plan) (hwl:ws.length = b.winds.length) (hok:RowsOK ws):∀ (d r c γ8:Nat),r + d = b.rows.toNat→1 < c→∃ fr c' γ',getF fr 8 = some (true,pv 87 γ' ((bndsP b ws plan b.rows.toNat).map encBs))∧∀ n k,d < k→loopA (execA Tryz.prog ann kn (n+2200) 90) lb19_6 (ann 90 (fstR lb19_6)) k ⟨c,[(2,true,.ptr 0 2 0 0),(3,true,.ptr 0 3 1 0),(6,true,.ref (cellsWk b ws)),(8,true,pv 87 γ8 ((bndsP b ws plan r).map encBs)),(24,true,i b.rows),(25,true,i r)],⟨[],(2,0,.box (cellsB b)) :: (3,1,.box [lli plan]) :: pl 87 γ8 48 ((bndsP b ws plan r).map encBs)⟩⟩ =
  some (.exit 0,⟨c',fr,⟨[],(2,0,.box (cellsB b)) :: (3,1,.box [lli plan]) :: pl 87 γ' 48 ((bndsP b ws plan b.rows.toNat).map encBs)⟩⟩)
 | 0,r,c,γ8,hd,hc=>by
  have hr:r = b.rows.toNat:=by omega
  have hro:=hb.ro
  have hr':b.rows = (r:Int):=by omega
  rw [← hr]
  refine ⟨?fr,c,γ8,?g1,fun n k hk=>?g2⟩
  case g2 =>
   obtain ⟨k,rfl⟩:∃ k',k = k' + 1:=⟨k - 1,by omega⟩
   rw [loopA_succ]
   simp [cellsB,hr']
   rfl
  case g1=>simp
 | d + 1,r,c,γ8,hd,hc=>by
  have hro:=hb.ro
  have hpc:=hb.pl
  have hw:=wrapS (k:=r) (by omega)
  have hr':(r:Int) < b.rows:=by omega
  obtain ⟨c1,h1,q⟩:=lBds10 (ws:=ws) hb hp hwl hok r hr' ((bndsP b ws plan r).map encBs) γ8 c b.places.toNat 0 (c + 1) (by omega) (by omega)
  have q:=fun n m=>q n (m + 100) (by omega)
  obtain ⟨fr,c',γ',e1,ih⟩:=lBds6 hb hp hwl hok d (r + 1) (c1 + 1) c1 (by omega) (by omega)
  have happ:=appBs (k:=(bndsP b ws plan r).length) (x:=rowB b ws plan r) (by simp [bndsP]; omega)
  rw [mixB_zero] at q
  rw [bndsP_succ] at ih
  refine ⟨fr,c',γ',e1,fun n k hk=>?_⟩
  obtain ⟨k,rfl⟩:∃ k',k = k' + 1:=⟨k - 1,by omega⟩
  have ih:=ih n k (by omega)
  generalize bndsP b ws plan b.rows.toNat = FF at ih ⊢
  have hRl:(rowB b ws plan r).length = b.places.toNat:=by simp [rowB]
  generalize rowB b ws plan r = RR at ih q happ hRl
  obtain ⟨PP,hPP⟩:∃ P:Nat,b.places = P:=⟨b.places.toNat,by omega⟩
  have hP2:b.places.toNat = PP:=by omega
  rw [hP2] at q hRl
  subst hRl
  rw [loopA_succ]
  simp only [cellsB,cellsWk,hPP] at q ih ⊢
  simp [encBs] at ih q happ
  simp [encB] at q
  have m1:RR.length * 40≤140737488355328:=by omega
  have m2:RR.length≤maxLen:=by simp [maxLen]; omega
  have htl:∀ o,toldL 0 30 o (pl 87 γ8 48 ((bndsP b ws plan r).map encBs)) = pl 87 γ8 48 ((bndsP b ws plan r).map encBs):=fun o=>toldL_pl3 (by decide) _ _ _ (by simp [encBs,encB])
  simp [hr',hw,encBs,q,ih,happ,m1,m2,htl]
def lvB (b:Beach) (plan:List (List Int)):Level:=[(2,0,.box (cellsB b)),(3,1,.box [lli plan])]
theorem fineBounds (hb:Valid b) (plan:List (List Int)):FineOK b (lvB b plan) 77 [.ptr 0 2 0 0,.ptr 0 3 1 0] 2 (isPlanB b plan):=by
 intro n d fr
 rw [cf_open Tryz.func77 b77 rfl (by simp)]
 have q:=fun n=>kIsPlan n b hb plan
 generalize isPlanB b plan = z at q ⊢
 simp only [cellsB,lvB] at q ⊢
 simp [c77,argFr,q,encI,encL,encP]
def boundsV (b:Beach) (plan:List (List Int)):List (List Bnd) × Int:=if faultB b = 0 then (if isPlanB b plan = true then (if (dfsW b [] b.winds []).isEmpty = true then ([],11) else (bndsP b (windsA b) plan b.rows.toNat,0)) else ([],2)) else ([],faultB b)
theorem kBoundsV (n:Nat) (b:Beach) (h40:∀ l ∈ b.winds,l.length≤40) (plan:List (List Int)):callK Tryz.prog kn (execA Tryz.prog ann kn (n+6200)) 19 [.agg (cellsB b),lli plan] = some (.tup [sl ((boundsV b plan).1.map encBs),i (boundsV b plan).2]):=by
 rw [callK_of rfl,call0_eq Tryz.func19 b19 rfl (by simp [cellsB,encI,encL,encP])]
 have hB:∀ t:St,1≤t.up.length→shutLv t (lvB b plan) = lvB b plan:=fun t ht=>by simp [lvB,cellsB,encI,encL,encP]
 have slnil:sl ([]:List (List V)) = .nil:=rfl
 unfold boundsV
 by_cases h:faultB b = 0
 ·have hb:=valid_of h
  have hf:=fineBounds hb plan
  rw [if_pos h]
  cases hz:isPlanB b plan with
  | false =>
   rw [hz] at hf
   rw [if_neg (by decide)]
   have q:=fun n=>kAskedPoor (ff:=77) (cap:=[.ptr 0 2 0 0,.ptr 0 3 1 0]) hb hB (by simp) (by simp) 2 17 hf [(16,true,.fn 77 [] [.ptr 0 2 0 0,.ptr 0 3 1 0]),(15,true,.agg (cellsB b)),(2,true,.ptr 0 2 0 0),(3,true,.ptr 0 3 1 0)] (n + 190)
   simp only [cellsB,lvB,List.map_nil,slnil] at q ⊢
   simp [c19,argFr,encI,encL,encP,q]
  | true =>
   rw [hz] at hf
   rw [if_pos rfl]
   by_cases hT:dfsW b [] b.winds [] = []
   ·obtain ⟨c',hc',q⟩:=kAskedNone (ff:=77) (cap:=[.ptr 0 2 0 0,.ptr 0 3 1 0]) hb hB (by simp) (by simp) 2 17 hf hT [(16,true,.fn 77 [] [.ptr 0 2 0 0,.ptr 0 3 1 0]),(15,true,.agg (cellsB b)),(2,true,.ptr 0 2 0 0),(3,true,.ptr 0 3 1 0)]
    rw [if_pos (by rw [hT]; rfl)]
    have q:=fun n=>q (n + 190)
    simp only [cellsB,lvB,List.map_nil,slnil] at q ⊢
    simp [c19,argFr,encI,encL,encP,q]
   ·obtain ⟨c',hc',q⟩:=kAskedOK (ff:=77) (cap:=[.ptr 0 2 0 0,.ptr 0 3 1 0]) hb hB (by simp) (by simp) 2 17 hf hT [(16,true,.fn 77 [] [.ptr 0 2 0 0,.ptr 0 3 1 0]),(15,true,.agg (cellsB b)),(2,true,.ptr 0 2 0 0),(3,true,.ptr 0 3 1 0)]
    rw [if_neg (by simpa using hT)]
    have q:=fun n=>q (n + 190)
    have hro:=hb.ro
    obtain ⟨fr,c2,γ',e1,q6⟩:=lBds6 (ws:=windsA b) hb (plan_of hz) (askW_len _ _) (windsA_ok hb) b.rows.toNat 0 c' 0 (by omega) (by omega)
    have q6:=fun n k=>q6 n (k + 100) (by omega)
    have e0:bndsP b (windsA b) plan 0 = []:=rfl
    rw [e0] at q6
    generalize bndsP b (windsA b) plan b.rows.toNat = FF at *
    simp only [cellsB,cellsWk,lvB,List.cons_append,List.nil_append] at q q6 ⊢
    simp at q q6
    simp [c19,argFr,encI,encL,encP,q,q6,e1]
    simp [encBs,encB]
 ·rw [if_neg h]
  have q:=fun n=>kAskedFault (ff:=77) (cap:=[.ptr 0 2 0 0,.ptr 0 3 1 0]) h40 hB (by simp) h 2 17 [(16,true,.fn 77 [] [.ptr 0 2 0 0,.ptr 0 3 1 0]),(15,true,.agg (cellsB b)),(2,true,.ptr 0 2 0 0),(3,true,.ptr 0 3 1 0)] (n + 190)
  simp only [cellsB,lvB,List.map_nil,slnil] at q ⊢
  simp [c19,argFr,encI,encL,encP,q,h]
end
end Go.Proofs.Tryz.Op
