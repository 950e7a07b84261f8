/- Contracts: Min of two, minimum, wider, facing, turn, the directions as an array. No condition. -/
import Derived.Test.YtkemmiljbaneoaaGreatW3
import Derived.Test.YtkemmiljbaneoaaGreatI1
import Derived.Test.YtkemmiljbaneoaaGreatFz
import Derived.Test.YtkemmiljbaneoaaGreatH1
import Derived.Test.YtkemmiljbaneoaaGreatW1
import Derived.Test.YtkemmiljbaneoaaGreatW4
open Go Go.Pg Go.Proofs Go.Wind
namespace Go.Proofs.Tryz.Op
set_option maxRecDepth 100000
set_option linter.unusedSimpArgs false
theorem min_lt (a b:Int):(if b < a then b else a) = min a b:=by split <;> omega
theorem max_lt (a b:Int):(if a < b then b else a) = max a b:=by split <;> omega
theorem kMin2 (n:Nat) (a b:Int):callK Tryz.prog kn (execA Tryz.prog ann kn (n+100)) 147 [.list false [[i a],[i b]]] = some (i (min a b)):=by
 rw [callK_of rfl,call0_eq Tryz.func147 b147 rfl (by simp)]
 have hw:IntKind.i64.wrap (1 + 1) = 2:=by decide
 simp [c147,argFr]
 rw [loopA_succ]
 simp [hw,min_lt]
 rw [loopA_succ]
 simp
theorem kMinimum (n:Nat) (a b:Int):callK Tryz.prog kn (execA Tryz.prog ann kn (n+200)) 140 [.list false [[i a],[i b]]] = some (i (min a b)):=by
 rw [callK_of rfl,call0_eq Tryz.func140 b140 rfl (by simp)]
 have q:=fun n=>kMin2 n a b
 simp [c140,argFr,q]
def encR (r:Int × Int):List V:=[i r.1,i r.2]
theorem kWider (n:Nat) (r:Int × Int) (x:Int):callK Tryz.prog kn (execA Tryz.prog ann kn (n+300)) 119 [.agg (encR r),i x] = some (.agg (encR (min r.1 x,max r.2 x))):=by
 rw [callK_of rfl,call0_eq Tryz.func119 b119 rfl (by simp [encR])]
 have q:=fun n=>kMinimum n r.1 x
 simp [c119,argFr,encR,q,max_lt]
def encF (g:List Int):List V:=g.map fun x=>i x
theorem fac_sl0 (a b c:V):evSlice Tryz.prog ⟨[],[(2,0,.box [a,b,c])]⟩ 149 (.ptr 0 2 0 0) none none none = some (.vtl 0 2 0 0 3):=by kernel_rfl
theorem fac_slice (r:Operand→Option V) (hr:r (tq 2) = some (.ptr 0 2 0 0)) (a b c:V):evP Tryz.prog (mkO (.slice 149 (tq 2) none none none)) ⟨[],[(2,0,.box [a,b,c])]⟩ r = some (.vtl 0 2 0 0 3):=by
 have e:evP Tryz.prog (mkO (.slice 149 (tq 2) none none none)) ⟨[],[(2,0,.box [a,b,c])]⟩ r = (r (tq 2)).bind fun p=>evSlice Tryz.prog ⟨[],[(2,0,.box [a,b,c])]⟩ 149 p none none none:=by
  simp only [evP,mkO]
  cases r (tq 2) <;> rfl
 rw [e,hr]
 exact fac_sl0 a b c
theorem fac_copy0 (E:XE) (fr:Fr):stepK Tryz.prog E (some 5) (.cpy [tq 3,tq 4] [22,22]) ⟨1,(4,true,.list false []) :: (3,true,.vtl 0 2 0 0 3) :: fr,⟨[],[(2,0,.box [i 0,i 0,i 0])]⟩⟩ =
  some ⟨1,(5,true,i 0) :: (4,true,.list false []) :: (3,true,.vtl 0 2 0 0 3) :: fr,⟨[],[(2,0,.box [i 0,i 0,i 0]),(2,0,.box [i 0,i 0,i 0])]⟩⟩:=by kernel_rfl
theorem fac_copy1 (E:XE) (a:Int) (fr:Fr):stepK Tryz.prog E (some 5) (.cpy [tq 3,tq 4] [22,22]) ⟨1,(4,true,.list false [[i a]]) :: (3,true,.vtl 0 2 0 0 3) :: fr,⟨[],[(2,0,.box [i 0,i 0,i 0])]⟩⟩ =
  some ⟨1,(5,true,i 1) :: (4,true,.list false [[i a]]) :: (3,true,.vtl 0 2 0 0 3) :: fr,⟨[],[(2,0,.box [i a,i 0,i 0]),(2,0,.box [i 0,i 0,i 0])]⟩⟩:=by kernel_rfl
theorem fac_copy2 (E:XE) (a b:Int) (fr:Fr):stepK Tryz.prog E (some 5) (.cpy [tq 3,tq 4] [22,22]) ⟨1,(4,true,.list false [[i a],[i b]]) :: (3,true,.vtl 0 2 0 0 3) :: fr,⟨[],[(2,0,.box [i 0,i 0,i 0])]⟩⟩ =
  some ⟨1,(5,true,i 2) :: (4,true,.list false [[i a],[i b]]) :: (3,true,.vtl 0 2 0 0 3) :: fr,⟨[],[(2,0,.box [i a,i b,i 0]),(2,0,.box [i 0,i 0,i 0])]⟩⟩:=by kernel_rfl
theorem fac_copy3 (E:XE) (a b c:Int) (fr:Fr):stepK Tryz.prog E (some 5) (.cpy [tq 3,tq 4] [22,22]) ⟨1,(4,true,.list false [[i a],[i b],[i c]]) :: (3,true,.vtl 0 2 0 0 3) :: fr,⟨[],[(2,0,.box [i 0,i 0,i 0])]⟩⟩ =
  some ⟨1,(5,true,i 3) :: (4,true,.list false [[i a],[i b],[i c]]) :: (3,true,.vtl 0 2 0 0 3) :: fr,⟨[],[(2,0,.box [i a,i b,i c]),(2,0,.box [i 0,i 0,i 0])]⟩⟩:=by kernel_rfl
theorem fac_copy (E:XE) (l:List Int) (hl:l.length≤3) (fr:Fr):stepK Tryz.prog E (some 5) (.cpy [tq 3,tq 4] [22,22]) ⟨1,(4,true,li l) :: (3,true,.vtl 0 2 0 0 3) :: fr,⟨[],[(2,0,.box [i 0,i 0,i 0])]⟩⟩ =
  some ⟨1,(5,true,i (l.length:Int)) :: (4,true,li l) :: (3,true,.vtl 0 2 0 0 3) :: fr,⟨[],[(2,0,.box (encF (padF l))),(2,0,.box [i 0,i 0,i 0])]⟩⟩:=by
 match l,hl with
 | [],_=>exact fac_copy0 E fr
 | [a],_=>exact fac_copy1 E a fr
 | [a,b],_=>exact fac_copy2 E a b fr
 | [a,b,c],_=>exact fac_copy3 E a b c fr
theorem three {α:Type} (l:List α) (h:l.length = 3):∃ x y z,l = [x,y,z]:=by
 match l,h with
 | [x,y,z],_=>exact ⟨x,y,z,rfl⟩
theorem kFacing (n:Nat) (l:List Int) (hl:l.length≤3):callK Tryz.prog kn (execA Tryz.prog ann kn (n+100)) 95 [li l] = some (.agg (encF (padF l))):=by
 rw [callK_of rfl,call0_eq Tryz.func95 b95 rfl (by simp [encI])]
 have q:=fun E=>fac_copy E l hl [(0,true,li l),(2,true,.ptr 0 2 0 0)]
 obtain ⟨x,y,z,hF⟩:=three (padF l) (by simp [padF]; omega)
 rw [hF] at q ⊢
 simp [c95,argFr,fac_slice,q,encF]
end Go.Proofs.Tryz.Op
/- The contract of good: how many places are good in an hour, at least and at most. No condition but a valid beach. -/
open Go Go.Pg Go.Proofs Go.Wind
namespace Go.Proofs.Tryz.Op
set_option maxRecDepth 100000
set_option linter.unusedSimpArgs false
@[simp] theorem evNil_ref (cs:List V):evNil (.ref cs) = some (.ref cs):=rfl
theorem put_eqX (L:Level) (k γ:Nat) (r:Res):Level.put L k γ r = (k,γ,r) :: L:=rfl
@[simp] theorem sr_wider:sliceR Tryz.prog 119 = false:=by kernel_rfl
def cellsWk (b:Beach) (ws:List (List Int)):List V:=[i b.last,i b.rows,i b.places,i b.reach,li b.face,li b.sun,lli b.winds,.list false (b.breaks.map encP),.list false (b.notes.map encP),lli ws,.any,.any]
section
variable {b:Beach} {ws:List (List Int)} {g0 g1 g2:Int} {h:Nat}
theorem lGood10 (hb:Valid b) (hh:h < b.sun.length) (w:Int) (hw:0≤w∧w≤3) (xs:List Int) (j:Nat) (r:Nat) (hr:(r:Int) < b.rows) (lo hi:Int) (m:Int) (hm:0≤m∧m≤1000) (c:Nat) (hg:∀ r,r < b.rows.toNat→0≤dirF [g0,g1,g2] r∧dirF [g0,g1,g2] r≤3):∀ (d p:Nat),p + d = b.places.toNat→∀ n k,d < k→loopA (execA Tryz.prog ann kn (n+1400) 76) lb122_10 (ann 76 (fstR lb122_10)) k ⟨c,[(0,true,.ref (cellsWk b ws)),(1,true,i h),(5,true,.ptr 0 5 0 0),(6,true,.ptr 0 6 1 0),(7,true,.ptr 0 7 2 0),(9,true,i w),(10,true,i (m + sumU (fun p=>goodI b (r,p) h (dirF [g0,g1,g2] r) w) p)),(11,true,i r),(31,true,li xs),(32,true,i xs.length),(33,true,i j),(41,true,i b.rows),(42,true,i r),(49,true,i b.places),(50,true,i p)],⟨[],[(5,0,.box [i g0,i g1,i g2]),(6,1,.box [i 0,i 0]),(7,2,.box [i lo,i hi])]⟩⟩ =
  some (.exit 4,⟨c,[(51,true,.bool false),(0,true,.ref (cellsWk b ws)),(1,true,i h),(5,true,.ptr 0 5 0 0),(6,true,.ptr 0 6 1 0),(7,true,.ptr 0 7 2 0),(9,true,i w),(10,true,i (m + sumU (fun p=>goodI b (r,p) h (dirF [g0,g1,g2] r) w) b.places.toNat)),(11,true,i r),(31,true,li xs),(32,true,i xs.length),(33,true,i j),(41,true,i b.rows),(42,true,i r),(49,true,i b.places),(50,true,i b.places)],⟨[],[(5,0,.box [i g0,i g1,i g2]),(6,1,.box [i 0,i 0]),(7,2,.box [i lo,i hi])]⟩⟩)
 | 0,p,hd,n,k + 1,hk=>by
  have hpl:=hb.pl
  have:p = b.places.toNat:=by omega
  subst this
  have hc:((b.places.toNat:Nat):Int) = b.places:=by omega
  rw [loopA_succ]
  simp [hc]
 | d + 1,p,hd,n,k + 1,hk=>by
  have hpl:=hb.pl
  have hro:=hb.ro
  have hp:(p:Int) < b.places:=by omega
  have hwp:=wrapS (k:=p) (by omega)
  have ih:=lGood10 hb hh w hw xs j r hr lo hi m hm c hg d (p + 1) (by omega) n k (by omega)
  have hr3:r < 3:=by omega
  have q:=fun n=>kOf n b hb (r,p) (by simp only; omega) h hh (dirF [g0,g1,g2] r) w hw
  have hs:=sumU_le (n:=p) (c:=1) fun p _=>boolI_le (decide (b.sun.getD h 0 = dirF [g0,g1,g2] r) && calmP b (r,p) (dirF [g0,g1,g2] r) w)
  have hg1:=boolI_le (decide (b.sun.getD h 0 = dirF [g0,g1,g2] r) && calmP b (r,p) (dirF [g0,g1,g2] r) w)
  have e1:sumU (fun p=>goodI b (r,p) h (dirF [g0,g1,g2] r) w) (p + 1) = sumU (fun p=>goodI b (r,p) h (dirF [g0,g1,g2] r) w) p + goodI b (r,p) h (dirF [g0,g1,g2] r) w:=rfl
  have hwt:IntKind.i64.wrap (m + sumU (fun p=>goodI b (r,p) h (dirF [g0,g1,g2] r) w) p + goodI b (r,p) h (dirF [g0,g1,g2] r) w) = m + sumU (fun p=>goodI b (r,p) h (dirF [g0,g1,g2] r) w) p + goodI b (r,p) h (dirF [g0,g1,g2] r) w:=wrap_i64 (by unfold goodI; omega) (by unfold goodI; omega)
  rw [e1,← Int.add_assoc] at ih
  have e2:encH (ofB b (r,p) h (dirF [g0,g1,g2] r) w) = [i (ofB b (r,p) h (dirF [g0,g1,g2] r) w).sun,i (ofB b (r,p) h (dirF [g0,g1,g2] r) w).calm,i (goodI b (r,p) h (dirF [g0,g1,g2] r) w)]:=rfl
  rw [e2] at q
  generalize sumU (fun p=>goodI b (r,p) h (dirF [g0,g1,g2] r) w) b.places.toNat = TT at ih ⊢
  generalize sumU (fun p=>goodI b (r,p) h (dirF [g0,g1,g2] r) w) p = S at ih hwt ⊢
  generalize (ofB b (r,p) h (dirF [g0,g1,g2] r) w).sun = y1 at q
  generalize (ofB b (r,p) h (dirF [g0,g1,g2] r) w).calm = y2 at q
  generalize goodI b (r,p) h (dirF [g0,g1,g2] r) w = y3 at q ih hwt
  rw [loopA_succ]
  simp only [cellsB,encP,cellsWk] at q ih ⊢
  have h3:r = 0∨r = 1∨r = 2:=by omega
  rcases h3 with rfl | rfl | rfl
  all_goals
   simp [dirF] at q ih
   simp [hp,hwp,hwt,encI,encL,encP,q,ih,hr3]
def manyR (b:Beach) (h:Nat) (f:Nat→Int) (w:Int) (r:Nat):Int:=sumU (fun r=>sumU (fun p=>goodI b (r,p) h (f r) w) b.places.toNat) r
theorem manyR_le (hb:Valid b) (h:Nat) (f:Nat→Int) (w:Int) {r:Nat} (hr:(r:Int)≤b.rows):0≤manyR b h f w r∧manyR b h f w r≤15:=by
 have hpl:=hb.pl
 have hro:=hb.ro
 have h1:=sumU_le (n:=r) (c:=5) (f:=fun r=>sumU (fun p=>goodI b (r,p) h (f r) w) b.places.toNat) fun r _=>by
  have:=sumU_le (n:=b.places.toNat) (c:=1) fun p _=>boolI_le (decide (b.sun.getD h 0 = f r) && calmP b (r,p) (f r) w)
  simp only [goodI]
  omega
 unfold manyR
 omega
theorem lGood7 (hb:Valid b) (hh:h < b.sun.length) (w:Int) (hw:0≤w∧w≤3) (xs:List Int) (j:Nat) (lo hi:Int) (c:Nat) (hg:∀ r,r < b.rows.toNat→0≤dirF [g0,g1,g2] r∧dirF [g0,g1,g2] r≤3):∀ (d r:Nat),r + d = b.rows.toNat→∀ n k,d < k→loopA (execA Tryz.prog ann kn (n+1500) 76) lb122_7 (ann 76 (fstR lb122_7)) k ⟨c,[(0,true,.ref (cellsWk b ws)),(1,true,i h),(5,true,.ptr 0 5 0 0),(6,true,.ptr 0 6 1 0),(7,true,.ptr 0 7 2 0),(9,true,i w),(10,true,i (manyR b h (dirF [g0,g1,g2]) w r)),(31,true,li xs),(32,true,i xs.length),(33,true,i j),(41,true,i b.rows),(42,true,i r)],⟨[],[(5,0,.box [i g0,i g1,i g2]),(6,1,.box [i 0,i 0]),(7,2,.box [i lo,i hi])]⟩⟩ =
  some (.exit 2,⟨c,[(43,true,.bool false),(0,true,.ref (cellsWk b ws)),(1,true,i h),(5,true,.ptr 0 5 0 0),(6,true,.ptr 0 6 1 0),(7,true,.ptr 0 7 2 0),(9,true,i w),(10,true,i (goodN b h (dirF [g0,g1,g2]) w)),(31,true,li xs),(32,true,i xs.length),(33,true,i j),(41,true,i b.rows),(42,true,i b.rows)],⟨[],[(5,0,.box [i g0,i g1,i g2]),(6,1,.box [i 0,i 0]),(7,2,.box [i lo,i hi])]⟩⟩)
 | 0,r,hd,n,k + 1,hk=>by
  have hro:=hb.ro
  have:r = b.rows.toNat:=by omega
  subst this
  have hc:((b.rows.toNat:Nat):Int) = b.rows:=by omega
  have e:manyR b h (dirF [g0,g1,g2]) w b.rows.toNat = goodN b h (dirF [g0,g1,g2]) w:=rfl
  rw [loopA_succ,e]
  simp [hc]
 | d + 1,r,hd,n,k + 1,hk=>by
  have hpl:=hb.pl
  have hro:=hb.ro
  have hr:(r:Int) < b.rows:=by omega
  have hwr:=wrapS (k:=r) (by omega)
  have ih:=lGood7 hb hh w hw xs j lo hi c hg d (r + 1) (by omega) n k (by omega)
  have hm:=manyR_le hb h (dirF [g0,g1,g2]) w (r:=r) (by omega)
  have q:=lGood10 (ws:=ws) hb hh w hw xs j r hr lo hi (manyR b h (dirF [g0,g1,g2]) w r) (by omega) c hg b.places.toNat 0 (by omega)
  have e0:sumU (fun p=>goodI b (r,p) h (dirF [g0,g1,g2] r) w) 0 = 0:=rfl
  have e1:manyR b h (dirF [g0,g1,g2]) w (r + 1) = manyR b h (dirF [g0,g1,g2]) w r + sumU (fun p=>goodI b (r,p) h (dirF [g0,g1,g2] r) w) b.places.toNat:=rfl
  rw [e0,Int.add_zero] at q
  rw [e1] at ih
  have q:=fun n k=>q n (k + 200) (by omega)
  generalize sumU (fun p=>goodI b (r,p) h (dirF [g0,g1,g2] r) w) b.places.toNat = S at q ih
  generalize manyR b h (dirF [g0,g1,g2]) w r = M at q ih ⊢
  generalize goodN b h (dirF [g0,g1,g2]) w = G at ih ⊢
  rw [loopA_succ]
  simp only [cellsWk] at q ih ⊢
  simp at q ih
  simp [hr,hwr,q,ih]
theorem lGood3 (hb:Valid b) (hh:h < b.sun.length) (xs:List Int) (hx:∀ x ∈ xs,0≤x∧x≤3) (hxl:xs.length≤100) (z:Int × Int) (hg:∀ r,r < b.rows.toNat→0≤dirF [g0,g1,g2] r∧dirF [g0,g1,g2] r≤3):∀ (d j c:Nat),j + d = xs.length→3≤c→∃ c',3≤c'∧∀ n k,d < k→loopA (execA Tryz.prog ann kn (n+1800) 76) lb122_3 (ann 76 (fstR lb122_3)) k ⟨c,[(0,true,.ref (cellsWk b ws)),(1,true,i h),(5,true,.ptr 0 5 0 0),(6,true,.ptr 0 6 1 0),(7,true,.ptr 0 7 2 0),(31,true,li xs),(32,true,i xs.length),(33,true,i j)],⟨[],[(5,0,.box [i g0,i g1,i g2]),(6,1,.box [i 0,i 0]),(7,2,.box (encR (rngF z ((xs.take j).map (goodN b h (dirF [g0,g1,g2]))))))]⟩⟩ =
  some (.exit 0,⟨c',[(34,true,.bool false),(0,true,.ref (cellsWk b ws)),(1,true,i h),(5,true,.ptr 0 5 0 0),(6,true,.ptr 0 6 1 0),(7,true,.ptr 0 7 2 0),(31,true,li xs),(32,true,i xs.length),(33,true,i xs.length)],⟨[],[(5,0,.box [i g0,i g1,i g2]),(6,1,.box [i 0,i 0]),(7,2,.box (encR (rngF z (xs.map (goodN b h (dirF [g0,g1,g2]))))))]⟩⟩)
 | 0,j,c,hd,hc=>by
  have:j = xs.length:=by omega
  subst this
  refine ⟨c,hc,fun n k hk=>?_⟩
  obtain ⟨k,rfl⟩:∃ k',k = k' + 1:=⟨k - 1,by omega⟩
  rw [loopA_succ,List.take_length]
  simp [encR]
 | d + 1,j,c,hd,hc=>by
  have hpl:=hb.pl
  have hro:=hb.ro
  have hj:j < xs.length:=by omega
  have hwj:=wrapS (k:=j) (by omega)
  obtain ⟨c',hc',ih⟩:=lGood3 hb hh xs hx hxl z hg d (j + 1) (c + 1) (by omega) (by omega)
  refine ⟨c',hc',fun n k hk=>?_⟩
  obtain ⟨k,rfl⟩:∃ k',k = k' + 1:=⟨k - 1,by omega⟩
  have ih:=ih n k (by omega)
  have hxj:=hx _ (List.getElem_mem hj)
  have e1:(xs.take (j + 1)).map (goodN b h (dirF [g0,g1,g2])) = (xs.take j).map (goodN b h (dirF [g0,g1,g2])) ++ [goodN b h (dirF [g0,g1,g2]) xs[j]]:=by
   rw [List.take_succ_eq_append_getElem hj,List.map_append,List.map_cons,List.map_nil]
  have e2:rngF z ((xs.take (j + 1)).map (goodN b h (dirF [g0,g1,g2]))) = (min (rngF z ((xs.take j).map (goodN b h (dirF [g0,g1,g2])))).1 (goodN b h (dirF [g0,g1,g2]) xs[j]),max (rngF z ((xs.take j).map (goodN b h (dirF [g0,g1,g2])))).2 (goodN b h (dirF [g0,g1,g2]) xs[j])):=by
   rw [e1]
   unfold rngF
   rw [List.foldl_append]
   rfl
  rw [e2] at ih
  have qw:=fun n=>kWider n (rngF z ((xs.take j).map (goodN b h (dirF [g0,g1,g2])))) (goodN b h (dirF [g0,g1,g2]) xs[j])
  have q:=lGood7 (ws:=ws) hb hh xs[j] hxj xs j (rngF z ((xs.take j).map (goodN b h (dirF [g0,g1,g2])))).1 (rngF z ((xs.take j).map (goodN b h (dirF [g0,g1,g2])))).2 c hg b.rows.toNat 0 (by omega)
  have e0:manyR b h (dirF [g0,g1,g2]) xs[j] 0 = 0:=rfl
  rw [e0] at q
  have q:=fun n k=>q n (k + 200) (by omega)
  have hc2:2 < c + 1:=by omega
  generalize rngF z (xs.map (goodN b h (dirF [g0,g1,g2]))) = RR at ih ⊢
  generalize rngF z ((xs.take j).map (goodN b h (dirF [g0,g1,g2]))) = R at q ih qw ⊢
  generalize goodN b h (dirF [g0,g1,g2]) xs[j] = G at q ih qw
  rw [loopA_succ]
  simp only [cellsWk,encR] at q ih qw ⊢
  simp at q ih
  simp [hj,hwj,q,qw,encI,hc2,put_eqX,ih]
theorem kGood (n:Nat) (hb:Valid b) (hh:h < b.sun.length) (hhw:h < ws.length) (hx:∀ x ∈ ws.getD h [],0≤x∧x≤3) (hxl:(ws.getD h []).length≤100) (hg:∀ r,r < b.rows.toNat→0≤dirF [g0,g1,g2] r∧dirF [g0,g1,g2] r≤3):callK Tryz.prog kn (execA Tryz.prog ann kn (n+2000)) 122 [.ref (cellsWk b ws),i h,.agg (encF [g0,g1,g2])] = some (.agg (encR (goodR b ws h (dirF [g0,g1,g2])))):=by
 rw [callK_of rfl,call0_eq Tryz.func122 b122 rfl (by simp [cellsWk,encI,encL,encP,encF])]
 have hpl:=hb.pl
 have hro:=hb.ro
 have h15:b.rows * b.places≤3 * 5:=Int.mul_le_mul (by omega) (by omega) (by omega) (by omega)
 have h0:0≤b.rows * b.places:=Int.mul_nonneg (by omega) (by omega)
 have hw:IntKind.i64.wrap (b.rows * b.places) = b.rows * b.places:=wrap_i64 (by omega) (by omega)
 obtain ⟨c',hc',q⟩:=lGood3 (ws:=ws) hb hh (ws.getD h []) hx hxl (b.rows * b.places,0) hg (ws.getD h []).length 0 3 (by omega) (Nat.le_refl _)
 have e:goodR b ws h (dirF [g0,g1,g2]) = rngF (b.rows * b.places,0) ((ws.getD h []).map (goodN b h (dirF [g0,g1,g2]))):=rfl
 rw [← e] at q
 have q:=fun n k=>q n (k + 150) (by omega)
 generalize goodR b ws h (dirF [g0,g1,g2]) = R at q ⊢
 have hgd:ws.getD h [] = ws[h]:=by rw [List.getD_eq_getElem?_getD,List.getElem?_eq_getElem hhw]; rfl
 rw [hgd] at q
 rw [List.take_zero,List.map_nil] at q
 simp only [cellsWk,encR,encF,rngF,List.foldl_nil] at q ⊢
 simp at q
 simp [c122,argFr,encI,encL,encP,hw,hhw,q,show 1 < c' by omega]
end
end Go.Proofs.Tryz.Op
/- The contract of total and Total. No condition. -/
open Go Go.Pg Go.Proofs Go.Wind
namespace Go.Proofs.Tryz.Op
set_option maxRecDepth 100000
set_option linter.unusedSimpArgs false
@[simp] theorem sr_good:sliceR Tryz.prog 122 = false:=by kernel_rfl
@[simp] theorem sr_total:sliceR Tryz.prog 92 = false:=by kernel_rfl
section
variable {b:Beach} {ws plan:List (List Int)}
def totU (b:Beach) (ws plan:List (List Int)) (n:Nat):Int × Int:=(sumU (fun h=>(goodR b ws h (planAt plan h)).1) n,sumU (fun h=>(goodR b ws h (planAt plan h)).2) n)
theorem mem_dfs (b:Beach) (t:List Int):t ∈ dfsW b [] b.winds [] ↔ isTruthB b t = true:=by
 rw [dfsW_eq]
 simp only [List.nil_append,List.map_id',List.mem_filter,mem_prods,isTruthB,Bool.and_eq_true,List.all_eq_true]
 refine and_congr_right fun _=>?_
 rw [rightGo_nil,List.all_eq_true]
theorem windsA_ok (hb:Valid b):RowsOK (windsA b):=RowsOK.ask _ _ fun t ht=>listed_nums hb (by
 have:=(mem_dfs b t).1 ht
 simp only [isTruthB,Bool.and_eq_true] at this
 exact this.1)
theorem asked_dfs (hb:Valid b) (hT:dfsW b [] b.winds [] ≠ []):Asked b (windsA b):=asked_of hb (mem_dfs b) hT
def lvP (b:Beach) (plan:List (List Int)) (r:Res):Level:=[(2,0,.box (cellsB b)),(3,1,.box [lli plan]),(4,2,r)]
def totalV (b:Beach) (plan:List (List Int)):(Int × Int) × Int:=if faultB b = 0 then (if isPlanB b plan = true then (if (dfsW b [] b.winds []).isEmpty = true then ((0,0),11) else (totalP b (windsA b) plan,0)) else ((0,0),2)) else ((0,0),faultB b)
end
end Go.Proofs.Tryz.Op
/- Ranges and bounds are equal if their numbers are; what Total gives of a valid beach. No condition. -/
open Go Go.Pg Go.Proofs Go.Wind
namespace Go.Proofs.Tryz.Op
set_option maxRecDepth 100000
set_option linter.unusedSimpArgs false
theorem okI_small {n:Int} (h:-1000≤n∧n≤1000):okI n:=⟨by omega,by omega⟩
@[simp] theorem clI (f:Nat) (l:List Int):(l.all ((fun e=>e.all (closedV (f + 1))) ∘ encI)) = true:=by simp [encI]
@[simp] theorem clP (f:Nat) (l:List (Int × Int)):(l.all ((fun e=>e.all (closedV (f + 1))) ∘ encP)) = true:=by simp [encP]
@[simp] theorem clL (f:Nat) (l:List (List Int)):(l.all ((fun e=>e.all (closedV (f + 2))) ∘ encL)) = true:=by simp [encL,encI]
/-! what many laws need -/
theorem slX {α:Type} {f:α→List V} {l:List α} (h:l ≠ []):sl (l.map f) = .list false (l.map f):=by
 cases l with
 | nil=>exact absurd rfl h
 | cons x l=>rfl
theorem kAwakeX (n:Nat) (d:Option Tmp) (st:XS):ca2 (envA Tryz.prog ann kn n) d st 15 [] = valI d st (some (.bool true)):=by
 rw [ca2_closed d rfl]; rfl
theorem kBeachX (n:Nat) {b:Beach} (hb:Valid b):callK Tryz.prog kn (execA Tryz.prog ann kn (n+600)) 17 [.agg (cellsB b)] = some (.agg (cellsR b)):=by
 have h1:=hb.la
 have h2:=hb.ro
 have h3:=hb.br
 have h4:=hb.no
 have h5:=hb.fa
 have h6:=hb.su
 have h7:=hb.hl
 exact kBeach n b (by omega) (by omega) (by omega) (fun l hl=>by have:=hb.wl l hl; omega) (by omega) (by omega)
theorem kListsX (n:Nat) {b:Beach} (hb:Valid b) {p:List (List Int)} (hp:PlanOf b p):callK Tryz.prog kn (execA Tryz.prog ann kn (n+400)) 18 [lli p] = some (lli p):=by
 have hla:=hb.la
 have hro:=hb.ro
 have hpl:=hp.len
 refine kLists n p (by omega) fun l hl=>?_
 obtain ⟨h,hh,rfl⟩:=List.getElem_of_mem hl
 have:=hp.row h hh
 rw [List.getD_eq_getElem?_getD,List.getElem?_eq_getElem hh] at this
 simp at this
 omega
theorem row_inX {b:Beach} {plan:List (List Int)} (hb:Valid b) (hp:PlanOf b plan) {h:Nat} (hh:h < plan.length):plan[h].length≤3∧(plan[h].length:Int) = b.rows∧∀ x ∈ plan[h],0≤x∧x≤3:=by
 have hro:=hb.ro
 have e:plan.getD h [] = plan[h]:=by rw [List.getD_eq_getElem?_getD,List.getElem?_eq_getElem hh]; rfl
 have hr:=hp.row h hh
 have hd:=hp.dir h
 rw [e] at hr
 refine ⟨by omega,hr,fun x hx=>?_⟩
 obtain ⟨r,h1,rfl⟩:=List.getElem_of_mem hx
 have:=hd r hh (by rw [e]; exact h1)
 unfold planAt at this
 rw [e,List.getD_eq_getElem?_getD,List.getElem?_eq_getElem h1] at this
 exact inI_iff.1 this
end Go.Proofs.Tryz.Op
/- Contracts: turn, turned, the work of a plan. No condition but a valid beach. -/
open Go Go.Pg Go.Proofs Go.Wind
namespace Go.Proofs.Tryz.Op
set_option maxRecDepth 100000
set_option linter.unusedSimpArgs false
@[simp] theorem sr_facing:sliceR Tryz.prog 95 = false:=by kernel_rfl
theorem kTurn (n:Nat) (x y:Int) (hx:0≤x∧x≤3) (hy:0≤y∧y≤3):callK Tryz.prog kn (execA Tryz.prog ann kn (n+300)) 126 [i x,i y] = some (i (turnI x y)):=by
 rw [callK_of rfl,call0_eq Tryz.func126 b126 rfl (by simp)]
 have w1:IntKind.i64.wrap (x - y) = x - y:=wrap_i64 (by omega) (by omega)
 have w2:IntKind.i64.wrap (y - x) = y - x:=wrap_i64 (by omega) (by omega)
 have w3:IntKind.i64.wrap (4 - max (x - y) (y - x)) = 4 - max (x - y) (y - x):=wrap_i64 (by omega) (by omega)
 have q:=fun n=>kMinimum n (max (x - y) (y - x)) (4 - max (x - y) (y - x))
 unfold turnI
 simp [c126,argFr,w1,w2,max_lt,w3,q]
section
variable {b:Beach} {x0 x1 x2 y0 y1 y2:Int}
theorem lTurned2 (hb:Valid b) (hx:∀ r,r < b.rows.toNat→0≤dirF [x0,x1,x2] r∧dirF [x0,x1,x2] r≤3) (hy:∀ r,r < b.rows.toNat→0≤dirF [y0,y1,y2] r∧dirF [y0,y1,y2] r≤3):∀ (d r:Nat),r + d = b.rows.toNat→∀ n k,d < k→loopA (execA Tryz.prog ann kn (n+500) 27) lb98_2 (ann 27 (fstR lb98_2)) k ⟨3,[(3,true,.ptr 0 3 0 0),(4,true,.ptr 0 4 1 0),(5,true,.ptr 0 5 2 0),(6,true,i (sumU (fun r=>turnI (dirF [x0,x1,x2] r) (dirF [y0,y1,y2] r) * b.places) r)),(9,true,i b.rows),(10,true,i r)],⟨[],[(3,0,.box (cellsB b)),(4,1,.box [i x0,i x1,i x2]),(5,2,.box [i y0,i y1,i y2])]⟩⟩ =
  some (.exit 0,⟨3,[(11,true,.bool false),(3,true,.ptr 0 3 0 0),(4,true,.ptr 0 4 1 0),(5,true,.ptr 0 5 2 0),(6,true,i (turnedP b (dirF [x0,x1,x2]) (dirF [y0,y1,y2]))),(9,true,i b.rows),(10,true,i b.rows)],⟨[],[(3,0,.box (cellsB b)),(4,1,.box [i x0,i x1,i x2]),(5,2,.box [i y0,i y1,i y2])]⟩⟩)
 | 0,r,hd,n,k + 1,hk=>by
  have hro:=hb.ro
  have:r = b.rows.toNat:=by omega
  subst this
  have hc:((b.rows.toNat:Nat):Int) = b.rows:=by omega
  rw [loopA_succ]
  simp [cellsB,hc,turnedP]
 | d + 1,r,hd,n,k + 1,hk=>by
  have hro:=hb.ro
  have hpl:=hb.pl
  have hr:(r:Int) < b.rows:=by omega
  have hwr:=wrapS (k:=r) (by omega)
  have ih:=lTurned2 hb hx hy d (r + 1) (by omega) n k (by omega)
  have q:=fun n=>kTurn n (dirF [x0,x1,x2] r) (dirF [y0,y1,y2] r) (hx r (by omega)) (hy r (by omega))
  have ht:=turn_le (hx r (by omega)) (hy r (by omega))
  have hs:=sumU_le (n:=r) (c:=10) (f:=fun r=>turnI (dirF [x0,x1,x2] r) (dirF [y0,y1,y2] r) * b.places) fun j hj=>by
   have h:=turn_le (hx j (by omega)) (hy j (by omega))
   have h1:0 * b.places≤turnI (dirF [x0,x1,x2] j) (dirF [y0,y1,y2] j) * b.places:=Int.mul_le_mul_of_nonneg_right h.1 (by omega)
   have h2:turnI (dirF [x0,x1,x2] j) (dirF [y0,y1,y2] j) * b.places≤2 * b.places:=Int.mul_le_mul_of_nonneg_right h.2 (by omega)
   omega
  have e1:sumU (fun r=>turnI (dirF [x0,x1,x2] r) (dirF [y0,y1,y2] r) * b.places) (r + 1) = sumU (fun r=>turnI (dirF [x0,x1,x2] r) (dirF [y0,y1,y2] r) * b.places) r + turnI (dirF [x0,x1,x2] r) (dirF [y0,y1,y2] r) * b.places:=rfl
  rw [e1] at ih
  generalize sumU (fun r=>turnI (dirF [x0,x1,x2] r) (dirF [y0,y1,y2] r) * b.places) r = S at ih hs ⊢
  generalize turnedP b (dirF [x0,x1,x2]) (dirF [y0,y1,y2]) = TT at ih ⊢
  generalize turnI (dirF [x0,x1,x2] r) (dirF [y0,y1,y2] r) = t at ih q ht
  have m1:0 * b.places≤t * b.places:=Int.mul_le_mul_of_nonneg_right ht.1 (by omega)
  have m2:t * b.places≤2 * b.places:=Int.mul_le_mul_of_nonneg_right ht.2 (by omega)
  have w1:IntKind.i64.wrap (t * b.places) = t * b.places:=wrap_i64 (by omega) (by omega)
  have w2:IntKind.i64.wrap (S + t * b.places) = S + t * b.places:=wrap_i64 (by omega) (by omega)
  rw [loopA_succ]
  simp only [cellsB] at ih ⊢
  have h3:r = 0∨r = 1∨r = 2:=by omega
  rcases h3 with rfl | rfl | rfl
  all_goals
   simp [dirF] at q ih hr hwr
   simp [hr,hwr,q,w1,w2,ih]
theorem kTurned (n:Nat) (hb:Valid b) (hx:∀ r,r < b.rows.toNat→0≤dirF [x0,x1,x2] r∧dirF [x0,x1,x2] r≤3) (hy:∀ r,r < b.rows.toNat→0≤dirF [y0,y1,y2] r∧dirF [y0,y1,y2] r≤3):callK Tryz.prog kn (execA Tryz.prog ann kn (n+700)) 98 [.agg (cellsB b),.agg [i x0,i x1,i x2],.agg [i y0,i y1,i y2]] = some (i (turnedP b (dirF [x0,x1,x2]) (dirF [y0,y1,y2]))):=by
 rw [callK_of rfl,call0_eq Tryz.func98 b98 rfl (by simp [cellsB,encI,encL,encP])]
 have hro:=hb.ro
 have q:=fun n k=>lTurned2 hb hx hy b.rows.toNat 0 (by omega) n (k + 150) (by omega)
 have e0:sumU (fun r=>turnI (dirF [x0,x1,x2] r) (dirF [y0,y1,y2] r) * b.places) 0 = 0:=rfl
 rw [e0] at q
 generalize turnedP b (dirF [x0,x1,x2]) (dirF [y0,y1,y2]) = TT at q ⊢
 simp only [cellsB] at q ⊢
 simp at q
 simp [c98,argFr,encI,encL,encP,q]
end
section
variable {b:Beach} {plan:List (List Int)}
def faceG (b:Beach) (plan:List (List Int)) (h:Nat):List Int:=if h = 0 then padF b.face else padF (plan.getD (h - 1) [])
theorem pad_in {l:List Int} (hl:l.length≤3) (hd:∀ x ∈ l,0≤x∧x≤3):∃ x y z,padF l = [x,y,z]∧(0≤x∧x≤3)∧(0≤y∧y≤3)∧(0≤z∧z≤3):=by
 obtain ⟨x,y,z,h⟩:=three (padF l) (by simp [padF]; omega)
 have key:∀ w ∈ padF l,0≤w∧w≤3:=fun w hw=>by
  rcases List.mem_append.1 hw with hw | hw
  ·exact hd w hw
  ·rw [List.eq_of_mem_replicate hw]; omega
 rw [h] at key
 exact ⟨x,y,z,h,key x (by simp),key y (by simp),key z (by simp)⟩
theorem face_in (hb:Valid b):b.face.length≤3∧∀ x ∈ b.face,0≤x∧x≤3:=by
 have hro:=hb.ro
 have hfa:=hb.fa
 refine ⟨by omega,fun x hx=>?_⟩
 have:=hb.fd
 simp only [dirsB,List.all_eq_true] at this
 exact inI_iff.1 (this x hx)
def workV (b:Beach) (plan:List (List Int)):Int × Int:=if faultB b = 0 then (if isPlanB b plan = true then (workP b plan,0) else (0,2)) else (0,faultB b)
end
end Go.Proofs.Tryz.Op
