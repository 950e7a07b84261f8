/- Contracts: within, direction, sun, winds, hour, spot, note. No condition. -/
import Derived.Test.YtkemmiljbaneoaaGreatW1
import Derived.Test.YtkemmiljbaneoaaGreatW2
import Derived.Test.YtkemmiljbaneoaaGreatFz
import Derived.Test.YtkemmiljbaneoaaGreatL
open Go Go.Pg Go.Proofs Go.Wind
namespace Go.Wind
theorem anyS_hist {σ α:Type} (p:σ→α→Bool) (nx:σ→α→σ):∀ (l:List α) (s:σ) (h:List σ),(anyS (fun (s:σ × List σ) x=>p s.1 x) (fun s x=>(nx s.1 x,s.1 :: s.2)) (s,h) l).1 = (anyS p nx s l).1
 | [],_,_=>rfl
 | x :: l,s,h=>by
  simp only [anyS]
  cases p s x with
  | true=>rfl
  | false=>exact anyS_hist p nx l (nx s x) (s :: h)
theorem inc_any:∀ (l:List Int) (s:Int),(anyS (fun s x=>!inI x (s + 1) 3) (fun _ x=>x) s l).1 = !((match l with | []=>true | x :: _=>decide (s < x)) && (l.all (fun n=>decide (n≤3)) && incB l))
 | [],s=>rfl
 | [x],s=>by
  simp only [anyS,inI,incB,List.all_cons,List.all_nil]
  have e:decide (s + 1≤x) = decide (s < x):=by congr 1
  rw [e]
  cases decide (s < x) <;> cases decide (x≤3) <;> rfl
 | x :: y :: l,s=>by
  have ih:=inc_any (y :: l) x
  have e:decide (s + 1≤x) = decide (s < x):=by congr 1
  rw [anyS]
  cases h:inI x (s + 1) 3 with
  | false =>
   unfold inI at h
   rw [e] at h
   simp only [Bool.not_false,cond_true,incB,List.all_cons]
   revert h
   generalize List.all l (fun n=>decide (n≤3)) = a
   generalize incB (y :: l) = b
   cases decide (s < x) <;> cases decide (x≤3) <;> cases decide (x < y) <;> cases decide (y≤3) <;> cases a <;> cases b <;> simp
  | true =>
  unfold inI at h
  rw [e] at h
  simp only [Bool.not_true,cond_false,ih,incB,List.all_cons]
  revert h
  generalize List.all l (fun n=>decide (n≤3)) = a
  generalize incB (y :: l) = b
  cases decide (s < x) <;> cases decide (x≤3) <;> cases decide (x < y) <;> cases decide (y≤3) <;> cases a <;> cases b <;> simp
theorem inc_low:∀ (l:List Int) (s:Int),(match l with | []=>true | x :: _=>decide (s < x)) = true→incB l = true→l.all (fun n=>decide (s < n)) = true
 | [],_,_,_=>rfl
 | [x],s,h,_=>by simpa using h
 | x :: y :: l,s,h,h2=>by
  simp only [incB,Bool.and_eq_true,decide_eq_true_eq] at h h2
  have:=inc_low (y :: l) s (by simp; omega) h2.2
  rw [List.all_cons,this]
  simp [h]
theorem winds_any (l:List Int):(!(anyS (fun s x=>!inI x (s + 1) 3) (fun _ x=>x) (-1) l).1) = (dirsB l 0 && incB l):=by
 rw [inc_any,Bool.not_not]
 have hd:dirsB l 0 = (l.all (fun n=>decide (-1 < n)) && l.all (fun n=>decide (n≤3))):=by
  unfold dirsB inI
  induction l with
  | nil=>rfl
  | cons x l ih =>
   simp only [List.all_cons,ih]
   have e:decide ((0:Int)≤x) = decide (-1 < x):=by congr 1
   rw [e]
   cases decide (-1 < x) <;> cases decide (x≤3) <;> simp
 rw [hd]
 cases h:incB l with
 | false=>simp
 | true =>
  cases h2:(match l with | []=>true | x :: _=>decide (-1 < x)) with
  | true=>rw [inc_low l (-1) h2 h]; simp
  | false =>
   cases l with
   | nil=>cases h2
   | cons x l=>simp only at h2; simp [h2]
end Go.Wind
namespace Go.Proofs.Tryz.Op
set_option maxRecDepth 100000
set_option linter.unusedSimpArgs false
theorem kWithin (n:Nat) (x lo hi:Int):callK Tryz.prog kn (execA Tryz.prog ann kn (n+50)) 94 [i x,i lo,i hi] = some (.bool (inI x lo hi)):=by
 rw [callK_of rfl,call0_eq Tryz.func94 b94 rfl rfl]
 unfold inI
 generalize e1:decide (lo≤x) = b1
 simp [e1,c94,argFr]
 cases b1 <;> simp
theorem kDirection (n:Nat) (x:Int):callK Tryz.prog kn (execA Tryz.prog ann kn (n+100)) 110 [i x] = some (.bool (inI x 0 3)):=by
 rw [callK_of rfl,call0_eq Tryz.func110 b110 rfl rfl]
 have q:=fun n=>kWithin n x 0 3
 simp [c110,argFr,q]
theorem kSun (n:Nat) (x:Int):callK Tryz.prog kn (execA Tryz.prog ann kn (n+100)) 111 [i x] = some (.bool (inI x (-1) 3)):=by
 rw [callK_of rfl,call0_eq Tryz.func111 b111 rfl rfl]
 have q:=fun n=>kWithin n x (-1) 3
 simp [c111,argFr,q]
def hist (s:Int × List Int):Level:=(3,0,.box [i s.1]) :: s.2.map fun x=>(3,0,.box [i x])
theorem hist_shut (t:St) (s:Int × List Int):shutLv t (hist s) = hist s:=by
 unfold hist
 rw [shutLv_cons]
 have:∀ h:List Int,shutLv t (h.map fun x=>(3,0,Res.box [i x])) = h.map fun x=>(3,0,Res.box [i x]):=by
  intro h
  induction h with
  | nil=>rfl
  | cons x h ih=>rw [List.map_cons,shutLv_cons,ih]; simp
 rw [this]
 simp
theorem hist_get (s:Int × List Int):Level.get (hist s) 3 = some (0,.box [i s.1]):=rfl
theorem hist_put (s:Int × List Int) (x:Int):Level.put (hist s) 3 0 (.box [i x]) = hist (x,s.1 :: s.2):=rfl
theorem kWinds (n:Nat) (l:List Int) (hl:l.length≤40):callK Tryz.prog kn (execA Tryz.prog ann kn (n+600)) 113 [li l] = some (.bool (windOk l)):=by
 rw [callK_of rfl,call0_eq Tryz.func113 b113 rfl (by simp [encI])]
 obtain ⟨c',h1,q⟩:=kAllOI (n + 196) 100 0 (fun _=>[]) hist (by simp) (fun s=>-1≤s.1∧s.1≤3) 132 [.ptr 0 3 0 0] (by simp) (by simp) (fun s x=>inI x (s.1 + 1) 3) (fun s x=>(x,s.1 :: s.2)) l hl (by simp [hist_shut]) (by
   intro t γ ht
   obtain ⟨up,loc⟩:=t
   have h0:¬ 0 = up.length:=by simp at ht; omega
   simp [h0]) 1 (by
   intro n c1 fr s x hc hs hx
   refine ⟨fun h=>?_,c1,Nat.le_refl _,?_⟩
   ·have:=inI_iff.1 h; omega
   ·have q:=fun n=>kWithin n x (s.1 + 1) 3
    have hw:IntKind.i64.wrap (s.1 + 1) = s.1 + 1:=wrap_i64 (by omega) (by omega)
    simp only [List.nil_append,List.cons_append]
    rw [cf_open Tryz.func132 b132 rfl (by simp)]
    have hc':0 < c1:=by omega
    simp [c132,argFr,q,hw,hc',hist_get,hist_put,hist_shut]) 10 [(9,true,.fn 132 [] [.ptr 0 3 0 0]),(8,true,li l),(7,true,.bool (decide (0 < (l.length:Int)))),(6,true,.bool (decide (0 < (l.length:Int)))),(5,true,i l.length),(4,true,li l),(0,true,li l),(3,true,.ptr 0 3 0 0)] (-1,[]) (by simp)
 rw [anyS_hist (fun s x=>!inI x (s + 1) 3) (fun _ x=>x),winds_any] at q
 have e:n + 196 + 100 + 300 = n + 596:=by omega
 rw [e] at q
 unfold windOk
 cases l with
 | nil=>simp [c113,argFr]
 | cons x l =>
  have hp:(0:Int) < ((x :: l).length:Int):=by simp
  simp only [hp,decide_true] at q
  generalize anyS (fun (s:Int × List Int) x=>!inI x (s.1 + 1) 3) _ (-1,[]) (x :: l) = A at q
  have he:(x :: l).isEmpty = false:=rfl
  rw [he]
  have hp2:0 < (x :: l).length:=by simp
  generalize x :: l = L at *
  simp [hist] at q
  simp [c113,argFr,hp2,q]
theorem kHour (n:Nat) (b:Beach) (x:Int):callK Tryz.prog kn (execA Tryz.prog ann kn (n+100)) 89 [.agg (cellsB b),i x] = some (.bool (inI x 0 b.last)):=by
 rw [callK_of rfl,call0_eq Tryz.func89 b89 rfl (by simp [cellsB,encI,encL,encP])]
 have q:=fun n=>kWithin n x 0 b.last
 simp [c89,argFr,cellsB,q]
theorem kSpot (n:Nat) (b:Beach) (s:Int × Int) (h1:0≤b.rows∧b.rows≤1000) (h2:0≤b.places∧b.places≤1000):callK Tryz.prog kn (execA Tryz.prog ann kn (n+100)) 88 [.agg (cellsB b),.agg (encP s)] = some (.bool (isSpotB b s)):=by
 rw [callK_of rfl,call0_eq Tryz.func88 b88 rfl (by simp [cellsB,encI,encL,encP])]
 have w1:IntKind.i64.wrap (b.rows - 1) = b.rows - 1:=wrap_i64 (by omega) (by omega)
 have w2:IntKind.i64.wrap (b.places - 1) = b.places - 1:=wrap_i64 (by omega) (by omega)
 have q1:=fun n=>kWithin n s.1 0 (b.rows - 1)
 have q2:=fun n=>kWithin n s.2 0 (b.places - 1)
 unfold isSpotB
 generalize inI s.1 0 (b.rows - 1) = z at q1 ⊢
 cases z <;> simp [c88,argFr,cellsB,encP,q1,q2,w1,w2]
theorem kNote (n:Nat) (b:Beach) (x:Int × Int):callK Tryz.prog kn (execA Tryz.prog ann kn (n+200)) 108 [.agg (cellsB b),.agg (encP x)] = some (.bool (noteOk b x)):=by
 rw [callK_of rfl,call0_eq Tryz.func108 b108 rfl (by simp [cellsB,encI,encL,encP])]
 have q1:=fun n=>kHour n b x.1
 have q2:=fun n=>kDirection n x.2
 unfold noteOk
 generalize inI x.1 0 b.last = z at q1 ⊢
 simp only [cellsB] at q1 ⊢
 cases z <;> simp [c108,argFr,encI,encL,encP,q1,q2]
end Go.Proofs.Tryz.Op
/- Contract: CheckBeach. No condition but lists of at most 40. -/
open Go Go.Pg Go.Proofs Go.Wind
namespace Go.Proofs.Tryz.Op
set_option maxRecDepth 100000
set_option linter.unusedSimpArgs false
set_option maxHeartbeats 2000000 in
theorem kCheck (n:Nat) (b:Beach) (h40:∀ l ∈ b.winds,l.length≤40):callK Tryz.prog kn (execA Tryz.prog ann kn (n+1500)) 63 [.agg (cellsB b)] = some (i (faultB b)):=by
 rw [callK_of rfl,call0_eq Tryz.func63 b63 rfl (by simp [cellsB,encI,encL,encP])]
 unfold faultB
 by_cases g1:(decide (4 < b.last) || decide (3 < b.rows) || decide (5 < b.places) || decide (4 < b.breaks.length) || decide (5 < b.notes.length)) = true
 ·rw [if_pos g1]
  have e4:decide ((4:Int) < (b.breaks.length:Int)) = decide (4 < b.breaks.length):=by congr 1; exact propext (by omega)
  have e5:decide ((5:Int) < (b.notes.length:Int)) = decide (5 < b.notes.length):=by congr 1; exact propext (by omega)
  generalize h1:decide (4 < b.last) = z1 at g1
  generalize h2:decide (3 < b.rows) = z2 at g1
  generalize h3:decide (5 < b.places) = z3 at g1
  generalize h4:decide (4 < b.breaks.length) = z4 at g1 e4
  generalize h5:decide (5 < b.notes.length) = z5 at g1 e5
  cases z1
  ·cases z2
   ·cases z3
    ·cases z4
     ·cases z5
      ·cases g1
      ·simp [c63,argFr,cellsB,encI,encL,encP,h1,h2,h3,e4,e5]
     ·simp [c63,argFr,cellsB,encI,encL,encP,h1,h2,h3,e4]
    ·simp [c63,argFr,cellsB,encI,encL,encP,h1,h2,h3]
   ·simp [c63,argFr,cellsB,encI,encL,encP,h1,h2]
  ·simp [c63,argFr,cellsB,encI,encL,encP,h1]
 ·rw [if_neg g1]
  simp only [Bool.or_eq_true,decide_eq_true_eq,not_or] at g1
  obtain ⟨⟨⟨⟨g1,g2⟩,g3⟩,g4⟩,g5⟩:=g1
  have e4:¬ ((4:Int) < (b.breaks.length:Int)):=by omega
  have e5:¬ ((5:Int) < (b.notes.length:Int)):=by omega
  by_cases a1:b.last < 0
  ·simp [c63,argFr,cellsB,encI,encL,encP,g1,g2,g3,e4,e5,a1]
  by_cases a2:b.rows < 1
  ·simp [c63,argFr,cellsB,encI,encL,encP,g1,g2,g3,e4,e5,a1,a2]
  by_cases a3:b.places < 1
  ·simp [c63,argFr,cellsB,encI,encL,encP,g1,g2,g3,e4,e5,a1,a2,a3]
  have qr:=fun n=>kWithin n b.reach 0 4
  have hwl:IntKind.i64.wrap (b.last + 1) = b.last + 1:=wrap_i64 (by omega) (by omega)
  cases a4:inI b.reach 0 4 with
  | false =>
   rw [a4] at qr
   simp [c63,argFr,cellsB,encI,encL,encP,g1,g2,g3,e4,e5,a1,a2,a3,qr]
  | true =>
  rw [a4] at qr
  by_cases a5:(b.face.length:Int) = b.rows
  ·by_cases a6:(b.sun.length:Int) = b.last + 1
   ·by_cases a7:(b.winds.length:Int) = b.last + 1
    ·have qf:=fun n=>kAllI n 100 110 (fun x=>inI x 0 3) b.face (by omega) (fun n x _=>kDirection n x)
     have qs:=fun n=>kAllI n 100 111 (fun x=>inI x (-1) 3) b.sun (by omega) (fun n x _=>kSun n x)
     have qw:=fun n=>kAllL n 600 113 windOk b.winds (by omega) (fun n x hx=>kWinds n x (h40 x hx))
     have qb:=fun n=>kAllS n 100 b 88 (isSpotB b) b.breaks (by omega) (fun n x _=>kSpot n b x (by omega) (by omega))
     have qn:=fun n=>kAllN n 200 b 108 (noteOk b) b.notes (by omega) (fun n x _=>kNote n b x)
     change ∀ n,_ = some (V.bool (dirsB b.face 0)) at qf
     change ∀ n,_ = some (V.bool (dirsB b.sun (-1))) at qs
     simp only [Nat.add_assoc,Nat.reduceAdd,cellsB] at qf qs qw qb qn ⊢
     generalize dirsB b.face 0 = z1 at qf ⊢
     generalize dirsB b.sun (-1) = z2 at qs ⊢
     generalize b.winds.all windOk = z3 at qw ⊢
     generalize b.breaks.all (isSpotB b) = z4 at qb ⊢
     generalize b.notes.all (noteOk b) = z5 at qn ⊢
     have a5':=a5
     cases z1 with
     | false=>simp [c63,argFr,encI,encL,encP,g1,g2,g3,e4,e5,a1,a2,a3,qr,a5,a6,a7,hwl,qf]
     | true =>
     cases z2 with
     | false=>simp [c63,argFr,encI,encL,encP,g1,g2,g3,e4,e5,a1,a2,a3,qr,a5,a6,a7,hwl,qf,qs]
     | true =>
     cases z3 with
     | false=>simp [c63,argFr,encI,encL,encP,g1,g2,g3,e4,e5,a1,a2,a3,qr,a5,a6,a7,hwl,qf,qs,qw]
     | true =>
     cases z4 with
     | false=>simp [c63,argFr,encI,encL,encP,g1,g2,g3,e4,e5,a1,a2,a3,qr,a5,a6,a7,hwl,qf,qs,qw,qb]
     | true =>
     cases z5 <;> simp [c63,argFr,encI,encL,encP,g1,g2,g3,e4,e5,a1,a2,a3,qr,a5,a6,a7,hwl,qf,qs,qw,qb,qn]
    ·simp [c63,argFr,cellsB,encI,encL,encP,g1,g2,g3,e4,e5,a1,a2,a3,qr,a5,a6,a7,hwl]
   ·simp [c63,argFr,cellsB,encI,encL,encP,g1,g2,g3,e4,e5,a1,a2,a3,qr,a5,a6,hwl]
  ·simp [c63,argFr,cellsB,encI,encL,encP,g1,g2,g3,e4,e5,a1,a2,a3,qr,a5]
end Go.Proofs.Tryz.Op
/- Contracts: isPlan, opposite, broken, calm, of. No condition but a valid beach. -/
open Go Go.Pg Go.Proofs Go.Wind
namespace Go.Proofs.Tryz.Op
set_option maxRecDepth 100000
set_option linter.unusedSimpArgs false
theorem kIsPlan (n:Nat) (b:Beach) (hb:Valid b) (plan:List (List Int)):callK Tryz.prog kn (execA Tryz.prog ann kn (n+1000)) 74 [.agg (cellsB b),lli plan] = some (.bool (isPlanB b plan)):=by
 rw [callK_of rfl,call0_eq Tryz.func74 b74 rfl (by simp [cellsB,encI,encL,encP])]
 have hla:=hb.la
 have hro:=hb.ro
 have hwl:IntKind.i64.wrap (b.last + 1) = b.last + 1:=wrap_i64 (by omega) (by omega)
 unfold isPlanB
 by_cases hlen:(plan.length:Int) = b.last + 1
 ·obtain ⟨c',h1,q⟩:=kAllOL (n + 197) 500 0 (fun _=>[]) (fun _=>[(2,0,.box (cellsB b))]) (by simp) (fun _=>True) 116 [.ptr 0 2 0 0] (by simp) (by simp) (fun (_:Unit) l=>decide ((l.length:Int) = b.rows) && dirsB l 0) (fun _ _=>()) plan (by omega) (by simp [cellsB,encI,encL,encP]) (by
    intro t γ ht
    obtain ⟨up,loc⟩:=t
    have h0:¬ 0 = up.length:=by simp at ht; omega
    simp [h0]) 1 (by
    intro n c1 fr s l hc hs hx
    refine ⟨fun h=>trivial,c1,Nat.le_refl _,?_⟩
    simp only [List.nil_append,List.cons_append]
    rw [cf_open Tryz.func116 b116 rfl (by simp)]
    by_cases hl:(l.length:Int) = b.rows
    ·have q:=fun n=>kAllI n 100 110 (fun x=>inI x 0 3) l (by omega) (fun n x _=>kDirection n x)
     change ∀ n,_ = some (V.bool (dirsB l 0)) at q
     simp only [Nat.add_assoc,Nat.reduceAdd] at q
     simp [c116,argFr,cellsB,encI,encL,encP,hl,q]
    ·simp [c116,argFr,cellsB,encI,encL,encP,hl]) 14 [(13,true,.fn 116 [] [.ptr 0 2 0 0]),(12,true,lli plan),(11,true,.bool true),(10,true,.bool true),(9,true,i (b.last + 1)),(8,true,i b.last),(7,true,.ptr 0 2 0 0),(6,true,i (b.last + 1)),(5,true,lli plan),(0,true,.agg (cellsB b)),(1,true,lli plan),(2,true,.ptr 0 2 0 0)] () trivial
  rw [anyS_unit] at q
  have hn:=any_not (fun l:List Int=>decide ((l.length:Int) = b.rows) && dirsB l 0) plan
  have e:n + 197 + 500 + 300 = n + 997:=by omega
  rw [e] at q
  simp only [hn] at q
  generalize plan.all (fun l=>decide ((l.length:Int) = b.rows) && dirsB l 0) = z at q ⊢
  simp only [cellsB] at q ⊢
  simp [c74,argFr,hwl,hlen,q]
 ·simp [c74,argFr,cellsB,hwl,hlen]
theorem kOpposite (n:Nat) (w:Int) (h0:0≤w) (h1:w≤100):callK Tryz.prog kn (execA Tryz.prog ann kn (n+100)) 120 [i w] = some (i ((w + 2) % 4)):=by
 rw [callK_of rfl,call0_eq Tryz.func120 b120 rfl rfl]
 have hw:IntKind.i64.wrap (w + 2) = w + 2:=wrap_i64 (by omega) (by omega)
 have hm:(w + 2).tmod 4 = (w + 2) % 4:=Int.tmod_eq_emod_of_nonneg (by omega)
 simp [c120,argFr,hw,hm]
set_option maxHeartbeats 1000000 in
theorem kBroken (n:Nat) (b:Beach) (hb:∀ k ∈ b.breaks,0≤k.1∧k.1≤100∧0≤k.2∧k.2≤100) (hl:b.breaks.length≤40) (s:Int × Int) (hs:0≤s.1∧s.1≤100∧0≤s.2∧s.2≤100) (w:Int) (hw:0≤w∧w≤3) :
  callK Tryz.prog kn (execA Tryz.prog ann kn (n+600)) 121 [.agg (cellsB b),.agg (encP s),i w] = some (.bool (brokenP b s w)):=by
 rw [callK_of rfl,call0_eq Tryz.func121 b121 rfl (by simp [cellsB,encI,encL,encP])]
 obtain ⟨c',h1,q⟩:=kAnyS (n + 197) 200 (fun _=>[]) (fun _=>[(3,0,.box (cellsB b)),(4,1,.box (encP s)),(5,2,.box [i w])]) (fun _=>True) 141 [.ptr 0 5 2 0,.ptr 0 4 1 0,.ptr 0 3 0 0] (by simp) (by simp) (fun (_:Unit) k=>inI (farP s k w) 1 b.reach) (fun _ _=>()) b.breaks 0 (by
   intro n c1 fr u k hc _ hk
   obtain ⟨hk1,hk2,hk3,hk4⟩:=hb k hk
   obtain ⟨hs1,hs2,hs3,hs4⟩:=hs
   refine ⟨fun _=>trivial,c1 + 1,by omega,?_⟩
   have q:=fun n x=>kWithin n x 1 b.reach
   have w1:IntKind.i64.wrap (s.1 - k.1) = s.1 - k.1:=wrap_i64 (by omega) (by omega)
   have w2:IntKind.i64.wrap (k.1 - s.1) = k.1 - s.1:=wrap_i64 (by omega) (by omega)
   have w3:IntKind.i64.wrap (s.2 - k.2) = s.2 - k.2:=wrap_i64 (by omega) (by omega)
   have w4:IntKind.i64.wrap (k.2 - s.2) = k.2 - s.2:=wrap_i64 (by omega) (by omega)
   simp only [List.nil_append,List.cons_append]
   rw [cf_open Tryz.func141 b141 rfl (by simp)]
   unfold farP
   have hw4:w = 0∨w = 1∨w = 2∨w = 3:=by omega
   rcases hw4 with rfl | rfl | rfl | rfl
   ·by_cases h:k.2 = s.2 <;> simp [c141,argFr,cellsB,encI,encL,encP,h,q,w1,w2,w3,w4]
   ·by_cases h:k.1 = s.1 <;> simp [c141,argFr,cellsB,encI,encL,encP,h,q,w1,w2,w3,w4]
   ·by_cases h:k.2 = s.2 <;> simp [c141,argFr,cellsB,encI,encL,encP,h,q,w1,w2,w3,w4]
   ·by_cases h:k.1 = s.1 <;> simp [c141,argFr,cellsB,encI,encL,encP,h,q,w1,w2,w3,w4]) hl (by simp [cellsB,encI,encL,encP]) 3 10 [(9,true,.fn 141 [] [.ptr 0 5 2 0,.ptr 0 4 1 0,.ptr 0 3 0 0]),(8,true,.list false (b.breaks.map encP)),(7,true,.ptr 0 3 0 7),(3,true,.ptr 0 3 0 0),(4,true,.ptr 0 4 1 0),(5,true,.ptr 0 5 2 0)] () (Nat.zero_le _) trivial
 rw [anyS_unit] at q
 have e:n + 197 + 200 + 200 = n + 597:=by omega
 rw [e] at q
 unfold brokenP
 generalize b.breaks.any (fun k=>inI (farP s k w) 1 b.reach) = z at q ⊢
 simp only [cellsB,encP] at q ⊢
 simp [c121,argFr,q]
theorem Valid.br' {b:Beach} (hb:Valid b):∀ k ∈ b.breaks,0≤k.1∧k.1≤100∧0≤k.2∧k.2≤100:=fun k hk=>by
 have:=List.all_eq_true.1 hb.bo k hk
 simp only [isSpotB,Bool.and_eq_true,inI_iff] at this
 have:=hb.ro
 have:=hb.pl
 omega
theorem kCalm (n:Nat) (b:Beach) (hb:Valid b) (s:Int × Int) (hs:0≤s.1∧s.1≤100∧0≤s.2∧s.2≤100) (f w:Int) (hw:0≤w∧w≤3) :
  callK Tryz.prog kn (execA Tryz.prog ann kn (n+800)) 90 [.agg (cellsB b),.agg (encP s),i f,i w] = some (.bool (calmP b s f w)):=by
 rw [callK_of rfl,call0_eq Tryz.func90 b90 rfl (by simp [cellsB,encI,encL,encP])]
 have q1:=fun n=>kOpposite n w hw.1 (by omega)
 have q2:=fun n=>kBroken n b (Valid.br' hb) (by have:=hb.br; omega) s hs w hw
 unfold calmP
 simp only [cellsB,encP] at q2 ⊢
 by_cases h:f = (w + 2) % 4 <;> simp [c90,argFr,encI,encL,encP,q1,q2,h]
def encH (h:Hrs):List V:=[i h.sun,i h.calm,i h.good]
def ofB (b:Beach) (s:Int × Int) (h:Nat) (f w:Int):Hrs :=
 let lit:=decide (b.sun.getD h 0 = f)
 let calm:=calmP b s f w
 ⟨if lit = true then 1 else 0,if calm = true then 1 else 0,if (lit && calm) = true then 1 else 0⟩
theorem kOf (n:Nat) (b:Beach) (hb:Valid b) (s:Int × Int) (hs:0≤s.1∧s.1≤100∧0≤s.2∧s.2≤100) (h:Nat) (hh:h < b.sun.length) (f w:Int) (hw:0≤w∧w≤3) :
  callK Tryz.prog kn (execA Tryz.prog ann kn (n+1000)) 78 [.agg (cellsB b),.agg (encP s),i h,i f,i w] = some (.agg (encH (ofB b s h f w))):=by
 rw [callK_of rfl,call0_eq Tryz.func78 b78 rfl (by simp [cellsB,encI,encL,encP])]
 have q2:=fun n=>kCalm n b hb s hs f w hw
 unfold ofB
 have hx:b.sun.getD h 0 = b.sun[h]:=by
  rw [List.getD_eq_getElem?_getD,List.getElem?_eq_getElem hh]; rfl
 rw [hx]
 simp only [cellsB,encP] at q2 ⊢
 generalize calmP b s f w = z at q2 ⊢
 generalize e1:decide (b.sun[h] = f) = z1
 have w0:IntKind.i64.wrap 0 = 0:=by decide
 have w1:IntKind.i64.wrap 1 = 1:=by decide
 cases z1 <;> cases z <;> simp [c78,argFr,encI,encL,encP,encH,q2,hh,e1,w0,w1]
end Go.Proofs.Tryz.Op
/- Structs of numbers are equal if the numbers are. No condition but numbers of 64 bits. -/
open Go Go.Pg Go.Proofs Go.Wind
namespace Go.Proofs.Tryz.Op
set_option maxRecDepth 100000
set_option linter.unusedSimpArgs false
def okI (n:Int):Prop:=-9223372036854775808≤n∧n < 9223372036854775808
theorem wfI {n:Int} (h:okI n):(Lit.int .i64 n).wf = true:=by
 obtain ⟨h1,h2⟩:=h
 simp only [Lit.wf,Bool.and_eq_true,decide_eq_true_eq]
 exact ⟨h1,by have:IntKind.i64.max = 9223372036854775807:=rfl; omega⟩
theorem k3I {n:Int} (h:(Lit.int .i64 n).wf = true):Program.keyLits Tryz.prog 15 3 [.int .i64 n] = some [.int .i64 n]:=by
 unfold Program.keyLits
 simp [Tryz.underlying3,h]
theorem eqH (a1 a2 a3 b1 b2 b3:Int) (h1:okI a1) (h2:okI a2) (h3:okI a3) (g1:okI b1) (g2:okI b2) (g3:okI b3):evEq Tryz.prog 107 [i a1,i a2,i a3] [i b1,i b2,i b3] = some (decide (a1 = b1) && (decide (a2 = b2) && decide (a3 = b3))):=by
 have kl:∀ a b c:Int,okI a→okI b→okI c→Program.keyLits Tryz.prog 16 107 [.int .i64 a,.int .i64 b,.int .i64 c] = some [.int .i64 a,.int .i64 b,.int .i64 c]:=fun a b c ha hb hc=>by
  unfold Program.keyLits
  simp [Tryz.underlying107,k3I (wfI ha),k3I (wfI hb),k3I (wfI hc)]
 have kt:(aggT Tryz.prog 107 && Program.keyTypeAt Tryz.prog 16 107 && !(Tryz.prog.eqGuardType Tryz.prog.depth 107)) = true:=by kernel_rfl
 unfold evEq
 simp [plainC,kl _ _ _ h1 h2 h3,kl _ _ _ g1 g2 g3]
 refine ⟨⟨by simpa using kt,by simp [flatLits]⟩,?_⟩
 simp only [eqLits,Bool.and_true]
 congr 1
structure okB (b:Beach):Prop where
 la:okI b.last
 ro:okI b.rows
 pl:okI b.places
 re:okI b.reach
 fa:∀ n ∈ b.face,okI n
 su:∀ n ∈ b.sun,okI n
 wi:∀ l ∈ b.winds,∀ n ∈ l,okI n
 br:∀ p ∈ b.breaks,okI p.1∧okI p.2
 no:∀ p ∈ b.notes,okI p.1∧okI p.2
end Go.Proofs.Tryz.Op
/- Contracts: Index, Contains, isListed, right, ProveTruth. No condition but lists of at most 100. -/
open Go Go.Pg Go.Proofs Go.Wind
namespace Go.Wind
def rightGo (t out:List Int):List (Int × Int)→Nat→Bool
 | [],_=>true
 | x :: r,k=>(decide ((k:Int) ∈ out) || rightB t x) && rightGo t out r (k + 1)
theorem rightGo_nil (t:List Int):∀ (l:List (Int × Int)) (k:Nat),rightGo t [] l k = l.all (rightB t)
 | [],_=>rfl
 | x :: r,k=>by simp [rightGo,rightGo_nil t r]
end Go.Wind
namespace Go.Proofs.Tryz.Op
set_option maxRecDepth 100000
set_option linter.unusedSimpArgs false
theorem lIndex (l:List Int) (x:Int) (hl:l.length≤1000):∀ (d k:Nat),k + d = l.length→∃ (j:Int) (fr:Fr),0≤j∧∀ n m,d < m→loopA (execA Tryz.prog ann kn (n+100) 19) lb139_2 (ann 19 (fstR lb139_2)) m ⟨0,[(0,true,li l),(1,true,i x),(7,true,i l.length),(8,true,i k)],⟨[],[]⟩⟩ =
  if x ∈ l.drop k then some (.ret,⟨0,[(4,true,i j),(17,true,i j),(5,true,i j)],⟨[],[]⟩⟩) else some (.exit 0,⟨0,fr,⟨[],[]⟩⟩)
 | 0,k,hk=>by
  have:k = l.length:=by omega
  subst this
  refine ⟨0,?fr,by omega,fun n m hm=>?_⟩
  rotate_left
  ·obtain ⟨m,rfl⟩:∃ m',m = m' + 1:=⟨m - 1,by omega⟩
   rw [List.drop_length,if_neg (by simp),loopA_succ]
   simp
   rfl
 | d + 1,k,hk=>by
  have hk':k < l.length:=by omega
  have hw:=wrapS (k:=k) (by omega)
  obtain ⟨j,fr,hj,ih⟩:=lIndex l x hl d (k + 1) (by omega)
  rw [List.drop_eq_getElem_cons hk']
  by_cases h:x = l[k]
  ·refine ⟨k,[],by omega,fun n m hm=>?_⟩
   obtain ⟨m,rfl⟩:∃ m',m = m' + 1:=⟨m - 1,by omega⟩
   rw [if_pos (List.mem_cons.2 (.inl h)),loopA_succ]
   simp [hk',hw,encI,h]
  ·refine ⟨j,fr,hj,fun n m hm=>?_⟩
   obtain ⟨m,rfl⟩:∃ m',m = m' + 1:=⟨m - 1,by omega⟩
   have ih:=ih n m (by omega)
   have e:(x ∈ l[k] :: l.drop (k + 1)) = (x ∈ l.drop (k + 1)):=propext ⟨fun hh=>(List.mem_cons.1 hh).resolve_left h,fun hh=>List.mem_cons.2 (.inr hh)⟩
   rw [loopA_succ]
   simp only [e]
   simp at ih
   simp [hk',hw,encI,h,ih]
theorem kContains (n:Nat) (l:List Int) (x:Int) (hl:l.length≤1000):callK Tryz.prog kn (execA Tryz.prog ann kn (n+1300)) 118 [li l,i x] = some (.bool (decide (x ∈ l))):=by
 have q:∃ j:Int,(0≤j ↔ x ∈ l)∧∀ n,callK Tryz.prog kn (execA Tryz.prog ann kn (n+1200)) 139 [li l,i x] = some (i j):=by
  obtain ⟨j,fr,hj,q⟩:=lIndex l x hl l.length 0 (by omega)
  have q:=fun n m=>q n (m + 1100) (by omega)
  rw [List.drop_zero] at q
  by_cases h:x ∈ l
  ·refine ⟨j,by simp [h,hj],fun n=>?_⟩
   rw [callK_of rfl,call0_eq Tryz.func139 b139 rfl (by simp [encI])]
   rw [if_pos h] at q
   simp at q
   simp [c139,argFr,q,h]
  ·refine ⟨-1,by simp [h],fun n=>?_⟩
   rw [callK_of rfl,call0_eq Tryz.func139 b139 rfl (by simp [encI])]
   rw [if_neg h] at q
   simp at q
   simp [c139,argFr,q,h]
 obtain ⟨j,hj,q⟩:=q
 rw [callK_of rfl,call0_eq Tryz.func118 b118 rfl (by simp [encI])]
 simp [c118,argFr,encI,q,hj]
theorem lListed (b:Beach) (t:List Int) (hl:t.length = b.winds.length) (h100:t.length≤100) (h4:∀ l ∈ b.winds,l.length≤100):∀ (d k:Nat),k + d = t.length→∃ fr,∀ n m,d < m→loopA (execA Tryz.prog ann kn (n+1400) 29) lb104_4 (ann 29 (fstR lb104_4)) m ⟨1,[(2,true,.ptr 0 2 0 0),(13,true,li t),(14,true,i t.length),(15,true,i k)],⟨[],[(2,0,.box (cellsB b))]⟩⟩ =
  if listedGo (t.drop k) (b.winds.drop k) = true then some (.exit 0,⟨1,fr,⟨[],[(2,0,.box (cellsB b))]⟩⟩) else some (.ret,⟨1,[(4,true,.bool false)],⟨[],[]⟩⟩)
 | 0,k,hk=>by
  have:k = t.length:=by omega
  subst this
  refine ⟨?fr,fun n m hm=>?_⟩
  rotate_left
  ·obtain ⟨m,rfl⟩:∃ m',m = m' + 1:=⟨m - 1,by omega⟩
   have:b.winds.drop t.length = []:=by rw [hl]; exact List.drop_length
   rw [List.drop_length,this,loopA_succ]
   simp [listedGo,cellsB]
   rfl
 | d + 1,k,hk=>by
  have hk':k < t.length:=by omega
  have hk2:k < b.winds.length:=by omega
  have hw:=wrapS (k:=k) (by omega)
  obtain ⟨fr,ih⟩:=lListed b t hl h100 h4 d (k + 1) (by omega)
  have q:=fun n=>kContains n b.winds[k] t[k] (by have:=h4 _ (List.getElem_mem hk2); omega)
  rw [List.drop_eq_getElem_cons hk',List.drop_eq_getElem_cons hk2]
  simp only [listedGo]
  by_cases h:t[k] ∈ b.winds[k]
  ·simp only [h,decide_true,Bool.true_and] at q ⊢
   refine ⟨fr,fun n m hm=>?_⟩
   obtain ⟨m,rfl⟩:∃ m',m = m' + 1:=⟨m - 1,by omega⟩
   have ih:=ih n m (by omega)
   rw [loopA_succ]
   simp only [cellsB] at ih ⊢
   simp at ih
   simp [hk',hk2,hw,encI,encL,q,ih]
  ·simp only [h,decide_false,Bool.false_and] at q ⊢
   refine ⟨[],fun n m hm=>?_⟩
   obtain ⟨m,rfl⟩:∃ m',m = m' + 1:=⟨m - 1,by omega⟩
   rw [loopA_succ]
   simp [cellsB,hk',hk2,hw,encI,encL,q]
theorem listed_eq {t:List Int} {ws:List (List Int)} (h:¬ t.length = ws.length):listedGo t ws = false:=by
 cases e:listedGo t ws with
 | false=>rfl
 | true=>exact absurd (listed_len e) h
theorem kIsListed (n:Nat) (b:Beach) (hb:Valid b) (t:List Int):callK Tryz.prog kn (execA Tryz.prog ann kn (n+1600)) 104 [.agg (cellsB b),li t] = some (.bool (listedGo t b.winds)):=by
 rw [callK_of rfl,call0_eq Tryz.func104 b104 rfl (by simp [cellsB,encI,encL,encP])]
 have hla:=hb.la
 have hwi:=hb.wi
 have hwl:IntKind.i64.wrap (b.last + 1) = b.last + 1:=wrap_i64 (by omega) (by omega)
 by_cases h:(t.length:Int) = b.last + 1
 ·obtain ⟨fr,q⟩:=lListed b t (by omega) (by omega) (fun l hl=>by have:=hb.wl l hl; omega) t.length 0 (by omega)
  have q:=fun n m=>q n (m + 200) (by omega)
  rw [List.drop_zero,List.drop_zero] at q
  generalize listedGo t b.winds = z at q ⊢
  simp only [cellsB] at q ⊢
  cases z <;> (simp at q; simp [c104,argFr,hwl,h] ; simp [← h,q])
 ·rw [listed_eq (by omega)]
  simp [c104,argFr,cellsB,hwl,h]
theorem lRight (b:Beach) (t out:List Int) (hn:∀ x ∈ b.notes,0≤x.1∧x.1 < t.length) (hl:b.notes.length≤100) (ho:out.length≤100):∀ (d k:Nat) (c:Nat),k + d = b.notes.length→∃ (fr:Fr) (c':Nat),∀ n m,d < m→loopA (execA Tryz.prog ann kn (n+1400) 32) lb107_2 (ann 32 (fstR lb107_2)) m ⟨c,[(1,true,li t),(2,true,li out),(10,true,.list false (b.notes.map encP)),(11,true,i b.notes.length),(12,true,i k)],⟨[],[(3,0,.box (cellsB b))]⟩⟩ =
  if rightGo t out (b.notes.drop k) k = true then some (.exit 0,⟨c',fr,⟨[],[(3,0,.box (cellsB b))]⟩⟩) else some (.ret,⟨c',[(6,true,.bool false)],⟨[],[]⟩⟩)
 | 0,k,c,hk=>by
  have:k = b.notes.length:=by omega
  subst this
  refine ⟨?fr,c,fun n m hm=>?_⟩
  rotate_left
  ·obtain ⟨m,rfl⟩:∃ m',m = m' + 1:=⟨m - 1,by omega⟩
   rw [List.drop_length,loopA_succ]
   simp [rightGo,cellsB]
   rfl
 | d + 1,k,c,hk=>by
  have hk':k < b.notes.length:=by omega
  have hw:=wrapS (k:=k) (by omega)
  obtain ⟨fr,c',ih⟩:=lRight b t out hn hl ho d (k + 1) (c + 1) (by omega)
  have q:=fun n=>kContains n out k (by omega)
  obtain ⟨h0,h1⟩:=hn _ (List.getElem_mem hk')
  rw [List.drop_eq_getElem_cons hk']
  have ha:atI t b.notes[k].1 = t[b.notes[k].1.toNat]:=by
   unfold atI
   rw [List.getD_eq_getElem?_getD,List.getElem?_eq_getElem (by omega)]; rfl
  have hr:rightB t b.notes[k] = decide (t[b.notes[k].1.toNat] = b.notes[k].2):=by unfold rightB; rw [ha]
  simp only [rightGo,hr]
  have h1':b.notes[k].1.toNat < t.length:=by omega
  by_cases h:(k:Int) ∈ out
  ·simp only [h,decide_true,Bool.true_or,Bool.true_and] at q ⊢
   refine ⟨fr,c',fun n m hm=>?_⟩
   obtain ⟨m,rfl⟩:∃ m',m = m' + 1:=⟨m - 1,by omega⟩
   have ih:=ih n m (by omega)
   rw [loopA_succ]
   simp only [cellsB] at ih ⊢
   simp at ih
   simp [hk',hw,encI,encL,encP,plK,q,ih]
  ·by_cases h2:t[b.notes[k].1.toNat] = b.notes[k].2
   ·simp only [h,h2,decide_true,decide_false,Bool.false_or,Bool.true_and] at q ⊢
    refine ⟨fr,c',fun n m hm=>?_⟩
    obtain ⟨m,rfl⟩:∃ m',m = m' + 1:=⟨m - 1,by omega⟩
    have ih:=ih n m (by omega)
    rw [loopA_succ]
    simp only [cellsB] at ih ⊢
    simp at ih
    simp [hk',hw,encI,encL,encP,plK,q,h0,h1,h1',h2,ih]
   ·simp only [h,h2,decide_false,Bool.false_or,Bool.false_and] at q ⊢
    refine ⟨[],c + 1,fun n m hm=>?_⟩
    obtain ⟨m,rfl⟩:∃ m',m = m' + 1:=⟨m - 1,by omega⟩
    rw [loopA_succ]
    simp [cellsB,hk',hw,encI,encL,encP,plK,q,h0,h1,h1',h2]
theorem kRight (n:Nat) (b:Beach) (t out:List Int) (hn:∀ x ∈ b.notes,0≤x.1∧x.1 < t.length) (hl:b.notes.length≤100) (ho:out.length≤100):callK Tryz.prog kn (execA Tryz.prog ann kn (n+1600)) 107 [.agg (cellsB b),li t,li out] = some (.bool (rightGo t out b.notes 0)):=by
 rw [callK_of rfl,call0_eq Tryz.func107 b107 rfl (by simp [cellsB,encI,encL,encP])]
 obtain ⟨fr,c',q⟩:=lRight b t out hn hl ho b.notes.length 0 1 (by omega)
 have q:=fun n m=>q n (m + 200) (by omega)
 rw [List.drop_zero] at q
 generalize rightGo t out b.notes 0 = z at q ⊢
 simp only [cellsB] at q ⊢
 cases z <;> (simp at q; simp [c107,argFr,q])
theorem Valid.notes' {b:Beach} (hb:Valid b) {t:List Int} (ht:t.length = b.winds.length):∀ x ∈ b.notes,0≤x.1∧x.1 < t.length:=fun x hx=>by
 have:=List.all_eq_true.1 hb.nok x hx
 simp only [noteOk,Bool.and_eq_true,inI_iff] at this
 have:=hb.wi
 omega
end Go.Proofs.Tryz.Op
