/- Contracts of small functions of the reference: In, Agrees, Readings; and of within. No condition. -/
import Derived.Test.YtfbbnkaahnpicaaFx
import Derived.Test.YtfbbnkaahnpicaaFy
open Go Go.Pg Go.Proofs
namespace Go.Proofs.Try.Op
set_option maxRecDepth 100000
set_option linter.unusedSimpArgs false
abbrev i (n:Int):V:=.int .i64 n
def inB (n lo hi:Int):Bool:=decide (lo≤n) && decide (n≤hi)
theorem k25 (n:Nat) (x lo hi:Int):callK Try.prog kn (execA Try.prog ann kn (n+100)) 25 [i x,i lo,i hi] = some (.bool (inB x lo hi)):=by
 rw [callK_of rfl,call0_eq Try.func25 b25 rfl rfl]
 unfold inB
 generalize e1:decide (lo≤x) = b1
 simp [e1,c25,argFr]
 cases b1 <;> simp
theorem k69 (n:Nat) (x lo hi:Int):callK Try.prog kn (execA Try.prog ann kn (n+100)) 69 [i x,i lo,i hi] = some (.bool (inB x lo hi)):=by
 rw [callK_of rfl,call0_eq Try.func69 b69 rfl rfl]
 unfold inB
 generalize e1:decide (lo≤x) = b1
 simp [e1,c69,argFr]
 cases b1 <;> simp
structure Line where
 k:Int
 c:Int
 t:Int
def encL (l:Line):List V:=[i l.k,i l.c,i l.t]
def agreesB (l x:Line):Bool:=(decide (l.k = 0) || decide (l.k = x.k)) && ((decide (l.c < 0) || decide (l.c = x.c)) && (decide (l.t < 0) || decide (l.t = x.t)))
theorem k99 (n:Nat) (l x:Line):callK Try.prog kn (execA Try.prog ann kn (n+100)) 99 [.agg (encL l),.agg (encL x)] = some (.bool (agreesB l x)):=by
 rw [callK_of rfl,call0_eq Try.func99 b99 rfl rfl]
 unfold agreesB
 generalize e1:decide (l.k = 0) = b1
 generalize e2:decide (l.k = x.k) = b2
 generalize e3:decide (l.c < 0) = b3
 generalize e4:decide (l.c = x.c) = b4
 generalize e5:decide (l.t < 0) = b5
 generalize e6:decide (l.t = x.t) = b6
 simp [e1,e2,e3,e4,e5,e6,c99,argFr,encL]
 cases b1 <;> (try simp [e1,e2,e3,e4,e5,e6]) <;> cases b2 <;> (try simp [e1,e2,e3,e4,e5,e6]) <;> cases b3 <;> (try simp [e1,e2,e3,e4,e5,e6]) <;> cases b4 <;> (try simp [e1,e2,e3,e4,e5,e6]) <;> cases b5 <;> (try simp [e1,e2,e3,e4,e5,e6])
structure Count where
 a:Int
 lo:Int
 hi:Int
def encC (l:Count):List V:=[i l.a,i l.lo,i l.hi]
structure Book where
 chairs:Int
 coin:Int
 box:Int
 lines:List Line
 counts:List Count
def cellsB (b:Book):List V:=[i b.chairs,i b.coin,i b.box,.list false (b.lines.map encL),.list false (b.counts.map encC)]
def rowT (l:Line) (k c t:Int):Nat→List Line
 | 0=>[]
 | d + 1=>(if agreesB l ⟨k,c,t⟩ = true then [⟨k,c,t⟩] else []) ++ rowT l k c (t + 1) d
attribute [simp] k99 k25 k69
theorem l9 (n:Nat) (b:Book) (l:Line) (k ch:Int) (h1:1≤b.chairs) (h4:b.chairs≤4):∀ (d:Nat) (t:Int) (out:List Line) (c γ m:Nat),0≤t→t + d = b.chairs→d < m→2≤c→γ < c→out.length + d≤1000 →
  ∃ c' γ',2≤c'∧γ' < c'∧loopA (execA Try.prog ann kn (n+130) 39) lb83_9 (some ([2,3,5,6,7,8],[2,3,37])) m ⟨c,[(2,true,.ptr 0 2 0 0),(3,true,.ptr 0 3 1 0),(5,true,pv 37 γ (out.map encL)),(6,true,i k),(7,true,i ch),(8,true,i t)],
   ⟨[],(2,0,.box (cellsB b)) :: (3,1,.box (encL l)) :: pl 37 γ 75 (out.map encL)⟩⟩ = some (.exit 4,⟨c',[(22,true,.bool false),(21,true,i b.chairs),(20,true,.ptr 0 2 0 0),(19,true,i b.chairs),(2,true,.ptr 0 2 0 0),(3,true,.ptr 0 3 1 0),(5,true,pv 37 γ' ((out ++ rowT l k ch t d).map encL)),(6,true,i k),(7,true,i ch),(8,true,i b.chairs)],
   ⟨[],(2,0,.box (cellsB b)) :: (3,1,.box (encL l)) :: pl 37 γ' 75 ((out ++ rowT l k ch t d).map encL)⟩⟩)
 | 0,t,out,c,γ,m + 1,ht,hd,hm,hc,hg,ho=>by
  refine ⟨c,γ,hc,hg,?_⟩
  have:t = b.chairs:=by omega
  subst this
  simp [loopA_succ,lb83_9,cellsB,encL,rowT]
 | d + 1,t,out,c,γ,m + 1,ht,hd,hm,hc,hg,ho=>by
  have e1:decide (t < b.chairs) = true:=by simp; omega
  have ha:=fun n=>k99 n l ⟨k,ch,t⟩
  simp only [encL] at ha
  rw [loopA_succ]
  generalize hb:agreesB l ⟨k,ch,t⟩ = bb at ha
  have hw:IntKind.i64.wrap (t + 1) = t + 1:=wrap_i64 (by omega) (by omega)
  cases bb with
  | false =>
   obtain ⟨c',γ',i1,i2,i3⟩:=l9 n b l k ch h1 h4 d (t + 1) out c γ m (by omega) (by omega) (by omega) hc hg (by omega)
   refine ⟨c',γ',i1,i2,?_⟩
   simp only [rowT,hb,cellsB,encL,if_false,List.nil_append,Bool.false_eq_true] at i3 ⊢
   simp [e1,ha,hw,i3]
  | true =>
   obtain ⟨c',γ',i1,i2,i3⟩:=l9 n b l k ch h1 h4 d (t + 1) (out ++ [⟨k,ch,t⟩]) (c + 1) c m (by omega) (by omega) (by omega) (by omega) (by omega) (by simp; omega)
   refine ⟨c',γ',i1,i2,?_⟩
   have ho':appOK Try.prog 75 out.length [[i k,i ch,i t]] = true:=by
    rw [appOK_iff (by simp) (by simp)]
    simp [maxLen]; omega
   simp only [rowT,hb,cellsB,encL,if_true,List.map_append,List.map_cons,List.map_nil,List.append_assoc,List.cons_append,List.nil_append,pl_snoc] at i3 ⊢
   simp [e1,ha,hw,i3,ho',encL]

def rowC (l:Line) (k c:Int) (C:Nat):Nat→List Line
 | 0=>[]
 | d + 1=>rowT l k c 0 C ++ rowC l k (c + 1) C d
theorem rowT_len (l:Line) (k c:Int):∀ (d:Nat) (t:Int),(rowT l k c t d).length≤d
 | 0,t=>by simp [rowT]
 | d + 1,t=>by
  have:=rowT_len l k c d (t + 1)
  simp only [rowT,List.length_append]
  split <;> simp <;> omega
theorem l6 (n:Nat) (b:Book) (l:Line) (k:Int) (h1:1≤b.chairs) (h4:b.chairs≤4):∀ (d:Nat) (t:Int) (out:List Line) (c γ m:Nat),0≤t→t + d = b.chairs→d < m→2≤c→γ < c→out.length + 4 * d≤1000 →
  ∃ c' γ',2≤c'∧γ' < c'∧loopA (execA Try.prog ann kn (n+140) 39) lb83_6 (some ([2,3,5,6,7],[2,3,37])) m ⟨c,[(2,true,.ptr 0 2 0 0),(3,true,.ptr 0 3 1 0),(5,true,pv 37 γ (out.map encL)),(6,true,i k),(7,true,i t)],
   ⟨[],(2,0,.box (cellsB b)) :: (3,1,.box (encL l)) :: pl 37 γ 75 (out.map encL)⟩⟩ = some (.exit 2,⟨c',[(16,true,.bool false),(15,true,i b.chairs),(14,true,.ptr 0 2 0 0),(13,true,i b.chairs),(2,true,.ptr 0 2 0 0),(3,true,.ptr 0 3 1 0),(5,true,pv 37 γ' ((out ++ rowC l k t b.chairs.toNat d).map encL)),(6,true,i k),(7,true,i b.chairs)],
   ⟨[],(2,0,.box (cellsB b)) :: (3,1,.box (encL l)) :: pl 37 γ' 75 ((out ++ rowC l k t b.chairs.toNat d).map encL)⟩⟩)
 | 0,t,out,c,γ,m + 1,ht,hd,hm,hc,hg,ho=>by
  refine ⟨c,γ,hc,hg,?_⟩
  have:t = b.chairs:=by omega
  subst this
  simp [loopA_succ,cellsB,encL,rowC]
 | d + 1,t,out,c,γ,m + 1,ht,hd,hm,hc,hg,ho=>by
  have e1:decide (t < b.chairs) = true:=by simp; omega
  have hw:IntKind.i64.wrap (t + 1) = t + 1:=wrap_i64 (by omega) (by omega)
  have hl:=rowT_len l k t b.chairs.toNat 0
  obtain ⟨c1,γ1,j1,j2,j3⟩:=l9 (n + 4) b l k t h1 h4 b.chairs.toNat 0 out c γ (n + 134) (by omega) (by omega) (by omega) hc hg (by omega)
  obtain ⟨c',γ',i1,i2,i3⟩:=l6 n b l k h1 h4 d (t + 1) (out ++ rowT l k t 0 b.chairs.toNat) c1 γ1 m (by omega) (by omega) (by omega) j1 j2 (by simp; omega)
  refine ⟨c',γ',i1,i2,?_⟩
  rw [loopA_succ]
  simp only [rowC,cellsB,encL,List.map_append,List.append_assoc,Nat.add_assoc,Nat.reduceAdd] at i3 j3 ⊢
  simp [e1,hw,j3,i3]

theorem rowC_len (l:Line) (k:Int) (C:Nat):∀ (d:Nat) (t:Int),(rowC l k t C d).length≤C * d
 | 0,t=>by simp [rowC]
 | d + 1,t=>by
  have h1:=rowC_len l k C d (t + 1)
  have h2:=rowT_len l k t C 0
  simp only [rowC,List.length_append,Nat.mul_succ]
  omega
def rowK (l:Line) (k:Int) (C:Nat):Nat→List Line
 | 0=>[]
 | d + 1=>rowC l k 0 C C ++ rowK l (k + 1) C d
theorem l3 (n:Nat) (b:Book) (l:Line) (h1:1≤b.chairs) (h4:b.chairs≤4):∀ (d:Nat) (t:Int) (out:List Line) (c γ m:Nat),t + d = 3→d≤2→d < m→2≤c→γ < c→out.length + 16 * d≤100 →
  ∃ c' γ',2≤c'∧γ' < c'∧loopA (execA Try.prog ann kn (n+150) 39) lb83_3 (some ([2,3,5,6],[2,3,37])) m ⟨c,[(2,true,.ptr 0 2 0 0),(3,true,.ptr 0 3 1 0),(5,true,pv 37 γ (out.map encL)),(6,true,i t)],
   ⟨[],(2,0,.box (cellsB b)) :: (3,1,.box (encL l)) :: pl 37 γ 75 (out.map encL)⟩⟩ = some (.exit 0,⟨c',[(10,true,.bool false),(9,true,i 3),(2,true,.ptr 0 2 0 0),(3,true,.ptr 0 3 1 0),(5,true,pv 37 γ' ((out ++ rowK l t b.chairs.toNat d).map encL)),(6,true,i 3)],
   ⟨[],(2,0,.box (cellsB b)) :: (3,1,.box (encL l)) :: pl 37 γ' 75 ((out ++ rowK l t b.chairs.toNat d).map encL)⟩⟩)
 | 0,t,out,c,γ,m + 1,hd,hd2,hm,hc,hg,ho=>by
  refine ⟨c,γ,hc,hg,?_⟩
  have:t = 3:=by omega
  subst this
  simp [loopA_succ,cellsB,encL,rowK]
 | d + 1,t,out,c,γ,m + 1,hd,hd2,hm,hc,hg,ho=>by
  have e1:decide (t≤2) = true:=by simp; omega
  have hw:IntKind.i64.wrap (t + 1) = t + 1:=wrap_i64 (by omega) (by omega)
  have hl:=rowC_len l t b.chairs.toNat b.chairs.toNat 0
  have hC:b.chairs.toNat * b.chairs.toNat≤16:=Nat.mul_le_mul (show b.chairs.toNat≤4 by omega) (show b.chairs.toNat≤4 by omega)
  obtain ⟨c1,γ1,j1,j2,j3⟩:=l6 (n + 4) b l t h1 h4 b.chairs.toNat 0 out c γ (n + 144) (by omega) (by omega) (by omega) hc hg (by omega)
  obtain ⟨c',γ',i1,i2,i3⟩:=l3 n b l h1 h4 d (t + 1) (out ++ rowC l t 0 b.chairs.toNat b.chairs.toNat) c1 γ1 m (by omega) (by omega) (by omega) j1 j2 (by simp; omega)
  refine ⟨c',γ',i1,i2,?_⟩
  rw [loopA_succ]
  simp only [rowK,cellsB,encL,List.map_append,List.append_assoc,Nat.add_assoc,Nat.reduceAdd] at i3 j3 ⊢
  simp [e1,hw,j3,i3]
def readings (C:Int) (l:Line):List Line:=rowK l 1 C.toNat 2
theorem k83 (n:Nat) (b:Book) (l:Line) (h1:1≤b.chairs) (h4:b.chairs≤4):callK Try.prog kn (execA Try.prog ann kn (n+200)) 83 [.agg (cellsB b),.agg (encL l)] = some (sl ((readings b.chairs l).map encL)):=by
 rw [callK_of rfl,call0_eq Try.func83 b83 rfl (by simp [cellsB,encL,encC])]
 obtain ⟨c',γ',i1,i2,i3⟩:=l3 (n + 44) b l h1 h4 2 1 [] 2 0 (n + 194) (by omega) (by omega) (by omega) (by omega) (by omega) (by simp)
 simp only [cellsB,encL,List.map_append,List.map_nil,List.nil_append,List.append_assoc,Nat.add_assoc,Nat.reduceAdd,pv_nil,pl_nil] at i3
 have hcl:((readings b.chairs l).map encL).all (fun e=>e.all (closedV 8)) = true:=by simp [encL]
 simp [c83,argFr,cellsB,encL,i3]
 simp [readings] at hcl ⊢
theorem rowK_len (l:Line) (C:Nat):∀ (d:Nat) (t:Int),(rowK l t C d).length≤C * C * d
 | 0,t=>by simp [rowK]
 | d + 1,t=>by
  have h1:=rowK_len l C d (t + 1)
  have h2:=rowC_len l t C C 0
  simp only [rowK,List.length_append,Nat.mul_succ]
  omega
theorem readings_len (C:Int) (l:Line) (h:C≤4):(readings C l).length≤32:=by
 have:=rowK_len l C.toNat 2 1
 have hC:C.toNat * C.toNat≤16:=Nat.mul_le_mul (show C.toNat≤4 by omega) (show C.toNat≤4 by omega)
 unfold readings
 omega
def min5 (v:Int):Int:=if v < 5000 then v else 5000
def manyGo (C:Int) (n:Int) (ls:List Line):Int:=ls.foldl (fun n l=>min5 (n * (readings C l).length)) n
theorem mul_range {n:Int} {k:Nat} (h0:0≤n) (h1:n≤5000) (hk:k≤32):0≤n * k∧n * k≤160000:=by
 refine ⟨Int.mul_nonneg h0 (by omega),?_⟩
 calc n * k≤5000 * 32:=Int.mul_le_mul h1 (by omega) (by omega) (by omega)
  _ = 160000:=by decide
theorem l52 (n:Nat) (b:Book) (h1:1≤b.chairs) (h4:b.chairs≤4):∀ (d k:Nat) (v:Int) (m:Nat),k + d = b.lines.length→d < m→0≤v→v≤5000→b.lines.length≤1000 →
  loopA (execA Try.prog ann kn (n+250) 24) lb52_3 (some ([1,3,4],[1,19])) m ⟨1,[(1,true,.ptr 0 1 0 0),(3,true,i v),(4,true,i k)],⟨[],[(1,0,.box (cellsB b))]⟩⟩ =
  some (.exit 0,⟨1,[(9,true,.bool false),(8,true,i b.lines.length),(7,true,.list false (b.lines.map encL)),(6,true,.ptr 0 1 0 3),(5,true,i b.lines.length),(1,true,.ptr 0 1 0 0),(3,true,i (manyGo b.chairs v (b.lines.drop k))),(4,true,i b.lines.length)],⟨[],[(1,0,.box (cellsB b))]⟩⟩)
 | 0,k,v,m + 1,hd,hm,hv,hv2,hl=>by
  have:k = b.lines.length:=by omega
  subst this
  simp [loopA_succ,cellsB,manyGo]
 | d + 1,k,v,m + 1,hd,hm,hv,hv2,hl=>by
  have hk:k < b.lines.length:=by omega
  have hr:=readings_len b.chairs b.lines[k] h4
  have hq:=mul_range hv hv2 hr
  have hw:IntKind.i64.wrap ((k:Int) + 1) = (k:Int) + 1:=wrap_i64 (by omega) (by omega)
  have hw2:IntKind.i64.wrap (v * ((readings b.chairs b.lines[k]).length:Int)) = v * ((readings b.chairs b.lines[k]).length:Int):=wrap_i64 (by omega) (by omega)
  have h5:0≤min5 (v * ((readings b.chairs b.lines[k]).length:Int))∧min5 (v * ((readings b.chairs b.lines[k]).length:Int))≤5000:=by unfold min5; split <;> omega
  have ih:=l52 n b h1 h4 d (k + 1) (min5 (v * ((readings b.chairs b.lines[k]).length:Int))) m (by omega) (by omega) h5.1 h5.2 hl
  have hc:=fun n=>k83 n b b.lines[k] h1 h4
  rw [loopA_succ]
  simp only [cellsB,encL,List.drop_eq_getElem_cons hk,manyGo,List.foldl_cons,min5] at ih hc ⊢
  simp [hk,hw,hw2,encL,hc,encC]
  simp at ih
  simp [ih]
theorem k52 (n:Nat) (b:Book) (h1:1≤b.chairs) (h4:b.chairs≤4) (hl:b.lines.length≤200):callK Try.prog kn (execA Try.prog ann kn (n+300)) 52 [.agg (cellsB b)] = some (i (manyGo b.chairs 1 b.lines)):=by
 rw [callK_of rfl,call0_eq Try.func52 b52 rfl (by simp [cellsB,encL,encC])]
 have:=l52 (n + 44) b h1 h4 b.lines.length 0 1 (n + 294) (by omega) (by omega) (by omega) (by omega) (by omega)
 simp only [cellsB,Nat.add_assoc,Nat.reduceAdd] at this
 simp [c52,argFr,cellsB]
 simp at this
 simp [this]
def lineOk (C:Int) (l:Line):Bool:=inB l.k 0 2 && (inB l.c (-1) (C - 1) && inB l.t (-1) (C - 1))
def countOk (n:Nat) (c:Count):Bool:=inB c.a 0 n && (!decide (c.lo < 0) && (!decide (c.hi < c.lo) && !decide (2000 < c.hi)))
def faultB (b:Book):Int :=
 if (decide (8 < b.lines.length) || decide (4 < b.counts.length)) = true then 3
 else if (inB b.chairs 1 4 && (inB b.coin 1 99 && inB b.box 0 999)) = false then 1
 else if b.lines.all (lineOk b.chairs) = false then 1
 else if b.counts.all (countOk b.lines.length) = false then 1
 else if 4096 < manyGo b.chairs 1 b.lines then 3 else 0
theorem l67a (n:Nat) (b:Book) (h1:1≤b.chairs) (h4:b.chairs≤4):∀ (d k:Nat) (c m:Nat),k + d = b.lines.length→d < m→b.lines.length≤8 →
  ∃ c',loopA (execA Try.prog ann kn (n+250) 110) lb67_6 (some ([1,3],[1])) m ⟨c,[(1,true,.ptr 0 1 0 0),(3,true,i k)],⟨[],[(1,0,.box (cellsB b))]⟩⟩ =
  if (b.lines.drop k).all (lineOk b.chairs) = true then some (.exit 0,⟨c',[(37,true,.bool false),(36,true,i b.lines.length),(35,true,.list false (b.lines.map encL)),(34,true,.ptr 0 1 0 3),(33,true,i b.lines.length),(1,true,.ptr 0 1 0 0),(3,true,i b.lines.length)],⟨[],[(1,0,.box (cellsB b))]⟩⟩)
  else some (.ret,⟨c',[(2,true,i 1)],⟨[],[]⟩⟩)
 | 0,k,c,m + 1,hd,hm,hl=>by
  have:k = b.lines.length:=by omega
  subst this
  refine ⟨c,?_⟩
  simp [loopA_succ,cellsB]
 | d + 1,k,c,m + 1,hd,hm,hl=>by
  have hk:k < b.lines.length:=by omega
  have hw:IntKind.i64.wrap ((k:Int) + 1) = (k:Int) + 1:=wrap_i64 (by omega) (by omega)
  have hw2:IntKind.i64.wrap (b.chairs - 1) = b.chairs - 1:=wrap_i64 (by omega) (by omega)
  obtain ⟨c',ih⟩:=l67a n b h1 h4 d (k + 1) (c + 1) m (by omega) (by omega) hl
  have hdr:=List.drop_eq_getElem_cons hk
  have hlo:lineOk b.chairs b.lines[k] = (inB b.lines[k].k 0 2 && (inB b.lines[k].c (-1) (b.chairs - 1) && inB b.lines[k].t (-1) (b.chairs - 1))):=rfl
  generalize e1:inB b.lines[k].k 0 2 = b1 at hlo
  generalize e2:inB b.lines[k].c (-1) (b.chairs - 1) = b2 at hlo
  generalize e3:inB b.lines[k].t (-1) (b.chairs - 1) = b3 at hlo
  rw [loopA_succ,hdr]
  simp only [cellsB,encL,List.all_cons,hlo] at ih ⊢
  simp at ih
  cases b1 <;> cases b2 <;> cases b3 <;> simp only [Bool.and_true,Bool.and_false,Bool.true_and,Bool.false_and,Bool.false_eq_true,if_false]
  all_goals first | (refine ⟨c + 1,?_⟩; simp [hk,hw,hw2,encL,e1,e2,e3]; done) | skip
  refine ⟨c',?_⟩
  simp [hk,hw,hw2,encL,e1,e2,e3,ih]

attribute [simp] k25
theorem l67b (n:Nat) (b:Book):∀ (d k:Nat) (c m:Nat),k + d = b.counts.length→d < m→b.lines.length≤8→b.counts.length≤4 →
  ∃ c',loopA (execA Try.prog ann kn (n+250) 110) lb67_12 (some ([1,5],[1])) m ⟨c,[(1,true,.ptr 0 1 0 0),(5,true,i k)],⟨[],[(1,0,.box (cellsB b))]⟩⟩ =
  if (b.counts.drop k).all (countOk b.lines.length) = true then some (.exit 2,⟨c',[(71,true,.bool false),(70,true,i b.counts.length),(69,true,.list false (b.counts.map encC)),(68,true,.ptr 0 1 0 4),(67,true,i b.counts.length),(1,true,.ptr 0 1 0 0),(5,true,i b.counts.length)],⟨[],[(1,0,.box (cellsB b))]⟩⟩)
  else some (.ret,⟨c',[(2,true,i 1)],⟨[],[]⟩⟩)
 | 0,k,c,m + 1,hd,hm,hl,hl2=>by
  have:k = b.counts.length:=by omega
  subst this
  refine ⟨c,?_⟩
  simp [loopA_succ,cellsB]
 | d + 1,k,c,m + 1,hd,hm,hl,hl2=>by
  have hk:k < b.counts.length:=by omega
  have hw:IntKind.i64.wrap ((k:Int) + 1) = (k:Int) + 1:=wrap_i64 (by omega) (by omega)
  obtain ⟨c',ih⟩:=l67b n b d (k + 1) (c + 1) m (by omega) (by omega) hl hl2
  have hdr:=List.drop_eq_getElem_cons hk
  have hlo:countOk b.lines.length b.counts[k] = (inB b.counts[k].a 0 b.lines.length && (!decide (b.counts[k].lo < 0) && (!decide (b.counts[k].hi < b.counts[k].lo) && !decide (2000 < b.counts[k].hi)))):=rfl
  generalize e1:inB b.counts[k].a 0 b.lines.length = b1 at hlo
  generalize e2:decide (b.counts[k].lo < 0) = b2 at hlo
  generalize e3:decide (b.counts[k].hi < b.counts[k].lo) = b3 at hlo
  generalize e4:decide (2000 < b.counts[k].hi) = b4 at hlo
  rw [loopA_succ,hdr]
  simp only [cellsB,encC,List.all_cons,hlo] at ih ⊢
  simp at ih
  cases b1 <;> cases b2 <;> cases b3 <;> cases b4 <;> simp only [Bool.and_true,Bool.and_false,Bool.true_and,Bool.false_and,Bool.false_eq_true,if_false,Bool.not_true,Bool.not_false]
  all_goals first | (refine ⟨c + 1,?_⟩; simp [hk,hw,encC,e1,e2,e3,e4]; done) | skip
  refine ⟨c',?_⟩
  simp [hk,hw,encC,e1,e2,e3,e4,ih]
theorem k67 (n:Nat) (b:Book):callK Try.prog kn (execA Try.prog ann kn (n+400)) 67 [.agg (cellsB b)] = some (i (faultB b)):=by
 rw [callK_of rfl,call0_eq Try.func67 b67 rfl (by simp [cellsB,encL,encC])]
 unfold faultB
 generalize e1:decide (8 < b.lines.length) = b1
 have e1':decide ((8:Int) < (b.lines.length:Int)) = b1:=by rw [← e1]; congr 1; apply propext; omega
 generalize e2:decide (4 < b.counts.length) = b2
 have e2':decide ((4:Int) < (b.counts.length:Int)) = b2:=by rw [← e2]; congr 1; apply propext; omega
 generalize e3:inB b.chairs 1 4 = b3
 generalize e4:inB b.coin 1 99 = b4
 generalize e5:inB b.box 0 999 = b5
 cases b1
 ·cases b2
  ·cases b3
   ·simp [c67,argFr,cellsB,e1',e2',e3]
   ·cases b4
    ·simp [c67,argFr,cellsB,e1',e2',e3,e4]
    ·cases b5
     ·simp [c67,argFr,cellsB,e1',e2',e3,e4,e5]
     ·have h14:1≤b.chairs∧b.chairs≤4:=by simpa [inB] using e3
      have hl:b.lines.length≤8:=by simpa using e1
      have hc:b.counts.length≤4:=by simpa using e2
      obtain ⟨c1,q1⟩:=l67a (n + 143) b h14.1 h14.2 b.lines.length 0 1 (n + 393) (by omega) (by omega) hl
      obtain ⟨c2,q2⟩:=l67b (n + 142) b b.counts.length 0 c1 (n + 392) (by omega) (by omega) hl hc
      have q3:=fun n=>k52 n b h14.1 h14.2 (by omega)
      generalize e6:b.lines.all (lineOk b.chairs) = b6
      generalize e7:b.counts.all (countOk b.lines.length) = b7
      generalize e8:decide (4096 < manyGo b.chairs 1 b.lines) = b8
      have e8':(4096 < manyGo b.chairs 1 b.lines) = (b8 = true):=by rw [← e8]; simp
      simp only [List.drop_zero,e6,e7,e8',cellsB,Nat.add_assoc,Nat.reduceAdd,Int.natCast_zero] at q1 q2 q3 ⊢
      cases b6
      ·simp [c67,argFr,cellsB,e1',e2',e3,e4,e5]
       simp at q1
       simp [q1]
      ·cases b7
       ·simp [c67,argFr,cellsB,e1',e2',e3,e4,e5]
        simp at q1 q2
        simp [q1,q2]
       ·simp [c67,argFr,cellsB,e1',e2',e3,e4,e5]
        simp at q1 q2
        simp [q1,q2,q3,e8,encL,encC]
        cases b8 <;> simp
  ·simp [c67,argFr,cellsB,e1',e2']
 ·simp [c67,argFr,cellsB,e1']
def thinB (b:Book):Bool:=decide (b.lines.length≤10) && (decide (b.counts.length≤6) && (!decide (faultB b = 0) || decide (manyGo b.chairs 1 b.lines≤100)))
theorem fault0 {b:Book} (h:faultB b = 0):1≤b.chairs∧b.chairs≤4∧b.lines.length≤8∧b.counts.length≤4∧1≤b.coin∧b.coin≤99∧0≤b.box∧b.box≤999∧b.lines.all (lineOk b.chairs) = true∧b.counts.all (countOk b.lines.length) = true∧manyGo b.chairs 1 b.lines≤4096:=by
 unfold faultB at h
 split at h
 ·omega
 ·rename_i h1
  split at h
  ·omega
  ·rename_i h2
   split at h
   ·omega
   ·rename_i h3
    split at h
    ·omega
    ·rename_i h4
     split at h
     ·omega
     ·rename_i h5
      simp [inB] at h1 h2
      simp only [Bool.not_eq_false] at h3 h4
      refine ⟨by omega,by omega,by omega,by omega,by omega,by omega,by omega,by omega,h3,h4,by omega⟩
theorem k19 (n:Nat) (b:Book):callK Try.prog kn (execA Try.prog ann kn (n+500)) 19 [.agg (cellsB b)] = some (.bool (thinB b)):=by
 rw [callK_of rfl,call0_eq Try.func19 b19 rfl (by simp [cellsB,encL,encC])]
 have h:=fun n=>k67 n b
 have h2:=fun n=>fun (h:faultB b = 0)=>k52 n b (fault0 h).1 (fault0 h).2.1 (by have:=(fault0 h).2.2.1; omega)
 unfold thinB
 generalize e1:decide (b.lines.length≤10) = b1
 have e1':decide ((b.lines.length:Int)≤10) = b1:=by rw [← e1]; congr 1; apply propext; omega
 generalize e2:decide (b.counts.length≤6) = b2
 have e2':decide ((b.counts.length:Int)≤6) = b2:=by rw [← e2]; congr 1; apply propext; omega
 generalize e3:decide (faultB b = 0) = b3
 generalize e4:decide (manyGo b.chairs 1 b.lines≤100) = b4
 simp only [cellsB] at h h2 ⊢
 cases b1
 ·simp [c19,argFr,e1']
 ·cases b2
  ·simp [c19,argFr,e1',e2']
  ·cases b3
   ·simp [c19,argFr,e1',e2',h,encL,encC,e3]
   ·have h2:=fun n=>h2 n (by simpa using e3)
    simp [c19,argFr,e1',e2',h,encL,encC,e3,h2,e4]
theorem k30 (n:Nat) (lo hi:Int):callK Try.prog kn (execA Try.prog ann kn (n+100)) 30 [.agg [i lo,i hi]] = some (.agg [i lo,i hi]):=by
 rw [callK_of rfl,call0_eq Try.func30 b30 rfl rfl]
 simp [c30,argFr]
theorem l35 (n:Nat) (ls:List Line) (hl:ls.length≤1000):∀ (d k:Nat) (out:List Line) (c γ m:Nat),k + d = ls.length→d < m→out.length≤k →
  ∃ c' γ',loopA (execA Try.prog ann kn (n+50) 31) lb35_3 (some ([0,3,4],[29])) m ⟨c,[(0,true,.list false (ls.map encL)),(3,true,pv 29 γ (out.map encL)),(4,true,i k)],⟨[],pl 29 γ 96 (out.map encL)⟩⟩ =
  some (.exit 0,⟨c',[(8,true,.bool false),(7,true,i ls.length),(6,true,.list false (ls.map encL)),(5,true,i ls.length),(0,true,.list false (ls.map encL)),(3,true,pv 29 γ' ((out ++ ls.drop k).map encL)),(4,true,i ls.length)],⟨[],pl 29 γ' 96 ((out ++ ls.drop k).map encL)⟩⟩)
 | 0,k,out,c,γ,m + 1,hd,hm,ho=>by
  have:k = ls.length:=by omega
  subst this
  refine ⟨c,γ,?_⟩
  simp [loopA_succ]
 | d + 1,k,out,c,γ,m + 1,hd,hm,ho=>by
  have hk:k < ls.length:=by omega
  have hw:IntKind.i64.wrap ((k:Int) + 1) = (k:Int) + 1:=wrap_i64 (by omega) (by omega)
  obtain ⟨c',γ',ih⟩:=l35 n ls hl d (k + 1) (out ++ [ls[k]]) (c + 1) c m (by omega) (by omega) (by simp; omega)
  refine ⟨c',γ',?_⟩
  have ho':appOK Try.prog 96 out.length [[i ls[k].k,i ls[k].c,i ls[k].t]] = true:=by
   rw [appOK_iff (by simp) (by simp)]
   simp [maxLen]; omega
  rw [loopA_succ,List.drop_eq_getElem_cons hk]
  simp only [List.map_append,List.map_cons,List.map_nil,pl_snoc,encL,List.append_assoc,List.cons_append,List.nil_append] at ih ⊢
  simp at ih
  simp [hk,hw,encL,ho',ih]
theorem k35 (n:Nat) (ls:List Line) (hl:ls.length≤500):callK Try.prog kn (execA Try.prog ann kn (n+600)) 35 [.list false (ls.map encL)] = some (sl (ls.map encL)):=by
 rw [callK_of rfl,call0_eq Try.func35 b35 rfl (by simp [encL])]
 obtain ⟨c',γ',ih⟩:=l35 (n + 544) ls (by omega) ls.length 0 [] 0 0 (n + 594) (by omega) (by omega) (by simp)
 have hcl:((ls).map encL).all (fun e=>e.all (closedV 8)) = true:=by simp [encL]
 simp only [Nat.add_assoc,Nat.reduceAdd] at ih
 simp at ih hcl
 simp [c35,argFr,ih]
 exact hcl

theorem l22 (n:Nat) (b:Book) (hl:b.counts.length≤1000):∀ (d k:Nat) (out:List Count) (c γ m:Nat),k + d = b.counts.length→d < m→out.length≤k→3≤c →
  ∃ c' γ':Nat,3≤c'∧loopA (execA Try.prog ann kn (n+250) 42) lb22_3 (some ([1,2,3,4],[1,2,3,13,39])) m ⟨c,[(1,true,.ptr 0 1 0 0),(2,true,.ptr 0 2 1 0),(3,true,.ptr 0 3 2 0),(4,true,i k)],
   ⟨[],(1,0,.box (cellsB b)) :: (2,1,.box [i 0,i 0,i 0,.nil,.nil]) :: (3,2,.box [i b.chairs,i b.coin,i b.box,sl (b.lines.map encL),pv 39 γ (out.map encC)]) :: pl 39 γ 99 (out.map encC)⟩⟩ = some (.exit 0,⟨c',[(19,true,.bool false),(18,true,i b.counts.length),(17,true,.list false (b.counts.map encC)),(16,true,.ptr 0 1 0 4),(15,true,i b.counts.length),(1,true,.ptr 0 1 0 0),(2,true,.ptr 0 2 1 0),(3,true,.ptr 0 3 2 0),(4,true,i b.counts.length)],
   ⟨[],(1,0,.box (cellsB b)) :: (2,1,.box [i 0,i 0,i 0,.nil,.nil]) :: (3,2,.box [i b.chairs,i b.coin,i b.box,sl (b.lines.map encL),pv 39 γ' ((out ++ b.counts.drop k).map encC)]) :: pl 39 γ' 99 ((out ++ b.counts.drop k).map encC)⟩⟩)
 | 0,k,out,c,γ,m + 1,hd,hm,ho,hc=>by
  have:k = b.counts.length:=by omega
  subst this
  refine ⟨c,γ,hc,?_⟩
  simp [loopA_succ,cellsB]
 | d + 1,k,out,c,γ,m + 1,hd,hm,ho,hc=>by
  have hk:k < b.counts.length:=by omega
  have hw:IntKind.i64.wrap ((k:Int) + 1) = (k:Int) + 1:=wrap_i64 (by omega) (by omega)
  obtain ⟨c',γ',i1,ih⟩:=l22 n b hl d (k + 1) (out ++ [b.counts[k]]) (c + 1) c m (by omega) (by omega) (by simp; omega) (by omega)
  refine ⟨c',γ',i1,?_⟩
  have ho':appOK Try.prog 99 out.length [[i b.counts[k].a,i b.counts[k].lo,i b.counts[k].hi]] = true:=by
   rw [appOK_iff (by simp) (by simp)]
   simp [maxLen]; omega
  have h30:=fun n=>k30 n b.counts[k].lo b.counts[k].hi
  rw [loopA_succ,List.drop_eq_getElem_cons hk]
  simp only [List.map_append,List.map_cons,List.map_nil,pl_snoc,encC,List.append_assoc,List.cons_append,List.nil_append,cellsB] at ih ⊢
  simp at ih
  have hc2:2 < c + 1:=by omega
  simp [hk,hw,encC,ho',h30,apK,hc2,ih]

def cellsT (b:Book):List V:=[i b.chairs,i b.coin,i b.box,.list false (b.lines.map encL),.list false (b.counts.map encC)]
def cellsR (b:Book):List V:=[i b.chairs,i b.coin,i b.box,sl (b.lines.map encL),sl (b.counts.map encC)]
theorem k22 (n:Nat) (b:Book) (hl:b.lines.length≤500) (hc:b.counts.length≤500):callK Try.prog kn (execA Try.prog ann kn (n+700)) 22 [.agg (cellsB b)] = some (.agg (cellsR b)):=by
 rw [callK_of rfl,call0_eq Try.func22 b22 rfl (by simp [cellsB,encL,encC])]
 obtain ⟨c',γ',i1,ih⟩:=l22 (n + 444) b (by omega) b.counts.length 0 [] 3 0 (n + 694) (by omega) (by omega) (by simp) (by omega)
 have h35:=fun n=>k35 n b.lines hl
 simp only [Nat.add_assoc,Nat.reduceAdd,cellsB,cellsR] at ih ⊢
 simp at ih
 have hc1:1 < c':=by omega
 have hcl:(b.lines.map encL).all (fun e=>e.all (closedV 7)) = true:=by simp [encL]
 have hcl2:(b.counts.map encC).all (fun e=>e.all (closedV 7)) = true:=by simp [encC]
 simp at hcl hcl2
 simp [c22,argFr,h35,encL,ih,hc1,closeX_pv (T:=99)]
 exact hcl2
def encI (n:Int):List V:=[i n]
def rng (a:Int):Nat→List Int
 | 0=>[]
 | d + 1=>a :: rng (a + 1) d
theorem rng_len (a:Int):∀ d,(rng a d).length = d
 | 0=>rfl
 | d + 1=>by simp [rng,rng_len (a + 1) d]
def ways (sign none a b:Int):List Int:=if sign = none then rng a (b + 1 - a).toNat else [sign]
theorem l107 (n:Nat) (b:Int) (hb:b≤100):∀ (d:Nat) (a:Int) (out:List Int) (c γ m:Nat),a + d = b + 1→d < m→0≤a→out.length + d≤1000 →
  ∃ c' γ':Nat,loopA (execA Try.prog ann kn (n+50) 26) lb107_4 (some ([3,8,9],[24])) m ⟨c,[(3,true,i b),(8,true,pv 24 γ (out.map encI)),(9,true,i a)],⟨[],pl 24 γ 3 (out.map encI)⟩⟩ =
  some (.exit 0,⟨c',[(18,true,.bool false),(17,true,i b),(16,true,i (b + 1)),(3,true,i b),(8,true,pv 24 γ' ((out ++ rng a d).map encI)),(9,true,i (b + 1))],⟨[],pl 24 γ' 3 ((out ++ rng a d).map encI)⟩⟩)
 | 0,a,out,c,γ,m + 1,hd,hm,ha,ho=>by
  have:a = b + 1:=by omega
  subst this
  have e:decide (b + 1≤b) = false:=by simp; omega
  refine ⟨c,γ,?_⟩
  simp [loopA_succ,rng,e]
 | d + 1,a,out,c,γ,m + 1,hd,hm,ha,ho=>by
  have e:decide (a≤b) = true:=by simp; omega
  have hw:IntKind.i64.wrap (a + 1) = a + 1:=wrap_i64 (by omega) (by omega)
  obtain ⟨c',γ',ih⟩:=l107 n b hb d (a + 1) (out ++ [a]) (c + 1) c m (by omega) (by omega) (by omega) (by simp; omega)
  refine ⟨c',γ',?_⟩
  have ho':appOK Try.prog 3 out.length [[i a]] = true:=by
   rw [appOK_iff (by simp) (by simp)]
   simp [maxLen]; omega
  rw [loopA_succ]
  simp only [rng,List.map_append,List.map_cons,List.map_nil,pl_snoc,encI,List.append_assoc,List.cons_append,List.nil_append] at ih ⊢
  simp [hw,encI,ho',e,ih]
theorem k107 (n:Nat) (sg no a b:Int) (hb:b≤100) (ha:0≤a) (hab:a≤b + 1):callK Try.prog kn (execA Try.prog ann kn (n+200)) 107 [i sg,i no,i a,i b] = some (sl ((ways sg no a b).map encI)):=by
 rw [callK_of rfl,call0_eq Try.func107 b107 rfl rfl]
 obtain ⟨c',γ',ih⟩:=l107 (n + 144) b hb (b + 1 - a).toNat a [] 0 0 (n + 194) (by omega) (by omega) ha (by simp; omega)
 unfold ways
 by_cases h:sg = no
 ·have hcl:((rng a (b + 1 - a).toNat).map encI).all (fun e=>e.all (closedV 8)) = true:=by simp [encI]
  simp only [Nat.add_assoc,Nat.reduceAdd] at ih
  simp at ih hcl
  simp [c107,argFr,h,ih]
  exact hcl
 ·have e:decide (sg = no) = false:=by simpa using h
  simp [c107,argFr,h,encI,sl]

def rd3 (k ch:Int) (zs:List Int):List Line:=zs.map fun t=>⟨k,ch,t⟩
theorem l81c (n:Nat) (b:Book) (l:Line) (k ch:Int) (xs ys zs:List Int) (ix iy:Nat) (hz:zs.length≤100):∀ (d j:Nat) (out:List Line) (c γ m:Nat),j + d = zs.length→d < m→out.length≤10000 + j →
  ∃ c' γ':Nat,loopA (execA Try.prog ann kn (n+50) 52) lb81_8 (some ([2,3,4,6,8,13,14,15,24,25,26,35,36,37],[2,3,13,24,35,47])) m ⟨c,[(2,true,.ptr 0 2 0 0),(3,true,.ptr 0 3 1 0),(4,true,pv 47 γ (out.map encL)),(6,true,i k),(8,true,i ch),(13,true,sl (xs.map encI)),(14,true,i xs.length),(15,true,i ix),(24,true,sl (ys.map encI)),(25,true,i ys.length),(26,true,i iy),(35,true,sl (zs.map encI)),(36,true,i zs.length),(37,true,i j)],⟨[],(2,0,.box (cellsT b)) :: (3,1,.box (encL l)) :: pl 47 γ 96 (out.map encL)⟩⟩ =
  some (.exit 4,⟨c',[(38,true,.bool false),(2,true,.ptr 0 2 0 0),(3,true,.ptr 0 3 1 0),(4,true,pv 47 γ' ((out ++ rd3 k ch (zs.drop j)).map encL)),(6,true,i k),(8,true,i ch),(13,true,sl (xs.map encI)),(14,true,i xs.length),(15,true,i ix),(24,true,sl (ys.map encI)),(25,true,i ys.length),(26,true,i iy),(35,true,sl (zs.map encI)),(36,true,i zs.length),(37,true,i zs.length)],⟨[],(2,0,.box (cellsT b)) :: (3,1,.box (encL l)) :: pl 47 γ' 96 ((out ++ rd3 k ch (zs.drop j)).map encL)⟩⟩)
 | 0,j,out,c,γ,m + 1,hd,hm,ho=>by
  have:j = zs.length:=by omega
  subst this
  refine ⟨c,γ,?_⟩
  simp [loopA_succ,rd3]
 | d + 1,j,out,c,γ,m + 1,hd,hm,ho=>by
  have hj:j < zs.length:=by omega
  have hw:IntKind.i64.wrap ((j:Int) + 1) = (j:Int) + 1:=wrap_i64 (by omega) (by omega)
  obtain ⟨c',γ',ih⟩:=l81c n b l k ch xs ys zs ix iy hz d (j + 1) (out ++ [⟨k,ch,zs[j]⟩]) (c + 1) c m (by omega) (by omega) (by simp; omega)
  refine ⟨c',γ',?_⟩
  have ho':appOK Try.prog 96 out.length [[i k,i ch,i zs[j]]] = true:=by
   rw [appOK_iff (by simp) (by simp)]
   simp [maxLen]; omega
  rw [loopA_succ,List.drop_eq_getElem_cons hj]
  simp only [rd3,List.map_append,List.map_cons,List.map_nil,pl_snoc,encL,List.append_assoc,List.cons_append,List.nil_append] at ih ⊢
  simp at ih
  simp [hj,hw,encI,encL,ho',ih]
def rd2 (C:Int) (l:Line) (k:Int) (ys:List Int):List Line:=ys.flatMap fun ch=>rd3 k ch (ways l.t (-1) 0 (C - 1))
theorem ways_len (sg no a b:Int) (h:b + 1 - a≤4):(ways sg no a b).length≤4:=by
 unfold ways
 split
 ·rw [rng_len]; omega
 ·simp
theorem l81b (n:Nat) (b:Book) (l:Line) (h1:1≤b.chairs) (h4:b.chairs≤4) (k:Int) (xs ys:List Int) (ix:Nat) (hz:ys.length≤100):∀ (d j:Nat) (out:List Line) (c γ m:Nat),j + d = ys.length→d < m→out.length≤1000 + 4 * j →
  ∃ c' γ':Nat,loopA (execA Try.prog ann kn (n+300) 52) lb81_5 (some ([2,3,4,6,13,14,15,24,25,26],[2,3,13,24,47])) m ⟨c,[(2,true,.ptr 0 2 0 0),(3,true,.ptr 0 3 1 0),(4,true,pv 47 γ (out.map encL)),(6,true,i k),(13,true,sl (xs.map encI)),(14,true,i xs.length),(15,true,i ix),(24,true,sl (ys.map encI)),(25,true,i ys.length),(26,true,i j)],⟨[],(2,0,.box (cellsT b)) :: (3,1,.box (encL l)) :: pl 47 γ 96 (out.map encL)⟩⟩ =
  some (.exit 2,⟨c',[(27,true,.bool false),(2,true,.ptr 0 2 0 0),(3,true,.ptr 0 3 1 0),(4,true,pv 47 γ' ((out ++ rd2 b.chairs l k (ys.drop j)).map encL)),(6,true,i k),(13,true,sl (xs.map encI)),(14,true,i xs.length),(15,true,i ix),(24,true,sl (ys.map encI)),(25,true,i ys.length),(26,true,i ys.length)],⟨[],(2,0,.box (cellsT b)) :: (3,1,.box (encL l)) :: pl 47 γ' 96 ((out ++ rd2 b.chairs l k (ys.drop j)).map encL)⟩⟩)
 | 0,j,out,c,γ,m + 1,hd,hm,ho=>by
  have:j = ys.length:=by omega
  subst this
  refine ⟨c,γ,?_⟩
  simp [loopA_succ,rd2]
 | d + 1,j,out,c,γ,m + 1,hd,hm,ho=>by
  have hj:j < ys.length:=by omega
  have hw:IntKind.i64.wrap ((j:Int) + 1) = (j:Int) + 1:=wrap_i64 (by omega) (by omega)
  have hw2:IntKind.i64.wrap (b.chairs - 1) = b.chairs - 1:=wrap_i64 (by omega) (by omega)
  have hwl:=ways_len l.t (-1) 0 (b.chairs - 1) (by omega)
  have hk:=fun n=>k107 n l.t (-1) 0 (b.chairs - 1) (by omega) (by omega) (by omega)
  obtain ⟨c1,γ1,q⟩:=l81c (n + 242) b l k ys[j] xs ys (ways l.t (-1) 0 (b.chairs - 1)) ix j (by omega) (ways l.t (-1) 0 (b.chairs - 1)).length 0 out c γ (n + 292) (by omega) (by omega) (by omega)
  obtain ⟨c',γ',ih⟩:=l81b n b l h1 h4 k xs ys ix hz d (j + 1) (out ++ rd3 k ys[j] (ways l.t (-1) 0 (b.chairs - 1))) c1 γ1 m (by omega) (by omega) (by simp [rd3]; omega)
  refine ⟨c',γ',?_⟩
  rw [loopA_succ,List.drop_eq_getElem_cons hj]
  simp only [rd2,List.flatMap_cons,List.map_append,List.append_assoc,Nat.add_assoc,Nat.reduceAdd,cellsT,encL,List.drop_zero] at ih q ⊢
  simp at ih q
  simp [hj,hw,hw2,encI,hk,q,ih]

def rd1 (C:Int) (l:Line) (xs:List Int):List Line:=xs.flatMap fun k=>rd2 C l k (ways l.c (-1) 0 (C - 1))
theorem rd3_len (k ch:Int) (zs:List Int):(rd3 k ch zs).length = zs.length:=by simp [rd3]
theorem rd2_len (C:Int) (l:Line) (k:Int) (hC:C≤4):∀ (ys:List Int),(rd2 C l k ys).length≤4 * ys.length
 | []=>by simp [rd2]
 | y :: ys=>by
  have:=rd2_len C l k hC ys
  have h2:=ways_len l.t (-1) 0 (C - 1) (by omega)
  simp only [rd2,List.flatMap_cons,List.length_append,rd3_len,List.length_cons] at this ⊢
  omega
theorem l81a (n:Nat) (b:Book) (l:Line) (h1:1≤b.chairs) (h4:b.chairs≤4) (xs:List Int) (hz:xs.length≤10):∀ (d j:Nat) (out:List Line) (c γ m:Nat),j + d = xs.length→d < m→out.length≤16 * j →
  ∃ c' γ':Nat,loopA (execA Try.prog ann kn (n+400) 52) lb81_2 (some ([2,3,4,13,14,15],[2,3,13,47])) m ⟨c,[(2,true,.ptr 0 2 0 0),(3,true,.ptr 0 3 1 0),(4,true,pv 47 γ (out.map encL)),(13,true,sl (xs.map encI)),(14,true,i xs.length),(15,true,i j)],⟨[],(2,0,.box (cellsT b)) :: (3,1,.box (encL l)) :: pl 47 γ 96 (out.map encL)⟩⟩ =
  some (.exit 0,⟨c',[(16,true,.bool false),(2,true,.ptr 0 2 0 0),(3,true,.ptr 0 3 1 0),(4,true,pv 47 γ' ((out ++ rd1 b.chairs l (xs.drop j)).map encL)),(13,true,sl (xs.map encI)),(14,true,i xs.length),(15,true,i xs.length)],⟨[],(2,0,.box (cellsT b)) :: (3,1,.box (encL l)) :: pl 47 γ' 96 ((out ++ rd1 b.chairs l (xs.drop j)).map encL)⟩⟩)
 | 0,j,out,c,γ,m + 1,hd,hm,ho=>by
  have:j = xs.length:=by omega
  subst this
  refine ⟨c,γ,?_⟩
  simp [loopA_succ,rd1]
 | d + 1,j,out,c,γ,m + 1,hd,hm,ho=>by
  have hj:j < xs.length:=by omega
  have hw:IntKind.i64.wrap ((j:Int) + 1) = (j:Int) + 1:=wrap_i64 (by omega) (by omega)
  have hw2:IntKind.i64.wrap (b.chairs - 1) = b.chairs - 1:=wrap_i64 (by omega) (by omega)
  have hwl:=ways_len l.c (-1) 0 (b.chairs - 1) (by omega)
  have hrl:=rd2_len b.chairs l xs[j] h4 (ways l.c (-1) 0 (b.chairs - 1))
  have hk:=fun n=>k107 n l.c (-1) 0 (b.chairs - 1) (by omega) (by omega) (by omega)
  obtain ⟨c1,γ1,q⟩:=l81b (n + 92) b l h1 h4 xs[j] xs (ways l.c (-1) 0 (b.chairs - 1)) j (by omega) (ways l.c (-1) 0 (b.chairs - 1)).length 0 out c γ (n + 392) (by omega) (by omega) (by omega)
  obtain ⟨c',γ',ih⟩:=l81a n b l h1 h4 xs hz d (j + 1) (out ++ rd2 b.chairs l xs[j] (ways l.c (-1) 0 (b.chairs - 1))) c1 γ1 m (by omega) (by omega) (by simp; omega)
  refine ⟨c',γ',?_⟩
  rw [loopA_succ,List.drop_eq_getElem_cons hj]
  simp only [rd1,List.flatMap_cons,List.map_append,List.append_assoc,Nat.add_assoc,Nat.reduceAdd,cellsT,encL,List.drop_zero] at ih q ⊢
  simp at ih q
  simp [hj,hw,hw2,encI,hk,q,ih]
def readingsP (C:Int) (l:Line):List Line:=rd1 C l (ways l.k 0 1 2)
theorem k81 (n:Nat) (b:Book) (l:Line) (h1:1≤b.chairs) (h4:b.chairs≤4):callK Try.prog kn (execA Try.prog ann kn (n+500)) 81 [.agg (cellsT b),.agg (encL l)] = some (sl ((readingsP b.chairs l).map encL)):=by
 rw [callK_of rfl,call0_eq Try.func81 b81 rfl (by simp [cellsT,encL,encC])]
 have hwl:=ways_len l.k 0 1 2 (by omega)
 have hk:=fun n=>k107 n l.k 0 1 2 (by omega) (by omega) (by omega)
 obtain ⟨c',γ',ih⟩:=l81a (n + 95) b l h1 h4 (ways l.k 0 1 2) (by omega) (ways l.k 0 1 2).length 0 [] 2 0 (n + 495) (by omega) (by omega) (by simp)
 have hcl:((readingsP b.chairs l).map encL).all (fun e=>e.all (closedV 8)) = true:=by simp [encL]
 simp only [Nat.add_assoc,Nat.reduceAdd,cellsT,encL] at ih ⊢
 simp [readingsP] at ih hcl
 simp [c81,argFr,hk,ih,readingsP]
 exact hcl
end Go.Proofs.Try.Op
/- Contracts: slices.ContainsFunc, and 'all' for lines, and for counts. No condition. -/
open Go Go.Pg Go.Proofs
namespace Go.Pg
@[simp] theorem unsnoc_snoc {α:Type} (x:α):∀ (l:List α),unsnoc (l ++ [x]) = some (l,x)
 | []=>rfl
 | [y]=>rfl
 | y :: z :: l=>by
  have:=unsnoc_snoc x (z :: l)
  simp only [List.cons_append] at this ⊢
  rw [unsnoc_more,this]; rfl
end Go.Pg
namespace Go.Proofs.Try.Op
@[simp] theorem whole_128 (cs:List V):whole Try.prog 128 cs = cs[0]?:=by kernel_rfl
@[simp] theorem whole_137 (cs:List V):whole Try.prog 137 cs = cs[0]?:=by kernel_rfl
set_option maxRecDepth 100000
set_option linter.unusedSimpArgs false

def PredLine (up:List Level) (K:Nat) (f:FuncId) (cap:List V) (p:Line→Bool) (xs:List Line):Prop:=∀ n c fr x,x ∈ xs→∃ c',c≤c'∧ca2 (envA Try.prog ann kn (n + K)) (some 16) ⟨c,fr,⟨up,[]⟩⟩ f (.agg (encL x) :: cap) = some ⟨c',(16,true,.bool (p x)) :: fr,⟨up,[]⟩⟩
theorem l106 (n K:Nat) (up:List Level) (f:FuncId) (cap:List V) (hcw:cap.map weakV = cap) (p:Line→Bool) (xs:List Line) (hp:PredLine up K f cap p xs) (hl:xs.length≤1000):∀ (d k:Nat) (c m:Nat),k + d = xs.length→d < m →
  ∃ (c':Nat) (j:Int),c≤c'∧0≤j∧loopA (execA Try.prog ann kn (n+K+50) 19) lb106_2 (some ([0,1,3,7,8],[3])) m ⟨c,[(0,true,V.list false (xs.map encL)),(1,true,.fn f [] cap),(7,true,i xs.length),(8,true,i k)],⟨up,[]⟩⟩ =
   bif (xs.drop k).any p then some (.ret,⟨c',[(4,true,i j),(17,true,i j),(5,true,i j)],⟨up,[]⟩⟩)
   else some (.exit 0,⟨c',[(9,true,.bool false),(0,true,V.list false (xs.map encL)),(1,true,.fn f [] cap),(7,true,i xs.length),(8,true,i xs.length)],⟨up,[]⟩⟩)
 | 0,k,c,m + 1,hd,hm=>by
  have:k = xs.length:=by omega
  subst this
  refine ⟨c,0,Nat.le_refl _,by omega,?_⟩
  simp [loopA_succ]
 | d + 1,k,c,m + 1,hd,hm=>by
  have hk:k < xs.length:=by omega
  have hw:IntKind.i64.wrap ((k:Int) + 1) = (k:Int) + 1:=wrap_i64 (by omega) (by omega)
  have nrm:∀ a:Nat,n + K + a = (n + a) + K:=fun a=>by omega
  rw [loopA_succ,List.drop_eq_getElem_cons hk,List.any_cons]
  obtain ⟨c1,hc1,q⟩:=hp (n + 43) c [(15,true,.agg (encL xs[k])),(14,true,.ref (encL xs[k])),(13,true,i k),(12,true,V.list false (xs.map encL)),(11,true,.fn f [] cap),(0,true,V.list false (xs.map encL)),(1,true,.fn f [] cap),(5,true,i k),(7,true,i xs.length),(8,true,i k)] xs[k] (List.getElem_mem hk)
  obtain ⟨c',j,h1,h2,ih⟩:=l106 n K up f cap hcw p xs hp hl d (k + 1) c1 m (by omega) (by omega)
  generalize e:p xs[k] = b at q
  simp only [encL] at q ih
  rw [← nrm] at q
  simp at q ih
  cases b with
  | true =>
   refine ⟨c1,k,hc1,by omega,?_⟩
   simp [hk,hw,encL,q,hcw]
  | false =>
   refine ⟨c',j,by omega,h2,?_⟩
   simp [hk,hw,encL,q,ih,hcw]
theorem k106 (n K:Nat) (up:List Level) (f:FuncId) (cap:List V) (hcw:cap.map weakV = cap) (hco:cap.all (closedV 8) = false) (p:Line→Bool) (xs:List Line) (loc:Level) (hp:PredLine (up ++ [loc]) K f cap p xs) (hl:xs.length≤40) (hsh:∀ s:St,up.length + 1≤s.up.length→(up ++ [loc]).map (shutLv s) = up ++ [loc]) (c dd:Nat) (fr:Fr) :
  ∃ (c':Nat) (j:Int),c≤c'∧decide (0≤j) = xs.any p∧ca2 (envA Try.prog ann kn (n+K+100)) (some dd) ⟨c,fr,⟨up,loc⟩⟩ 106 [V.list false (xs.map encL),.fn f [] cap] = some ⟨c',(dd,true,i j) :: fr,⟨up,loc⟩⟩:=by
 obtain ⟨c1,j,h1,h2,q⟩:=l106 (n + 45) K (up ++ [loc]) f cap hcw p xs hp (by omega) xs.length 0 c (n + K + 95) (by omega) (by omega)
 have e:n + 45 + K + 50 = n + K + 95:=by omega
 rw [e] at q
 have hcl:([V.list false (xs.map encL),V.fn f [] cap]).all (closedV 9) = false:=by simp [hco]
 have hs:=hsh ⟨up ++ [loc],[]⟩ (by simp)
 simp at hs
 rw [cf_open Try.func106 b106 rfl hcl]
 simp only [List.drop_zero] at q
 generalize e:xs.any p = b at q
 cases b with
 | true =>
  refine ⟨c1,j,h1,by simpa using h2,?_⟩
  simp at q
  simp [c106,argFr,q,hs]
 | false =>
  refine ⟨c1,-1,h1,by simp,?_⟩
  simp at q
  simp [c106,argFr,q,hs]
theorem k113 (n K:Nat) (up:List Level) (f:FuncId) (cap:List V) (hcw:cap.map weakV = cap) (hco:cap.all (closedV 8) = false) (p:Line→Bool) (xs:List Line) (loc:Level) (hp:PredLine (up ++ [loc] ++ [[]]) K f cap p xs) (hl:xs.length≤40) (hsh:∀ s:St,up.length + 1≤s.up.length→(up ++ [loc]).map (shutLv s) = up ++ [loc]) (c dd:Nat) (fr:Fr) :
  ∃ c':Nat,c≤c'∧ca2 (envA Try.prog ann kn (n+K+200)) (some dd) ⟨c,fr,⟨up,loc⟩⟩ 113 [V.list false (xs.map encL),.fn f [] cap] = some ⟨c',(dd,true,.bool (xs.any p)) :: fr,⟨up,loc⟩⟩:=by
 have hcl:([V.list false (xs.map encL),V.fn f [] cap]).all (closedV 9) = false:=by simp [hco]
 have hsh2:∀ s:St,(up ++ [loc]).length + 1≤s.up.length→(up ++ [loc] ++ [[]]).map (shutLv s) = up ++ [loc] ++ [[]]:=fun s h=>by
  have:=hsh s (by simp at h; omega)
  simp only [List.map_append,List.map_cons,List.map_nil,shutLv_nil] at this ⊢
  rw [this]
 obtain ⟨c1,j,h1,h2,q⟩:=k106 (n + 97) K (up ++ [loc]) f cap hcw hco p xs [] hp hl hsh2 c 7 [(6,true,.fn f [] cap),(5,true,V.list false (xs.map encL)),(0,true,V.list false (xs.map encL)),(1,true,.fn f [] cap)]
 refine ⟨c1,h1,?_⟩
 have e:n + 97 + K + 100 = n + K + 197:=by omega
 rw [e] at q
 have hs:=hsh ⟨up ++ [loc],[]⟩ (by simp)
 simp at hs
 rw [cf_open Try.func113 b113 rfl hcl]
 simp [c113,argFr,hcw,q,h2,hs]

def PredCount (up:List Level) (K:Nat) (f:FuncId) (cap:List V) (p:Count→Bool) (xs:List Count):Prop:=∀ n c fr x,x ∈ xs→∃ c',c≤c'∧ca2 (envA Try.prog ann kn (n + K)) (some 16) ⟨c,fr,⟨up,[]⟩⟩ f (.agg (encC x) :: cap) = some ⟨c',(16,true,.bool (p x)) :: fr,⟨up,[]⟩⟩
theorem l121 (n K:Nat) (up:List Level) (f:FuncId) (cap:List V) (hcw:cap.map weakV = cap) (p:Count→Bool) (xs:List Count) (hp:PredCount up K f cap p xs) (hl:xs.length≤1000):∀ (d k:Nat) (c m:Nat),k + d = xs.length→d < m →
  ∃ (c':Nat) (j:Int),c≤c'∧0≤j∧loopA (execA Try.prog ann kn (n+K+50) 19) lb121_2 (some ([0,1,3,7,8],[3])) m ⟨c,[(0,true,V.list false (xs.map encC)),(1,true,.fn f [] cap),(7,true,i xs.length),(8,true,i k)],⟨up,[]⟩⟩ =
   bif (xs.drop k).any p then some (.ret,⟨c',[(4,true,i j),(17,true,i j),(5,true,i j)],⟨up,[]⟩⟩)
   else some (.exit 0,⟨c',[(9,true,.bool false),(0,true,V.list false (xs.map encC)),(1,true,.fn f [] cap),(7,true,i xs.length),(8,true,i xs.length)],⟨up,[]⟩⟩)
 | 0,k,c,m + 1,hd,hm=>by
  have:k = xs.length:=by omega
  subst this
  refine ⟨c,0,Nat.le_refl _,by omega,?_⟩
  simp [loopA_succ]
 | d + 1,k,c,m + 1,hd,hm=>by
  have hk:k < xs.length:=by omega
  have hw:IntKind.i64.wrap ((k:Int) + 1) = (k:Int) + 1:=wrap_i64 (by omega) (by omega)
  have nrm:∀ a:Nat,n + K + a = (n + a) + K:=fun a=>by omega
  rw [loopA_succ,List.drop_eq_getElem_cons hk,List.any_cons]
  obtain ⟨c1,hc1,q⟩:=hp (n + 43) c [(15,true,.agg (encC xs[k])),(14,true,.ref (encC xs[k])),(13,true,i k),(12,true,V.list false (xs.map encC)),(11,true,.fn f [] cap),(0,true,V.list false (xs.map encC)),(1,true,.fn f [] cap),(5,true,i k),(7,true,i xs.length),(8,true,i k)] xs[k] (List.getElem_mem hk)
  obtain ⟨c',j,h1,h2,ih⟩:=l121 n K up f cap hcw p xs hp hl d (k + 1) c1 m (by omega) (by omega)
  generalize e:p xs[k] = b at q
  simp only [encC] at q ih
  rw [← nrm] at q
  simp at q ih
  cases b with
  | true =>
   refine ⟨c1,k,hc1,by omega,?_⟩
   simp [hk,hw,encC,q,hcw]
  | false =>
   refine ⟨c',j,by omega,h2,?_⟩
   simp [hk,hw,encC,q,ih,hcw]
theorem k121 (n K:Nat) (up:List Level) (f:FuncId) (cap:List V) (hcw:cap.map weakV = cap) (hco:cap.all (closedV 8) = false) (p:Count→Bool) (xs:List Count) (loc:Level) (hp:PredCount (up ++ [loc]) K f cap p xs) (hl:xs.length≤40) (hsh:∀ s:St,up.length + 1≤s.up.length→(up ++ [loc]).map (shutLv s) = up ++ [loc]) (c dd:Nat) (fr:Fr) :
  ∃ (c':Nat) (j:Int),c≤c'∧decide (0≤j) = xs.any p∧ca2 (envA Try.prog ann kn (n+K+100)) (some dd) ⟨c,fr,⟨up,loc⟩⟩ 121 [V.list false (xs.map encC),.fn f [] cap] = some ⟨c',(dd,true,i j) :: fr,⟨up,loc⟩⟩:=by
 obtain ⟨c1,j,h1,h2,q⟩:=l121 (n + 45) K (up ++ [loc]) f cap hcw p xs hp (by omega) xs.length 0 c (n + K + 95) (by omega) (by omega)
 have e:n + 45 + K + 50 = n + K + 95:=by omega
 rw [e] at q
 have hcl:([V.list false (xs.map encC),V.fn f [] cap]).all (closedV 9) = false:=by simp [hco]
 have hs:=hsh ⟨up ++ [loc],[]⟩ (by simp)
 simp at hs
 rw [cf_open Try.func121 b121 rfl hcl]
 simp only [List.drop_zero] at q
 generalize e:xs.any p = b at q
 cases b with
 | true =>
  refine ⟨c1,j,h1,by simpa using h2,?_⟩
  simp at q
  simp [c121,argFr,q,hs]
 | false =>
  refine ⟨c1,-1,h1,by simp,?_⟩
  simp at q
  simp [c121,argFr,q,hs]
theorem k115 (n K:Nat) (up:List Level) (f:FuncId) (cap:List V) (hcw:cap.map weakV = cap) (hco:cap.all (closedV 8) = false) (p:Count→Bool) (xs:List Count) (loc:Level) (hp:PredCount (up ++ [loc] ++ [[]]) K f cap p xs) (hl:xs.length≤40) (hsh:∀ s:St,up.length + 1≤s.up.length→(up ++ [loc]).map (shutLv s) = up ++ [loc]) (c dd:Nat) (fr:Fr) :
  ∃ c':Nat,c≤c'∧ca2 (envA Try.prog ann kn (n+K+200)) (some dd) ⟨c,fr,⟨up,loc⟩⟩ 115 [V.list false (xs.map encC),.fn f [] cap] = some ⟨c',(dd,true,.bool (xs.any p)) :: fr,⟨up,loc⟩⟩:=by
 have hcl:([V.list false (xs.map encC),V.fn f [] cap]).all (closedV 9) = false:=by simp [hco]
 have hsh2:∀ s:St,(up ++ [loc]).length + 1≤s.up.length→(up ++ [loc] ++ [[]]).map (shutLv s) = up ++ [loc] ++ [[]]:=fun s h=>by
  have:=hsh s (by simp at h; omega)
  simp only [List.map_append,List.map_cons,List.map_nil,shutLv_nil] at this ⊢
  rw [this]
 obtain ⟨c1,j,h1,h2,q⟩:=k121 (n + 97) K (up ++ [loc]) f cap hcw hco p xs [] hp hl hsh2 c 7 [(6,true,.fn f [] cap),(5,true,V.list false (xs.map encC)),(0,true,V.list false (xs.map encC)),(1,true,.fn f [] cap)]
 refine ⟨c1,h1,?_⟩
 have e:n + 97 + K + 100 = n + K + 197:=by omega
 rw [e] at q
 have hs:=hsh ⟨up ++ [loc],[]⟩ (by simp)
 simp at hs
 rw [cf_open Try.func115 b115 rfl hcl]
 simp [c115,argFr,hcw,q,h2,hs]
theorem dec_not {p q:Prop} [Decidable p] [Decidable q] (h:p ↔ ¬ q):decide p = !decide q:=by
 by_cases hq:q <;> simp [hq,h]
theorem k117 (n:Nat) (a b:Int):callK Try.prog kn (execA Try.prog ann kn (n+100)) 117 [.list false [[i a],[i b]]] = some (i (if b < a then b else a)):=by
 rw [callK_of rfl,call0_eq Try.func117 b117 rfl (by simp)]
 simp [c117,argFr,loopA_succ]
theorem k98 (n:Nat) (a b:Int):callK Try.prog kn (execA Try.prog ann kn (n+200)) 98 [.list false [[i a],[i b]]] = some (i (if b < a then b else a)):=by
 rw [callK_of rfl,call0_eq Try.func98 b98 rfl (by simp)]
 simp [c98,argFr,k117]
theorem k94 (n:Nat) (b:Book) (l:Line) (h1:1≤b.chairs) (h4:b.chairs≤4):callK Try.prog kn (execA Try.prog ann kn (n+200)) 94 [.agg (cellsT b),.agg (encL l)] = some (.bool (lineOk b.chairs l)):=by
 rw [callK_of rfl,call0_eq Try.func94 b94 rfl (by simp [cellsT,encL,encC])]
 have hw2:IntKind.i64.wrap (b.chairs - 1) = b.chairs - 1:=wrap_i64 (by omega) (by omega)
 unfold lineOk
 generalize e1:inB l.k 0 2 = b1
 generalize e2:inB l.c (-1) (b.chairs - 1) = b2
 generalize e3:inB l.t (-1) (b.chairs - 1) = b3
 simp [c94,argFr,cellsT,encL,e1,e2,e3,hw2]
 cases b1 <;> (try simp [e2,e3,hw2]) <;> cases b2 <;> (try simp [e3,hw2]) <;> cases b3 <;> (try simp)
theorem k112 (n:Nat) (lo hi x:Int):callK Try.prog kn (execA Try.prog ann kn (n+200)) 112 [.agg [i lo,i hi],i x] = some (.bool (inB x lo hi)):=by
 rw [callK_of rfl,call0_eq Try.func112 b112 rfl (by simp)]
 simp [c112,argFr]
theorem k95 (n:Nat) (b:Book) (x:Count):callK Try.prog kn (execA Try.prog ann kn (n+200)) 95 [.agg (cellsT b),.agg (encC x)] = some (.bool (countOk b.lines.length x)):=by
 rw [callK_of rfl,call0_eq Try.func95 b95 rfl (by simp [cellsT,encL,encC])]
 unfold countOk
 generalize e1:inB x.a 0 b.lines.length = b1
 generalize e2:decide (x.lo < 0) = b2
 generalize e3:decide (x.hi < x.lo) = b3
 generalize e4:decide (2000 < x.hi) = b4
 have e2':decide (0≤x.lo) = !b2:=by rw [← e2]; exact dec_not (by omega)
 have e3':decide (x.lo≤x.hi) = !b3:=by rw [← e3]; exact dec_not (by omega)
 have e4':decide (x.hi≤2000) = !b4:=by rw [← e4]; exact dec_not (by omega)
 simp [c95,argFr,cellsT,encC,e1,e2',e3',e4']
 cases b1 <;> (try simp [e2',e3',e4']) <;> cases b2 <;> (try simp [e3',e4']) <;> cases b3 <;> (try simp [e4'])

theorem any_not {α:Type} (p:α→Bool):∀ (l:List α),(!l.any fun x=>!p x) = l.all p
 | []=>rfl
 | x :: l=>by
  have:=any_not p l
  simp only [List.any_cons,List.all_cons,Bool.not_or,Bool.not_not,← this]
theorem k96 (n:Nat) (b:Book) (xs:List Line) (h1:1≤b.chairs) (h4:b.chairs≤4) (hl:xs.length≤40):callK Try.prog kn (execA Try.prog ann kn (n+600)) 96 [V.list false (xs.map encL),.fn 94 [.agg (cellsT b)] []] = some (.bool (xs.all (lineOk b.chairs))):=by
 rw [callK_of rfl,call0_eq Try.func96 b96 rfl (by simp [cellsT,encL,encC])]
 have hp:PredLine ([] ++ [[(3,0,Res.box [V.fn 94 [V.agg (cellsT b)] []])]] ++ [[]]) 300 114 [.ptr 0 3 0 0] (fun x=>!lineOk b.chairs x) xs:=by
  intro n c fr x hx
  refine ⟨c + 1,by omega,?_⟩
  have hk:=fun n=>k94 n b x h1 h4
  simp only [cellsT,encL] at hk ⊢
  rw [List.nil_append,cf_open Try.func114 b114 rfl (by simp)]
  simp [c114,argFr,hk,encL,encC]
 obtain ⟨c',q1,q2⟩:=k113 (n + 97) 300 [] 114 [.ptr 0 3 0 0] (by simp) (by simp) (fun x=>!lineOk b.chairs x) xs [(3,0,.box [.fn 94 [.agg (cellsT b)] []])] hp hl (by simp [cellsT]) 1 7 [(6,true,.fn 114 [] [.ptr 0 3 0 0]),(5,true,V.list false (xs.map encL)),(0,true,V.list false (xs.map encL)),(1,true,.fn 94 [.agg (cellsT b)] []),(3,true,.ptr 0 3 0 0)]
 have:=any_not (lineOk b.chairs) xs
 simp only [cellsT,Nat.add_assoc,Nat.reduceAdd] at q2 ⊢
 simp [c96,argFr,q2]
 rw [← this,Bool.not_not]
theorem k97 (n:Nat) (b:Book) (xs:List Count) (hl:xs.length≤40):callK Try.prog kn (execA Try.prog ann kn (n+600)) 97 [V.list false (xs.map encC),.fn 95 [.agg (cellsT b)] []] = some (.bool (xs.all (countOk b.lines.length))):=by
 rw [callK_of rfl,call0_eq Try.func97 b97 rfl (by simp [cellsT,encL,encC])]
 have hp:PredCount ([] ++ [[(3,0,Res.box [V.fn 95 [V.agg (cellsT b)] []])]] ++ [[]]) 300 116 [.ptr 0 3 0 0] (fun x=>!countOk b.lines.length x) xs:=by
  intro n c fr x hx
  refine ⟨c + 1,by omega,?_⟩
  have hk:=fun n=>k95 n b x
  simp only [cellsT,encC] at hk ⊢
  rw [List.nil_append,cf_open Try.func116 b116 rfl (by simp)]
  simp [c116,argFr,hk,encL,encC]
 obtain ⟨c',q1,q2⟩:=k115 (n + 97) 300 [] 116 [.ptr 0 3 0 0] (by simp) (by simp) (fun x=>!countOk b.lines.length x) xs [(3,0,.box [.fn 95 [.agg (cellsT b)] []])] hp hl (by simp [cellsT]) 1 7 [(6,true,.fn 116 [] [.ptr 0 3 0 0]),(5,true,V.list false (xs.map encC)),(0,true,V.list false (xs.map encC)),(1,true,.fn 95 [.agg (cellsT b)] []),(3,true,.ptr 0 3 0 0)]
 have:=any_not (countOk b.lines.length) xs
 simp only [cellsT,Nat.add_assoc,Nat.reduceAdd] at q2 ⊢
 simp [c97,argFr,q2]
 rw [← this,Bool.not_not]
theorem readingsP_len (C:Int) (l:Line) (h:C≤4):(readingsP C l).length≤32:=by
 have h2:=fun k=>rd2_len C l k h (ways l.c (-1) 0 (C - 1))
 have h3:=ways_len l.c (-1) 0 (C - 1) (by omega)
 have e:ways l.k 0 1 2 = [1,2]∨ways l.k 0 1 2 = [l.k]:=by
  unfold ways
  split
  ·exact .inl rfl
  ·exact .inr rfl
 unfold readingsP rd1
 rcases e with e | e <;> rw [e] <;> simp only [List.flatMap_cons,List.flatMap_nil,List.length_append,List.length_nil]
 ·have:=h2 1; have:=h2 2; omega
 ·have:=h2 l.k; omega
def min4 (v:Int):Int:=if 4097 < v then 4097 else v
def manyP (C:Int) (n:Int) (ls:List Line):Int:=ls.foldl (fun n l=>min4 (n * (readingsP C l).length)) n
def checkP (b:Book):Int :=
 if (decide (8 < b.lines.length) || decide (4 < b.counts.length)) = true then 3
 else if (inB b.chairs 1 4 && (inB b.coin 1 99 && inB b.box 0 999)) = false then 1
 else if b.lines.all (lineOk b.chairs) = false then 1
 else if b.counts.all (countOk b.lines.length) = false then 1
 else if 4096 < manyP b.chairs 1 b.lines then 3 else 0
theorem l55 (n:Nat) (b:Book) (h1:1≤b.chairs) (h4:b.chairs≤4):∀ (d k:Nat) (v:Int) (c m:Nat),k + d = b.lines.length→d < m→0≤v→v≤4097→b.lines.length≤8→1≤c →
  ∃ c':Nat,loopA (execA Try.prog ann kn (n+550) 72) lb55_8 (some ([1,5,55,56,57],[1,64])) m ⟨c,[(1,true,.ptr 0 1 0 0),(5,true,i v),(55,true,V.list false (b.lines.map encL)),(56,true,i b.lines.length),(57,true,i k)],⟨[],[(1,0,.box (cellsT b))]⟩⟩ =
  some (.exit 1,⟨c',[(58,true,.bool false),(1,true,.ptr 0 1 0 0),(5,true,i (manyP b.chairs v (b.lines.drop k))),(55,true,V.list false (b.lines.map encL)),(56,true,i b.lines.length),(57,true,i b.lines.length)],⟨[],[(1,0,.box (cellsT b))]⟩⟩)
 | 0,k,v,c,m + 1,hd,hm,hv,hv2,hl,hc=>by
  have:k = b.lines.length:=by omega
  subst this
  refine ⟨c,?_⟩
  simp [loopA_succ,cellsT,manyP]
 | d + 1,k,v,c,m + 1,hd,hm,hv,hv2,hl,hc=>by
  have hk:k < b.lines.length:=by omega
  have hr:=readingsP_len b.chairs b.lines[k] h4
  have hq:=mul_range hv (by omega) hr
  have hw:IntKind.i64.wrap ((k:Int) + 1) = (k:Int) + 1:=wrap_i64 (by omega) (by omega)
  have hw2:IntKind.i64.wrap (v * ((readingsP b.chairs b.lines[k]).length:Int)) = v * ((readingsP b.chairs b.lines[k]).length:Int):=wrap_i64 (by omega) (by omega)
  have h5:0≤min4 (v * ((readingsP b.chairs b.lines[k]).length:Int))∧min4 (v * ((readingsP b.chairs b.lines[k]).length:Int))≤4097:=by unfold min4; split <;> omega
  obtain ⟨c',ih⟩:=l55 n b h1 h4 d (k + 1) (min4 (v * ((readingsP b.chairs b.lines[k]).length:Int))) (c + 1) m (by omega) (by omega) h5.1 h5.2 hl (by omega)
  have hc8:=fun n=>k81 n b b.lines[k] h1 h4
  have hc9:=fun n=>k98 n (v * ((readingsP b.chairs b.lines[k]).length:Int)) 4097
  refine ⟨c',?_⟩
  rw [loopA_succ]
  simp only [cellsT,encL,List.drop_eq_getElem_cons hk,manyP,List.foldl_cons,min4] at ih hc8 ⊢
  simp at ih
  simp [hk,hw,hw2,encL,hc8,hc9,encC,ih]
theorem k55 (n:Nat) (b:Book):callK Try.prog kn (execA Try.prog ann kn (n+800)) 55 [.agg (cellsT b)] = some (i (checkP b)):=by
 rw [callK_of rfl,call0_eq Try.func55 b55 rfl (by simp [cellsT,encL,encC])]
 unfold checkP
 generalize e1:decide (8 < b.lines.length) = b1
 have e1':decide ((8:Int) < (b.lines.length:Int)) = b1:=by rw [← e1]; congr 1; apply propext; omega
 generalize e2:decide (4 < b.counts.length) = b2
 have e2':decide ((4:Int) < (b.counts.length:Int)) = b2:=by rw [← e2]; congr 1; apply propext; omega
 generalize e3:inB b.chairs 1 4 = b3
 generalize e4:inB b.coin 1 99 = b4
 generalize e5:inB b.box 0 999 = b5
 cases b1
 ·cases b2
  ·cases b3
   ·simp [c55,argFr,cellsT,e1',e2',e3]
   ·cases b4
    ·simp [c55,argFr,cellsT,e1',e2',e3,e4]
    ·cases b5
     ·simp [c55,argFr,cellsT,e1',e2',e3,e4,e5]
     ·have h14:1≤b.chairs∧b.chairs≤4:=by simpa [inB] using e3
      have hl:b.lines.length≤8:=by simpa using e1
      have hc:b.counts.length≤4:=by simpa using e2
      have q96:=fun n=>k96 n b b.lines h14.1 h14.2 (by omega)
      have q97:=fun n=>k97 n b b.counts (by omega)
      obtain ⟨c1,q1⟩:=l55 (n + 242) b h14.1 h14.2 b.lines.length 0 1 1 (n + 792) (by omega) (by omega) (by omega) (by omega) hl (by omega)
      generalize e6:b.lines.all (lineOk b.chairs) = b6 at q96
      generalize e7:b.counts.all (countOk b.lines.length) = b7 at q97
      generalize e8:decide (4096 < manyP b.chairs 1 b.lines) = b8
      have e8':(4096 < manyP b.chairs 1 b.lines) = (b8 = true):=by rw [← e8]; simp
      simp only [List.drop_zero,e6,e7,e8',cellsT,Nat.add_assoc,Nat.reduceAdd,Int.natCast_zero] at q1 q96 q97 ⊢
      cases b6
      ·simp [c55,argFr,cellsT,e1',e2',e3,e4,e5,q96,encL,encC]
      ·cases b7
       ·simp [c55,argFr,cellsT,e1',e2',e3,e4,e5,q96,q97,encL,encC]
       ·simp [c55,argFr,cellsT,e1',e2',e3,e4,e5,q96,q97,encL,encC]
        simp [q1,e8]
        cases b8 <;> simp
  ·simp [c55,argFr,cellsT,e1',e2']
 ·simp [c55,argFr,cellsT,e1']
structure Scene where
 ch:List Int
 tk:List Int
 money:Int
 mixed:Int
def cellsS (s:Scene):List V:=s.ch.map i ++ (s.tk.map i ++ [i s.money,i s.mixed])
def beginB (b:Book):Scene:=⟨[0,0,0,0],[0,0,0,0],b.box,0⟩
theorem k105 (n:Nat) (b:Book):callK Try.prog kn (execA Try.prog ann kn (n+100)) 105 [.agg (cellsT b)] = some (.agg (cellsS (beginB b))):=by
 rw [callK_of rfl,call0_eq Try.func105 b105 rfl (by simp [cellsT,encL,encC])]
 simp [c105,argFr,cellsT,cellsS,beginB]
def nextB (coin:Int) (s:Scene) (k:Int) (l:Line):Scene × Bool :=
 let out:=decide (l.k = 2)
 let c:=s.ch.getD l.c.toNat 0
 let t:=s.tk.getD l.t.toNat 0
 if ((!decide (c = 0)) != out || (!decide (t = 0)) != out) = true then (s,false)
 else if out = true then (⟨s.ch.set l.c.toNat 0,s.tk.set l.t.toNat 0,s.money - coin,if decide (c = t) = true then s.mixed else s.mixed + 1⟩,true)
 else (⟨s.ch.set l.c.toNat (k + 1),s.tk.set l.t.toNat (k + 1),s.money + coin,s.mixed⟩,true)
structure Scene.ok (s:Scene):Prop where
 ch:s.ch.length = 4
 tk:s.tk.length = 4
theorem four {l:List Int} (h:l.length = 4):∃ a b c d,l = [a,b,c,d]:=by
 match l,h with
 | [a,b,c,d],_=>exact ⟨a,b,c,d,rfl⟩
set_option maxHeartbeats 1000000 in
theorem k104 (n:Nat) (b:Book) (s:Scene) (k:Int) (l:Line) (hs:s.ok) (hc0:0≤l.c) (hc:l.c < 4) (ht0:0≤l.t) (ht:l.t < 4) (hk0:0≤k) (hk:k≤1000) (hm0:-100000≤s.money) (hm:s.money≤100000) (hx0:0≤s.mixed) (hx:s.mixed≤1000) (hco0:-1000≤b.coin) (hco:b.coin≤1000) :
  callK Try.prog kn (execA Try.prog ann kn (n+100)) 104 [.agg (cellsT b),.agg (cellsS s),i k,.agg (encL l)] = some (.tup [.agg (cellsS (nextB b.coin s k l).1),.bool (nextB b.coin s k l).2]):=by
 obtain ⟨ch,tk,money,mixed⟩:=s
 obtain ⟨lk,lc,lt⟩:=l
 obtain ⟨a0,a1,a2,a3,rfl⟩:=four hs.ch
 obtain ⟨b0,b1,b2,b3,rfl⟩:=four hs.tk
 simp only at *
 rw [callK_of rfl,call0_eq Try.func104 b104 rfl (by simp [cellsT,encL,encC,cellsS])]
 have w1:IntKind.i64.wrap (k + 1) = k + 1:=wrap_i64 (by omega) (by omega)
 have w2:IntKind.i64.wrap (money + b.coin) = money + b.coin:=wrap_i64 (by omega) (by omega)
 have w3:IntKind.i64.wrap (money - b.coin) = money - b.coin:=wrap_i64 (by omega) (by omega)
 have w4:IntKind.i64.wrap (mixed + 1) = mixed + 1:=wrap_i64 (by omega) (by omega)
 have hc4:lc = 0∨lc = 1∨lc = 2∨lc = 3:=by omega
 have ht4:lt = 0∨lt = 1∨lt = 2∨lt = 3:=by omega
 unfold nextB
 generalize e1:decide (lk = 2) = q1
 generalize e2:decide (List.getD [a0,a1,a2,a3] lc.toNat 0 = 0) = q2
 generalize e3:decide (List.getD [b0,b1,b2,b3] lt.toNat 0 = 0) = q3
 generalize e4:decide (List.getD [a0,a1,a2,a3] lc.toNat 0 = List.getD [b0,b1,b2,b3] lt.toNat 0) = q4
 rcases hc4 with rfl | rfl | rfl | rfl <;> rcases ht4 with rfl | rfl | rfl | rfl
 all_goals
  simp only [Int.reduceToNat,List.getD_cons_succ,List.getD_cons_zero,Int.toNat_zero] at e2 e3 e4
  simp [c104,argFr,cellsT,cellsS,encL,e1,e2]
  cases q1 <;> cases q2 <;> (try simp [e3]) <;> cases q3 <;> (try simp [e4,w1,w2,w3,w4]) <;> cases q4 <;> (try simp [w1,w2,w3,w4]) <;> (try (simp only [decide_eq_true_eq,decide_eq_false_iff_not] at e4)) <;> (try simp [e4])

def okI (n:Int):Prop:=-9223372036854775808≤n∧n < 9223372036854775808
def okL (l:Line):Prop:=okI l.k∧okI l.c∧okI l.t
theorem wfI {n:Int} (h:okI n):(Lit.int .i64 n).wf = true:=by
 obtain ⟨h1,h2⟩:=h
 simp only [Lit.wf,Bool.and_eq_true,decide_eq_true_eq]
 exact ⟨h1,by have:IntKind.i64.max = 9223372036854775807:=rfl;omega⟩
theorem eq_96 (l x:Line) (hl:okL l) (hx:okL x):evEq Try.prog 96 (encL l) (encL x) = some (decide (l.k = x.k) && (decide (l.c = x.c) && decide (l.t = x.t))):=by
 have a1:=wfI hl.1
 have a2:=wfI hl.2.1
 have a3:=wfI hl.2.2
 have b1:=wfI hx.1
 have b2:=wfI hx.2.1
 have b3:=wfI hx.2.2
 have k3:∀ n:Int,(Lit.int .i64 n).wf = true→Program.keyLits Try.prog 15 3 [.int .i64 n] = some [.int .i64 n]:=fun n h=>by
  unfold Program.keyLits
  simp [Try.underlying3,h]
 have kl:∀ l:Line,okL l→Program.keyLits Try.prog 16 96 [.int .i64 l.k,.int .i64 l.c,.int .i64 l.t] = some [.int .i64 l.k,.int .i64 l.c,.int .i64 l.t]:=fun l hl=>by
  unfold Program.keyLits
  simp [Try.underlying96,k3 _ (wfI hl.1),k3 _ (wfI hl.2.1),k3 _ (wfI hl.2.2)]
 have kt:(aggT Try.prog 96 && Program.keyTypeAt Try.prog 16 96 && !(Try.prog.eqGuardType Try.prog.depth 96)) = true:=by kernel_rfl
 unfold evEq
 simp [encL,plainC,kl _ hl,kl _ hx]
 refine ⟨⟨by simpa using kt,by simp [flatLits]⟩,?_⟩
 simp only [eqLits,Bool.and_true]
 congr 1

def eqL (l x:Line):Bool:=decide (l.k = x.k) && (decide (l.c = x.c) && decide (l.t = x.t))
theorem l122 (n:Nat) (l:Line) (hl:okL l) (xs:List Line) (hx:∀ x ∈ xs,okL x) (hlen:xs.length≤1000):∀ (d k:Nat) (c m:Nat),k + d = xs.length→d < m →
  ∃ (j:Int),0≤j∧loopA (execA Try.prog ann kn (n+50) 19) lb122_2 (some ([0,1,3,7,8],[3])) m ⟨c,[(0,true,V.list false (xs.map encL)),(1,true,.agg (encL l)),(3,true,.ptr 0 3 0 0),(7,true,i xs.length),(8,true,i k)],⟨[],[(3,0,.box (encL l))]⟩⟩ =
   bif (xs.drop k).any (eqL l) then some (.ret,⟨c,[(4,true,i j),(17,true,i j),(5,true,i j)],⟨[],[]⟩⟩)
   else some (.exit 0,⟨c,[(9,true,.bool false),(0,true,V.list false (xs.map encL)),(1,true,.agg (encL l)),(3,true,.ptr 0 3 0 0),(7,true,i xs.length),(8,true,i xs.length)],⟨[],[(3,0,.box (encL l))]⟩⟩)
 | 0,k,c,m + 1,hd,hm=>by
  have:k = xs.length:=by omega
  subst this
  refine ⟨0,by omega,?_⟩
  simp [loopA_succ,encL]
 | d + 1,k,c,m + 1,hd,hm=>by
  have hk:k < xs.length:=by omega
  have hw:IntKind.i64.wrap ((k:Int) + 1) = (k:Int) + 1:=wrap_i64 (by omega) (by omega)
  obtain ⟨j,h2,ih⟩:=l122 n l hl xs hx hlen d (k + 1) c m (by omega) (by omega)
  have he:=eq_96 l xs[k] hl (hx _ (List.getElem_mem hk))
  rw [loopA_succ,List.drop_eq_getElem_cons hk,List.any_cons]
  have hq:eqL l xs[k] = (decide (l.k = xs[k].k) && (decide (l.c = xs[k].c) && decide (l.t = xs[k].t))):=rfl
  rw [← hq] at he
  generalize eqL l xs[k] = b at he
  simp only [encL] at he ih ⊢
  simp at ih
  cases b with
  | true =>
   refine ⟨k,by omega,?_⟩
   simp [hk,hw,encL,he]
  | false =>
   refine ⟨j,h2,?_⟩
   simp [hk,hw,encL,he,ih]
theorem k122 (n:Nat) (l:Line) (hl:okL l) (xs:List Line) (hx:∀ x ∈ xs,okL x) (hlen:xs.length≤90):∃ j:Int,decide (0≤j) = xs.any (eqL l)∧callK Try.prog kn (execA Try.prog ann kn (n+100)) 122 [V.list false (xs.map encL),.agg (encL l)] = some (i j):=by
 obtain ⟨j,h1,q⟩:=l122 (n + 45) l hl xs hx (by omega) xs.length 0 1 (n + 95) (by omega) (by omega)
 rw [callK_of rfl,call0_eq Try.func122 b122 rfl (by simp [encL])]
 simp only [List.drop_zero,encL,Nat.add_assoc,Nat.reduceAdd] at q ⊢
 generalize xs.any (eqL l) = b at q
 cases b with
 | true =>
  refine ⟨j,by simpa using h1,?_⟩
  simp at q
  simp [c122,argFr,q]
 | false =>
  refine ⟨-1,by simp,?_⟩
  simp at q
  simp [c122,argFr,q]
theorem k120 (n:Nat) (l:Line) (hl:okL l) (xs:List Line) (hx:∀ x ∈ xs,okL x) (hlen:xs.length≤90):callK Try.prog kn (execA Try.prog ann kn (n+200)) 120 [V.list false (xs.map encL),.agg (encL l)] = some (.bool (xs.any (eqL l))):=by
 obtain ⟨j,h1,q⟩:=k122 (n + 97) l hl xs hx hlen
 rw [callK_of rfl,call0_eq Try.func120 b120 rfl (by simp [encL])]
 simp only [encL,Nat.add_assoc,Nat.reduceAdd] at q ⊢
 simp [c120,argFr,q,h1,encL]
theorem okI_of {n:Int} (h:-1000≤n) (h2:n≤1000):okI n:=⟨by omega,by omega⟩
theorem rng_mem {a x:Int}:∀ {d:Nat},x ∈ rng a d→a≤x∧x < a + d
 | 0,h=>by cases h
 | d + 1,h=>by
  rcases List.mem_cons.1 h with rfl | h
  ·omega
  ·have:=rng_mem h; omega
theorem ways_mem {sg no a b x:Int} (h:x ∈ ways sg no a b):(sg = no∧a≤x∧x≤b)∨(sg ≠ no∧x = sg):=by
 unfold ways at h
 split at h
 ·rename_i e
  have:=rng_mem h
  exact .inl ⟨e,by omega,by omega⟩
 ·rename_i e
  exact .inr ⟨e,by simpa using h⟩
theorem readingsP_mem {C:Int} {l x:Line} (h:x ∈ readingsP C l):x.k ∈ ways l.k 0 1 2∧x.c ∈ ways l.c (-1) 0 (C - 1)∧x.t ∈ ways l.t (-1) 0 (C - 1):=by
 unfold readingsP rd1 rd2 rd3 at h
 simp only [List.mem_flatMap,List.mem_map] at h
 obtain ⟨k,h1,c,h2,t,h3,rfl⟩:=h
 exact ⟨h1,h2,h3⟩
def valL (C:Int) (l:Line):Prop:=lineOk C l = true
theorem valL_spec {C:Int} {l:Line} (h:lineOk C l = true):(0≤l.k∧l.k≤2)∧(-1≤l.c∧l.c≤C - 1)∧(-1≤l.t∧l.t≤C - 1):=by
 simp only [lineOk,inB,Bool.and_eq_true,decide_eq_true_eq] at h
 exact ⟨h.1,h.2.1,h.2.2⟩
theorem readingsP_ok {C:Int} (hC:C≤4) {l x:Line} (hl:lineOk C l = true) (h:x ∈ readingsP C l):(1≤x.k∧x.k≤2)∧(0≤x.c∧x.c≤C - 1)∧(0≤x.t∧x.t≤C - 1):=by
 obtain ⟨v1,v2,v3⟩:=valL_spec hl
 obtain ⟨h1,h2,h3⟩:=readingsP_mem h
 have h1:=ways_mem h1
 have h2:=ways_mem h2
 have h3:=ways_mem h3
 omega
def agreesP (C:Int) (l x:Line):Bool:=(readingsP C l).any (eqL x)
theorem k110 (n:Nat) (b:Book) (l x:Line) (h1:1≤b.chairs) (h4:b.chairs≤4) (hl:lineOk b.chairs l = true) (hx:okL x):callK Try.prog kn (execA Try.prog ann kn (n+600)) 110 [.agg (cellsT b),.agg (encL l),.agg (encL x)] = some (.bool (agreesP b.chairs l x)):=by
 have q1:=fun n=>k81 n b l h1 h4
 have q2:=fun n=>k120 n x hx (readingsP b.chairs l) (fun y hy=>by
  obtain ⟨a1,a2,a3⟩:=readingsP_ok h4 hl hy
  exact ⟨okI_of (by omega) (by omega),okI_of (by omega) (by omega),okI_of (by omega) (by omega)⟩) (by have:=readingsP_len b.chairs l h4; omega)
 rw [callK_of rfl,call0_eq Try.func110 b110 rfl (by simp [cellsT,encL,encC])]
 simp only [cellsT,encL] at q1 q2 ⊢
 simp [c110,argFr,q1,q2,encL,encC,agreesP]
def countOne (money k:Int) (x:Count):Bool:=!decide (x.a = k) || inB money x.lo x.hi
theorem k93 (n:Nat) (b:Book) (s:Scene) (k:Int) (hs:s.ok) (hl:b.counts.length≤40):callK Try.prog kn (execA Try.prog ann kn (n+900)) 93 [.agg (cellsT b),.agg (cellsS s),i k] = some (.bool (b.counts.all (countOne s.money k))):=by
 obtain ⟨ch,tk,money,mixed⟩:=s
 obtain ⟨a0,a1,a2,a3,rfl⟩:=four hs.ch
 obtain ⟨b0,b1,b2,b3,rfl⟩:=four hs.tk
 simp only at *
 rw [callK_of rfl,call0_eq Try.func93 b93 rfl (by simp [cellsT,encL,encC,cellsS])]
 have hp:PredCount ([[(3,0,Res.box (cellsT b)),(4,1,.box (cellsS ⟨[a0,a1,a2,a3],[b0,b1,b2,b3],money,mixed⟩)),(5,2,.box [i k])]] ++ [[(3,3,Res.box [V.fn 111 [] [.ptr 0 5 2 0,.ptr 0 4 1 0]])]] ++ [[]]) 500 116 [.ptr 1 3 3 0] (fun x=>!countOne money k x) b.counts:=by
  intro n c fr x hx
  refine ⟨c + 2,by omega,?_⟩
  have hk:=fun n=>k112 n x.lo x.hi money
  unfold countOne
  generalize e1:decide (x.a = k) = q1
  simp only [cellsT,encC,cellsS] at hk ⊢
  rw [cf_open Try.func116 b116 rfl (by simp)]
  simp [c116,argFr]
  rw [cf_open Try.func111 b111 rfl (by simp)]
  simp [c111,argFr,e1]
  cases q1 <;> simp [hk]
 have hsh:∀ t:St,[[(3,0,Res.box (cellsT b)),(4,1,.box (cellsS ⟨[a0,a1,a2,a3],[b0,b1,b2,b3],money,mixed⟩)),(5,2,.box [i k])]].length + 1≤t.up.length→([[(3,0,Res.box (cellsT b)),(4,1,.box (cellsS ⟨[a0,a1,a2,a3],[b0,b1,b2,b3],money,mixed⟩)),(5,2,.box [i k])]] ++ [[(3,3,Res.box [V.fn 111 [] [.ptr 0 5 2 0,.ptr 0 4 1 0]])]]).map (shutLv t) = [[(3,0,Res.box (cellsT b)),(4,1,.box (cellsS ⟨[a0,a1,a2,a3],[b0,b1,b2,b3],money,mixed⟩)),(5,2,.box [i k])]] ++ [[(3,3,Res.box [V.fn 111 [] [.ptr 0 5 2 0,.ptr 0 4 1 0]])]]:=by
  intro t ht
  obtain ⟨up,loc⟩:=t
  have h0:¬ 0 = up.length:=by simp at ht; omega
  simp [cellsT,cellsS,h0]
 obtain ⟨c',q1,q2⟩:=k115 (n + 194) 500 [[(3,0,.box (cellsT b)),(4,1,.box (cellsS ⟨[a0,a1,a2,a3],[b0,b1,b2,b3],money,mixed⟩)),(5,2,.box [i k])]] 116 [.ptr 1 3 3 0] (by simp) (by simp) (fun x=>!countOne money k x) b.counts [(3,3,.box [.fn 111 [] [.ptr 0 5 2 0,.ptr 0 4 1 0]])] hp hl hsh 4 7 [(6,true,.fn 116 [] [.ptr 1 3 3 0]),(5,true,V.list false (b.counts.map encC)),(0,true,V.list false (b.counts.map encC)),(1,true,.fn 111 [] [.ptr 0 5 2 0,.ptr 0 4 1 0]),(3,true,.ptr 1 3 3 0)]
 have ha:=any_not (countOne money k) b.counts
 simp only [cellsT,cellsS,Nat.add_assoc,Nat.reduceAdd] at q2 ⊢
 simp at q2
 simp [c93,argFr]
 rw [cf_open Try.func97 b97 rfl (by simp)]
 simp [c97,argFr,q2]
 rw [← ha,Bool.not_not]
end Go.Proofs.Try.Op
/- Contracts: scenes. No condition. -/
open Go Go.Pg Go.Proofs
namespace Go.Pg
def tv (k γ:Nat) (e0:List V):List (List V)→V
 | []=>.list true [e0]
 | e :: es=>.vec 0 k γ ((e :: es).length + 1)
def tl (k γ:Nat) (T:TypeId) (e0:List V):List (List V)→Level
 | []=>[]
 | e :: es=>[(k,γ,.vec T (e0 :: e :: es))]
variable {P:Program} {fr:Fr}
@[simp] theorem tv_nil (k γ:Nat) (e0:List V):tv k γ e0 [] = .list true [e0]:=rfl
@[simp] theorem tl_nil (k γ:Nat) (T:TypeId) (e0:List V):tl k γ T e0 [] = []:=rfl
@[simp] theorem tl_snoc (k γ:Nat) (T:TypeId) (e0:List V) (es:List (List V)) (y:List V) (ys:List (List V)):tl k γ T e0 (es ++ y :: ys) = [(k,γ,.vec T (e0 :: (es ++ y :: ys)))]:=by cases es <;> rfl
@[simp] theorem kl_tl (k γ:Nat) (T:TypeId) (e0:List V) (es:List (List V)):kl k [] ((tl k γ T e0 es).get k) = tl k γ T e0 es:=by
 cases es with
 | nil=>rfl
 | cons e es=>simp [tl]
@[simp] theorem tl_other {k j:Nat} (γ:Nat) (T:TypeId) (e0:List V) (es:List (List V)) (h:j ≠ k):(tl k γ T e0 es).get j = none:=by
 cases es with
 | nil=>rfl
 | cons e es=>simp [tl,h]
@[simp] theorem apV_tv (e k c γ:Nat) (loc:Level) (e0:List V) (es:List (List V)) (y:List V) (ys:List (List V)) (hl:Level.get loc k = (tl k γ e e0 es).get k) (h1:(e0 :: es).all (fun y=>y.length == P.cellsOf e) = true) (h2:appOK P e (e0 :: es).length (y :: ys) = true) :
  apV P e k c fr ⟨[],loc⟩ (tv k γ e0 es) (y :: ys) = some ⟨c + 1,(k,true,tv k c e0 (es ++ y :: ys)) :: fr,⟨[],(k,c,.vec e (e0 :: (es ++ y :: ys))) :: loc⟩⟩:=by
 cases es with
 | nil =>
  simp only [tv,apV_full,h1,h2,and_self,if_true]
  simp [tv,Nat.add_comm,Nat.add_left_comm]
 | cons z es =>
  have hl:Level.get loc k = some (γ,.vec e (e0 :: z :: es)):=by rw [hl]; simp [tl]
  simp only [tv,apV_vec,get_mk,List.length_nil,if_true,hl,apW_some,true_and,h1,h2]
  simp [tv,Nat.add_comm,Nat.add_left_comm]
  omega
@[simp] theorem closeX_tl (f k γ:Nat) (T:TypeId) (e0:List V) (es:List (List V)):closeX ⟨[],tl k γ T e0 es⟩ (f + 1) (tv k γ e0 es) = some (.list false (e0 :: es)):=by
 cases es with
 | nil=>rfl
 | cons e es=>simp [tv,tl]
end Go.Pg
namespace Go.Proofs.Try.Op
set_option maxRecDepth 100000
set_option linter.unusedSimpArgs false
theorem next_ok (coin:Int) (s:Scene) (k:Int) (l:Line) (h:s.ok):(nextB coin s k l).1.ok:=by
 unfold nextB
 simp only
 split
 ·exact h
 ·split
  ·exact ⟨by simp [h.ch],by simp [h.tk]⟩
  ·exact ⟨by simp [h.ch],by simp [h.tk]⟩
theorem Scene.len {s:Scene} (h:s.ok):(cellsS s).length = 10:=by simp [cellsS,h.ch,h.tk]
theorem Scene.take {s:Scene} (h:s.ok):(cellsS s).take 10 = cellsS s:=List.take_of_length_le (by rw [s.len h]; omega)
theorem Scene.drop {s:Scene} (h:s.ok):(cellsS s).drop 10 = []:=List.drop_eq_nil_of_le (by rw [s.len h]; omega)
@[simp] theorem Scene.weakM (s:Scene):(cellsS s).map weakM = cellsS s:=by
 have h:Go.Pg.weakM ∘ i = i:=rfl
 simp [cellsS,h]
theorem Scene.weak (s:Scene):(cellsS s).map weakC = cellsS s:=by
 have h:weakC ∘ i = i:=rfl
 simp [cellsS,h]
theorem Scene.closed (s:Scene) (f:Nat):(cellsS s).all (closedV (f + 1)) = true:=by
 simp [cellsS]
structure Scene.bd (s:Scene) (k:Nat):Prop where
 m0:-(1000 + 100 * (k:Int))≤s.money
 m1:s.money≤1000 + 100 * (k:Int)
 x0:0≤s.mixed
 x1:s.mixed≤k
theorem next_bd {coin:Int} {s:Scene} {j:Int} {k:Nat} {l:Line} (h:s.bd k) (h0:1≤coin) (h1:coin≤99):(nextB coin s j l).1.bd (k + 1):=by
 obtain ⟨m0,m1,x0,x1⟩:=h
 unfold nextB
 simp only
 split
 ·exact ⟨by simp only; omega,by simp only; omega,by simp only; omega,by simp only; omega⟩
 ·split
  ·refine ⟨by simp only; omega,by simp only; omega,?_,?_⟩ <;> (simp only; split <;> omega)
  ·exact ⟨by simp only; omega,by simp only; omega,by simp only; omega,by simp only; omega⟩
theorem agreesP_ok {C:Int} (hC:C≤4) {l x:Line} (hl:lineOk C l = true) (h:agreesP C l x = true):(1≤x.k∧x.k≤2)∧(0≤x.c∧x.c≤C - 1)∧(0≤x.t∧x.t≤C - 1):=by
 unfold agreesP at h
 obtain ⟨y,hy,he⟩:=List.any_eq_true.1 h
 have:=readingsP_ok hC hl hy
 simp only [eqL,Bool.and_eq_true,decide_eq_true_eq] at he
 omega
def scenesGo (b:Book):Nat→Scene→List Line→List Line→Option (List Scene)
 | k,s,l :: ls,t :: ts=>if agreesP b.chairs l t = true then (if (nextB b.coin s k t).2 = true then (scenesGo b (k + 1) (nextB b.coin s k t).1 ls ts).map ((nextB b.coin s k t).1 :: ·) else none) else none
 | _,_,_,_=>some []
def R92 (c' γ':Nat) (b:Book) (ts:List Line) (s0:Scene) (out:List Scene):Option (List Scene × Scene)→Option (Exit × XS)
 | some (L,s')=>some (.exit 0,⟨c',[(24,true,.bool false),(2,true,.ptr 0 2 0 0),(6,true,.ptr 0 6 2 0),(7,true,tv 50 γ' (cellsS s0) ((out ++ L).map cellsS)),(21,true,V.list false (ts.map encL)),(22,true,i ts.length),(23,true,i ts.length)],
   ⟨[],(2,0,.box (cellsT b)) :: (6,2,.box (cellsS s')) :: tl 50 γ' 113 (cellsS s0) ((out ++ L).map cellsS)⟩⟩)
 | none=>some (.ret,⟨c',[(5,true,.bool false),(4,true,.nil)],⟨[],[]⟩⟩)
def lastS (s:Scene) (L:List Scene):Scene:=L.getLast?.getD s
theorem l92 (n:Nat) (b:Book) (hb:checkP b = 0) (ts:List Line) (hts:∀ t ∈ ts,okL t) (hlen:ts.length = b.lines.length) (h1:1≤b.chairs) (h4:b.chairs≤4) (hc1:1≤b.coin) (hc2:b.coin≤99) (hl8:b.lines.length≤8) (hok:b.lines.all (lineOk b.chairs) = true) (s0:Scene) (hs0:s0.ok) :
  ∀ (d k:Nat) (s:Scene) (out:List Scene) (c γ m:Nat),k + d = ts.length→d < m→s.ok→s.bd k→(∀ x ∈ out,x.ok)→out.length≤k→3≤c →
  ∃ (c' γ':Nat),loopA (execA Try.prog ann kn (n+650) 53) lb92_6 (some ([2,6,7,21,22,23],[2,6,50])) m ⟨c,[(2,true,.ptr 0 2 0 0),(6,true,.ptr 0 6 2 0),(7,true,tv 50 γ (cellsS s0) (out.map cellsS)),(21,true,V.list false (ts.map encL)),(22,true,i ts.length),(23,true,i k)],
   ⟨[],(2,0,.box (cellsT b)) :: (6,2,.box (cellsS s)) :: tl 50 γ 113 (cellsS s0) (out.map cellsS)⟩⟩ =
   R92 c' γ' b ts s0 out ((scenesGo b k s (b.lines.drop k) (ts.drop k)).map fun L=>(L,lastS s L))
 | 0,k,s,out,c,γ,m + 1,hd,hm,hs,hbd,ho,hol,hc=>by
  have:k = ts.length:=by omega
  subst this
  refine ⟨c,γ,?_⟩
  have e:b.lines.drop ts.length = []:=by rw [hlen]; simp
  simp [loopA_succ,cellsT,e,scenesGo,R92,lastS]
 | d + 1,k,s,out,c,γ,m + 1,hd,hm,hs,hbd,ho,hol,hc=>by
  have hk:k < ts.length:=by omega
  have hk2:k < b.lines.length:=by omega
  have hw:IntKind.i64.wrap ((k:Int) + 1) = (k:Int) + 1:=wrap_i64 (by omega) (by omega)
  have hlk:=List.all_eq_true.1 hok _ (List.getElem_mem hk2)
  have q1:=fun n=>k110 n b b.lines[k] ts[k] h1 h4 hlk (hts _ (List.getElem_mem hk))
  rw [loopA_succ,List.drop_eq_getElem_cons hk,List.drop_eq_getElem_cons hk2]
  cases hag:agreesP b.chairs b.lines[k] ts[k] with
  | false =>
   refine ⟨c + 1,γ,?_⟩
   simp only [hag,cellsT,encL] at q1 ⊢
   have hc2:2 < c:=by omega
   simp [hk,hk2,hw,q1,encL,encC,scenesGo,hag,R92]
  | true =>
   obtain ⟨r1,r2,r3⟩:=agreesP_ok h4 hlk hag
   obtain ⟨m0,m1,x0,x1⟩:=hbd
   have q2:=fun n=>k104 n b s k ts[k] hs (by omega) (by omega) (by omega) (by omega) (by omega) (by omega) (by omega) (by omega) (by omega) (by omega) (by omega) (by omega)
   have hn:=next_ok b.coin s k ts[k] hs
   have hnb:=next_bd (l:=ts[k]) (j:=k) ⟨m0,m1,x0,x1⟩ hc1 hc2
   generalize hq:nextB b.coin s k ts[k] = nx at q2 hn hnb
   obtain ⟨s',can⟩:=nx
   simp only at q2 hn hnb
   have f1:=s.len hs
   have f2:=s.take hs
   have f3:=s.drop hs
   have f4:=s.weak
   have f5:=s.closed
   have g1:=s'.len hn
   have g2:=s'.take hn
   have g4:=s'.weak
   have g5:=s'.closed
   cases can with
   | false =>
    refine ⟨c + 1,γ,?_⟩
    simp only [hag,cellsT,encL] at q1 q2 ⊢
    have hc2:2 < c:=by omega
    have hc3:2 < c + 1:=by omega
    simp [hk,hk2,hw,q1,q2,encL,encC,scenesGo,hag,R92,hq,f1,f2,f3,f4,f5,g1,hc3]
   | true =>
    have ho':appOK Try.prog 113 (out.length + 1) [cellsS s'] = true:=by
     rw [appOK_iff (by simp) (by simp)]
     simp [maxLen,g1]; omega
    have hall:((cellsS s0) :: out.map cellsS).all (fun y=>y.length == 10) = true:=by
     simp only [List.all_cons,s0.len hs0,List.all_map,Function.comp_def]
     simp only [BEq.rfl,Bool.true_and,List.all_eq_true]
     intro x hx; simp [x.len (ho x hx)]
    have hap:=fun fr=>apV_tv (P:=Try.prog) (fr:=fr) 113 50 (c + 1) γ ((2,0,Res.box (cellsT b)) :: (6,2,Res.box (cellsS s')) :: tl 50 γ 113 (cellsS s0) (out.map cellsS)) (cellsS s0) (out.map cellsS) (cellsS s') [] (by simp) (by simpa using hall) (by simpa using ho')
    obtain ⟨c',γ',ih⟩:=l92 n b hb ts hts hlen h1 h4 hc1 hc2 hl8 hok s0 hs0 d (k + 1) s' (out ++ [s']) (c + 2) (c + 1) m (by omega) (by omega) hn hnb (by
     intro x hx
     rcases List.mem_append.1 hx with hx | hx
     ·exact ho x hx
     ·simp at hx; subst hx; exact hn) (by simp; omega) (by omega)
    refine ⟨c',γ',?_⟩
    simp only [hag,cellsT,encL,List.map_append,List.map_cons,List.map_nil,tl_snoc] at q1 q2 ih hap ⊢
    simp at ih
    have hc2:2 < c:=by omega
    have hc3:2 < c + 1:=by omega
    simp [hk,hk2,hw,q1,q2,encL,encC,scenesGo,hag,hq,f1,f2,f3,f4,f5,g1,g2,g4,g5,hc3,hap,ih]
    cases scenesGo b (k + 1) s' (b.lines.drop (k + 1)) (ts.drop (k + 1)) with
    | none=>simp [R92]
    | some L=>simp [R92,lastS,List.getLast?_cons]
def scenesB (b:Book) (ts:List Line):Option (List Scene):=if ts.length = b.lines.length then (scenesGo b 0 (beginB b) b.lines ts).map (beginB b :: ·) else none
def encR (r:Option (List Scene)):V:=match r with
 | some L=>.tup [.list false (L.map cellsS),.bool true]
 | none=>.tup [.nil,.bool false]
theorem begin_ok (b:Book):(beginB b).ok:=⟨rfl,rfl⟩
theorem k92 (n:Nat) (b:Book) (hb:checkP b = 0) (ts:List Line) (hts:∀ t ∈ ts,okL t) (h1:1≤b.chairs) (h4:b.chairs≤4) (hc1:1≤b.coin) (hc2:b.coin≤99) (hx1:0≤b.box) (hx2:b.box≤999) (hl8:b.lines.length≤8) (hok:b.lines.all (lineOk b.chairs) = true) :
  callK Try.prog kn (execA Try.prog ann kn (n+700)) 92 [.agg (cellsT b),V.list false (ts.map encL)] = some (encR (scenesB b ts)):=by
 rw [callK_of rfl,call0_eq Try.func92 b92 rfl (by simp [cellsT,encL,encC])]
 unfold scenesB
 by_cases hlen:ts.length = b.lines.length
 ·have e1:decide ((ts.length:Int) = (b.lines.length:Int)) = true:=by simp [hlen]
  have h5:=fun n=>k105 n b
  have f1:=(beginB b).len (begin_ok b)
  have f2:=(beginB b).take (begin_ok b)
  have f4:=(beginB b).weak
  have f5:=(beginB b).closed
  obtain ⟨c',γ',q⟩:=l92 (n + 42) b hb ts hts hlen h1 h4 hc1 hc2 hl8 hok (beginB b) (begin_ok b) ts.length 0 (beginB b) [] 3 0 (n + 692) (by omega) (by omega) (begin_ok b) ⟨by simp [beginB]; omega,by simp [beginB]; omega,by simp [beginB],by simp [beginB]⟩ (by simp) (by simp) (by omega)
  have ow:=fun n=>own_call (P:=Try.prog) (A:=ann) (kn:=kn) (n:=n + 100) (d:=18) (c:=1) (fr:=[(17,true,.agg (cellsT b)),(1,true,V.list false (ts.map encL)),(2,true,.ptr 0 2 0 0)]) (s:=⟨[],[(2,0,.box (cellsT b))]⟩) (x:=.func 105) (args:=[.tmp 17]) (f:=105) (first:=[]) (cap:=[]) (vs:=[.agg (cellsT b)]) (r:=.agg (cellsS (beginB b))) (by simp) (by simp) (by kernel_rfl) (by simp [f5]) (by simpa [cellsT] using k105 n b)
  have hdrop0:List.drop 10 (List.replicate 10 (V.int .i64 0)) = []:=rfl
  simp only [cellsT,List.drop_zero,Nat.add_assoc,Nat.reduceAdd,List.map_nil,tv_nil,tl_nil,Int.natCast_zero] at h5 q ow ⊢
  simp only [hlen,if_true] at q ⊢
  simp [c92,argFr,hlen,h5,f1,f2,f4,f5,encL,encC,ow]
  rw [q]
  cases scenesGo b 0 (beginB b) b.lines ts with
  | none=>simp [R92,encR]
  | some L =>
   simp [R92,encR,f5]
   intro x _ y hy
   exact List.all_eq_true.1 (x.closed 6) y hy
 ·have e1:decide ((ts.length:Int) = (b.lines.length:Int)) = false:=by simp; omega
  simp [c92,argFr,cellsT,e1,hlen,encR]
theorem cells_form {s:Scene} (h:s.ok):∃ a0 a1 a2 a3 b0 b1 b2 b3,cellsS s = [i a0,i a1,i a2,i a3,i b0,i b1,i b2,i b3,i s.money,i s.mixed]:=by
 obtain ⟨ch,tk,money,mixed⟩:=s
 obtain ⟨a0,a1,a2,a3,e1⟩:=four h.ch
 obtain ⟨b0,b1,b2,b3,e2⟩:=four h.tk
 simp only at e1 e2
 subst e1; subst e2
 exact ⟨a0,a1,a2,a3,b0,b1,b2,b3,rfl⟩
def lastM (v:Int) (L:List Scene):Int:=((L.map Scene.mixed).getLast?).getD v
theorem l54 (n:Nat) (bx:List V) (L:List Scene) (hL:∀ s ∈ L,s.ok) (hlen:L.length≤100):∀ (d k:Nat) (mx:Int) (out:List Int) (c γ m:Nat),k + d = L.length→d < m→out.length≤k →
  ∃ (c' γ':Nat),loopA (execA Try.prog ann kn (n+50) 41) lb54_8 (some ([4,5,25,26,27],[2,20,35])) m ⟨c,[(4,true,pv 35 γ (out.map encI)),(5,true,i mx),(25,true,.list false (L.map cellsS)),(26,true,i L.length),(27,true,i k)],⟨[],(2,0,.box bx) :: pl 35 γ 3 (out.map encI)⟩⟩ =
  some (.exit 0,⟨c',[(28,true,.bool false),(4,true,pv 35 γ' ((out ++ (L.drop k).map Scene.money).map encI)),(5,true,i (lastM mx (L.drop k))),(25,true,.list false (L.map cellsS)),(26,true,i L.length),(27,true,i L.length)],⟨[],(2,0,.box bx) :: pl 35 γ' 3 ((out ++ (L.drop k).map Scene.money).map encI)⟩⟩)
 | 0,k,mx,out,c,γ,m + 1,hd,hm,ho=>by
  have:k = L.length:=by omega
  subst this
  refine ⟨c,γ,?_⟩
  simp [loopA_succ,lastM]
 | d + 1,k,mx,out,c,γ,m + 1,hd,hm,ho=>by
  have hk:k < L.length:=by omega
  have hw:IntKind.i64.wrap ((k:Int) + 1) = (k:Int) + 1:=wrap_i64 (by omega) (by omega)
  obtain ⟨c',γ',ih⟩:=l54 n bx L hL hlen d (k + 1) L[k].mixed (out ++ [L[k].money]) (c + 2) (c + 1) m (by omega) (by omega) (by simp; omega)
  refine ⟨c',γ',?_⟩
  have ho':appOK Try.prog 3 out.length [[i L[k].money]] = true:=by
   rw [appOK_iff (by simp) (by simp)]
   simp [maxLen]; omega
  have hs:=hL _ (List.getElem_mem hk)
  have hl:lastM mx (L[k] :: L.drop (k + 1)) = lastM L[k].mixed (L.drop (k + 1)):=by simp only [lastM,List.map_cons,List.getLast?_cons,Option.getD_some]
  obtain ⟨a0,a1,a2,a3,b0,b1,b2,b3,hcs⟩:=cells_form hs
  rw [loopA_succ,List.drop_eq_getElem_cons hk,hl]
  simp only [List.map_append,List.map_cons,List.map_nil,encI,pl_snoc,List.append_assoc,List.cons_append,List.nil_append] at ih ⊢
  simp at ih
  simp [hk,hw,hcs,encI,ho',apK,ih]
def playB (b:Book) (ts:List Line):V :=
 if checkP b = 0 then (match scenesB b ts with
  | some L=>.tup [sl ((L.map Scene.money).map encI),i (lastM 0 L),i 0]
  | none=>.tup [.nil,i 0,i 2])
 else .tup [.nil,i 0,i (checkP b)]
theorem check0 {b:Book} (h:checkP b = 0):1≤b.chairs∧b.chairs≤4∧b.lines.length≤8∧b.counts.length≤4∧1≤b.coin∧b.coin≤99∧0≤b.box∧b.box≤999∧b.lines.all (lineOk b.chairs) = true∧b.counts.all (countOk b.lines.length) = true∧manyP b.chairs 1 b.lines≤4096:=by
 unfold checkP at h
 split at h
 ·omega
 ·rename_i h1
  split at h
  ·omega
  ·rename_i h2
   split at h
   ·omega
   ·rename_i h3
    split at h
    ·omega
    ·rename_i h4
     split at h
     ·omega
     ·rename_i h5
      simp [inB] at h1 h2
      simp only [Bool.not_eq_false] at h3 h4
      refine ⟨by omega,by omega,by omega,by omega,by omega,by omega,by omega,by omega,h3,h4,by omega⟩
theorem scenesGo_ok (b:Book):∀ (k:Nat) (s:Scene) (ls ts:List Line) (L:List Scene),s.ok→scenesGo b k s ls ts = some L→(∀ x ∈ L,x.ok)∧L.length≤ls.length
 | k,s,[],ts,L,hs,h=>by
  cases ts <;> (cases h; simp)
 | k,s,l :: ls,[],L,hs,h=>by cases h; simp
 | k,s,l :: ls,t :: ts,L,hs,h=>by
  unfold scenesGo at h
  split at h
  ·split at h
   ·simp only [Option.map_eq_some_iff] at h
    obtain ⟨L',h',rfl⟩:=h
    have hn:=next_ok b.coin s k t hs
    obtain ⟨q1,q2⟩:=scenesGo_ok b (k + 1) _ ls ts L' hn h'
    refine ⟨fun x hx=>?_,by simp; omega⟩
    rcases List.mem_cons.1 hx with rfl | hx
    ·exact hn
    ·exact q1 x hx
   ·cases h
  ·cases h
theorem scenesB_ok {b:Book} {ts:List Line} {L:List Scene} (h:scenesB b ts = some L):(∀ x ∈ L,x.ok)∧L.length≤b.lines.length + 1:=by
 unfold scenesB at h
 split at h
 ·simp only [Option.map_eq_some_iff] at h
  obtain ⟨L',h',rfl⟩:=h
  obtain ⟨q1,q2⟩:=scenesGo_ok b 0 _ _ _ L' (begin_ok b) h'
  refine ⟨fun x hx=>?_,by simp; omega⟩
  rcases List.mem_cons.1 hx with rfl | hx
  ·exact begin_ok b
  ·exact q1 x hx
 ·cases h
theorem k54 (n:Nat) (b:Book) (ts:List Line) (hts:∀ t ∈ ts,okL t):callK Try.prog kn (execA Try.prog ann kn (n+900)) 54 [.agg (cellsT b),V.list false (ts.map encL)] = some (playB b ts):=by
 rw [callK_of rfl,call0_eq Try.func54 b54 rfl (by simp [cellsT,encL,encC])]
 have q0:=fun n=>k55 n b
 unfold playB
 by_cases hb:checkP b = 0
 ·obtain ⟨h1,h4,hl8,hc4,hc1,hc2,hx1,hx2,hok,_,_⟩:=check0 hb
  have q1:=fun n=>k92 n b hb ts hts h1 h4 hc1 hc2 hx1 hx2 hl8 hok
  cases hs:scenesB b ts with
  | none =>
   simp only [hs,encR,hb,cellsT,if_true] at q0 q1 ⊢
   simp [c54,argFr,q0,q1,encL,encC]
  | some L =>
   obtain ⟨hL,hLl⟩:=scenesB_ok hs
   obtain ⟨c',γ',q2⟩:=l54 (n + 842) (cellsT b) L hL (by omega) L.length 0 0 [] 1 0 (n + 892) (by omega) (by omega) (by simp)
   simp only [hs,encR,hb,cellsT,if_true,List.drop_zero,Nat.add_assoc,Nat.reduceAdd,List.map_nil,pv_nil,pl_nil,Int.natCast_zero,List.nil_append] at q0 q1 q2 ⊢
   simp at q2
   have hcl:((L.map Scene.money).map encI).all (fun e=>e.all (closedV 7)) = true:=by simp [encI]
   simp at hcl
   simp [c54,argFr,q0,q1,encL,encC,q2,closeX_pv (T:=3)]
   exact hcl
 ·have e:decide (checkP b = 0) = false:=by simpa using hb
  simp only [cellsT] at q0 ⊢
  simp [c54,argFr,q0,encL,encC,e,hb]

def allC (b:Book):Nat→Bool→List Scene→Bool
 | _,v,[]=>v
 | k,v,s :: L=>allC b (k + 1) (v && b.counts.all (countOne s.money k)) L
theorem l53 (n:Nat) (b:Book) (hc:b.counts.length≤4) (L:List Scene) (hL:∀ s ∈ L,s.ok) (hlen:L.length≤100):∀ (d k:Nat) (v:Bool) (c m:Nat),k + d = L.length→d < m →
  ∃ (c':Nat),loopA (execA Try.prog ann kn (n+950) 34) lb53_5 (some ([2,6,18,19,20],[2,15])) m ⟨c,[(2,true,.ptr 0 2 0 0),(6,true,.bool v),(18,true,.list false (L.map cellsS)),(19,true,i L.length),(20,true,i k)],⟨[],[(2,0,.box (cellsT b))]⟩⟩ =
  some (.exit 0,⟨c',[(21,true,.bool false),(2,true,.ptr 0 2 0 0),(6,true,.bool (allC b k v (L.drop k))),(18,true,.list false (L.map cellsS)),(19,true,i L.length),(20,true,i L.length)],⟨[],[(2,0,.box (cellsT b))]⟩⟩)
 | 0,k,v,c,m + 1,hd,hm=>by
  have:k = L.length:=by omega
  subst this
  refine ⟨c,?_⟩
  simp [loopA_succ,allC,cellsT]
 | d + 1,k,v,c,m + 1,hd,hm=>by
  have hk:k < L.length:=by omega
  have hw:IntKind.i64.wrap ((k:Int) + 1) = (k:Int) + 1:=wrap_i64 (by omega) (by omega)
  have hs:=hL _ (List.getElem_mem hk)
  have hq:=fun n=>k93 n b L[k] k hs (by omega)
  obtain ⟨a0,a1,a2,a3,b0,b1,b2,b3,hcs⟩:=cells_form hs
  obtain ⟨c',ih⟩:=l53 n b hc L hL hlen d (k + 1) (v && b.counts.all (countOne L[k].money k)) (c + 1) m (by omega) (by omega)
  refine ⟨c',?_⟩
  rw [loopA_succ,List.drop_eq_getElem_cons hk]
  simp only [allC,hcs,cellsT] at hq ih ⊢
  generalize b.counts.all (countOne L[k].money k) = q at hq ih ⊢
  simp at ih
  cases v with
  | false =>
   simp at ih
   simp [hk,hw,hcs,encI,ih]
  | true =>
   simp at ih
   simp [hk,hw,hcs,encI,hq,encL,encC,ih]
def proveB (b:Book) (ts:List Line):Bool:=decide (checkP b = 0) && (match scenesB b ts with
 | some L=>allC b 0 true L
 | none=>false)
theorem k53 (n:Nat) (b:Book) (ts:List Line) (hts:∀ t ∈ ts,okL t):callK Try.prog kn (execA Try.prog ann kn (n+1000)) 53 [.agg (cellsT b),V.list false (ts.map encL)] = some (.bool (proveB b ts)):=by
 rw [callK_of rfl,call0_eq Try.func53 b53 rfl (by simp [cellsT,encL,encC])]
 have q0:=fun n=>k55 n b
 unfold proveB
 by_cases hb:checkP b = 0
 ·obtain ⟨h1,h4,hl8,hc4,hc1,hc2,hx1,hx2,hok,_,_⟩:=check0 hb
  have q1:=fun n=>k92 n b hb ts hts h1 h4 hc1 hc2 hx1 hx2 hl8 hok
  cases hs:scenesB b ts with
  | none =>
   simp only [hs,encR,hb,cellsT,if_true] at q0 q1 ⊢
   simp [c53,argFr,q0,q1,encL,encC,loopA_succ]
  | some L =>
   obtain ⟨hL,hLl⟩:=scenesB_ok hs
   obtain ⟨c',q2⟩:=l53 (n + 43) b hc4 L hL (by omega) L.length 0 true 1 (n + 993) (by omega) (by omega)
   simp only [hs,encR,hb,cellsT,if_true,List.drop_zero,Nat.add_assoc,Nat.reduceAdd,Int.natCast_zero] at q0 q1 q2 ⊢
   simp [c53,argFr,q0,q1,encL,encC,q2]
 ·have e:decide (checkP b = 0) = false:=by simpa using hb
  simp only [cellsT] at q0 ⊢
  simp [c53,argFr,q0,encL,encC,e,hb]
def outGo (sel:Line→Int) (x:Int):Nat→Int→List Line→Int
 | _,v,[]=>v
 | k,v,t :: ts=>outGo sel x (k + 1) (if sel t = x then (if t.k = 1 then (k:Int) else -1) else v) ts
def outB (sel:Line→Int) (ts:List Line) (a:Nat) (x:Int):Int:=outGo sel x 0 (-1) (ts.take a)
theorem take_drop_cons {α:Type} {l:List α} {a k:Nat} (hk:k < a) (ha:a≤l.length):(l.take a).drop k = l[k]'(by omega) :: (l.take a).drop (k + 1):=by
 rw [List.drop_eq_getElem_cons (by simp; omega)]
 simp

theorem l63 (n:Nat) (ts:List Line) (x:Int) (a:Nat) (ha:a≤ts.length) (hlen:ts.length≤1000):∀ (d k:Nat) (v:Int) (c m:Nat),k + d = a→d < m →
  loopA (execA Try.prog ann kn (n+50) 29) lb63_3 (some ([0,1,2,7,8],[])) m ⟨c,[(0,true,.list false (ts.map encL)),(1,true,i a),(2,true,i x),(7,true,i v),(8,true,i k)],⟨[],[]⟩⟩ =
  some (.exit 0,⟨c,[(11,true,.bool false),(10,true,i a),(9,true,i a),(0,true,.list false (ts.map encL)),(1,true,i a),(2,true,i x),(7,true,i (outGo Line.c x k v ((ts.take a).drop k))),(8,true,i a)],⟨[],[]⟩⟩)
 | 0,k,v,c,m + 1,hd,hm=>by
  have:k = a:=by omega
  subst this
  simp [loopA_succ,outGo]
 | d + 1,k,v,c,m + 1,hd,hm=>by
  have hk:k < ts.length:=by omega
  have hka:k < a:=by omega
  have hw:IntKind.i64.wrap ((k:Int) + 1) = (k:Int) + 1:=wrap_i64 (by omega) (by omega)
  have ih:=l63 n ts x a ha hlen d (k + 1) (if ts[k].c = x then (if ts[k].k = 1 then (k:Int) else -1) else v) c m (by omega) (by omega)
  rw [loopA_succ,take_drop_cons hka ha]
  simp only [outGo,encL] at ih ⊢
  generalize e1:decide (ts[k].c = x) = b1
  generalize e2:decide (ts[k].k = 1) = b2
  have e1':(ts[k].c = x) = (b1 = true):=by rw [← e1]; simp
  have e2':(ts[k].k = 1) = (b2 = true):=by rw [← e2]; simp
  simp only [e1',e2'] at ih ⊢
  simp [hk,hka,hw,encL,e1]
  cases b1
  ·simp at ih
   simp [hk,hw,encL,ih]
  ·cases b2
   ·simp at ih
    simp [hk,hw,encL,e2,ih]
   ·simp at ih
    simp [hk,hw,encL,e2,ih]
theorem k63 (n:Nat) (ts:List Line) (x:Int) (a:Nat) (ha:a≤ts.length) (hlen:ts.length≤90):callK Try.prog kn (execA Try.prog ann kn (n+100)) 63 [.list false (ts.map encL),i a,i x] = some (i (outB Line.c ts a x)):=by
 have q:=l63 (n + 44) ts x a ha (by omega) a 0 (-1) 0 (n + 94) (by omega) (by omega)
 rw [callK_of rfl,call0_eq Try.func63 b63 rfl (by simp [encL])]
 simp only [List.drop_zero,Nat.add_assoc,Nat.reduceAdd,Int.natCast_zero] at q
 simp [c63,argFr,q,outB]

theorem l64 (n:Nat) (ts:List Line) (x:Int) (a:Nat) (ha:a≤ts.length) (hlen:ts.length≤1000):∀ (d k:Nat) (v:Int) (c m:Nat),k + d = a→d < m →
  loopA (execA Try.prog ann kn (n+50) 29) lb64_3 (some ([0,1,2,7,8],[])) m ⟨c,[(0,true,.list false (ts.map encL)),(1,true,i a),(2,true,i x),(7,true,i v),(8,true,i k)],⟨[],[]⟩⟩ =
  some (.exit 0,⟨c,[(11,true,.bool false),(10,true,i a),(9,true,i a),(0,true,.list false (ts.map encL)),(1,true,i a),(2,true,i x),(7,true,i (outGo Line.t x k v ((ts.take a).drop k))),(8,true,i a)],⟨[],[]⟩⟩)
 | 0,k,v,c,m + 1,hd,hm=>by
  have:k = a:=by omega
  subst this
  simp [loopA_succ,outGo]
 | d + 1,k,v,c,m + 1,hd,hm=>by
  have hk:k < ts.length:=by omega
  have hka:k < a:=by omega
  have hw:IntKind.i64.wrap ((k:Int) + 1) = (k:Int) + 1:=wrap_i64 (by omega) (by omega)
  have ih:=l64 n ts x a ha hlen d (k + 1) (if ts[k].t = x then (if ts[k].k = 1 then (k:Int) else -1) else v) c m (by omega) (by omega)
  rw [loopA_succ,take_drop_cons hka ha]
  simp only [outGo,encL] at ih ⊢
  generalize e1:decide (ts[k].t = x) = b1
  generalize e2:decide (ts[k].k = 1) = b2
  have e1':(ts[k].t = x) = (b1 = true):=by rw [← e1]; simp
  have e2':(ts[k].k = 1) = (b2 = true):=by rw [← e2]; simp
  simp only [e1',e2'] at ih ⊢
  simp [hk,hka,hw,encL,e1]
  cases b1
  ·simp at ih
   simp [hk,hw,encL,ih]
  ·cases b2
   ·simp at ih
    simp [hk,hw,encL,e2,ih]
   ·simp at ih
    simp [hk,hw,encL,e2,ih]
theorem k64 (n:Nat) (ts:List Line) (x:Int) (a:Nat) (ha:a≤ts.length) (hlen:ts.length≤90):callK Try.prog kn (execA Try.prog ann kn (n+100)) 64 [.list false (ts.map encL),i a,i x] = some (i (outB Line.t ts a x)):=by
 have q:=l64 (n + 44) ts x a ha (by omega) a 0 (-1) 0 (n + 94) (by omega) (by omega)
 rw [callK_of rfl,call0_eq Try.func64 b64 rfl (by simp [encL])]
 simp only [List.drop_zero,Nat.add_assoc,Nat.reduceAdd,Int.natCast_zero] at q
 simp [c64,argFr,q,outB]

def possOne (ts:List Line) (k:Nat) (t:Line):Bool:=!((decide (0≤outB Line.c ts k t.c) != decide (t.k = 2)) || (decide (0≤outB Line.t ts k t.t) != decide (t.k = 2)))
def possGo (ts:List Line):Nat→List Line→Bool
 | _,[]=>true
 | k,t :: r=>possOne ts k t && possGo ts (k + 1) r
theorem l58 (n:Nat) (ts:List Line) (hlen:ts.length≤90):∀ (d k:Nat) (c m:Nat),k + d = ts.length→d < m →
  loopA (execA Try.prog ann kn (n+150) 45) lb58_2 (some ([0,3],[])) m ⟨c,[(0,true,.list false (ts.map encL)),(3,true,i k)],⟨[],[]⟩⟩ =
  bif possGo ts k (ts.drop k) then some (.exit 0,⟨c,[(10,true,.bool false),(9,true,i ts.length),(8,true,.list false (ts.map encL)),(7,true,i ts.length),(0,true,.list false (ts.map encL)),(3,true,i ts.length)],⟨[],[]⟩⟩)
  else some (.ret,⟨c,[(2,true,.bool false)],⟨[],[]⟩⟩)
 | 0,k,c,m + 1,hd,hm=>by
  have:k = ts.length:=by omega
  subst this
  simp [loopA_succ,possGo]
 | d + 1,k,c,m + 1,hd,hm=>by
  have hk:k < ts.length:=by omega
  have hw:IntKind.i64.wrap ((k:Int) + 1) = (k:Int) + 1:=wrap_i64 (by omega) (by omega)
  have ih:=l58 n ts hlen d (k + 1) c m (by omega) (by omega)
  have q1:=fun n=>k63 n ts ts[k].c k (by omega) hlen
  have q2:=fun n=>k64 n ts ts[k].t k (by omega) hlen
  rw [loopA_succ,List.drop_eq_getElem_cons hk]
  simp only [possGo,possOne,encL] at ih ⊢
  generalize e1:decide (0≤outB Line.c ts k ts[k].c) = b1
  generalize e2:decide (0≤outB Line.t ts k ts[k].t) = b2
  generalize e3:decide (ts[k].k = 2) = b3
  simp at ih
  have hcl:(ts.map encL).all (fun e=>e.all (closedV 8)) = true:=by simp [encL]
  simp [hk,hw,encL,q1,q2,e1,e2,e3,ih]
  cases b1 <;> cases b3 <;> cases b2 <;> simp [ih,hw]
def isPossB (ts:List Line):Bool:=possGo ts 0 ts
theorem k58 (n:Nat) (ts:List Line) (hlen:ts.length≤90):callK Try.prog kn (execA Try.prog ann kn (n+200)) 58 [.list false (ts.map encL)] = some (.bool (isPossB ts)):=by
 have q:=l58 (n + 45) ts hlen ts.length 0 0 (n + 195) (by omega) (by omega)
 rw [callK_of rfl,call0_eq Try.func58 b58 rfl (by simp [encL])]
 simp only [List.drop_zero,Nat.add_assoc,Nat.reduceAdd,Int.natCast_zero] at q
 unfold isPossB
 cases h:possGo ts 0 ts <;> (rw [h] at q; simp at q; simp [c58,argFr,q])
def moneyGo (coin:Int):Int→List Line→Int
 | v,[]=>v
 | v,t :: r=>moneyGo coin (if t.k = 1 then v + coin else v - coin) r
def moneyB (b:Book) (ts:List Line) (a:Nat):Int:=moneyGo b.coin b.box (ts.take a)
theorem l44 (n:Nat) (b:Book) (hc1:1≤b.coin) (hc2:b.coin≤99) (ts:List Line) (a:Nat) (ha:a≤ts.length) (hlen:ts.length≤90):∀ (d k:Nat) (v:Int) (c m:Nat),k + d = a→d < m→-(1000 + 100 * (k:Int))≤v→v≤1000 + 100 * (k:Int) →
  ∃ x:Fr,loopA (execA Try.prog ann kn (n+50) 31) lb44_3 (some ([1,2,3,4,7,8],[3])) m ⟨c,[(1,true,.list false (ts.map encL)),(2,true,i a),(3,true,.ptr 0 3 0 0),(7,true,i v),(8,true,i k)],⟨[],[(3,0,.box (cellsB b))]⟩⟩ =
  some (.exit 0,⟨c,[(13,true,.bool false),(12,true,i a),(11,true,i a),(1,true,.list false (ts.map encL)),(2,true,i a),(3,true,.ptr 0 3 0 0),(7,true,i (moneyGo b.coin v ((ts.take a).drop k))),(8,true,i a)],⟨[],[(3,0,.box (cellsB b))]⟩⟩)
 | 0,k,v,c,m + 1,hd,hm,hv1,hv2=>by
  have:k = a:=by omega
  subst this
  exact ⟨[],by simp [loopA_succ,moneyGo,cellsB]⟩
 | d + 1,k,v,c,m + 1,hd,hm,hv1,hv2=>by
  have hk:k < ts.length:=by omega
  have hka:k < a:=by omega
  have hw:IntKind.i64.wrap ((k:Int) + 1) = (k:Int) + 1:=wrap_i64 (by omega) (by omega)
  have hw2:IntKind.i64.wrap (v + b.coin) = v + b.coin:=wrap_i64 (by omega) (by omega)
  have hw3:IntKind.i64.wrap (v - b.coin) = v - b.coin:=wrap_i64 (by omega) (by omega)
  refine ⟨[],?_⟩
  rw [loopA_succ,take_drop_cons hka ha]
  by_cases e1:ts[k].k = 1
  ·obtain ⟨_,ih⟩:=l44 n b hc1 hc2 ts a ha hlen d (k + 1) (v + b.coin) c m (by omega) (by omega) (by omega) (by omega)
   simp only [moneyGo,cellsB,e1,if_true] at ih ⊢
   simp at ih
   simp [hk,hka,hw,hw2,encL,e1,ih]
  ·obtain ⟨_,ih⟩:=l44 n b hc1 hc2 ts a ha hlen d (k + 1) (v - b.coin) c m (by omega) (by omega) (by omega) (by omega)
   have e2:decide (ts[k].k = 1) = false:=by simpa using e1
   simp only [moneyGo,cellsB,e1,if_false] at ih ⊢
   simp at ih
   simp [hk,hka,hw,hw3,encL,e2,ih]
theorem k44 (n:Nat) (b:Book) (hc1:1≤b.coin) (hc2:b.coin≤99) (hx1:0≤b.box) (hx2:b.box≤999) (ts:List Line) (a:Nat) (ha:a≤ts.length) (hlen:ts.length≤90):callK Try.prog kn (execA Try.prog ann kn (n+100)) 44 [.agg (cellsB b),.list false (ts.map encL),i a] = some (i (moneyB b ts a)):=by
 obtain ⟨_,q⟩:=l44 (n + 44) b hc1 hc2 ts a ha hlen a 0 b.box 1 (n + 94) (by omega) (by omega) (by omega) (by omega)
 rw [callK_of rfl,call0_eq Try.func44 b44 rfl (by simp [encL,cellsB,encC])]
 simp only [cellsB,List.drop_zero,Nat.add_assoc,Nat.reduceAdd,Int.natCast_zero] at q ⊢
 simp [c44,argFr,q,moneyB]
def readOne (C:Int) (l t:Line):Bool:=inB t.k 1 2 && (inB t.c 0 (C - 1) && (inB t.t 0 (C - 1) && agreesB l t))
def readGo (C:Int):List Line→List Line→Bool
 | l :: ls,t :: ts=>readOne C l t && readGo C ls ts
 | _,_=>true
def isReadB (b:Book) (ts:List Line):Bool:=decide (ts.length = b.lines.length) && readGo b.chairs b.lines ts
def mixOne (ts:List Line) (k:Nat) (t:Line):Bool:=decide (t.k = 2) && !decide (outB Line.c ts k t.c = outB Line.t ts k t.t)
def mixGo (ts:List Line):Nat→Int→List Line→Int
 | _,v,[]=>v
 | k,v,t :: r=>mixGo ts (k + 1) (if mixOne ts k t = true then v + 1 else v) r
def mixB (ts:List Line):Int:=mixGo ts 0 0 ts
def cntOne (b:Book) (ts:List Line) (x:Count):Bool:=inB (moneyB b ts x.a.toNat) x.lo x.hi
def fitsB (b:Book) (ts:List Line):Bool:=isReadB b ts && (isPossB ts && b.counts.all (cntOne b ts))
end Go.Proofs.Try.Op
