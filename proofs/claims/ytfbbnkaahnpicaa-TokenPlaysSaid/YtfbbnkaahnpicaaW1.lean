/- Contracts of small functions of the reference: In, Agrees, Readings; and of within. No condition. -/
import Derived.Test.YtfbbnkaahnpicaaFx
open Go Go.Pg Go.Proofs
namespace Go.Proofs.Try.Op
set_option maxRecDepth 100000
set_option linter.unusedSimpArgs false
abbrev i (n : Int) : V := .int .i64 n
def inB (n lo hi : Int) : Bool := decide (lo ≤ n) && decide (n ≤ hi)
theorem k25 (n : Nat) (x lo hi : Int) : callK Try.prog kn (execA Try.prog ann kn (n+100)) 25 [i x, i lo, i hi] = some (.bool (inB x lo hi)) := by
  rw [callK_of rfl, call0_eq Try.func25 b25 rfl rfl]
  unfold inB
  generalize e1 : decide (lo ≤ x) = b1
  simp [e1, c25, argFr]
  cases b1 <;> simp
theorem k69 (n : Nat) (x lo hi : Int) : callK Try.prog kn (execA Try.prog ann kn (n+100)) 69 [i x, i lo, i hi] = some (.bool (inB x lo hi)) := by
  rw [callK_of rfl, call0_eq Try.func69 b69 rfl rfl]
  unfold inB
  generalize e1 : decide (lo ≤ x) = b1
  simp [e1, c69, argFr]
  cases b1 <;> simp
structure Line where
  k : Int
  c : Int
  t : Int
def encL (l : Line) : List V := [i l.k, i l.c, i l.t]
def agreesB (l x : Line) : Bool := (decide (l.k = 0) || decide (l.k = x.k)) && ((decide (l.c < 0) || decide (l.c = x.c)) && (decide (l.t < 0) || decide (l.t = x.t)))
theorem k99 (n : Nat) (l x : Line) : callK Try.prog kn (execA Try.prog ann kn (n+100)) 99 [.agg (encL l), .agg (encL x)] = some (.bool (agreesB l x)) := by
  rw [callK_of rfl, call0_eq Try.func99 b99 rfl rfl]
  unfold agreesB
  generalize e1 : decide (l.k = 0) = b1
  generalize e2 : decide (l.k = x.k) = b2
  generalize e3 : decide (l.c < 0) = b3
  generalize e4 : decide (l.c = x.c) = b4
  generalize e5 : decide (l.t < 0) = b5
  generalize e6 : decide (l.t = x.t) = b6
  simp [e1, e2, e3, e4, e5, e6, c99, argFr, encL]
  cases b1 <;> (try simp [e1, e2, e3, e4, e5, e6]) <;> cases b2 <;> (try simp [e1, e2, e3, e4, e5, e6]) <;> cases b3 <;> (try simp [e1, e2, e3, e4, e5, e6]) <;> cases b4 <;> (try simp [e1, e2, e3, e4, e5, e6]) <;> cases b5 <;> (try simp [e1, e2, e3, e4, e5, e6])
structure Count where
  a : Int
  lo : Int
  hi : Int
def encC (l : Count) : List V := [i l.a, i l.lo, i l.hi]
structure Book where
  chairs : Int
  coin : Int
  box : Int
  lines : List Line
  counts : List Count
def cellsB (b : Book) : List V := [i b.chairs, i b.coin, i b.box, .list false (b.lines.map encL), .list false (b.counts.map encC)]
theorem closedL (f : Nat) (ls : List Line) : (ls.map encL).all (fun e => e.all (closedV (f + 1))) = true := by
  simp [List.all_eq_true, encL]
theorem closedC (f : Nat) (ls : List Count) : (ls.map encC).all (fun e => e.all (closedV (f + 1))) = true := by
  simp [List.all_eq_true, encC]


def rowT (l : Line) (k c t : Int) : Nat → List Line
  | 0 => []
  | d + 1 => (if agreesB l ⟨k, c, t⟩ = true then [⟨k, c, t⟩] else []) ++ rowT l k c (t + 1) d
attribute [simp] k99 k25 k69
theorem lenL (out : List Line) : (out.map encL).all (fun y => y.length == 3) = true := by simp [encL]
theorem l9 (n : Nat) (b : Book) (l : Line) (k ch : Int) (h1 : 1 ≤ b.chairs) (h4 : b.chairs ≤ 4) : ∀ (d : Nat) (t : Int) (out : List Line) (c γ m : Nat), 0 ≤ t → t + d = b.chairs → d < m → 2 ≤ c → γ < c → out.length + d ≤ 1000 →
    ∃ c' γ', 2 ≤ c' ∧ γ' < c' ∧ loopA (execA Try.prog ann kn (n+130) 39) lb83_9 (some ([2, 3, 5, 6, 7, 8], [2, 3, 37])) m ⟨c, [(2, true, .ptr 0 2 0 0), (3, true, .ptr 0 3 1 0), (5, true, pv 37 γ (out.map encL)), (6, true, i k), (7, true, i ch), (8, true, i t)],
      ⟨[], (2, 0, .box (cellsB b)) :: (3, 1, .box (encL l)) :: pl 37 γ 75 (out.map encL)⟩⟩ = some (.exit 4, ⟨c', [(22, true, .bool false), (21, true, i b.chairs), (20, true, .ptr 0 2 0 0), (19, true, i b.chairs), (2, true, .ptr 0 2 0 0), (3, true, .ptr 0 3 1 0), (5, true, pv 37 γ' ((out ++ rowT l k ch t d).map encL)), (6, true, i k), (7, true, i ch), (8, true, i b.chairs)],
      ⟨[], (2, 0, .box (cellsB b)) :: (3, 1, .box (encL l)) :: pl 37 γ' 75 ((out ++ rowT l k ch t d).map encL)⟩⟩)
  | 0, t, out, c, γ, m + 1, ht, hd, hm, hc, hg, ho => by
    refine ⟨c, γ, hc, hg, ?_⟩
    have : t = b.chairs := by omega
    subst this
    simp [loopA_succ, lb83_9, cellsB, encL, rowT]
  | d + 1, t, out, c, γ, m + 1, ht, hd, hm, hc, hg, ho => by
    have e1 : decide (t < b.chairs) = true := by simp; omega
    have ha := fun n => k99 n l ⟨k, ch, t⟩
    simp only [encL] at ha
    rw [loopA_succ]
    generalize hb : agreesB l ⟨k, ch, t⟩ = bb at ha
    have hw : IntKind.i64.wrap (t + 1) = t + 1 := wrap_i64 (by omega) (by omega)
    cases bb with
    | false =>
      obtain ⟨c', γ', i1, i2, i3⟩ := l9 n b l k ch h1 h4 d (t + 1) out c γ m (by omega) (by omega) (by omega) hc hg (by omega)
      refine ⟨c', γ', i1, i2, ?_⟩
      simp only [rowT, hb, cellsB, encL, if_false, List.nil_append, Bool.false_eq_true] at i3 ⊢
      simp [e1, ha, hw, i3]
    | true =>
      obtain ⟨c', γ', i1, i2, i3⟩ := l9 n b l k ch h1 h4 d (t + 1) (out ++ [⟨k, ch, t⟩]) (c + 1) c m (by omega) (by omega) (by omega) (by omega) (by omega) (by simp; omega)
      refine ⟨c', γ', i1, i2, ?_⟩
      have ho' : appOK Try.prog 75 out.length [[i k, i ch, i t]] = true := by
        rw [appOK_iff (by simp) (by simp)]
        simp [maxLen]; omega
      simp only [rowT, hb, cellsB, encL, if_true, List.map_append, List.map_cons, List.map_nil, List.append_assoc, List.cons_append, List.nil_append, pl_snoc] at i3 ⊢
      simp [e1, ha, hw, i3, ho', encL]

def rowC (l : Line) (k c : Int) (C : Nat) : Nat → List Line
  | 0 => []
  | d + 1 => rowT l k c 0 C ++ rowC l k (c + 1) C d
theorem rowT_len (l : Line) (k c : Int) : ∀ (d : Nat) (t : Int), (rowT l k c t d).length ≤ d
  | 0, t => by simp [rowT]
  | d + 1, t => by
    have := rowT_len l k c d (t + 1)
    simp only [rowT, List.length_append]
    split <;> simp <;> omega
theorem l6 (n : Nat) (b : Book) (l : Line) (k : Int) (h1 : 1 ≤ b.chairs) (h4 : b.chairs ≤ 4) : ∀ (d : Nat) (t : Int) (out : List Line) (c γ m : Nat), 0 ≤ t → t + d = b.chairs → d < m → 2 ≤ c → γ < c → out.length + 4 * d ≤ 1000 →
    ∃ c' γ', 2 ≤ c' ∧ γ' < c' ∧ loopA (execA Try.prog ann kn (n+140) 39) lb83_6 (some ([2, 3, 5, 6, 7], [2, 3, 37])) m ⟨c, [(2, true, .ptr 0 2 0 0), (3, true, .ptr 0 3 1 0), (5, true, pv 37 γ (out.map encL)), (6, true, i k), (7, true, i t)],
      ⟨[], (2, 0, .box (cellsB b)) :: (3, 1, .box (encL l)) :: pl 37 γ 75 (out.map encL)⟩⟩ = some (.exit 2, ⟨c', [(16, true, .bool false), (15, true, i b.chairs), (14, true, .ptr 0 2 0 0), (13, true, i b.chairs), (2, true, .ptr 0 2 0 0), (3, true, .ptr 0 3 1 0), (5, true, pv 37 γ' ((out ++ rowC l k t b.chairs.toNat d).map encL)), (6, true, i k), (7, true, i b.chairs)],
      ⟨[], (2, 0, .box (cellsB b)) :: (3, 1, .box (encL l)) :: pl 37 γ' 75 ((out ++ rowC l k t b.chairs.toNat d).map encL)⟩⟩)
  | 0, t, out, c, γ, m + 1, ht, hd, hm, hc, hg, ho => by
    refine ⟨c, γ, hc, hg, ?_⟩
    have : t = b.chairs := by omega
    subst this
    simp [loopA_succ, cellsB, encL, rowC]
  | d + 1, t, out, c, γ, m + 1, ht, hd, hm, hc, hg, ho => by
    have e1 : decide (t < b.chairs) = true := by simp; omega
    have hw : IntKind.i64.wrap (t + 1) = t + 1 := wrap_i64 (by omega) (by omega)
    have hl := rowT_len l k t b.chairs.toNat 0
    obtain ⟨c1, γ1, j1, j2, j3⟩ := l9 (n + 4) b l k t h1 h4 b.chairs.toNat 0 out c γ (n + 134) (by omega) (by omega) (by omega) hc hg (by omega)
    obtain ⟨c', γ', i1, i2, i3⟩ := l6 n b l k h1 h4 d (t + 1) (out ++ rowT l k t 0 b.chairs.toNat) c1 γ1 m (by omega) (by omega) (by omega) j1 j2 (by simp; omega)
    refine ⟨c', γ', i1, i2, ?_⟩
    rw [loopA_succ]
    simp only [rowC, cellsB, encL, List.map_append, List.append_assoc, Nat.add_assoc, Nat.reduceAdd] at i3 j3 ⊢
    simp [e1, hw, j3, i3]

theorem rowC_len (l : Line) (k : Int) (C : Nat) : ∀ (d : Nat) (t : Int), (rowC l k t C d).length ≤ C * d
  | 0, t => by simp [rowC]
  | d + 1, t => by
    have h1 := rowC_len l k C d (t + 1)
    have h2 := rowT_len l k t C 0
    simp only [rowC, List.length_append, Nat.mul_succ]
    omega
def rowK (l : Line) (k : Int) (C : Nat) : Nat → List Line
  | 0 => []
  | d + 1 => rowC l k 0 C C ++ rowK l (k + 1) C d
theorem l3 (n : Nat) (b : Book) (l : Line) (h1 : 1 ≤ b.chairs) (h4 : b.chairs ≤ 4) : ∀ (d : Nat) (t : Int) (out : List Line) (c γ m : Nat), t + d = 3 → d ≤ 2 → d < m → 2 ≤ c → γ < c → out.length + 16 * d ≤ 100 →
    ∃ c' γ', 2 ≤ c' ∧ γ' < c' ∧ loopA (execA Try.prog ann kn (n+150) 39) lb83_3 (some ([2, 3, 5, 6], [2, 3, 37])) m ⟨c, [(2, true, .ptr 0 2 0 0), (3, true, .ptr 0 3 1 0), (5, true, pv 37 γ (out.map encL)), (6, true, i t)],
      ⟨[], (2, 0, .box (cellsB b)) :: (3, 1, .box (encL l)) :: pl 37 γ 75 (out.map encL)⟩⟩ = some (.exit 0, ⟨c', [(10, true, .bool false), (9, true, i 3), (2, true, .ptr 0 2 0 0), (3, true, .ptr 0 3 1 0), (5, true, pv 37 γ' ((out ++ rowK l t b.chairs.toNat d).map encL)), (6, true, i 3)],
      ⟨[], (2, 0, .box (cellsB b)) :: (3, 1, .box (encL l)) :: pl 37 γ' 75 ((out ++ rowK l t b.chairs.toNat d).map encL)⟩⟩)
  | 0, t, out, c, γ, m + 1, hd, hd2, hm, hc, hg, ho => by
    refine ⟨c, γ, hc, hg, ?_⟩
    have : t = 3 := by omega
    subst this
    simp [loopA_succ, cellsB, encL, rowK]
  | d + 1, t, out, c, γ, m + 1, hd, hd2, hm, hc, hg, ho => by
    have e1 : decide (t ≤ 2) = true := by simp; omega
    have hw : IntKind.i64.wrap (t + 1) = t + 1 := wrap_i64 (by omega) (by omega)
    have hl := rowC_len l t b.chairs.toNat b.chairs.toNat 0
    have hC : b.chairs.toNat * b.chairs.toNat ≤ 16 := Nat.mul_le_mul (show b.chairs.toNat ≤ 4 by omega) (show b.chairs.toNat ≤ 4 by omega)
    obtain ⟨c1, γ1, j1, j2, j3⟩ := l6 (n + 4) b l t h1 h4 b.chairs.toNat 0 out c γ (n + 144) (by omega) (by omega) (by omega) hc hg (by omega)
    obtain ⟨c', γ', i1, i2, i3⟩ := l3 n b l h1 h4 d (t + 1) (out ++ rowC l t 0 b.chairs.toNat b.chairs.toNat) c1 γ1 m (by omega) (by omega) (by omega) j1 j2 (by simp; omega)
    refine ⟨c', γ', i1, i2, ?_⟩
    rw [loopA_succ]
    simp only [rowK, cellsB, encL, List.map_append, List.append_assoc, Nat.add_assoc, Nat.reduceAdd] at i3 j3 ⊢
    simp [e1, hw, j3, i3]
/-- all that a line can be -/
def readings (C : Int) (l : Line) : List Line := rowK l 1 C.toNat 2
theorem k83 (n : Nat) (b : Book) (l : Line) (h1 : 1 ≤ b.chairs) (h4 : b.chairs ≤ 4) : callK Try.prog kn (execA Try.prog ann kn (n+200)) 83 [.agg (cellsB b), .agg (encL l)] = some (sl ((readings b.chairs l).map encL)) := by
  rw [callK_of rfl, call0_eq Try.func83 b83 rfl (by simp [cellsB, encL, encC])]
  obtain ⟨c', γ', i1, i2, i3⟩ := l3 (n + 44) b l h1 h4 2 1 [] 2 0 (n + 194) (by omega) (by omega) (by omega) (by omega) (by omega) (by simp)
  simp only [cellsB, encL, List.map_append, List.map_nil, List.nil_append, List.append_assoc, Nat.add_assoc, Nat.reduceAdd, pv_nil, pl_nil] at i3
  have hcl : ((readings b.chairs l).map encL).all (fun e => e.all (closedV 8)) = true := by simp [encL]
  simp [c83, argFr, cellsB, encL, i3]
  simp [readings] at hcl ⊢
end Go.Proofs.Try.Op
/- Contracts: Many. No condition. -/
open Go Go.Pg Go.Proofs
namespace Go.Proofs.Try.Op
set_option maxRecDepth 100000
set_option linter.unusedSimpArgs false
theorem rowK_len (l : Line) (C : Nat) : ∀ (d : Nat) (t : Int), (rowK l t C d).length ≤ C * C * d
  | 0, t => by simp [rowK]
  | d + 1, t => by
    have h1 := rowK_len l C d (t + 1)
    have h2 := rowC_len l t C C 0
    simp only [rowK, List.length_append, Nat.mul_succ]
    omega
theorem readings_len (C : Int) (l : Line) (h : C ≤ 4) : (readings C l).length ≤ 32 := by
  have := rowK_len l C.toNat 2 1
  have hC : C.toNat * C.toNat ≤ 16 := Nat.mul_le_mul (show C.toNat ≤ 4 by omega) (show C.toNat ≤ 4 by omega)
  unfold readings
  omega
def min5 (v : Int) : Int := if v < 5000 then v else 5000
def manyGo (C : Int) (n : Int) (ls : List Line) : Int := ls.foldl (fun n l => min5 (n * (readings C l).length)) n
theorem mul_range {n : Int} {k : Nat} (h0 : 0 ≤ n) (h1 : n ≤ 5000) (hk : k ≤ 32) : 0 ≤ n * k ∧ n * k ≤ 160000 := by
  refine ⟨Int.mul_nonneg h0 (by omega), ?_⟩
  calc n * k ≤ 5000 * 32 := Int.mul_le_mul h1 (by omega) (by omega) (by omega)
    _ = 160000 := by decide
theorem l52 (n : Nat) (b : Book) (h1 : 1 ≤ b.chairs) (h4 : b.chairs ≤ 4) : ∀ (d k : Nat) (v : Int) (m : Nat), k + d = b.lines.length → d < m → 0 ≤ v → v ≤ 5000 → b.lines.length ≤ 1000 →
    loopA (execA Try.prog ann kn (n+250) 24) lb52_3 (some ([1, 3, 4], [1, 19])) m ⟨1, [(1, true, .ptr 0 1 0 0), (3, true, i v), (4, true, i k)], ⟨[], [(1, 0, .box (cellsB b))]⟩⟩ =
    some (.exit 0, ⟨1, [(9, true, .bool false), (8, true, i b.lines.length), (7, true, .list false (b.lines.map encL)), (6, true, .ptr 0 1 0 3), (5, true, i b.lines.length), (1, true, .ptr 0 1 0 0), (3, true, i (manyGo b.chairs v (b.lines.drop k))), (4, true, i b.lines.length)], ⟨[], [(1, 0, .box (cellsB b))]⟩⟩)
  | 0, k, v, m + 1, hd, hm, hv, hv2, hl => by
    have : k = b.lines.length := by omega
    subst this
    simp [loopA_succ, cellsB, manyGo]
  | d + 1, k, v, m + 1, hd, hm, hv, hv2, hl => by
    have hk : k < b.lines.length := by omega
    have hr := readings_len b.chairs b.lines[k] h4
    have hq := mul_range hv hv2 hr
    have hw : IntKind.i64.wrap ((k : Int) + 1) = (k : Int) + 1 := wrap_i64 (by omega) (by omega)
    have hw2 : IntKind.i64.wrap (v * ((readings b.chairs b.lines[k]).length : Int)) = v * ((readings b.chairs b.lines[k]).length : Int) := wrap_i64 (by omega) (by omega)
    have h5 : 0 ≤ min5 (v * ((readings b.chairs b.lines[k]).length : Int)) ∧ min5 (v * ((readings b.chairs b.lines[k]).length : Int)) ≤ 5000 := by unfold min5; split <;> omega
    have ih := l52 n b h1 h4 d (k + 1) (min5 (v * ((readings b.chairs b.lines[k]).length : Int))) m (by omega) (by omega) h5.1 h5.2 hl
    have hc := fun n => k83 n b b.lines[k] h1 h4
    rw [loopA_succ]
    simp only [cellsB, encL, List.drop_eq_getElem_cons hk, manyGo, List.foldl_cons, min5] at ih hc ⊢
    simp [hk, hw, hw2, encL, hc, encC]
    simp at ih
    simp [ih]
theorem k52 (n : Nat) (b : Book) (h1 : 1 ≤ b.chairs) (h4 : b.chairs ≤ 4) (hl : b.lines.length ≤ 200) : callK Try.prog kn (execA Try.prog ann kn (n+300)) 52 [.agg (cellsB b)] = some (i (manyGo b.chairs 1 b.lines)) := by
  rw [callK_of rfl, call0_eq Try.func52 b52 rfl (by simp [cellsB, encL, encC])]
  have := l52 (n + 44) b h1 h4 b.lines.length 0 1 (n + 294) (by omega) (by omega) (by omega) (by omega) (by omega)
  simp only [cellsB, Nat.add_assoc, Nat.reduceAdd] at this
  simp [c52, argFr, cellsB]
  simp at this
  simp [this]
end Go.Proofs.Try.Op
/- Contracts: Fault. No condition. -/
open Go Go.Pg Go.Proofs
namespace Go.Proofs.Try.Op
set_option maxRecDepth 100000
set_option linter.unusedSimpArgs false
def lineOk (C : Int) (l : Line) : Bool := inB l.k 0 2 && (inB l.c (-1) (C - 1) && inB l.t (-1) (C - 1))
def countOk (n : Nat) (c : Count) : Bool := inB c.a 0 n && (!decide (c.lo < 0) && (!decide (c.hi < c.lo) && !decide (2000 < c.hi)))
def faultB (b : Book) : Int :=
  if (decide (8 < b.lines.length) || decide (4 < b.counts.length)) = true then 3
  else if (inB b.chairs 1 4 && (inB b.coin 1 99 && inB b.box 0 999)) = false then 1
  else if b.lines.all (lineOk b.chairs) = false then 1
  else if b.counts.all (countOk b.lines.length) = false then 1
  else if 4096 < manyGo b.chairs 1 b.lines then 3 else 0
theorem l67a (n : Nat) (b : Book) (h1 : 1 ≤ b.chairs) (h4 : b.chairs ≤ 4) : ∀ (d k : Nat) (c m : Nat), k + d = b.lines.length → d < m → b.lines.length ≤ 8 →
    ∃ c', loopA (execA Try.prog ann kn (n+250) 110) lb67_6 (some ([1, 3], [1])) m ⟨c, [(1, true, .ptr 0 1 0 0), (3, true, i k)], ⟨[], [(1, 0, .box (cellsB b))]⟩⟩ =
    if (b.lines.drop k).all (lineOk b.chairs) = true then some (.exit 0, ⟨c', [(37, true, .bool false), (36, true, i b.lines.length), (35, true, .list false (b.lines.map encL)), (34, true, .ptr 0 1 0 3), (33, true, i b.lines.length), (1, true, .ptr 0 1 0 0), (3, true, i b.lines.length)], ⟨[], [(1, 0, .box (cellsB b))]⟩⟩)
    else some (.ret, ⟨c', [(2, true, i 1)], ⟨[], []⟩⟩)
  | 0, k, c, m + 1, hd, hm, hl => by
    have : k = b.lines.length := by omega
    subst this
    refine ⟨c, ?_⟩
    simp [loopA_succ, cellsB]
  | d + 1, k, c, m + 1, hd, hm, hl => by
    have hk : k < b.lines.length := by omega
    have hw : IntKind.i64.wrap ((k : Int) + 1) = (k : Int) + 1 := wrap_i64 (by omega) (by omega)
    have hw2 : IntKind.i64.wrap (b.chairs - 1) = b.chairs - 1 := wrap_i64 (by omega) (by omega)
    obtain ⟨c', ih⟩ := l67a n b h1 h4 d (k + 1) (c + 1) m (by omega) (by omega) hl
    have hdr := List.drop_eq_getElem_cons hk
    have hlo : lineOk b.chairs b.lines[k] = (inB b.lines[k].k 0 2 && (inB b.lines[k].c (-1) (b.chairs - 1) && inB b.lines[k].t (-1) (b.chairs - 1))) := rfl
    generalize e1 : inB b.lines[k].k 0 2 = b1 at hlo
    generalize e2 : inB b.lines[k].c (-1) (b.chairs - 1) = b2 at hlo
    generalize e3 : inB b.lines[k].t (-1) (b.chairs - 1) = b3 at hlo
    rw [loopA_succ, hdr]
    simp only [cellsB, encL, List.all_cons, hlo] at ih ⊢
    simp at ih
    cases b1 <;> cases b2 <;> cases b3 <;> simp only [Bool.and_true, Bool.and_false, Bool.true_and, Bool.false_and, Bool.false_eq_true, if_false]
    all_goals first | (refine ⟨c + 1, ?_⟩; simp [hk, hw, hw2, encL, e1, e2, e3]; done) | skip
    refine ⟨c', ?_⟩
    simp [hk, hw, hw2, encL, e1, e2, e3, ih]

attribute [simp] k25
theorem l67b (n : Nat) (b : Book) : ∀ (d k : Nat) (c m : Nat), k + d = b.counts.length → d < m → b.lines.length ≤ 8 → b.counts.length ≤ 4 →
    ∃ c', loopA (execA Try.prog ann kn (n+250) 110) lb67_12 (some ([1, 5], [1])) m ⟨c, [(1, true, .ptr 0 1 0 0), (5, true, i k)], ⟨[], [(1, 0, .box (cellsB b))]⟩⟩ =
    if (b.counts.drop k).all (countOk b.lines.length) = true then some (.exit 2, ⟨c', [(71, true, .bool false), (70, true, i b.counts.length), (69, true, .list false (b.counts.map encC)), (68, true, .ptr 0 1 0 4), (67, true, i b.counts.length), (1, true, .ptr 0 1 0 0), (5, true, i b.counts.length)], ⟨[], [(1, 0, .box (cellsB b))]⟩⟩)
    else some (.ret, ⟨c', [(2, true, i 1)], ⟨[], []⟩⟩)
  | 0, k, c, m + 1, hd, hm, hl, hl2 => by
    have : k = b.counts.length := by omega
    subst this
    refine ⟨c, ?_⟩
    simp [loopA_succ, cellsB]
  | d + 1, k, c, m + 1, hd, hm, hl, hl2 => by
    have hk : k < b.counts.length := by omega
    have hw : IntKind.i64.wrap ((k : Int) + 1) = (k : Int) + 1 := wrap_i64 (by omega) (by omega)
    obtain ⟨c', ih⟩ := l67b n b d (k + 1) (c + 1) m (by omega) (by omega) hl hl2
    have hdr := List.drop_eq_getElem_cons hk
    have hlo : countOk b.lines.length b.counts[k] = (inB b.counts[k].a 0 b.lines.length && (!decide (b.counts[k].lo < 0) && (!decide (b.counts[k].hi < b.counts[k].lo) && !decide (2000 < b.counts[k].hi)))) := rfl
    generalize e1 : inB b.counts[k].a 0 b.lines.length = b1 at hlo
    generalize e2 : decide (b.counts[k].lo < 0) = b2 at hlo
    generalize e3 : decide (b.counts[k].hi < b.counts[k].lo) = b3 at hlo
    generalize e4 : decide (2000 < b.counts[k].hi) = b4 at hlo
    rw [loopA_succ, hdr]
    simp only [cellsB, encC, List.all_cons, hlo] at ih ⊢
    simp at ih
    cases b1 <;> cases b2 <;> cases b3 <;> cases b4 <;> simp only [Bool.and_true, Bool.and_false, Bool.true_and, Bool.false_and, Bool.false_eq_true, if_false, Bool.not_true, Bool.not_false]
    all_goals first | (refine ⟨c + 1, ?_⟩; simp [hk, hw, encC, e1, e2, e3, e4]; done) | skip
    refine ⟨c', ?_⟩
    simp [hk, hw, encC, e1, e2, e3, e4, ih]
theorem k67 (n : Nat) (b : Book) : callK Try.prog kn (execA Try.prog ann kn (n+400)) 67 [.agg (cellsB b)] = some (i (faultB b)) := by
  rw [callK_of rfl, call0_eq Try.func67 b67 rfl (by simp [cellsB, encL, encC])]
  unfold faultB
  generalize e1 : decide (8 < b.lines.length) = b1
  have e1' : decide ((8 : Int) < (b.lines.length : Int)) = b1 := by rw [← e1]; congr 1; apply propext; omega
  generalize e2 : decide (4 < b.counts.length) = b2
  have e2' : decide ((4 : Int) < (b.counts.length : Int)) = b2 := by rw [← e2]; congr 1; apply propext; omega
  generalize e3 : inB b.chairs 1 4 = b3
  generalize e4 : inB b.coin 1 99 = b4
  generalize e5 : inB b.box 0 999 = b5
  cases b1
  · cases b2
    · cases b3
      · simp [c67, argFr, cellsB, e1', e2', e3]
      · cases b4
        · simp [c67, argFr, cellsB, e1', e2', e3, e4]
        · cases b5
          · simp [c67, argFr, cellsB, e1', e2', e3, e4, e5]
          · have h14 : 1 ≤ b.chairs ∧ b.chairs ≤ 4 := by simpa [inB] using e3
            have hl : b.lines.length ≤ 8 := by simpa using e1
            have hc : b.counts.length ≤ 4 := by simpa using e2
            obtain ⟨c1, q1⟩ := l67a (n + 143) b h14.1 h14.2 b.lines.length 0 1 (n + 393) (by omega) (by omega) hl
            obtain ⟨c2, q2⟩ := l67b (n + 142) b b.counts.length 0 c1 (n + 392) (by omega) (by omega) hl hc
            have q3 := fun n => k52 n b h14.1 h14.2 (by omega)
            generalize e6 : b.lines.all (lineOk b.chairs) = b6
            generalize e7 : b.counts.all (countOk b.lines.length) = b7
            generalize e8 : decide (4096 < manyGo b.chairs 1 b.lines) = b8
            have e8' : (4096 < manyGo b.chairs 1 b.lines) = (b8 = true) := by rw [← e8]; simp
            simp only [List.drop_zero, e6, e7, e8', cellsB, Nat.add_assoc, Nat.reduceAdd, Int.natCast_zero] at q1 q2 q3 ⊢
            cases b6
            · simp [c67, argFr, cellsB, e1', e2', e3, e4, e5]
              simp at q1
              simp [q1]
            · cases b7
              · simp [c67, argFr, cellsB, e1', e2', e3, e4, e5]
                simp at q1 q2
                simp [q1, q2]
              · simp [c67, argFr, cellsB, e1', e2', e3, e4, e5]
                simp at q1 q2
                simp [q1, q2, q3, e8, encL, encC]
                cases b8 <;> simp
    · simp [c67, argFr, cellsB, e1', e2']
  · simp [c67, argFr, cellsB, e1']
end Go.Proofs.Try.Op
/- Contracts: fault, Thin, to, Truth, Book. No condition. -/
open Go Go.Pg Go.Proofs
namespace Go.Proofs.Try.Op
set_option maxRecDepth 100000
set_option linter.unusedSimpArgs false
theorem k24 (n : Nat) (b : Book) : callK Try.prog kn (execA Try.prog ann kn (n+500)) 24 [.agg (cellsB b)] = some (i (faultB b)) := by
  rw [callK_of rfl, call0_eq Try.func24 b24 rfl (by simp [cellsB, encL, encC])]
  have h := fun n => k67 n b
  simp only [cellsB] at h ⊢
  simp [c24, argFr, h, encL, encC]
def thinB (b : Book) : Bool := decide (b.lines.length ≤ 10) && (decide (b.counts.length ≤ 6) && (!decide (faultB b = 0) || decide (manyGo b.chairs 1 b.lines ≤ 100)))
theorem fault0 {b : Book} (h : faultB b = 0) : 1 ≤ b.chairs ∧ b.chairs ≤ 4 ∧ b.lines.length ≤ 8 ∧ b.counts.length ≤ 4 ∧ 1 ≤ b.coin ∧ b.coin ≤ 99 ∧ 0 ≤ b.box ∧ b.box ≤ 999 ∧ b.lines.all (lineOk b.chairs) = true ∧ b.counts.all (countOk b.lines.length) = true ∧ manyGo b.chairs 1 b.lines ≤ 4096 := by
  unfold faultB at h
  split at h
  · omega
  · rename_i h1
    split at h
    · omega
    · rename_i h2
      split at h
      · omega
      · rename_i h3
        split at h
        · omega
        · rename_i h4
          split at h
          · omega
          · rename_i h5
            simp [inB] at h1 h2
            simp only [Bool.not_eq_false] at h3 h4
            refine ⟨by omega, by omega, by omega, by omega, by omega, by omega, by omega, by omega, h3, h4, by omega⟩
theorem k19 (n : Nat) (b : Book) : callK Try.prog kn (execA Try.prog ann kn (n+500)) 19 [.agg (cellsB b)] = some (.bool (thinB b)) := by
  rw [callK_of rfl, call0_eq Try.func19 b19 rfl (by simp [cellsB, encL, encC])]
  have h := fun n => k67 n b
  have h2 := fun n => fun (h : faultB b = 0) => k52 n b (fault0 h).1 (fault0 h).2.1 (by have := (fault0 h).2.2.1; omega)
  unfold thinB
  generalize e1 : decide (b.lines.length ≤ 10) = b1
  have e1' : decide ((b.lines.length : Int) ≤ 10) = b1 := by rw [← e1]; congr 1; apply propext; omega
  generalize e2 : decide (b.counts.length ≤ 6) = b2
  have e2' : decide ((b.counts.length : Int) ≤ 6) = b2 := by rw [← e2]; congr 1; apply propext; omega
  generalize e3 : decide (faultB b = 0) = b3
  generalize e4 : decide (manyGo b.chairs 1 b.lines ≤ 100) = b4
  simp only [cellsB] at h h2 ⊢
  cases b1
  · simp [c19, argFr, e1']
  · cases b2
    · simp [c19, argFr, e1', e2']
    · cases b3
      · simp [c19, argFr, e1', e2', h, encL, encC, e3]
      · have h2 := fun n => h2 n (by simpa using e3)
        simp [c19, argFr, e1', e2', h, encL, encC, e3, h2, e4]
theorem k30 (n : Nat) (lo hi : Int) : callK Try.prog kn (execA Try.prog ann kn (n+100)) 30 [.agg [i lo, i hi]] = some (.agg [i lo, i hi]) := by
  rw [callK_of rfl, call0_eq Try.func30 b30 rfl rfl]
  simp [c30, argFr]
theorem l35 (n : Nat) (ls : List Line) (hl : ls.length ≤ 1000) : ∀ (d k : Nat) (out : List Line) (c γ m : Nat), k + d = ls.length → d < m → out.length ≤ k →
    ∃ c' γ', loopA (execA Try.prog ann kn (n+50) 31) lb35_3 (some ([0, 3, 4], [29])) m ⟨c, [(0, true, .list false (ls.map encL)), (3, true, pv 29 γ (out.map encL)), (4, true, i k)], ⟨[], pl 29 γ 96 (out.map encL)⟩⟩ =
    some (.exit 0, ⟨c', [(8, true, .bool false), (7, true, i ls.length), (6, true, .list false (ls.map encL)), (5, true, i ls.length), (0, true, .list false (ls.map encL)), (3, true, pv 29 γ' ((out ++ ls.drop k).map encL)), (4, true, i ls.length)], ⟨[], pl 29 γ' 96 ((out ++ ls.drop k).map encL)⟩⟩)
  | 0, k, out, c, γ, m + 1, hd, hm, ho => by
    have : k = ls.length := by omega
    subst this
    refine ⟨c, γ, ?_⟩
    simp [loopA_succ]
  | d + 1, k, out, c, γ, m + 1, hd, hm, ho => by
    have hk : k < ls.length := by omega
    have hw : IntKind.i64.wrap ((k : Int) + 1) = (k : Int) + 1 := wrap_i64 (by omega) (by omega)
    obtain ⟨c', γ', ih⟩ := l35 n ls hl d (k + 1) (out ++ [ls[k]]) (c + 1) c m (by omega) (by omega) (by simp; omega)
    refine ⟨c', γ', ?_⟩
    have ho' : appOK Try.prog 96 out.length [[i ls[k].k, i ls[k].c, i ls[k].t]] = true := by
      rw [appOK_iff (by simp) (by simp)]
      simp [maxLen]; omega
    rw [loopA_succ, List.drop_eq_getElem_cons hk]
    simp only [List.map_append, List.map_cons, List.map_nil, pl_snoc, encL, List.append_assoc, List.cons_append, List.nil_append] at ih ⊢
    simp at ih
    simp [hk, hw, encL, ho', ih]
theorem k35 (n : Nat) (ls : List Line) (hl : ls.length ≤ 500) : callK Try.prog kn (execA Try.prog ann kn (n+600)) 35 [.list false (ls.map encL)] = some (sl (ls.map encL)) := by
  rw [callK_of rfl, call0_eq Try.func35 b35 rfl (by simp [encL])]
  obtain ⟨c', γ', ih⟩ := l35 (n + 544) ls (by omega) ls.length 0 [] 0 0 (n + 594) (by omega) (by omega) (by simp)
  have hcl : ((ls).map encL).all (fun e => e.all (closedV 8)) = true := by simp [encL]
  simp only [Nat.add_assoc, Nat.reduceAdd] at ih
  simp at ih hcl
  simp [c35, argFr, ih]
  exact hcl

theorem l22 (n : Nat) (b : Book) (hl : b.counts.length ≤ 1000) : ∀ (d k : Nat) (out : List Count) (c γ m : Nat), k + d = b.counts.length → d < m → out.length ≤ k → 3 ≤ c →
    ∃ c' γ' : Nat, 3 ≤ c' ∧ loopA (execA Try.prog ann kn (n+250) 42) lb22_3 (some ([1, 2, 3, 4], [1, 2, 3, 13, 39])) m ⟨c, [(1, true, .ptr 0 1 0 0), (2, true, .ptr 0 2 1 0), (3, true, .ptr 0 3 2 0), (4, true, i k)],
      ⟨[], (1, 0, .box (cellsB b)) :: (2, 1, .box [i 0, i 0, i 0, .nil, .nil]) :: (3, 2, .box [i b.chairs, i b.coin, i b.box, sl (b.lines.map encL), pv 39 γ (out.map encC)]) :: pl 39 γ 99 (out.map encC)⟩⟩ = some (.exit 0, ⟨c', [(19, true, .bool false), (18, true, i b.counts.length), (17, true, .list false (b.counts.map encC)), (16, true, .ptr 0 1 0 4), (15, true, i b.counts.length), (1, true, .ptr 0 1 0 0), (2, true, .ptr 0 2 1 0), (3, true, .ptr 0 3 2 0), (4, true, i b.counts.length)],
      ⟨[], (1, 0, .box (cellsB b)) :: (2, 1, .box [i 0, i 0, i 0, .nil, .nil]) :: (3, 2, .box [i b.chairs, i b.coin, i b.box, sl (b.lines.map encL), pv 39 γ' ((out ++ b.counts.drop k).map encC)]) :: pl 39 γ' 99 ((out ++ b.counts.drop k).map encC)⟩⟩)
  | 0, k, out, c, γ, m + 1, hd, hm, ho, hc => by
    have : k = b.counts.length := by omega
    subst this
    refine ⟨c, γ, hc, ?_⟩
    simp [loopA_succ, cellsB]
  | d + 1, k, out, c, γ, m + 1, hd, hm, ho, hc => by
    have hk : k < b.counts.length := by omega
    have hw : IntKind.i64.wrap ((k : Int) + 1) = (k : Int) + 1 := wrap_i64 (by omega) (by omega)
    obtain ⟨c', γ', i1, ih⟩ := l22 n b hl d (k + 1) (out ++ [b.counts[k]]) (c + 1) c m (by omega) (by omega) (by simp; omega) (by omega)
    refine ⟨c', γ', i1, ?_⟩
    have ho' : appOK Try.prog 99 out.length [[i b.counts[k].a, i b.counts[k].lo, i b.counts[k].hi]] = true := by
      rw [appOK_iff (by simp) (by simp)]
      simp [maxLen]; omega
    have h30 := fun n => k30 n b.counts[k].lo b.counts[k].hi
    rw [loopA_succ, List.drop_eq_getElem_cons hk]
    simp only [List.map_append, List.map_cons, List.map_nil, pl_snoc, encC, List.append_assoc, List.cons_append, List.nil_append, cellsB] at ih ⊢
    simp at ih
    have hc2 : 2 < c + 1 := by omega
    simp [hk, hw, encC, ho', h30, apK, hc2, ih]

def cellsT (b : Book) : List V := [i b.chairs, i b.coin, i b.box, sl (b.lines.map encL), sl (b.counts.map encC)]
theorem k22 (n : Nat) (b : Book) (hl : b.lines.length ≤ 500) (hc : b.counts.length ≤ 500) : callK Try.prog kn (execA Try.prog ann kn (n+700)) 22 [.agg (cellsB b)] = some (.agg (cellsT b)) := by
  rw [callK_of rfl, call0_eq Try.func22 b22 rfl (by simp [cellsB, encL, encC])]
  obtain ⟨c', γ', i1, ih⟩ := l22 (n + 444) b (by omega) b.counts.length 0 [] 3 0 (n + 694) (by omega) (by omega) (by simp) (by omega)
  have h35 := fun n => k35 n b.lines hl
  simp only [Nat.add_assoc, Nat.reduceAdd, cellsB, cellsT] at ih ⊢
  simp at ih
  have hc1 : 1 < c' := by omega
  have hcl : (b.lines.map encL).all (fun e => e.all (closedV 7)) = true := by simp [encL]
  have hcl2 : (b.counts.map encC).all (fun e => e.all (closedV 7)) = true := by simp [encC]
  simp at hcl hcl2
  simp [c22, argFr, h35, encL, ih, hc1, closeX_pv (T := 99)]
  exact hcl2
end Go.Proofs.Try.Op
