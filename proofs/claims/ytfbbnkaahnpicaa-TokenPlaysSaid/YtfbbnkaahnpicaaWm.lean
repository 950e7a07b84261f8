/- Contracts of the reference: ChairOut, TokenOut, Money, Mixed, IsRead, IsPossible, Counted, Fits. No condition. -/
import Derived.Test.YtfbbnkaahnpicaaW4
import Derived.Test.YtfbbnkaahnpicaaFy
open Go Go.Pg Go.Proofs
namespace Go.Proofs.Try.Op
set_option maxRecDepth 100000
set_option linter.unusedSimpArgs false
/-- by which line one is out -/
def outGo (sel : Line → Int) (x : Int) : Nat → Int → List Line → Int
  | _, v, [] => v
  | k, v, t :: ts => outGo sel x (k + 1) (if sel t = x then (if t.k = 1 then (k : Int) else -1) else v) ts
def outB (sel : Line → Int) (ts : List Line) (a : Nat) (x : Int) : Int := outGo sel x 0 (-1) (ts.take a)
theorem take_drop_cons {α : Type} {l : List α} {a k : Nat} (hk : k < a) (ha : a ≤ l.length) : (l.take a).drop k = l[k]'(by omega) :: (l.take a).drop (k + 1) := by
  rw [List.drop_eq_getElem_cons (by simp; omega)]
  simp

theorem l63 (n : Nat) (ts : List Line) (x : Int) (a : Nat) (ha : a ≤ ts.length) (hlen : ts.length ≤ 1000) : ∀ (d k : Nat) (v : Int) (c m : Nat), k + d = a → d < m →
    loopA (execA Try.prog ann kn (n+50) 29) lb63_3 (some ([0, 1, 2, 7, 8], [])) m ⟨c, [(0, true, .list false (ts.map encL)), (1, true, i a), (2, true, i x), (7, true, i v), (8, true, i k)], ⟨[], []⟩⟩ =
    some (.exit 0, ⟨c, [(11, true, .bool false), (10, true, i a), (9, true, i a), (0, true, .list false (ts.map encL)), (1, true, i a), (2, true, i x), (7, true, i (outGo Line.c x k v ((ts.take a).drop k))), (8, true, i a)], ⟨[], []⟩⟩)
  | 0, k, v, c, m + 1, hd, hm => by
    have : k = a := by omega
    subst this
    simp [loopA_succ, outGo]
  | d + 1, k, v, c, m + 1, hd, hm => by
    have hk : k < ts.length := by omega
    have hka : k < a := by omega
    have hw : IntKind.i64.wrap ((k : Int) + 1) = (k : Int) + 1 := wrap_i64 (by omega) (by omega)
    have ih := l63 n ts x a ha hlen d (k + 1) (if ts[k].c = x then (if ts[k].k = 1 then (k : Int) else -1) else v) c m (by omega) (by omega)
    rw [loopA_succ, take_drop_cons hka ha]
    simp only [outGo, encL] at ih ⊢
    generalize e1 : decide (ts[k].c = x) = b1
    generalize e2 : decide (ts[k].k = 1) = b2
    have e1' : (ts[k].c = x) = (b1 = true) := by rw [← e1]; simp
    have e2' : (ts[k].k = 1) = (b2 = true) := by rw [← e2]; simp
    simp only [e1', e2'] at ih ⊢
    simp [hk, hka, hw, encL, e1]
    cases b1
    · simp at ih
      simp [hk, hw, encL, ih]
    · cases b2
      · simp at ih
        simp [hk, hw, encL, e2, ih]
      · simp at ih
        simp [hk, hw, encL, e2, ih]
theorem k63 (n : Nat) (ts : List Line) (x : Int) (a : Nat) (ha : a ≤ ts.length) (hlen : ts.length ≤ 90) : callK Try.prog kn (execA Try.prog ann kn (n+100)) 63 [.list false (ts.map encL), i a, i x] = some (i (outB Line.c ts a x)) := by
  have q := l63 (n + 44) ts x a ha (by omega) a 0 (-1) 0 (n + 94) (by omega) (by omega)
  rw [callK_of rfl, call0_eq Try.func63 b63 rfl (by simp [encL])]
  simp only [List.drop_zero, Nat.add_assoc, Nat.reduceAdd, Int.natCast_zero] at q
  simp [c63, argFr, q, outB]

theorem l64 (n : Nat) (ts : List Line) (x : Int) (a : Nat) (ha : a ≤ ts.length) (hlen : ts.length ≤ 1000) : ∀ (d k : Nat) (v : Int) (c m : Nat), k + d = a → d < m →
    loopA (execA Try.prog ann kn (n+50) 29) lb64_3 (some ([0, 1, 2, 7, 8], [])) m ⟨c, [(0, true, .list false (ts.map encL)), (1, true, i a), (2, true, i x), (7, true, i v), (8, true, i k)], ⟨[], []⟩⟩ =
    some (.exit 0, ⟨c, [(11, true, .bool false), (10, true, i a), (9, true, i a), (0, true, .list false (ts.map encL)), (1, true, i a), (2, true, i x), (7, true, i (outGo Line.t x k v ((ts.take a).drop k))), (8, true, i a)], ⟨[], []⟩⟩)
  | 0, k, v, c, m + 1, hd, hm => by
    have : k = a := by omega
    subst this
    simp [loopA_succ, outGo]
  | d + 1, k, v, c, m + 1, hd, hm => by
    have hk : k < ts.length := by omega
    have hka : k < a := by omega
    have hw : IntKind.i64.wrap ((k : Int) + 1) = (k : Int) + 1 := wrap_i64 (by omega) (by omega)
    have ih := l64 n ts x a ha hlen d (k + 1) (if ts[k].t = x then (if ts[k].k = 1 then (k : Int) else -1) else v) c m (by omega) (by omega)
    rw [loopA_succ, take_drop_cons hka ha]
    simp only [outGo, encL] at ih ⊢
    generalize e1 : decide (ts[k].t = x) = b1
    generalize e2 : decide (ts[k].k = 1) = b2
    have e1' : (ts[k].t = x) = (b1 = true) := by rw [← e1]; simp
    have e2' : (ts[k].k = 1) = (b2 = true) := by rw [← e2]; simp
    simp only [e1', e2'] at ih ⊢
    simp [hk, hka, hw, encL, e1]
    cases b1
    · simp at ih
      simp [hk, hw, encL, ih]
    · cases b2
      · simp at ih
        simp [hk, hw, encL, e2, ih]
      · simp at ih
        simp [hk, hw, encL, e2, ih]
theorem k64 (n : Nat) (ts : List Line) (x : Int) (a : Nat) (ha : a ≤ ts.length) (hlen : ts.length ≤ 90) : callK Try.prog kn (execA Try.prog ann kn (n+100)) 64 [.list false (ts.map encL), i a, i x] = some (i (outB Line.t ts a x)) := by
  have q := l64 (n + 44) ts x a ha (by omega) a 0 (-1) 0 (n + 94) (by omega) (by omega)
  rw [callK_of rfl, call0_eq Try.func64 b64 rfl (by simp [encL])]
  simp only [List.drop_zero, Nat.add_assoc, Nat.reduceAdd, Int.natCast_zero] at q
  simp [c64, argFr, q, outB]

def possOne (ts : List Line) (k : Nat) (t : Line) : Bool := !((decide (0 ≤ outB Line.c ts k t.c) != decide (t.k = 2)) || (decide (0 ≤ outB Line.t ts k t.t) != decide (t.k = 2)))
def possGo (ts : List Line) : Nat → List Line → Bool
  | _, [] => true
  | k, t :: r => possOne ts k t && possGo ts (k + 1) r
theorem l58 (n : Nat) (ts : List Line) (hlen : ts.length ≤ 90) : ∀ (d k : Nat) (c m : Nat), k + d = ts.length → d < m →
    loopA (execA Try.prog ann kn (n+150) 45) lb58_2 (some ([0, 3], [])) m ⟨c, [(0, true, .list false (ts.map encL)), (3, true, i k)], ⟨[], []⟩⟩ =
    bif possGo ts k (ts.drop k) then some (.exit 0, ⟨c, [(10, true, .bool false), (9, true, i ts.length), (8, true, .list false (ts.map encL)), (7, true, i ts.length), (0, true, .list false (ts.map encL)), (3, true, i ts.length)], ⟨[], []⟩⟩)
    else some (.ret, ⟨c, [(2, true, .bool false)], ⟨[], []⟩⟩)
  | 0, k, c, m + 1, hd, hm => by
    have : k = ts.length := by omega
    subst this
    simp [loopA_succ, possGo]
  | d + 1, k, c, m + 1, hd, hm => by
    have hk : k < ts.length := by omega
    have hw : IntKind.i64.wrap ((k : Int) + 1) = (k : Int) + 1 := wrap_i64 (by omega) (by omega)
    have ih := l58 n ts hlen d (k + 1) c m (by omega) (by omega)
    have q1 := fun n => k63 n ts ts[k].c k (by omega) hlen
    have q2 := fun n => k64 n ts ts[k].t k (by omega) hlen
    rw [loopA_succ, List.drop_eq_getElem_cons hk]
    simp only [possGo, possOne, encL] at ih ⊢
    generalize e1 : decide (0 ≤ outB Line.c ts k ts[k].c) = b1
    generalize e2 : decide (0 ≤ outB Line.t ts k ts[k].t) = b2
    generalize e3 : decide (ts[k].k = 2) = b3
    simp at ih
    have hcl : (ts.map encL).all (fun e => e.all (closedV 8)) = true := by simp [encL]
    simp [hk, hw, encL, q1, q2, e1, e2, e3, ih]
    cases b1 <;> cases b3 <;> cases b2 <;> simp [ih, hw]
def isPossB (ts : List Line) : Bool := possGo ts 0 ts
theorem k58 (n : Nat) (ts : List Line) (hlen : ts.length ≤ 90) : callK Try.prog kn (execA Try.prog ann kn (n+200)) 58 [.list false (ts.map encL)] = some (.bool (isPossB ts)) := by
  have q := l58 (n + 45) ts hlen ts.length 0 0 (n + 195) (by omega) (by omega)
  rw [callK_of rfl, call0_eq Try.func58 b58 rfl (by simp [encL])]
  simp only [List.drop_zero, Nat.add_assoc, Nat.reduceAdd, Int.natCast_zero] at q
  unfold isPossB
  cases h : possGo ts 0 ts <;> (rw [h] at q; simp at q; simp [c58, argFr, q])
/-- the money after some lines -/
def moneyGo (coin : Int) : Int → List Line → Int
  | v, [] => v
  | v, t :: r => moneyGo coin (if t.k = 1 then v + coin else v - coin) r
def moneyB (b : Book) (ts : List Line) (a : Nat) : Int := moneyGo b.coin b.box (ts.take a)
theorem l44 (n : Nat) (b : Book) (hc1 : 1 ≤ b.coin) (hc2 : b.coin ≤ 99) (ts : List Line) (a : Nat) (ha : a ≤ ts.length) (hlen : ts.length ≤ 90) : ∀ (d k : Nat) (v : Int) (c m : Nat), k + d = a → d < m → -(1000 + 100 * (k : Int)) ≤ v → v ≤ 1000 + 100 * (k : Int) →
    ∃ x : Fr, loopA (execA Try.prog ann kn (n+50) 31) lb44_3 (some ([1, 2, 3, 4, 7, 8], [3])) m ⟨c, [(1, true, .list false (ts.map encL)), (2, true, i a), (3, true, .ptr 0 3 0 0), (7, true, i v), (8, true, i k)], ⟨[], [(3, 0, .box (cellsB b))]⟩⟩ =
    some (.exit 0, ⟨c, [(13, true, .bool false), (12, true, i a), (11, true, i a), (1, true, .list false (ts.map encL)), (2, true, i a), (3, true, .ptr 0 3 0 0), (7, true, i (moneyGo b.coin v ((ts.take a).drop k))), (8, true, i a)], ⟨[], [(3, 0, .box (cellsB b))]⟩⟩)
  | 0, k, v, c, m + 1, hd, hm, hv1, hv2 => by
    have : k = a := by omega
    subst this
    exact ⟨[], by simp [loopA_succ, moneyGo, cellsB]⟩
  | d + 1, k, v, c, m + 1, hd, hm, hv1, hv2 => by
    have hk : k < ts.length := by omega
    have hka : k < a := by omega
    have hw : IntKind.i64.wrap ((k : Int) + 1) = (k : Int) + 1 := wrap_i64 (by omega) (by omega)
    have hw2 : IntKind.i64.wrap (v + b.coin) = v + b.coin := wrap_i64 (by omega) (by omega)
    have hw3 : IntKind.i64.wrap (v - b.coin) = v - b.coin := wrap_i64 (by omega) (by omega)
    refine ⟨[], ?_⟩
    rw [loopA_succ, take_drop_cons hka ha]
    by_cases e1 : ts[k].k = 1
    · obtain ⟨_, ih⟩ := l44 n b hc1 hc2 ts a ha hlen d (k + 1) (v + b.coin) c m (by omega) (by omega) (by omega) (by omega)
      simp only [moneyGo, cellsB, e1, if_true] at ih ⊢
      simp at ih
      simp [hk, hka, hw, hw2, encL, e1, ih]
    · obtain ⟨_, ih⟩ := l44 n b hc1 hc2 ts a ha hlen d (k + 1) (v - b.coin) c m (by omega) (by omega) (by omega) (by omega)
      have e2 : decide (ts[k].k = 1) = false := by simpa using e1
      simp only [moneyGo, cellsB, e1, if_false] at ih ⊢
      simp at ih
      simp [hk, hka, hw, hw3, encL, e2, ih]
theorem k44 (n : Nat) (b : Book) (hc1 : 1 ≤ b.coin) (hc2 : b.coin ≤ 99) (hx1 : 0 ≤ b.box) (hx2 : b.box ≤ 999) (ts : List Line) (a : Nat) (ha : a ≤ ts.length) (hlen : ts.length ≤ 90) : callK Try.prog kn (execA Try.prog ann kn (n+100)) 44 [.agg (cellsB b), .list false (ts.map encL), i a] = some (i (moneyB b ts a)) := by
  obtain ⟨_, q⟩ := l44 (n + 44) b hc1 hc2 ts a ha hlen a 0 b.box 1 (n + 94) (by omega) (by omega) (by omega) (by omega)
  rw [callK_of rfl, call0_eq Try.func44 b44 rfl (by simp [encL, cellsB, encC])]
  simp only [cellsB, List.drop_zero, Nat.add_assoc, Nat.reduceAdd, Int.natCast_zero] at q ⊢
  simp [c44, argFr, q, moneyB]
theorem gI0_tt {P : Program} {E : XE} {st : XS} (d : Option Tmp) (k : IK) : gI0 P E d k st true (some (true, .bool true)) = stepK0 P E d k st := rfl
theorem gI0_ff {P : Program} {E : XE} {st : XS} (d : Option Tmp) (k : IK) : gI0 P E d k st false (some (true, .bool false)) = stepK0 P E d k st := rfl
theorem gz_mv_tf {P : Program} {E : XE} {st : XS} (d : Option Tmp) (x : Operand) : gI0 P E d (.mv x) st true (some (true, .bool false)) = some (xSkip d st, []) := rfl
theorem gz_mv_ft {P : Program} {E : XE} {st : XS} (d : Option Tmp) (x : Operand) : gI0 P E d (.mv x) st false (some (true, .bool true)) = some (xSkip d st, []) := rfl
theorem gz_mv_no {P : Program} {E : XE} {st : XS} (d : Option Tmp) (x : Operand) (w b : Bool) : gI0 P E d (.mv x) st w (some (false, .bool b)) = some (xSkip d st, []) := rfl
theorem gz_bin_tf {P : Program} {E : XE} {st : XS} (d : Option Tmp) (op : BinOp) (T : TypeId) (x y : Operand) : gI0 P E d (.bin op T x y) st true (some (true, .bool false)) = some (xSkip d st, []) := rfl
theorem gz_bin_ft {P : Program} {E : XE} {st : XS} (d : Option Tmp) (op : BinOp) (T : TypeId) (x y : Operand) : gI0 P E d (.bin op T x y) st false (some (true, .bool true)) = some (xSkip d st, []) := rfl
theorem gz_bin_no {P : Program} {E : XE} {st : XS} (d : Option Tmp) (op : BinOp) (T : TypeId) (x y : Operand) (w b : Bool) : gI0 P E d (.bin op T x y) st w (some (false, .bool b)) = some (xSkip d st, []) := rfl
theorem gz_fa_tf {P : Program} {E : XE} {st : XS} (d : Option Tmp) (T : TypeId) (x : Operand) (f : Nat) : gI0 P E d (.fa T x f) st true (some (true, .bool false)) = some (xSkip d st, []) := rfl
theorem gz_fa_ft {P : Program} {E : XE} {st : XS} (d : Option Tmp) (T : TypeId) (x : Operand) (f : Nat) : gI0 P E d (.fa T x f) st false (some (true, .bool true)) = some (xSkip d st, []) := rfl
theorem gz_fa_no {P : Program} {E : XE} {st : XS} (d : Option Tmp) (T : TypeId) (x : Operand) (f : Nat) (w b : Bool) : gI0 P E d (.fa T x f) st w (some (false, .bool b)) = some (xSkip d st, []) := rfl
theorem gz_ld_tf {P : Program} {E : XE} {st : XS} (d : Option Tmp) (T : TypeId) (x : Operand) : gI0 P E d (.ld T x) st true (some (true, .bool false)) = some (xSkip d st, []) := rfl
theorem gz_ld_ft {P : Program} {E : XE} {st : XS} (d : Option Tmp) (T : TypeId) (x : Operand) : gI0 P E d (.ld T x) st false (some (true, .bool true)) = some (xSkip d st, []) := rfl
theorem gz_ld_no {P : Program} {E : XE} {st : XS} (d : Option Tmp) (T : TypeId) (x : Operand) (w b : Bool) : gI0 P E d (.ld T x) st w (some (false, .bool b)) = some (xSkip d st, []) := rfl
theorem gz_pick_tf {P : Program} {E : XE} {st : XS} (d : Option Tmp) (x y z : Operand) : gI0 P E d (.pick x y z) st true (some (true, .bool false)) = some (xSkip d st, []) := rfl
theorem gz_pick_ft {P : Program} {E : XE} {st : XS} (d : Option Tmp) (x y z : Operand) : gI0 P E d (.pick x y z) st false (some (true, .bool true)) = some (xSkip d st, []) := rfl
theorem gz_pick_no {P : Program} {E : XE} {st : XS} (d : Option Tmp) (x y z : Operand) (w b : Bool) : gI0 P E d (.pick x y z) st w (some (false, .bool b)) = some (xSkip d st, []) := rfl
theorem gz_build_tf {P : Program} {E : XE} {st : XS} (d : Option Tmp) (T : TypeId) (ps : List (Nat × Operand)) : gI0 P E d (.build T ps) st true (some (true, .bool false)) = some (xSkip d st, []) := rfl
theorem gz_build_ft {P : Program} {E : XE} {st : XS} (d : Option Tmp) (T : TypeId) (ps : List (Nat × Operand)) : gI0 P E d (.build T ps) st false (some (true, .bool true)) = some (xSkip d st, []) := rfl
theorem gz_build_no {P : Program} {E : XE} {st : XS} (d : Option Tmp) (T : TypeId) (ps : List (Nat × Operand)) (w b : Bool) : gI0 P E d (.build T ps) st w (some (false, .bool b)) = some (xSkip d st, []) := rfl
theorem gz_oth_tf {P : Program} {E : XE} {st : XS} (d : Option Tmp) (op : Op) : gI0 P E d (.oth op) st true (some (true, .bool false)) = some (xSkip d st, []) := rfl
theorem gz_oth_ft {P : Program} {E : XE} {st : XS} (d : Option Tmp) (op : Op) : gI0 P E d (.oth op) st false (some (true, .bool true)) = some (xSkip d st, []) := rfl
theorem gz_oth_no {P : Program} {E : XE} {st : XS} (d : Option Tmp) (op : Op) (w b : Bool) : gI0 P E d (.oth op) st w (some (false, .bool b)) = some (xSkip d st, []) := rfl
theorem gz_call_tf {P : Program} {E : XE} {st : XS} (d : Option Tmp) (t : Option Tmp) (f : Operand) (a : List Operand) : gI0 P E d (.call false t f a) st true (some (true, .bool false)) = some (xSkip d st, []) := rfl
theorem gz_call_ft {P : Program} {E : XE} {st : XS} (d : Option Tmp) (t : Option Tmp) (f : Operand) (a : List Operand) : gI0 P E d (.call false t f a) st false (some (true, .bool true)) = some (xSkip d st, []) := rfl
theorem gz_call_no {P : Program} {E : XE} {st : XS} (d : Option Tmp) (t : Option Tmp) (f : Operand) (a : List Operand) (w b : Bool) : gI0 P E d (.call false t f a) st w (some (false, .bool b)) = some (xSkip d st, []) := rfl
def readOne (C : Int) (l t : Line) : Bool := inB t.k 1 2 && (inB t.c 0 (C - 1) && (inB t.t 0 (C - 1) && agreesB l t))
def readGo (C : Int) : List Line → List Line → Bool
  | l :: ls, t :: ts => readOne C l t && readGo C ls ts
  | _, _ => true
theorem l57 (n : Nat) (b : Book) (h1 : 1 ≤ b.chairs) (h4 : b.chairs ≤ 4) (ts : List Line) (hlen : ts.length = b.lines.length) (hl8 : b.lines.length ≤ 8) : ∀ (d k : Nat) (c m : Nat), k + d = ts.length → d < m → 1 ≤ c →
    ∃ c' : Nat, loopA (execA Try.prog ann kn (n+150) 55) lb57_4 (some ([1, 2, 5], [2])) m ⟨c, [(1, true, .list false (ts.map encL)), (2, true, .ptr 0 2 0 0), (5, true, i k)], ⟨[], [(2, 0, .box (cellsB b))]⟩⟩ =
    bif readGo b.chairs (b.lines.drop k) (ts.drop k) then some (.exit 0, ⟨c', [(16, true, .bool false), (15, true, i ts.length), (14, true, .list false (ts.map encL)), (13, true, i ts.length), (1, true, .list false (ts.map encL)), (2, true, .ptr 0 2 0 0), (5, true, i ts.length)], ⟨[], [(2, 0, .box (cellsB b))]⟩⟩)
    else some (.ret, ⟨c', [(4, true, .bool false)], ⟨[], []⟩⟩)
  | 0, k, c, m + 1, hd, hm, hc => by
    have : k = ts.length := by omega
    subst this
    refine ⟨c, ?_⟩
    have e : b.lines.drop ts.length = [] := by rw [hlen]; simp
    simp [loopA_succ, readGo, cellsB, e]
  | d + 1, k, c, m + 1, hd, hm, hc => by
    have hk : k < ts.length := by omega
    have hk2 : k < b.lines.length := by omega
    have hw : IntKind.i64.wrap ((k : Int) + 1) = (k : Int) + 1 := wrap_i64 (by omega) (by omega)
    have hw2 : IntKind.i64.wrap (b.chairs - 1) = b.chairs - 1 := wrap_i64 (by omega) (by omega)
    obtain ⟨c', ih⟩ := l57 n b h1 h4 ts hlen hl8 d (k + 1) (c + 1) m (by omega) (by omega) (by omega)
    have q := fun n => k99 n b.lines[k] ts[k]
    rw [loopA_succ, List.drop_eq_getElem_cons hk, List.drop_eq_getElem_cons hk2]
    simp only [readGo, readOne, cellsB, encL] at ih q ⊢
    generalize e1 : inB ts[k].k 1 2 = b1
    generalize e2 : inB ts[k].c 0 (b.chairs - 1) = b2
    generalize e3 : inB ts[k].t 0 (b.chairs - 1) = b3
    generalize e4 : agreesB b.lines[k] ts[k] = b4 at q
    simp at ih
    have fin : ∀ v, (b1 && (b2 && (b3 && b4))) = v → ∃ c', v = false ∨ v = true := fun v _ => ⟨0, by cases v <;> simp⟩
    clear fin
    cases b1
    · refine ⟨c + 1, ?_⟩
      simp [-gI0_some, gI0_tt, gI0_ff, gz_mv_tf, gz_mv_ft, gz_mv_no, gz_bin_tf, gz_bin_ft, gz_bin_no, gz_fa_tf, gz_fa_ft, gz_fa_no, gz_ld_tf, gz_ld_ft, gz_ld_no, gz_pick_tf, gz_pick_ft, gz_pick_no, gz_build_tf, gz_build_ft, gz_build_no, gz_oth_tf, gz_oth_ft, gz_oth_no, gz_call_tf, gz_call_ft, gz_call_no, hk, hk2, hw, hw2, encL, e1]
    cases b2
    · refine ⟨c + 1, ?_⟩
      simp [-gI0_some, gI0_tt, gI0_ff, gz_mv_tf, gz_mv_ft, gz_mv_no, gz_bin_tf, gz_bin_ft, gz_bin_no, gz_fa_tf, gz_fa_ft, gz_fa_no, gz_ld_tf, gz_ld_ft, gz_ld_no, gz_pick_tf, gz_pick_ft, gz_pick_no, gz_build_tf, gz_build_ft, gz_build_no, gz_oth_tf, gz_oth_ft, gz_oth_no, gz_call_tf, gz_call_ft, gz_call_no, hk, hk2, hw, hw2, encL, e1, e2]
    cases b3
    · refine ⟨c + 1, ?_⟩
      simp [-gI0_some, gI0_tt, gI0_ff, gz_mv_tf, gz_mv_ft, gz_mv_no, gz_bin_tf, gz_bin_ft, gz_bin_no, gz_fa_tf, gz_fa_ft, gz_fa_no, gz_ld_tf, gz_ld_ft, gz_ld_no, gz_pick_tf, gz_pick_ft, gz_pick_no, gz_build_tf, gz_build_ft, gz_build_no, gz_oth_tf, gz_oth_ft, gz_oth_no, gz_call_tf, gz_call_ft, gz_call_no, hk, hk2, hw, hw2, encL, e1, e2, e3]
    cases b4
    · refine ⟨c + 1, ?_⟩
      simp [-gI0_some, gI0_tt, gI0_ff, gz_mv_tf, gz_mv_ft, gz_mv_no, gz_bin_tf, gz_bin_ft, gz_bin_no, gz_fa_tf, gz_fa_ft, gz_fa_no, gz_ld_tf, gz_ld_ft, gz_ld_no, gz_pick_tf, gz_pick_ft, gz_pick_no, gz_build_tf, gz_build_ft, gz_build_no, gz_oth_tf, gz_oth_ft, gz_oth_no, gz_call_tf, gz_call_ft, gz_call_no, hk, hk2, hw, hw2, encL, e1, e2, e3, q]
    · refine ⟨c', ?_⟩
      simp [-gI0_some, gI0_tt, gI0_ff, gz_mv_tf, gz_mv_ft, gz_mv_no, gz_bin_tf, gz_bin_ft, gz_bin_no, gz_fa_tf, gz_fa_ft, gz_fa_no, gz_ld_tf, gz_ld_ft, gz_ld_no, gz_pick_tf, gz_pick_ft, gz_pick_no, gz_build_tf, gz_build_ft, gz_build_no, gz_oth_tf, gz_oth_ft, gz_oth_no, gz_call_tf, gz_call_ft, gz_call_no, hk, hk2, hw, hw2, encL, e1, e2, e3, q, ih]
def isReadB (b : Book) (ts : List Line) : Bool := decide (ts.length = b.lines.length) && readGo b.chairs b.lines ts
theorem k57 (n : Nat) (b : Book) (h1 : 1 ≤ b.chairs) (h4 : b.chairs ≤ 4) (ts : List Line) (hl8 : b.lines.length ≤ 8) : callK Try.prog kn (execA Try.prog ann kn (n+200)) 57 [.agg (cellsB b), .list false (ts.map encL)] = some (.bool (isReadB b ts)) := by
  rw [callK_of rfl, call0_eq Try.func57 b57 rfl (by simp [encL, cellsB, encC])]
  unfold isReadB
  by_cases hlen : ts.length = b.lines.length
  · obtain ⟨c', q⟩ := l57 (n + 44) b h1 h4 ts hlen hl8 ts.length 0 1 (n + 194) (by omega) (by omega) (by omega)
    simp only [cellsB, List.drop_zero, Nat.add_assoc, Nat.reduceAdd, Int.natCast_zero] at q ⊢
    cases h : readGo b.chairs b.lines ts <;> (rw [h] at q; simp only [hlen] at q; simp at q; simp [c57, argFr, hlen, q])
  · have e1 : decide ((ts.length : Int) = (b.lines.length : Int)) = false := by simp; omega
    simp [c57, argFr, cellsB, e1, hlen]

def mixOne (ts : List Line) (k : Nat) (t : Line) : Bool := decide (t.k = 2) && !decide (outB Line.c ts k t.c = outB Line.t ts k t.t)
def mixGo (ts : List Line) : Nat → Int → List Line → Int
  | _, v, [] => v
  | k, v, t :: r => mixGo ts (k + 1) (if mixOne ts k t = true then v + 1 else v) r
def mixB (ts : List Line) : Int := mixGo ts 0 0 ts
theorem l45 (n : Nat) (ts : List Line) (hlen : ts.length ≤ 90) : ∀ (d k : Nat) (v : Int) (c m : Nat), k + d = ts.length → d < m → 0 ≤ v → v ≤ k →
    ∃ c' : Nat, loopA (execA Try.prog ann kn (n+150) 35) lb45_3 (some ([0, 3, 4], [])) m ⟨c, [(0, true, .list false (ts.map encL)), (3, true, i v), (4, true, i k)], ⟨[], []⟩⟩ =
    some (.exit 0, ⟨c', [(9, true, .bool false), (8, true, i ts.length), (7, true, .list false (ts.map encL)), (6, true, i ts.length), (0, true, .list false (ts.map encL)), (3, true, i (mixGo ts k v (ts.drop k))), (4, true, i ts.length)], ⟨[], []⟩⟩)
  | 0, k, v, c, m + 1, hd, hm, hv, hv2 => by
    have : k = ts.length := by omega
    subst this
    exact ⟨c, by simp [loopA_succ, mixGo]⟩
  | d + 1, k, v, c, m + 1, hd, hm, hv, hv2 => by
    have hk : k < ts.length := by omega
    have hw : IntKind.i64.wrap ((k : Int) + 1) = (k : Int) + 1 := wrap_i64 (by omega) (by omega)
    have hw2 : IntKind.i64.wrap (v + 1) = v + 1 := wrap_i64 (by omega) (by omega)
    obtain ⟨c', ih⟩ := l45 n ts hlen d (k + 1) (if mixOne ts k ts[k] = true then v + 1 else v) (c + 1) m (by omega) (by omega) (by split <;> omega) (by split <;> omega)
    have q1 := fun n => k63 n ts ts[k].c k (by omega) hlen
    have q2 := fun n => k64 n ts ts[k].t k (by omega) hlen
    refine ⟨c', ?_⟩
    rw [loopA_succ, List.drop_eq_getElem_cons hk]
    have hmx : mixOne ts k ts[k] = (decide (ts[k].k = 2) && !decide (outB Line.c ts k ts[k].c = outB Line.t ts k ts[k].t)) := rfl
    generalize e1 : decide (ts[k].k = 2) = b1 at hmx
    generalize e2 : decide (outB Line.c ts k ts[k].c = outB Line.t ts k ts[k].t) = b2 at hmx
    simp only [mixGo, hmx, encL] at ih ⊢
    cases b1
    · simp at ih
      simp [-gI0_some, gI0_tt, gI0_ff, gz_mv_tf, gz_mv_ft, gz_mv_no, gz_bin_tf, gz_bin_ft, gz_bin_no, gz_fa_tf, gz_fa_ft, gz_fa_no, gz_ld_tf, gz_ld_ft, gz_ld_no, gz_pick_tf, gz_pick_ft, gz_pick_no, gz_build_tf, gz_build_ft, gz_build_no, gz_oth_tf, gz_oth_ft, gz_oth_no, gz_call_tf, gz_call_ft, gz_call_no, hk, hw, hw2, encL, e1, ih]
    · cases b2
      · simp at ih
        simp [-gI0_some, gI0_tt, gI0_ff, gz_mv_tf, gz_mv_ft, gz_mv_no, gz_bin_tf, gz_bin_ft, gz_bin_no, gz_fa_tf, gz_fa_ft, gz_fa_no, gz_ld_tf, gz_ld_ft, gz_ld_no, gz_pick_tf, gz_pick_ft, gz_pick_no, gz_build_tf, gz_build_ft, gz_build_no, gz_oth_tf, gz_oth_ft, gz_oth_no, gz_call_tf, gz_call_ft, gz_call_no, hk, hw, hw2, encL, e1, q1, q2, e2, ih]
      · simp at ih
        simp [-gI0_some, gI0_tt, gI0_ff, gz_mv_tf, gz_mv_ft, gz_mv_no, gz_bin_tf, gz_bin_ft, gz_bin_no, gz_fa_tf, gz_fa_ft, gz_fa_no, gz_ld_tf, gz_ld_ft, gz_ld_no, gz_pick_tf, gz_pick_ft, gz_pick_no, gz_build_tf, gz_build_ft, gz_build_no, gz_oth_tf, gz_oth_ft, gz_oth_no, gz_call_tf, gz_call_ft, gz_call_no, hk, hw, hw2, encL, e1, q1, q2, e2, ih]
theorem k45 (n : Nat) (ts : List Line) (hlen : ts.length ≤ 90) : callK Try.prog kn (execA Try.prog ann kn (n+200)) 45 [.list false (ts.map encL)] = some (i (mixB ts)) := by
  obtain ⟨c', q⟩ := l45 (n + 44) ts hlen ts.length 0 0 0 (n + 194) (by omega) (by omega) (by omega) (by omega)
  rw [callK_of rfl, call0_eq Try.func45 b45 rfl (by simp [encL])]
  simp only [List.drop_zero, Nat.add_assoc, Nat.reduceAdd, Int.natCast_zero] at q
  simp [c45, argFr, q, mixB]
def cntOne (b : Book) (ts : List Line) (x : Count) : Bool := inB (moneyB b ts x.a.toNat) x.lo x.hi
theorem l89 (n : Nat) (b : Book) (hc1 : 1 ≤ b.coin) (hc2 : b.coin ≤ 99) (hx1 : 0 ≤ b.box) (hx2 : b.box ≤ 999) (ts : List Line) (hlen : ts.length ≤ 90) (hcs : ∀ x ∈ b.counts, 0 ≤ x.a ∧ x.a ≤ ts.length) (hcl : b.counts.length ≤ 4) : ∀ (d k : Nat) (c m : Nat), k + d = b.counts.length → d < m → 1 ≤ c →
    ∃ c' : Nat, loopA (execA Try.prog ann kn (n+150) 32) lb89_2 (some ([1, 2, 5], [2])) m ⟨c, [(1, true, .list false (ts.map encL)), (2, true, .ptr 0 2 0 0), (5, true, i k)], ⟨[], [(2, 0, .box (cellsB b))]⟩⟩ =
    bif (b.counts.drop k).all (cntOne b ts) then some (.exit 0, ⟨c', [(11, true, .bool false), (10, true, i b.counts.length), (9, true, .list false (b.counts.map encC)), (8, true, .ptr 0 2 0 4), (7, true, i b.counts.length), (1, true, .list false (ts.map encL)), (2, true, .ptr 0 2 0 0), (5, true, i b.counts.length)], ⟨[], [(2, 0, .box (cellsB b))]⟩⟩)
    else some (.ret, ⟨c', [(4, true, .bool false)], ⟨[], []⟩⟩)
  | 0, k, c, m + 1, hd, hm, hc => by
    have : k = b.counts.length := by omega
    subst this
    exact ⟨c, by simp [loopA_succ, cellsB]⟩
  | d + 1, k, c, m + 1, hd, hm, hc => by
    have hk : k < b.counts.length := by omega
    have hw : IntKind.i64.wrap ((k : Int) + 1) = (k : Int) + 1 := wrap_i64 (by omega) (by omega)
    obtain ⟨c', ih⟩ := l89 n b hc1 hc2 hx1 hx2 ts hlen hcs hcl d (k + 1) (c + 1) m (by omega) (by omega) (by omega)
    have hx := hcs _ (List.getElem_mem hk)
    have q := fun n => k44 n b hc1 hc2 hx1 hx2 ts b.counts[k].a.toNat (by omega) hlen
    have ea : ((b.counts[k].a.toNat : Nat) : Int) = b.counts[k].a := by omega
    rw [loopA_succ, List.drop_eq_getElem_cons hk, List.all_cons]
    rw [ea] at q
    simp only [cntOne, cellsB, encL] at ih q ⊢
    generalize e1 : inB (moneyB b ts b.counts[k].a.toNat) b.counts[k].lo b.counts[k].hi = b1
    simp at ih
    cases b1
    · refine ⟨c + 1, ?_⟩
      simp [hk, hw, encC, encL, q, e1]
    · refine ⟨c', ?_⟩
      simp [hk, hw, encC, encL, q, e1, ih]
theorem k89 (n : Nat) (b : Book) (hc1 : 1 ≤ b.coin) (hc2 : b.coin ≤ 99) (hx1 : 0 ≤ b.box) (hx2 : b.box ≤ 999) (ts : List Line) (hlen : ts.length ≤ 90) (hcs : ∀ x ∈ b.counts, 0 ≤ x.a ∧ x.a ≤ ts.length) (hcl : b.counts.length ≤ 4) : callK Try.prog kn (execA Try.prog ann kn (n+200)) 89 [.agg (cellsB b), .list false (ts.map encL)] = some (.bool (b.counts.all (cntOne b ts))) := by
  obtain ⟨c', q⟩ := l89 (n + 45) b hc1 hc2 hx1 hx2 ts hlen hcs hcl b.counts.length 0 1 (n + 195) (by omega) (by omega) (by omega)
  rw [callK_of rfl, call0_eq Try.func89 b89 rfl (by simp [encL, cellsB, encC])]
  simp only [cellsB, List.drop_zero, Nat.add_assoc, Nat.reduceAdd, Int.natCast_zero] at q ⊢
  cases h : b.counts.all (cntOne b ts) <;> (rw [h] at q; simp at q; simp [c89, argFr, q])
def fitsB (b : Book) (ts : List Line) : Bool := isReadB b ts && (isPossB ts && b.counts.all (cntOne b ts))
theorem k56 (n : Nat) (b : Book) (hf : faultB b = 0) (ts : List Line) (hlen : ts.length ≤ 90) : callK Try.prog kn (execA Try.prog ann kn (n+300)) 56 [.agg (cellsB b), .list false (ts.map encL)] = some (.bool (fitsB b ts)) := by
  obtain ⟨h1, h4, hl8, hc4, hc1, hc2, hx1, hx2, hok, hcok, _⟩ := fault0 hf
  have q1 := fun n => k57 n b h1 h4 ts hl8
  have q2 := fun n => k58 n ts hlen
  rw [callK_of rfl, call0_eq Try.func56 b56 rfl (by simp [encL, cellsB, encC])]
  unfold fitsB
  cases e1 : isReadB b ts
  · simp only [e1, cellsB] at q1 ⊢
    simp [c56, argFr, q1, encL, encC]
  · have hl : ts.length = b.lines.length := by
      simp only [isReadB, Bool.and_eq_true, decide_eq_true_eq] at e1; exact e1.1
    have hcs : ∀ x ∈ b.counts, 0 ≤ x.a ∧ x.a ≤ ts.length := by
      intro x hx
      have := List.all_eq_true.1 hcok x hx
      simp only [countOk, inB, Bool.and_eq_true, decide_eq_true_eq] at this
      rw [hl]; exact this.1
    have q3 := fun n => k89 n b hc1 hc2 hx1 hx2 ts hlen hcs hc4
    cases e2 : isPossB ts
    · simp only [e1, e2, cellsB] at q1 q2 ⊢
      simp [c56, argFr, q1, q2, encL, encC]
    · simp only [e1, e2, cellsB] at q1 q2 q3 ⊢
      simp [c56, argFr, q1, q2, q3, encL, encC]
end Go.Proofs.Try.Op
