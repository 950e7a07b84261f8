/- Two rows under way. No program in sight. -/
import Derived.Test.YtfbbnkaahnpicaaSx
import Derived.Test.YtfbbnkaahnpicaaGt
import Derived.Test.YtfbbnkaahnpicaaT2
import Derived.Test.YtfbbnkaahnpicaaFz
import Derived.Test.YtfbbnkaahnpicaaY1
open Go Go.Pg Go.Proofs
set_option linter.unusedSimpArgs false
namespace Go.Proofs.Try.Op
theorem kl_pl2 {j k : Nat} (h : j ≠ k) (γ γ2 : Nat) (T T2 : TypeId) (es fs : List (List V)) : kl j (kl k [] ((pl j γ T es ++ pl k γ2 T2 fs).get k)) ((pl j γ T es ++ pl k γ2 T2 fs).get j) = pl j γ T es ++ pl k γ2 T2 fs := by
  cases es <;> cases fs <;> simp [h, h.symm]
theorem get_pl2 {j k : Nat} (h : j ≠ k) (γ γ2 : Nat) (T T2 : TypeId) (es fs : List (List V)) : (pl j γ T es ++ pl k γ2 T2 fs).get k = (pl k γ2 T2 fs).get k := by
  cases es <;> cases fs <;> simp [h.symm]
theorem kl_pl3 {j k : Nat} (h : j ≠ k) (γ γ2 : Nat) (T T2 : TypeId) (es fs : List (List V)) (M : Level) : kl j M ((pl j γ T es ++ pl k γ2 T2 fs).get j) = pl j γ T es ++ M := by
  cases es <;> cases fs <;> simp [h, h.symm]
theorem get_pl4 {j k : Nat} (h : j ≠ k) (γ : Nat) (T : TypeId) (es : List (List V)) (x : Nat × Res) : (pl j γ T es ++ [(k, x)]).get k = some x := by
  cases es <;> simp [h.symm]
theorem kl_pl4 {j k : Nat} (h : j ≠ k) (γ : Nat) (T : TypeId) (es : List (List V)) (x : Nat × Res) (M : Level) : kl j M ((pl j γ T es ++ [(k, x)]).get j) = pl j γ T es ++ M := by
  cases es <;> simp [h, h.symm]
theorem get_pl5 {j k : Nat} (h : j ≠ k) (γ γ2 : Nat) (T T2 : TypeId) (es fs : List (List V)) : (pl j γ T es ++ pl k γ2 T2 fs).get j = (pl j γ T es).get j := by
  cases es <;> cases fs <;> simp [h]
theorem get_pl6 {j k m : Nat} (h1 : j ≠ m) (h2 : k ≠ m) (γ γ2 : Nat) (T T2 : TypeId) (es fs : List (List V)) : (pl j γ T es ++ pl k γ2 T2 fs).get m = none := by
  cases es <;> cases fs <;> simp [h1.symm, h2.symm]
def withL (b : Book) (t : List Line) : Book := { b with lines := t }
def selfR (C : Int) (l : Line) : Bool := lineOk C l && ((readings C l).map tri == [tri l])
def selfOK : Bool := [1, 2, 3, 4].all fun C : Int => [0, 1, 2].all fun k : Int => [-1, 0, 1, 2, 3].all fun c : Int => [-1, 0, 1, 2, 3].all fun t : Int =>
  !(lineOk C ⟨k, c, t⟩) || (readings C ⟨k, c, t⟩).all (selfR C)
structure Read1 (b : Book) (t : List Line) (k : Nat) : Prop where
  a : askedP (withL b t) true = 0
  c : ∀ y ∈ verdsP (withL b t) chP k, y ≠ 3
  t' : ∀ y ∈ verdsP (withL b t) tkP k, y ≠ 3
  cl : (verdsP (withL b t) chP k).length = b.chairs.toNat
  tl : (verdsP (withL b t) tkP k).length = b.chairs.toNat
  m : (boundsP (withL b t) Scene.money k).1 = (boundsP (withL b t) Scene.money k).2
  x : (boundsP (withL b t) Scene.mixed b.lines.length).1 = (boundsP (withL b t) Scene.mixed b.lines.length).2
  p : proveB (withL b t) t = true
def clash (l x : Line) : Bool := decide (x.c = l.c) || decide (x.t = l.t)
def freshL : List Line → List Line → Bool
  | _, [] => true
  | s, l :: r => !(s.any (clash l)) && freshL (s ++ [l]) r
def fcGo : List Line → Nat → List Line → Option Nat
  | _, _, [] => none
  | s, j, l :: r => if s.any (clash l) = true then some j else fcGo (s ++ [l]) (j + 1) r
theorem and_nat {a b : Nat} (ha : a < 4611686018427387904) (hb : b < 4611686018427387904) : IntKind.i64.wrap (((BitVec.ofInt 64 (a : Int) &&& BitVec.ofInt 64 (b : Int)).toNat : Nat) : Int) = ((a &&& b : Nat) : Int) := by
  have h : (BitVec.ofInt 64 (a : Int) &&& BitVec.ofInt 64 (b : Int)).toNat = a &&& b := by
    rw [BitVec.toNat_and, BitVec.ofInt_natCast, BitVec.ofInt_natCast, BitVec.toNat_ofNat, BitVec.toNat_ofNat, Nat.mod_eq_of_lt (by omega), Nat.mod_eq_of_lt (by omega)]
  rw [h]
  have := Nat.and_le_left (n := a) (m := b)
  exact wrap_i64 (by omega) (by omega)
theorem or_nat {a b : Nat} (ha : a < 4611686018427387904) (hb : b < 4611686018427387904) : IntKind.i64.wrap (((BitVec.ofInt 64 (a : Int) ||| BitVec.ofInt 64 (b : Int)).toNat : Nat) : Int) = ((a ||| b : Nat) : Int) := by
  have h : (BitVec.ofInt 64 (a : Int) ||| BitVec.ofInt 64 (b : Int)).toNat = a ||| b := by
    rw [BitVec.toNat_or, BitVec.ofInt_natCast, BitVec.ofInt_natCast, BitVec.toNat_ofNat, BitVec.toNat_ofNat, Nat.mod_eq_of_lt (by omega), Nat.mod_eq_of_lt (by omega)]
  rw [h]
  have := Nat.or_lt_two_pow (n := 62) (x := a) (y := b) (by omega) (by omega)
  exact wrap_i64 (by omega) (by omega)
def bitsL (l : Line) : Nat := 2 ^ l.c.toNat ||| 2 ^ (4 + l.t.toNat)
def maskL (ls : List Line) : Nat := ls.foldl (fun m l => m ||| bitsL l) 0
def inR (l : Line) : Prop := 0 ≤ l.c ∧ l.c ≤ 3 ∧ 0 ≤ l.t ∧ l.t ≤ 3
@[simp] theorem conv_3_70 (k : IntKind) (n : Int) : evConv Try.prog 3 70 (.int k n) = some (.int .u64 (IntKind.u64.wrap n)) := by
  unfold evConv
  rw [Try.underlying3, Try.underlying70]
@[simp] theorem conv_5_3 (k : IntKind) (n : Int) : evConv Try.prog 5 3 (.int k n) = some (.int .i64 (IntKind.i64.wrap n)) := by
  unfold evConv
  rw [Try.underlying5, Try.underlying3]
@[simp] theorem conv_73_3 (k : IntKind) (n : Int) : evConv Try.prog 73 3 (.int k n) = some (.int .i64 (IntKind.i64.wrap n)) := by
  unfold evConv
  rw [Try.underlying73, Try.underlying3]
theorem w64_0 : IntKind.u64.wrap 0 = 0 := by decide
theorem w64_1 : IntKind.u64.wrap 1 = 1 := by decide
theorem w64_2 : IntKind.u64.wrap 2 = 2 := by decide
theorem w64_3 : IntKind.u64.wrap 3 = 3 := by decide
attribute [simp] w64_0 w64_1 w64_2 w64_3
def rdy (b : Book) : Bool := thinB b && decide (faultB b = 0)
theorem k42 (n : Nat) (b : Book) : callK Try.prog kn (execA Try.prog ann kn (n+600)) 42 [.agg (cellsB b)] = some (.bool (rdy b)) := by
  rw [callK_of rfl, call0_eq Try.func42 b42 rfl (by simp [cellsB, encL, encC])]
  have q19 := fun n => k19 n b
  have q67 := fun n => k67 n b
  unfold rdy
  generalize hT : thinB b = t at q19
  generalize hF : decide (faultB b = 0) = f
  generalize faultB b = A at q67 hF
  simp only [cellsB] at q19 q67 ⊢
  cases t
  · simp [c42, argFr, q19, q67, encL, encC]
  · simp [c42, argFr, q19, q67, encL, encC, hF]
def orI (a b : Int) : Int := IntKind.i64.wrap ((BitVec.ofInt 64 a ||| BitVec.ofInt 64 b).toNat : Int)
def met4 (e0 e1 e2 e3 : Bool) (m : Int) : Int :=
  let m := if e0 = true then orI m 1 else m
  let m := if e1 = true then orI m 2 else m
  let m := if e2 = true then orI m 4 else m
  if e3 = true then orI m 8 else m
def bitsB (x j : Nat) : List Int := List.map (fun i : Nat => (i : Int)) ((List.range j).filter fun i => x.testBit i)
theorem bitsB_succ (x j : Nat) : bitsB x (j + 1) = if x.testBit j = true then bitsB x j ++ [(j : Int)] else bitsB x j := by
  unfold bitsB
  rw [List.range_succ, List.filter_append, List.map_append]
  cases hb : x.testBit j <;> simp [hb]
theorem bitsB_high {x j : Nat} (h : x < 2 ^ j) : ∀ d, bitsB x (j + d) = bitsB x j
  | 0 => rfl
  | d + 1 => by
    rw [← Nat.add_assoc, bitsB_succ, bitsB_high h d]
    have : x.testBit (j + d) = false := Nat.testBit_lt_two_pow (Nat.lt_of_lt_of_le h (Nat.pow_le_pow_right (by decide) (by omega)))
    rw [this]; rfl
theorem shr_ev {x j : Nat} (hj : j ≤ 60) : evSh .shr .i64 (x : Int) (j : Int) = some (.int .i64 ((x / 2 ^ j : Nat) : Int)) := by
  rw [evSh_shr, if_neg (by omega)]
  have e : min (j : Int).toNat IntKind.i64.bits = j := by simp only [Int.toNat_natCast, IntKind.bits]; omega
  rw [e]
  have : (x : Int).fdiv (2 ^ j) = ((x / 2 ^ j : Nat) : Int) := by
    rw [Int.fdiv_eq_ediv_of_nonneg _ (by exact Int.le_of_lt (Int.pow_pos (by decide)))]
    simp
  rw [this]
theorem wrap_u64s {p : Nat} (h : p ≤ 100) : IntKind.u64.wrap (p : Int) = (p : Int) := by
  simp only [IntKind.wrap, IntKind.bits, IntKind.signed]
  simp
  omega
theorem bitsB_len (x j : Nat) : (bitsB x j).length ≤ j := by
  unfold bitsB
  have := List.length_filter_le (fun i => x.testBit i) (List.range j)
  simp at this ⊢
  omega
theorem div_pos_iff {x j : Nat} : ((0 : Int) < ((x / 2 ^ j : Nat) : Int)) ↔ ¬ x < 2 ^ j := by
  have h2 : 0 < 2 ^ j := Nat.two_pow_pos j
  rw [Int.natCast_pos, Nat.div_pos_iff]
  omega
theorem mod_bit (x j : Nat) : decide ((((x / 2 ^ j : Nat) : Int).tmod 2) = 1) = x.testBit j := by
  rw [show ((x / 2 ^ j : Nat) : Int).tmod 2 = ((x / 2 ^ j % 2 : Nat) : Int) from (Int.ofNat_tmod _ 2).symm, Nat.testBit_eq_decide_div_mod_eq]
  congr 1
  exact propext ⟨fun h => by omega, fun h => by omega⟩
theorem l50 (x N : Nat) (hN : N ≤ 30) (hx : x < 2 ^ N) : ∀ (d j : Nat) (c γ : Nat), j + d = N → ∃ (c' γ' jf : Nat), ∀ n m, d < m →
    loopA (execA Try.prog ann kn (n+100) 23) lb50_3 (some ([0, 3, 4], [21])) m ⟨c, [(0, true, i x), (3, true, pv 21 γ ((bitsB x j).map encI)), (4, true, i j)], ⟨[], pl 21 γ 3 ((bitsB x j).map encI)⟩⟩ =
      some (.exit 0, ⟨c', [(9, true, .bool false), (8, true, i 0), (7, true, .int .u64 jf), (6, true, i jf), (5, true, i x), (0, true, i x), (3, true, pv 21 γ' ((bitsB x N).map encI)), (4, true, i jf)], ⟨[], pl 21 γ' 3 ((bitsB x N).map encI)⟩⟩) := by
  have base : ∀ (j c γ : Nat), j ≤ N → x < 2 ^ j → ∀ n m, 0 < m →
    loopA (execA Try.prog ann kn (n+100) 23) lb50_3 (some ([0, 3, 4], [21])) m ⟨c, [(0, true, i x), (3, true, pv 21 γ ((bitsB x j).map encI)), (4, true, i j)], ⟨[], pl 21 γ 3 ((bitsB x j).map encI)⟩⟩ =
      some (.exit 0, ⟨c, [(9, true, .bool false), (8, true, i 0), (7, true, .int .u64 j), (6, true, i j), (5, true, i x), (0, true, i x), (3, true, pv 21 γ ((bitsB x N).map encI)), (4, true, i j)], ⟨[], pl 21 γ 3 ((bitsB x N).map encI)⟩⟩) := by
    intro j c γ hj hlt n m hm
    obtain ⟨m, rfl⟩ : ∃ m', m = m' + 1 := ⟨m - 1, by omega⟩
    have e1 := shr_ev (x := x) (j := j) (by omega)
    have e2 := wrap_u64s (p := j) (by omega)
    rw [Nat.div_eq_of_lt hlt] at e1
    obtain ⟨d, rfl⟩ : ∃ d, N = j + d := ⟨N - j, by omega⟩
    rw [bitsB_high hlt d]
    simp [loopA_succ, e2, e1, -evSh_shr]
    done
  intro d
  induction d with
  | zero =>
    intro j c γ hd
    exact ⟨c, γ, j, fun n m hm => base j c γ (by omega) (by rw [show j = N by omega]; exact hx) n m hm⟩
  | succ d IH =>
    intro j c γ hd
    by_cases hlt : x < 2 ^ j
    · exact ⟨c, γ, j, fun n m hm => base j c γ (by omega) hlt n m (by omega)⟩
    · have hp := div_pos_iff.2 hlt
      have e1 := shr_ev (x := x) (j := j) (by omega)
      have e2 := wrap_u64s (p := j) (by omega)
      have hb := mod_bit x j
      have hs := bitsB_succ x j
      have hw : IntKind.i64.wrap ((j : Int) + 1) = (j : Int) + 1 := wrap_i64 (by omega) (by omega)
      have hbl := bitsB_len x j
      generalize ((x / 2 ^ j : Nat) : Int) = X at hp e1 hb
      cases hbit : x.testBit j with
      | false =>
        rw [hbit] at hb hs
        rw [if_neg (by decide)] at hs
        obtain ⟨c', γ', jf, ih⟩ := IH (j + 1) c γ (by omega)
        refine ⟨c', γ', jf, fun n m hm => ?_⟩
        obtain ⟨m, rfl⟩ : ∃ m', m = m' + 1 := ⟨m - 1, by omega⟩
        have ih := ih n m (by omega)
        rw [hs] at ih
        rw [loopA_succ]
        simp at ih
        simp [e2, e1, -evSh_shr, hp, hb, hw, ih]
        done
      | true =>
        rw [hbit] at hb hs
        rw [if_pos rfl] at hs
        obtain ⟨c', γ', jf, ih⟩ := IH (j + 1) (c + 1) c (by omega)
        refine ⟨c', γ', jf, fun n m hm => ?_⟩
        obtain ⟨m, rfl⟩ : ∃ m', m = m' + 1 := ⟨m - 1, by omega⟩
        have ih := ih n m (by omega)
        rw [hs] at ih
        have happ : appOK Try.prog 3 (bitsB x j).length [[.int .i64 j]] = true := by
          rw [appOK_iff (by simp) (by simp)]
          simp [maxLen]
          omega
        rw [loopA_succ]
        simp [encI] at ih
        simp [e2, e1, -evSh_shr, hp, hb, hw, happ, encI, ih]
        done
theorem k50 (n x N : Nat) (hN : N ≤ 30) (hx : x < 2 ^ N) : callK Try.prog kn (execA Try.prog ann kn (n+200)) 50 [i x] = some (sl ((bitsB x N).map encI)) := by
  rw [callK_of rfl, call0_eq Try.func50 b50 rfl (by simp)]
  obtain ⟨c', γ', jf, ih⟩ := l50 x N hN hx N 0 0 0 (by omega)
  have ih := ih (n + 94) (n + 194) (by omega)
  have h0 : bitsB x 0 = [] := rfl
  rw [h0] at ih
  simp at ih
  have hcl : ((bitsB x N).map encI).all (fun e => e.all (closedV 8)) = true := by simp [encI]
  simp at hcl
  simp [c50, argFr, ih, encI]
  done
theorem shl_ev {a j : Nat} (ha : a ≤ 16) (hj : j ≤ 30) : evSh .shl .i64 (a : Int) (j : Int) = some (.int .i64 ((a * 2 ^ j : Nat) : Int)) := by
  rw [evSh_shl, if_neg (by omega)]
  have e : min (j : Int).toNat IntKind.i64.bits = j := by simp only [Int.toNat_natCast, IntKind.bits]; omega
  rw [e]
  have h1 : 2 ^ j ≤ 2 ^ 30 := Nat.pow_le_pow_right (by decide) hj
  have h2 : a * 2 ^ j ≤ 16 * 2 ^ 30 := Nat.mul_le_mul ha h1
  have e2 : (a : Int) * 2 ^ j = ((a * 2 ^ j : Nat) : Int) := by simp
  rw [e2, wrap_i64 (by omega) (by omega)]
theorem k48 (n : Nat) (b : Book) (hl : b.lines.length ≤ 30) : callK Try.prog kn (execA Try.prog ann kn (n+100)) 48 [.agg (cellsB b)] = some (i (2 ^ b.lines.length - 1 : Nat)) := by
  rw [callK_of rfl, call0_eq Try.func48 b48 rfl (by simp [cellsB, encL, encC])]
  have e1 := shl_ev (a := 1) (j := b.lines.length) (by omega) hl
  have e2 := wrap_u64s (p := b.lines.length) (by omega)
  have h1 : 2 ^ b.lines.length ≤ 2 ^ 30 := Nat.pow_le_pow_right (by decide) hl
  have h2 : 0 < 2 ^ b.lines.length := Nat.two_pow_pos _
  rw [Nat.one_mul] at e1
  generalize 2 ^ b.lines.length = A at *
  have e3 : IntKind.i64.wrap ((A : Int) - 1) = ((A - 1 : Nat) : Int) := by rw [wrap_i64 (by omega) (by omega)]; omega
  have e1 : evSh .shl .i64 1 (b.lines.length : Int) = some (.int .i64 (A : Int)) := e1
  simp [c48, argFr, cellsB, e2, e1, e3, -evSh_shl]
  done
theorem and_ev2 {a b : Nat} (ha : a < 4611686018427387904) (hb : b < 4611686018427387904) : evInt .and .i64 (a : Int) (b : Int) = some (.int .i64 ((a &&& b : Nat) : Int)) := by
  rw [evInt_and]
  exact congrArg (fun z => some (V.int IntKind.i64 z)) (and_nat ha hb)
def pickL (x : Nat) : Nat → List Line → List Line
  | _, [] => []
  | j, l :: r => if x.testBit j = true then l :: pickL x (j + 1) r else pickL x (j + 1) r
theorem l47a (x : Nat) (b : Book) (hl : b.lines.length ≤ 30) (Z : List V) (g4 g5 : Nat) : ∀ (d j : Nat) (out : List Line) (c γ : Nat), j + d = b.lines.length → out.length ≤ j → g5 < c → ∃ (c' γ' : Nat), c ≤ c' ∧ ∀ n m, d < m →
    loopA (execA Try.prog ann kn (n+100) 64) lb47_4 (some ([1, 2, 4, 5, 6], [2, 4, 5, 33, 61])) m ⟨c, [(1, true, i x), (2, true, .ptr 0 2 0 0), (4, true, .ptr 0 4 g4 0), (5, true, .ptr 0 5 g5 0), (6, true, i j)],
      ⟨[], (2, 0, .box (cellsB b)) :: (4, g4, .box Z) :: (5, g5, .box [i b.chairs, i b.coin, i b.box, pv 33 γ (out.map encL), .nil]) :: pl 33 γ 75 (out.map encL)⟩⟩ =
      some (.exit 0, ⟨c', [(16, true, .bool false), (15, true, i b.lines.length), (14, true, .list false (b.lines.map encL)), (13, true, .ptr 0 2 0 3), (12, true, i b.lines.length), (1, true, i x), (2, true, .ptr 0 2 0 0), (4, true, .ptr 0 4 g4 0), (5, true, .ptr 0 5 g5 0), (6, true, i b.lines.length)],
      ⟨[], (2, 0, .box (cellsB b)) :: (4, g4, .box Z) :: (5, g5, .box [i b.chairs, i b.coin, i b.box, pv 33 γ' ((out ++ pickL x j (b.lines.drop j)).map encL), .nil]) :: pl 33 γ' 75 ((out ++ pickL x j (b.lines.drop j)).map encL)⟩⟩)
  | 0, j, out, c, γ, hd, ho, hg => by
    have hj : j = b.lines.length := by omega
    subst hj
    refine ⟨c, γ, Nat.le_refl _, fun n m hm => ?_⟩
    obtain ⟨m, rfl⟩ : ∃ m', m = m' + 1 := ⟨m - 1, by omega⟩
    simp [loopA_succ, cellsB, pickL]
    done
  | d + 1, j, out, c, γ, hd, ho, hg => by
    have hj : j < b.lines.length := by omega
    have e1 := shr_ev (x := x) (j := j) (by omega)
    have e2 := wrap_u64s (p := j) (by omega)
    have hb := mod_bit x j
    have hw : IntKind.i64.wrap ((j : Int) + 1) = (j : Int) + 1 := wrap_i64 (by omega) (by omega)
    generalize ((x / 2 ^ j : Nat) : Int) = X at e1 hb
    rw [List.drop_eq_getElem_cons hj]
    simp only [pickL]
    cases hbit : x.testBit j with
    | false =>
      rw [hbit] at hb
      obtain ⟨c', γ', i0, ih⟩ := l47a x b hl Z g4 g5 d (j + 1) out c γ (by omega) (by omega) hg
      refine ⟨c', γ', by omega, fun n m hm => ?_⟩
      obtain ⟨m, rfl⟩ : ∃ m', m = m' + 1 := ⟨m - 1, by omega⟩
      have ih := ih n m (by omega)
      rw [if_neg (by decide), loopA_succ]
      simp only [cellsB] at ih ⊢
      simp at ih
      simp [hj, e2, e1, -evSh_shr, hb, hw, ih]
      done
    | true =>
      rw [hbit] at hb
      obtain ⟨c', γ', i0, ih⟩ := l47a x b hl Z g4 g5 d (j + 1) (out ++ [b.lines[j]]) (c + 1) c (by omega) (by simp; omega) (by omega)
      refine ⟨c', γ', by omega, fun n m hm => ?_⟩
      obtain ⟨m, rfl⟩ : ∃ m', m = m' + 1 := ⟨m - 1, by omega⟩
      have ih := ih n m (by omega)
      have happ : appOK Try.prog 75 out.length [[.int .i64 b.lines[j].k, .int .i64 b.lines[j].c, .int .i64 b.lines[j].t]] = true := by
        rw [appOK_iff (by simp) (by simp)]
        simp [maxLen]
        omega
      have hg1 : g5 < c + 1 := by omega
      rw [if_pos rfl, loopA_succ]
      simp only [cellsB] at ih ⊢
      simp [encL] at ih
      simp [hj, e2, e1, -evSh_shr, hb, hw, happ, encL, plK, apK, hg, hg1, ih]
      done
def cntS (x N : Nat) (c : Count) : Count := ⟨((bitsB (x &&& (2 ^ c.a.toNat - 1)) N).length : Nat), c.lo, c.hi⟩
theorem l47b (x N : Nat) (hN : N ≤ 30) (hx : x < 2 ^ N) (b : Book) (hcn : b.counts.length ≤ 100) (ha : ∀ c ∈ b.counts, 0 ≤ c.a ∧ c.a ≤ 30) (Z : List V) (g4 g5 : Nat) (L : List (List V)) (γ : Nat) (hL : (L.all fun e => e.all (closedV 9)) = true) : ∀ (d j : Nat) (out : List Count) (c γ2 : Nat), j + d = b.counts.length → out = (b.counts.take j).map (cntS x N) → g5 < c → ∃ (c' γ' : Nat), c ≤ c' ∧ ∀ n m, d < m →
    loopA (execA Try.prog ann kn (n+300) 64) lb47_9 (some ([1, 2, 4, 5, 7], [2, 4, 5, 33, 61])) m ⟨c, [(1, true, i x), (2, true, .ptr 0 2 0 0), (4, true, .ptr 0 4 g4 0), (5, true, .ptr 0 5 g5 0), (7, true, i j)],
      ⟨[], (2, 0, .box (cellsB b)) :: (4, g4, .box Z) :: (5, g5, .box [i b.chairs, i b.coin, i b.box, pv 33 γ L, pv 61 γ2 (out.map encC)]) :: (pl 33 γ 75 L ++ pl 61 γ2 78 (out.map encC))⟩⟩ =
      some (.exit 2, ⟨c', [(39, true, .bool false), (38, true, i b.counts.length), (37, true, .list false (b.counts.map encC)), (36, true, .ptr 0 2 0 4), (35, true, i b.counts.length), (1, true, i x), (2, true, .ptr 0 2 0 0), (4, true, .ptr 0 4 g4 0), (5, true, .ptr 0 5 g5 0), (7, true, i b.counts.length)],
      ⟨[], (2, 0, .box (cellsB b)) :: (4, g4, .box Z) :: (5, g5, .box [i b.chairs, i b.coin, i b.box, pv 33 γ L, pv 61 γ' ((b.counts.map (cntS x N)).map encC)]) :: (pl 33 γ 75 L ++ pl 61 γ' 78 ((b.counts.map (cntS x N)).map encC))⟩⟩)
  | 0, j, out, c, γ2, hd, ho, hg => by
    have hj : j = b.counts.length := by omega
    subst hj
    rw [List.take_length] at ho
    subst ho
    refine ⟨c, γ2, Nat.le_refl _, fun n m hm => ?_⟩
    obtain ⟨m, rfl⟩ : ∃ m', m = m' + 1 := ⟨m - 1, by omega⟩
    generalize b.counts.map (cntS x N) = out
    simp [loopA_succ, cellsB, kl_pl2]
    done
  | d + 1, j, out, c, γ2, hd, ho, hg => by
    have hj : j < b.counts.length := by omega
    have hol : out.length = j := by rw [ho]; simp; omega
    have hc := ha _ (List.getElem_mem hj)
    have ho' : out ++ [cntS x N b.counts[j]] = (b.counts.take (j + 1)).map (cntS x N) := by
      rw [List.take_succ_eq_append_getElem hj, ho, List.map_append, List.map_cons, List.map_nil]
    obtain ⟨a, hA⟩ : ∃ a : Nat, b.counts[j].a = a := ⟨b.counts[j].a.toNat, by omega⟩
    rw [hA] at hc
    have e1 := shl_ev (a := 1) (j := a) (by omega) (by omega)
    have e2 := wrap_u64s (p := a) (by omega)
    have h1 : 2 ^ a ≤ 2 ^ 30 := Nat.pow_le_pow_right (by decide) (by omega)
    have h2 : 0 < 2 ^ a := Nat.two_pow_pos _
    have hx2 : x < 2 ^ 30 := Nat.lt_of_lt_of_le hx (Nat.pow_le_pow_right (by decide) hN)
    rw [Nat.one_mul] at e1
    have e1 : evSh .shl .i64 1 (a : Int) = some (.int .i64 ((2 ^ a : Nat) : Int)) := e1
    have hcs : cntS x N b.counts[j] = ⟨((bitsB (x &&& (2 ^ a - 1)) N).length : Nat), b.counts[j].lo, b.counts[j].hi⟩ := by simp only [cntS, hA, Int.toNat_natCast]
    generalize 2 ^ a = A at *
    have e3 : IntKind.i64.wrap ((A : Int) - 1) = ((A - 1 : Nat) : Int) := by rw [wrap_i64 (by omega) (by omega)]; omega
    have e4 := and_ev2 (a := x) (b := A - 1) (by omega) (by omega)
    have hlt : x &&& (A - 1) < 2 ^ N := Nat.lt_of_le_of_lt Nat.and_le_left hx
    generalize (x &&& (A - 1)) = X at *
    have q50 := fun n => k50 n X N hN hlt
    have hw : IntKind.i64.wrap ((j : Int) + 1) = (j : Int) + 1 := wrap_i64 (by omega) (by omega)
    obtain ⟨c', γ', i0, ih⟩ := l47b x N hN hx b hcn ha Z g4 g5 L γ hL d (j + 1) (out ++ [cntS x N b.counts[j]]) (c + 1 + 1) (c + 1) (by omega) ho' (by omega)
    refine ⟨c', γ', by omega, fun n m hm => ?_⟩
    obtain ⟨m, rfl⟩ : ∃ m', m = m' + 1 := ⟨m - 1, by omega⟩
    have ih := ih n m (by omega)
    generalize b.counts.map (cntS x N) = fin at ih ⊢
    rw [hcs] at ih
    have happ : appOK Try.prog 78 out.length [[.int .i64 ((bitsB X N).length : Nat), .int .i64 b.counts[j].lo, .int .i64 b.counts[j].hi]] = true := by
      rw [appOK_iff (by simp) (by simp)]
      simp [maxLen]
      omega
    have hg1 : g5 < c + 1 := by omega
    have hg2 : g5 < c + 1 + 1 := by omega
    rw [loopA_succ]
    simp only [cellsB] at ih ⊢
    simp [encC] at ih
    simp [hj, hA, e2, e1, e3, e4, -evSh_shl, -evInt_and, q50, hw, happ, encC, plK, apK, hg, hg1, hg2, kl_pl3, get_pl2, get_pl4, kl_pl4, ih]
    done
def someB (x N : Nat) (b : Book) : Book := { b with lines := pickL x 0 b.lines, counts := b.counts.map (cntS x N) }
theorem k47 (n x N : Nat) (hN : N ≤ 30) (hx : x < 2 ^ N) (b : Book) (hl : b.lines.length ≤ 30) (hcn : b.counts.length ≤ 100) (ha : ∀ c ∈ b.counts, 0 ≤ c.a ∧ c.a ≤ 30) : callK Try.prog kn (execA Try.prog ann kn (n+500)) 47 [.agg (cellsB b), i x] = some (.agg (cellsR (someB x N b))) := by
  rw [callK_of rfl, call0_eq Try.func47 b47 rfl (by simp [cellsB, encL, encC])]
  obtain ⟨c1, γ1, i1, h1⟩ := l47a x b hl [i 0, i 0, i 0, .nil, .nil] 1 2 b.lines.length 0 [] 3 0 (by omega) (by simp) (by omega)
  have hcl : ((pickL x 0 b.lines).map encL).all (fun e => e.all (closedV 9)) = true := by simp [encL]
  obtain ⟨c2, γ2, i2, h2⟩ := l47b x N hN hx b hcn ha [i 0, i 0, i 0, .nil, .nil] 1 2 ((pickL x 0 b.lines).map encL) γ1 hcl b.counts.length 0 [] c1 0 (by omega) rfl (by omega)
  have hcl2 : ((b.counts.map (cntS x N)).map encC).all (fun e => e.all (closedV 9)) = true := by simp [encC]
  have h1 := h1 (n + 393) (n + 493) (by omega)
  have h2 := h2 (n + 192) (n + 492) (by omega)
  simp only [List.nil_append, List.drop_zero] at h1
  unfold someB
  generalize pickL x 0 b.lines = L at *
  generalize b.counts.map (cntS x N) = C at *
  simp only [cellsB, cellsR, List.nil_append, List.drop_zero, List.map_nil, pv_nil, pl_nil] at h1 h2 ⊢
  simp at h1 h2
  have hc2 : 1 < c2 := by omega
  simp [c47, argFr, h1, h2, kl_pl3, get_pl2, hc2]
  rw [closeX_pv (T := 75) 2 _ 33 γ1 (L.map encL) (by simp [get_pl5]), closeX_pv (T := 78) 2 _ 61 γ2 (C.map encC) (by simp [get_pl2])]
  simp [encL, encC]
  done
theorem many_ge {C : Int} : ∀ (ls : List Line) (n : Int), 0 ≤ n → n ≤ 5000 → (∀ l ∈ ls, 0 < (readings C l).length) → n ≤ manyGo C n ls ∧ manyGo C n ls ≤ 5000
  | [], n, _, h2, _ => ⟨Int.le_refl _, h2⟩
  | l :: r, n, h1, h2, h => by
    have hl := h l (by simp)
    have h3 : n ≤ n * ((readings C l).length : Int) := by
      have : n * 1 ≤ n * ((readings C l).length : Int) := Int.mul_le_mul_of_nonneg_left (by omega) h1
      omega
    have hm : n ≤ min5 (n * ((readings C l).length : Int)) ∧ min5 (n * ((readings C l).length : Int)) ≤ 5000 := by
      unfold min5; split <;> omega
    have ih := many_ge r (min5 (n * ((readings C l).length : Int))) (by omega) hm.2 (fun x hx => h x (by simp [hx]))
    unfold manyGo at ih ⊢
    simp only [List.foldl_cons]
    omega
theorem many_take {C : Int} {ls : List Line} (k : Nat) (h : ∀ l ∈ ls, 0 < (readings C l).length) : manyGo C 1 (ls.take k) ≤ manyGo C 1 ls := by
  have e : manyGo C 1 ls = manyGo C (manyGo C 1 (ls.take k)) (ls.drop k) := by
    unfold manyGo
    rw [← List.foldl_append, List.take_append_drop]
  rw [e]
  have h1 := many_ge (C := C) (ls.take k) 1 (by decide) (by decide) (fun x hx => h x (List.mem_of_mem_take hx))
  exact (many_ge (ls.drop k) _ (by omega) h1.2 (fun x hx => h x (List.mem_of_mem_drop hx))).1
theorem cut_fault {b : Book} (hf : faultB b = 0) (k : Nat) : faultB (cutB b k) = 0 := by
  obtain ⟨h1, h4, hl8, hc4, hc1, hc2, hx1, hx2, hok, hcok, hm⟩ := fault0 hf
  have e1 : (b.lines.take k).all (lineOk b.chairs) = true := List.all_eq_true.2 fun x hx => List.all_eq_true.1 hok x (List.mem_of_mem_take hx)
  have e2 := many_take (C := b.chairs) (ls := b.lines) k fun l hl => readings_pos h1 h4 (List.all_eq_true.1 hok l hl)
  have l8 : ¬ 8 < (b.lines.take k).length := by simp; omega
  have e3 : ¬ 4096 < manyGo b.chairs 1 (b.lines.take k) := by omega
  simp only [faultB, cutB, l8, decide_false, e1, inB, h1, h4, hc1, hc2, hx1, hx2, e3]
  simp
theorem poss_empty {b : Book} (hf : faultB b = 0) : possP (cutB b 0) = true := by
  rw [poss_R (cut_fault hf 0)]
  have : truthsR (cutB b 0) = [[]] := rfl
  rw [this]
  simp
theorem pick_take (x : Nat) : ∀ (ls : List Line) (j : Nat), pickL (2 ^ x - 1) j ls = ls.take (x - j)
  | [], j => by simp [pickL]
  | l :: r, j => by
    have ih := pick_take x r (j + 1)
    simp only [pickL, Nat.testBit_two_pow_sub_one]
    by_cases h : j < x
    · rw [if_pos (by simpa using h), ih, show x - j = x - (j + 1) + 1 by omega, List.take_succ_cons]
    · rw [if_neg (by simpa using h), ih, show x - j = 0 by omega, show x - (j + 1) = 0 by omega]
      simp
theorem some_cut (b : Book) (x N : Nat) : someB (2 ^ x - 1) N { b with counts := [] } = cutB b x := by
  unfold someB cutB
  simp only [List.map_nil, pick_take, Nat.sub_zero]
theorem l40 (xs ys : List Int) (hlen : xs.length = ys.length) (hl : xs.length ≤ 1000) (c : Nat) : ∀ (d j : Nat), j + d = ys.length → ∀ n m, d < m →
    loopA (execA Try.prog ann kn (n+100) 26) lb40_4 (some ([0, 1, 5], [])) m ⟨c, [(0, true, .list false (xs.map encI)), (1, true, .list false (ys.map encI)), (5, true, i j)], ⟨[], []⟩⟩ =
      if xs.drop j = ys.drop j then some (.exit 0, ⟨c, [(14, true, .bool false), (13, true, i ys.length), (12, true, .list false (xs.map encI)), (11, true, i ys.length), (0, true, .list false (xs.map encI)), (1, true, .list false (ys.map encI)), (5, true, i ys.length)], ⟨[], []⟩⟩)
      else some (.ret, ⟨c, [(4, true, .bool false)], ⟨[], []⟩⟩)
  | 0, j, hd, n, m, hm => by
    have hj : j = ys.length := by omega
    subst hj
    obtain ⟨m, rfl⟩ : ∃ m', m = m' + 1 := ⟨m - 1, by omega⟩
    have e1 : xs.drop ys.length = [] := List.drop_eq_nil_of_le (by omega)
    rw [e1, List.drop_length, if_pos rfl]
    simp [loopA_succ, hlen]
    done
  | d + 1, j, hd, n, m, hm => by
    have hj : j < ys.length := by omega
    have hj2 : j < xs.length := by omega
    have hw : IntKind.i64.wrap ((j : Int) + 1) = (j : Int) + 1 := wrap_i64 (by omega) (by omega)
    obtain ⟨m, rfl⟩ : ∃ m', m = m' + 1 := ⟨m - 1, by omega⟩
    have ih := l40 xs ys hlen hl c d (j + 1) (by omega) n m (by omega)
    rw [List.drop_eq_getElem_cons hj, List.drop_eq_getElem_cons hj2, loopA_succ]
    by_cases he : xs[j] = ys[j]
    · simp only [List.cons.injEq, he, true_and]
      simp at ih
      simp [hj, hj2, hlen, hw, encI, he, ih]
      done
    · simp only [List.cons.injEq, he, false_and, if_false]
      simp [hj, hj2, hlen, hw, encI, he]
      done
theorem k40 (n : Nat) (xs ys : List Int) (hl : xs.length ≤ 90) : callK Try.prog kn (execA Try.prog ann kn (n+200)) 40 [.list false (xs.map encI), .list false (ys.map encI)] = some (.bool (decide (xs = ys))) := by
  rw [callK_of rfl, call0_eq Try.func40 b40 rfl (by simp [encI])]
  by_cases hlen : xs.length = ys.length
  · have h := l40 xs ys hlen (by omega) 0 ys.length 0 (by omega) (n + 94) (n + 194) (by omega)
    simp only [List.drop_zero] at h
    by_cases he : xs = ys
    · subst he
      rw [if_pos rfl] at h
      simp at h
      simp [c40, argFr, h]
      done
    · rw [if_neg he] at h
      simp [hlen] at h
      simp [c40, argFr, hlen, h, he]
      done
  · have he : ¬ xs = ys := fun h => hlen (by rw [h])
    have hlen' : ¬ ((xs.length : Int) = (ys.length : Int)) := by omega
    simp [c40, argFr, hlen', he]
    done
end Go.Proofs.Try.Op
