/- The plain law of TokenReadable: a book whose lines are readings has one reading alone. No condition. -/
import Derived.Test.YtfbbnkaahnpicaaT2
import Derived.Test.YtfbbnkaahnpicaaTe
import Derived.Test.YtfbbnkaahnpicaaFz
import Derived.Test.YtfbbnkaahnpicaaSx
open Go Go.Pg Go.Proofs
namespace Go.Proofs.Try.Op
set_option maxRecDepth 100000
set_option linter.unusedSimpArgs false
/-- a book whose lines are those of a list of readings -/
def withL (b : Book) (t : List Line) : Book := { b with lines := t }
/-- a line that reads as itself alone -/
def selfR (C : Int) (l : Line) : Bool := lineOk C l && ((readings C l).map tri == [tri l])
def selfOK : Bool := [1, 2, 3, 4].all fun C : Int => [0, 1, 2].all fun k : Int => [-1, 0, 1, 2, 3].all fun c : Int => [-1, 0, 1, 2, 3].all fun t : Int =>
  !(lineOk C ⟨k, c, t⟩) || (readings C ⟨k, c, t⟩).all (selfR C)
theorem self_iff {C : Int} {l : Line} (h : selfR C l = true) : lineOk C l = true ∧ readings C l = [l] := by
  simp only [selfR, Bool.and_eq_true, beq_iff_eq] at h
  exact ⟨h.1, tri_map (by simpa using h.2)⟩
theorem nthGo_id {C : Int} : ∀ (ls : List Line), (∀ x ∈ ls, selfR C x = true) → nthGo C 0 ls = ls
  | [], _ => rfl
  | l :: r, h => by
    have hl := (self_iff (h l (by simp))).2
    simp only [nthGo, hl]
    simp [nthGo_id r fun y hy => h y (by simp [hy])]
theorem many_self {C : Int} : ∀ (ls : List Line), (∀ x ∈ ls, selfR C x = true) → manyGo C 1 ls = 1
  | [], _ => rfl
  | l :: r, h => by
    have hl := (self_iff (h l (by simp))).2
    have ih := many_self r fun y hy => h y (by simp [hy])
    unfold manyGo at ih ⊢
    simp only [List.foldl_cons, hl, List.length_singleton]
    exact ih
/-- what the program answers about such a book -/
structure Read1 (b : Book) (t : List Line) (k : Nat) : Prop where
  a : askedP (withL b t) true = 0
  c : ∀ y ∈ verdsP (withL b t) chP k, y ≠ 3
  t' : ∀ y ∈ verdsP (withL b t) tkP k, y ≠ 3
  cl : (verdsP (withL b t) chP k).length = b.chairs.toNat
  tl : (verdsP (withL b t) tkP k).length = b.chairs.toNat
  m : (boundsP (withL b t) Scene.money k).1 = (boundsP (withL b t) Scene.money k).2
  x : (boundsP (withL b t) Scene.mixed b.lines.length).1 = (boundsP (withL b t) Scene.mixed b.lines.length).2
  p : proveB (withL b t) t = true
end Go.Proofs.Try.Op
/- The plain law of TokenTwice: a book of hires alone. No condition. -/
open Go Go.Pg Go.Proofs
namespace Go.Proofs.Try.Op
set_option maxRecDepth 100000
set_option linter.unusedSimpArgs false
/-- the same chair, or the same token -/
def clash (l x : Line) : Bool := decide (x.c = l.c) || decide (x.t = l.t)
/-- none clashes with an earlier one -/
def freshL : List Line → List Line → Bool
  | _, [] => true
  | s, l :: r => !(s.any (clash l)) && freshL (s ++ [l]) r
theorem fresh_snoc (l : Line) : ∀ (a s : List Line), freshL s (a ++ [l]) = (freshL s a && !((s ++ a).any (clash l)))
  | [], s => by simp [freshL]
  | x :: a, s => by
    have ih := fresh_snoc l a (s ++ [x])
    simp only [List.cons_append, freshL, ih, Bool.and_assoc, List.append_assoc, List.nil_append]
theorem out_iff (sel : Line → Int) {ts : List Line} (h1 : ∀ l ∈ ts, l.k = 1) (x : Int) : ∀ (k : Nat), k ≤ ts.length → (0 ≤ outB sel ts k x ↔ ∃ l ∈ ts.take k, sel l = x)
  | 0, _ => by simp [outB, outGo]
  | k + 1, hk => by
    have hk' : k < ts.length := by omega
    have ih := out_iff sel h1 x k (by omega)
    rw [outB_succ sel ts k hk', List.take_succ_eq_append_getElem hk', h1 _ (List.getElem_mem hk'), if_pos rfl]
    by_cases e : sel ts[k] = x
    · rw [if_pos e]
      exact ⟨fun _ => ⟨ts[k], List.mem_append_right _ (List.mem_singleton.2 rfl), e⟩, fun _ => by omega⟩
    · rw [if_neg e, ih]
      constructor
      · rintro ⟨l, h, q⟩; exact ⟨l, List.mem_append_left _ h, q⟩
      · rintro ⟨l, h, q⟩
        simp only [List.mem_append, List.mem_singleton] at h
        rcases h with h | rfl
        · exact ⟨l, h, q⟩
        · exact absurd q e
theorem possOne_hire {ts : List Line} (h1 : ∀ l ∈ ts, l.k = 1) {k : Nat} (hk : k < ts.length) : possOne ts k ts[k] = !((ts.take k).any (clash ts[k])) := by
  have e2 : decide (ts[k].k = 2) = false := by rw [h1 _ (List.getElem_mem hk)]; rfl
  have a1 := out_iff Line.c h1 ts[k].c k (by omega)
  have a2 := out_iff Line.t h1 ts[k].t k (by omega)
  have b1 : decide (0 ≤ outB Line.c ts k ts[k].c) = (ts.take k).any fun x => decide (x.c = ts[k].c) := by
    rw [Bool.eq_iff_iff, List.any_eq_true, decide_eq_true_eq, a1]
    exact ⟨fun ⟨l, h, q⟩ => ⟨l, h, by simpa using q⟩, fun ⟨l, h, q⟩ => ⟨l, h, by simpa using q⟩⟩
  have b2 : decide (0 ≤ outB Line.t ts k ts[k].t) = (ts.take k).any fun x => decide (x.t = ts[k].t) := by
    rw [Bool.eq_iff_iff, List.any_eq_true, decide_eq_true_eq, a2]
    exact ⟨fun ⟨l, h, q⟩ => ⟨l, h, by simpa using q⟩, fun ⟨l, h, q⟩ => ⟨l, h, by simpa using q⟩⟩
  have b3 : (ts.take k).any (clash ts[k]) = (((ts.take k).any fun x => decide (x.c = ts[k].c)) || (ts.take k).any fun x => decide (x.t = ts[k].t)) := by
    rw [Bool.eq_iff_iff]
    simp only [List.any_eq_true, Bool.or_eq_true, clash]
    constructor
    · rintro ⟨l, h, q | q⟩
      · exact .inl ⟨l, h, q⟩
      · exact .inr ⟨l, h, q⟩
    · rintro (⟨l, h, q⟩ | ⟨l, h, q⟩)
      · exact ⟨l, h, .inl q⟩
      · exact ⟨l, h, .inr q⟩
  unfold possOne
  rw [e2, b1, b2, b3]
  cases (ts.take k).any fun x => decide (x.c = ts[k].c) <;> cases (ts.take k).any fun x => decide (x.t = ts[k].t) <;> rfl
theorem possGo_hire {ts : List Line} (h1 : ∀ l ∈ ts, l.k = 1) : ∀ (d k : Nat), k + d = ts.length → possGo ts k (ts.drop k) = freshL (ts.take k) (ts.drop k)
  | 0, k, h => by
    rw [List.drop_eq_nil_of_le (by omega)]; rfl
  | d + 1, k, h => by
    have hk : k < ts.length := by omega
    rw [List.drop_eq_getElem_cons hk]
    simp only [possGo, freshL]
    rw [possOne_hire h1 hk, possGo_hire h1 d (k + 1) (by omega), List.take_succ_eq_append_getElem hk]
theorem isPoss_hire {ts : List Line} (h1 : ∀ l ∈ ts, l.k = 1) : isPossB ts = freshL [] ts := by
  have := possGo_hire h1 ts.length 0 (by omega)
  simpa [isPossB] using this
theorem poss_self {b : Book} (hf : faultB b = 0) (h : ∀ x ∈ b.lines, selfR b.chairs x = true) (hc : b.counts = []) : possP b = isPossB b.lines := by
  have hw : withL b b.lines = b := rfl
  have e2 : manyGo b.chairs 1 b.lines = 1 := many_self _ h
  have e3 : nthGo b.chairs 0 b.lines = b.lines := nthGo_id _ h
  have e4 : truthsR b = if truOne b b.lines = true then [b.lines] else [] := by
    unfold truthsR trGo
    rw [e2]
    show List.filter _ ((List.range' 0 1).map _) = _
    simp only [List.range'_one, List.map_cons, List.map_nil, e3, List.filter_cons, List.filter_nil]
  have e5 : truOne b b.lines = isPossB b.lines := by simp [truOne, hc]
  rw [e5] at e4
  rw [Bool.eq_iff_iff, poss_R hf, e4]
  cases isPossB b.lines <;> simp
/-- the first that clashes -/
def fcGo : List Line → Nat → List Line → Option Nat
  | _, _, [] => none
  | s, j, l :: r => if s.any (clash l) = true then some j else fcGo (s ++ [l]) (j + 1) r
theorem fcGo_snoc (l : Line) : ∀ (a s : List Line) (j : Nat), fcGo s j (a ++ [l]) = match fcGo s j a with
    | some x => some x
    | none => if (s ++ a).any (clash l) = true then some (j + a.length) else none
  | [], s, j => by simp [fcGo]
  | x :: a, s, j => by
    have ih := fcGo_snoc l a (s ++ [x]) (j + 1)
    simp only [List.cons_append, fcGo]
    split
    · rfl
    · rw [ih]
      simp only [List.append_assoc, List.cons_append, List.nil_append, List.length_cons]
      have : j + 1 + a.length = j + (a.length + 1) := by omega
      rw [this]
theorem firstGo_hire {b : Book} (hf : faultB b = 0) (h : ∀ x ∈ b.lines, selfR b.chairs x = true) (h1 : ∀ l ∈ b.lines, l.k = 1) : ∀ (d j : Nat), j + d = b.lines.length → freshL [] (b.lines.take j) = true → firstGo b d j = fcGo (b.lines.take j) j (b.lines.drop j)
  | 0, j, hd, _ => by
    rw [List.drop_eq_nil_of_le (by omega)]; rfl
  | d + 1, j, hd, hj => by
    have hlt : j < b.lines.length := by omega
    obtain ⟨g1, g4, hl8, hc4, hc1, hc2, hx1, hx2, hok, hcok, hm⟩ := fault0 hf
    have hsub : ∀ x ∈ b.lines.take (j + 1), x ∈ b.lines := fun x hx => List.mem_of_mem_take hx
    have hs : ∀ x ∈ b.lines.take (j + 1), selfR b.chairs x = true := fun x hx => h x (hsub x hx)
    have hcf : faultB (cutB b (j + 1)) = 0 := by
      have e1 : (b.lines.take (j + 1)).all (lineOk b.chairs) = true := List.all_eq_true.2 fun x hx => (self_iff (hs x hx)).1
      have e2 := many_self _ hs
      have l8 : ¬ 8 < (b.lines.take (j + 1)).length := by simp; omega
      simp only [faultB, cutB, l8, decide_false, e1, e2, inB, g1, g4, hc1, hc2, hx1, hx2]
      simp
    have hp : possP (cutB b (j + 1)) = (freshL [] (b.lines.take j) && !((b.lines.take j).any (clash b.lines[j]))) := by
      rw [poss_self hcf hs rfl]
      show isPossB (b.lines.take (j + 1)) = _
      rw [isPoss_hire (fun l hl => h1 l (hsub l hl)), List.take_succ_eq_append_getElem hlt, fresh_snoc]
      simp
    rw [hj, Bool.true_and] at hp
    rw [List.drop_eq_getElem_cons hlt]
    simp only [firstGo, fcGo, hp]
    cases hany : (b.lines.take j).any (clash b.lines[j]) with
    | true => simp
    | false =>
      have ih := firstGo_hire hf h h1 d (j + 1) (by omega) (by
        rw [List.take_succ_eq_append_getElem hlt, fresh_snoc, hj]
        simp only [List.nil_append, hany]; rfl)
      rw [List.take_succ_eq_append_getElem hlt] at ih
      simp [ih]
theorem firstP_hire {b : Book} (hf : faultB b = 0) (h : ∀ x ∈ b.lines, selfR b.chairs x = true) (h1 : ∀ l ∈ b.lines, l.k = 1) : firstP b = fcGo [] 0 b.lines := by
  have := firstGo_hire hf h h1 b.lines.length 0 (by omega) rfl
  simpa [firstP] using this
end Go.Proofs.Try.Op
/- Bits of small numbers; masks of chairs and tokens. No program in sight. -/
open Go Go.Pg Go.Proofs
namespace Go.Proofs.Try.Op
set_option maxRecDepth 100000
set_option linter.unusedSimpArgs false
theorem and_nat {a b : Nat} (ha : a < 4611686018427387904) (hb : b < 4611686018427387904) : IntKind.i64.wrap (((BitVec.ofInt 64 (a : Int) &&& BitVec.ofInt 64 (b : Int)).toNat : Nat) : Int) = ((a &&& b : Nat) : Int) := by
  have h : (BitVec.ofInt 64 (a : Int) &&& BitVec.ofInt 64 (b : Int)).toNat = a &&& b := by
    rw [BitVec.toNat_and, BitVec.ofInt_natCast, BitVec.ofInt_natCast, BitVec.toNat_ofNat, BitVec.toNat_ofNat, Nat.mod_eq_of_lt (by omega), Nat.mod_eq_of_lt (by omega)]
  rw [h]
  have := Nat.and_le_left (n := a) (m := b)
  exact wrap_i64 (by omega) (by omega)
theorem or_nat {a b : Nat} (ha : a < 4611686018427387904) (hb : b < 4611686018427387904) : IntKind.i64.wrap (((BitVec.ofInt 64 (a : Int) ||| BitVec.ofInt 64 (b : Int)).toNat : Nat) : Int) = ((a ||| b : Nat) : Int) := by
  have h : (BitVec.ofInt 64 (a : Int) ||| BitVec.ofInt 64 (b : Int)).toNat = a ||| b := by
    rw [BitVec.toNat_or, BitVec.ofInt_natCast, BitVec.ofInt_natCast, BitVec.toNat_ofNat, BitVec.toNat_ofNat, Nat.mod_eq_of_lt (by omega), Nat.mod_eq_of_lt (by omega)]
  rw [h]
  have := Nat.or_lt_two_pow (n := 62) (x := a) (y := b) (by omega) (by omega)
  exact wrap_i64 (by omega) (by omega)
/-- a line's chair and token, as bits -/
def bitsL (l : Line) : Nat := 2 ^ l.c.toNat ||| 2 ^ (4 + l.t.toNat)
def maskL (ls : List Line) : Nat := ls.foldl (fun m l => m ||| bitsL l) 0
theorem maskL_snoc (ls : List Line) (l : Line) : maskL (ls ++ [l]) = (maskL ls ||| bitsL l) := by simp [maskL]
def inR (l : Line) : Prop := 0 ≤ l.c ∧ l.c ≤ 3 ∧ 0 ≤ l.t ∧ l.t ≤ 3
theorem bits_test {l : Line} (h : inR l) (j : Nat) : (bitsL l).testBit j = (decide (j = l.c.toNat) || decide (j = 4 + l.t.toNat)) := by
  simp only [bitsL, Nat.testBit_or, Nat.testBit_two_pow]
  rw [Bool.eq_iff_iff]
  simp only [Bool.or_eq_true, decide_eq_true_eq]
  omega
theorem bits_lt {l : Line} (h : inR l) : bitsL l < 256 := by
  obtain ⟨h1, h2, h3, h4⟩ := h
  refine Nat.or_lt_two_pow (n := 8) ?_ ?_
  · exact Nat.pow_lt_pow_right (by decide) (by omega)
  · exact Nat.pow_lt_pow_right (by decide) (by omega)
theorem mask_go (j : Nat) : ∀ (ls : List Line) (m : Nat), (ls.foldl (fun m l => m ||| bitsL l) m).testBit j = (m.testBit j || ls.any fun l => (bitsL l).testBit j)
  | [], m => by simp
  | l :: r, m => by
    have ih := mask_go j r (m ||| bitsL l)
    simp only [List.foldl_cons, ih, List.any_cons, Nat.testBit_or, Bool.or_assoc]
theorem mask_test (ls : List Line) (j : Nat) : (maskL ls).testBit j = ls.any fun l => (bitsL l).testBit j := by
  unfold maskL
  rw [mask_go]
  simp
theorem mask_lt : ∀ (ls : List Line) (m : Nat), (∀ l ∈ ls, inR l) → m < 256 → ls.foldl (fun m l => m ||| bitsL l) m < 256
  | [], m, _, hm => hm
  | l :: r, m, h, hm => mask_lt r _ (fun x hx => h x (by simp [hx])) (Nat.or_lt_two_pow (n := 8) hm (bits_lt (h l (by simp))))
theorem mask_clash {ls : List Line} (h : ∀ l ∈ ls, inR l) {l : Line} (hl : inR l) : decide (maskL ls &&& bitsL l = 0) = !(ls.any (clash l)) := by
  have key : (maskL ls &&& bitsL l = 0) ↔ ¬ ∃ j, (maskL ls).testBit j = true ∧ (bitsL l).testBit j = true := by
    constructor
    · rintro e ⟨j, a, b⟩
      have := congrArg (fun n => n.testBit j) e
      simp [Nat.testBit_and, a, b] at this
    · intro e
      refine Nat.eq_of_testBit_eq fun j => ?_
      rw [Nat.testBit_and, Nat.zero_testBit]
      cases a : (maskL ls).testBit j
      · rfl
      · cases b : (bitsL l).testBit j
        · rfl
        · exact absurd ⟨j, a, b⟩ e
  have ex : (∃ j, (maskL ls).testBit j = true ∧ (bitsL l).testBit j = true) ↔ ls.any (clash l) = true := by
    simp only [mask_test, List.any_eq_true, clash, Bool.or_eq_true, decide_eq_true_eq]
    constructor
    · rintro ⟨j, ⟨x, hx, a⟩, b⟩
      rw [bits_test (h x hx)] at a
      rw [bits_test hl] at b
      simp only [Bool.or_eq_true, decide_eq_true_eq] at a b
      refine ⟨x, hx, ?_⟩
      obtain ⟨a1, a2, a3, a4⟩ := h x hx
      obtain ⟨b1, b2, b3, b4⟩ := hl
      omega
    · rintro ⟨x, hx, q⟩
      obtain ⟨a1, a2, a3, a4⟩ := h x hx
      obtain ⟨b1, b2, b3, b4⟩ := hl
      rcases q with q | q
      · exact ⟨l.c.toNat, ⟨x, hx, by rw [bits_test ⟨a1, a2, a3, a4⟩]; simp [q]⟩, by rw [bits_test ⟨b1, b2, b3, b4⟩]; simp⟩
      · exact ⟨4 + l.t.toNat, ⟨x, hx, by rw [bits_test ⟨a1, a2, a3, a4⟩]; simp [q]⟩, by rw [bits_test ⟨b1, b2, b3, b4⟩]; simp⟩
  rw [Bool.eq_iff_iff]
  simp only [decide_eq_true_eq, Bool.not_eq_true', key, ex, Bool.not_eq_true]
end Go.Proofs.Try.Op
/- The walk of TokenEnds: true. No condition. -/
open Go Go.Pg Go.Proofs
namespace Go.Proofs.Try.Op
set_option maxRecDepth 100000
set_option linter.unusedSimpArgs false
@[simp] theorem conv_3_70 (k : IntKind) (n : Int) : evConv Try.prog 3 70 (.int k n) = some (.int .u64 (IntKind.u64.wrap n)) := by
  unfold evConv
  rw [Try.underlying3, Try.underlying70]
@[simp] theorem conv_5_3 (k : IntKind) (n : Int) : evConv Try.prog 5 3 (.int k n) = some (.int .i64 (IntKind.i64.wrap n)) := by
  unfold evConv
  rw [Try.underlying5, Try.underlying3]
@[simp] theorem conv_73_3 (k : IntKind) (n : Int) : evConv Try.prog 73 3 (.int k n) = some (.int .i64 (IntKind.i64.wrap n)) := by
  unfold evConv
  rw [Try.underlying73, Try.underlying3]
theorem w64_0 : IntKind.u64.wrap 0 = 0 := by decide
theorem w64_1 : IntKind.u64.wrap 1 = 1 := by decide
theorem w64_2 : IntKind.u64.wrap 2 = 2 := by decide
theorem w64_3 : IntKind.u64.wrap 3 = 3 := by decide
attribute [simp] w64_0 w64_1 w64_2 w64_3
def rdy (b : Book) : Bool := thinB b && decide (faultB b = 0)
def orI (a b : Int) : Int := IntKind.i64.wrap ((BitVec.ofInt 64 a ||| BitVec.ofInt 64 b).toNat : Int)
def met4 (e0 e1 e2 e3 : Bool) (m : Int) : Int :=
  let m := if e0 = true then orI m 1 else m
  let m := if e1 = true then orI m 2 else m
  let m := if e2 = true then orI m 4 else m
  if e3 = true then orI m 8 else m
end Go.Proofs.Try.Op
/- The walk of TokenTwice: true. No condition. -/
open Go Go.Pg Go.Proofs
namespace Go.Proofs.Try.Op
set_option maxRecDepth 100000
set_option linter.unusedSimpArgs false
def encW (w : Nat) : List V := [.int .u16 w]
/-- the hire that a word tells -/
def lineW (C w : Nat) : Line := ⟨1, ((w % C : Nat) : Int), ((w / 8 % C : Nat) : Int)⟩
def optI : Option Nat → Int
  | some x => x
  | none => -1
def fcI (ls : List Line) : Int := optI (fcGo [] 0 ls)
theorem shl1_ev : ∀ p : Nat, p ≤ 3 → evSh .shl .i64 1 (p : Int) = some (.int .i64 ((2 ^ p : Nat) : Int))
  | 0, _ => rfl
  | 1, _ => rfl
  | 2, _ => rfl
  | 3, _ => rfl
  | p + 4, h => by omega
theorem shl16_ev : ∀ p : Nat, p ≤ 3 → evSh .shl .i64 16 (p : Int) = some (.int .i64 ((2 ^ (4 + p) : Nat) : Int))
  | 0, _ => rfl
  | 1, _ => rfl
  | 2, _ => rfl
  | 3, _ => rfl
  | p + 4, h => by omega
theorem wrap_u64n : ∀ p : Nat, p ≤ 3 → IntKind.u64.wrap (p : Int) = (p : Int)
  | 0, _ => rfl
  | 1, _ => rfl
  | 2, _ => rfl
  | 3, _ => rfl
  | p + 4, h => by omega
theorem or_ev {a b : Nat} (ha : a < 4611686018427387904) (hb : b < 4611686018427387904) : evInt .or .i64 (a : Int) (b : Int) = some (.int .i64 ((a ||| b : Nat) : Int)) := by
  rw [evInt_or]
  exact congrArg (fun z => some (V.int IntKind.i64 z)) (or_nat ha hb)
theorem and_ev {a b : Nat} (ha : a < 4611686018427387904) (hb : b < 4611686018427387904) : evInt .and .i64 (a : Int) (b : Int) = some (.int .i64 ((a &&& b : Nat) : Int)) := by
  rw [evInt_and]
  exact congrArg (fun z => some (V.int IntKind.i64 z)) (and_nat ha hb)
theorem pow_le3 {a p : Nat} (h : p ≤ a) : 2 ^ p ≤ 2 ^ a := Nat.pow_le_pow_right (by decide) h
theorem lineW_in {C w : Nat} (c1 : 1 ≤ C) (c4 : C ≤ 4) : inR (lineW C w) := by
  have h1 := Nat.mod_lt w (show 0 < C by omega)
  have h2 := Nat.mod_lt (w / 8) (show 0 < C by omega)
  exact ⟨Int.natCast_nonneg _, Int.ofNat_le.2 (Nat.le_of_lt_succ (Nat.lt_of_lt_of_le h1 c4)), Int.natCast_nonneg _, Int.ofNat_le.2 (Nat.le_of_lt_succ (Nat.lt_of_lt_of_le h2 c4))⟩
theorem fcI_snoc (ls : List Line) (l : Line) : fcI (ls ++ [l]) = if fcI ls < 0 then (if ls.any (clash l) = true then (ls.length : Int) else -1) else fcI ls := by
  unfold fcI
  rw [fcGo_snoc]
  cases fcGo [] 0 ls with
  | some x => simp [optI]; omega
  | none =>
    show optI (if ([] ++ ls).any (clash l) = true then some (0 + ls.length) else none) = if (-1 : Int) < 0 then (if ls.any (clash l) = true then (ls.length : Int) else -1) else -1
    rw [if_pos (show (-1 : Int) < 0 by decide), List.nil_append, Nat.zero_add]
    cases ls.any (clash l) <;> rfl
theorem fcI_neg (ls : List Line) (h : fcI ls < 0) : fcI ls = -1 := by
  unfold fcI at h ⊢
  cases e : fcGo [] 0 ls with
  | some x => rw [e] at h; simp only [optI] at h; omega
  | none => rfl
theorem l8 (C : Nat) (c1 : 1 ≤ C) (c4 : C ≤ 4) (ws : List Nat) (hw : ∀ w ∈ ws, w ≤ 65535) : ∀ (d j : Nat) (ls : List Line) (c γ : Nat), j + d = min 8 ws.length → ls = (ws.take j).map (lineW C) → ∃ (c' γ' : Nat), ∀ n m, d < m →
    loopA (execA Try.prog ann kn (n+200) 97) lb8_6 (some ([1, 5, 6, 7, 8, 9], [6, 68, 72])) m ⟨c, [(1, true, .list false (ws.map encW)), (5, true, i C), (6, true, .ptr 0 6 0 0), (7, true, i (fcI ls)), (8, true, i (maskL ls : Nat)), (9, true, i j)],
      ⟨[], (6, 0, .box [i C, i 1, i 0, pv 68 γ (ls.map encL), .nil]) :: pl 68 γ 75 (ls.map encL)⟩⟩ =
      some (.exit 0, ⟨c', (24, true, .bool false) :: (23, true, i (if (ws.length : Int) < 8 then (ws.length : Int) else 8)) :: (22, true, i ws.length) :: (21, true, .list false (ws.map encW)) :: (20, true, i (min 8 ws.length : Nat)) :: [(1, true, .list false (ws.map encW)), (5, true, i C), (6, true, .ptr 0 6 0 0), (7, true, i (fcI ((ws.take 8).map (lineW C)))), (8, true, i (maskL ((ws.take 8).map (lineW C)) : Nat)), (9, true, i (min 8 ws.length : Nat))],
      ⟨[], (6, 0, .box [i C, i 1, i 0, pv 68 γ' (((ws.take 8).map (lineW C)).map encL), .nil]) :: pl 68 γ' 75 (((ws.take 8).map (lineW C)).map encL)⟩⟩)
  | 0, j, ls, c, γ, hd, hls => by
    have ht : ws.take j = ws.take 8 := List.take_eq_take_iff.2 (by omega)
    rw [ht] at hls
    subst hls
    have hj : ¬ ((j : Int) < (if (ws.length : Int) < 8 then (ws.length : Int) else 8)) := by split <;> omega
    have hj' : min 8 ws.length = j := by omega
    rw [hj']
    generalize (ws.take 8).map (lineW C) = fin
    refine ⟨c, γ, fun n m hm => ?_⟩
    obtain ⟨m, rfl⟩ : ∃ m', m = m' + 1 := ⟨m - 1, by omega⟩
    simp [loopA_succ, hj]
    done
  | d + 1, j, ls, c, γ, hd, hls => by
    have hjl : j < ws.length := by omega
    have hj8 : j < 8 := by omega
    have hj : (j : Int) < (if (ws.length : Int) < 8 then (ws.length : Int) else 8) := by split <;> omega
    have hwj := hw _ (List.getElem_mem hjl)
    have hls' : ls ++ [lineW C ws[j]] = (ws.take (j + 1)).map (lineW C) := by
      rw [List.take_succ_eq_append_getElem hjl, hls, List.map_append, List.map_cons, List.map_nil]
    have hll : ls.length = j := by rw [hls]; simp; omega
    have hin : ∀ l ∈ ls, inR l := fun l hl => by
      rw [hls] at hl
      obtain ⟨w, _, rfl⟩ := List.mem_map.1 hl
      exact lineW_in c1 c4
    obtain ⟨c', γ', ih⟩ := l8 C c1 c4 ws hw d (j + 1) (ls ++ [lineW C ws[j]]) (c + 2) (c + 1) (by omega) hls'
    refine ⟨c', γ', fun n m hm => ?_⟩
    obtain ⟨m, rfl⟩ : ∃ m', m = m' + 1 := ⟨m - 1, by omega⟩
    have ih := ih n m (by omega)
    generalize (ws.take 8).map (lineW C) = fin at ih ⊢
    have hM := mask_lt ls 0 hin (by decide)
    have hB := bits_lt (lineW_in (w := ws[j]) c1 c4)
    have hcl := mask_clash hin (lineW_in (w := ws[j]) c1 c4)
    rw [fcI_snoc, maskL_snoc, hll] at ih
    have hMe : ls.foldl (fun m l => m ||| bitsL l) 0 = maskL ls := rfl
    rw [hMe] at hM
    have hFn := fcI_neg ls
    generalize maskL ls = M at ih hM hcl ⊢
    generalize fcI ls = F at ih hFn ⊢
    have hww : IntKind.i64.wrap (ws[j] : Int) = (ws[j] : Int) := wrap_i64 (by omega) (by omega)
    have hC0 : ¬ C = 0 := by omega
    have hw1 : IntKind.i64.wrap ((j : Int) + 1) = (j : Int) + 1 := wrap_i64 (by omega) (by omega)
    have hget : (ws.map encW)[j]? = some [.int .u16 ws[j]] := by simp [hjl, encW]
    have hm1 : (ws[j] : Int).tmod (C : Int) = ((ws[j] % C : Nat) : Int) := (Int.ofNat_tmod _ _).symm
    have hm2 : (ws[j] : Int).tdiv 8 = ((ws[j] / 8 : Nat) : Int) := (Int.ofNat_tdiv _ 8).symm
    have hm3 : ((ws[j] / 8 : Nat) : Int).tmod (C : Int) = ((ws[j] / 8 % C : Nat) : Int) := (Int.ofNat_tmod _ _).symm
    have hm4 : IntKind.i64.wrap ((ws[j] / 8 : Nat) : Int) = ((ws[j] / 8 : Nat) : Int) := wrap_i64 (by omega) (by omega)
    have hp3 : ws[j] % C ≤ 3 := by have := Nat.mod_lt ws[j] (show 0 < C by omega); omega
    have hr3 : ws[j] / 8 % C ≤ 3 := by have := Nat.mod_lt (ws[j] / 8) (show 0 < C by omega); omega
    have hlw : lineW C ws[j] = ⟨1, ((ws[j] % C : Nat) : Int), ((ws[j] / 8 % C : Nat) : Int)⟩ := rfl
    have hbw : bitsL (lineW C ws[j]) = (2 ^ (ws[j] % C) ||| 2 ^ (4 + ws[j] / 8 % C)) := by simp only [bitsL, hlw, Int.toNat_natCast]
    rw [hbw] at ih hB hcl
    generalize ls.any (clash (lineW C ws[j])) = z at ih hcl
    rw [hlw] at ih
    generalize hgw : ws[j] = w at *
    generalize hp : w % C = p at *
    generalize hq : w / 8 = q at *
    generalize hr : q % C = r at *
    have e1 := shl1_ev p hp3
    have e2 := shl16_ev r hr3
    have u1 := wrap_u64n p hp3
    have u2 := wrap_u64n r hr3
    have b1 := pow_le3 hp3
    have b2 := pow_le3 (show 4 + r ≤ 7 by omega)
    have e3 := or_ev (a := 2 ^ p) (b := 2 ^ (4 + r)) (by omega) (by omega)
    generalize 2 ^ p = A at *
    generalize 2 ^ (4 + r) = D at *
    generalize (A ||| D) = B at *
    have e4 := and_ev (a := M) (b := B) (by omega) (by omega)
    have e5 := or_ev (a := M) (b := B) (by omega) (by omega)
    generalize (M &&& B) = K at *
    generalize (M ||| B) = M' at *
    have happ : appOK Try.prog 75 ls.length [[.int .i64 1, .int .i64 p, .int .i64 r]] = true := by
      rw [appOK_iff (by simp) (by simp)]
      simp [maxLen]
      omega
    rw [loopA_succ]
    by_cases hF : F < 0
    · rw [if_pos hF] at ih
      cases z with
      | false =>
        have hK : K = 0 := by simpa using hcl
        rw [if_neg (by decide)] at ih
        have hF2 : F = -1 := hFn hF
        simp [encL] at ih
        simp [-evInt_or, -evInt_and, -evSh_shl, hj, hjl, hget, hw1, hww, hC0, hm1, hm2, hm3, hm4, u1, u2, e1, e2, e3, e4, e5, hgw, encW, encL, plK, happ, hF, hK, hF2, ih]
        done
      | true =>
        have hK : ¬ K = 0 := by simpa using hcl
        rw [if_pos rfl] at ih
        simp [encL] at ih
        simp [-evInt_or, -evInt_and, -evSh_shl, hj, hjl, hget, hw1, hww, hC0, hm1, hm2, hm3, hm4, u1, u2, e1, e2, e3, e4, e5, hgw, encW, encL, plK, happ, hF, hK, ih]
        done
    · rw [if_neg hF] at ih
      simp [encL] at ih
      simp [-evInt_or, -evInt_and, -evSh_shl, hj, hjl, hget, hw1, hww, hC0, hm1, hm2, hm3, hm4, u1, u2, e1, e2, e3, e4, e5, hgw, encW, encL, plK, happ, hF, ih]
      done
def hireOK : Bool := [1, 2, 3, 4].all fun C : Int => [0, 1, 2, 3].all fun c : Int => [0, 1, 2, 3].all fun t : Int => !(decide (c < C) && decide (t < C)) || selfR C ⟨1, c, t⟩
theorem hireOK_true : hireOK = true := by decide +kernel
theorem mem03 {x : Int} (h1 : 0 ≤ x) (h2 : x ≤ 3) : x ∈ [0, 1, 2, (3 : Int)] := by
  have : x = 0 ∨ x = 1 ∨ x = 2 ∨ x = 3 := by omega
  rcases this with rfl | rfl | rfl | rfl <;> simp
theorem lineW_self {C : Nat} (c1 : 1 ≤ C) (c4 : C ≤ 4) (w : Nat) : selfR (C : Int) (lineW C w) = true := by
  have h1 := Nat.mod_lt w (show 0 < C by omega)
  have h2 := Nat.mod_lt (w / 8) (show 0 < C by omega)
  unfold lineW
  generalize w % C = p at h1
  generalize w / 8 % C = r at h2
  have q := List.all_eq_true.1 (List.all_eq_true.1 (List.all_eq_true.1 hireOK_true (C : Int) (mem4 (by omega) (by omega))) (p : Int) (mem03 (by omega) (by omega))) (r : Int) (mem03 (by omega) (by omega))
  have e1 : decide ((p : Int) < (C : Int)) = true := by simpa using h1
  have e2 : decide ((r : Int) < (C : Int)) = true := by simpa using h2
  rw [e1, e2] at q
  simpa using q
/-- the book of hires -/
def bookW (C : Nat) (ws : List Nat) : Book := ⟨C, 1, 0, (ws.take 8).map (lineW C), []⟩
theorem bookW_first {C : Nat} (c1 : 1 ≤ C) (c4 : C ≤ 4) (ws : List Nat) : firstV (bookW C ws) = match fcGo [] 0 ((ws.take 8).map (lineW C)) with
    | some x => .tup [i x, i 0]
    | none => .tup [i 0, i 7] := by
  have hs : ∀ x ∈ (bookW C ws).lines, selfR (bookW C ws).chairs x = true := fun x hx => by
    obtain ⟨w, _, rfl⟩ := List.mem_map.1 hx
    exact lineW_self c1 c4 w
  have h1 : ∀ l ∈ (bookW C ws).lines, l.k = 1 := fun x hx => by
    obtain ⟨w, _, rfl⟩ := List.mem_map.1 hx
    rfl
  have hf : faultB (bookW C ws) = 0 := by
    have e1 : ((ws.take 8).map (lineW C)).all (lineOk (C : Int)) = true := List.all_eq_true.2 fun x hx => (self_iff (hs x hx)).1
    have e2 : manyGo (C : Int) 1 ((ws.take 8).map (lineW C)) = 1 := many_self _ hs
    have l8 : ¬ 8 < ((ws.take 8).map (lineW C)).length := by simp; omega
    have a1 : decide ((1 : Int) ≤ C) = true := by simp; omega
    have a2 : decide ((C : Int) ≤ 4) = true := by simp; omega
    simp only [faultB, bookW, l8, decide_false, e1, e2, inB, a1, a2]
    simp
    exact ⟨a1, a2⟩
  unfold firstV
  rw [check_eq, hf, if_pos rfl, firstP_hire hf hs h1]
  rfl
set_option maxHeartbeats 1000000 in
theorem k8 (n : Nat) (κ : Nat) (ws : List Nat) (hκ : κ ≤ 255) (hw : ∀ w ∈ ws, w ≤ 65535) : call0 Try.prog (execA Try.prog ann kn (n+5700)) 8 [.int .u8 κ, .list false (ws.map encW)] = some (.bool true) := by
  rw [call0_eq Try.func8 b8 rfl (by simp [encW])]
  have hw0 : IntKind.i64.wrap (κ : Int) = (κ : Int) := wrap_i64 (by omega) (by omega)
  have hmod : (κ : Int).tmod 4 = ((κ % 4 : Nat) : Int) := (Int.ofNat_tmod κ 4).symm
  have hk4 : κ % 4 < 4 := Nat.mod_lt _ (by decide)
  generalize κ % 4 = q at hmod hk4
  have hw1 : IntKind.i64.wrap ((q : Int) + 1) = ((q + 1 : Nat) : Int) := by rw [wrap_i64 (by omega) (by omega)]; omega
  obtain ⟨C, rfl⟩ : ∃ C, C = q + 1 := ⟨_, rfl⟩
  generalize hC : q + 1 = C at *
  have c1 : 1 ≤ C := by omega
  have c4 : C ≤ 4 := by omega
  obtain ⟨c', γ', hl⟩ := l8 C c1 c4 ws hw (min 8 ws.length) 0 [] 1 0 (by omega) rfl
  have hl := hl (n + 5491) (n + 5691) (by omega)
  have hf0 : fcI [] = -1 := rfl
  have hm0 : maskL [] = 0 := rfl
  rw [hf0, hm0] at hl
  have q22 := fun n => k22 n (bookW C ws) (by simp [bookW]; omega) (by simp [bookW])
  have q37 := fun n => k37 n (bookW C ws)
  have hf := bookW_first c1 c4 ws
  have hfc : fcI ((ws.take 8).map (lineW C)) = optI (fcGo [] 0 ((ws.take 8).map (lineW C))) := rfl
  rw [hfc] at hl
  unfold bookW at q22 q37 hf
  have hL : ((ws.take 8).map (lineW C)).length ≤ 8 := by simp; omega
  generalize (ws.take 8).map (lineW C) = fin at *
  generalize fcGo [] 0 fin = F at *
  simp only [cellsB, cellsT, cellsR, List.map_nil] at q22 q37 hl ⊢
  cases F with
  | none =>
    rw [hf] at q37
    simp only [optI] at hl
    simp at hl
    simp [c8, argFr, hw0, hmod, hw1, hl, q22, q37, encL, k20]
    done
  | some x =>
    rw [hf] at q37
    have hx : ¬ ((x : Int) < 0) := by omega
    simp only [optI] at hl
    simp at hl
    simp [c8, argFr, hw0, hmod, hw1, hl, q22, q37, encL, k20, hx]
    done
end Go.Proofs.Try.Op
