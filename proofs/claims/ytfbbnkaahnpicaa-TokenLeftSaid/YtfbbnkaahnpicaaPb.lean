/- The operations of a Go function upon abstract values: what each gives ('ev'), and that the model gives just that. No program in sight. -/
import Derived.Test.YtfbbnkaahnpicaaPa
import Derived.DeepKeys
import Derived.Laws.StructEq
import Derived.Laws.Cover3
import Derived.WalkSpells
import Derived.Lib.SliceRun
namespace Go.Pg

def i64 (n : Int) : V := .int .i64 n

def constV : Value → Option V
  | .int k n => some (.int k n)
  | .bool b => some (.bool b)
  | .slice none 0 0 => some .nil
  | .agg _ | .tuple _ => none
  | v => some (.raw v)

theorem constV_rep {G : Gh} {v : Value} {x : V} (h : constV v = some x) : RepV G x v := by
  cases v with
  | int k n => simp only [constV, Option.some.injEq] at h; subst h; exact .int k n
  | bool b => simp only [constV, Option.some.injEq] at h; subst h; exact .bool b
  | slice a n c =>
    by_cases e : a = none ∧ n = 0 ∧ c = 0
    · obtain ⟨rfl, rfl, rfl⟩ := e
      simp only [constV, Option.some.injEq] at h
      subst h
      exact .nil
    · have : constV (.slice a n c) = some (.raw (.slice a n c)) := by
        unfold constV
        split <;> simp_all
      rw [this] at h
      cases h
      exact .raw _ rfl
  | agg cs => simp [constV] at h
  | tuple cs => simp [constV] at h
  | _ => simp only [constV, Option.some.injEq] at h; subst h; exact .raw _ rfl

def rd (fr : Fr) : Operand → Option (Bool × V)
  | .tmp t => fr.get t
  | .const v => (constV v).map fun x => (true, x)
  | .func f => some (true, .fn f [] [])
  | .global _ => none

theorem rd_rep {G : Gh} {fr : Fr} {a : Act} (h : FrRep G fr a.tmps) {x : Operand} {c : Bool} {v : V} (hr : rd fr x = some (c, v)) (hc : c = true) : RepV G v (a.eval x) := by
  cases x with
  | tmp t =>
    obtain ⟨y, hy, h1, _⟩ := h t c v hr
    have : a.eval (.tmp t) = y := by simp [Act.eval, Array.getD_eq_getD_getElem?, hy]
    rw [this]; exact h1 hc
  | const u =>
    simp only [rd, Option.map_eq_some_iff, Prod.mk.injEq] at hr
    obtain ⟨y, hy, _, rfl⟩ := hr
    exact constV_rep hy
  | func f =>
    simp only [rd, Option.some.injEq, Prod.mk.injEq] at hr
    obtain ⟨_, rfl⟩ := hr
    exact .fn f [] [] #[] #[] rfl rfl (fun i h => absurd h (by simp)) (fun i h => absurd h (by simp))
  | global g => simp [rd] at hr

def aggT (P : Program) (T : TypeId) : Bool := match P.underlying T with
  | some (.struct _) | some (.array _ _) => true
  | _ => false
def zeroV (P : Program) (T : TypeId) : Option Value := (P.info? T).bind (·.zero)
def cellsV : V → List V
  | .agg cs => cs
  | v => [v]
def constL : List Value → Option (List V)
  | [] => some []
  | v :: r => match constV v, constL r with
    | some x, some l => some (x :: l)
    | _, _ => none
def zeroC (P : Program) (T : TypeId) : Option (List V) := match zeroV P T with
  | some z => constL z.cells.toList
  | none => none
def fieldP (P : Program) (T : TypeId) (f : Nat) : Option (TypeId × Nat) := match P.underlying T with
  | some (.struct fs) => (fs[f]?).map fun x => (x.type, x.offset)
  | _ => none
def whole (P : Program) (T : TypeId) (cs : List V) : Option V := match P.underlying T with
  | some (.struct _) | some (.array _ _) => if P.cellsOf T ≤ cs.length then some (.agg (cs.take (P.cellsOf T))) else none
  | some _ => cs[0]?
  | none => none
def cellsAt (s : St) : V → Option (List V)
  | .ref cs => some cs
  | .ptr l k g off => match s.get l k with
    | some (g', .box cs) => if g' = g then some (cs.drop off) else none
    | _ => none
  | .eptr l k g i off => match s.get l k with
    | some (g', .vec _ es) => if g' = g then (es[i]?).map (·.drop off) else none
    | _ => none
  | _ => none

def evCmp (op : BinOp) (a b : Int) : Option Bool := match op with
  | .eql => some (a == b)
  | .neq => some (a != b)
  | .lss => some (decide (a < b))
  | .leq => some (decide (a ≤ b))
  | .gtr => some (decide (b < a))
  | .geq => some (decide (b ≤ a))
  | _ => none
def evInt (op : BinOp) (k : IntKind) (a b : Int) : Option V := match op with
  | .add => some (.int k (k.wrap (a + b)))
  | .sub => some (.int k (k.wrap (a - b)))
  | .mul => some (.int k (k.wrap (a * b)))
  | .quo => if b = 0 then none else some (.int k (k.wrap (a.tdiv b)))
  | .rem => if b = 0 then none else some (.int k (a.tmod b))
  | .and => some (.int k (k.wrap (BitVec.ofInt k.bits a &&& BitVec.ofInt k.bits b).toNat))
  | .or => some (.int k (k.wrap (BitVec.ofInt k.bits a ||| BitVec.ofInt k.bits b).toNat))
  | .xor => some (.int k (k.wrap (BitVec.ofInt k.bits a ^^^ BitVec.ofInt k.bits b).toNat))
  | .andNot => some (.int k (k.wrap (BitVec.ofInt k.bits a &&& ~~~ BitVec.ofInt k.bits b).toNat))
  | .shl => if b < 0 then none else some (.int k (k.wrap (a * 2 ^ (min b.toNat k.bits))))
  | .shr => if b < 0 then none else some (.int k (a.fdiv (2 ^ (min b.toNat k.bits))))
  | .eql | .neq | .lss | .leq | .gtr | .geq => (evCmp op a b).map .bool
def boolT (P : Program) (T : TypeId) : Bool := match P.underlying T with
  | some .bool => true
  | _ => false
def plainC : List V → Option (List Value)
  | [] => some []
  | .int k n :: r => match plainC r with
    | some l => some (.int k n :: l)
    | none => none
  | .bool b :: r => match plainC r with
    | some l => some (.bool b :: l)
    | none => none
  | _ => none
def eqLits : List Lit → List Lit → Bool
  | [], [] => true
  | .int _ a :: x, .int _ b :: y => (a == b) && eqLits x y
  | .bool a :: x, .bool b :: y => (a == b) && eqLits x y
  | _, _ => false
def flatLits : List Lit → List Lit → Bool
  | [], [] => true
  | .int k _ :: x, .int j _ :: y => decide (k = j) && flatLits x y
  | .bool _ :: x, .bool _ :: y => flatLits x y
  | _, _ => false
theorem eqLits_iff : ∀ {x y : List Lit}, flatLits x y = true → (eqLits x y = true ↔ x = y)
  | [], [], _ => by simp [eqLits]
  | .int k a :: x, .int j b :: y, h => by
    simp only [flatLits, Bool.and_eq_true, decide_eq_true_eq] at h
    obtain ⟨rfl, h⟩ := h
    simp [eqLits, eqLits_iff h]
  | .bool a :: x, .bool b :: y, h => by
    simp only [flatLits] at h
    simp [eqLits, eqLits_iff h]
  | [], _ :: _, h => by simp [flatLits] at h
  | .bool _ :: _, [], h => by simp [flatLits] at h
  | .bool _ :: _, .int _ _ :: _, h => by simp [flatLits] at h
  | .int _ _ :: _, [], h => by simp [flatLits] at h
  | .int _ _ :: _, .bool _ :: _, h => by simp [flatLits] at h
  | .float _ _ :: _, _, h => by simp [flatLits] at h
  | .string _ :: _, _, h => by simp [flatLits] at h
  | .nil :: _, _, h => by simp [flatLits] at h
  | .int _ _ :: _, .float _ _ :: _, h => by simp [flatLits] at h
  | .int _ _ :: _, .string _ :: _, h => by simp [flatLits] at h
  | .int _ _ :: _, .nil :: _, h => by simp [flatLits] at h
  | .bool _ :: _, .float _ _ :: _, h => by simp [flatLits] at h
  | .bool _ :: _, .string _ :: _, h => by simp [flatLits] at h
  | .bool _ :: _, .nil :: _, h => by simp [flatLits] at h
def evEq (P : Program) (T : TypeId) (cs ds : List V) : Option Bool := match plainC cs, plainC ds with
  | some a, some b => match P.keyLits 16 T a, P.keyLits 16 T b with
    | some x, some y => if aggT P T && P.keyTypeAt 16 T && !(P.eqGuardType P.depth T) && Nat.beq a.length (P.cellsOf T) && Nat.beq b.length (P.cellsOf T) && flatLits x y then some (eqLits x y) else none
    | _, _ => none
  | _, _ => none
def sliceT (P : Program) (T : TypeId) : Bool := match P.underlying T with
  | some (.slice _) => true
  | _ => false
def isNilS : V → Option Bool
  | .nil => some true
  | .list _ (_ :: _) => some false
  | .vec _ _ _ (_ + 1) => some false
  | _ => none
def evSh (op : BinOp) (k : IntKind) (a b : Int) : Option V := match op with
  | .shl => if b < 0 then none else some (.int k (k.wrap (a * 2 ^ (min b.toNat k.bits))))
  | .shr => if b < 0 then none else some (.int k (a.fdiv (2 ^ (min b.toNat k.bits))))
  | _ => none
def evBin (P : Program) (op : BinOp) (T : TypeId) (x y : V) : Option V :=
  match x, y with
  | .int k a, .int j b => if k = j then evInt op k a b else evSh op k a b
  | .bool a, .bool b => if boolT P T then (match op with
    | .eql => some (.bool (a == b))
    | .neq => some (.bool (a != b))
    | _ => none) else none
  | .agg cs, .agg ds => match op with
    | .eql => (evEq P T cs ds).map .bool
    | .neq => (evEq P T cs ds).map fun b => .bool !b
    | _ => none
  | x, .nil => if sliceT P T then (match op with
    | .eql => (isNilS x).map .bool
    | .neq => (isNilS x).map fun b => .bool !b
    | _ => none) else none
  | _, _ => none

section
variable {P : Program} {G : Gh} {w : World}
theorem evCmp_run {op : BinOp} {a b : Int} {r : Bool} (h : evCmp op a b = some r) : (Op.intCmp op a b).run P w = .ok (.bool r) w := by
  cases op <;> simp only [evCmp, Option.some.injEq, reduceCtorEq] at h <;> subst h <;> simp [Op.intCmp]

theorem evInt_run {op : BinOp} {T : TypeId} {k : IntKind} {a b : Int} {v : V} (h : evInt op k a b = some v) :
    ∃ x, (binOp op T (.int k a) (.int k b)).run P w = .ok x w ∧ RepV G v x := by
  cases op
  case add => cases h; exact ⟨.int k (k.wrap (a + b)), by simp [binOp, Op.intArith], .int _ _⟩
  case sub => cases h; exact ⟨.int k (k.wrap (a - b)), by simp [binOp, Op.intArith], .int _ _⟩
  case mul => cases h; exact ⟨.int k (k.wrap (a * b)), by simp [binOp, Op.intArith], .int _ _⟩
  case quo =>
    simp only [evInt] at h
    split at h
    · cases h
    · rename_i hb; cases h; exact ⟨.int k (k.wrap (a.tdiv b)), by simp [binOp, Op.intDiv, hb], .int _ _⟩
  case rem =>
    simp only [evInt] at h
    split at h
    · cases h
    · rename_i hb; cases h; exact ⟨.int k (a.tmod b), by simp [binOp, Op.intDiv, hb], .int _ _⟩
  case and => cases h; exact ⟨.int k (k.wrap (BitVec.ofInt k.bits a &&& BitVec.ofInt k.bits b).toNat), by simp [binOp, Op.intBits], .int _ _⟩
  case or => cases h; exact ⟨.int k (k.wrap (BitVec.ofInt k.bits a ||| BitVec.ofInt k.bits b).toNat), by simp [binOp, Op.intBits], .int _ _⟩
  case xor => cases h; exact ⟨.int k (k.wrap (BitVec.ofInt k.bits a ^^^ BitVec.ofInt k.bits b).toNat), by simp [binOp, Op.intBits], .int _ _⟩
  case andNot => cases h; exact ⟨.int k (k.wrap (BitVec.ofInt k.bits a &&& ~~~ BitVec.ofInt k.bits b).toNat), by simp [binOp, Op.intBits], .int _ _⟩
  case shl =>
    simp only [evInt] at h
    split at h
    · cases h
    · rename_i hb; cases h; exact ⟨.int k (k.wrap (a * 2 ^ (min b.toNat k.bits))), by simp [binOp, Op.shift, hb], .int _ _⟩
  case shr =>
    simp only [evInt] at h
    split at h
    · cases h
    · rename_i hb; cases h; exact ⟨.int k (a.fdiv (2 ^ (min b.toNat k.bits))), by simp [binOp, Op.shift, hb], .int _ _⟩
  all_goals
    first
    | (simp only [evInt] at h; cases h; done)
    | (simp only [evInt, Option.map_eq_some_iff] at h
       obtain ⟨r, hr, rfl⟩ := h
       exact ⟨.bool r, by simp [binOp, evCmp_run (P := P) (w := w) hr], .bool r⟩)

theorem evSh_run {op : BinOp} {T : TypeId} {k j : IntKind} {a b : Int} {v : V} (h : evSh op k a b = some v) :
    ∃ x, (binOp op T (.int k a) (.int j b)).run P w = .ok x w ∧ RepV G v x := by
  cases op
  case shl =>
    simp only [evSh] at h
    split at h
    · cases h
    · rename_i hb; cases h; exact ⟨.int k (k.wrap (a * 2 ^ (min b.toNat k.bits))), by simp [binOp, Op.shift, hb], .int _ _⟩
  case shr =>
    simp only [evSh] at h
    split at h
    · cases h
    · rename_i hb; cases h; exact ⟨.int k (a.fdiv (2 ^ (min b.toNat k.bits))), by simp [binOp, Op.shift, hb], .int _ _⟩
  all_goals (simp only [evSh] at h; cases h)

theorem eqGuard_int (op : BinOp) (T : TypeId) (x y : Operand) (k j : IntKind) (a b : Int) : (eqGuard op T x y (.int k a) (.int j b)).run P w = .ok () w := by
  cases op <;> simp [eqGuard]
theorem eqGuard_bool (op : BinOp) (T : TypeId) (x y : Operand) (a b : Bool) : (eqGuard op T x y (.bool a) (.bool b)).run P w = .ok () w := by
  cases op <;> simp [eqGuard]

theorem plainC_rep {G : Gh} : ∀ {cs : List V} {vs : List Value} {l : List Value}, RepL G cs vs → plainC cs = some l → vs = l
  | [], vs, l, h, e => by
    cases e
    exact List.eq_nil_of_length_eq_zero h.1.symm
  | c :: cs, [], l, h, e => absurd h.1 (by simp)
  | c :: cs, v :: vs, l, h, e => by
    have h0 := (h.2 0 (by simp) (by simp)).2
    have ht : RepL G cs vs := ⟨by simpa using h.1, fun i p q => h.2 (i + 1) (by simpa using p) (by simpa using q)⟩
    simp only [List.getElem_cons_zero] at h0
    cases c with
    | int k n =>
      simp only [plainC] at e
      split at e
      · rename_i r hr
        cases e
        cases h0
        rw [plainC_rep ht hr]
      · cases e
    | bool b =>
      simp only [plainC] at e
      split at e
      · rename_i r hr
        cases e
        cases h0
        rw [plainC_rep ht hr]
      · cases e
    | _ => simp [plainC] at e

theorem evEq_run {T : TypeId} {cs ds : List V} {xs ys : Array Value} {r : Bool} (h : evEq P T cs ds = some r) (hx : RepV G (.agg cs) (.agg xs)) (hy : RepV G (.agg ds) (.agg ys)) :
    (Op.equalIn 10000 T (.agg xs) (.agg ys)).run P w = .ok r w ∧ P.eqGuardType P.depth T = false := by
  unfold evEq at h
  split at h
  · rename_i a b ha hb
    split at h
    · rename_i x y hlx hly
      split at h
      · rename_i hc
        cases h
        simp only [Bool.and_eq_true, Bool.not_eq_true'] at hc
        obtain ⟨⟨⟨⟨⟨c1, c2⟩, c3⟩, c4⟩, c5⟩, c6⟩ := hc
        have c4 := Nat.eq_of_beq_eq_true c4
        have c5 := Nat.eq_of_beq_eq_true c5
        obtain ⟨xs', e1, hx'⟩ := RepL.ofAgg hx
        obtain ⟨ys', e2, hy'⟩ := RepL.ofAgg hy
        cases e1; cases e2
        have ex := plainC_rep hx' ha
        have ey := plainC_rep hy' hb
        have fm : ∀ (zs : Array Value), zs.toList.length = P.cellsOf T → (Value.agg zs).formed P T = true := by
          intro zs hz
          unfold aggT at c1
          unfold Value.formed
          split at c1
          · rename_i e; simp only [e]; simpa using hz
          · rename_i e; simp only [e]; simpa using hz
          · cases c1
        have hE : EqAt P (9984 + 16) T := run_equalIn_deep 9984 16 T c2
        obtain ⟨r, hr, hiff⟩ := hE w 16 16 (.agg xs) (.agg ys) x y (fm xs (by rw [ex]; exact c4)) (fm ys (by rw [ey]; exact c5)) (by show P.keyLits 16 T xs.toList = _; rw [ex]; exact hlx) (by show P.keyLits 16 T ys.toList = _; rw [ey]; exact hly)
        refine ⟨?_, c3⟩
        have : r = eqLits x y := by
          have h1 := eqLits_iff c6
          cases hr' : r <;> cases he : eqLits x y
          · rfl
          · have := hiff.2 (h1.1 he); rw [hr'] at this; cases this
          · have := h1.2 (hiff.1 hr'); rw [he] at this; cases this
          · rfl
        rw [← this]; exact hr
      · cases h
    · cases h
  · cases h

theorem eqGuard_slice (op : BinOp) (T : TypeId) (x y : Operand) (a a' : Option Addr) (n c n' c' : Nat) : (eqGuard op T x y (.slice a n c) (.slice a' n' c')).run P w = .ok () w := by
  cases op <;> simp [eqGuard]
theorem isNilS_rep {x : V} {v : Value} {b : Bool} (h : isNilS x = some b) (hv : RepV G x v) : ∃ a n c, v = .slice a n c ∧ a.isNone = b := by
  unfold isNilS at h
  split at h
  · cases h; cases hv; exact ⟨none, 0, 0, rfl, rfl⟩
  · cases h
    cases hv with
    | list f es a cap b off sz arr T fz vs hcap hfull ha => exact ⟨a, _, cap, rfl, by rw [(ha (by simp)).1]; rfl⟩
  · cases h
    cases hv with
    | vec l k g len b sz C a h hlen ha => exact ⟨a, _, C, rfl, by rw [ha (by omega)]; rfl⟩
  · cases h

theorem evBin_run {op : BinOp} {T : TypeId} {p q : Operand} {x y v : V} {a b : Value} (h : evBin P op T x y = some v) (hx : RepV G x a) (hy : RepV G y b) :
    ∃ r, (do eqGuard op T p q a b; binOp op T a b : Sem Value).run P w = .ok r w ∧ RepV G v r := by
  unfold evBin at h
  split at h
  · cases hx; cases hy
    split at h
    · rename_i k a j b hk
      subst hk
      obtain ⟨r, h1, h2⟩ := evInt_run (P := P) (G := G) (w := w) (T := T) h
      exact ⟨r, by simp [eqGuard_int, h1], h2⟩
    · rename_i k a j b hk
      obtain ⟨r, h1, h2⟩ := evSh_run (P := P) (G := G) (w := w) (T := T) (j := j) h
      exact ⟨r, by simp [eqGuard_int, h1], h2⟩
  · cases hx; cases hy
    split at h
    · rename_i hb
      have hu : P.underlying T = some .bool := by
        unfold boolT at hb; split at hb
        · assumption
        · cases hb
      split at h
      · cases h; exact ⟨_, by simp [eqGuard_bool, binOp, run_equal_bool w T _ _ hu], .bool _⟩
      · cases h; exact ⟨_, by simp [eqGuard_bool, binOp, run_equal_bool w T _ _ hu, bne], .bool _⟩
      · cases h
    · cases h
  · rename_i cs ds
    cases hx with
    | agg _ xs hl hc hr =>
      cases hy with
      | agg _ ys hl' hc' hr' =>
        split at h
        · obtain ⟨r, he, rfl⟩ := Option.map_eq_some_iff.1 h
          obtain ⟨h1, h2⟩ := evEq_run (w := w) he (.agg cs xs hl hc hr) (.agg ds ys hl' hc' hr')
          exact ⟨.bool r, by simp [run_eqGuard_agg _ _ _ _ _ _ _ h2, run_eql_struct, h1], .bool _⟩
        · obtain ⟨r, he, rfl⟩ := Option.map_eq_some_iff.1 h
          obtain ⟨h1, h2⟩ := evEq_run (w := w) he (.agg cs xs hl hc hr) (.agg ds ys hl' hc' hr')
          exact ⟨.bool !r, by simp [run_eqGuard_agg _ _ _ _ _ _ _ h2, run_neq_struct, h1], .bool _⟩
        · cases h
  · split at h
    · rename_i hs
      have hu : ∃ e, P.underlying T = some (.slice e) := by
        unfold sliceT at hs; split at hs
        · rename_i e hu; exact ⟨e, hu⟩
        · cases hs
      obtain ⟨e, hu⟩ := hu
      cases hy
      split at h
      · obtain ⟨r, he, rfl⟩ := Option.map_eq_some_iff.1 h
        obtain ⟨a, n, c, rfl, hn⟩ := isNilS_rep he hx
        exact ⟨.bool r, by simp [eqGuard_slice, Lib.run_eql_slice_nil w T e a n c 0 0 hu, hn], .bool _⟩
      · obtain ⟨r, he, rfl⟩ := Option.map_eq_some_iff.1 h
        obtain ⟨a, n, c, rfl, hn⟩ := isNilS_rep he hx
        exact ⟨.bool !r, by simp [eqGuard_slice, run_neq_slice_nil_any w T e a n c 0 0 hu, hn], .bool _⟩
      · cases h
    · cases h
  · cases h
end
end Go.Pg
