/- The walk over a region's operations upon abstract values, and that the model's walk follows it. No program in sight. -/
import Derived.Test.YtfbbnkaahnpicaaPb
import Derived.DeepKeys3
namespace Go.Pg

def wf (ρ : Option Nat) : Fence := { Fence.wide with round := ρ }
def mark (r : Nat) : Deferred := { target := .collected r, args := #[] }

structure Rel (n N : Nat) (G0 G : Gh) (fr : Fr) (s : St) (a : Act) (w : World) : Prop where
  le : G0.le G
  inv : Inv G s w
  fr : FrRep G fr a.tmps
  size : a.tmps.size = N
  lvl : s.up.length = n
  marks : ∃ rs : List Nat, a.defers = rs.map mark ∧ rs.Nodup ∧ ∀ r ∈ rs, G0.sl r = none ∧ G.sl r = some (.deferred (some []))

def Post (n N : Nat) (G0 : Gh) (K : Exit → Fr → St → Prop) (e : Exit) (a : Act) (w : World) : Prop := ∃ G fr s, Rel n N G0 G fr s a w ∧ K e fr s

def weakC : V → V
  | .list _ es => .list false es
  | v => v
def weakV : V → V
  | .list _ es => .list false es
  | .agg cs => .agg (cs.map weakC)
  | v => v

theorem RepV.unfull {G : Gh} {f : Bool} {es : List (List V)} {v : Value} (h : RepV G (.list f es) v) : RepV G (.list false es) v := by
  cases h with
  | list _ _ a cap b off sz arr T fz vs hcap hfull ha hl hv hr => exact .list false es a cap b off sz arr T fz vs hcap (fun h => by cases h) ha hl hv hr
theorem RepV.weakC {G : Gh} {x : V} {v : Value} (h : RepV G x v) : RepV G (weakC x) v := by
  cases x <;> first | exact h | exact h.unfull
theorem isCell_weakC (x : V) : (weakC x).isCell = x.isCell := by cases x <;> rfl
theorem RepV.weakV {G : Gh} {x : V} {v : Value} (h : RepV G x v) : RepV G (weakV x) v := by
  cases x with
  | list f es => exact h.unfull
  | agg cs =>
    cases h with
    | agg _ arr hl hc hr =>
      refine .agg _ arr (by simpa using hl) (fun c hc' => ?_) (fun i h1 h2 => ?_)
      · obtain ⟨d, hd, rfl⟩ := List.mem_map.1 hc'
        rw [isCell_weakC]; exact hc d hd
      · simp only [List.getElem_map]
        exact (hr i (by simpa using h1) h2).weakC
  | _ => exact h
theorem RepA.weak {G : Gh} {xs : List V} {vs : List Value} (h : RepA G xs vs) : RepA G (xs.map Pg.weakV) vs :=
  ⟨by simpa using h.1, fun i h1 h2 => by simp only [List.getElem_map]; exact (h.2 i (by simpa using h1) h2).weakV⟩

def rdG (g : Bool) (fr : Fr) (x : Operand) : Option V := match rd fr x with
  | some (c, v) => if (!g || c) = true then some v else none
  | none => none
theorem rdG_rep {G : Gh} {fr : Fr} {a : Act} (h : FrRep G fr a.tmps) {x : Operand} {v : V} (hr : rdG true fr x = some v) : RepV G v (a.eval x) := by
  unfold rdG at hr
  split at hr
  · rename_i c u hu
    split at hr
    · rename_i hc
      cases hr
      exact rd_rep h hu (by simpa using hc)
    · cases hr
  · cases hr

def gdV (fr : Fr) : Option (Tmp × Bool) → Option Bool
  | none => some true
  | some (d, want) => match fr.get d with
    | some (c, .bool b) => some (c && (b == want))
    | _ => none

def guardIs (all : List Oper) (o : Oper) (g : Option (Tmp × Bool)) : Bool := match o.guard, g with
  | none, none => true
  | some (j, w), some (d, w') => w == w' && (match all[j]? with
    | some p => match p.dst with
      | some d' => Nat.beq d' d
      | none => false
    | none => false)
  | _, _ => false

theorem gdV_wanted {G : Gh} {fr : Fr} {tmps : Array Value} (h : FrRep G fr tmps) {ops : Array Oper} {o : Oper} {gd : Option (Tmp × Bool)} {g : Bool} (hgd : guardIs ops.toList o gd = true) (hg : gdV fr gd = some g) :
    Region.wanted o (yielded ops tmps) = g := by
  unfold guardIs at hgd
  unfold Region.wanted
  split at hgd
  · rename_i ho
    rw [ho]
    simpa [gdV] using hg
  · rename_i j w d w' ho
    rw [ho]
    simp only [Bool.and_eq_true, beq_iff_eq] at hgd
    obtain ⟨rfl, hgd⟩ := hgd
    split at hgd
    · rename_i p hp
      split at hgd
      · rename_i d' hd'
        have hdd : d' = d := Nat.eq_of_beq_eq_true hgd
        subst hdd
        simp only [gdV] at hg
        split at hg
        · rename_i c b hb
          simp only [Option.some.injEq] at hg
          obtain ⟨x, hx, h1, h2⟩ := h d' _ _ hb
          have : yielded ops tmps j = if c then some b else none := by
            unfold yielded
            have e1 : ops[j]? = some p := by rw [← Array.getElem?_toList]; exact hp
            rw [e1]
            simp only [Option.bind_some, hd', hx]
            cases c with
            | true => have := h1 rfl; cases this; rfl
            | false => rw [h2 rfl]; rfl
          show (yielded ops tmps j == some w) = g
          rw [this, ← hg]
          cases c <;> cases b <;> cases w <;> rfl
        · cases hg
      · cases hgd
    · cases hgd
  · cases hgd

def partV (P : Program) (U : TypeId) (cs : List V) (off : Nat) : Option V := match P.underlying U with
  | some (.struct _) | some (.array _ _) => if off + P.cellsOf U ≤ cs.length then some (.agg ((cs.drop off).take (P.cellsOf U))) else none
  | some _ => cs[off]?
  | none => none
def evField (P : Program) (T : TypeId) (x : V) (f : Nat) : Option V := match x, fieldP P T f with
  | .agg cs, some (U, off) => partV P U cs off
  | _, _ => none
def evFieldAddr (P : Program) (T : TypeId) (x : V) (f : Nat) : Option V := match fieldP P T f with
  | some (U, off) => if P.cellsOf U = 0 then none else match x with
    | .ref cs => some (.ref (cs.drop off))
    | .ptr l k g o => some (.ptr l k g (o + off))
    | .eptr l k g i o => some (.eptr l k g i (o + off))
    | _ => none
  | none => none
def elemT (P : Program) (T : TypeId) : Option (Option Nat × TypeId) := match P.underlying T with
  | some (.slice e) => some (none, e)
  | some (.array n e) => some (some n, e)
  | _ => none
def evIndexAddr (P : Program) (s : St) (T : TypeId) (x i : V) : Option V := match elemT P T, x, i with
  | some (none, e), .list _ es, .int _ j => if 0 ≤ j ∧ j < es.length ∧ (es.getD j.toNat []).length = P.cellsOf e ∧ 0 < P.cellsOf e then some (.ref (es.getD j.toNat [])) else none
  | some (none, e), .vec l k g n, .int _ j => match s.get l k with
    | some (g', .vec _ es) => if g' = g ∧ 0 ≤ j ∧ j < n ∧ n ≤ es.length ∧ (es.getD j.toNat []).length = P.cellsOf e ∧ 0 < P.cellsOf e then some (.eptr l k g j.toNat 0) else none
    | _ => none
  | some (some n, e), .ref cs, .int _ j => if 0 ≤ j ∧ j < n ∧ 0 < P.cellsOf e then some (.ref (cs.drop (j.toNat * P.cellsOf e))) else none
  | some (some n, e), .ptr l k g o, .int _ j => if 0 ≤ j ∧ j < n ∧ 0 < P.cellsOf e then some (.ptr l k g (o + j.toNat * P.cellsOf e)) else none
  | some (some n, e), .eptr l k g i' o, .int _ j => if 0 ≤ j ∧ j < n ∧ 0 < P.cellsOf e then some (.eptr l k g i' (o + j.toNat * P.cellsOf e)) else none
  | _, _, _ => none
def evIndex (P : Program) (T : TypeId) (x i : V) : Option V := match elemT P T, x, i with
  | some (some n, e), .agg cs, .int _ j => if 0 ≤ j ∧ j < n ∧ 0 < P.cellsOf e then partV P e cs (j.toNat * P.cellsOf e) else none
  | _, _, _ => none
def evConv (P : Program) (src dst : TypeId) (x : V) : Option V := match x, P.underlying src, P.underlying dst with
  | .int _ n, some (.int _), some (.int k) => some (.int k (k.wrap n))
  | _, _, _ => none
def evUn (op : UnOp) (x : V) : Option V := match op, x with
  | .not, .bool b => some (.bool !b)
  | .neg, .int k n => some (.int k (k.wrap (0 - n)))
  | _, _ => none
def evNil : V → Option V
  | .ref cs => some (.ref cs)
  | .ptr l k g o => some (.ptr l k g o)
  | .eptr l k g i o => some (.eptr l k g i o)
  | .fn f a b => some (.fn f a b)
  | .yld l k g => some (.yld l k g)
  | _ => none
def evExtract (x : V) (i : Nat) : Option V := match x with
  | .tup vs => vs[i]?
  | _ => none
def evPick (c a b : V) : Option V := match c, a, b with
  | .bool c, .bool a, .bool b => some (.bool (if c then a else b))
  | _, _, _ => none
def evLen (P : Program) (T : TypeId) (x : V) : Option V := match P.underlying T, x with
  | some (.slice _), .list _ es => some (.int .i64 es.length)
  | some (.slice _), .vec _ _ _ n => some (.int .i64 n)
  | some (.slice _), .nil => some (.int .i64 0)
  | some (.array n _), _ => some (.int .i64 n)
  | _, _ => none
def evSlice (P : Program) (s : St) (T : TypeId) (x : V) (lo hi mx : Option V) : Option V := match elemT P T, x, lo, hi, mx with
  | some (none, e), .list _ es, none, some (.int _ h), none => if 0 ≤ h ∧ h ≤ es.length ∧ 0 < P.cellsOf e then some (.list false (es.take h.toNat)) else none
  | some (none, e), .list _ es, some (.int _ l), none, none => if 0 ≤ l ∧ l ≤ es.length ∧ 0 < P.cellsOf e ∧ es.all (fun x => x.length == P.cellsOf e) = true then some (.list false (es.drop l.toNat)) else none
  | some (none, e), .list _ es, some (.int _ l), some (.int _ h), none =>
    if 0 ≤ l ∧ l ≤ h ∧ h ≤ es.length ∧ 0 < P.cellsOf e ∧ es.all (fun x => x.length == P.cellsOf e) = true then some (.list false ((es.take h.toNat).drop l.toNat)) else none
  | some (none, e), .list _ _, none, some (.int _ h), some (.int _ m) => if h = 0 ∧ m = 0 ∧ 0 < P.cellsOf e then some (.list true []) else none
  | some (none, e), .vec l k g n, none, some (.int _ h), none => if 0 ≤ h ∧ h ≤ n ∧ 0 < P.cellsOf e then some (.vec l k g h.toNat) else none
  | some (none, e), .vec l k g n, some (.int _ i), none, none => match s.get l k with
    | some (g', .vec _ es) => if g' = g ∧ es.all (fun x => x.length == P.cellsOf e) = true ∧ es ≠ [] ∧ 0 ≤ i ∧ i ≤ n ∧ 0 < P.cellsOf e then some (.vtl l k g i.toNat (n - i.toNat)) else none
    | _ => none
  | _, _, _, _, _ => none

/-! ### Maps -/
def eqC : List V → List V → Option Bool
  | [], [] => some true
  | .int k a :: x, .int j b :: y => if k = j then (match eqC x y with
    | some r => some ((a == b) && r)
    | none => none) else none
  | .bool a :: x, .bool b :: y => match eqC x y with
    | some r => some ((a == b) && r)
    | none => none
  | _, _ => none
def keyV (P : Program) (K : TypeId) (v : V) : Option (List V) := match v with
  | .agg cs => match plainC cs with
    | some ks => if (keyOf P K (.agg ks.toArray)).isSome then some cs else none
    | none => none
  | _ => none
def keyT (P : Program) (K : TypeId) : Bool := aggT P K && P.keyTypeAt 16 K && P.tiled 16 K
def findV (P : Program) (K : TypeId) (ks : List V) : List (V × V) → Nat → Option (List Nat)
  | [], _ => some []
  | (k, _) :: es, i => match keyV P K k with
    | some js => match eqC js ks, findV P K ks es (i + 1) with
      | some b, some l => some (if b then i :: l else l)
      | _, _ => none
    | none => none
def wholeZ (P : Program) (T : TypeId) : Option V := match zeroV P T with
  | some (.agg arr) => match constL arr.toList with
    | some cs => some (.agg cs)
    | none => none
  | some v => constV v
  | none => none
def mapT (P : Program) (T : TypeId) : Option (TypeId × TypeId) := match P.underlying T with
  | some (.map k e) => some (k, e)
  | _ => none
def evLookup (P : Program) (s : St) (T : TypeId) (m k : V) (ok : Bool) : Option V := match mapT P T, m with
  | some (K, E), .mp l q g => match s.get l q with
    | some (g', .map es) => if g' = g ∧ keyT P K = true then (match keyV P K k with
      | some ks => match findV P K ks es 0 with
        | some [] => (wholeZ P E).map fun z => if ok then .tup [z, .bool false] else z
        | some [i] => (es[i]?).map fun e => if ok then .tup [e.2, .bool true] else e.2
        | _ => none
      | none => none) else none
    | _ => none
  | _, _ => none
def evUpd (P : Program) (s : St) (T : TypeId) (m k v : V) : Option (Nat × Nat × Nat × List (V × V)) := match mapT P T, m with
  | some (K, _), .mp l q g => match s.get l q with
    | some (g', .map es) => if g' = g ∧ keyT P K = true then (match keyV P K k with
      | some ks => match findV P K ks es 0 with
        | some [] => some (l, q, g, es ++ [(k, v)])
        | some [i] => some (l, q, g, es.set i (k, v))
        | _ => none
      | none => none) else none
    | _ => none
  | _, _ => none

def evMax (a b : V) : Option V := match a, b with
  | .int k m, .int j n => if k = j then some (.int k (if n > m then n else m)) else none
  | _, _ => none
def evMin (a b : V) : Option V := match a, b with
  | .int k m, .int j n => if k = j then some (.int k (if n < m then n else m)) else none
  | _, _ => none

def evP (P : Program) (o : Oper) (s : St) (r : Operand → Option V) : Option V := match o.op with
  | .move x | .assign x => r x
  | .nilCheck x => (r x).bind evNil
  | .load T x => (r x).bind fun v => (cellsAt s v).bind fun cs => whole P T cs
  | .binOp op T x y _ => (r x).bind fun a => (r y).bind fun b => evBin P op T a b
  | .unOp op _ x => (r x).bind fun a => evUn op a
  | .convert src dst x => (r x).bind fun a => evConv P src dst a
  | .fieldAddr T x f => (r x).bind fun a => evFieldAddr P T a f
  | .field T x f => (r x).bind fun a => evField P T a f
  | .indexAddr T x i => (r x).bind fun a => (r i).bind fun b => evIndexAddr P s T a b
  | .index T x i => (r x).bind fun a => (r i).bind fun b => evIndex P T a b
  | .extract x i => (r x).bind fun a => evExtract a i
  | .call { callee := .builtin .len, args, argTypes } => match args.toList, argTypes.toList with
    | [x], [T] => (r x).bind fun a => evLen P T a
    | _, _ => none
  | .call { callee := .builtin .max, args, .. } => match args.toList with
    | [x, y] => (r x).bind fun a => (r y).bind fun b => evMax a b
    | _ => none
  | .call { callee := .builtin .min, args, .. } => match args.toList with
    | [x, y] => (r x).bind fun a => (r y).bind fun b => evMin a b
    | _ => none
  | .slice T x lo hi mx => (r x).bind fun a =>
      (match lo with | none => some none | some y => (r y).map some).bind fun l =>
      (match hi with | none => some none | some y => (r y).map some).bind fun h =>
      (match mx with | none => some none | some y => (r y).map some).bind fun m => evSlice P s T a l h m
  | .lookup T x i ok => (r x).bind fun a => (r i).bind fun b => evLookup P s T a b ok
  | .makeFunc (.func f) first captured => (first.toList.mapM r).bind fun a => (captured.toList.mapM r).bind fun b => some (.fn f a b)
  | _ => none
end Go.Pg
