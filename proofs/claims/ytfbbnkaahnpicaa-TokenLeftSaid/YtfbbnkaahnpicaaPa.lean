/- The ground of a way to prove Go functions through values without memory: abstract values, the places that a call owns, what of the heap they stand for. No program in sight. -/
import Derived.RangeFuncRecord
import Derived.RangeFuncCalls
import Derived.Laws.AppendOwn
import Derived.KernelRfl
namespace Go.Pg

inductive V where
  | int (k : IntKind) (n : Int)
  | bool (b : Bool)
  | raw (v : Value)
  | agg (cs : List V)
  | tup (vs : List V)
  | list (full : Bool) (es : List (List V))
  | ref (cs : List V)
  | ptr (l k g off : Nat)
  | eptr (l k g i off : Nat)
  | vec (l k g len : Nat)
  | mp (l k g : Nat)
  | fn (f : FuncId) (first captured : List V)
  | yld (l k g : Nat)
  | nil
  | vtl (l k g i len : Nat)

instance : Inhabited V := ⟨.bool false⟩

def V.isCell : V → Bool
  | .agg _ | .tup _ => false
  | _ => true

inductive LS where
  | ready
  | busy
  | left (c : Code)
def LS.is : LS → Loop → Prop
  | .ready, r => r.state = .ready ∧ r.pending = none
  | .busy, r => r.state = .busy ∧ r.pending = none
  | .left c, r => r.state = .done ∧ r.pending = some c

inductive Res where
  | box (cs : List V)
  | vec (T : TypeId) (es : List (List V))
  | map (es : List (V × V))
  | loop (fr : List (Nat × Bool × V)) (ps : List Tmp) (asg body : Code) (N : Nat) (st : LS)
  | dead

instance : Inhabited Res := ⟨.dead⟩

abbrev Level := List (Nat × Nat × Res)
def Level.get : Level → Nat → Option (Nat × Res)
  | [], _ => none
  | (k', x) :: t, k => if k = k' then some x else Level.get t k
def Level.put (L : Level) (k g : Nat) (r : Res) : Level := (k, g, r) :: L

@[simp] theorem Level.get_nil (k : Nat) : Level.get [] k = none := rfl
theorem Level.get_put (L : Level) (k g j : Nat) (r : Res) : (L.put k g r).get j = if j = k then some (g, r) else L.get j := rfl

structure St where
  up : List Level
  loc : Level

def St.get (s : St) (l k : Nat) : Option (Nat × Res) :=
  if l = s.up.length then s.loc.get k else match s.up[l]? with
    | some L => L.get k
    | none => none
def St.put (s : St) (l k g : Nat) (r : Res) : St :=
  if l = s.up.length then { s with loc := s.loc.put k g r } else { s with up := s.up.modify l (fun L => L.put k g r) }

theorem St.put_len (s : St) (l k g : Nat) (r : Res) : (s.put l k g r).up.length = s.up.length := by
  unfold St.put; split <;> simp

theorem St.get_put (s : St) {l k g : Nat} {r : Res} {x : Nat × Res} (hx : s.get l k = some x) (l' k' : Nat) :
    (s.put l k g r).get l' k' = if l' = l ∧ k' = k then some (g, r) else s.get l' k' := by
  unfold St.get St.put
  by_cases h : l = s.up.length
  · subst h
    by_cases h' : l' = s.up.length
    · simp [h', Level.get_put]
    · simp [h']
  · simp only [if_neg h]
    by_cases h' : l' = s.up.length
    · subst h'
      have : ¬ s.up.length = l := fun e => h e.symm
      simp [this]
    · simp only [List.length_modify, if_neg h', List.getElem?_modify]
      by_cases hl : l' = l
      · subst hl
        unfold St.get at hx
        rw [if_neg h] at hx
        cases hu : s.up[l']? with
        | none => simp [hu] at hx
        | some L => simp [Level.get_put]
      · have : ¬ l = l' := fun e => hl e.symm
        simp [hl, this]

theorem St.get_putLoc (s : St) {k g : Nat} {r : Res} (l' k' : Nat) :
    (s.put s.up.length k g r).get l' k' = if l' = s.up.length ∧ k' = k then some (g, r) else s.get l' k' := by
  unfold St.get St.put
  simp only [if_true]
  by_cases h' : l' = s.up.length
  · simp [h', Level.get_put]
  · simp [h']

structure Gh where
  sl : Nat → Option Obj
  be : Nat → Option (Nat × Nat × Nat)
  env : Os × Array (Nat × ByteArray) × Nat

structure Gh.le (G G' : Gh) : Prop where
  a : ∀ b o, G.sl b = some o → G'.sl b = some o
  b : ∀ g x, G.be g = some x → G'.be g = some x
  e : G'.env = G.env
theorem Gh.le_refl (G : Gh) : G.le G := ⟨fun _ _ h => h, fun _ _ h => h, rfl⟩
theorem Gh.le_trans {A B C : Gh} (h : A.le B) (h' : B.le C) : A.le C := ⟨fun b o x => h'.1 b o (h.1 b o x), fun g y x => h'.2 g y (h.2 g y x), h'.e.trans h.e⟩

inductive RepV (G : Gh) : V → Value → Prop
  | int (k : IntKind) (n : Int) : RepV G (.int k n) (.int k n)
  | bool (b : Bool) : RepV G (.bool b) (.bool b)
  | raw (v : Value) (h : v.oneCell' = true) : RepV G (.raw v) v
  | agg (cs : List V) (arr : Array Value) (hl : cs.length = arr.size) (hc : ∀ c ∈ cs, c.isCell = true)
      (h : ∀ i (h1 : i < cs.length) (h2 : i < arr.size), RepV G cs[i] arr[i]) : RepV G (.agg cs) (.agg arr)
  | tup (cs : List V) (arr : Array Value) (hl : cs.length = arr.size)
      (h : ∀ i (h1 : i < cs.length) (h2 : i < arr.size), RepV G cs[i] arr[i]) : RepV G (.tup cs) (.tuple arr)
  | list (full : Bool) (es : List (List V)) (a : Option Addr) (cap b off sz : Nat) (arr : Array Value) (T : TypeId) (fz : Nat × Nat) (vs : Nat → Nat → Value)
      (hcap : es.length ≤ cap) (hfull : full = true → cap = es.length)
      (ha : es ≠ [] → a = some ⟨b, off, none⟩ ∧ G.sl b = some (.cells arr T fz))
      (hl : ∀ i (h : i < es.length), es[i].length = sz)
      (hv : ∀ i (h : i < es.length) j (hj : j < es[i].length), arr[off + i * sz + j]? = some (vs i j) ∧ es[i][j].isCell = true)
      (hr : ∀ i (h : i < es.length) j (hj : j < es[i].length), RepV G es[i][j] (vs i j)) : RepV G (.list full es) (.slice a es.length cap)
  | ref (cs : List V) (b off : Nat) (arr : Array Value) (T : TypeId) (fz : Nat × Nat) (vs : Nat → Value)
      (ha : G.sl b = some (.cells arr T fz))
      (hv : ∀ j (hj : j < cs.length), arr[off + j]? = some (vs j) ∧ cs[j].isCell = true)
      (hr : ∀ j (hj : j < cs.length), RepV G cs[j] (vs j)) : RepV G (.ref cs) (.pointer (some ⟨b, off, none⟩))
  | ptr (l k g off b sz C : Nat) (h : G.be g = some (b, sz, C)) : RepV G (.ptr l k g off) (.pointer (some ⟨b, off, none⟩))
  | eptr (l k g i off b sz C : Nat) (h : G.be g = some (b, sz, C)) : RepV G (.eptr l k g i off) (.pointer (some ⟨b, i * sz + off, none⟩))
  | vec (l k g len b sz C : Nat) (a : Option Addr) (h : G.be g = some (b, sz, C)) (hlen : len ≤ C)
      (ha : C ≠ 0 → a = some ⟨b, 0, none⟩) : RepV G (.vec l k g len) (.slice a len C)
  | mp (l k g b sz C : Nat) (h : G.be g = some (b, sz, C)) : RepV G (.mp l k g) (.map (some b))
  | fn (f : FuncId) (xs ys : List V) (a1 a2 : Array Value) (h1 : xs.length = a1.size) (h2 : ys.length = a2.size)
      (hx : ∀ i (p : i < xs.length) (q : i < a1.size), RepV G xs[i] a1[i]) (hy : ∀ i (p : i < ys.length) (q : i < a2.size), RepV G ys[i] a2[i]) :
      RepV G (.fn f xs ys) (.func (.func f) a1 a2)
  | yld (l k g b sz C : Nat) (h : G.be g = some (b, sz, C)) : RepV G (.yld l k g) (.func (.yield b) #[] #[])
  | nil : RepV G .nil (.slice none 0 0)
  | vtl (l k g i n b sz C cap : Nat) (a : Option Addr) (h : G.be g = some (b, sz, C)) (hlen : i + n ≤ C) (ha : n ≠ 0 → a = some ⟨b, i * sz, none⟩) : RepV G (.vtl l k g i n) (.slice a n cap)

theorem RepV.mono {G G' : Gh} (hle : G.le G') {x : V} {v : Value} (h : RepV G x v) : RepV G' x v := by
  induction h with
  | int k n => exact .int k n
  | bool b => exact .bool b
  | raw v h => exact .raw v h
  | agg cs arr hl hc _ ih => exact .agg cs arr hl hc ih
  | tup cs arr hl _ ih => exact .tup cs arr hl ih
  | list full es a cap b off sz arr T fz vs hcap hfull ha hl hv _ ih =>
    exact .list full es a cap b off sz arr T fz vs hcap hfull (fun h => ⟨(ha h).1, hle.1 _ _ (ha h).2⟩) hl hv ih
  | ref cs b off arr T fz vs ha hv _ ih => exact .ref cs b off arr T fz vs (hle.1 _ _ ha) hv ih
  | ptr l k g off b sz C h => exact .ptr l k g off b sz C (hle.2 _ _ h)
  | eptr l k g i off b sz C h => exact .eptr l k g i off b sz C (hle.2 _ _ h)
  | vec l k g len b sz C a h hlen ha => exact .vec l k g len b sz C a (hle.2 _ _ h) hlen ha
  | mp l k g b sz C h => exact .mp l k g b sz C (hle.2 _ _ h)
  | fn f xs ys a1 a2 h1 h2 _ _ ihx ihy => exact .fn f xs ys a1 a2 h1 h2 ihx ihy
  | yld l k g b sz C h => exact .yld l k g b sz C (hle.2 _ _ h)
  | nil => exact .nil
  | vtl l k g i n b sz C cap a h hlen ha => exact .vtl l k g i n b sz C cap a (hle.2 _ _ h) hlen ha

theorem RepV.cell {G : Gh} {x : V} {v : Value} (h : RepV G x v) (hc : x.isCell = true) : v.oneCell' = true := by
  cases h <;> first | rfl | assumption | simp [V.isCell] at hc

def RepL (G : Gh) (cs : List V) (vs : List Value) : Prop := cs.length = vs.length ∧ ∀ i (h1 : i < cs.length) (h2 : i < vs.length), cs[i].isCell = true ∧ RepV G cs[i] vs[i]
def RepA (G : Gh) (cs : List V) (vs : List Value) : Prop := cs.length = vs.length ∧ ∀ i (h1 : i < cs.length) (h2 : i < vs.length), RepV G cs[i] vs[i]

theorem RepL.mono {G G' : Gh} (hle : G.le G') {cs : List V} {vs : List Value} (h : RepL G cs vs) : RepL G' cs vs :=
  ⟨h.1, fun i h1 h2 => ⟨(h.2 i h1 h2).1, (h.2 i h1 h2).2.mono hle⟩⟩
theorem RepA.mono {G G' : Gh} (hle : G.le G') {cs : List V} {vs : List Value} (h : RepA G cs vs) : RepA G' cs vs :=
  ⟨h.1, fun i h1 h2 => (h.2 i h1 h2).mono hle⟩
theorem RepL.one {G : Gh} {cs : List V} {vs : List Value} (h : RepL G cs vs) : ∀ v ∈ vs, v.oneCell' = true := by
  intro v hv
  obtain ⟨i, hi, rfl⟩ := List.getElem_of_mem hv
  have := h.2 i (by rw [h.1]; exact hi) hi
  exact this.2.cell this.1
theorem RepL.nil (G : Gh) : RepL G [] [] := ⟨rfl, fun i h => absurd h (by simp)⟩
theorem RepA.nil (G : Gh) : RepA G [] [] := ⟨rfl, fun i h => absurd h (by simp)⟩
theorem RepL.cons {G : Gh} {c : V} {v : Value} {cs : List V} {vs : List Value} (hc : c.isCell = true) (h : RepV G c v) (ht : RepL G cs vs) : RepL G (c :: cs) (v :: vs) := by
  refine ⟨by simp [ht.1], fun i h1 h2 => ?_⟩
  cases i with
  | zero => exact ⟨hc, h⟩
  | succ i => exact ht.2 i (by simpa using h1) (by simpa using h2)
theorem RepA.cons {G : Gh} {c : V} {v : Value} {cs : List V} {vs : List Value} (h : RepV G c v) (ht : RepA G cs vs) : RepA G (c :: cs) (v :: vs) := by
  refine ⟨by simp [ht.1], fun i h1 h2 => ?_⟩
  cases i with
  | zero => exact h
  | succ i => exact ht.2 i (by simpa using h1) (by simpa using h2)
theorem RepL.append {G : Gh} {cs ds : List V} {vs us : List Value} (h : RepL G cs vs) (h' : RepL G ds us) : RepL G (cs ++ ds) (vs ++ us) := by
  induction cs generalizing vs with
  | nil => have : vs = [] := List.eq_nil_of_length_eq_zero h.1.symm; subst this; simpa using h'
  | cons c cs ih =>
    cases vs with
    | nil => exact absurd h.1 (by simp)
    | cons v vs =>
      have h0 := h.2 0 (by simp) (by simp)
      exact .cons h0.1 h0.2 (ih ⟨by simpa using h.1, fun i h1 h2 => h.2 (i + 1) (by simpa using h1) (by simpa using h2)⟩)
theorem RepA.append {G : Gh} {cs ds : List V} {vs us : List Value} (h : RepA G cs vs) (h' : RepA G ds us) : RepA G (cs ++ ds) (vs ++ us) := by
  induction cs generalizing vs with
  | nil => have : vs = [] := List.eq_nil_of_length_eq_zero h.1.symm; subst this; simpa using h'
  | cons c cs ih =>
    cases vs with
    | nil => exact absurd h.1 (by simp)
    | cons v vs =>
      exact .cons (h.2 0 (by simp) (by simp)) (ih ⟨by simpa using h.1, fun i h1 h2 => h.2 (i + 1) (by simpa using h1) (by simpa using h2)⟩)
theorem RepL.drop {G : Gh} {cs : List V} {vs : List Value} (h : RepL G cs vs) (n : Nat) : RepL G (cs.drop n) (vs.drop n) := by
  refine ⟨by simp [h.1], fun i h1 h2 => ?_⟩
  simp only [List.getElem_drop]
  exact h.2 _ _ _
theorem RepL.take {G : Gh} {cs : List V} {vs : List Value} (h : RepL G cs vs) (n : Nat) : RepL G (cs.take n) (vs.take n) := by
  refine ⟨by simp [h.1], fun i h1 h2 => ?_⟩
  simp only [List.getElem_take]
  exact h.2 _ _ _
theorem RepL.toAgg {G : Gh} {cs : List V} {vs : List Value} (h : RepL G cs vs) : RepV G (.agg cs) (.agg vs.toArray) :=
  .agg cs _ (by simp [h.1]) (fun c hc => by
    obtain ⟨i, hi, rfl⟩ := List.getElem_of_mem hc
    exact (h.2 i hi (by rw [← h.1]; exact hi)).1) (fun i h1 h2 => by
    simp only [List.getElem_toArray]
    exact (h.2 i h1 (by simpa using h2)).2)
theorem RepL.ofAgg {G : Gh} {cs : List V} {v : Value} (h : RepV G (.agg cs) v) : ∃ arr : Array Value, v = .agg arr ∧ RepL G cs arr.toList := by
  cases h with
  | agg _ arr hl hc h => exact ⟨arr, rfl, by simpa using hl, fun i h1 h2 => ⟨hc _ (List.getElem_mem h1), by simpa using h i h1 (by simpa using h2)⟩⟩
theorem RepL.get {G : Gh} {cs : List V} {vs : List Value} (h : RepL G cs vs) {i : Nat} {c : V} (hc : cs[i]? = some c) : ∃ v, vs[i]? = some v ∧ c.isCell = true ∧ RepV G c v := by
  obtain ⟨hi, rfl⟩ := List.getElem?_eq_some_iff.1 hc
  have hi' : i < vs.length := by rw [← h.1]; exact hi
  exact ⟨vs[i], List.getElem?_eq_getElem hi', h.2 i hi hi'⟩
theorem RepL.set {G : Gh} {cs : List V} {vs : List Value} (h : RepL G cs vs) {i : Nat} {c : V} {v : Value} (hc : c.isCell = true) (hr : RepV G c v) : RepL G (cs.set i c) (vs.set i v) := by
  refine ⟨by simp [h.1], fun j h1 h2 => ?_⟩
  simp only [List.getElem_set]
  split
  · exact ⟨hc, hr⟩
  · exact h.2 j (by simpa using h1) (by simpa using h2)

abbrev Fr := List (Nat × Bool × V)
def Fr.get : Fr → Nat → Option (Bool × V)
  | [], _ => none
  | (k', x) :: t, k => if k = k' then some x else Fr.get t k
def Fr.put (fr : Fr) (k : Nat) (c : Bool) (v : V) : Fr := (k, c, v) :: fr
theorem Fr.get_put (fr : Fr) (k j : Nat) (c : Bool) (v : V) : (fr.put k c v).get j = if j = k then some (c, v) else fr.get j := rfl

def FrRep (G : Gh) (fr : Fr) (tmps : Array Value) : Prop :=
  ∀ k c v, fr.get k = some (c, v) → ∃ x, tmps[k]? = some x ∧ (c = true → RepV G v x) ∧ (c = false → x = undef)
theorem FrRep.mono {G G' : Gh} (hle : G.le G') {fr : Fr} {tmps : Array Value} (h : FrRep G fr tmps) : FrRep G' fr tmps := by
  intro k c v hk
  obtain ⟨x, h1, h2, h3⟩ := h k c v hk
  exact ⟨x, h1, fun hc => (h2 hc).mono hle, h3⟩
theorem FrRep.put {G : Gh} {fr : Fr} {a : Act} (h : FrRep G fr a.tmps) {k : Nat} (hk : k < a.tmps.size) {c : Bool} {v : V} {x : Value} (h1 : c = true → RepV G v x) (h2 : c = false → x = undef) :
    FrRep G (fr.put k c v) (a.put (some k) x).tmps := by
  intro j c' v' hj
  rw [Fr.get_put] at hj
  simp only [Act.put]
  split at hj
  · rename_i e
    subst e
    simp only [Option.some.injEq, Prod.mk.injEq] at hj
    obtain ⟨rfl, rfl⟩ := hj
    exact ⟨x, by simp [hk], h1, h2⟩
  · rename_i hne
    obtain ⟨y, hy, h3⟩ := h j c' v' hj
    exact ⟨y, by rw [Array.getElem?_setIfInBounds_ne (fun e => hne e.symm)]; exact hy, h3⟩

def RRep (G : Gh) (g : Nat) (w : World) : Res → Prop
  | .box cs => ∃ b arr T, G.be g = some (b, 1, cs.length) ∧ w.heap[b]? = some (.cells arr T (0, 0)) ∧ RepL G cs arr.toList
  | .vec T es => ∃ b sz C, G.be g = some (b, sz, C) ∧ es.length ≤ C ∧ (∀ e ∈ es, e.length = sz) ∧ (C ≤ maxLen ∧ (es = [] → C = 0)) ∧
      (C ≠ 0 → ∃ arr, w.heap[b]? = some (.cells arr T (0, 0)) ∧ arr.size = C * sz ∧ RepL G es.flatten (arr.toList.take (es.length * sz)))
  | .map es => ∃ b arr clock, G.be g = some (b, 1, 1) ∧ w.heap[b]? = some (.map arr clock) ∧ es.length = arr.size ∧
      (∀ i (h1 : i < es.length) (h2 : i < arr.size), RepV G es[i].1 arr[i].key ∧ RepV G es[i].2 arr[i].val)
  | .loop fr ps asg body N st => ∃ b r, G.be g = some (b, 1, 1) ∧ w.heap[b]? = some (.loop r) ∧ FrRep G fr r.tmps ∧ r.tmps.size = N ∧ r.params.toList = ps ∧ r.assign = asg ∧ r.body = body ∧ st.is r
  | .dead => True

def owns (G : Gh) (g : Nat) : Res → Option Nat
  | .dead => none
  | .vec _ _ => match G.be g with
    | some (b, _, C) => if C = 0 then none else some b
    | none => none
  | _ => (G.be g).map (·.1)

theorem owns_mono {G G' : Gh} (hle : G.le G') {g : Nat} {r : Res} {b : Nat} (h : owns G g r = some b) : owns G' g r = some b := by
  cases r with
  | dead => cases h
  | vec T es =>
    simp only [owns] at h ⊢
    cases hb : G.be g with
    | none => simp [hb] at h
    | some x => rw [hb] at h; rw [hle.2 _ _ hb]; exact h
  | box cs =>
    simp only [owns] at h ⊢
    cases hb : G.be g with
    | none => simp [hb] at h
    | some x => rw [hb] at h; rw [hle.2 _ _ hb]; exact h
  | map es =>
    simp only [owns] at h ⊢
    cases hb : G.be g with
    | none => simp [hb] at h
    | some x => rw [hb] at h; rw [hle.2 _ _ hb]; exact h
  | loop fr ps asg body N st =>
    simp only [owns] at h ⊢
    cases hb : G.be g with
    | none => simp [hb] at h
    | some x => rw [hb] at h; rw [hle.2 _ _ hb]; exact h

theorem RRep.keep {G G' : Gh} {g : Nat} {w w' : World} {r : Res} (h : RRep G g w r) (hle : G.le G') (hw : ∀ b, owns G g r = some b → w'.heap[b]? = w.heap[b]?) : RRep G' g w' r := by
  cases r with
  | dead => trivial
  | box cs =>
    obtain ⟨b, arr, T, h1, h2, h3⟩ := h
    exact ⟨b, arr, T, hle.2 _ _ h1, (hw b (by simp [owns, h1])).trans h2, h3.mono hle⟩
  | vec T es =>
    obtain ⟨b, sz, C, h1, h2, h3, h4, h5⟩ := h
    refine ⟨b, sz, C, hle.2 _ _ h1, h2, h3, h4, fun hC => ?_⟩
    obtain ⟨arr, h6, h7, h8⟩ := h5 hC
    exact ⟨arr, (hw b (by simp [owns, h1, hC])).trans h6, h7, h8.mono hle⟩
  | map es =>
    obtain ⟨b, arr, clock, h1, h2, h3, h4⟩ := h
    exact ⟨b, arr, clock, hle.2 _ _ h1, (hw b (by simp [owns, h1])).trans h2, h3, fun i p q => ⟨(h4 i p q).1.mono hle, (h4 i p q).2.mono hle⟩⟩
  | loop fr ps asg body N st =>
    obtain ⟨b, r, h1, h2, h3, h4⟩ := h
    exact ⟨b, r, hle.2 _ _ h1, (hw b (by simp [owns, h1])).trans h2, h3.mono hle, h4⟩

theorem RRep.owned {G : Gh} {g : Nat} {w : World} {r : Res} {G' : Gh} (h : RRep G g w r) (hle : G.le G') {b : Nat} (hb : owns G' g r = some b) : owns G g r = some b := by
  cases r with
  | dead => cases hb
  | box cs => obtain ⟨b', arr, T, h1, _⟩ := h; simp only [owns, h1, hle.2 _ _ h1] at hb ⊢; exact hb
  | vec T es => obtain ⟨b', sz, C, h1, _⟩ := h; simp only [owns, h1, hle.2 _ _ h1] at hb ⊢; exact hb
  | map es => obtain ⟨b', arr, clock, h1, _⟩ := h; simp only [owns, h1, hle.2 _ _ h1] at hb ⊢; exact hb
  | loop fr ps asg body N st => obtain ⟨b', r, h1, _⟩ := h; simp only [owns, h1, hle.2 _ _ h1] at hb ⊢; exact hb

def objOK (o : Obj) : Prop := ∀ c T fz, o = .cells c T fz → fz = (0, 0)
def EnvOK (G : Gh) (w : World) : Prop := w.os = G.env.1 ∧ w.output = G.env.2.1 ∧ G.env.2.2 ≤ w.heap.size ∧ ∀ b c T fz, G.env.2.2 ≤ b → w.heap[b]? = some (.cells c T fz) → fz = (0, 0)

structure Inv (G : Gh) (s : St) (w : World) : Prop where
  sl : ∀ b o, G.sl b = some o → w.heap[b]? = some o
  res : ∀ l k g r, s.get l k = some (g, r) → RRep G g w r
  sep : ∀ l k g r l' k' g' r' b, s.get l k = some (g, r) → s.get l' k' = some (g', r') → owns G g r = some b → owns G g' r' = some b → l = l' ∧ k = k'
  out : ∀ l k g r b, s.get l k = some (g, r) → owns G g r = some b → G.sl b = none ∧ b < w.heap.size
  fresh : ∃ N, ∀ g, N ≤ g → G.be g = none
  env : EnvOK G w

theorem Fr.get_nil (k : Nat) : Fr.get [] k = none := rfl
end Go.Pg
