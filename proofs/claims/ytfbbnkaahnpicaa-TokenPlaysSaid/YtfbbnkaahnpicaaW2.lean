/- Contracts: ways, readings of the program. No condition. -/
import Derived.Test.YtfbbnkaahnpicaaW1
import Derived.Test.YtfbbnkaahnpicaaFx
import Derived.Test.YtfbbnkaahnpicaaFy
open Go Go.Pg Go.Proofs
namespace Go.Proofs.Try.Op
set_option maxRecDepth 100000
set_option linter.unusedSimpArgs false
def encI (n : Int) : List V := [i n]
def rng (a : Int) : Nat → List Int
  | 0 => []
  | d + 1 => a :: rng (a + 1) d
theorem rng_len (a : Int) : ∀ d, (rng a d).length = d
  | 0 => rfl
  | d + 1 => by simp [rng, rng_len (a + 1) d]
def ways (sign none a b : Int) : List Int := if sign = none then rng a (b + 1 - a).toNat else [sign]
theorem l107 (n : Nat) (b : Int) (hb : b ≤ 100) : ∀ (d : Nat) (a : Int) (out : List Int) (c γ m : Nat), a + d = b + 1 → d < m → 0 ≤ a → out.length + d ≤ 1000 →
    ∃ c' γ' : Nat, loopA (execA Try.prog ann kn (n+50) 26) lb107_4 (some ([3, 8, 9], [24])) m ⟨c, [(3, true, i b), (8, true, pv 24 γ (out.map encI)), (9, true, i a)], ⟨[], pl 24 γ 3 (out.map encI)⟩⟩ =
    some (.exit 0, ⟨c', [(18, true, .bool false), (17, true, i b), (16, true, i (b + 1)), (3, true, i b), (8, true, pv 24 γ' ((out ++ rng a d).map encI)), (9, true, i (b + 1))], ⟨[], pl 24 γ' 3 ((out ++ rng a d).map encI)⟩⟩)
  | 0, a, out, c, γ, m + 1, hd, hm, ha, ho => by
    have : a = b + 1 := by omega
    subst this
    have e : decide (b + 1 ≤ b) = false := by simp; omega
    refine ⟨c, γ, ?_⟩
    simp [loopA_succ, rng, e]
  | d + 1, a, out, c, γ, m + 1, hd, hm, ha, ho => by
    have e : decide (a ≤ b) = true := by simp; omega
    have hw : IntKind.i64.wrap (a + 1) = a + 1 := wrap_i64 (by omega) (by omega)
    obtain ⟨c', γ', ih⟩ := l107 n b hb d (a + 1) (out ++ [a]) (c + 1) c m (by omega) (by omega) (by omega) (by simp; omega)
    refine ⟨c', γ', ?_⟩
    have ho' : appOK Try.prog 3 out.length [[i a]] = true := by
      rw [appOK_iff (by simp) (by simp)]
      simp [maxLen]; omega
    rw [loopA_succ]
    simp only [rng, List.map_append, List.map_cons, List.map_nil, pl_snoc, encI, List.append_assoc, List.cons_append, List.nil_append] at ih ⊢
    simp [hw, encI, ho', e, ih]
theorem k107 (n : Nat) (sg no a b : Int) (hb : b ≤ 100) (ha : 0 ≤ a) (hab : a ≤ b + 1) : callK Try.prog kn (execA Try.prog ann kn (n+200)) 107 [i sg, i no, i a, i b] = some (sl ((ways sg no a b).map encI)) := by
  rw [callK_of rfl, call0_eq Try.func107 b107 rfl rfl]
  obtain ⟨c', γ', ih⟩ := l107 (n + 144) b hb (b + 1 - a).toNat a [] 0 0 (n + 194) (by omega) (by omega) ha (by simp; omega)
  unfold ways
  by_cases h : sg = no
  · have hcl : ((rng a (b + 1 - a).toNat).map encI).all (fun e => e.all (closedV 8)) = true := by simp [encI]
    simp only [Nat.add_assoc, Nat.reduceAdd] at ih
    simp at ih hcl
    simp [c107, argFr, h, ih]
    exact hcl
  · have e : decide (sg = no) = false := by simpa using h
    simp [c107, argFr, h, encI, sl]

def rd3 (k ch : Int) (zs : List Int) : List Line := zs.map fun t => ⟨k, ch, t⟩
theorem l81c (n : Nat) (b : Book) (l : Line) (k ch : Int) (xs ys zs : List Int) (ix iy : Nat) (hz : zs.length ≤ 100) : ∀ (d j : Nat) (out : List Line) (c γ m : Nat), j + d = zs.length → d < m → out.length ≤ 10000 + j →
    ∃ c' γ' : Nat, loopA (execA Try.prog ann kn (n+50) 52) lb81_8 (some ([2, 3, 4, 6, 8, 13, 14, 15, 24, 25, 26, 35, 36, 37], [2, 3, 13, 24, 35, 47])) m ⟨c, [(2, true, .ptr 0 2 0 0), (3, true, .ptr 0 3 1 0), (4, true, pv 47 γ (out.map encL)), (6, true, i k), (8, true, i ch), (13, true, sl (xs.map encI)), (14, true, i xs.length), (15, true, i ix), (24, true, sl (ys.map encI)), (25, true, i ys.length), (26, true, i iy), (35, true, sl (zs.map encI)), (36, true, i zs.length), (37, true, i j)], ⟨[], (2, 0, .box (cellsT b)) :: (3, 1, .box (encL l)) :: pl 47 γ 96 (out.map encL)⟩⟩ =
    some (.exit 4, ⟨c', [(38, true, .bool false), (2, true, .ptr 0 2 0 0), (3, true, .ptr 0 3 1 0), (4, true, pv 47 γ' ((out ++ rd3 k ch (zs.drop j)).map encL)), (6, true, i k), (8, true, i ch), (13, true, sl (xs.map encI)), (14, true, i xs.length), (15, true, i ix), (24, true, sl (ys.map encI)), (25, true, i ys.length), (26, true, i iy), (35, true, sl (zs.map encI)), (36, true, i zs.length), (37, true, i zs.length)], ⟨[], (2, 0, .box (cellsT b)) :: (3, 1, .box (encL l)) :: pl 47 γ' 96 ((out ++ rd3 k ch (zs.drop j)).map encL)⟩⟩)
  | 0, j, out, c, γ, m + 1, hd, hm, ho => by
    have : j = zs.length := by omega
    subst this
    refine ⟨c, γ, ?_⟩
    simp [loopA_succ, rd3]
  | d + 1, j, out, c, γ, m + 1, hd, hm, ho => by
    have hj : j < zs.length := by omega
    have hw : IntKind.i64.wrap ((j : Int) + 1) = (j : Int) + 1 := wrap_i64 (by omega) (by omega)
    obtain ⟨c', γ', ih⟩ := l81c n b l k ch xs ys zs ix iy hz d (j + 1) (out ++ [⟨k, ch, zs[j]⟩]) (c + 1) c m (by omega) (by omega) (by simp; omega)
    refine ⟨c', γ', ?_⟩
    have ho' : appOK Try.prog 96 out.length [[i k, i ch, i zs[j]]] = true := by
      rw [appOK_iff (by simp) (by simp)]
      simp [maxLen]; omega
    rw [loopA_succ, List.drop_eq_getElem_cons hj]
    simp only [rd3, List.map_append, List.map_cons, List.map_nil, pl_snoc, encL, List.append_assoc, List.cons_append, List.nil_append] at ih ⊢
    simp at ih
    simp [hj, hw, encI, encL, ho', ih]
def rd2 (C : Int) (l : Line) (k : Int) (ys : List Int) : List Line := ys.flatMap fun ch => rd3 k ch (ways l.t (-1) 0 (C - 1))
theorem ways_len (sg no a b : Int) (h : b + 1 - a ≤ 4) : (ways sg no a b).length ≤ 4 := by
  unfold ways
  split
  · rw [rng_len]; omega
  · simp
theorem l81b (n : Nat) (b : Book) (l : Line) (h1 : 1 ≤ b.chairs) (h4 : b.chairs ≤ 4) (k : Int) (xs ys : List Int) (ix : Nat) (hz : ys.length ≤ 100) : ∀ (d j : Nat) (out : List Line) (c γ m : Nat), j + d = ys.length → d < m → out.length ≤ 1000 + 4 * j →
    ∃ c' γ' : Nat, loopA (execA Try.prog ann kn (n+300) 52) lb81_5 (some ([2, 3, 4, 6, 13, 14, 15, 24, 25, 26], [2, 3, 13, 24, 47])) m ⟨c, [(2, true, .ptr 0 2 0 0), (3, true, .ptr 0 3 1 0), (4, true, pv 47 γ (out.map encL)), (6, true, i k), (13, true, sl (xs.map encI)), (14, true, i xs.length), (15, true, i ix), (24, true, sl (ys.map encI)), (25, true, i ys.length), (26, true, i j)], ⟨[], (2, 0, .box (cellsT b)) :: (3, 1, .box (encL l)) :: pl 47 γ 96 (out.map encL)⟩⟩ =
    some (.exit 2, ⟨c', [(27, true, .bool false), (2, true, .ptr 0 2 0 0), (3, true, .ptr 0 3 1 0), (4, true, pv 47 γ' ((out ++ rd2 b.chairs l k (ys.drop j)).map encL)), (6, true, i k), (13, true, sl (xs.map encI)), (14, true, i xs.length), (15, true, i ix), (24, true, sl (ys.map encI)), (25, true, i ys.length), (26, true, i ys.length)], ⟨[], (2, 0, .box (cellsT b)) :: (3, 1, .box (encL l)) :: pl 47 γ' 96 ((out ++ rd2 b.chairs l k (ys.drop j)).map encL)⟩⟩)
  | 0, j, out, c, γ, m + 1, hd, hm, ho => by
    have : j = ys.length := by omega
    subst this
    refine ⟨c, γ, ?_⟩
    simp [loopA_succ, rd2]
  | d + 1, j, out, c, γ, m + 1, hd, hm, ho => by
    have hj : j < ys.length := by omega
    have hw : IntKind.i64.wrap ((j : Int) + 1) = (j : Int) + 1 := wrap_i64 (by omega) (by omega)
    have hw2 : IntKind.i64.wrap (b.chairs - 1) = b.chairs - 1 := wrap_i64 (by omega) (by omega)
    have hwl := ways_len l.t (-1) 0 (b.chairs - 1) (by omega)
    have hk := fun n => k107 n l.t (-1) 0 (b.chairs - 1) (by omega) (by omega) (by omega)
    obtain ⟨c1, γ1, q⟩ := l81c (n + 242) b l k ys[j] xs ys (ways l.t (-1) 0 (b.chairs - 1)) ix j (by omega) (ways l.t (-1) 0 (b.chairs - 1)).length 0 out c γ (n + 292) (by omega) (by omega) (by omega)
    obtain ⟨c', γ', ih⟩ := l81b n b l h1 h4 k xs ys ix hz d (j + 1) (out ++ rd3 k ys[j] (ways l.t (-1) 0 (b.chairs - 1))) c1 γ1 m (by omega) (by omega) (by simp [rd3]; omega)
    refine ⟨c', γ', ?_⟩
    rw [loopA_succ, List.drop_eq_getElem_cons hj]
    simp only [rd2, List.flatMap_cons, List.map_append, List.append_assoc, Nat.add_assoc, Nat.reduceAdd, cellsT, encL, List.drop_zero] at ih q ⊢
    simp at ih q
    simp [hj, hw, hw2, encI, hk, q, ih]

def rd1 (C : Int) (l : Line) (xs : List Int) : List Line := xs.flatMap fun k => rd2 C l k (ways l.c (-1) 0 (C - 1))
theorem rd3_len (k ch : Int) (zs : List Int) : (rd3 k ch zs).length = zs.length := by simp [rd3]
theorem rd2_len (C : Int) (l : Line) (k : Int) (hC : C ≤ 4) : ∀ (ys : List Int), (rd2 C l k ys).length ≤ 4 * ys.length
  | [] => by simp [rd2]
  | y :: ys => by
    have := rd2_len C l k hC ys
    have h2 := ways_len l.t (-1) 0 (C - 1) (by omega)
    simp only [rd2, List.flatMap_cons, List.length_append, rd3_len, List.length_cons] at this ⊢
    omega
theorem l81a (n : Nat) (b : Book) (l : Line) (h1 : 1 ≤ b.chairs) (h4 : b.chairs ≤ 4) (xs : List Int) (hz : xs.length ≤ 10) : ∀ (d j : Nat) (out : List Line) (c γ m : Nat), j + d = xs.length → d < m → out.length ≤ 16 * j →
    ∃ c' γ' : Nat, loopA (execA Try.prog ann kn (n+400) 52) lb81_2 (some ([2, 3, 4, 13, 14, 15], [2, 3, 13, 47])) m ⟨c, [(2, true, .ptr 0 2 0 0), (3, true, .ptr 0 3 1 0), (4, true, pv 47 γ (out.map encL)), (13, true, sl (xs.map encI)), (14, true, i xs.length), (15, true, i j)], ⟨[], (2, 0, .box (cellsT b)) :: (3, 1, .box (encL l)) :: pl 47 γ 96 (out.map encL)⟩⟩ =
    some (.exit 0, ⟨c', [(16, true, .bool false), (2, true, .ptr 0 2 0 0), (3, true, .ptr 0 3 1 0), (4, true, pv 47 γ' ((out ++ rd1 b.chairs l (xs.drop j)).map encL)), (13, true, sl (xs.map encI)), (14, true, i xs.length), (15, true, i xs.length)], ⟨[], (2, 0, .box (cellsT b)) :: (3, 1, .box (encL l)) :: pl 47 γ' 96 ((out ++ rd1 b.chairs l (xs.drop j)).map encL)⟩⟩)
  | 0, j, out, c, γ, m + 1, hd, hm, ho => by
    have : j = xs.length := by omega
    subst this
    refine ⟨c, γ, ?_⟩
    simp [loopA_succ, rd1]
  | d + 1, j, out, c, γ, m + 1, hd, hm, ho => by
    have hj : j < xs.length := by omega
    have hw : IntKind.i64.wrap ((j : Int) + 1) = (j : Int) + 1 := wrap_i64 (by omega) (by omega)
    have hw2 : IntKind.i64.wrap (b.chairs - 1) = b.chairs - 1 := wrap_i64 (by omega) (by omega)
    have hwl := ways_len l.c (-1) 0 (b.chairs - 1) (by omega)
    have hrl := rd2_len b.chairs l xs[j] h4 (ways l.c (-1) 0 (b.chairs - 1))
    have hk := fun n => k107 n l.c (-1) 0 (b.chairs - 1) (by omega) (by omega) (by omega)
    obtain ⟨c1, γ1, q⟩ := l81b (n + 92) b l h1 h4 xs[j] xs (ways l.c (-1) 0 (b.chairs - 1)) j (by omega) (ways l.c (-1) 0 (b.chairs - 1)).length 0 out c γ (n + 392) (by omega) (by omega) (by omega)
    obtain ⟨c', γ', ih⟩ := l81a n b l h1 h4 xs hz d (j + 1) (out ++ rd2 b.chairs l xs[j] (ways l.c (-1) 0 (b.chairs - 1))) c1 γ1 m (by omega) (by omega) (by simp; omega)
    refine ⟨c', γ', ?_⟩
    rw [loopA_succ, List.drop_eq_getElem_cons hj]
    simp only [rd1, List.flatMap_cons, List.map_append, List.append_assoc, Nat.add_assoc, Nat.reduceAdd, cellsT, encL, List.drop_zero] at ih q ⊢
    simp at ih q
    simp [hj, hw, hw2, encI, hk, q, ih]
/-- all that a line can be, as the program lists it -/
def readingsP (C : Int) (l : Line) : List Line := rd1 C l (ways l.k 0 1 2)
theorem k81 (n : Nat) (b : Book) (l : Line) (h1 : 1 ≤ b.chairs) (h4 : b.chairs ≤ 4) : callK Try.prog kn (execA Try.prog ann kn (n+500)) 81 [.agg (cellsT b), .agg (encL l)] = some (sl ((readingsP b.chairs l).map encL)) := by
  rw [callK_of rfl, call0_eq Try.func81 b81 rfl (by simp [cellsT, encL, encC])]
  have hwl := ways_len l.k 0 1 2 (by omega)
  have hk := fun n => k107 n l.k 0 1 2 (by omega) (by omega) (by omega)
  obtain ⟨c', γ', ih⟩ := l81a (n + 95) b l h1 h4 (ways l.k 0 1 2) (by omega) (ways l.k 0 1 2).length 0 [] 2 0 (n + 495) (by omega) (by omega) (by simp)
  have hcl : ((readingsP b.chairs l).map encL).all (fun e => e.all (closedV 8)) = true := by simp [encL]
  simp only [Nat.add_assoc, Nat.reduceAdd, cellsT, encL] at ih ⊢
  simp [readingsP] at ih hcl
  simp [c81, argFr, hk, ih, readingsP]
  exact hcl
end Go.Proofs.Try.Op
/- Contracts: slices.ContainsFunc, and 'all' for lines, and for counts. No condition. -/
open Go Go.Pg Go.Proofs
namespace Go.Pg
@[simp] theorem unsnoc_snoc {α : Type} (x : α) : ∀ (l : List α), unsnoc (l ++ [x]) = some (l, x)
  | [] => rfl
  | [y] => rfl
  | y :: z :: l => by
    have := unsnoc_snoc x (z :: l)
    simp only [List.cons_append] at this ⊢
    rw [unsnoc_more, this]; rfl
end Go.Pg
namespace Go.Proofs.Try.Op
@[simp] theorem whole_128 (cs : List V) : whole Try.prog 128 cs = cs[0]? := by kernel_rfl
@[simp] theorem whole_137 (cs : List V) : whole Try.prog 137 cs = cs[0]? := by kernel_rfl
set_option maxRecDepth 100000
set_option linter.unusedSimpArgs false

/-- a predicate's call, in any state over these levels -/
def PredLine (up : List Level) (K : Nat) (f : FuncId) (cap : List V) (p : Line → Bool) (xs : List Line) : Prop := ∀ n c fr x, x ∈ xs → ∃ c', c ≤ c' ∧ ca2 (envA Try.prog ann kn (n + K)) (some 16) ⟨c, fr, ⟨up, []⟩⟩ f (.agg (encL x) :: cap) = some ⟨c', (16, true, .bool (p x)) :: fr, ⟨up, []⟩⟩
theorem l106 (n K : Nat) (up : List Level) (f : FuncId) (cap : List V) (hcw : cap.map weakV = cap) (p : Line → Bool) (xs : List Line) (hp : PredLine up K f cap p xs) (hl : xs.length ≤ 1000) : ∀ (d k : Nat) (c m : Nat), k + d = xs.length → d < m →
    ∃ (c' : Nat) (j : Int), c ≤ c' ∧ 0 ≤ j ∧ loopA (execA Try.prog ann kn (n+K+50) 19) lb106_2 (some ([0, 1, 3, 7, 8], [3])) m ⟨c, [(0, true, sl (xs.map encL)), (1, true, .fn f [] cap), (7, true, i xs.length), (8, true, i k)], ⟨up, []⟩⟩ =
      bif (xs.drop k).any p then some (.ret, ⟨c', [(4, true, i j), (17, true, i j), (5, true, i j)], ⟨up, []⟩⟩)
      else some (.exit 0, ⟨c', [(9, true, .bool false), (0, true, sl (xs.map encL)), (1, true, .fn f [] cap), (7, true, i xs.length), (8, true, i xs.length)], ⟨up, []⟩⟩)
  | 0, k, c, m + 1, hd, hm => by
    have : k = xs.length := by omega
    subst this
    refine ⟨c, 0, Nat.le_refl _, by omega, ?_⟩
    simp [loopA_succ]
  | d + 1, k, c, m + 1, hd, hm => by
    have hk : k < xs.length := by omega
    have hw : IntKind.i64.wrap ((k : Int) + 1) = (k : Int) + 1 := wrap_i64 (by omega) (by omega)
    have nrm : ∀ a : Nat, n + K + a = (n + a) + K := fun a => by omega
    rw [loopA_succ, List.drop_eq_getElem_cons hk, List.any_cons]
    obtain ⟨c1, hc1, q⟩ := hp (n + 43) c [(15, true, .agg (encL xs[k])), (14, true, .ref (encL xs[k])), (13, true, i k), (12, true, sl (xs.map encL)), (11, true, .fn f [] cap), (0, true, sl (xs.map encL)), (1, true, .fn f [] cap), (5, true, i k), (7, true, i xs.length), (8, true, i k)] xs[k] (List.getElem_mem hk)
    obtain ⟨c', j, h1, h2, ih⟩ := l106 n K up f cap hcw p xs hp hl d (k + 1) c1 m (by omega) (by omega)
    generalize e : p xs[k] = b at q
    simp only [encL] at q ih
    rw [← nrm] at q
    simp at q ih
    cases b with
    | true =>
      refine ⟨c1, k, hc1, by omega, ?_⟩
      simp [hk, hw, encL, q, hcw]
    | false =>
      refine ⟨c', j, by omega, h2, ?_⟩
      simp [hk, hw, encL, q, ih, hcw]
theorem k106 (n K : Nat) (up : List Level) (f : FuncId) (cap : List V) (hcw : cap.map weakV = cap) (hco : cap.all (closedV 8) = false) (p : Line → Bool) (xs : List Line) (loc : Level) (hp : PredLine (up ++ [loc]) K f cap p xs) (hl : xs.length ≤ 40) (hsh : ∀ s : St, up.length + 1 ≤ s.up.length → (up ++ [loc]).map (shutLv s) = up ++ [loc]) (c dd : Nat) (fr : Fr) :
    ∃ (c' : Nat) (j : Int), c ≤ c' ∧ decide (0 ≤ j) = xs.any p ∧ ca2 (envA Try.prog ann kn (n+K+100)) (some dd) ⟨c, fr, ⟨up, loc⟩⟩ 106 [sl (xs.map encL), .fn f [] cap] = some ⟨c', (dd, true, i j) :: fr, ⟨up, loc⟩⟩ := by
  obtain ⟨c1, j, h1, h2, q⟩ := l106 (n + 45) K (up ++ [loc]) f cap hcw p xs hp (by omega) xs.length 0 c (n + K + 95) (by omega) (by omega)
  have e : n + 45 + K + 50 = n + K + 95 := by omega
  rw [e] at q
  have hcl : ([sl (xs.map encL), V.fn f [] cap]).all (closedV 9) = false := by simp [hco]
  have hs := hsh ⟨up ++ [loc], []⟩ (by simp)
  simp at hs
  rw [cf_open Try.func106 b106 rfl hcl]
  simp only [List.drop_zero] at q
  generalize e : xs.any p = b at q
  cases b with
  | true =>
    refine ⟨c1, j, h1, by simpa using h2, ?_⟩
    simp at q
    simp [c106, argFr, q, hs]
  | false =>
    refine ⟨c1, -1, h1, by simp, ?_⟩
    simp at q
    simp [c106, argFr, q, hs]
theorem k113 (n K : Nat) (up : List Level) (f : FuncId) (cap : List V) (hcw : cap.map weakV = cap) (hco : cap.all (closedV 8) = false) (p : Line → Bool) (xs : List Line) (loc : Level) (hp : PredLine (up ++ [loc] ++ [[]]) K f cap p xs) (hl : xs.length ≤ 40) (hsh : ∀ s : St, up.length + 1 ≤ s.up.length → (up ++ [loc]).map (shutLv s) = up ++ [loc]) (c dd : Nat) (fr : Fr) :
    ∃ c' : Nat, c ≤ c' ∧ ca2 (envA Try.prog ann kn (n+K+200)) (some dd) ⟨c, fr, ⟨up, loc⟩⟩ 113 [sl (xs.map encL), .fn f [] cap] = some ⟨c', (dd, true, .bool (xs.any p)) :: fr, ⟨up, loc⟩⟩ := by
  have hcl : ([sl (xs.map encL), V.fn f [] cap]).all (closedV 9) = false := by simp [hco]
  have hsh2 : ∀ s : St, (up ++ [loc]).length + 1 ≤ s.up.length → (up ++ [loc] ++ [[]]).map (shutLv s) = up ++ [loc] ++ [[]] := fun s h => by
    have := hsh s (by simp at h; omega)
    simp only [List.map_append, List.map_cons, List.map_nil, shutLv_nil] at this ⊢
    rw [this]
  obtain ⟨c1, j, h1, h2, q⟩ := k106 (n + 97) K (up ++ [loc]) f cap hcw hco p xs [] hp hl hsh2 c 7 [(6, true, .fn f [] cap), (5, true, sl (xs.map encL)), (0, true, sl (xs.map encL)), (1, true, .fn f [] cap)]
  refine ⟨c1, h1, ?_⟩
  have e : n + 97 + K + 100 = n + K + 197 := by omega
  rw [e] at q
  have hs := hsh ⟨up ++ [loc], []⟩ (by simp)
  simp at hs
  rw [cf_open Try.func113 b113 rfl hcl]
  simp [c113, argFr, hcw, q, h2, hs]

/-- a predicate's call, in any state over these levels -/
def PredCount (up : List Level) (K : Nat) (f : FuncId) (cap : List V) (p : Count → Bool) (xs : List Count) : Prop := ∀ n c fr x, x ∈ xs → ∃ c', c ≤ c' ∧ ca2 (envA Try.prog ann kn (n + K)) (some 16) ⟨c, fr, ⟨up, []⟩⟩ f (.agg (encC x) :: cap) = some ⟨c', (16, true, .bool (p x)) :: fr, ⟨up, []⟩⟩
theorem l121 (n K : Nat) (up : List Level) (f : FuncId) (cap : List V) (hcw : cap.map weakV = cap) (p : Count → Bool) (xs : List Count) (hp : PredCount up K f cap p xs) (hl : xs.length ≤ 1000) : ∀ (d k : Nat) (c m : Nat), k + d = xs.length → d < m →
    ∃ (c' : Nat) (j : Int), c ≤ c' ∧ 0 ≤ j ∧ loopA (execA Try.prog ann kn (n+K+50) 19) lb121_2 (some ([0, 1, 3, 7, 8], [3])) m ⟨c, [(0, true, sl (xs.map encC)), (1, true, .fn f [] cap), (7, true, i xs.length), (8, true, i k)], ⟨up, []⟩⟩ =
      bif (xs.drop k).any p then some (.ret, ⟨c', [(4, true, i j), (17, true, i j), (5, true, i j)], ⟨up, []⟩⟩)
      else some (.exit 0, ⟨c', [(9, true, .bool false), (0, true, sl (xs.map encC)), (1, true, .fn f [] cap), (7, true, i xs.length), (8, true, i xs.length)], ⟨up, []⟩⟩)
  | 0, k, c, m + 1, hd, hm => by
    have : k = xs.length := by omega
    subst this
    refine ⟨c, 0, Nat.le_refl _, by omega, ?_⟩
    simp [loopA_succ]
  | d + 1, k, c, m + 1, hd, hm => by
    have hk : k < xs.length := by omega
    have hw : IntKind.i64.wrap ((k : Int) + 1) = (k : Int) + 1 := wrap_i64 (by omega) (by omega)
    have nrm : ∀ a : Nat, n + K + a = (n + a) + K := fun a => by omega
    rw [loopA_succ, List.drop_eq_getElem_cons hk, List.any_cons]
    obtain ⟨c1, hc1, q⟩ := hp (n + 43) c [(15, true, .agg (encC xs[k])), (14, true, .ref (encC xs[k])), (13, true, i k), (12, true, sl (xs.map encC)), (11, true, .fn f [] cap), (0, true, sl (xs.map encC)), (1, true, .fn f [] cap), (5, true, i k), (7, true, i xs.length), (8, true, i k)] xs[k] (List.getElem_mem hk)
    obtain ⟨c', j, h1, h2, ih⟩ := l121 n K up f cap hcw p xs hp hl d (k + 1) c1 m (by omega) (by omega)
    generalize e : p xs[k] = b at q
    simp only [encC] at q ih
    rw [← nrm] at q
    simp at q ih
    cases b with
    | true =>
      refine ⟨c1, k, hc1, by omega, ?_⟩
      simp [hk, hw, encC, q, hcw]
    | false =>
      refine ⟨c', j, by omega, h2, ?_⟩
      simp [hk, hw, encC, q, ih, hcw]
theorem k121 (n K : Nat) (up : List Level) (f : FuncId) (cap : List V) (hcw : cap.map weakV = cap) (hco : cap.all (closedV 8) = false) (p : Count → Bool) (xs : List Count) (loc : Level) (hp : PredCount (up ++ [loc]) K f cap p xs) (hl : xs.length ≤ 40) (hsh : ∀ s : St, up.length + 1 ≤ s.up.length → (up ++ [loc]).map (shutLv s) = up ++ [loc]) (c dd : Nat) (fr : Fr) :
    ∃ (c' : Nat) (j : Int), c ≤ c' ∧ decide (0 ≤ j) = xs.any p ∧ ca2 (envA Try.prog ann kn (n+K+100)) (some dd) ⟨c, fr, ⟨up, loc⟩⟩ 121 [sl (xs.map encC), .fn f [] cap] = some ⟨c', (dd, true, i j) :: fr, ⟨up, loc⟩⟩ := by
  obtain ⟨c1, j, h1, h2, q⟩ := l121 (n + 45) K (up ++ [loc]) f cap hcw p xs hp (by omega) xs.length 0 c (n + K + 95) (by omega) (by omega)
  have e : n + 45 + K + 50 = n + K + 95 := by omega
  rw [e] at q
  have hcl : ([sl (xs.map encC), V.fn f [] cap]).all (closedV 9) = false := by simp [hco]
  have hs := hsh ⟨up ++ [loc], []⟩ (by simp)
  simp at hs
  rw [cf_open Try.func121 b121 rfl hcl]
  simp only [List.drop_zero] at q
  generalize e : xs.any p = b at q
  cases b with
  | true =>
    refine ⟨c1, j, h1, by simpa using h2, ?_⟩
    simp at q
    simp [c121, argFr, q, hs]
  | false =>
    refine ⟨c1, -1, h1, by simp, ?_⟩
    simp at q
    simp [c121, argFr, q, hs]
theorem k115 (n K : Nat) (up : List Level) (f : FuncId) (cap : List V) (hcw : cap.map weakV = cap) (hco : cap.all (closedV 8) = false) (p : Count → Bool) (xs : List Count) (loc : Level) (hp : PredCount (up ++ [loc] ++ [[]]) K f cap p xs) (hl : xs.length ≤ 40) (hsh : ∀ s : St, up.length + 1 ≤ s.up.length → (up ++ [loc]).map (shutLv s) = up ++ [loc]) (c dd : Nat) (fr : Fr) :
    ∃ c' : Nat, c ≤ c' ∧ ca2 (envA Try.prog ann kn (n+K+200)) (some dd) ⟨c, fr, ⟨up, loc⟩⟩ 115 [sl (xs.map encC), .fn f [] cap] = some ⟨c', (dd, true, .bool (xs.any p)) :: fr, ⟨up, loc⟩⟩ := by
  have hcl : ([sl (xs.map encC), V.fn f [] cap]).all (closedV 9) = false := by simp [hco]
  have hsh2 : ∀ s : St, (up ++ [loc]).length + 1 ≤ s.up.length → (up ++ [loc] ++ [[]]).map (shutLv s) = up ++ [loc] ++ [[]] := fun s h => by
    have := hsh s (by simp at h; omega)
    simp only [List.map_append, List.map_cons, List.map_nil, shutLv_nil] at this ⊢
    rw [this]
  obtain ⟨c1, j, h1, h2, q⟩ := k121 (n + 97) K (up ++ [loc]) f cap hcw hco p xs [] hp hl hsh2 c 7 [(6, true, .fn f [] cap), (5, true, sl (xs.map encC)), (0, true, sl (xs.map encC)), (1, true, .fn f [] cap)]
  refine ⟨c1, h1, ?_⟩
  have e : n + 97 + K + 100 = n + K + 197 := by omega
  rw [e] at q
  have hs := hsh ⟨up ++ [loc], []⟩ (by simp)
  simp at hs
  rw [cf_open Try.func115 b115 rfl hcl]
  simp [c115, argFr, hcw, q, h2, hs]
theorem dec_not {p q : Prop} [Decidable p] [Decidable q] (h : p ↔ ¬ q) : decide p = !decide q := by
  by_cases hq : q <;> simp [hq, h]
theorem k117 (n : Nat) (a b : Int) : callK Try.prog kn (execA Try.prog ann kn (n+100)) 117 [.list false [[i a], [i b]]] = some (i (if b < a then b else a)) := by
  rw [callK_of rfl, call0_eq Try.func117 b117 rfl (by simp)]
  simp [c117, argFr, loopA_succ]
theorem k98 (n : Nat) (a b : Int) : callK Try.prog kn (execA Try.prog ann kn (n+200)) 98 [.list false [[i a], [i b]]] = some (i (if b < a then b else a)) := by
  rw [callK_of rfl, call0_eq Try.func98 b98 rfl (by simp)]
  simp [c98, argFr, k117]
theorem k94 (n : Nat) (b : Book) (l : Line) (h1 : 1 ≤ b.chairs) (h4 : b.chairs ≤ 4) : callK Try.prog kn (execA Try.prog ann kn (n+200)) 94 [.agg (cellsT b), .agg (encL l)] = some (.bool (lineOk b.chairs l)) := by
  rw [callK_of rfl, call0_eq Try.func94 b94 rfl (by simp [cellsT, encL, encC])]
  have hw2 : IntKind.i64.wrap (b.chairs - 1) = b.chairs - 1 := wrap_i64 (by omega) (by omega)
  unfold lineOk
  generalize e1 : inB l.k 0 2 = b1
  generalize e2 : inB l.c (-1) (b.chairs - 1) = b2
  generalize e3 : inB l.t (-1) (b.chairs - 1) = b3
  simp [c94, argFr, cellsT, encL, e1, e2, e3, hw2]
  cases b1 <;> (try simp [e2, e3, hw2]) <;> cases b2 <;> (try simp [e3, hw2]) <;> cases b3 <;> (try simp)
theorem k112 (n : Nat) (lo hi x : Int) : callK Try.prog kn (execA Try.prog ann kn (n+200)) 112 [.agg [i lo, i hi], i x] = some (.bool (inB x lo hi)) := by
  rw [callK_of rfl, call0_eq Try.func112 b112 rfl (by simp)]
  simp [c112, argFr]
theorem k95 (n : Nat) (b : Book) (x : Count) : callK Try.prog kn (execA Try.prog ann kn (n+200)) 95 [.agg (cellsT b), .agg (encC x)] = some (.bool (countOk b.lines.length x)) := by
  rw [callK_of rfl, call0_eq Try.func95 b95 rfl (by simp [cellsT, encL, encC])]
  unfold countOk
  generalize e1 : inB x.a 0 b.lines.length = b1
  generalize e2 : decide (x.lo < 0) = b2
  generalize e3 : decide (x.hi < x.lo) = b3
  generalize e4 : decide (2000 < x.hi) = b4
  have e2' : decide (0 ≤ x.lo) = !b2 := by rw [← e2]; exact dec_not (by omega)
  have e3' : decide (x.lo ≤ x.hi) = !b3 := by rw [← e3]; exact dec_not (by omega)
  have e4' : decide (x.hi ≤ 2000) = !b4 := by rw [← e4]; exact dec_not (by omega)
  simp [c95, argFr, cellsT, encC, e1, e2', e3', e4']
  cases b1 <;> (try simp [e2', e3', e4']) <;> cases b2 <;> (try simp [e3', e4']) <;> cases b3 <;> (try simp [e4'])

theorem any_not {α : Type} (p : α → Bool) : ∀ (l : List α), (!l.any fun x => !p x) = l.all p
  | [] => rfl
  | x :: l => by
    have := any_not p l
    simp only [List.any_cons, List.all_cons, Bool.not_or, Bool.not_not, ← this]
theorem k96 (n : Nat) (b : Book) (xs : List Line) (h1 : 1 ≤ b.chairs) (h4 : b.chairs ≤ 4) (hl : xs.length ≤ 40) : callK Try.prog kn (execA Try.prog ann kn (n+600)) 96 [sl (xs.map encL), .fn 94 [.agg (cellsT b)] []] = some (.bool (xs.all (lineOk b.chairs))) := by
  rw [callK_of rfl, call0_eq Try.func96 b96 rfl (by simp [cellsT, encL, encC])]
  have hp : PredLine ([] ++ [[(3, 0, Res.box [V.fn 94 [V.agg (cellsT b)] []])]] ++ [[]]) 300 114 [.ptr 0 3 0 0] (fun x => !lineOk b.chairs x) xs := by
    intro n c fr x hx
    refine ⟨c + 1, by omega, ?_⟩
    have hk := fun n => k94 n b x h1 h4
    simp only [cellsT, encL] at hk ⊢
    rw [List.nil_append, cf_open Try.func114 b114 rfl (by simp)]
    simp [c114, argFr, hk, encL, encC]
  obtain ⟨c', q1, q2⟩ := k113 (n + 97) 300 [] 114 [.ptr 0 3 0 0] (by simp) (by simp) (fun x => !lineOk b.chairs x) xs [(3, 0, .box [.fn 94 [.agg (cellsT b)] []])] hp hl (by simp [cellsT]) 1 7 [(6, true, .fn 114 [] [.ptr 0 3 0 0]), (5, true, sl (xs.map encL)), (0, true, sl (xs.map encL)), (1, true, .fn 94 [.agg (cellsT b)] []), (3, true, .ptr 0 3 0 0)]
  have := any_not (lineOk b.chairs) xs
  simp only [cellsT, Nat.add_assoc, Nat.reduceAdd] at q2 ⊢
  simp [c96, argFr, q2]
  rw [← this, Bool.not_not]
theorem k97 (n : Nat) (b : Book) (xs : List Count) (hl : xs.length ≤ 40) : callK Try.prog kn (execA Try.prog ann kn (n+600)) 97 [sl (xs.map encC), .fn 95 [.agg (cellsT b)] []] = some (.bool (xs.all (countOk b.lines.length))) := by
  rw [callK_of rfl, call0_eq Try.func97 b97 rfl (by simp [cellsT, encL, encC])]
  have hp : PredCount ([] ++ [[(3, 0, Res.box [V.fn 95 [V.agg (cellsT b)] []])]] ++ [[]]) 300 116 [.ptr 0 3 0 0] (fun x => !countOk b.lines.length x) xs := by
    intro n c fr x hx
    refine ⟨c + 1, by omega, ?_⟩
    have hk := fun n => k95 n b x
    simp only [cellsT, encC] at hk ⊢
    rw [List.nil_append, cf_open Try.func116 b116 rfl (by simp)]
    simp [c116, argFr, hk, encL, encC]
  obtain ⟨c', q1, q2⟩ := k115 (n + 97) 300 [] 116 [.ptr 0 3 0 0] (by simp) (by simp) (fun x => !countOk b.lines.length x) xs [(3, 0, .box [.fn 95 [.agg (cellsT b)] []])] hp hl (by simp [cellsT]) 1 7 [(6, true, .fn 116 [] [.ptr 0 3 0 0]), (5, true, sl (xs.map encC)), (0, true, sl (xs.map encC)), (1, true, .fn 95 [.agg (cellsT b)] []), (3, true, .ptr 0 3 0 0)]
  have := any_not (countOk b.lines.length) xs
  simp only [cellsT, Nat.add_assoc, Nat.reduceAdd] at q2 ⊢
  simp [c97, argFr, q2]
  rw [← this, Bool.not_not]
end Go.Proofs.Try.Op
/- Contracts: CheckBook. No condition. -/
open Go Go.Pg Go.Proofs
namespace Go.Proofs.Try.Op
set_option maxRecDepth 100000
set_option linter.unusedSimpArgs false
theorem readingsP_len (C : Int) (l : Line) (h : C ≤ 4) : (readingsP C l).length ≤ 32 := by
  have h2 := fun k => rd2_len C l k h (ways l.c (-1) 0 (C - 1))
  have h3 := ways_len l.c (-1) 0 (C - 1) (by omega)
  have e : ways l.k 0 1 2 = [1, 2] ∨ ways l.k 0 1 2 = [l.k] := by
    unfold ways
    split
    · exact .inl rfl
    · exact .inr rfl
  unfold readingsP rd1
  rcases e with e | e <;> rw [e] <;> simp only [List.flatMap_cons, List.flatMap_nil, List.length_append, List.length_nil]
  · have := h2 1; have := h2 2; omega
  · have := h2 l.k; omega
def min4 (v : Int) : Int := if 4097 < v then 4097 else v
def manyP (C : Int) (n : Int) (ls : List Line) : Int := ls.foldl (fun n l => min4 (n * (readingsP C l).length)) n
def checkP (b : Book) : Int :=
  if (decide (8 < b.lines.length) || decide (4 < b.counts.length)) = true then 3
  else if (inB b.chairs 1 4 && (inB b.coin 1 99 && inB b.box 0 999)) = false then 1
  else if b.lines.all (lineOk b.chairs) = false then 1
  else if b.counts.all (countOk b.lines.length) = false then 1
  else if 4096 < manyP b.chairs 1 b.lines then 3 else 0
theorem l55 (n : Nat) (b : Book) (h1 : 1 ≤ b.chairs) (h4 : b.chairs ≤ 4) : ∀ (d k : Nat) (v : Int) (c m : Nat), k + d = b.lines.length → d < m → 0 ≤ v → v ≤ 4097 → b.lines.length ≤ 8 → 1 ≤ c →
    ∃ c' : Nat, loopA (execA Try.prog ann kn (n+550) 72) lb55_8 (some ([1, 5, 55, 56, 57], [1, 64])) m ⟨c, [(1, true, .ptr 0 1 0 0), (5, true, i v), (55, true, sl (b.lines.map encL)), (56, true, i b.lines.length), (57, true, i k)], ⟨[], [(1, 0, .box (cellsT b))]⟩⟩ =
    some (.exit 1, ⟨c', [(58, true, .bool false), (1, true, .ptr 0 1 0 0), (5, true, i (manyP b.chairs v (b.lines.drop k))), (55, true, sl (b.lines.map encL)), (56, true, i b.lines.length), (57, true, i b.lines.length)], ⟨[], [(1, 0, .box (cellsT b))]⟩⟩)
  | 0, k, v, c, m + 1, hd, hm, hv, hv2, hl, hc => by
    have : k = b.lines.length := by omega
    subst this
    refine ⟨c, ?_⟩
    simp [loopA_succ, cellsT, manyP]
  | d + 1, k, v, c, m + 1, hd, hm, hv, hv2, hl, hc => by
    have hk : k < b.lines.length := by omega
    have hr := readingsP_len b.chairs b.lines[k] h4
    have hq := mul_range hv (by omega) hr
    have hw : IntKind.i64.wrap ((k : Int) + 1) = (k : Int) + 1 := wrap_i64 (by omega) (by omega)
    have hw2 : IntKind.i64.wrap (v * ((readingsP b.chairs b.lines[k]).length : Int)) = v * ((readingsP b.chairs b.lines[k]).length : Int) := wrap_i64 (by omega) (by omega)
    have h5 : 0 ≤ min4 (v * ((readingsP b.chairs b.lines[k]).length : Int)) ∧ min4 (v * ((readingsP b.chairs b.lines[k]).length : Int)) ≤ 4097 := by unfold min4; split <;> omega
    obtain ⟨c', ih⟩ := l55 n b h1 h4 d (k + 1) (min4 (v * ((readingsP b.chairs b.lines[k]).length : Int))) (c + 1) m (by omega) (by omega) h5.1 h5.2 hl (by omega)
    have hc8 := fun n => k81 n b b.lines[k] h1 h4
    have hc9 := fun n => k98 n (v * ((readingsP b.chairs b.lines[k]).length : Int)) 4097
    refine ⟨c', ?_⟩
    rw [loopA_succ]
    simp only [cellsT, encL, List.drop_eq_getElem_cons hk, manyP, List.foldl_cons, min4] at ih hc8 ⊢
    simp at ih
    simp [hk, hw, hw2, encL, hc8, hc9, encC, ih]
theorem k55 (n : Nat) (b : Book) : callK Try.prog kn (execA Try.prog ann kn (n+800)) 55 [.agg (cellsT b)] = some (i (checkP b)) := by
  rw [callK_of rfl, call0_eq Try.func55 b55 rfl (by simp [cellsT, encL, encC])]
  unfold checkP
  generalize e1 : decide (8 < b.lines.length) = b1
  have e1' : decide ((8 : Int) < (b.lines.length : Int)) = b1 := by rw [← e1]; congr 1; apply propext; omega
  generalize e2 : decide (4 < b.counts.length) = b2
  have e2' : decide ((4 : Int) < (b.counts.length : Int)) = b2 := by rw [← e2]; congr 1; apply propext; omega
  generalize e3 : inB b.chairs 1 4 = b3
  generalize e4 : inB b.coin 1 99 = b4
  generalize e5 : inB b.box 0 999 = b5
  cases b1
  · cases b2
    · cases b3
      · simp [c55, argFr, cellsT, e1', e2', e3]
      · cases b4
        · simp [c55, argFr, cellsT, e1', e2', e3, e4]
        · cases b5
          · simp [c55, argFr, cellsT, e1', e2', e3, e4, e5]
          · have h14 : 1 ≤ b.chairs ∧ b.chairs ≤ 4 := by simpa [inB] using e3
            have hl : b.lines.length ≤ 8 := by simpa using e1
            have hc : b.counts.length ≤ 4 := by simpa using e2
            have q96 := fun n => k96 n b b.lines h14.1 h14.2 (by omega)
            have q97 := fun n => k97 n b b.counts (by omega)
            obtain ⟨c1, q1⟩ := l55 (n + 242) b h14.1 h14.2 b.lines.length 0 1 1 (n + 792) (by omega) (by omega) (by omega) (by omega) hl (by omega)
            generalize e6 : b.lines.all (lineOk b.chairs) = b6 at q96
            generalize e7 : b.counts.all (countOk b.lines.length) = b7 at q97
            generalize e8 : decide (4096 < manyP b.chairs 1 b.lines) = b8
            have e8' : (4096 < manyP b.chairs 1 b.lines) = (b8 = true) := by rw [← e8]; simp
            simp only [List.drop_zero, e6, e7, e8', cellsT, Nat.add_assoc, Nat.reduceAdd, Int.natCast_zero] at q1 q96 q97 ⊢
            cases b6
            · simp [c55, argFr, cellsT, e1', e2', e3, e4, e5, q96, encL, encC]
            · cases b7
              · simp [c55, argFr, cellsT, e1', e2', e3, e4, e5, q96, q97, encL, encC]
              · simp [c55, argFr, cellsT, e1', e2', e3, e4, e5, q96, q97, encL, encC]
                simp [q1, e8]
                cases b8 <;> simp
    · simp [c55, argFr, cellsT, e1', e2']
  · simp [c55, argFr, cellsT, e1']
end Go.Proofs.Try.Op
