/- Contracts: begin, next. No condition. -/
import Derived.Test.YtfbbnkaahnpicaaW2
import Derived.Test.YtfbbnkaahnpicaaFy
open Go Go.Pg Go.Proofs
namespace Go.Proofs.Try.Op
set_option maxRecDepth 100000
set_option linter.unusedSimpArgs false
structure Scene where
  ch : List Int
  tk : List Int
  money : Int
  mixed : Int
def cellsS (s : Scene) : List V := s.ch.map i ++ (s.tk.map i ++ [i s.money, i s.mixed])
def beginB (b : Book) : Scene := ⟨[0, 0, 0, 0], [0, 0, 0, 0], b.box, 0⟩
theorem k105 (n : Nat) (b : Book) : callK Try.prog kn (execA Try.prog ann kn (n+100)) 105 [.agg (cellsT b)] = some (.agg (cellsS (beginB b))) := by
  rw [callK_of rfl, call0_eq Try.func105 b105 rfl (by simp [cellsT, encL, encC])]
  simp [c105, argFr, cellsT, cellsS, beginB]
def nextB (coin : Int) (s : Scene) (k : Int) (l : Line) : Scene × Bool :=
  let out := decide (l.k = 2)
  let c := s.ch.getD l.c.toNat 0
  let t := s.tk.getD l.t.toNat 0
  if ((!decide (c = 0)) != out || (!decide (t = 0)) != out) = true then (s, false)
  else if out = true then (⟨s.ch.set l.c.toNat 0, s.tk.set l.t.toNat 0, s.money - coin, if decide (c = t) = true then s.mixed else s.mixed + 1⟩, true)
  else (⟨s.ch.set l.c.toNat (k + 1), s.tk.set l.t.toNat (k + 1), s.money + coin, s.mixed⟩, true)
structure Scene.ok (s : Scene) : Prop where
  ch : s.ch.length = 4
  tk : s.tk.length = 4
theorem four {l : List Int} (h : l.length = 4) : ∃ a b c d, l = [a, b, c, d] := by
  match l, h with
  | [a, b, c, d], _ => exact ⟨a, b, c, d, rfl⟩
set_option maxHeartbeats 1000000 in
theorem k104 (n : Nat) (b : Book) (s : Scene) (k : Int) (l : Line) (hs : s.ok) (hc0 : 0 ≤ l.c) (hc : l.c < 4) (ht0 : 0 ≤ l.t) (ht : l.t < 4) (hk0 : 0 ≤ k) (hk : k ≤ 1000) (hm0 : -100000 ≤ s.money) (hm : s.money ≤ 100000) (hx0 : 0 ≤ s.mixed) (hx : s.mixed ≤ 1000) (hco0 : -1000 ≤ b.coin) (hco : b.coin ≤ 1000) :
    callK Try.prog kn (execA Try.prog ann kn (n+100)) 104 [.agg (cellsT b), .agg (cellsS s), i k, .agg (encL l)] = some (.tup [.agg (cellsS (nextB b.coin s k l).1), .bool (nextB b.coin s k l).2]) := by
  obtain ⟨ch, tk, money, mixed⟩ := s
  obtain ⟨lk, lc, lt⟩ := l
  obtain ⟨a0, a1, a2, a3, rfl⟩ := four hs.ch
  obtain ⟨b0, b1, b2, b3, rfl⟩ := four hs.tk
  simp only at *
  rw [callK_of rfl, call0_eq Try.func104 b104 rfl (by simp [cellsT, encL, encC, cellsS])]
  have w1 : IntKind.i64.wrap (k + 1) = k + 1 := wrap_i64 (by omega) (by omega)
  have w2 : IntKind.i64.wrap (money + b.coin) = money + b.coin := wrap_i64 (by omega) (by omega)
  have w3 : IntKind.i64.wrap (money - b.coin) = money - b.coin := wrap_i64 (by omega) (by omega)
  have w4 : IntKind.i64.wrap (mixed + 1) = mixed + 1 := wrap_i64 (by omega) (by omega)
  have hc4 : lc = 0 ∨ lc = 1 ∨ lc = 2 ∨ lc = 3 := by omega
  have ht4 : lt = 0 ∨ lt = 1 ∨ lt = 2 ∨ lt = 3 := by omega
  unfold nextB
  generalize e1 : decide (lk = 2) = q1
  generalize e2 : decide (List.getD [a0, a1, a2, a3] lc.toNat 0 = 0) = q2
  generalize e3 : decide (List.getD [b0, b1, b2, b3] lt.toNat 0 = 0) = q3
  generalize e4 : decide (List.getD [a0, a1, a2, a3] lc.toNat 0 = List.getD [b0, b1, b2, b3] lt.toNat 0) = q4
  rcases hc4 with rfl | rfl | rfl | rfl <;> rcases ht4 with rfl | rfl | rfl | rfl
  all_goals
    simp only [Int.reduceToNat, List.getD_cons_succ, List.getD_cons_zero, Int.toNat_zero] at e2 e3 e4
    simp [c104, argFr, cellsT, cellsS, encL, e1, e2]
    cases q1 <;> cases q2 <;> (try simp [e3]) <;> cases q3 <;> (try simp [e4, w1, w2, w3, w4]) <;> cases q4 <;> (try simp [w1, w2, w3, w4]) <;> (try (simp only [decide_eq_true_eq, decide_eq_false_iff_not] at e4)) <;> (try simp [e4])

end Go.Proofs.Try.Op
/- Contracts: Index, Contains, agrees. No condition. -/
open Go Go.Pg Go.Proofs
namespace Go.Proofs.Try.Op
set_option maxRecDepth 100000
set_option linter.unusedSimpArgs false
/-- the numbers of a line that came from memory -/
def okI (n : Int) : Prop := -9223372036854775808 ≤ n ∧ n < 9223372036854775808
def okL (l : Line) : Prop := okI l.k ∧ okI l.c ∧ okI l.t
theorem wfI {n : Int} (h : okI n) : (Lit.int .i64 n).wf = true := by
  obtain ⟨h1, h2⟩ := h
  simp only [Lit.wf, Bool.and_eq_true, decide_eq_true_eq]
  exact ⟨h1, by have : IntKind.i64.max = 9223372036854775807 := rfl
                omega⟩
theorem eq_96 (l x : Line) (hl : okL l) (hx : okL x) : evEq Try.prog 96 (encL l) (encL x) = some (decide (l.k = x.k) && (decide (l.c = x.c) && decide (l.t = x.t))) := by
  have a1 := wfI hl.1
  have a2 := wfI hl.2.1
  have a3 := wfI hl.2.2
  have b1 := wfI hx.1
  have b2 := wfI hx.2.1
  have b3 := wfI hx.2.2
  have k3 : ∀ n : Int, (Lit.int .i64 n).wf = true → Program.keyLits Try.prog 15 3 [.int .i64 n] = some [.int .i64 n] := fun n h => by
    unfold Program.keyLits
    simp [Try.underlying3, h]
  have kl : ∀ l : Line, okL l → Program.keyLits Try.prog 16 96 [.int .i64 l.k, .int .i64 l.c, .int .i64 l.t] = some [.int .i64 l.k, .int .i64 l.c, .int .i64 l.t] := fun l hl => by
    unfold Program.keyLits
    simp [Try.underlying96, k3 _ (wfI hl.1), k3 _ (wfI hl.2.1), k3 _ (wfI hl.2.2)]
  have kt : (aggT Try.prog 96 && Program.keyTypeAt Try.prog 16 96 && !(Try.prog.eqGuardType Try.prog.depth 96)) = true := by kernel_rfl
  unfold evEq
  simp [encL, plainC, kl _ hl, kl _ hx]
  refine ⟨⟨by simpa using kt, by simp [flatLits]⟩, ?_⟩
  simp only [eqLits, Bool.and_true]
  congr 1

def eqL (l x : Line) : Bool := decide (l.k = x.k) && (decide (l.c = x.c) && decide (l.t = x.t))
theorem l122 (n : Nat) (l : Line) (hl : okL l) (xs : List Line) (hx : ∀ x ∈ xs, okL x) (hlen : xs.length ≤ 1000) : ∀ (d k : Nat) (c m : Nat), k + d = xs.length → d < m →
    ∃ (j : Int), 0 ≤ j ∧ loopA (execA Try.prog ann kn (n+50) 19) lb122_2 (some ([0, 1, 3, 7, 8], [3])) m ⟨c, [(0, true, sl (xs.map encL)), (1, true, .agg (encL l)), (3, true, .ptr 0 3 0 0), (7, true, i xs.length), (8, true, i k)], ⟨[], [(3, 0, .box (encL l))]⟩⟩ =
      bif (xs.drop k).any (eqL l) then some (.ret, ⟨c, [(4, true, i j), (17, true, i j), (5, true, i j)], ⟨[], []⟩⟩)
      else some (.exit 0, ⟨c, [(9, true, .bool false), (0, true, sl (xs.map encL)), (1, true, .agg (encL l)), (3, true, .ptr 0 3 0 0), (7, true, i xs.length), (8, true, i xs.length)], ⟨[], [(3, 0, .box (encL l))]⟩⟩)
  | 0, k, c, m + 1, hd, hm => by
    have : k = xs.length := by omega
    subst this
    refine ⟨0, by omega, ?_⟩
    simp [loopA_succ, encL]
  | d + 1, k, c, m + 1, hd, hm => by
    have hk : k < xs.length := by omega
    have hw : IntKind.i64.wrap ((k : Int) + 1) = (k : Int) + 1 := wrap_i64 (by omega) (by omega)
    obtain ⟨j, h2, ih⟩ := l122 n l hl xs hx hlen d (k + 1) c m (by omega) (by omega)
    have he := eq_96 l xs[k] hl (hx _ (List.getElem_mem hk))
    rw [loopA_succ, List.drop_eq_getElem_cons hk, List.any_cons]
    have hq : eqL l xs[k] = (decide (l.k = xs[k].k) && (decide (l.c = xs[k].c) && decide (l.t = xs[k].t))) := rfl
    rw [← hq] at he
    generalize eqL l xs[k] = b at he
    simp only [encL] at he ih ⊢
    simp at ih
    cases b with
    | true =>
      refine ⟨k, by omega, ?_⟩
      simp [hk, hw, encL, he]
    | false =>
      refine ⟨j, h2, ?_⟩
      simp [hk, hw, encL, he, ih]
theorem k122 (n : Nat) (l : Line) (hl : okL l) (xs : List Line) (hx : ∀ x ∈ xs, okL x) (hlen : xs.length ≤ 90) : ∃ j : Int, decide (0 ≤ j) = xs.any (eqL l) ∧ callK Try.prog kn (execA Try.prog ann kn (n+100)) 122 [sl (xs.map encL), .agg (encL l)] = some (i j) := by
  obtain ⟨j, h1, q⟩ := l122 (n + 45) l hl xs hx (by omega) xs.length 0 1 (n + 95) (by omega) (by omega)
  rw [callK_of rfl, call0_eq Try.func122 b122 rfl (by simp [encL])]
  simp only [List.drop_zero, encL, Nat.add_assoc, Nat.reduceAdd] at q ⊢
  generalize xs.any (eqL l) = b at q
  cases b with
  | true =>
    refine ⟨j, by simpa using h1, ?_⟩
    simp at q
    simp [c122, argFr, q]
  | false =>
    refine ⟨-1, by simp, ?_⟩
    simp at q
    simp [c122, argFr, q]
theorem k120 (n : Nat) (l : Line) (hl : okL l) (xs : List Line) (hx : ∀ x ∈ xs, okL x) (hlen : xs.length ≤ 90) : callK Try.prog kn (execA Try.prog ann kn (n+200)) 120 [sl (xs.map encL), .agg (encL l)] = some (.bool (xs.any (eqL l))) := by
  obtain ⟨j, h1, q⟩ := k122 (n + 97) l hl xs hx hlen
  rw [callK_of rfl, call0_eq Try.func120 b120 rfl (by simp [encL])]
  simp only [encL, Nat.add_assoc, Nat.reduceAdd] at q ⊢
  simp [c120, argFr, q, h1, encL]
theorem okI_of {n : Int} (h : -1000 ≤ n) (h2 : n ≤ 1000) : okI n := ⟨by omega, by omega⟩
theorem rng_mem {a x : Int} : ∀ {d : Nat}, x ∈ rng a d → a ≤ x ∧ x < a + d
  | 0, h => by cases h
  | d + 1, h => by
    rcases List.mem_cons.1 h with rfl | h
    · omega
    · have := rng_mem h; omega
theorem ways_mem {sg no a b x : Int} (h : x ∈ ways sg no a b) : (sg = no ∧ a ≤ x ∧ x ≤ b) ∨ (sg ≠ no ∧ x = sg) := by
  unfold ways at h
  split at h
  · rename_i e
    have := rng_mem h
    exact .inl ⟨e, by omega, by omega⟩
  · rename_i e
    exact .inr ⟨e, by simpa using h⟩
theorem readingsP_mem {C : Int} {l x : Line} (h : x ∈ readingsP C l) : x.k ∈ ways l.k 0 1 2 ∧ x.c ∈ ways l.c (-1) 0 (C - 1) ∧ x.t ∈ ways l.t (-1) 0 (C - 1) := by
  unfold readingsP rd1 rd2 rd3 at h
  simp only [List.mem_flatMap, List.mem_map] at h
  obtain ⟨k, h1, c, h2, t, h3, rfl⟩ := h
  exact ⟨h1, h2, h3⟩
/-- a line's signs as a valid book has them -/
def valL (C : Int) (l : Line) : Prop := lineOk C l = true
theorem valL_spec {C : Int} {l : Line} (h : lineOk C l = true) : (0 ≤ l.k ∧ l.k ≤ 2) ∧ (-1 ≤ l.c ∧ l.c ≤ C - 1) ∧ (-1 ≤ l.t ∧ l.t ≤ C - 1) := by
  simp only [lineOk, inB, Bool.and_eq_true, decide_eq_true_eq] at h
  exact ⟨h.1, h.2.1, h.2.2⟩
theorem readingsP_ok {C : Int} (hC : C ≤ 4) {l x : Line} (hl : lineOk C l = true) (h : x ∈ readingsP C l) : (1 ≤ x.k ∧ x.k ≤ 2) ∧ (0 ≤ x.c ∧ x.c ≤ C - 1) ∧ (0 ≤ x.t ∧ x.t ≤ C - 1) := by
  obtain ⟨v1, v2, v3⟩ := valL_spec hl
  obtain ⟨h1, h2, h3⟩ := readingsP_mem h
  have h1 := ways_mem h1
  have h2 := ways_mem h2
  have h3 := ways_mem h3
  omega
def agreesP (C : Int) (l x : Line) : Bool := (readingsP C l).any (eqL x)
theorem k110 (n : Nat) (b : Book) (l x : Line) (h1 : 1 ≤ b.chairs) (h4 : b.chairs ≤ 4) (hl : lineOk b.chairs l = true) (hx : okL x) : callK Try.prog kn (execA Try.prog ann kn (n+600)) 110 [.agg (cellsT b), .agg (encL l), .agg (encL x)] = some (.bool (agreesP b.chairs l x)) := by
  have q1 := fun n => k81 n b l h1 h4
  have q2 := fun n => k120 n x hx (readingsP b.chairs l) (fun y hy => by
    obtain ⟨a1, a2, a3⟩ := readingsP_ok h4 hl hy
    exact ⟨okI_of (by omega) (by omega), okI_of (by omega) (by omega), okI_of (by omega) (by omega)⟩) (by have := readingsP_len b.chairs l h4; omega)
  rw [callK_of rfl, call0_eq Try.func110 b110 rfl (by simp [cellsT, encL, encC])]
  simp only [cellsT, encL] at q1 q2 ⊢
  simp [c110, argFr, q1, q2, encL, encC, agreesP]
end Go.Proofs.Try.Op
/- Contracts: counted. No condition. -/
open Go Go.Pg Go.Proofs
namespace Go.Proofs.Try.Op
set_option maxRecDepth 100000
set_option linter.unusedSimpArgs false
def countOne (money k : Int) (x : Count) : Bool := !decide (x.a = k) || inB money x.lo x.hi
theorem k93 (n : Nat) (b : Book) (s : Scene) (k : Int) (hs : s.ok) (hl : b.counts.length ≤ 40) : callK Try.prog kn (execA Try.prog ann kn (n+900)) 93 [.agg (cellsT b), .agg (cellsS s), i k] = some (.bool (b.counts.all (countOne s.money k))) := by
  obtain ⟨ch, tk, money, mixed⟩ := s
  obtain ⟨a0, a1, a2, a3, rfl⟩ := four hs.ch
  obtain ⟨b0, b1, b2, b3, rfl⟩ := four hs.tk
  simp only at *
  rw [callK_of rfl, call0_eq Try.func93 b93 rfl (by simp [cellsT, encL, encC, cellsS])]
  have hp : PredCount ([[(3, 0, Res.box (cellsT b)), (4, 1, .box (cellsS ⟨[a0, a1, a2, a3], [b0, b1, b2, b3], money, mixed⟩)), (5, 2, .box [i k])]] ++ [[(3, 3, Res.box [V.fn 111 [] [.ptr 0 5 2 0, .ptr 0 4 1 0]])]] ++ [[]]) 500 116 [.ptr 1 3 3 0] (fun x => !countOne money k x) b.counts := by
    intro n c fr x hx
    refine ⟨c + 2, by omega, ?_⟩
    have hk := fun n => k112 n x.lo x.hi money
    unfold countOne
    generalize e1 : decide (x.a = k) = q1
    simp only [cellsT, encC, cellsS] at hk ⊢
    rw [cf_open Try.func116 b116 rfl (by simp)]
    simp [c116, argFr]
    rw [cf_open Try.func111 b111 rfl (by simp)]
    simp [c111, argFr, e1]
    cases q1 <;> simp [hk]
  have hsh : ∀ t : St, [[(3, 0, Res.box (cellsT b)), (4, 1, .box (cellsS ⟨[a0, a1, a2, a3], [b0, b1, b2, b3], money, mixed⟩)), (5, 2, .box [i k])]].length + 1 ≤ t.up.length → ([[(3, 0, Res.box (cellsT b)), (4, 1, .box (cellsS ⟨[a0, a1, a2, a3], [b0, b1, b2, b3], money, mixed⟩)), (5, 2, .box [i k])]] ++ [[(3, 3, Res.box [V.fn 111 [] [.ptr 0 5 2 0, .ptr 0 4 1 0]])]]).map (shutLv t) = [[(3, 0, Res.box (cellsT b)), (4, 1, .box (cellsS ⟨[a0, a1, a2, a3], [b0, b1, b2, b3], money, mixed⟩)), (5, 2, .box [i k])]] ++ [[(3, 3, Res.box [V.fn 111 [] [.ptr 0 5 2 0, .ptr 0 4 1 0]])]] := by
    intro t ht
    obtain ⟨up, loc⟩ := t
    have h0 : ¬ 0 = up.length := by simp at ht; omega
    simp [cellsT, cellsS, h0]
  obtain ⟨c', q1, q2⟩ := k115 (n + 194) 500 [[(3, 0, .box (cellsT b)), (4, 1, .box (cellsS ⟨[a0, a1, a2, a3], [b0, b1, b2, b3], money, mixed⟩)), (5, 2, .box [i k])]] 116 [.ptr 1 3 3 0] (by simp) (by simp) (fun x => !countOne money k x) b.counts [(3, 3, .box [.fn 111 [] [.ptr 0 5 2 0, .ptr 0 4 1 0]])] hp hl hsh 4 7 [(6, true, .fn 116 [] [.ptr 1 3 3 0]), (5, true, sl (b.counts.map encC)), (0, true, sl (b.counts.map encC)), (1, true, .fn 111 [] [.ptr 0 5 2 0, .ptr 0 4 1 0]), (3, true, .ptr 1 3 3 0)]
  have ha := any_not (countOne money k) b.counts
  simp only [cellsT, cellsS, Nat.add_assoc, Nat.reduceAdd] at q2 ⊢
  simp at q2
  simp [c93, argFr]
  rw [cf_open Try.func97 b97 rfl (by simp)]
  simp [c97, argFr, q2]
  rw [← ha, Bool.not_not]
end Go.Proofs.Try.Op
