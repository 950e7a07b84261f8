/- Contracts: scenes. No condition. -/
import Derived.Test.YtfbbnkaahnpicaaW3
import Derived.Test.YtfbbnkaahnpicaaFy
open Go Go.Pg Go.Proofs
namespace Go.Pg
/-- a row that begins with one element -/
def tv (k γ : Nat) (e0 : List V) : List (List V) → V
  | [] => .list true [e0]
  | e :: es => .vec 0 k γ ((e :: es).length + 1)
def tl (k γ : Nat) (T : TypeId) (e0 : List V) : List (List V) → Level
  | [] => []
  | e :: es => [(k, γ, .vec T (e0 :: e :: es))]
variable {P : Program} {fr : Fr}
@[simp] theorem tv_nil (k γ : Nat) (e0 : List V) : tv k γ e0 [] = .list true [e0] := rfl
@[simp] theorem tl_nil (k γ : Nat) (T : TypeId) (e0 : List V) : tl k γ T e0 [] = [] := rfl
@[simp] theorem tl_snoc (k γ : Nat) (T : TypeId) (e0 : List V) (es : List (List V)) (y : List V) (ys : List (List V)) : tl k γ T e0 (es ++ y :: ys) = [(k, γ, .vec T (e0 :: (es ++ y :: ys)))] := by cases es <;> rfl
@[simp] theorem kl_tl (k γ : Nat) (T : TypeId) (e0 : List V) (es : List (List V)) : kl k [] ((tl k γ T e0 es).get k) = tl k γ T e0 es := by
  cases es with
  | nil => rfl
  | cons e es => simp [tl]
@[simp] theorem tl_other {k j : Nat} (γ : Nat) (T : TypeId) (e0 : List V) (es : List (List V)) (h : j ≠ k) : (tl k γ T e0 es).get j = none := by
  cases es with
  | nil => rfl
  | cons e es => simp [tl, h]
@[simp] theorem apV_tv (e k c γ : Nat) (loc : Level) (e0 : List V) (es : List (List V)) (y : List V) (ys : List (List V)) (hl : Level.get loc k = (tl k γ e e0 es).get k) (h1 : (e0 :: es).all (fun y => y.length == P.cellsOf e) = true) (h2 : appOK P e (e0 :: es).length (y :: ys) = true) :
    apV P e k c fr ⟨[], loc⟩ (tv k γ e0 es) (y :: ys) = some ⟨c + 1, (k, true, tv k c e0 (es ++ y :: ys)) :: fr, ⟨[], (k, c, .vec e (e0 :: (es ++ y :: ys))) :: loc⟩⟩ := by
  cases es with
  | nil =>
    simp only [tv, apV_full, h1, h2, and_self, if_true]
    simp [tv, Nat.add_comm, Nat.add_left_comm]
  | cons z es =>
    have hl : Level.get loc k = some (γ, .vec e (e0 :: z :: es)) := by rw [hl]; simp [tl]
    simp only [tv, apV_vec, get_mk, List.length_nil, if_true, hl, apW_some, true_and, h1, h2]
    simp [tv, Nat.add_comm, Nat.add_left_comm]
    omega
@[simp] theorem closeX_tl (f k γ : Nat) (T : TypeId) (e0 : List V) (es : List (List V)) : closeX ⟨[], tl k γ T e0 es⟩ (f + 1) (tv k γ e0 es) = some (.list false (e0 :: es)) := by
  cases es with
  | nil => rfl
  | cons e es => simp [tv, tl]
end Go.Pg
namespace Go.Proofs.Try.Op
set_option maxRecDepth 100000
set_option linter.unusedSimpArgs false
theorem next_ok (coin : Int) (s : Scene) (k : Int) (l : Line) (h : s.ok) : (nextB coin s k l).1.ok := by
  unfold nextB
  simp only
  split
  · exact h
  · split
    · exact ⟨by simp [h.ch], by simp [h.tk]⟩
    · exact ⟨by simp [h.ch], by simp [h.tk]⟩
theorem Scene.len {s : Scene} (h : s.ok) : (cellsS s).length = 10 := by simp [cellsS, h.ch, h.tk]
theorem Scene.take {s : Scene} (h : s.ok) : (cellsS s).take 10 = cellsS s := List.take_of_length_le (by rw [s.len h]; omega)
theorem Scene.drop {s : Scene} (h : s.ok) : (cellsS s).drop 10 = [] := List.drop_eq_nil_of_le (by rw [s.len h]; omega)
theorem Scene.weak (s : Scene) : (cellsS s).map weakC = cellsS s := by
  have h : weakC ∘ i = i := rfl
  simp [cellsS, h]
theorem Scene.closed (s : Scene) (f : Nat) : (cellsS s).all (closedV (f + 1)) = true := by
  simp [cellsS]
structure Scene.bd (s : Scene) (k : Nat) : Prop where
  m0 : -(1000 + 100 * (k : Int)) ≤ s.money
  m1 : s.money ≤ 1000 + 100 * (k : Int)
  x0 : 0 ≤ s.mixed
  x1 : s.mixed ≤ k
theorem next_bd {coin : Int} {s : Scene} {j : Int} {k : Nat} {l : Line} (h : s.bd k) (h0 : 1 ≤ coin) (h1 : coin ≤ 99) : (nextB coin s j l).1.bd (k + 1) := by
  obtain ⟨m0, m1, x0, x1⟩ := h
  unfold nextB
  simp only
  split
  · exact ⟨by simp only; omega, by simp only; omega, by simp only; omega, by simp only; omega⟩
  · split
    · refine ⟨by simp only; omega, by simp only; omega, ?_, ?_⟩ <;> (simp only; split <;> omega)
    · exact ⟨by simp only; omega, by simp only; omega, by simp only; omega, by simp only; omega⟩
theorem agreesP_ok {C : Int} (hC : C ≤ 4) {l x : Line} (hl : lineOk C l = true) (h : agreesP C l x = true) : (1 ≤ x.k ∧ x.k ≤ 2) ∧ (0 ≤ x.c ∧ x.c ≤ C - 1) ∧ (0 ≤ x.t ∧ x.t ≤ C - 1) := by
  unfold agreesP at h
  obtain ⟨y, hy, he⟩ := List.any_eq_true.1 h
  have := readingsP_ok hC hl hy
  simp only [eqL, Bool.and_eq_true, decide_eq_true_eq] at he
  omega
def scenesGo (b : Book) : Nat → Scene → List Line → List Line → Option (List Scene)
  | k, s, l :: ls, t :: ts => if agreesP b.chairs l t = true then (if (nextB b.coin s k t).2 = true then (scenesGo b (k + 1) (nextB b.coin s k t).1 ls ts).map ((nextB b.coin s k t).1 :: ·) else none) else none
  | _, _, _, _ => some []
def R92 (c' γ' : Nat) (b : Book) (ts : List Line) (s0 : Scene) (out : List Scene) : Option (List Scene × Scene) → Option (Exit × XS)
  | some (L, s') => some (.exit 0, ⟨c', [(24, true, .bool false), (2, true, .ptr 0 2 0 0), (6, true, .ptr 0 6 2 0), (7, true, tv 50 γ' (cellsS s0) ((out ++ L).map cellsS)), (21, true, sl (ts.map encL)), (22, true, i ts.length), (23, true, i ts.length)],
      ⟨[], (2, 0, .box (cellsT b)) :: (6, 2, .box (cellsS s')) :: tl 50 γ' 113 (cellsS s0) ((out ++ L).map cellsS)⟩⟩)
  | none => some (.ret, ⟨c', [(5, true, .bool false), (4, true, .nil)], ⟨[], []⟩⟩)
def lastS (s : Scene) (L : List Scene) : Scene := L.getLast?.getD s
theorem l92 (n : Nat) (b : Book) (hb : checkP b = 0) (ts : List Line) (hts : ∀ t ∈ ts, okL t) (hlen : ts.length = b.lines.length) (h1 : 1 ≤ b.chairs) (h4 : b.chairs ≤ 4) (hc1 : 1 ≤ b.coin) (hc2 : b.coin ≤ 99) (hl8 : b.lines.length ≤ 8) (hok : b.lines.all (lineOk b.chairs) = true) (s0 : Scene) (hs0 : s0.ok) :
    ∀ (d k : Nat) (s : Scene) (out : List Scene) (c γ m : Nat), k + d = ts.length → d < m → s.ok → s.bd k → (∀ x ∈ out, x.ok) → out.length ≤ k → 3 ≤ c →
    ∃ (c' γ' : Nat), loopA (execA Try.prog ann kn (n+650) 53) lb92_6 (some ([2, 6, 7, 21, 22, 23], [2, 6, 50])) m ⟨c, [(2, true, .ptr 0 2 0 0), (6, true, .ptr 0 6 2 0), (7, true, tv 50 γ (cellsS s0) (out.map cellsS)), (21, true, sl (ts.map encL)), (22, true, i ts.length), (23, true, i k)],
      ⟨[], (2, 0, .box (cellsT b)) :: (6, 2, .box (cellsS s)) :: tl 50 γ 113 (cellsS s0) (out.map cellsS)⟩⟩ =
      R92 c' γ' b ts s0 out ((scenesGo b k s (b.lines.drop k) (ts.drop k)).map fun L => (L, lastS s L))
  | 0, k, s, out, c, γ, m + 1, hd, hm, hs, hbd, ho, hol, hc => by
    have : k = ts.length := by omega
    subst this
    refine ⟨c, γ, ?_⟩
    have e : b.lines.drop ts.length = [] := by rw [hlen]; simp
    simp [loopA_succ, cellsT, e, scenesGo, R92, lastS]
  | d + 1, k, s, out, c, γ, m + 1, hd, hm, hs, hbd, ho, hol, hc => by
    have hk : k < ts.length := by omega
    have hk2 : k < b.lines.length := by omega
    have hw : IntKind.i64.wrap ((k : Int) + 1) = (k : Int) + 1 := wrap_i64 (by omega) (by omega)
    have hlk := List.all_eq_true.1 hok _ (List.getElem_mem hk2)
    have q1 := fun n => k110 n b b.lines[k] ts[k] h1 h4 hlk (hts _ (List.getElem_mem hk))
    rw [loopA_succ, List.drop_eq_getElem_cons hk, List.drop_eq_getElem_cons hk2]
    cases hag : agreesP b.chairs b.lines[k] ts[k] with
    | false =>
      refine ⟨c + 1, γ, ?_⟩
      simp only [hag, cellsT, encL] at q1 ⊢
      have hc2 : 2 < c := by omega
      simp [hk, hk2, hw, q1, encL, encC, scenesGo, hag, R92]
    | true =>
      obtain ⟨r1, r2, r3⟩ := agreesP_ok h4 hlk hag
      obtain ⟨m0, m1, x0, x1⟩ := hbd
      have q2 := fun n => k104 n b s k ts[k] hs (by omega) (by omega) (by omega) (by omega) (by omega) (by omega) (by omega) (by omega) (by omega) (by omega) (by omega) (by omega)
      have hn := next_ok b.coin s k ts[k] hs
      have hnb := next_bd (l := ts[k]) (j := k) ⟨m0, m1, x0, x1⟩ hc1 hc2
      generalize hq : nextB b.coin s k ts[k] = nx at q2 hn hnb
      obtain ⟨s', can⟩ := nx
      simp only at q2 hn hnb
      have f1 := s.len hs
      have f2 := s.take hs
      have f3 := s.drop hs
      have f4 := s.weak
      have f5 := s.closed
      have g1 := s'.len hn
      have g2 := s'.take hn
      have g4 := s'.weak
      have g5 := s'.closed
      cases can with
      | false =>
        refine ⟨c + 1, γ, ?_⟩
        simp only [hag, cellsT, encL] at q1 q2 ⊢
        have hc2 : 2 < c := by omega
        have hc3 : 2 < c + 1 := by omega
        simp [hk, hk2, hw, q1, q2, encL, encC, scenesGo, hag, R92, hq, f1, f2, f3, f4, f5, g1, hc3]
      | true =>
        have ho' : appOK Try.prog 113 (out.length + 1) [cellsS s'] = true := by
          rw [appOK_iff (by simp) (by simp)]
          simp [maxLen, g1]; omega
        have hall : ((cellsS s0) :: out.map cellsS).all (fun y => y.length == 10) = true := by
          simp only [List.all_cons, s0.len hs0, List.all_map, Function.comp_def]
          simp only [BEq.rfl, Bool.true_and, List.all_eq_true]
          intro x hx; simp [x.len (ho x hx)]
        have hap := fun fr => apV_tv (P := Try.prog) (fr := fr) 113 50 (c + 1) γ ((2, 0, Res.box (cellsT b)) :: (6, 2, Res.box (cellsS s')) :: tl 50 γ 113 (cellsS s0) (out.map cellsS)) (cellsS s0) (out.map cellsS) (cellsS s') [] (by simp) (by simpa using hall) (by simpa using ho')
        obtain ⟨c', γ', ih⟩ := l92 n b hb ts hts hlen h1 h4 hc1 hc2 hl8 hok s0 hs0 d (k + 1) s' (out ++ [s']) (c + 2) (c + 1) m (by omega) (by omega) hn hnb (by
          intro x hx
          rcases List.mem_append.1 hx with hx | hx
          · exact ho x hx
          · simp at hx; subst hx; exact hn) (by simp; omega) (by omega)
        refine ⟨c', γ', ?_⟩
        simp only [hag, cellsT, encL, List.map_append, List.map_cons, List.map_nil, tl_snoc] at q1 q2 ih hap ⊢
        simp at ih
        have hc2 : 2 < c := by omega
        have hc3 : 2 < c + 1 := by omega
        simp [hk, hk2, hw, q1, q2, encL, encC, scenesGo, hag, hq, f1, f2, f3, f4, f5, g1, g2, g4, g5, hc3, hap, ih]
        cases scenesGo b (k + 1) s' (b.lines.drop (k + 1)) (ts.drop (k + 1)) with
        | none => simp [R92]
        | some L => simp [R92, lastS, List.getLast?_cons]
/-- the scenes of a truth, if it is a possible one -/
def scenesB (b : Book) (ts : List Line) : Option (List Scene) := if ts.length = b.lines.length then (scenesGo b 0 (beginB b) b.lines ts).map (beginB b :: ·) else none
def encR (r : Option (List Scene)) : V := match r with
  | some L => .tup [.list false (L.map cellsS), .bool true]
  | none => .tup [.nil, .bool false]
theorem begin_ok (b : Book) : (beginB b).ok := ⟨rfl, rfl⟩
theorem k92 (n : Nat) (b : Book) (hb : checkP b = 0) (ts : List Line) (hts : ∀ t ∈ ts, okL t) (h1 : 1 ≤ b.chairs) (h4 : b.chairs ≤ 4) (hc1 : 1 ≤ b.coin) (hc2 : b.coin ≤ 99) (hx1 : 0 ≤ b.box) (hx2 : b.box ≤ 999) (hl8 : b.lines.length ≤ 8) (hok : b.lines.all (lineOk b.chairs) = true) :
    callK Try.prog kn (execA Try.prog ann kn (n+700)) 92 [.agg (cellsT b), sl (ts.map encL)] = some (encR (scenesB b ts)) := by
  rw [callK_of rfl, call0_eq Try.func92 b92 rfl (by simp [cellsT, encL, encC])]
  unfold scenesB
  by_cases hlen : ts.length = b.lines.length
  · have e1 : decide ((ts.length : Int) = (b.lines.length : Int)) = true := by simp [hlen]
    have h5 := fun n => k105 n b
    have f1 := (beginB b).len (begin_ok b)
    have f2 := (beginB b).take (begin_ok b)
    have f4 := (beginB b).weak
    have f5 := (beginB b).closed
    obtain ⟨c', γ', q⟩ := l92 (n + 42) b hb ts hts hlen h1 h4 hc1 hc2 hl8 hok (beginB b) (begin_ok b) ts.length 0 (beginB b) [] 3 0 (n + 692) (by omega) (by omega) (begin_ok b) ⟨by simp [beginB]; omega, by simp [beginB]; omega, by simp [beginB], by simp [beginB]⟩ (by simp) (by simp) (by omega)
    have ow := fun n => own_call (P := Try.prog) (A := ann) (kn := kn) (n := n + 100) (d := 18) (c := 1) (fr := [(17, true, .agg (cellsT b)), (1, true, sl (ts.map encL)), (2, true, .ptr 0 2 0 0)]) (s := ⟨[], [(2, 0, .box (cellsT b))]⟩) (x := .func 105) (args := [.tmp 17]) (f := 105) (first := []) (cap := []) (vs := [.agg (cellsT b)]) (r := .agg (cellsS (beginB b))) (by simp) (by simp) (by kernel_rfl) (by simp [f5]) (by simpa [cellsT] using k105 n b)
    have hdrop0 : List.drop 10 (List.replicate 10 (V.int .i64 0)) = [] := rfl
    simp only [cellsT, List.drop_zero, Nat.add_assoc, Nat.reduceAdd, List.map_nil, tv_nil, tl_nil, Int.natCast_zero] at h5 q ow ⊢
    simp only [hlen, if_true] at q ⊢
    simp [c92, argFr, hlen, h5, f1, f2, f4, f5, encL, encC, ow]
    rw [q]
    cases scenesGo b 0 (beginB b) b.lines ts with
    | none => simp [R92, encR]
    | some L =>
      simp [R92, encR, f5]
      intro x _ y hy
      exact List.all_eq_true.1 (x.closed 6) y hy
  · have e1 : decide ((ts.length : Int) = (b.lines.length : Int)) = false := by simp; omega
    simp [c92, argFr, cellsT, e1, hlen, encR]
end Go.Proofs.Try.Op
/- Contracts: Play, ProveTruth. No condition. -/
open Go Go.Pg Go.Proofs
namespace Go.Proofs.Try.Op
set_option maxRecDepth 100000
set_option linter.unusedSimpArgs false
theorem cells_form {s : Scene} (h : s.ok) : ∃ a0 a1 a2 a3 b0 b1 b2 b3, cellsS s = [i a0, i a1, i a2, i a3, i b0, i b1, i b2, i b3, i s.money, i s.mixed] := by
  obtain ⟨ch, tk, money, mixed⟩ := s
  obtain ⟨a0, a1, a2, a3, e1⟩ := four h.ch
  obtain ⟨b0, b1, b2, b3, e2⟩ := four h.tk
  simp only at e1 e2
  subst e1; subst e2
  exact ⟨a0, a1, a2, a3, b0, b1, b2, b3, rfl⟩
def lastM (v : Int) (L : List Scene) : Int := ((L.map Scene.mixed).getLast?).getD v
theorem l54 (n : Nat) (bx : List V) (L : List Scene) (hL : ∀ s ∈ L, s.ok) (hlen : L.length ≤ 100) : ∀ (d k : Nat) (mx : Int) (out : List Int) (c γ m : Nat), k + d = L.length → d < m → out.length ≤ k →
    ∃ (c' γ' : Nat), loopA (execA Try.prog ann kn (n+50) 41) lb54_8 (some ([4, 5, 25, 26, 27], [2, 20, 35])) m ⟨c, [(4, true, pv 35 γ (out.map encI)), (5, true, i mx), (25, true, .list false (L.map cellsS)), (26, true, i L.length), (27, true, i k)], ⟨[], (2, 0, .box bx) :: pl 35 γ 3 (out.map encI)⟩⟩ =
    some (.exit 0, ⟨c', [(28, true, .bool false), (4, true, pv 35 γ' ((out ++ (L.drop k).map Scene.money).map encI)), (5, true, i (lastM mx (L.drop k))), (25, true, .list false (L.map cellsS)), (26, true, i L.length), (27, true, i L.length)], ⟨[], (2, 0, .box bx) :: pl 35 γ' 3 ((out ++ (L.drop k).map Scene.money).map encI)⟩⟩)
  | 0, k, mx, out, c, γ, m + 1, hd, hm, ho => by
    have : k = L.length := by omega
    subst this
    refine ⟨c, γ, ?_⟩
    simp [loopA_succ, lastM]
  | d + 1, k, mx, out, c, γ, m + 1, hd, hm, ho => by
    have hk : k < L.length := by omega
    have hw : IntKind.i64.wrap ((k : Int) + 1) = (k : Int) + 1 := wrap_i64 (by omega) (by omega)
    obtain ⟨c', γ', ih⟩ := l54 n bx L hL hlen d (k + 1) L[k].mixed (out ++ [L[k].money]) (c + 2) (c + 1) m (by omega) (by omega) (by simp; omega)
    refine ⟨c', γ', ?_⟩
    have ho' : appOK Try.prog 3 out.length [[i L[k].money]] = true := by
      rw [appOK_iff (by simp) (by simp)]
      simp [maxLen]; omega
    have hs := hL _ (List.getElem_mem hk)
    have hl : lastM mx (L[k] :: L.drop (k + 1)) = lastM L[k].mixed (L.drop (k + 1)) := by simp only [lastM, List.map_cons, List.getLast?_cons, Option.getD_some]
    obtain ⟨a0, a1, a2, a3, b0, b1, b2, b3, hcs⟩ := cells_form hs
    rw [loopA_succ, List.drop_eq_getElem_cons hk, hl]
    simp only [List.map_append, List.map_cons, List.map_nil, encI, pl_snoc, List.append_assoc, List.cons_append, List.nil_append] at ih ⊢
    simp at ih
    simp [hk, hw, hcs, encI, ho', apK, ih]
/-- what Play gives -/
def playB (b : Book) (ts : List Line) : V :=
  if checkP b = 0 then (match scenesB b ts with
    | some L => .tup [sl ((L.map Scene.money).map encI), i (lastM 0 L), i 0]
    | none => .tup [.nil, i 0, i 2])
  else .tup [.nil, i 0, i (checkP b)]
theorem check0 {b : Book} (h : checkP b = 0) : 1 ≤ b.chairs ∧ b.chairs ≤ 4 ∧ b.lines.length ≤ 8 ∧ b.counts.length ≤ 4 ∧ 1 ≤ b.coin ∧ b.coin ≤ 99 ∧ 0 ≤ b.box ∧ b.box ≤ 999 ∧ b.lines.all (lineOk b.chairs) = true ∧ b.counts.all (countOk b.lines.length) = true ∧ manyP b.chairs 1 b.lines ≤ 4096 := by
  unfold checkP at h
  split at h
  · omega
  · rename_i h1
    split at h
    · omega
    · rename_i h2
      split at h
      · omega
      · rename_i h3
        split at h
        · omega
        · rename_i h4
          split at h
          · omega
          · rename_i h5
            simp [inB] at h1 h2
            simp only [Bool.not_eq_false] at h3 h4
            refine ⟨by omega, by omega, by omega, by omega, by omega, by omega, by omega, by omega, h3, h4, by omega⟩
theorem scenesGo_ok (b : Book) : ∀ (k : Nat) (s : Scene) (ls ts : List Line) (L : List Scene), s.ok → scenesGo b k s ls ts = some L → (∀ x ∈ L, x.ok) ∧ L.length ≤ ls.length
  | k, s, [], ts, L, hs, h => by
    cases ts <;> (cases h; simp)
  | k, s, l :: ls, [], L, hs, h => by cases h; simp
  | k, s, l :: ls, t :: ts, L, hs, h => by
    unfold scenesGo at h
    split at h
    · split at h
      · simp only [Option.map_eq_some_iff] at h
        obtain ⟨L', h', rfl⟩ := h
        have hn := next_ok b.coin s k t hs
        obtain ⟨q1, q2⟩ := scenesGo_ok b (k + 1) _ ls ts L' hn h'
        refine ⟨fun x hx => ?_, by simp; omega⟩
        rcases List.mem_cons.1 hx with rfl | hx
        · exact hn
        · exact q1 x hx
      · cases h
    · cases h
theorem scenesB_ok {b : Book} {ts : List Line} {L : List Scene} (h : scenesB b ts = some L) : (∀ x ∈ L, x.ok) ∧ L.length ≤ b.lines.length + 1 := by
  unfold scenesB at h
  split at h
  · simp only [Option.map_eq_some_iff] at h
    obtain ⟨L', h', rfl⟩ := h
    obtain ⟨q1, q2⟩ := scenesGo_ok b 0 _ _ _ L' (begin_ok b) h'
    refine ⟨fun x hx => ?_, by simp; omega⟩
    rcases List.mem_cons.1 hx with rfl | hx
    · exact begin_ok b
    · exact q1 x hx
  · cases h
theorem k54 (n : Nat) (b : Book) (ts : List Line) (hts : ∀ t ∈ ts, okL t) : callK Try.prog kn (execA Try.prog ann kn (n+900)) 54 [.agg (cellsT b), sl (ts.map encL)] = some (playB b ts) := by
  rw [callK_of rfl, call0_eq Try.func54 b54 rfl (by simp [cellsT, encL, encC])]
  have q0 := fun n => k55 n b
  unfold playB
  by_cases hb : checkP b = 0
  · obtain ⟨h1, h4, hl8, hc4, hc1, hc2, hx1, hx2, hok, _, _⟩ := check0 hb
    have q1 := fun n => k92 n b hb ts hts h1 h4 hc1 hc2 hx1 hx2 hl8 hok
    cases hs : scenesB b ts with
    | none =>
      simp only [hs, encR, hb, cellsT, if_true] at q0 q1 ⊢
      simp [c54, argFr, q0, q1, encL, encC]
    | some L =>
      obtain ⟨hL, hLl⟩ := scenesB_ok hs
      obtain ⟨c', γ', q2⟩ := l54 (n + 842) (cellsT b) L hL (by omega) L.length 0 0 [] 1 0 (n + 892) (by omega) (by omega) (by simp)
      simp only [hs, encR, hb, cellsT, if_true, List.drop_zero, Nat.add_assoc, Nat.reduceAdd, List.map_nil, pv_nil, pl_nil, Int.natCast_zero, List.nil_append] at q0 q1 q2 ⊢
      simp at q2
      have hcl : ((L.map Scene.money).map encI).all (fun e => e.all (closedV 7)) = true := by simp [encI]
      simp at hcl
      simp [c54, argFr, q0, q1, encL, encC, q2, closeX_pv (T := 3)]
      exact hcl
  · have e : decide (checkP b = 0) = false := by simpa using hb
    simp only [cellsT] at q0 ⊢
    simp [c54, argFr, q0, encL, encC, e, hb]

def allC (b : Book) : Nat → Bool → List Scene → Bool
  | _, v, [] => v
  | k, v, s :: L => allC b (k + 1) (v && b.counts.all (countOne s.money k)) L
theorem l53 (n : Nat) (b : Book) (hc : b.counts.length ≤ 4) (L : List Scene) (hL : ∀ s ∈ L, s.ok) (hlen : L.length ≤ 100) : ∀ (d k : Nat) (v : Bool) (c m : Nat), k + d = L.length → d < m →
    ∃ (c' : Nat), loopA (execA Try.prog ann kn (n+950) 34) lb53_5 (some ([2, 6, 18, 19, 20], [2, 15])) m ⟨c, [(2, true, .ptr 0 2 0 0), (6, true, .bool v), (18, true, .list false (L.map cellsS)), (19, true, i L.length), (20, true, i k)], ⟨[], [(2, 0, .box (cellsT b))]⟩⟩ =
    some (.exit 0, ⟨c', [(21, true, .bool false), (2, true, .ptr 0 2 0 0), (6, true, .bool (allC b k v (L.drop k))), (18, true, .list false (L.map cellsS)), (19, true, i L.length), (20, true, i L.length)], ⟨[], [(2, 0, .box (cellsT b))]⟩⟩)
  | 0, k, v, c, m + 1, hd, hm => by
    have : k = L.length := by omega
    subst this
    refine ⟨c, ?_⟩
    simp [loopA_succ, allC, cellsT]
  | d + 1, k, v, c, m + 1, hd, hm => by
    have hk : k < L.length := by omega
    have hw : IntKind.i64.wrap ((k : Int) + 1) = (k : Int) + 1 := wrap_i64 (by omega) (by omega)
    have hs := hL _ (List.getElem_mem hk)
    have hq := fun n => k93 n b L[k] k hs (by omega)
    obtain ⟨a0, a1, a2, a3, b0, b1, b2, b3, hcs⟩ := cells_form hs
    obtain ⟨c', ih⟩ := l53 n b hc L hL hlen d (k + 1) (v && b.counts.all (countOne L[k].money k)) (c + 1) m (by omega) (by omega)
    refine ⟨c', ?_⟩
    rw [loopA_succ, List.drop_eq_getElem_cons hk]
    simp only [allC, hcs, cellsT] at hq ih ⊢
    generalize b.counts.all (countOne L[k].money k) = q at hq ih ⊢
    simp at ih
    cases v with
    | false =>
      simp at ih
      simp [hk, hw, hcs, encI, ih]
    | true =>
      simp at ih
      simp [hk, hw, hcs, encI, hq, encL, encC, ih]
def proveB (b : Book) (ts : List Line) : Bool := decide (checkP b = 0) && (match scenesB b ts with
  | some L => allC b 0 true L
  | none => false)
theorem k53 (n : Nat) (b : Book) (ts : List Line) (hts : ∀ t ∈ ts, okL t) : callK Try.prog kn (execA Try.prog ann kn (n+1000)) 53 [.agg (cellsT b), sl (ts.map encL)] = some (.bool (proveB b ts)) := by
  rw [callK_of rfl, call0_eq Try.func53 b53 rfl (by simp [cellsT, encL, encC])]
  have q0 := fun n => k55 n b
  unfold proveB
  by_cases hb : checkP b = 0
  · obtain ⟨h1, h4, hl8, hc4, hc1, hc2, hx1, hx2, hok, _, _⟩ := check0 hb
    have q1 := fun n => k92 n b hb ts hts h1 h4 hc1 hc2 hx1 hx2 hl8 hok
    cases hs : scenesB b ts with
    | none =>
      simp only [hs, encR, hb, cellsT, if_true] at q0 q1 ⊢
      simp [c53, argFr, q0, q1, encL, encC, loopA_succ]
    | some L =>
      obtain ⟨hL, hLl⟩ := scenesB_ok hs
      obtain ⟨c', q2⟩ := l53 (n + 43) b hc4 L hL (by omega) L.length 0 true 1 (n + 993) (by omega) (by omega)
      simp only [hs, encR, hb, cellsT, if_true, List.drop_zero, Nat.add_assoc, Nat.reduceAdd, Int.natCast_zero] at q0 q1 q2 ⊢
      simp [c53, argFr, q0, q1, encL, encC, q2]
  · have e : decide (checkP b = 0) = false := by simpa using hb
    simp only [cellsT] at q0 ⊢
    simp [c53, argFr, q0, encL, encC, e, hb]
end Go.Proofs.Try.Op
