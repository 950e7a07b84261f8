/- The truths, one after another: what is gone through, and who goes through it. No condition. -/
import Derived.Test.YtfbbnkaahnpicaaZ1
import Derived.Test.YtfbbnkaahnpicaaFz
open Go Go.Pg Go.Proofs
namespace Go.Pg
@[simp] theorem envA_cy {P : Program} {A : Ann} {kn : CF0} {n : Nat} : (envA P A kn n).cy = yldX (execA P A kn n) := rfl
end Go.Pg
namespace Go.Proofs.Try.Op
set_option maxRecDepth 100000
set_option linter.unusedSimpArgs false
/-! ### Types of functions -/
@[simp] theorem cells_109 : Try.prog.cellsOf 109 = 1 := by kernel_rfl
@[simp] theorem bytes_109 : Try.prog.bytesOf 109 = 8 := by kernel_rfl
@[simp] theorem zero_109 : zeroC Try.prog 109 = some [Go.Pg.V.raw Go.Value.nilFunc] := by kernel_rfl
@[simp] theorem zok_109 : zOk Try.prog 109 = true := by kernel_rfl
@[simp] theorem whole_109 (cs : List V) : whole Try.prog 109 cs = cs[0]? := by kernel_rfl
@[simp] theorem part_109 (cs : List V) (o : Nat) : partV Try.prog 109 cs o = cs[o]? := by kernel_rfl
@[simp] theorem cells_119 : Try.prog.cellsOf 119 = 1 := by kernel_rfl
@[simp] theorem bytes_119 : Try.prog.bytesOf 119 = 8 := by kernel_rfl
@[simp] theorem zero_119 : zeroC Try.prog 119 = some [Go.Pg.V.raw Go.Value.nilFunc] := by kernel_rfl
@[simp] theorem zok_119 : zOk Try.prog 119 = true := by kernel_rfl
@[simp] theorem whole_119 (cs : List V) : whole Try.prog 119 cs = cs[0]? := by kernel_rfl
@[simp] theorem part_119 (cs : List V) (o : Nat) : partV Try.prog 119 cs o = cs[o]? := by kernel_rfl
@[simp] theorem cells_123 : Try.prog.cellsOf 123 = 1 := by kernel_rfl
@[simp] theorem bytes_123 : Try.prog.bytesOf 123 = 8 := by kernel_rfl
@[simp] theorem zero_123 : zeroC Try.prog 123 = some [Go.Pg.V.raw Go.Value.nilFunc] := by kernel_rfl
@[simp] theorem zok_123 : zOk Try.prog 123 = true := by kernel_rfl
@[simp] theorem whole_123 (cs : List V) : whole Try.prog 123 cs = cs[0]? := by kernel_rfl
@[simp] theorem part_123 (cs : List V) (o : Nat) : partV Try.prog 123 cs o = cs[o]? := by kernel_rfl
@[simp] theorem cells_124 : Try.prog.cellsOf 124 = 1 := by kernel_rfl
@[simp] theorem bytes_124 : Try.prog.bytesOf 124 = 8 := by kernel_rfl
@[simp] theorem zero_124 : zeroC Try.prog 124 = some [Go.Pg.V.raw Go.Value.nilFunc] := by kernel_rfl
@[simp] theorem zok_124 : zOk Try.prog 124 = true := by kernel_rfl
@[simp] theorem whole_124 (cs : List V) : whole Try.prog 124 cs = cs[0]? := by kernel_rfl
@[simp] theorem part_124 (cs : List V) (o : Nat) : partV Try.prog 124 cs o = cs[o]? := by kernel_rfl
@[simp] theorem cells_144 : Try.prog.cellsOf 144 = 1 := by kernel_rfl
@[simp] theorem bytes_144 : Try.prog.bytesOf 144 = 8 := by kernel_rfl
@[simp] theorem zero_144 : zeroC Try.prog 144 = some [Go.Pg.V.raw Go.Value.nilFunc] := by kernel_rfl
@[simp] theorem zok_144 : zOk Try.prog 144 = true := by kernel_rfl
@[simp] theorem whole_144 (cs : List V) : whole Try.prog 144 cs = cs[0]? := by kernel_rfl
@[simp] theorem part_144 (cs : List V) (o : Nat) : partV Try.prog 144 cs o = cs[o]? := by kernel_rfl
/-- all truths that begin so, with their scenes -/
def dfsP (b : Book) : Nat → Nat → Scene → List Line → List Scene → List (List Line × List Scene)
  | 0, k, s, ls, ss => if b.counts.all (countOne s.money k) = true then [(ls, ss)] else []
  | d + 1, k, s, ls, ss => if b.counts.all (countOne s.money k) = true then (match b.lines[k]? with
    | some l => (readingsP b.chairs l).flatMap fun x => if (nextB b.coin s k x).2 = true then dfsP b d (k + 1) (nextB b.coin s k x).1 (ls ++ [x]) (ss ++ [(nextB b.coin s k x).1]) else []
    | none => []) else []
/-- the truths of a book, in the order of the walk -/
def truthsP (b : Book) : List (List Line × List Scene) := dfsP b b.lines.length 0 (beginB b) [] [beginB b]
/-- what is laid so far -/
structure Pre (b : Book) (k : Nat) (ls : List Line) (ss : List Scene) : Prop where
  ll : ls.length = k
  sl : ss.length = k + 1
  met : ∀ j (h : j < ss.length), Met b j ss[j] ∧ ss[j].bd j
  rd : ∀ j (h : j < ls.length) (h2 : j < b.lines.length), ls[j] ∈ readingsP b.chairs b.lines[j]
/-- the level of the walk through the truths -/
structure Lt (b : Book) (γ0 g2 g3 g4 g5 g9 g14 : Nat) (ls : List Line) (ss : List Scene) (L : Level) : Prop where
  p2 : L.get 2 = some (g2, .box [.yld 0 rkey γ0])
  p3 : L.get 3 = some (g3, .box [.vec 1 9 g9 b.lines.length])
  p4 : L.get 4 = some (g4, .box [.vec 1 14 g14 (b.lines.length + 1)])
  p5 : L.get 5 = some (g5, .box [.fn 103 [] [.ref (cellsT b), .ptr 1 4 g4 0, .ptr 1 3 g3 0, .ptr 1 2 g2 0, .ptr 1 5 g5 0]])
  p9 : L.get 9 = some (g9, .vec 96 (ls.map encL))
  p14 : L.get 14 = some (g14, .vec 113 (ss.map cellsS))
  st : ∀ t : St, 2 ≤ t.up.length → shutLv t L = L
  b9 : g9 < γ0 + 7
  b14 : g14 < γ0 + 7
  ok : ∀ x ∈ ss, x.ok
/-- one who goes through the truths: how his level stands, what a truth does to it -/
def StepOK {α : Type} (b : Book) (Lv : α → Level → Prop) (step : α → List Line → List Scene → α) (γ0 N0 : Nat) : Prop :=
  ∀ (a : α) (L L1 : Level) (rest : List Level) (loc : Level) (c : Nat) (fr : Fr) (ls : List Line) (ss : List Scene) (g9 g14 : Nat), Lv a L → γ0 + 1 < c → Pre b b.lines.length ls ss → L1.get 9 = some (g9, .vec 96 (ls.map encL)) → L1.get 14 = some (g14, .vec 113 (ss.map cellsS)) → Stays (L1 :: (rest ++ [loc])) →
    ∃ L' c', Lv (step a ls ss) L' ∧ c ≤ c' ∧ ∀ n, yldX (execA Try.prog ann kn (n + N0)) 0 rkey γ0 [.vec 1 9 g9 b.lines.length, .vec 1 14 g14 (b.lines.length + 1)] ⟨c, fr, ⟨L :: L1 :: rest, loc⟩⟩ = some (.bool true, ⟨c', fr, ⟨L' :: L1 :: rest, loc⟩⟩)
end Go.Proofs.Try.Op
/- The walk through the truths. No condition. -/
open Go Go.Pg Go.Proofs
namespace Go.Proofs.Try.Op
set_option maxRecDepth 100000
set_option linter.unusedSimpArgs false
section
variable {α : Type} {b : Book} {Lv : α → Level → Prop} {step : α → List Line → List Scene → α} {γ0 N0 : Nat}
def runT (step : α → List Line → List Scene → α) (a : α) (l : List (List Line × List Scene)) : α := l.foldl (fun a t => step a t.1 t.2) a
def RecT (b : Book) (Lv : α → Level → Prop) (step : α → List Line → List Scene → α) (γ0 g2 g3 g4 g5 g9 g14 M d k : Nat) : Prop :=
  ∀ (pls : List Line) (pss : List Scene) (s : Scene), Pre b k pls pss → pss[k]? = some s → ∀ (a : α) (L L1 : Level) (rs : List Level) (c dd : Nat) (fr : Fr) (ls : List Line) (ss : List Scene), Lv a L → Lt b γ0 g2 g3 g4 g5 g9 g14 ls ss L1 → Stays (L1 :: rs) → γ0 + 7 < c → ls.length = b.lines.length → ss.length = b.lines.length + 1 → ls.take k = pls → ss.take (k + 1) = pss →
    ∃ L' L1' c' ls' ss', Lv (runT step a (dfsP b d k s pls pss)) L' ∧ Lt b γ0 g2 g3 g4 g5 g9 g14 ls' ss' L1' ∧ c ≤ c' ∧ ls'.length = b.lines.length ∧ ss'.length = b.lines.length + 1 ∧ ls'.take k = pls ∧ ss'.take (k + 1) = pss ∧
      ∀ n, finS Try.prog (some dd) fr Try.f103.results.toList (execA Try.prog ann kn (n + M) 68 c103 ⟨c, argFr 0 [i k, .ref (cellsT b), .ptr 1 4 g4 0, .ptr 1 3 g3 0, .ptr 1 2 g2 0, .ptr 1 5 g5 0], ⟨L :: L1 :: rs, []⟩⟩) = finU (some dd) fr c' (.bool true) (unsnoc (L' :: L1' :: rs))
theorem encL_set (ls : List Line) (k : Nat) (x : Line) : (ls.set k x).map encL = (ls.map encL).set k (encL x) := List.map_set
theorem cellsS_set (ss : List Scene) (k : Nat) (x : Scene) : (ss.set k x).map cellsS = (ss.map cellsS).set k (cellsS x) := List.map_set
theorem shut_vec {t : St} {T : TypeId} {es : List (List V)} (h : ∀ e ∈ es, ∀ v ∈ e, closeOX t v = some v) : shutRes t (.vec T es) = .vec T es := by
  have : closeResX t (.vec T es) = some (.vec T es) := by
    unfold closeResX
    simp only
    rw [mapOO_same fun e he => mapOO_same fun v hv => h e he v hv]
  unfold shutRes
  rw [this]
theorem shut_vecL (t : St) (T : TypeId) (ls : List Line) : shutRes t (.vec T (ls.map encL)) = .vec T (ls.map encL) := by
  refine shut_vec fun e he v hv => ?_
  obtain ⟨x, _, rfl⟩ := List.mem_map.1 he
  simp only [encL, List.mem_cons, List.not_mem_nil, or_false] at hv
  rcases hv with rfl | rfl | rfl <;> rfl
theorem shut_vecS (t : St) (T : TypeId) (ss : List Scene) : shutRes t (.vec T (ss.map cellsS)) = .vec T (ss.map cellsS) := by
  refine shut_vec fun e he v hv => ?_
  obtain ⟨x, _, rfl⟩ := List.mem_map.1 he
  simp only [cellsS, List.mem_append, List.mem_map, List.mem_cons, List.not_mem_nil, or_false] at hv
  rcases hv with ⟨y, _, rfl⟩ | ⟨y, _, rfl⟩ | rfl | rfl <;> rfl
theorem Lt.set {g2 g3 g4 g5 g9 g14 : Nat} {ls : List Line} {ss : List Scene} {L : Level} (h : Lt b γ0 g2 g3 g4 g5 g9 g14 ls ss L) {k : Nat} (x : Line) (s : Scene) (hs : s.ok) :
    Lt b γ0 g2 g3 g4 g5 g9 g14 (ls.set k x) (ss.set (k + 1) s) ((14, g14, .vec 113 ((ss.map cellsS).set (k + 1) (cellsS s))) :: (9, g9, .vec 96 ((ls.map encL).set k (encL x))) :: L) where
  p2 := by simpa using h.p2
  p3 := by simpa using h.p3
  p4 := by simpa using h.p4
  p5 := by simpa using h.p5
  p9 := by simp [List.map_set]
  p14 := by simp [List.map_set]
  st := by
    intro t ht
    rw [shutLv_cons, shutLv_cons, h.st t ht, ← encL_set, ← cellsS_set, shut_vecL, shut_vecS]
  b9 := h.b9
  b14 := h.b14
  ok := by
    intro y hy
    rcases List.mem_or_eq_of_mem_set hy with hy | rfl
    · exact h.ok y hy
    · exact hs
end
end Go.Proofs.Try.Op
/- The loop over the truths. No condition. -/
open Go Go.Pg Go.Proofs
namespace Go.Pg
variable {fr : Fr} {s : St}
@[simp] theorem closeOX_yld (l k g : Nat) : closeOX s (.yld l k g) = some (.yld l k g) := rfl
@[simp] theorem closeX_ref' (f : Nat) (cs : List V) : closeX s (f + 1) (.ref cs) = some (.ref cs) := rfl
@[simp] theorem resV_nil {P : Program} : resV P [] fr s = some (.tup []) := rfl
@[simp] theorem closeX_tup0 (f : Nat) : closeX s (f + 1) (.tup []) = some (.tup []) := rfl
@[simp] theorem constV_nilFunc : constV .nilFunc = some (.raw .nilFunc) := rfl
@[simp] theorem closed_yld (f l k g : Nat) : closedV (f + 1) (.yld l k g) = false := rfl
@[simp] theorem weak_yld (l k g : Nat) : weakV (.yld l k g) = .yld l k g := rfl
@[simp] theorem bx1_yld (d c l k g : Nat) : bx1 d c fr s (some (.yld l k g)) = some ⟨c + 1, (d, true, .ptr s.up.length d c 0) :: fr, s.put s.up.length d c (.box [.yld l k g])⟩ := rfl
@[simp] theorem cp1_box (F : List V → Option (List V)) (g off : Nat) (g' : Nat) (cs : List V) : cp1 F g off (some (g', .box cs)) = if g' = g then (F cs).map (fun ds => V.ref (ds.drop off)) else none := rfl
noncomputable def mk4 (P : Program) (d c : Nat) (fr : Fr) (s : St) (e : TypeId) (n m : Int) : Option (List V) → Option XS
  | some z => if 0 ≤ n ∧ m = n ∧ z.length = P.cellsOf e ∧ n.toNat * P.bytesOf e ≤ 140737488355328 ∧ n.toNat ≤ maxLen then some ⟨c + 1, (d, true, .vec s.up.length d c n.toNat) :: fr, s.put s.up.length d c (.vec e (List.replicate n.toNat z))⟩ else none
  | none => none
@[simp] theorem mk4_some {P : Program} (d c : Nat) (e : TypeId) (n m : Int) (z : List V) : mk4 P d c fr s e n m (some z) = if 0 ≤ n ∧ m = n ∧ z.length = P.cellsOf e ∧ n.toNat * P.bytesOf e ≤ 140737488355328 ∧ n.toNat ≤ maxLen then some ⟨c + 1, (d, true, .vec s.up.length d c n.toNat) :: fr, s.put s.up.length d c (.vec e (List.replicate n.toNat z))⟩ else none := rfl
noncomputable def mk3 (P : Program) (d c : Nat) (fr : Fr) (s : St) : Option (Option Nat × TypeId) → Option V → Option V → Option XS
  | some (none, e), some (.int _ n), some (.int _ m) => mk4 P d c fr s e n m (zeroC P e)
  | _, _, _ => none
@[simp] theorem mk3_some {P : Program} (d c : Nat) (e : TypeId) (k1 k2 : IntKind) (n m : Int) : mk3 P d c fr s (some (none, e)) (some (.int k1 n)) (some (.int k2 m)) = mk4 P d c fr s e n m (zeroC P e) := rfl
@[simp] theorem stepK_mkS {P : Program} {E : XE} (T : TypeId) (d c : Nat) (x y : Operand) : stepK P E (some d) (.mkS T x y) ⟨c, fr, s⟩ = mk3 P d c fr s (elemT P T) (rdX fr x) (rdX fr y) := by
  show xMake P (some d) T x y ⟨c, fr, s⟩ = _
  unfold xMake
  simp only
  cases elemT P T with
  | none => cases rdX fr x <;> cases rdX fr y <;> rfl
  | some p =>
    obtain ⟨k, e⟩ := p
    cases k with
    | some k => cases rdX fr x <;> cases rdX fr y <;> rfl
    | none =>
      cases rdX fr x with
      | none => rfl
      | some a =>
        cases rdX fr y with
        | none => cases a <;> rfl
        | some z =>
          cases a with
          | int k1 n =>
            cases z with
            | int k2 m => simp only [mk3_some]; cases zeroC P e <;> rfl
            | _ => rfl
          | _ => rfl
@[simp] theorem rds_mkS (T : TypeId) (x y : Operand) (r : Operand → Option V) : rdsK (.mkS T x y) r = [] := rfl
/-- a loop over a function, by its call -/
noncomputable def rE (fr : Fr) (n γ : Nat) (r : Option XS) : Option (Exit × XS) := match r with
  | some st => match st.s.get n rkey with
    | some (γ', .loop _ _ _ _ _ ls) => Bool.rec none (match ls with
      | .ready => some (.normal, ⟨st.c, fr, st.s.put n rkey γ .dead⟩)
      | .left .ret => some (.ret, ⟨st.c, fr, st.s.put n rkey γ .dead⟩)
      | .left (.exit id) => some (.exit id, ⟨st.c, fr, st.s.put n rkey γ .dead⟩)
      | _ => none) (Nat.beq γ' γ && Nat.blt γ st.c)
    | _ => none
  | none => none
@[simp] theorem shut_loop (t : St) (fr0 : Fr) (ps : List Tmp) (asg body : Code) (N : Nat) (l : LS) : shutRes t (.loop fr0 ps asg body N l) = .loop fr0 ps asg body N l := rfl
end Go.Pg
namespace Go.Proofs.Try.Op
set_option maxRecDepth 100000
set_option linter.unusedSimpArgs false
section
variable {α : Type} {b : Book} {Lv : α → Level → Prop} {step : α → List Line → List Scene → α} {γ0 N0 : Nat}
def scene0 : Scene := ⟨[0, 0, 0, 0], [0, 0, 0, 0], 0, 0⟩
end
end Go.Proofs.Try.Op
/- The contract of bounds. No condition. -/
open Go Go.Pg Go.Proofs
namespace Go.Proofs.Try.Op
set_option maxRecDepth 100000
set_option linter.unusedSimpArgs false
def minI (a x : Int) : Int := if x < a then x else a
def maxI (a x : Int) : Int := if a < x then x else a
/-- one more number -/
def widen (r : Option (Int × Int)) (x : Int) : Option (Int × Int) := match r with
  | none => some (x, x)
  | some (lo, hi) => some (minI lo x, maxI hi x)
noncomputable def fr74 (b : Book) : Fr := [(12, true, .fn 102 [] [.ref (cellsT b)]), (11, true, .agg (cellsT b)), (3, true, .ptr 0 3 0 0), (4, true, .ptr 0 4 1 0), (5, true, .ptr 0 5 2 0), (6, true, .ptr 0 6 3 0), (7, true, .ptr 0 7 4 0)]
noncomputable def body74 : Code := .block 1 (r74_4.seq ((r74_5.seq (.cond (.tmp 21) r74_6 .skip)).seq r74_7))
@[simp] theorem u74 (n : Nat) (st : XS) : execA Try.prog ann kn n 29 body74 st = execA Try.prog ann kn n 29 (.block 1 (r74_4.seq ((r74_5.seq (.cond (.tmp 21) r74_6 .skip)).seq r74_7))) st := rfl
structure Lv74 (b : Book) (k : Nat) (f : FuncId) (a : Option (Int × Int)) (L : Level) : Prop where
  p3 : L.get 3 = some (0, .box (cellsT b))
  p4 : L.get 4 = some (1, .box [i k])
  p5 : L.get 5 = some (2, .box [.fn f [] []])
  p6 : L.get 6 = some (3, .box [i (a.getD (0, 0)).1, i (a.getD (0, 0)).2])
  p7 : L.get 7 = some (4, .box [.bool a.isNone])
  pr : L.get rkey = some (5, .loop (fr74 b) [13, 14] r74_3 body74 29 .ready)
  st : ∀ t : St, 1 ≤ t.up.length → shutLv t L = L
end Go.Proofs.Try.Op
/- The contract of verdicts. No condition. -/
open Go Go.Pg Go.Proofs
namespace Go.Proofs.Try.Op
set_option maxRecDepth 100000
set_option linter.unusedSimpArgs false
@[simp] theorem cells_108 : Try.prog.cellsOf 108 = 1 := by kernel_rfl
@[simp] theorem whole_108 (cs : List V) : whole Try.prog 108 cs = cs[0]? := by kernel_rfl
@[simp] theorem part_108 (cs : List V) (o : Nat) : partV Try.prog 108 cs o = cs[o]? := by kernel_rfl
def wrap1 (x : Int) : Int := IntKind.i64.wrap (x + 1)
/-- one more for each of which it is so -/
def incGo (q : Scene → Nat → Bool) (s : Scene) : Nat → List Int → List Int
  | _, [] => []
  | j, y :: r => (if q s j = true then wrap1 y else y) :: incGo q s (j + 1) r
/-- what verdicts keeps -/
structure VA where
  ys : List Int
  many : Int
  last : Scene
def stepV (q : Scene → Nat → Bool) (s : Scene) (a : VA) : VA := if 0 < a.many ∧ s.ch = a.last.ch ∧ s.tk = a.last.tk then a else ⟨incGo q s 0 a.ys, wrap1 a.many, s⟩
def fr71 (b : Book) : Fr := [(20, true, .fn 102 [] [.ref (cellsT b)]), (19, true, .agg (cellsT b)), (3, true, .ptr 0 3 0 0), (4, true, .ptr 0 4 1 0), (5, true, .ptr 0 5 2 0), (7, true, .ptr 0 7 4 0), (8, true, .ptr 0 8 5 0), (9, true, .ptr 0 9 6 0)]
noncomputable def body71 : Code := .block 1 (r71_5.seq ((r71_6.seq (.cond (.tmp 42) (.exit 1) .skip)).seq (r71_7.seq (r71_8.seq (r71_9.seq (.block 2 lb71_10.loop))))))
@[simp] theorem u71 (n : Nat) (st : XS) : execA Try.prog ann kn n 87 body71 st = execA Try.prog ann kn n 87 (.block 1 (r71_5.seq ((r71_6.seq (.cond (.tmp 42) (.exit 1) .skip)).seq (r71_7.seq (r71_8.seq (r71_9.seq (.block 2 lb71_10.loop))))))) st := rfl
structure Lv71 (b : Book) (k : Nat) (f : FuncId) (l : LS) (a : VA) (L : Level) : Prop where
  p3 : L.get 3 = some (0, .box [.fn f [] []])
  p4 : L.get 4 = some (1, .box (cellsT b))
  p5 : L.get 5 = some (2, .box [i k])
  p7 : L.get 7 = some (4, .box [.vec 0 18 3 b.chairs.toNat])
  p8 : L.get 8 = some (5, .box [i a.many])
  p9 : L.get 9 = some (6, .box (cellsS a.last))
  p18 : L.get 18 = some (3, .vec 3 (a.ys.map encI))
  pr : L.get rkey = some (7, .loop (fr71 b) [21, 22] r71_4 body71 87 l)
  st : ∀ t : St, 1 ≤ t.up.length → shutLv t L = L
  len : a.ys.length = b.chairs.toNat
  ok : a.last.ok
  rg : ∀ x ∈ a.last.ch ++ a.last.tk, okI x
section
variable {b : Book} {f : FuncId} {q : Scene → Nat → Bool}
end
end Go.Proofs.Try.Op
/- The contract of verdicts: its last loop, and all of it. No condition. -/
open Go Go.Pg Go.Proofs
namespace Go.Proofs.Try.Op
set_option maxRecDepth 100000
set_option linter.unusedSimpArgs false
def verd (many y : Int) : Int := if y = many then 1 else if y = 0 then 2 else 3
/-- what verdicts gives -/
def verdsP (b : Book) (q : Scene → Nat → Bool) (k : Nat) : List Int :=
  let a := runT (fun a _ ss => stepV q (ss.getD k scene0) a) ⟨List.replicate b.chairs.toNat 0, 0, scene0⟩ (truthsP b)
  a.ys.map (verd a.many)
end Go.Proofs.Try.Op
/- Own calls, by simp. No condition. -/
open Go Go.Pg Go.Proofs
namespace Go.Pg
variable {P : Program} {A : Ann} {kn : CF0} {n : Nat} {fr : Fr} {s : St}
noncomputable def oc2 (d c : Nat) (fr : Fr) (s : St) : Option V → Option XS → Option XS
  | some r, _ => some ⟨c + 1, (d, true, r.ren (fun _ => c) s.up.length) :: fr, s.put s.up.length d c .dead⟩
  | none, z => z
@[simp] theorem oc2_some (d c : Nat) (r : V) (z : Option XS) : oc2 d c fr s (some r) z = some ⟨c + 1, (d, true, r.ren (fun _ => c) s.up.length) :: fr, s.put s.up.length d c .dead⟩ := rfl
noncomputable def oc1 (d c : Nat) (fr : Fr) (s : St) (F : List V → Option V) : Option (List V) → Option XS → Option XS
  | some vs, z => oc2 d c fr s (F vs) z
  | none, z => z
@[simp] theorem oc1_some (d c : Nat) (F : List V → Option V) (vs : List V) (z : Option XS) : oc1 d c fr s F (some vs) z = oc2 d c fr s (F vs) z := rfl
@[simp] theorem own_func {f : FuncId} (hS : sliceR P f = false) (d c : Nat) (args : List Operand) : stepK P (envA P A kn n) (some d) (.call true none (.func f) args) ⟨c, fr, s⟩ =
    oc1 d c fr s (fun vs => callW P kn (execA P A kn n) f (vs.map weakV)) (mapO (rdX fr) args) (xCall (envA P A kn n).cf (envA P A kn n).cy (some d) (.func f) args ⟨c, fr, s⟩) := by
  show xCalF (envA P A kn n) true (some d) (.func f) args ⟨c, fr, s⟩ = _
  unfold xCalF
  show (match xCallO (envA P A kn n).co (some d) (.func f) args ⟨c, fr, s⟩ with | some st' => some st' | none => _) = _
  unfold xCallO
  have hf : rdX fr (.func f) = some (.fn f [] []) := rfl
  simp only [hf]
  cases mapO (rdX fr) args with
  | none => rfl
  | some vs =>
    simp only [oc1_some, List.nil_append, List.append_nil]
    have : (envA P A kn n).co f (vs.map weakV) d = (match callW P kn (execA P A kn n) f (vs.map weakV) with | some r => some ⟨.dead, some r⟩ | none => none) := by
      show callO P kn (fun _ _ _ => none) (execA P A kn n) f _ d = _
      unfold callO
      simp only [hS]
      cases callW P kn (execA P A kn n) f (vs.map weakV) <;> rfl
    rw [this]
    cases callW P kn (execA P A kn n) f (vs.map weakV) with
    | none => rfl
    | some r => rfl
noncomputable def od2 (d c : Nat) (fr : Fr) (s : St) : Option V → Option XS
  | some r => some ⟨c + 1, (d, true, r.ren (fun _ => c) s.up.length) :: fr, s.put s.up.length d c .dead⟩
  | none => none
@[simp] theorem od2_some (d c : Nat) (r : V) : od2 d c fr s (some r) = some ⟨c + 1, (d, true, r.ren (fun _ => c) s.up.length) :: fr, s.put s.up.length d c .dead⟩ := rfl
noncomputable def od1 (d c : Nat) (fr : Fr) (s : St) (F : List V → Option V) : Option (List V) → Option XS
  | some vs => od2 d c fr s (F vs)
  | none => none
@[simp] theorem od1_some (d c : Nat) (F : List V → Option V) (vs : List V) : od1 d c fr s F (some vs) = od2 d c fr s (F vs) := rfl
@[simp] theorem own_func0 {f : FuncId} (hS : sliceR P f = false) (d c : Nat) (args : List Operand) : stepK0 P (envA P A kn n) (some d) (.call true none (.func f) args) ⟨c, fr, s⟩ =
    nw (od1 d c fr s (fun vs => callW P kn (execA P A kn n) f (vs.map weakV)) (mapO (rdX fr) args)) := by
  show noW (xCallO (envA P A kn n).co (some d) (.func f) args ⟨c, fr, s⟩) = _
  rw [noW_nw]
  congr 1
  unfold xCallO
  have hf : rdX fr (.func f) = some (.fn f [] []) := rfl
  simp only [hf]
  cases mapO (rdX fr) args with
  | none => rfl
  | some vs =>
    simp only [od1_some, List.nil_append, List.append_nil]
    have : (envA P A kn n).co f (vs.map weakV) d = (match callW P kn (execA P A kn n) f (vs.map weakV) with | some r => some ⟨.dead, some r⟩ | none => none) := by
      show callO P kn (fun _ _ _ => none) (execA P A kn n) f _ d = _
      unfold callO
      simp only [hS]
      cases callW P kn (execA P A kn n) f (vs.map weakV) <;> rfl
    rw [this]
    cases callW P kn (execA P A kn n) f (vs.map weakV) with
    | none => rfl
    | some r => rfl
@[simp] theorem ren_sl {σ : Nat → Nat} {δ : Nat} (es : List (List V)) : (sl es).ren σ δ = sl (es.map (List.map (V.ren σ δ))) := by cases es <;> simp [sl]
end Go.Pg
namespace Go.Proofs.Try.Op
@[simp] theorem sr_21 : sliceR Try.prog 21 = false := by kernel_rfl
@[simp] theorem sr_23 : sliceR Try.prog 23 = false := by kernel_rfl
@[simp] theorem sr_26 : sliceR Try.prog 26 = false := by kernel_rfl
@[simp] theorem sr_27 : sliceR Try.prog 27 = false := by kernel_rfl
@[simp] theorem sr_28 : sliceR Try.prog 28 = false := by kernel_rfl
@[simp] theorem sr_29 : sliceR Try.prog 29 = false := by kernel_rfl
@[simp] theorem sr_31 : sliceR Try.prog 31 = false := by kernel_rfl
@[simp] theorem sr_32 : sliceR Try.prog 32 = false := by kernel_rfl
@[simp] theorem sr_33 : sliceR Try.prog 33 = false := by kernel_rfl
@[simp] theorem sr_34 : sliceR Try.prog 34 = false := by kernel_rfl
@[simp] theorem sr_36 : sliceR Try.prog 36 = true := by kernel_rfl
@[simp] theorem sr_37 : sliceR Try.prog 37 = false := by kernel_rfl
@[simp] theorem sr_38 : sliceR Try.prog 38 = false := by kernel_rfl
@[simp] theorem sr_39 : sliceR Try.prog 39 = false := by kernel_rfl
@[simp] theorem sr_40 : sliceR Try.prog 40 = false := by kernel_rfl
@[simp] theorem sr_41 : sliceR Try.prog 41 = false := by kernel_rfl
@[simp] theorem sr_42 : sliceR Try.prog 42 = false := by kernel_rfl
@[simp] theorem sr_43 : sliceR Try.prog 43 = true := by kernel_rfl
@[simp] theorem sr_44 : sliceR Try.prog 44 = false := by kernel_rfl
@[simp] theorem sr_45 : sliceR Try.prog 45 = false := by kernel_rfl
@[simp] theorem sr_46 : sliceR Try.prog 46 = false := by kernel_rfl
@[simp] theorem sr_47 : sliceR Try.prog 47 = false := by kernel_rfl
@[simp] theorem sr_48 : sliceR Try.prog 48 = false := by kernel_rfl
@[simp] theorem sr_49 : sliceR Try.prog 49 = false := by kernel_rfl
@[simp] theorem sr_50 : sliceR Try.prog 50 = true := by kernel_rfl
@[simp] theorem sr_51 : sliceR Try.prog 51 = true := by kernel_rfl
@[simp] theorem sr_52 : sliceR Try.prog 52 = false := by kernel_rfl
@[simp] theorem sr_53 : sliceR Try.prog 53 = false := by kernel_rfl
@[simp] theorem sr_54 : sliceR Try.prog 54 = false := by kernel_rfl
@[simp] theorem sr_55 : sliceR Try.prog 55 = false := by kernel_rfl
@[simp] theorem sr_56 : sliceR Try.prog 56 = false := by kernel_rfl
@[simp] theorem sr_57 : sliceR Try.prog 57 = false := by kernel_rfl
@[simp] theorem sr_58 : sliceR Try.prog 58 = false := by kernel_rfl
@[simp] theorem sr_61 : sliceR Try.prog 61 = false := by kernel_rfl
@[simp] theorem sr_62 : sliceR Try.prog 62 = false := by kernel_rfl
@[simp] theorem sr_63 : sliceR Try.prog 63 = false := by kernel_rfl
@[simp] theorem sr_64 : sliceR Try.prog 64 = false := by kernel_rfl
@[simp] theorem sr_65 : sliceR Try.prog 65 = false := by kernel_rfl
@[simp] theorem sr_66 : sliceR Try.prog 66 = false := by kernel_rfl
@[simp] theorem sr_67 : sliceR Try.prog 67 = false := by kernel_rfl
@[simp] theorem sr_68 : sliceR Try.prog 68 = false := by kernel_rfl
@[simp] theorem sr_69 : sliceR Try.prog 69 = false := by kernel_rfl
@[simp] theorem sr_70 : sliceR Try.prog 70 = false := by kernel_rfl
@[simp] theorem sr_71 : sliceR Try.prog 71 = true := by kernel_rfl
@[simp] theorem sr_72 : sliceR Try.prog 72 = false := by kernel_rfl
@[simp] theorem sr_73 : sliceR Try.prog 73 = false := by kernel_rfl
@[simp] theorem sr_74 : sliceR Try.prog 74 = false := by kernel_rfl
@[simp] theorem sr_75 : sliceR Try.prog 75 = false := by kernel_rfl
@[simp] theorem sr_76 : sliceR Try.prog 76 = false := by kernel_rfl
@[simp] theorem sr_77 : sliceR Try.prog 77 = false := by kernel_rfl
@[simp] theorem sr_78 : sliceR Try.prog 78 = false := by kernel_rfl
@[simp] theorem sr_81 : sliceR Try.prog 81 = true := by kernel_rfl
@[simp] theorem sr_83 : sliceR Try.prog 83 = true := by kernel_rfl
@[simp] theorem sr_84 : sliceR Try.prog 84 = false := by kernel_rfl
@[simp] theorem sr_86 : sliceR Try.prog 86 = false := by kernel_rfl
@[simp] theorem sr_88 : sliceR Try.prog 88 = false := by kernel_rfl
@[simp] theorem sr_89 : sliceR Try.prog 89 = false := by kernel_rfl
@[simp] theorem sr_90 : sliceR Try.prog 90 = false := by kernel_rfl
@[simp] theorem sr_91 : sliceR Try.prog 91 = false := by kernel_rfl
@[simp] theorem sr_92 : sliceR Try.prog 92 = false := by kernel_rfl
@[simp] theorem sr_93 : sliceR Try.prog 93 = false := by kernel_rfl
@[simp] theorem sr_94 : sliceR Try.prog 94 = false := by kernel_rfl
@[simp] theorem sr_95 : sliceR Try.prog 95 = false := by kernel_rfl
@[simp] theorem sr_96 : sliceR Try.prog 96 = false := by kernel_rfl
@[simp] theorem sr_97 : sliceR Try.prog 97 = false := by kernel_rfl
@[simp] theorem sr_98 : sliceR Try.prog 98 = false := by kernel_rfl
@[simp] theorem sr_99 : sliceR Try.prog 99 = false := by kernel_rfl
@[simp] theorem sr_100 : sliceR Try.prog 100 = false := by kernel_rfl
@[simp] theorem sr_101 : sliceR Try.prog 101 = false := by kernel_rfl
@[simp] theorem sr_104 : sliceR Try.prog 104 = false := by kernel_rfl
@[simp] theorem sr_105 : sliceR Try.prog 105 = false := by kernel_rfl
@[simp] theorem sr_109 : sliceR Try.prog 109 = false := by kernel_rfl
@[simp] theorem sr_110 : sliceR Try.prog 110 = false := by kernel_rfl
@[simp] theorem sr_112 : sliceR Try.prog 112 = false := by kernel_rfl
@[simp] theorem sr_113 : sliceR Try.prog 113 = false := by kernel_rfl
@[simp] theorem sr_119 : sliceR Try.prog 119 = false := by kernel_rfl
end Go.Proofs.Try.Op
/- Contracts: Out, Money, Mixed of the program. No condition. -/
open Go Go.Pg Go.Proofs
namespace Go.Proofs.Try.Op
set_option maxRecDepth 100000
set_option linter.unusedSimpArgs false
@[simp] theorem weakC_fn (f : FuncId) (x y : List V) : weakC (.fn f x y) = .fn f x y := rfl
@[simp] theorem build_115 (ps : List (Nat × V)) : evBuild Try.prog 115 ps = if (ps.all fun p => flatOk p.2) = true then ma1 .agg (fillV (fun i => [(0, 1)][i]?) [.raw .nilFunc] ps) else none := build_of (by kernel_rfl) Try.underlying115 (by kernel_rfl) (by kernel_rfl) ps
def chP (s : Scene) (j : Nat) : Bool := !decide (s.ch.getD j 0 = 0)
def tkP (s : Scene) (j : Nat) : Bool := !decide (s.tk.getD j 0 = 0)
/-- what Out gives -/
def outV (b : Book) (k : Int) : V := if askedP b (inB k 0 b.lines.length) = 0 then .tup [sl ((verdsP b chP k.toNat).map encI), sl ((verdsP b tkP k.toNat).map encI), i 0] else .tup [.nil, .nil, i (askedP b (inB k 0 b.lines.length))]
def boundsP (b : Book) (φ : Scene → Int) (k : Nat) : Int × Int := (runT (fun a _ ss => widen a (φ (ss.getD k scene0))) none (truthsP b)).getD (0, 0)
/-- what Money, and what Mixed gives -/
def moneyV (b : Book) (k : Int) : V := if askedP b (inB k 0 b.lines.length) = 0 then .tup [.agg [i (boundsP b Scene.money k.toNat).1, i (boundsP b Scene.money k.toNat).2], i 0] else .tup [.agg [i 0, i 0], i (askedP b (inB k 0 b.lines.length))]
def mixedV (b : Book) : V := if askedP b true = 0 then .tup [.agg [i (boundsP b Scene.mixed b.lines.length).1, i (boundsP b Scene.mixed b.lines.length).2], i 0] else .tup [.agg [i 0, i 0], i (askedP b true)]
end Go.Proofs.Try.Op
