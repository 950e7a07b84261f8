/- The plain law of TokenNumbers: exchanges of tokens, and of chairs with tokens. No condition. -/
import Derived.Test.YtfbbnkaahnpicaaT2
import Derived.Test.YtfbbnkaahnpicaaFz
import Derived.Test.YtfbbnkaahnpicaaY1
import Derived.Test.YtfbbnkaahnpicaaSx
import Derived.Test.YtfbbnkaahnpicaaGt
open Go Go.Pg Go.Proofs
namespace Go.Proofs.Try.Op
set_option maxRecDepth 100000
set_option linter.unusedSimpArgs false
def swI (p q z : Int) : Int := if z = p then q else if z = q then p else z
def swL (p q : Int) (l : Line) : Line := ⟨l.k, l.c, swI p q l.t⟩
def exL (l : Line) : Line := ⟨l.k, l.t, l.c⟩
def mapB (φ : Line → Line) (b : Book) : Book := { b with lines := b.lines.map φ }
/-- an exchange -/
structure Ex (C : Int) (φ : Line → Line) : Prop where
  inv : ∀ l, φ (φ l) = l
  kind : ∀ l, (φ l).k = l.k
  ok : ∀ l, lineOk C (φ l) = lineOk C l
  len : ∀ l, lineOk C l = true → (readings C (φ l)).length = (readings C l).length
  read : ∀ l x, readOne C (φ l) (φ x) = readOne C l x
  poss : ∀ ts k t, possOne (ts.map φ) k (φ t) = possOne ts k t
  mix : ∀ ts k t, mixOne (ts.map φ) k (φ t) = mixOne ts k t
theorem outGo_map {φ : Line → Line} (hk : ∀ l, (φ l).k = l.k) {s s' : Line → Int} {x x' : Int} (h : ∀ l, s' (φ l) = x' ↔ s l = x) : ∀ (ts : List Line) (k : Nat) (v : Int), outGo s' x' k v (ts.map φ) = outGo s x k v ts
  | [], _, _ => rfl
  | t :: r, k, v => by
    simp only [List.map_cons, outGo, hk, h]
    exact outGo_map hk h r _ _
theorem outB_map {φ : Line → Line} (hk : ∀ l, (φ l).k = l.k) {s s' : Line → Int} {x x' : Int} (h : ∀ l, s' (φ l) = x' ↔ s l = x) (ts : List Line) (a : Nat) : outB s' (ts.map φ) a x' = outB s ts a x := by
  unfold outB
  rw [← List.map_take]
  exact outGo_map hk h _ _ _
/-- how many readings there are -/
def numOK : Bool := [1, 2, 3, 4].all fun C : Int => [0, 1, 2].all fun k : Int => [-1, 0, 1, 2, 3].all fun c : Int => [-1, 0, 1, 2, 3].all fun t : Int =>
  !(lineOk C ⟨k, c, t⟩) || decide ((readings C ⟨k, c, t⟩).length = (if k = 0 then 2 else 1) * ((if c < 0 then C.toNat else 1) * (if t < 0 then C.toNat else 1)))
theorem numOK_true : numOK = true := by decide +kernel
theorem num_eq {C : Int} (h1 : 1 ≤ C) (h4 : C ≤ 4) {l : Line} (h : lineOk C l = true) : (readings C l).length = (if l.k = 0 then 2 else 1) * ((if l.c < 0 then C.toNat else 1) * (if l.t < 0 then C.toNat else 1)) := by
  obtain ⟨k, c, t⟩ := l
  obtain ⟨v1, v2, v3⟩ := valL_spec h
  simp only at v1 v2 v3
  have q := List.all_eq_true.1 (List.all_eq_true.1 (List.all_eq_true.1 (List.all_eq_true.1 numOK_true C (mem4 h1 h4)) k (mem3 v1.1 v1.2)) c (mem5 v2.1 (by omega))) t (mem5 v3.1 (by omega))
  rw [h] at q
  simpa using q
theorem swI_inv {p q : Int} (z : Int) : swI p q (swI p q z) = z := by
  unfold swI
  split <;> split <;> (try split) <;> omega
theorem swI_eq {p q x y : Int} : swI p q x = swI p q y ↔ x = y :=
  ⟨fun h => by have := congrArg (swI p q) h; rwa [swI_inv, swI_inv] at this, fun h => by rw [h]⟩
theorem swI_neg {p q : Int} (hp : 0 ≤ p) (hq : 0 ≤ q) (z : Int) : swI p q z < 0 ↔ z < 0 := by
  unfold swI
  split <;> (try split) <;> omega
theorem swI_in {p q C : Int} (hp : 0 ≤ p) (hp2 : p < C) (hq : 0 ≤ q) (hq2 : q < C) {lo : Int} (hlo : lo ≤ 0) (z : Int) : inB (swI p q z) lo (C - 1) = inB z lo (C - 1) := by
  unfold inB swI
  rw [Bool.eq_iff_iff]
  simp only [Bool.and_eq_true, decide_eq_true_eq]
  split <;> (try split) <;> omega
theorem ex_swL {C p q : Int} (h1 : 1 ≤ C) (h4 : C ≤ 4) (hp : 0 ≤ p) (hp2 : p < C) (hq : 0 ≤ q) (hq2 : q < C) : Ex C (swL p q) where
  inv := fun l => by simp only [swL, swI_inv]
  kind := fun l => rfl
  ok := fun l => by simp only [lineOk, swL, swI_in hp hp2 hq hq2 (show (-1 : Int) ≤ 0 by decide)]
  len := fun l h => by
    have h' : lineOk C (swL p q l) = true := by simpa only [lineOk, swL, swI_in hp hp2 hq hq2 (show (-1 : Int) ≤ 0 by decide)] using h
    rw [num_eq h1 h4 h, num_eq h1 h4 h']
    simp only [swL, swI_neg hp hq]
    rfl
  read := fun l x => by
    simp only [readOne, swL, swI_in hp hp2 hq hq2 (Int.le_refl 0), agreesB, swI_eq, swI_neg hp hq]
    rfl
  poss := fun ts k t => by
    have e1 : outB Line.c (ts.map (swL p q)) k (swL p q t).c = outB Line.c ts k t.c := outB_map (φ := swL p q) (s := Line.c) (s' := Line.c) (fun _ => rfl) (fun _ => Iff.rfl) ts k
    have e2 : outB Line.t (ts.map (swL p q)) k (swL p q t).t = outB Line.t ts k t.t := outB_map (φ := swL p q) (s := Line.t) (s' := Line.t) (fun _ => rfl) (fun _ => swI_eq) ts k
    unfold possOne
    rw [e1, e2]
    rfl
  mix := fun ts k t => by
    have e1 : outB Line.c (ts.map (swL p q)) k (swL p q t).c = outB Line.c ts k t.c := outB_map (φ := swL p q) (s := Line.c) (s' := Line.c) (fun _ => rfl) (fun _ => Iff.rfl) ts k
    have e2 : outB Line.t (ts.map (swL p q)) k (swL p q t).t = outB Line.t ts k t.t := outB_map (φ := swL p q) (s := Line.t) (s' := Line.t) (fun _ => rfl) (fun _ => swI_eq) ts k
    unfold mixOne
    rw [e1, e2]
    rfl
theorem ex_exL {C : Int} (h1 : 1 ≤ C) (h4 : C ≤ 4) : Ex C exL where
  inv := fun l => rfl
  kind := fun l => rfl
  ok := fun l => by simp only [lineOk, exL, Bool.and_comm]
  len := fun l h => by
    have h' : lineOk C (exL l) = true := by simpa only [lineOk, exL, Bool.and_comm] using h
    rw [num_eq h1 h4 h, num_eq h1 h4 h']
    have e : (if l.t < 0 then C.toNat else 1) * (if l.c < 0 then C.toNat else 1) = (if l.c < 0 then C.toNat else 1) * (if l.t < 0 then C.toNat else 1) := Nat.mul_comm _ _
    exact congrArg (fun z => (if l.k = 0 then 2 else 1) * z) e
  read := fun l x => by
    have g : ∀ a1 a2 a3 a4 a5 a6 : Bool, (a1 && (a3 && (a2 && (a6 && (a5 && a4))))) = (a1 && (a2 && (a3 && (a6 && (a4 && a5))))) := by decide
    exact g (inB x.k 1 2) (inB x.c 0 (C - 1)) (inB x.t 0 (C - 1)) (decide (l.c < 0) || decide (l.c = x.c)) (decide (l.t < 0) || decide (l.t = x.t)) (decide (l.k = 0) || decide (l.k = x.k))
  poss := fun ts k t => by
    have e1 : outB Line.c (ts.map exL) k (exL t).c = outB Line.t ts k t.t := outB_map (φ := exL) (s := Line.t) (s' := Line.c) (fun _ => rfl) (fun _ => Iff.rfl) ts k
    have e2 : outB Line.t (ts.map exL) k (exL t).t = outB Line.c ts k t.c := outB_map (φ := exL) (s := Line.c) (s' := Line.t) (fun _ => rfl) (fun _ => Iff.rfl) ts k
    unfold possOne
    rw [e1, e2, Bool.or_comm]
    rfl
  mix := fun ts k t => by
    have e1 : outB Line.c (ts.map exL) k (exL t).c = outB Line.t ts k t.t := outB_map (φ := exL) (s := Line.t) (s' := Line.c) (fun _ => rfl) (fun _ => Iff.rfl) ts k
    have e2 : outB Line.t (ts.map exL) k (exL t).t = outB Line.c ts k t.c := outB_map (φ := exL) (s := Line.c) (s' := Line.t) (fun _ => rfl) (fun _ => Iff.rfl) ts k
    unfold mixOne
    rw [e1, e2]
    have : decide (outB Line.t ts k t.t = outB Line.c ts k t.c) = decide (outB Line.c ts k t.c = outB Line.t ts k t.t) := by
      congr 1
      exact propext ⟨Eq.symm, Eq.symm⟩
    rw [this]
    rfl
section
variable {C : Int} {φ : Line → Line}
theorem Ex.mapmap (h : Ex C φ) (t : List Line) : (t.map φ).map φ = t := by
  rw [List.map_map]
  conv => rhs; rw [← List.map_id t]
  exact List.map_congr_left fun l _ => h.inv l
theorem Ex.many (h : Ex C φ) : ∀ (ls : List Line) (n : Int), (∀ l ∈ ls, lineOk C l = true) → manyGo C n (ls.map φ) = manyGo C n ls
  | [], _, _ => rfl
  | l :: r, n, hl => by
    have ih := Ex.many h r (min5 (n * ((readings C l).length : Int))) fun x hx => hl x (by simp [hx])
    unfold manyGo at ih ⊢
    simp only [List.map_cons, List.foldl_cons, h.len l (hl l (by simp))]
    exact ih
theorem Ex.readGo (h : Ex C φ) : ∀ (ls ts : List Line), readGo C (ls.map φ) (ts.map φ) = Op.readGo C ls ts
  | [], [] => rfl
  | [], _ :: _ => rfl
  | _ :: _, [] => rfl
  | l :: ls, t :: ts => by
    simp only [List.map_cons, Op.readGo, h.read, Ex.readGo h ls ts]
theorem Ex.possGo (h : Ex C φ) (ts : List Line) : ∀ (l : List Line) (k : Nat), possGo (ts.map φ) k (l.map φ) = Op.possGo ts k l
  | [], _ => rfl
  | x :: r, k => by
    simp only [List.map_cons, Op.possGo, h.poss, Ex.possGo h ts r]
theorem Ex.mixGo (h : Ex C φ) (ts : List Line) : ∀ (l : List Line) (k : Nat) (v : Int), mixGo (ts.map φ) k v (l.map φ) = Op.mixGo ts k v l
  | [], _, _ => rfl
  | x :: r, k, v => by
    simp only [List.map_cons, Op.mixGo, h.mix, Ex.mixGo h ts r]
theorem Ex.mixB (h : Ex C φ) (ts : List Line) : mixB (ts.map φ) = Op.mixB ts := h.mixGo ts ts 0 0
theorem Ex.moneyGo (h : Ex C φ) (coin : Int) : ∀ (ts : List Line) (v : Int), moneyGo coin v (ts.map φ) = Op.moneyGo coin v ts
  | [], _ => rfl
  | x :: r, v => by
    simp only [List.map_cons, Op.moneyGo, h.kind, Ex.moneyGo h coin r]
theorem Ex.moneyB (h : Ex C φ) (b : Book) (ts : List Line) (a : Nat) : moneyB (mapB φ b) (ts.map φ) a = Op.moneyB b ts a := by
  unfold Op.moneyB
  rw [← List.map_take]
  exact h.moneyGo _ _ _
variable {b : Book}
theorem Ex.fault (h : Ex b.chairs φ) (hf : faultB b = 0) : faultB (mapB φ b) = 0 := by
  obtain ⟨h1, h4, hl8, hc4, hc1, hc2, hx1, hx2, hok, hcok, hm⟩ := fault0 hf
  have e1 : (b.lines.map φ).all (lineOk b.chairs) = b.lines.all (lineOk b.chairs) := by
    rw [List.all_map]
    congr 1
    exact funext h.ok
  have e2 := h.many b.lines 1 fun l hl => List.all_eq_true.1 hok l hl
  rw [← hf]
  simp only [faultB, mapB, e1, e2, List.length_map]
  rfl
theorem Ex.fits (h : Ex b.chairs φ) (t : List Line) : fitsB (mapB φ b) (t.map φ) = fitsB b t := by
  have e : ∀ x, cntOne (mapB φ b) (t.map φ) x = cntOne b t x := fun x => by unfold cntOne; rw [h.moneyB]
  have e1 : isReadB (mapB φ b) (t.map φ) = isReadB b t := by
    simp only [isReadB, mapB, List.length_map, h.readGo]
  have e2 : isPossB (t.map φ) = isPossB t := h.possGo t t 0
  have e3 : (mapB φ b).counts.all (cntOne (mapB φ b) (t.map φ)) = b.counts.all (cntOne b t) := by
    show b.counts.all (cntOne (mapB φ b) (t.map φ)) = _
    congr 1
    exact funext e
  unfold fitsB
  rw [e1, e2, e3]
theorem Ex.mem (h : Ex b.chairs φ) (hf : faultB b = 0) {t : List Line} : t.map φ ∈ truthsR (mapB φ b) ↔ t ∈ truthsR b := by
  rw [truthsR_mem hf, truthsR_mem (h.fault hf), h.fits]
theorem Ex.mem2 (h : Ex b.chairs φ) (hf : faultB b = 0) {t : List Line} : t ∈ truthsR (mapB φ b) ↔ t.map φ ∈ truthsR b := by
  rw [← h.mem hf, h.mapmap]
theorem Ex.none (h : Ex b.chairs φ) (hf : faultB b = 0) : truthsR (mapB φ b) = [] ↔ truthsR b = [] := by
  rw [List.eq_nil_iff_forall_not_mem, List.eq_nil_iff_forall_not_mem]
  exact ⟨fun q t ht => q _ ((h.mem hf).2 ht), fun q t ht => q _ ((h.mem2 hf).1 ht)⟩
theorem Ex.asked (h : Ex b.chairs φ) (hf : faultB b = 0) : askedP (mapB φ b) true = askedP b true := by
  rw [asked_eq hf, asked_eq (h.fault hf)]
  by_cases hE : truthsR b = []
  · rw [if_pos ((h.none hf).2 hE), if_pos hE]
  · rw [if_neg fun q => hE ((h.none hf).1 q), if_neg hE]
theorem Ex.verd (h : Ex b.chairs φ) (hf : faultB b = 0) (s s' : Line → Int) (hs : ∀ l, s' (φ l) = s l) (k : Nat) (j : Int) :
    verd ((truthsR (mapB φ b)).length : Nat) (outN s' (truthsR (mapB φ b)) k j) = Op.verd ((truthsR b).length : Nat) (outN s (truthsR b) k j) := by
  have e : ∀ t, outB s' (t.map φ) k j = outB s t k j := fun t => outB_map h.kind (fun l => by rw [hs]) t k
  have a1 : ∀ v : Bool, (∀ t ∈ truthsR (mapB φ b), decide (0 ≤ outB s' t k j) = v) ↔ ∀ t ∈ truthsR b, decide (0 ≤ outB s t k j) = v := by
    intro v
    constructor
    · intro q t ht
      rw [← e t]
      exact q _ ((h.mem hf).2 ht)
    · intro q t ht
      have := q _ ((h.mem2 hf).1 ht)
      rw [← e, h.mapmap] at this
      exact this
  refine verd_congr ?_ ?_
  · rw [outN, outN, count_all, count_all]
    exact a1 true
  · rw [outN, outN, count_none, count_none]
    exact a1 false
theorem Ex.bounds (h : Ex b.chairs φ) (hf : faultB b = 0) {f f' : List Line → Int} (hff : ∀ t, f' (t.map φ) = f t) {r r' : Int × Int} (h1 : BoundsOf (truthsR b) f r) (h2 : BoundsOf (truthsR (mapB φ b)) f' r') : r' = r := by
  refine h2.uniq h1 fun v => ⟨?_, ?_⟩
  · rintro ⟨t, ht, e⟩
    refine ⟨t.map φ, (h.mem2 hf).1 ht, ?_⟩
    rw [← hff, h.mapmap]
    exact e
  · rintro ⟨t, ht, e⟩
    exact ⟨t.map φ, (h.mem hf).2 ht, by rw [hff]; exact e⟩
/-- what stays the same -/
structure Same2 (b b' : Book) (k : Nat) : Prop where
  asked : askedP b' true = askedP b true
  money : truthsR b ≠ [] → boundsP b' Scene.money k = boundsP b Scene.money k
  mixed : truthsR b ≠ [] → boundsP b' Scene.mixed b'.lines.length = boundsP b Scene.mixed b.lines.length
theorem Ex.same (h : Ex b.chairs φ) (hf : faultB b = 0) {k : Nat} (hk : k ≤ b.lines.length) : Same2 b (mapB φ b) k where
  asked := h.asked hf
  money := fun hE => by
    have hk' : k ≤ (mapB φ b).lines.length := by simpa [mapB] using hk
    exact h.bounds hf (fun t => h.moneyB b t k) (boundsM hf hk hE) (boundsM (h.fault hf) hk' fun q => hE ((h.none hf).1 q))
  mixed := fun hE => h.bounds hf h.mixB (boundsX hf hE) (boundsX (h.fault hf) fun q => hE ((h.none hf).1 q))
theorem sw_chairs {p q : Int} {k : Nat} (hf : faultB b = 0) (hp : 0 ≤ p) (hp2 : p < b.chairs) (hq : 0 ≤ q) (hq2 : q < b.chairs) (hk : k ≤ b.lines.length) : verdsP (mapB (swL p q) b) chP k = verdsP b chP k := by
  obtain ⟨h1, h4, _⟩ := fault0 hf
  have h := ex_swL h1 h4 hp hp2 hq hq2
  have hk' : k ≤ (mapB (swL p q) b).lines.length := by simpa [mapB] using hk
  rw [verdsC hf hk, verdsC (h.fault hf) hk']
  exact List.map_congr_left fun j _ => h.verd hf Line.c Line.c (fun _ => rfl) k _
theorem ex_chairs {k : Nat} (hf : faultB b = 0) (hk : k ≤ b.lines.length) : verdsP (mapB exL b) chP k = verdsP b tkP k ∧ verdsP (mapB exL b) tkP k = verdsP b chP k := by
  obtain ⟨h1, h4, _⟩ := fault0 hf
  have h := ex_exL (C := b.chairs) h1 h4
  have hk' : k ≤ (mapB exL b).lines.length := by simpa [mapB] using hk
  rw [verdsC hf hk, verdsC (h.fault hf) hk', verdsT hf hk, verdsT (h.fault hf) hk']
  exact ⟨List.map_congr_left fun j _ => h.verd hf Line.t Line.c (fun _ => rfl) k _, List.map_congr_left fun j _ => h.verd hf Line.c Line.t (fun _ => rfl) k _⟩
end
end Go.Proofs.Try.Op
/- The walk of TokenMoney: true. No condition. -/
open Go Go.Pg Go.Proofs
namespace Go.Proofs.Try.Op
set_option maxRecDepth 100000
set_option linter.unusedSimpArgs false
theorem evEq45 {a b c d : Int} (ha : okI a) (hb : okI b) (hc : okI c) (hd : okI d) : evEq Try.prog 45 [i a, i b] [i c, i d] = some (decide (a = c) && decide (b = d)) := by
  have k3 : ∀ n : Int, (Lit.int .i64 n).wf = true → Program.keyLits Try.prog 15 3 [.int .i64 n] = some [.int .i64 n] := fun n h => by
    unfold Program.keyLits
    simp [Try.underlying3, h]
  have kl : ∀ {x y : Int}, okI x → okI y → Program.keyLits Try.prog 16 45 [.int .i64 x, .int .i64 y] = some [.int .i64 x, .int .i64 y] := fun {x y} hx hy => by
    unfold Program.keyLits
    simp [Try.underlying45, k3 _ (wfI hx), k3 _ (wfI hy)]
  have kt : (aggT Try.prog 45 && Program.keyTypeAt Try.prog 16 45 && !(Try.prog.eqGuardType Try.prog.depth 45)) = true := by kernel_rfl
  unfold evEq
  simp [plainC, kl ha hb, kl hc hd]
  refine ⟨⟨by simpa using kt, by simp [flatLits]⟩, ?_⟩
  simp only [eqLits, Bool.and_true]
  congr 1
theorem bounds_ok {f : List Line → Int} {L : List (List Line)} {r : Int × Int} (h : BoundsOf L f r) (hf : ∀ t ∈ L, -1000000 ≤ f t ∧ f t ≤ 1000000) : okI r.1 ∧ okI r.2 := by
  obtain ⟨t1, h1, e1⟩ := h.lo
  obtain ⟨t2, h2, e2⟩ := h.hi
  have a1 := hf t1 h1
  have a2 := hf t2 h2
  exact ⟨⟨by omega, by omega⟩, ⟨by omega, by omega⟩⟩
end Go.Proofs.Try.Op
/- The walk of TokenEnds: true. No condition. -/
open Go Go.Pg Go.Proofs
namespace Go.Proofs.Try.Op
set_option maxRecDepth 100000
set_option linter.unusedSimpArgs false
@[simp] theorem conv_3_70 (k : IntKind) (n : Int) : evConv Try.prog 3 70 (.int k n) = some (.int .u64 (IntKind.u64.wrap n)) := by
  unfold evConv
  rw [Try.underlying3, Try.underlying70]
@[simp] theorem conv_5_3 (k : IntKind) (n : Int) : evConv Try.prog 5 3 (.int k n) = some (.int .i64 (IntKind.i64.wrap n)) := by
  unfold evConv
  rw [Try.underlying5, Try.underlying3]
@[simp] theorem conv_73_3 (k : IntKind) (n : Int) : evConv Try.prog 73 3 (.int k n) = some (.int .i64 (IntKind.i64.wrap n)) := by
  unfold evConv
  rw [Try.underlying73, Try.underlying3]
theorem w64_0 : IntKind.u64.wrap 0 = 0 := by decide
theorem w64_1 : IntKind.u64.wrap 1 = 1 := by decide
theorem w64_2 : IntKind.u64.wrap 2 = 2 := by decide
theorem w64_3 : IntKind.u64.wrap 3 = 3 := by decide
attribute [simp] w64_0 w64_1 w64_2 w64_3
def rdy (b : Book) : Bool := thinB b && decide (faultB b = 0)
theorem k42 (n : Nat) (b : Book) : callK Try.prog kn (execA Try.prog ann kn (n+600)) 42 [.agg (cellsB b)] = some (.bool (rdy b)) := by
  rw [callK_of rfl, call0_eq Try.func42 b42 rfl (by simp [cellsB, encL, encC])]
  have q19 := fun n => k19 n b
  have q67 := fun n => k67 n b
  unfold rdy
  generalize hT : thinB b = t at q19
  generalize hF : decide (faultB b = 0) = f
  generalize faultB b = A at q67 hF
  simp only [cellsB] at q19 q67 ⊢
  cases t
  · simp [c42, argFr, q19, q67, encL, encC]
  · simp [c42, argFr, q19, q67, encL, encC, hF]
def orI (a b : Int) : Int := IntKind.i64.wrap ((BitVec.ofInt 64 a ||| BitVec.ofInt 64 b).toNat : Int)
def met4 (e0 e1 e2 e3 : Bool) (m : Int) : Int :=
  let m := if e0 = true then orI m 1 else m
  let m := if e1 = true then orI m 2 else m
  let m := if e2 = true then orI m 4 else m
  if e3 = true then orI m 8 else m
end Go.Proofs.Try.Op
/- Contract: equality of lists of numbers. No condition. -/
open Go Go.Pg Go.Proofs
namespace Go.Proofs.Try.Op
set_option maxRecDepth 100000
set_option linter.unusedSimpArgs false
theorem l40 (xs ys : List Int) (hlen : xs.length = ys.length) (hl : xs.length ≤ 1000) (c : Nat) : ∀ (d j : Nat), j + d = ys.length → ∀ n m, d < m →
    loopA (execA Try.prog ann kn (n+100) 26) lb40_4 (some ([0, 1, 5], [])) m ⟨c, [(0, true, .list false (xs.map encI)), (1, true, .list false (ys.map encI)), (5, true, i j)], ⟨[], []⟩⟩ =
      if xs.drop j = ys.drop j then some (.exit 0, ⟨c, [(14, true, .bool false), (13, true, i ys.length), (12, true, .list false (xs.map encI)), (11, true, i ys.length), (0, true, .list false (xs.map encI)), (1, true, .list false (ys.map encI)), (5, true, i ys.length)], ⟨[], []⟩⟩)
      else some (.ret, ⟨c, [(4, true, .bool false)], ⟨[], []⟩⟩)
  | 0, j, hd, n, m, hm => by
    have hj : j = ys.length := by omega
    subst hj
    obtain ⟨m, rfl⟩ : ∃ m', m = m' + 1 := ⟨m - 1, by omega⟩
    have e1 : xs.drop ys.length = [] := List.drop_eq_nil_of_le (by omega)
    rw [e1, List.drop_length, if_pos rfl]
    simp [loopA_succ, hlen]
    done
  | d + 1, j, hd, n, m, hm => by
    have hj : j < ys.length := by omega
    have hj2 : j < xs.length := by omega
    have hw : IntKind.i64.wrap ((j : Int) + 1) = (j : Int) + 1 := wrap_i64 (by omega) (by omega)
    obtain ⟨m, rfl⟩ : ∃ m', m = m' + 1 := ⟨m - 1, by omega⟩
    have ih := l40 xs ys hlen hl c d (j + 1) (by omega) n m (by omega)
    rw [List.drop_eq_getElem_cons hj, List.drop_eq_getElem_cons hj2, loopA_succ]
    by_cases he : xs[j] = ys[j]
    · simp only [List.cons.injEq, he, true_and]
      simp at ih
      simp [hj, hj2, hlen, hw, encI, he, ih]
      done
    · simp only [List.cons.injEq, he, false_and, if_false]
      simp [hj, hj2, hlen, hw, encI, he]
      done
theorem k40 (n : Nat) (xs ys : List Int) (hl : xs.length ≤ 90) : callK Try.prog kn (execA Try.prog ann kn (n+200)) 40 [.list false (xs.map encI), .list false (ys.map encI)] = some (.bool (decide (xs = ys))) := by
  rw [callK_of rfl, call0_eq Try.func40 b40 rfl (by simp [encI])]
  by_cases hlen : xs.length = ys.length
  · have h := l40 xs ys hlen (by omega) 0 ys.length 0 (by omega) (n + 94) (n + 194) (by omega)
    simp only [List.drop_zero] at h
    by_cases he : xs = ys
    · subst he
      rw [if_pos rfl] at h
      simp at h
      simp [c40, argFr, h]
      done
    · rw [if_neg he] at h
      simp [hlen] at h
      simp [c40, argFr, hlen, h, he]
      done
  · have he : ¬ xs = ys := fun h => hlen (by rw [h])
    have hlen' : ¬ ((xs.length : Int) = (ys.length : Int)) := by omega
    simp [c40, argFr, hlen', he]
    done
end Go.Proofs.Try.Op
/- Two rows under way. No program in sight. -/
open Go Go.Pg Go.Proofs
set_option linter.unusedSimpArgs false
namespace Go.Proofs.Try.Op
theorem kl_pl2 {j k : Nat} (h : j ≠ k) (γ γ2 : Nat) (T T2 : TypeId) (es fs : List (List V)) : kl j (kl k [] ((pl j γ T es ++ pl k γ2 T2 fs).get k)) ((pl j γ T es ++ pl k γ2 T2 fs).get j) = pl j γ T es ++ pl k γ2 T2 fs := by
  cases es <;> cases fs <;> simp [h, h.symm]
theorem get_pl2 {j k : Nat} (h : j ≠ k) (γ γ2 : Nat) (T T2 : TypeId) (es fs : List (List V)) : (pl j γ T es ++ pl k γ2 T2 fs).get k = (pl k γ2 T2 fs).get k := by
  cases es <;> cases fs <;> simp [h.symm]
theorem kl_pl3 {j k : Nat} (h : j ≠ k) (γ γ2 : Nat) (T T2 : TypeId) (es fs : List (List V)) (M : Level) : kl j M ((pl j γ T es ++ pl k γ2 T2 fs).get j) = pl j γ T es ++ M := by
  cases es <;> cases fs <;> simp [h, h.symm]
theorem get_pl4 {j k : Nat} (h : j ≠ k) (γ : Nat) (T : TypeId) (es : List (List V)) (x : Nat × Res) : (pl j γ T es ++ [(k, x)]).get k = some x := by
  cases es <;> simp [h.symm]
theorem kl_pl4 {j k : Nat} (h : j ≠ k) (γ : Nat) (T : TypeId) (es : List (List V)) (x : Nat × Res) (M : Level) : kl j M ((pl j γ T es ++ [(k, x)]).get j) = pl j γ T es ++ M := by
  cases es <;> simp [h, h.symm]
theorem get_pl5 {j k : Nat} (h : j ≠ k) (γ γ2 : Nat) (T T2 : TypeId) (es fs : List (List V)) : (pl j γ T es ++ pl k γ2 T2 fs).get j = (pl j γ T es).get j := by
  cases es <;> cases fs <;> simp [h]
theorem get_pl6 {j k m : Nat} (h1 : j ≠ m) (h2 : k ≠ m) (γ γ2 : Nat) (T T2 : TypeId) (es fs : List (List V)) : (pl j γ T es ++ pl k γ2 T2 fs).get m = none := by
  cases es <;> cases fs <;> simp [h1.symm, h2.symm]
theorem kl_pl7 {j : Nat} (γ : Nat) (T : TypeId) (es : List (List V)) (M : Level) : kl j M ((pl j γ T es).get j) = pl j γ T es ++ M := by
  cases es <;> simp
end Go.Proofs.Try.Op
/- The walk of TokenNumbers: true. No condition. -/
open Go Go.Pg Go.Proofs
namespace Go.Proofs.Try.Op
set_option maxRecDepth 100000
set_option linter.unusedSimpArgs false
theorem swL_eq (p q : Int) (l : Line) : encL (swL p q l) = [i l.k, i l.c, i (if l.t = p then q else if l.t = q then p else l.t)] := rfl
theorem l11 (b : Book) (hl : b.lines.length ≤ 30) (κ : Nat) (p q : Int) (g11 g12 : Nat) : ∀ (d j c γ1 γ2 : Nat), j + d = b.lines.length → g11 < c → g12 < c → ∃ (c' γ1' γ2' : Nat), c ≤ c' ∧ ∀ n m, d < m →
    loopA (execA Try.prog ann kn (n+100) 249) lb11_7 (some ([3, 4, 9, 10, 11, 12, 13], [4, 11, 12, 77, 95, 106, 108, 114, 116, 122, 124, 130, 137, 144, 151, 157, 163])) m ⟨c, [(3, true, .int .u8 κ), (4, true, .ptr 0 4 0 0), (9, true, i p), (10, true, i q), (11, true, .ptr 0 11 g11 0), (12, true, .ptr 0 12 g12 0), (13, true, i j)],
      ⟨[], (4, 0, .box (cellsB b)) :: (11, g11, .box [i b.chairs, i b.coin, i b.box, pv 95 γ1 (((b.lines.take j).map (swL p q)).map encL), .list false (b.counts.map encC)]) :: (12, g12, .box [i b.chairs, i b.coin, i b.box, pv 77 γ2 (((b.lines.take j).map exL).map encL), .list false (b.counts.map encC)]) :: (pl 77 γ2 75 (((b.lines.take j).map exL).map encL) ++ pl 95 γ1 75 (((b.lines.take j).map (swL p q)).map encL))⟩⟩ =
      some (.exit 0, ⟨c', [(59, true, .bool false), (58, true, i b.lines.length), (57, true, .list false (b.lines.map encL)), (56, true, .ptr 0 4 0 3), (55, true, i b.lines.length), (3, true, .int .u8 κ), (4, true, .ptr 0 4 0 0), (9, true, i p), (10, true, i q), (11, true, .ptr 0 11 g11 0), (12, true, .ptr 0 12 g12 0), (13, true, i b.lines.length)],
      ⟨[], (4, 0, .box (cellsB b)) :: (11, g11, .box [i b.chairs, i b.coin, i b.box, pv 95 γ1' ((b.lines.map (swL p q)).map encL), .list false (b.counts.map encC)]) :: (12, g12, .box [i b.chairs, i b.coin, i b.box, pv 77 γ2' ((b.lines.map exL).map encL), .list false (b.counts.map encC)]) :: (pl 77 γ2' 75 ((b.lines.map exL).map encL) ++ pl 95 γ1' 75 ((b.lines.map (swL p q)).map encL))⟩⟩)
  | 0, j, c, γ1, γ2, hd, h1, h2 => by
    have hj : j = b.lines.length := by omega
    subst hj
    rw [List.take_length]
    refine ⟨c, γ1, γ2, Nat.le_refl _, fun n m hm => ?_⟩
    obtain ⟨m, rfl⟩ : ∃ m', m = m' + 1 := ⟨m - 1, by omega⟩
    generalize b.lines.map (swL p q) = X
    generalize b.lines.map exL = Y
    simp [loopA_succ, cellsB, kl_pl2, get_pl6]
    done
  | d + 1, j, c, γ1, γ2, hd, h1, h2 => by
    have hj : j < b.lines.length := by omega
    have hw : IntKind.i64.wrap ((j : Int) + 1) = (j : Int) + 1 := wrap_i64 (by omega) (by omega)
    obtain ⟨c', γ1', γ2', i0, ih⟩ := l11 b hl κ p q g11 g12 d (j + 1) (c + 1 + 1 + 1) (c + 1 + 1) (c + 1) (by omega) (by omega) (by omega)
    refine ⟨c', γ1', γ2', by omega, fun n m hm => ?_⟩
    obtain ⟨m, rfl⟩ : ∃ m', m = m' + 1 := ⟨m - 1, by omega⟩
    have ih := ih n m (by omega)
    have hX : (b.lines.take (j + 1)).map (swL p q) = (b.lines.take j).map (swL p q) ++ [swL p q b.lines[j]] := by
      rw [List.take_succ_eq_append_getElem hj, List.map_append, List.map_cons, List.map_nil]
    have hY : (b.lines.take (j + 1)).map exL = (b.lines.take j).map exL ++ [exL b.lines[j]] := by
      rw [List.take_succ_eq_append_getElem hj, List.map_append, List.map_cons, List.map_nil]
    have hXl : ((b.lines.take j).map (swL p q)).length = j := by simp; omega
    have hYl : ((b.lines.take j).map exL).length = j := by simp; omega
    rw [hX, hY] at ih
    generalize (b.lines.take j).map (swL p q) = X at *
    generalize (b.lines.take j).map exL = Y at *
    generalize b.lines.map (swL p q) = FX at *
    generalize b.lines.map exL = FY at *
    have happ : ∀ (L : List Line) (u v w : Int), L.length = j → appOK Try.prog 75 L.length [[.int .i64 u, .int .i64 v, .int .i64 w]] = true := by
      intro L u v w hL
      rw [appOK_iff (by simp) (by simp)]
      simp [maxLen]
      omega
    have hx := happ X
    have hy := happ Y
    rw [hXl] at hx
    rw [hYl] at hy
    have g1 : g11 < c + 1 := by omega
    have g2 : g12 < c + 1 := by omega
    have g3 : g11 < c + 1 + 1 := by omega
    have g4 : g12 < c + 1 + 1 := by omega
    have g5 : g11 < c + 1 + 1 + 1 := by omega
    have g6 : g12 < c + 1 + 1 + 1 := by omega
    have g7 : c < c + 1 + 1 := by omega
    rw [loopA_succ]
    simp only [cellsB, List.map_append, List.map_cons, List.map_nil, swL_eq] at ih ⊢
    have eX : encL (exL b.lines[j]) = [i b.lines[j].k, i b.lines[j].t, i b.lines[j].c] := rfl
    rw [eX] at ih
    simp at ih
    by_cases e1 : b.lines[j].t = p
    · simp only [e1, if_true] at ih
      simp [hj, hw, e1, encL, hXl, hYl, hx, hy, plK, apK, h1, h2, g1, g2, g3, g4, g5, g6, g7, kl_pl3, get_pl2, get_pl4, get_pl5, get_pl6, kl_pl4, kl_pl7, ih]
      done
    · by_cases e2 : b.lines[j].t = q
      · have e3 : ¬ q = p := fun h => e1 (e2.trans h)
        simp only [e2, e3, if_true, if_false] at ih
        simp [hj, hw, e2, e3, encL, hXl, hYl, hx, hy, plK, apK, h1, h2, g1, g2, g3, g4, g5, g6, g7, kl_pl3, get_pl2, get_pl4, get_pl5, get_pl6, kl_pl4, kl_pl7, ih]
        done
      · simp only [e1, e2, if_false] at ih
        simp [hj, hw, e1, e2, encL, hXl, hYl, hx, hy, plK, apK, h1, h2, g1, g2, g3, g4, g5, g6, g7, kl_pl3, get_pl2, get_pl4, get_pl5, get_pl6, kl_pl4, kl_pl7, ih]
        done
theorem verdsP_len (b : Book) (q : Scene → Nat → Bool) (k : Nat) (hf : faultB b = 0) (hk : k ≤ b.lines.length) (hq : verdsP b q k = verdsP b chP k ∨ verdsP b q k = verdsP b tkP k) : (verdsP b q k).length ≤ 4 := by
  obtain ⟨h1, h4, _⟩ := fault0 hf
  rcases hq with h | h
  · rw [h, verdsC hf hk]; simp; omega
  · rw [h, verdsT hf hk]; simp; omega
set_option maxHeartbeats 2000000 in
theorem k11 (n : Nat) (b : Book) (κ1 κ2 κ3 : Nat) (_ : okBk b) (hκ1 : κ1 ≤ 255) (hκ2 : κ2 ≤ 255) (hκ3 : κ3 ≤ 255) : call0 Try.prog (execA Try.prog ann kn (n+5700)) 11 [.agg (cellsB b), .int .u8 κ1, .int .u8 κ2, .int .u8 κ3] = some (.bool true) := by
  rw [call0_eq Try.func11 b11 rfl (by simp [cellsB, encL, encC])]
  have q42 := fun n => k42 n b
  cases hR : rdy b with
  | false =>
    rw [hR] at q42
    simp only [cellsB] at q42 ⊢
    simp [c11, argFr, q42, encL, encC, k20]
  | true =>
    rw [hR] at q42
    simp only [rdy, Bool.and_eq_true, decide_eq_true_eq] at hR
    obtain ⟨hTh, hf⟩ := hR
    obtain ⟨h1, h4, hl8, hc4, hc1, hc2, hx1, hx2, hok, hcok, hm⟩ := fault0 hf
    have hw1 : IntKind.i64.wrap (κ1 : Int) = (κ1 : Int) := wrap_i64 (by omega) (by omega)
    have hw2 : IntKind.i64.wrap (κ2 : Int) = (κ2 : Int) := wrap_i64 (by omega) (by omega)
    have hw3 : IntKind.i64.wrap (κ3 : Int) = (κ3 : Int) := wrap_i64 (by omega) (by omega)
    have hw4 : IntKind.i64.wrap ((b.lines.length : Int) + 1) = (b.lines.length : Int) + 1 := wrap_i64 (by omega) (by omega)
    obtain ⟨C, hC⟩ : ∃ C : Nat, b.chairs = C := ⟨b.chairs.toNat, by omega⟩
    have hC0 : ¬ ((C : Int) = 0) := by omega
    have hC1 : ¬ C = 0 := by omega
    have hne : ¬ ((b.lines.length : Int) + 1 = 0) := by omega
    have m1 : (κ1 : Int).tmod (C : Int) = ((κ1 % C : Nat) : Int) := (Int.ofNat_tmod κ1 C).symm
    have m2 : (κ2 : Int).tmod (C : Int) = ((κ2 % C : Nat) : Int) := (Int.ofNat_tmod κ2 C).symm
    have m3 : (κ3 : Int).tmod ((b.lines.length : Int) + 1) = ((κ3 % (b.lines.length + 1) : Nat) : Int) := (Int.ofNat_tmod κ3 (b.lines.length + 1)).symm
    have hp := Nat.mod_lt κ1 (show 0 < C by omega)
    have hq := Nat.mod_lt κ2 (show 0 < C by omega)
    have hk : κ3 % (b.lines.length + 1) ≤ b.lines.length := by have := Nat.mod_lt κ3 (show 0 < b.lines.length + 1 by omega); omega
    generalize κ1 % C = p at m1 hp
    generalize κ2 % C = q at m2 hq
    generalize κ3 % (b.lines.length + 1) = k at m3 hk
    obtain ⟨c', γ1, γ2, i0, hlp⟩ := l11 b (by omega) κ3 p q 1 2 b.lines.length 0 3 0 0 (by omega) (by omega) (by omega)
    have hlp := hlp (n + 5591) (n + 5691) (by omega)
    have hX := ex_swL (p := (p : Int)) (q := (q : Int)) h1 h4 (by omega) (by omega) (by omega) (by omega)
    have hY := ex_exL h1 h4
    have hfX := hX.fault hf
    have hfY := hY.fault hf
    have sX := hX.same hf hk
    have sY := hY.same hf hk
    have eX := sw_chairs (p := (p : Int)) (q := (q : Int)) hf (by omega) (by omega) (by omega) (by omega) hk
    obtain ⟨eY1, eY2⟩ := ex_chairs hf hk
    have q22 := fun n => k22 n b (by omega) (by omega)
    have q22x := fun n => k22 n (mapB (swL p q) b) (by simp [mapB]; omega) (by simp [mapB]; omega)
    have q22y := fun n => k22 n (mapB exL b) (by simp [mapB]; omega) (by simp [mapB]; omega)
    have q21 := fun n => k21 n b k
    have q21x := fun n => k21 n (mapB (swL p q) b) k
    have q21y := fun n => k21 n (mapB exL b) k
    have q28 := fun n => k28 n b k
    have q28x := fun n => k28 n (mapB (swL p q) b) k
    have q28y := fun n => k28 n (mapB exL b) k
    have q29 := fun n => k29 n b
    have q29x := fun n => k29 n (mapB (swL p q) b)
    have q29y := fun n => k29 n (mapB exL b)
    unfold outV at q21 q21x q21y
    unfold moneyV at q28 q28x q28y
    unfold mixedV at q29 q29x q29y
    have hin : inB (k : Int) 0 b.lines.length = true := by simp [inB]; omega
    have hinX : inB (k : Int) 0 (mapB (swL p q) b).lines.length = true := by simp [inB, mapB]; omega
    have hinY : inB (k : Int) 0 (mapB exL b).lines.length = true := by simp [inB, mapB]; omega
    rw [hin] at q21 q28
    rw [hinX, sX.asked] at q21x q28x
    rw [hinY, sY.asked] at q21y q28y
    rw [sX.asked] at q29x
    rw [sY.asked] at q29y
    have ha := asked_eq (fine := true) hf
    rw [if_pos rfl] at ha
    by_cases hE : truthsR b = []
    · rw [if_pos hE] at ha
      rw [ha] at q21 q21x q21y q28 q28x q28y q29 q29x q29y
      simp only [show ¬ (11 : Int) = 0 by decide, if_false] at q21 q21x q21y q28 q28x q28y q29 q29x q29y
      have q40a := fun n => k40 n [] [] (by simp)
      rw [decide_eq_true rfl, List.map_nil] at q40a
      have e00 : evEq Try.prog 45 [i 0, i 0] [i 0, i 0] = some true := by rw [evEq45 (okI_of (by omega) (by omega)) (okI_of (by omega) (by omega)) (okI_of (by omega) (by omega)) (okI_of (by omega) (by omega))]; rfl
      simp only [mapB] at q22x q22y q21x q21y q28x q28y q29x q29y
      generalize b.lines.map (swL p q) = X at *
      generalize b.lines.map exL = Y at *
      simp only [cellsB, cellsT, cellsR, hC, List.take_zero, List.map_nil, pv_nil, pl_nil, List.append_nil] at q42 q22 q22x q22y q21 q21x q21y q28 q28x q28y q29 q29x q29y hlp ⊢
      simp at hlp
      simp [c11, argFr, get_pl5, q42, hw1, hw2, hw3, hw4, hC0, hC1, hne, m1, m2, m3, hlp, q22, q22x, q22y, q21, q21x, q21y, q28, q28x, q28y, q29, q29x, q29y, q40a, e00, encL, encC, k20]
      done
    · rw [if_neg hE] at ha
      rw [ha] at q21 q21x q21y q28 q28x q28y q29 q29x q29y
      simp only [Int.toNat_natCast, if_true] at q21 q21x q21y q28 q28x q28y q29 q29x q29y
      have hcl := verdsP_len b chP k hf hk (.inl rfl)
      have htl := verdsP_len b tkP k hf hk (.inr rfl)
      obtain ⟨o1, o2⟩ := bounds_ok (boundsM hf hk hE) fun t ht => by
        have := money_range hf ((truthsR_len hf).1 t ht) k
        omega
      obtain ⟨o3, o4⟩ := bounds_ok (boundsX hf hE) fun t ht => by
        have := mix_range hf ((truthsR_len hf).1 t ht)
        omega
      rw [eX] at q21x
      rw [eY1, eY2] at q21y
      rw [sX.money hE] at q28x
      rw [sY.money hE] at q28y
      rw [sX.mixed hE] at q29x
      rw [sY.mixed hE] at q29y
      generalize verdsP b chP k = A at *
      generalize verdsP b tkP k = B at *
      generalize verdsP (mapB (swL p q) b) tkP k = B' at *
      generalize boundsP b Scene.money k = m at *
      generalize boundsP b Scene.mixed b.lines.length = x at *
      have em : evEq Try.prog 45 [i m.1, i m.2] [i m.1, i m.2] = some true := by rw [evEq45 o1 o2 o1 o2]; simp
      have ex : evEq Try.prog 45 [i x.1, i x.2] [i x.1, i x.2] = some true := by rw [evEq45 o3 o4 o3 o4]; simp
      have q40a := fun n => k40 n A A (by omega)
      have q40b := fun n => k40 n B B (by omega)
      rw [decide_eq_true rfl] at q40a q40b
      simp only [mapB] at q22x q22y q21x q21y q28x q28y q29x q29y
      generalize b.lines.map (swL p q) = X at *
      generalize b.lines.map exL = Y at *
      simp only [cellsB, cellsT, cellsR, hC, List.take_zero, List.map_nil, pv_nil, pl_nil, List.append_nil] at q42 q22 q22x q22y q21 q21x q21y q28 q28x q28y q29 q29x q29y hlp ⊢
      simp at hlp
      simp [c11, argFr, get_pl5, q42, hw1, hw2, hw3, hw4, hC0, hC1, hne, m1, m2, m3, hlp, q22, q22x, q22y, q21, q21x, q21y, q28, q28x, q28y, q29, q29x, q29y, q40a, q40b, em, ex, encL, encC, k20]
      done
end Go.Proofs.Try.Op
