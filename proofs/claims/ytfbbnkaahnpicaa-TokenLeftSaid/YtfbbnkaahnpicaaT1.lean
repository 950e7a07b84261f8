/- Contracts: Nth, Truths of the reference, and sure. No condition. -/
import Derived.Test.YtfbbnkaahnpicaaZ2
import Derived.Test.YtfbbnkaahnpicaaFz
open Go Go.Pg Go.Proofs
namespace Go.Proofs.Try.Op
set_option maxRecDepth 100000
set_option linter.unusedSimpArgs false
def line0 : Line := ⟨0, 0, 0⟩
def nthGo (C : Int) (n : Nat) : List Line → List Line
  | [] => []
  | l :: r => (readings C l).getD (n % (readings C l).length) line0 :: nthGo C (n / (readings C l).length) r
theorem l51 (b : Book) (h1 : 1 ≤ b.chairs) (h4 : b.chairs ≤ 4) (hl : b.lines.length ≤ 100) (hpos : ∀ l ∈ b.lines, 0 < (readings b.chairs l).length) : ∀ (d k : Nat) (v : Nat) (out : List Line) (c γ : Nat), k + d = b.lines.length → v ≤ 5000 → out.length ≤ k → γ < c →
    ∃ c' γ' v' : Nat, γ' < c' ∧ ∀ n m, d < m → loopA (execA Try.prog ann kn (n+250) 37) lb51_3 (some ([1, 2, 5, 6], [2, 21, 31])) m ⟨c, [(1, true, i v), (2, true, .ptr 0 2 0 0), (5, true, pv 31 γ (out.map encL)), (6, true, i k)], ⟨[], (2, 0, .box (cellsB b)) :: pl 31 γ 75 (out.map encL)⟩⟩ =
      some (.exit 0, ⟨c', [(12, true, .bool false), (11, true, i b.lines.length), (10, true, .list false (b.lines.map encL)), (9, true, .ptr 0 2 0 3), (8, true, i b.lines.length), (1, true, i v'), (2, true, .ptr 0 2 0 0), (5, true, pv 31 γ' ((out ++ nthGo b.chairs v (b.lines.drop k)).map encL)), (6, true, i b.lines.length)], ⟨[], (2, 0, .box (cellsB b)) :: pl 31 γ' 75 ((out ++ nthGo b.chairs v (b.lines.drop k)).map encL)⟩⟩)
  | 0, k, v, out, c, γ, hd, hv, ho, hg => by
    have : k = b.lines.length := by omega
    subst this
    refine ⟨c, γ, v, hg, fun n m hm => ?_⟩
    obtain ⟨m, rfl⟩ : ∃ m', m = m' + 1 := ⟨m - 1, by omega⟩
    simp [loopA_succ, cellsB, nthGo]
  | d + 1, k, v, out, c, γ, hd, hv, ho, hg => by
    have hk : k < b.lines.length := by omega
    have hr := readings_len b.chairs b.lines[k] h4
    have hp := hpos b.lines[k] (List.getElem_mem hk)
    have hw : IntKind.i64.wrap ((k : Int) + 1) = (k : Int) + 1 := wrap_i64 (by omega) (by omega)
    have hq := fun n => k83 n b b.lines[k] h1 h4
    have hnth : nthGo b.chairs v (b.lines.drop k) = (readings b.chairs b.lines[k]).getD (v % (readings b.chairs b.lines[k]).length) line0 :: nthGo b.chairs (v / (readings b.chairs b.lines[k]).length) (b.lines.drop (k + 1)) := by
      rw [List.drop_eq_getElem_cons hk]; rfl
    rw [hnth]
    generalize hR : readings b.chairs b.lines[k] = R at hr hp hq
    have hj : v % R.length < R.length := Nat.mod_lt _ hp
    have hdv : v / R.length ≤ 5000 := Nat.le_trans (Nat.div_le_self _ _) hv
    obtain ⟨c', γ', v', i1, ih⟩ := l51 b h1 h4 hl hpos d (k + 1) (v / R.length) (out ++ [R.getD (v % R.length) line0]) (c + 1) c (by omega) hdv (by simp; omega) (by omega)
    refine ⟨c', γ', v', i1, fun n m hm => ?_⟩
    obtain ⟨m, rfl⟩ : ∃ m', m = m' + 1 := ⟨m - 1, by omega⟩
    have ih := ih n m (by omega)
    have e1 : (v : Int).tmod (R.length : Int) = ((v % R.length : Nat) : Int) := (Int.ofNat_tmod _ _).symm
    have e2 : (v : Int).tdiv (R.length : Int) = ((v / R.length : Nat) : Int) := (Int.ofNat_tdiv _ _).symm
    have hgd : R.getD (v % R.length) line0 = R[v % R.length] := by simp [List.getD_eq_getElem?_getD, hj]
    rw [hgd] at ih ⊢
    have hne : ¬ R = [] := by intro h; rw [h] at hp; simp at hp
    generalize v % R.length = j at hj e1 ih ⊢
    generalize v / R.length = u at hdv e2 ih ⊢
    have hw2 : IntKind.i64.wrap (u : Int) = (u : Int) := wrap_i64 (by omega) (by omega)
    have ho' : appOK Try.prog 75 out.length [[i R[j].k, i R[j].c, i R[j].t]] = true := by
      rw [appOK_iff (by simp) (by simp)]
      simp [maxLen]; omega
    have hjI : (j : Int) < (R.length : Int) := by omega
    rw [loopA_succ]
    simp only [List.map_append, List.map_cons, List.map_nil, pl_snoc, encL, List.append_assoc, List.cons_append, List.nil_append, cellsB] at ih hq ⊢
    simp at ih
    simp [hk, hw, encL, encC, hq, e1, e2, hj, hjI, hne, hw2, ho', ih]
    done
theorem nthGo_len (C : Int) : ∀ (ls : List Line) (n : Nat), (nthGo C n ls).length = ls.length
  | [], _ => rfl
  | l :: r, n => by simp [nthGo, nthGo_len C r]
def posOK : Bool := [1, 2, 3, 4].all fun C : Int => [0, 1, 2].all fun k : Int => [-1, 0, 1, 2, 3].all fun c : Int => [-1, 0, 1, 2, 3].all fun t : Int =>
  !(lineOk C ⟨k, c, t⟩) || decide (0 < (readings C ⟨k, c, t⟩).length)
theorem posOK_true : posOK = true := by decide +kernel
theorem readings_pos {C : Int} (h1 : 1 ≤ C) (h4 : C ≤ 4) {l : Line} (h : lineOk C l = true) : 0 < (readings C l).length := by
  obtain ⟨k, c, t⟩ := l
  obtain ⟨v1, v2, v3⟩ := valL_spec h
  simp only at v1 v2 v3
  have q := List.all_eq_true.1 (List.all_eq_true.1 (List.all_eq_true.1 (List.all_eq_true.1 posOK_true C (mem4 h1 h4)) k (mem3 v1.1 v1.2)) c (mem5 v2.1 (by omega))) t (mem5 v3.1 (by omega))
  rw [h] at q
  simpa using q
theorem k51 (n : Nat) (b : Book) (hf : faultB b = 0) (v : Nat) (hv : v ≤ 5000) : callK Try.prog kn (execA Try.prog ann kn (n+400)) 51 [.agg (cellsB b), i v] = some (sl ((nthGo b.chairs v b.lines).map encL)) := by
  obtain ⟨h1, h4, hl8, hc4, hc1, hc2, hx1, hx2, hok, hcok, _⟩ := fault0 hf
  rw [callK_of rfl, call0_eq Try.func51 b51 rfl (by simp [encL, cellsB, encC])]
  obtain ⟨c', γ', v', i1, ih⟩ := l51 b h1 h4 (by omega) (fun l hl => readings_pos h1 h4 (List.all_eq_true.1 hok l hl)) b.lines.length 0 v [] 1 0 (by omega) hv (by simp) (by omega)
  have ih := ih (n + 144) (n + 394) (by omega)
  simp only [cellsB, List.map_nil, List.nil_append, List.drop_zero, pv_nil, pl_nil] at ih ⊢
  simp at ih
  simp [c51, argFr, encL, encC, ih]
  done
def encT (t : List Line) : List V := [sl (t.map encL)]
def truOne (b : Book) (t : List Line) : Bool := isPossB t && b.counts.all (cntOne b t)
def trGo (b : Book) (v d : Nat) : List (List Line) := ((List.range' v d).map fun n => nthGo b.chairs n b.lines).filter (truOne b)
def truthsR (b : Book) : List (List Line) := trGo b 0 (manyGo b.chairs 1 b.lines).toNat
theorem many_nn (C : Int) : ∀ (ls : List Line) (n : Int), 0 ≤ n → 0 ≤ manyGo C n ls
  | [], n, h => h
  | l :: r, n, h => by
    have := many_nn C r (min5 (n * (readings C l).length)) (by
      have : 0 ≤ n * ((readings C l).length : Int) := Int.mul_nonneg h (by omega)
      unfold min5; split <;> omega)
    simpa [manyGo] using this
def sureV (b : Book) : V := if faultB b = 0 then (if (truthsR b).length = 0 then .tup [.nil, i 11] else .tup [sl ((truthsR b).map encT), i 0]) else .tup [.nil, i (faultB b)]
def outN (sel : Line → Int) (L : List (List Line)) (k : Nat) (x : Int) : Nat := L.countP fun t => decide (0 ≤ outB sel t k x)
end Go.Proofs.Try.Op
