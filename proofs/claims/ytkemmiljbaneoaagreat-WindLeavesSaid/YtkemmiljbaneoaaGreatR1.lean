/- Contract: equality of lists of numbers. No condition. -/
import Derived.Test.YtkemmiljbaneoaaGreatW1
import Derived.Test.YtkemmiljbaneoaaGreatL
import Derived.Test.YtkemmiljbaneoaaGreatFz
import Derived.Test.YtkemmiljbaneoaaGreatW2
open Go Go.Pg Go.Proofs Go.Wind
namespace Go.Proofs.Tryz.Op
set_option maxRecDepth 100000
set_option linter.unusedSimpArgs false
theorem lSame (xs ys : List Int) (hlen : xs.length = ys.length) (hl : xs.length ≤ 1000) (c : Nat) : ∀ (d j : Nat), j + d = ys.length → ∀ n m, d < m →
    loopA (execA Tryz.prog ann kn (n+100) 26) lb42_4 (ann 26 (fstR lb42_4)) m ⟨c, [(0, true, .list false (xs.map encI)), (1, true, .list false (ys.map encI)), (5, true, i j)], ⟨[], []⟩⟩ =
      if xs.drop j = ys.drop j then some (.exit 0, ⟨c, [(14, true, .bool false), (13, true, i ys.length), (12, true, .list false (xs.map encI)), (11, true, i ys.length), (0, true, .list false (xs.map encI)), (1, true, .list false (ys.map encI)), (5, true, i ys.length)], ⟨[], []⟩⟩)
      else some (.ret, ⟨c, [(4, true, .bool false)], ⟨[], []⟩⟩)
  | 0, j, hd, n, m, hm => by
    have hj : j = ys.length := by omega
    subst hj
    obtain ⟨m, rfl⟩ : ∃ m', m = m' + 1 := ⟨m - 1, by omega⟩
    have e1 : xs.drop ys.length = [] := List.drop_eq_nil_of_le (by omega)
    rw [e1, List.drop_length, if_pos rfl]
    simp [loopA_succ, hlen]
    done
  | d + 1, j, hd, n, m, hm => by
    have hj : j < ys.length := by omega
    have hj2 : j < xs.length := by omega
    have hw : IntKind.i64.wrap ((j : Int) + 1) = (j : Int) + 1 := wrap_i64 (by omega) (by omega)
    obtain ⟨m, rfl⟩ : ∃ m', m = m' + 1 := ⟨m - 1, by omega⟩
    have ih := lSame xs ys hlen hl c d (j + 1) (by omega) n m (by omega)
    rw [List.drop_eq_getElem_cons hj, List.drop_eq_getElem_cons hj2, loopA_succ]
    by_cases he : xs[j] = ys[j]
    · simp only [List.cons.injEq, he, true_and]
      simp at ih
      simp [hj, hj2, hlen, hw, encI, he, ih]
      done
    · simp only [List.cons.injEq, he, false_and, if_false]
      simp [hj, hj2, hlen, hw, encI, he]
      done
theorem kSame (n : Nat) (xs ys : List Int) (hl : xs.length ≤ 90) : callK Tryz.prog kn (execA Tryz.prog ann kn (n+200)) 42 [.list false (xs.map encI), .list false (ys.map encI)] = some (.bool (decide (xs = ys))) := by
  rw [callK_of rfl, call0_eq Tryz.func42 b42 rfl (by simp [encI])]
  by_cases hlen : xs.length = ys.length
  · have h := lSame xs ys hlen (by omega) 0 ys.length 0 (by omega) (n + 94) (n + 194) (by omega)
    simp only [List.drop_zero] at h
    by_cases he : xs = ys
    · subst he
      rw [if_pos rfl] at h
      simp at h
      simp [c42, argFr, h]
      done
    · rw [if_neg he] at h
      simp [hlen] at h
      simp [c42, argFr, hlen, h, he]
      done
  · have he : ¬ xs = ys := fun h => hlen (by rw [h])
    have hlen' : ¬ ((xs.length : Int) = (ys.length : Int)) := by omega
    simp [c42, argFr, hlen', he]
    done
end Go.Proofs.Tryz.Op
/- Contracts of the reference: Can, Full, First. No condition but small numbers. -/
open Go Go.Pg Go.Proofs Go.Wind
namespace Go.Wind
def canB (all : List Nat) (m : Nat) : Bool := all.any fun x => decide (x &&& m = m)
end Go.Wind
namespace Go.Proofs.Tryz.Op
set_option maxRecDepth 100000
set_option linter.unusedSimpArgs false
def encN (x : Nat) : List V := [i (x : Int)]
theorem and_nat {a b : Nat} (ha : a < 4611686018427387904) (hb : b < 4611686018427387904) : IntKind.i64.wrap (((BitVec.ofInt 64 (a : Int) &&& BitVec.ofInt 64 (b : Int)).toNat : Nat) : Int) = ((a &&& b : Nat) : Int) := by
  have e : BitVec.ofInt 64 (a : Int) &&& BitVec.ofInt 64 (b : Int) = BitVec.ofNat 64 (a &&& b) := by
    apply BitVec.eq_of_toNat_eq
    simp only [BitVec.toNat_and, BitVec.toNat_ofInt, BitVec.toNat_ofNat]
    have h1 : ((a : Int) % ((2 ^ 64 : Nat) : Int)).toNat = a := by omega
    have h2 : ((b : Int) % ((2 ^ 64 : Nat) : Int)).toNat = b := by omega
    have h3 : a &&& b ≤ a := Nat.and_le_left
    rw [h1, h2, Nat.mod_eq_of_lt (by omega)]
  have h3 : a &&& b ≤ a := Nat.and_le_left
  rw [e, BitVec.toNat_ofNat, Nat.mod_eq_of_lt (by omega)]
  exact wrap_i64 (by omega) (by omega)
theorem and_ev {a b : Nat} (ha : a < 4611686018427387904) (hb : b < 4611686018427387904) : evInt .and .i64 (a : Int) (b : Int) = some (.int .i64 ((a &&& b : Nat) : Int)) := by
  rw [evInt_and]
  exact congrArg (fun z => some (V.int IntKind.i64 z)) (and_nat ha hb)
theorem shl_ev {a j : Nat} (ha : a ≤ 16) (hj : j ≤ 30) : evSh .shl .i64 (a : Int) (j : Int) = some (.int .i64 ((a * 2 ^ j : Nat) : Int)) := by
  rw [evSh_shl, if_neg (by omega)]
  have e : min (j : Int).toNat IntKind.i64.bits = j := by simp only [Int.toNat_natCast, IntKind.bits]; omega
  rw [e]
  have h1 : 2 ^ j ≤ 2 ^ 30 := Nat.pow_le_pow_right (by decide) hj
  have h2 : a * 2 ^ j ≤ 16 * 2 ^ 30 := Nat.mul_le_mul ha h1
  have e2 : (a : Int) * 2 ^ j = ((a * 2 ^ j : Nat) : Int) := by simp
  rw [e2, wrap_i64 (by omega) (by omega)]
theorem lCan (all : List Nat) (mk : Nat) (hl : all.length ≤ 100000) (hm1 : mk < 4611686018427387904) (hs : ∀ x ∈ all, x < 4611686018427387904) (c : Nat) : ∀ (d j : Nat), j + d = all.length → ∀ n m, d < m →
    loopA (execA Tryz.prog ann kn (n+100) 20) lb102_2 (ann 20 (fstR lb102_2)) m ⟨c, [(0, true, .list false (all.map encN)), (1, true, i mk), (5, true, i j)], ⟨[], []⟩⟩ =
      if canB (all.drop j) mk = true then some (.ret, ⟨c, [(4, true, .bool true)], ⟨[], []⟩⟩)
      else some (.exit 0, ⟨c, [(9, true, .bool false), (8, true, i all.length), (7, true, .list false (all.map encN)), (6, true, i all.length), (0, true, .list false (all.map encN)), (1, true, i mk), (5, true, i all.length)], ⟨[], []⟩⟩)
  | 0, j, hd, n, m, hm => by
    have hj : j = all.length := by omega
    subst hj
    obtain ⟨m, rfl⟩ : ∃ m', m = m' + 1 := ⟨m - 1, by omega⟩
    rw [List.drop_length, if_neg (by simp [canB])]
    simp [loopA_succ]
    done
  | d + 1, j, hd, n, m, hm => by
    have hj : j < all.length := by omega
    have hw : IntKind.i64.wrap ((j : Int) + 1) = (j : Int) + 1 := wrap_i64 (by omega) (by omega)
    have ih := lCan all mk hl hm1 hs c d (j + 1) (by omega) n (m - 1) (by omega)
    obtain ⟨m, rfl⟩ : ∃ m', m = m' + 1 := ⟨m - 1, by omega⟩
    rw [Nat.add_sub_cancel] at ih
    have hx := hs _ (List.getElem_mem hj)
    rw [List.drop_eq_getElem_cons hj]
    have hc : canB (all[j] :: all.drop (j + 1)) mk = (decide (all[j] &&& mk = mk) || canB (all.drop (j + 1)) mk) := rfl
    rw [hc]
    have e4 := and_ev hx hm1
    generalize canB (all.drop (j + 1)) mk = R at ih ⊢
    generalize hX : all[j] &&& mk = X at *
    rw [loopA_succ]
    by_cases he : X = mk
    · subst he
      rw [if_pos (by simp)]
      simp [hj, hw, encN, e4, -evInt_and]
      done
    · have he' : ¬ ((X : Int) = (mk : Int)) := by omega
      simp only [he, decide_false, Bool.false_or]
      simp at ih
      simp [hj, hw, encN, e4, he', he, -evInt_and, ih]
      done
theorem kCan (n : Nat) (all : List Nat) (mk : Nat) (hl : all.length ≤ 4000) (hm1 : mk < 4611686018427387904) (hs : ∀ x ∈ all, x < 4611686018427387904) : callK Tryz.prog kn (execA Tryz.prog ann kn (n+4200)) 102 [.list false (all.map encN), i mk] = some (.bool (canB all mk)) := by
  rw [callK_of rfl, call0_eq Tryz.func102 b102 rfl (by simp [encN])]
  have h := lCan all mk (by omega) hm1 hs 0 all.length 0 (by omega) (n + 4095) (n + 4195) (by omega)
  rw [List.drop_zero] at h
  generalize canB all mk = z at h ⊢
  cases z with
  | true =>
    rw [if_pos rfl] at h
    simp at h
    simp [c102, argFr, h]
    done
  | false =>
    rw [if_neg (by decide)] at h
    simp at h
    simp [c102, argFr, h]
    done
theorem kFull (n : Nat) (b : Beach) (hl : b.notes.length ≤ 30) : callK Tryz.prog kn (execA Tryz.prog ann kn (n+100)) 57 [.agg (cellsB b)] = some (i (2 ^ b.notes.length - 1 : Nat)) := by
  rw [callK_of rfl, call0_eq Tryz.func57 b57 rfl (by simp [cellsB, encI, encL, encP])]
  have e1 := shl_ev (a := 1) (j := b.notes.length) (by omega) hl
  have e2 := wrap_u64s (p := b.notes.length) (by omega)
  have h1 : 2 ^ b.notes.length ≤ 2 ^ 30 := Nat.pow_le_pow_right (by decide) hl
  have h2 : 0 < 2 ^ b.notes.length := Nat.two_pow_pos _
  rw [Nat.one_mul] at e1
  generalize 2 ^ b.notes.length = A at *
  have e3 : IntKind.i64.wrap ((A : Int) - 1) = ((A - 1 : Nat) : Int) := by rw [wrap_i64 (by omega) (by omega)]; omega
  have e1 : evSh .shl .i64 1 (b.notes.length : Int) = some (.int .i64 (A : Int)) := e1
  simp [convUi, c57, argFr, cellsB, e2, e1, e3, -evSh_shl]
  done
end Go.Proofs.Tryz.Op
/- Contract of the reference: Bits. No condition but small numbers. -/
open Go Go.Pg Go.Proofs Go.Wind
namespace Go.Proofs.Tryz.Op
set_option maxRecDepth 100000
set_option linter.unusedSimpArgs false
theorem lBits (x N : Nat) (hN : N ≤ 30) (hx : x < 2 ^ N) : ∀ (d j : Nat) (c γ : Nat), j + d = N → ∃ (c' γ' jf : Nat), ∀ n m, d < m →
    loopA (execA Tryz.prog ann kn (n+100) 23) lb61_3 (ann 23 (fstR lb61_3)) m ⟨c, [(0, true, i x), (3, true, pv 21 γ ((bitsB x j).map encI)), (4, true, i j)], ⟨[], pl 21 γ 3 ((bitsB x j).map encI)⟩⟩ =
      some (.exit 0, ⟨c', [(9, true, .bool false), (8, true, i 0), (7, true, .int .u64 jf), (6, true, i jf), (5, true, i x), (0, true, i x), (3, true, pv 21 γ' ((bitsB x N).map encI)), (4, true, i jf)], ⟨[], pl 21 γ' 3 ((bitsB x N).map encI)⟩⟩) := by
  have base : ∀ (j c γ : Nat), j ≤ N → x < 2 ^ j → ∀ n m, 0 < m →
    loopA (execA Tryz.prog ann kn (n+100) 23) lb61_3 (ann 23 (fstR lb61_3)) m ⟨c, [(0, true, i x), (3, true, pv 21 γ ((bitsB x j).map encI)), (4, true, i j)], ⟨[], pl 21 γ 3 ((bitsB x j).map encI)⟩⟩ =
      some (.exit 0, ⟨c, [(9, true, .bool false), (8, true, i 0), (7, true, .int .u64 j), (6, true, i j), (5, true, i x), (0, true, i x), (3, true, pv 21 γ ((bitsB x N).map encI)), (4, true, i j)], ⟨[], pl 21 γ 3 ((bitsB x N).map encI)⟩⟩) := by
    intro j c γ hj hlt n m hm
    obtain ⟨m, rfl⟩ : ∃ m', m = m' + 1 := ⟨m - 1, by omega⟩
    have e1 := shr_ev (x := x) (j := j) (by omega)
    have e2 := wrap_u64s (p := j) (by omega)
    rw [Nat.div_eq_of_lt hlt] at e1
    obtain ⟨d, rfl⟩ : ∃ d, N = j + d := ⟨N - j, by omega⟩
    rw [bitsB_high hlt d]
    simp [convUi, loopA_succ, e2, e1, -evSh_shr]
    done
  intro d
  induction d with
  | zero =>
    intro j c γ hd
    exact ⟨c, γ, j, fun n m hm => base j c γ (by omega) (by rw [show j = N by omega]; exact hx) n m hm⟩
  | succ d IH =>
    intro j c γ hd
    by_cases hlt : x < 2 ^ j
    · exact ⟨c, γ, j, fun n m hm => base j c γ (by omega) hlt n m (by omega)⟩
    · have hp := div_pos_iff.2 hlt
      have e1 := shr_ev (x := x) (j := j) (by omega)
      have e2 := wrap_u64s (p := j) (by omega)
      have hb := mod_bit x j
      have hs := bitsB_succ x j
      have hw : IntKind.i64.wrap ((j : Int) + 1) = (j : Int) + 1 := wrap_i64 (by omega) (by omega)
      have hbl := bitsB_len x j
      generalize ((x / 2 ^ j : Nat) : Int) = X at hp e1 hb
      cases hbit : x.testBit j with
      | false =>
        rw [hbit] at hb hs
        rw [if_neg (by decide)] at hs
        obtain ⟨c', γ', jf, ih⟩ := IH (j + 1) c γ (by omega)
        refine ⟨c', γ', jf, fun n m hm => ?_⟩
        obtain ⟨m, rfl⟩ : ∃ m', m = m' + 1 := ⟨m - 1, by omega⟩
        have ih := ih n m (by omega)
        rw [hs] at ih
        rw [loopA_succ]
        simp at ih
        simp [convUi, e2, e1, -evSh_shr, hp, hb, hw, ih]
        done
      | true =>
        rw [hbit] at hb hs
        rw [if_pos rfl] at hs
        obtain ⟨c', γ', jf, ih⟩ := IH (j + 1) (c + 1) c (by omega)
        refine ⟨c', γ', jf, fun n m hm => ?_⟩
        obtain ⟨m, rfl⟩ : ∃ m', m = m' + 1 := ⟨m - 1, by omega⟩
        have ih := ih n m (by omega)
        rw [hs] at ih
        have happ : appOK Tryz.prog 3 (bitsB x j).length [[.int .i64 j]] = true := by
          rw [appOK_iff (by simp) (by simp)]
          simp [maxLen]
          omega
        rw [loopA_succ]
        simp [encI] at ih
        simp [convUi, e2, e1, -evSh_shr, hp, hb, hw, happ, encI, ih]
        done
theorem kBits (n x N : Nat) (hN : N ≤ 30) (hx : x < 2 ^ N) : callK Tryz.prog kn (execA Tryz.prog ann kn (n+200)) 61 [i x] = some (sl ((bitsB x N).map encI)) := by
  rw [callK_of rfl, call0_eq Tryz.func61 b61 rfl (by simp)]
  obtain ⟨c', γ', jf, ih⟩ := lBits x N hN hx N 0 0 0 (by omega)
  have ih := ih (n + 94) (n + 194) (by omega)
  have h0 : bitsB x 0 = [] := rfl
  rw [h0] at ih
  simp at ih
  have hcl : ((bitsB x N).map encI).all (fun e => e.all (closedV 8)) = true := by simp [encI]
  simp at hcl
  simp [c61, argFr, ih, encI]
  done
end Go.Proofs.Tryz.Op
/- Contracts: Before, Shorter. No condition. -/
open Go Go.Pg Go.Proofs Go.Wind
namespace Go.Proofs.Tryz.Op
set_option maxRecDepth 100000
set_option linter.unusedSimpArgs false
def beforeB : List Int → List Int → Bool
  | x :: xs, y :: ys => if x = y then beforeB xs ys else decide (x < y)
  | [], _ :: _ => true
  | _, [] => false
theorem before_nil (xs : List Int) : beforeB xs [] = false := by cases xs <;> rfl
theorem lBefore (xs ys : List Int) (hx : xs.length ≤ 90) (hy : ys.length ≤ 90) (c : Nat) : ∀ (d j : Nat), j + d = xs.length → j ≤ ys.length → ∀ n p m, d < m →
    finX Tryz.prog [.tmp 4] (xSeq (execA Tryz.prog ann kn (p + 20) 41) (r106_6.seq .ret) (xBlock 0 (loopA (execA Tryz.prog ann kn (n+100) 41) lb106_2 (ann 41 (fstR lb106_2)) m ⟨c, [(0, true, .list false (xs.map encI)), (1, true, .list false (ys.map encI)), (5, true, i j)], ⟨[], []⟩⟩))) =
      some (.bool (beforeB (xs.drop j) (ys.drop j)))
  | 0, j, hd, hj, n, p, m, hm => by
    have hjx : j = xs.length := by omega
    subst hjx
    obtain ⟨m, rfl⟩ : ∃ m', m = m' + 1 := ⟨m - 1, by omega⟩
    have hv : beforeB (xs.drop xs.length) (ys.drop xs.length) = decide (xs.length < ys.length) := by
      rw [List.drop_length]
      by_cases h : xs.length < ys.length
      · rw [List.drop_eq_getElem_cons h, decide_eq_true h]
        rfl
      · rw [List.drop_eq_nil_of_le (by omega), decide_eq_false h]
        rfl
    rw [hv]
    simp [loopA_succ]
    done
  | d + 1, j, hd, hj, n, p, m, hm => by
    have hjx : j < xs.length := by omega
    have hw : IntKind.i64.wrap ((j : Int) + 1) = (j : Int) + 1 := wrap_i64 (by omega) (by omega)
    obtain ⟨m, rfl⟩ : ∃ m', m = m' + 1 := ⟨m - 1, by omega⟩
    by_cases hjy : j < ys.length
    · rw [List.drop_eq_getElem_cons hjx, List.drop_eq_getElem_cons hjy]
      simp only [beforeB]
      by_cases h : xs[j] = ys[j]
      · rw [if_pos h]
        have ih := lBefore xs ys hx hy c d (j + 1) (by omega) (by omega) n p m (by omega)
        generalize beforeB (xs.drop (j + 1)) (ys.drop (j + 1)) = z at ih ⊢
        rw [loopA_succ]
        simp at ih
        simp [hjx, hjy, hw, encI, h, ih]
        done
      · rw [if_neg h, loopA_succ]
        simp [hjx, hjy, hw, encI, h]
        done
    · have hn : ¬ xs.length < ys.length := by omega
      rw [List.drop_eq_nil_of_le (show ys.length ≤ j by omega), before_nil, loopA_succ]
      simp [hjx, hjy, hn]
      done
theorem kBefore (n : Nat) (xs ys : List Int) (hx : xs.length ≤ 90) (hy : ys.length ≤ 90) : callK Tryz.prog kn (execA Tryz.prog ann kn (n+200)) 106 [.list false (xs.map encI), .list false (ys.map encI)] = some (.bool (beforeB xs ys)) := by
  rw [callK_of rfl, call0_eq Tryz.func106 b106 rfl (by simp [encI])]
  have q := lBefore xs ys hx hy 0 xs.length 0 (by omega) (by omega) (n + 95) (n + 178) (n + 195) (by omega)
  simp only [List.drop_zero] at q
  generalize beforeB xs ys = z at q ⊢
  simp at q
  simp [c106, argFr, q]
  done
def shortB (xs ys : List Int) : Bool := decide (xs.length < ys.length) || (decide (xs.length = ys.length) && beforeB xs ys)
theorem kShorter (n : Nat) (xs ys : List Int) (hx : xs.length ≤ 90) (hy : ys.length ≤ 90) : callK Tryz.prog kn (execA Tryz.prog ann kn (n+300)) 60 [.list false (xs.map encI), .list false (ys.map encI)] = some (.bool (shortB xs ys)) := by
  rw [callK_of rfl, call0_eq Tryz.func60 b60 rfl (by simp [encI])]
  have q := fun n => kBefore n xs ys hx hy
  unfold shortB
  generalize beforeB xs ys = z at q ⊢
  by_cases h1 : xs.length < ys.length
  · simp [c60, argFr, h1]
    done
  · by_cases h2 : xs.length = ys.length
    · have h3 : (xs.length : Int) = (ys.length : Int) := by omega
      simp [c60, argFr, h1, h2, q, encI]
      done
    · have h3 : ¬ ((xs.length : Int) = (ys.length : Int)) := by omega
      simp [c60, argFr, h1, h2, h3]
      done
end Go.Proofs.Tryz.Op
/- Contract of the reference: First. No condition but small numbers. -/
open Go Go.Pg Go.Proofs Go.Wind
namespace Go.Wind
def firstRGo (all : List Nat) : Nat → Nat → Option Nat
  | 0, _ => none
  | d + 1, j => if canB all (2 ^ (j + 1) - 1) = true then firstRGo all d (j + 1) else some j
def optN : Option Nat → Int
  | some x => x
  | none => -1
end Go.Wind
namespace Go.Proofs.Tryz.Op
set_option maxRecDepth 100000
set_option linter.unusedSimpArgs false
theorem lFirstR (b : Beach) (hno : b.notes.length ≤ 5) (all : List Nat) (hl : all.length ≤ 4000) (hs : ∀ x ∈ all, x < 4611686018427387904) (c : Nat) : ∀ (d j : Nat), j + d = b.notes.length → ∃ fr, ∀ n m, d < m →
    loopA (execA Tryz.prog ann kn (n+4300) 21) lb44_2 (ann 21 (fstR lb44_2)) m ⟨c, [(1, true, .list false (all.map encN)), (2, true, .ptr 0 2 0 0), (5, true, i j)], ⟨[], [(2, 0, .box (cellsB b))]⟩⟩ =
      match firstRGo all d j with
      | some x => some (.ret, ⟨c, [(4, true, i x), (20, true, i x), (5, true, i x)], ⟨[], []⟩⟩)
      | none => some (.exit 0, ⟨c, fr, ⟨[], [(2, 0, .box (cellsB b))]⟩⟩)
  | 0, j, hd => by
    have hj : j = b.notes.length := by omega
    subst hj
    refine ⟨?fr, fun n m hm => ?g⟩
    case g =>
      obtain ⟨m, rfl⟩ : ∃ m', m = m' + 1 := ⟨m - 1, by omega⟩
      simp [loopA_succ, firstRGo, cellsB]
      rfl
  | d + 1, j, hd => by
    have hj : j < b.notes.length := by omega
    have hw : IntKind.i64.wrap ((j : Int) + 1) = (j : Int) + 1 := wrap_i64 (by omega) (by omega)
    have hp30 : 2 ^ b.notes.length ≤ 2 ^ 30 := Nat.pow_le_pow_right (by decide) (by omega)
    have hp : 2 ^ (j + 1) ≤ 2 ^ b.notes.length := Nat.pow_le_pow_right (by decide) (by omega)
    have hpos : 0 < 2 ^ (j + 1) := Nat.two_pow_pos (j + 1)
    have hs2 : 2 ^ (j + 1) = 2 * 2 ^ j := by rw [Nat.pow_succ, Nat.mul_comm]
    have q := fun n => kCan n all (2 ^ (j + 1) - 1) hl (by omega) hs
    have e2 := shl_ev (a := 2) (j := j) (by omega) (by omega)
    have e3 := wrap_u64s (p := j) (by omega)
    rw [← hs2] at e2
    obtain ⟨fr, ih⟩ := lFirstR b hno all hl hs c d (j + 1) (by omega)
    refine ⟨fr, fun n m hm => ?_⟩
    have ih := ih n (m - 1) (by omega)
    obtain ⟨m, rfl⟩ : ∃ m', m = m' + 1 := ⟨m - 1, by omega⟩
    rw [Nat.add_sub_cancel] at ih
    have hfg : firstRGo all (d + 1) j = if canB all (2 ^ (j + 1) - 1) = true then firstRGo all d (j + 1) else some j := rfl
    rw [hfg]
    generalize canB all (2 ^ (j + 1) - 1) = z at q ⊢
    generalize firstRGo all d (j + 1) = F at ih ⊢
    generalize 2 ^ (j + 1) = D at *
    have e2 : evSh .shl .i64 2 (j : Int) = some (.int .i64 (D : Int)) := e2
    have w2 : IntKind.i64.wrap ((D : Int) - 1) = ((D - 1 : Nat) : Int) := by rw [wrap_i64 (by omega) (by omega)]; omega
    rw [loopA_succ]
    simp only [cellsB] at ih ⊢
    cases z with
    | true =>
      simp at ih
      simp [hj, hw, convUi, e2, e3, w2, -evSh_shl, q, encI, encN, ih]
      done
    | false =>
      simp [hj, hw, convUi, e2, e3, w2, -evSh_shl, q, encI, encN]
      done
theorem kFirstR (n : Nat) (b : Beach) (hno : b.notes.length ≤ 5) (all : List Nat) (hl : all.length ≤ 4000) (hs : ∀ x ∈ all, x < 4611686018427387904) : callK Tryz.prog kn (execA Tryz.prog ann kn (n+4500)) 44 [.agg (cellsB b), .list false (all.map encN)] = some (i (optN (firstRGo all b.notes.length 0))) := by
  rw [callK_of rfl, call0_eq Tryz.func44 b44 rfl (by simp [cellsB, encI, encL, encP, encN])]
  obtain ⟨fr, q⟩ := lFirstR b hno all hl hs 1 b.notes.length 0 (by omega)
  have q := q (n + 195) (n + 4495) (by omega)
  generalize firstRGo all b.notes.length 0 = F at q ⊢
  simp only [cellsB] at q ⊢
  cases F with
  | some x =>
    simp at q
    simp [c44, argFr, q, optN, encN, encI, encP]
    done
  | none =>
    simp at q
    simp [c44, argFr, q, optN, encN, encI, encP]
    done
end Go.Proofs.Tryz.Op
/- Contract of the reference: Leave. No condition but small numbers. -/
open Go Go.Pg Go.Proofs Go.Wind
namespace Go.Proofs.Tryz.Op
def stepR (all : List Nat) (N x : Nat) (y : List Int) : List Int :=
  if (shortB (bitsB x N) y && canB all (2 ^ N - 1 - x)) = true then bitsB x N else y
def goR (all : List Nat) (N : Nat) : Nat → Nat → List Int → List Int
  | 0, _, y => y
  | d + 1, x, y => goR all N d (x + 1) (stepR all N x y)
theorem step_len {all : List Nat} {N x : Nat} {y : List Int} (hN : N ≤ 30) (h : y.length ≤ 30) : (stepR all N x y).length ≤ 30 := by
  have hbl := bitsB_len x N
  unfold stepR
  split <;> omega
set_option maxRecDepth 100000
set_option linter.unusedSimpArgs false
def andnOK : Bool := (List.range 6).all fun N => (List.range (2 ^ N)).all fun x => decide (IntKind.i64.wrap ((BitVec.ofInt 64 ((2 ^ N - 1 : Nat) : Int) &&& ~~~ BitVec.ofInt 64 (x : Int)).toNat : Int) = ((2 ^ N - 1 - x : Nat) : Int))
theorem andnOK_true : andnOK = true := by decide +kernel
theorem andn_ev {N x : Nat} (hN : N ≤ 5) (hx : x < 2 ^ N) : evInt .andNot .i64 ((2 ^ N - 1 : Nat) : Int) (x : Int) = some (.int .i64 ((2 ^ N - 1 - x : Nat) : Int)) := by
  rw [evInt_andNot]
  have q := List.all_eq_true.1 (List.all_eq_true.1 andnOK_true N (List.mem_range.2 (by omega))) x (List.mem_range.2 hx)
  exact congrArg (fun z => some (V.int IntKind.i64 z)) (of_decide_eq_true q)
theorem lLeaveR (b : Beach) (hno : b.notes.length ≤ 5) (all : List Nat) (hl : all.length ≤ 4000) (hs : ∀ x ∈ all, x < 4611686018427387904) (c : Nat) : ∀ (d x : Nat) (y : List Int), x + d = 2 ^ b.notes.length → y.length ≤ 30 → ∀ n m, d < m →
    loopA (execA Tryz.prog ann kn (n+4400) 32) lb43_3 (ann 32 (fstR lb43_3)) m ⟨c, [(1, true, .list false (all.map encN)), (2, true, .ptr 0 2 0 0), (5, true, sl (y.map encI)), (6, true, i x)], ⟨[], [(2, 0, .box (cellsB b))]⟩⟩ =
      some (.exit 0, ⟨c, [(14, true, .bool false), (13, true, i (2 ^ b.notes.length - 1 : Nat)), (12, true, .agg (cellsB b)), (11, true, i (2 ^ b.notes.length : Nat)), (1, true, .list false (all.map encN)), (2, true, .ptr 0 2 0 0), (5, true, sl ((goR all b.notes.length d x y).map encI)), (6, true, i (2 ^ b.notes.length : Nat))], ⟨[], [(2, 0, .box (cellsB b))]⟩⟩)
  | 0, x, y, hd, ho, n, m, hm => by
    have hx : x = 2 ^ b.notes.length := by omega
    have q48 := fun n => kFull n b (by omega)
    have hpos := Nat.two_pow_pos b.notes.length
    have hp30 : 2 ^ b.notes.length ≤ 2 ^ 30 := Nat.pow_le_pow_right (by decide) (by omega)
    unfold goR
    generalize 2 ^ b.notes.length = A at *
    subst hx
    have hnot : ¬ x ≤ x - 1 := by omega
    simp only [cellsB] at q48 ⊢
    obtain ⟨m, rfl⟩ : ∃ m', m = m' + 1 := ⟨m - 1, by omega⟩
    simp [loopA_succ, q48, hnot, encI, encL, encP]
    done
  | d + 1, x, y, hd, hy, n, m, hm => by
    have hx : x < 2 ^ b.notes.length := by omega
    have hpos := Nat.two_pow_pos b.notes.length
    have hp30 : 2 ^ b.notes.length ≤ 2 ^ 5 := Nat.pow_le_pow_right (by decide) (by omega)
    have q48 := fun n => kFull n b (by omega)
    have q50 := fun n => kBits n x b.notes.length (by omega) hx
    have q88 := fun n => kCan n all (2 ^ b.notes.length - 1 - x) hl (by omega) hs
    have e4 := andn_ev hno hx
    have hw : IntKind.i64.wrap ((x : Int) + 1) = (x : Int) + 1 := wrap_i64 (by omega) (by omega)
    have hbl := bitsB_len x b.notes.length
    have hle : x ≤ 2 ^ b.notes.length - 1 := by omega
    have hgo : goR all b.notes.length (d + 1) x y = goR all b.notes.length d (x + 1) (stepR all b.notes.length x y) := rfl
    rw [hgo]
    have ih := lLeaveR b hno all hl hs c d (x + 1) (stepR all b.notes.length x y) (by omega) (step_len (by omega) hy) n (m - 1) (by omega)
    obtain ⟨m, rfl⟩ : ∃ m', m = m' + 1 := ⟨m - 1, by omega⟩
    rw [Nat.add_sub_cancel] at ih
    generalize goR all b.notes.length d (x + 1) (stepR all b.notes.length x y) = G at ih ⊢
    unfold stepR at ih
    generalize hB : bitsB x b.notes.length = B at *
    generalize 2 ^ b.notes.length - 1 - x = M at *
    generalize canB all M = z at q88 ih
    generalize 2 ^ b.notes.length = A at *
    rw [loopA_succ]
    simp only [cellsB] at q48 ih ⊢
    have hclB : (B.map encI).all (fun e => e.all (closedV 8)) = true := by simp [encI]
    have q49 := fun n => kShorter n B y (by omega) (by omega)
    cases hsh : shortB B y with
    | false =>
      rw [hsh] at q49
      simp only [hsh, Bool.false_and] at ih
      rw [if_neg (by decide)] at ih
      simp at ih
      simp [q48, q50, q88, q49, e4, hw, hle, encI, encL, encP, encN, -evInt_andNot, ih]
      done
    | true =>
      rw [hsh] at q49
      simp only [hsh, Bool.true_and] at ih
      cases z with
      | true =>
        rw [if_pos rfl] at ih
        simp at ih
        simp [q48, q50, q88, q49, e4, hw, hle, encI, encL, encP, encN, -evInt_andNot, ih]
        done
      | false =>
        rw [if_neg (by decide)] at ih
        simp at ih
        simp [q48, q50, q88, q49, e4, hw, hle, encI, encL, encP, encN, -evInt_andNot, ih]
        done
def leaveR (all : List Nat) (N : Nat) : List Int := goR all N (2 ^ N) 0 (bitsB (2 ^ N - 1) N)
theorem kLeaveR (n : Nat) (b : Beach) (hno : b.notes.length ≤ 5) (all : List Nat) (hl : all.length ≤ 4000) (hs : ∀ x ∈ all, x < 4611686018427387904) : callK Tryz.prog kn (execA Tryz.prog ann kn (n+4600)) 43 [.agg (cellsB b), .list false (all.map encN)] = some (sl ((leaveR all b.notes.length).map encI)) := by
  rw [callK_of rfl, call0_eq Tryz.func43 b43 rfl (by simp [cellsB, encI, encL, encP, encN])]
  have hbl := bitsB_len (2 ^ b.notes.length - 1) b.notes.length
  have hpos := Nat.two_pow_pos b.notes.length
  have hp30 : 2 ^ b.notes.length ≤ 2 ^ 5 := Nat.pow_le_pow_right (by decide) (by omega)
  have q48 := fun n => kFull n b (by omega)
  have q50 := fun n => kBits n (2 ^ b.notes.length - 1) b.notes.length (by omega) (by omega)
  have q := lLeaveR b hno all hl hs 1 (2 ^ b.notes.length) 0 (bitsB (2 ^ b.notes.length - 1) b.notes.length) (by omega) (by omega)
  have q := q (n + 194) (n + 4594) (by omega)
  unfold leaveR
  generalize goR all b.notes.length (2 ^ b.notes.length) 0 (bitsB (2 ^ b.notes.length - 1) b.notes.length) = R at q ⊢
  generalize bitsB (2 ^ b.notes.length - 1) b.notes.length = B at *
  generalize 2 ^ b.notes.length = A at *
  simp only [cellsB] at q48 q ⊢
  simp at q
  simp [c43, argFr, q48, q50, q, encI, encL, encP, encN]
  done
end Go.Proofs.Tryz.Op
