/- The tables of the closed statement SeatNames, and what is handed over there. No condition. -/
import Derived.Test.YthhdhbalenanjaaGreatY0
import Derived.Test.YthhdhbalenanjaaGreatK3
namespace Go.Proofs.Tryz.Kn
open Go Go.Pg
def tabN : Known := [
  (19, [], .bool true),
  (34, [SC [dogs, sunny 1], seats, i 1, i 1], .bool true),
  (31, [SC [dogs, sunny 1], seats], .tup [lw [1, 1], i 0]),
  (33, [SC [dogs, shy, sunny 1]], .tup [.nil, i 0, i 0, i 10]),
  (42, [SC [dogs, shy, fam 1 1 false true]], .tup [lw [1], i 0]),
  (41, [SC [dogs, sunny 1]], .tup [.nil, i 0]),
  (33, [SC []], .tup [.nil, i 0, i 0, i 0]),
  (34, [SC [dogs, sunny 1], seats, i 2, i 1], .bool false),
  (34, [SC [dogs, sunny 1], seats, i 1, i 0], .bool false),
  (34, [SC [dogs, sunny 1], .list false [[i 1, i 0], [i 0, i 0]], i 0, i 9], .bool false),
  (34, [SC [dogs, sunny 1], .list false [[i 1, i 0]], i 0, i 9], .bool false),
  (20, [SC [dogs, sunny 1], seats, lw [3, 1]], .tup [.nil, i 2]),
  (20, [SC [dogs, sunny 1], .list false [[i 1, i 2], [i 0, i 1]], lw [3, 0]], .tup [.nil, i 2]),
  (30, [SC [dogs, sunny 1], .list false [[i 1, i 0], [i 1, i 1]]], .tup [.nil, i 2]),
  (31, [SC [dogs, fam 1 1 false true], .list false [[i 1, i 0], [i 1, i 2]]], .tup [.nil, i 2]),
  (42, [SC [dogs, sunny 1]], .tup [.nil, i 7]),
  (20, [SC [dogs, dogs, dogs], .list false [[i 0, i 0], [i 1, i 0], [i 0, i 2]], lw [3, 0]], .tup [.nil, i 2]),
  (46, [full], .tup [.agg [i 0, i 0], i 0, i 9]),
  (46, [SC [dogs, dogs, dogs]], .tup [.agg [i 0, i 0], i 0, i 10]),
  (117, [BX [[i 0, i 0]], turn], .tup [.list false [[.list false [[i 2, i 0, i 0, i 0, i 0], [i 2, i 1, i 2, i 1, i 2], [i 2, i 0, i 0, i 0, i 0]]], [.list false [[i 2, i 0, i 1, i 0, i 1], [i 2, i 0, i 0, i 0, i 0], [i 2, i 0, i 0, i 0, i 0]]]], i 0]),
  (117, [BX [[i 0, i 0], [i 0, i 0]], turn], .tup [.list false [[.list false [[i 2, i 0, i 0, i 0, i 0], [i 2, i 1, i 2, i 1, i 2], [i 2, i 0, i 0, i 0, i 0]]], [.list false [[i 2, i 0, i 1, i 0, i 1], [i 2, i 0, i 0, i 0, i 0], [i 2, i 0, i 0, i 0, i 0]]]], i 0]),
  (117, [BX [[i 0, i 0], [i 0, i 1]], turn], .tup [.list false [[.list false [[i 2, i 0, i 0, i 0, i 0], [i 2, i 1, i 2, i 1, i 2], [i 2, i 1, i 2, i 1, i 2]]], [.list false [[i 2, i 0, i 1, i 0, i 1], [i 2, i 0, i 1, i 0, i 1], [i 2, i 0, i 0, i 0, i 0]]]], i 0]),
  (117, [BX [[i 0, i 0], [i 0, i 2]], turn], .tup [.list false [[.list false [[i 2, i 0, i 0, i 0, i 0], [i 2, i 1, i 2, i 1, i 2], [i 2, i 0, i 0, i 0, i 0]]], [.list false [[i 2, i 0, i 1, i 0, i 1], [i 2, i 0, i 0, i 0, i 0], [i 2, i 0, i 1, i 0, i 1]]]], i 0]),
  (117, [BX [[i 0, i 0], [i 1, i 0]], turn], .tup [.list false [[.list false [[i 2, i 0, i 0, i 0, i 0], [i 2, i 1, i 2, i 1, i 2], [i 2, i 0, i 0, i 0, i 0]]], [.list false [[i 2, i 0, i 1, i 0, i 1], [i 2, i 1, i 2, i 1, i 2], [i 2, i 0, i 0, i 0, i 0]]]], i 0]),
  (117, [BX [[i 0, i 0], [i 1, i 1]], turn], .tup [.list false [[.list false [[i 2, i 0, i 0, i 0, i 0], [i 2, i 1, i 2, i 1, i 2], [i 2, i 0, i 0, i 0, i 0]]], [.list false [[i 2, i 0, i 1, i 0, i 1], [i 2, i 0, i 0, i 0, i 0], [i 2, i 1, i 2, i 1, i 2]]]], i 0]),
  (117, [BX [[i 0, i 0], [i 1, i 2]], turn], .tup [.list false [[.list false [[i 2, i 0, i 0, i 0, i 0], [i 2, i 1, i 2, i 1, i 2], [i 2, i 0, i 0, i 0, i 0]]], [.list false [[i 2, i 0, i 1, i 0, i 1], [i 2, i 0, i 0, i 0, i 0], [i 2, i 0, i 0, i 0, i 0]]]], i 0])]
theorem tabN_ok : KnOK Tryz.prog tabN :=
  knA hP tabA_ok (knA hP tabB_ok (knA hP tabB_ok (knA hP tabB_ok (knA hP tabB_ok (knA hP tabB_ok (knA hP tabB_ok (knA hP tabB_ok (knA hP tabB_ok (knA hP tabB_ok (knA hP tabB_ok (knA hP tabB_ok (knA hP tabB_ok (knA hP tabB_ok (knA hP tabB_ok (knA hP tabB_ok (knA hP tabB_ok (knA hP tabB_ok (knA hP tabB_ok (knA hP knOK_nil (knA hP knOK_nil (knA hP knOK_nil (knA hP knOK_nil (knA hP knOK_nil (knA hP knOK_nil (knA hP knOK_nil (knOK_nil) kb6) kb5) kb4) kb3) kb2) kb1) kb0) kSNq) kSNp) kSNo) kSNn) kSNm) kSNl) kSNk) kSNj) kSNi) kSNh) kSNg) kSNf) kSNe) kSNd) kSNc) kSNb) kSNa) kSVa) awake
def litK (l d : Nat) : Bool := Nat.beq d l
noncomputable def exS (l : Nat) : RecN := exec Tryz.prog (knX []) (koX []) (litK l) 300
def HC : Mk := ⟨.vec 97 [[rob [true, false, true]], [rob [true, true, true]]], some (.agg [i 1, i 2, i 3, i 1, lw [2, 2], lw [2, 3], .list false [[row [3]], [row [0, 3]]], .list false [[i 0, i 0]], .nil, .list false [[row [2, 2]], [row [3, 3]]], .vec 0 206 0 2, .nil])⟩
def ownN : KnownO := [(50, [.nil], 206, HC)]
set_option maxRecDepth 100000
theorem hC : callH Tryz.prog (exS 7) 7 50 [.nil] 206 = some HC := by kernel_rfl
theorem ownOK : KoOK Tryz.prog ownN := koOK_cons (lit := litK 7) (n := 300) hP knOK_nil koOK_nil koOK_nil hC
end Go.Proofs.Tryz.Kn
/- What the closed statement SeatNames comes to, by computing, with known calls. No condition. -/
namespace Go.Proofs.Tryz.Kn
open Go Go.Pg
set_option maxRecDepth 100000
def litN (d : Nat) : Bool := Nat.beq d 208 || Nat.beq d 211
noncomputable def exE : XE := envX Tryz.prog (knX tabN) (koX ownN) litN (execA Tryz.prog annC (knX tabN) 300)
noncomputable def exN (n : Nat) : RecN := Nat.rec (motive := fun _ => RecN) (fun _ _ _ => none) (fun n ih N code st => Bool.rec (execStep Tryz.prog exE n N (ih N) code st) (execA Tryz.prog annC (knX tabN) 300 N code st) (Nat.beq (fstR code) 265010026)) n
theorem exN_ok : ∀ n, RecX Tryz.prog (exN n)
  | 0 => fun _ _ _ _ _ hx => by cases hx
  | n + 1 => fun N code st e st' hx => by
    have hx : (Bool.rec (execStep Tryz.prog exE n N (exN n N) code st) (execA Tryz.prog annC (knX tabN) 300 N code st) (Nat.beq (fstR code) 265010026) : Option (Exit × XS)) = some (e, st') := hx
    cases hb : Nat.beq (fstR code) 265010026 with
    | true =>
      rw [hb] at hx
      exact execA_ok hP tabN_ok 300 N code st e st' hx
    | false =>
      rw [hb] at hx
      exact execStep_ok hP (envX_ok hP tabN_ok ownOK (execA_ok hP tabN_ok 300)) (exN_ok n N) n code st e st' hx
theorem runN : call0 Tryz.prog (exN 300) 8 [] = some (.bool true) := by kernel_rfl
end Go.Proofs.Tryz.Kn
