/-
  No cell of these rows narrows 'for every input' (looked for: loops, veiled, ifaces, maps, wideKeys, modest, calm, conditions, laid).
  DERIVED. THE GIVEN ROWS OF THIS SEAT. 15 by the template 'for every input the law returns true; each argument reads behind the call as it read before'; 0 by the template 'total and deterministic' (their statements: YthhdhbalenanjaaGreatTotals.lean).
  GIVEN WITH THE SEED: the statements are not yours to turn. If you find one false, say at which input.
  Laid BY PROGRAM, IN A SANDBOX (cutbox-rows.mjs): the forced cells as the released guide's own fill.sh prints them over the translation 51e4a7abd85206a0… (all of the seat's roots in one cut). By AI agents, Wed Nov 11 2026. No macro, syntax, notation, axiom, sorry.
-/
import Derived.Test.YthhdhbalenanjaaGreatChecked
import GoSem.Claim
import GoSem.ClaimJoined
import GoSem.ClaimMapViews
import Derived.JoinedTies
import Derived.KernelRfl
namespace Go.Proofs.YthhdhbalenanjaaGreat
/- THE CELL 'sum', in the pinned program and in every row, IS THE sha256 OF THE DUMP (.gsa) THAT YthhdhbalenanjaaGreatProg.lean LOADS. Nothing in Lean hashes anything: it is a label: what it is worth is what the hold of that sum in a sandbox is worth. -/
noncomputable def Tryz.pinned : Pinned := { name := "ythhdhbalenanjaagreat", sum := "51e4a7abd85206a016931deb69ea54bfe6a1b7ec078a8534b2da5593d6e93b87", checked := Tryz.checked }
namespace Rows
def none {H : Type} : Left H := { results := [], args := [] }

/-- 'foreshorelaw05.SeatPlays': WHATEVER THE INPUT: true; the input reads as it did. -/
def seatPlaysSpec : ChangeSpec := { name := "seatPlays", fn := fun _ => fun
  | [d1, d2, d3] => { results := [.lit (.bool true)], args := [d1, d2, d3] }
  | _ => none }
def seatPlaysRow : OpenClaim := { program := "ythhdhbalenanjaagreat", sum := "51e4a7abd85206a016931deb69ea54bfe6a1b7ec078a8534b2da5593d6e93b87", func := "foreshore/foreshorelaw05.SeatPlays", spec := "seatPlays", unfollowed := true, recurses := true, plainKeys := false, apart := false }
def SeatPlaysSaid : Prop := seatPlaysRow.holds Tryz.pinned (OpenSpec.ofChange seatPlaysSpec)

/-- ITS FALSE NEIGHBOUR: 'it returns false'. Refute it at one input. -/
def seatPlaysWrong : ChangeSpec := { name := "seatPlays", fn := fun _ => fun
  | [d1, d2, d3] => { results := [.lit (.bool false)], args := [d1, d2, d3] }
  | _ => none }
def SeatPlaysWrongFalsely : Prop := seatPlaysRow.holds Tryz.pinned (OpenSpec.ofChange seatPlaysWrong)

/-- 'foreshorelaw05.SeatBounds': WHATEVER THE INPUT: true; the input reads as it did. -/
def seatBoundsSpec : ChangeSpec := { name := "seatBounds", fn := fun _ => fun
  | [d1, d2] => { results := [.lit (.bool true)], args := [d1, d2] }
  | _ => none }
def seatBoundsRow : OpenClaim := { program := "ythhdhbalenanjaagreat", sum := "51e4a7abd85206a016931deb69ea54bfe6a1b7ec078a8534b2da5593d6e93b87", func := "foreshore/foreshorelaw05.SeatBounds", spec := "seatBounds", unfollowed := true, recurses := true, plainKeys := false, apart := false }
def SeatBoundsSaid : Prop := seatBoundsRow.holds Tryz.pinned (OpenSpec.ofChange seatBoundsSpec)

/-- ITS FALSE NEIGHBOUR: 'it returns false'. Refute it at one input. -/
def seatBoundsWrong : ChangeSpec := { name := "seatBounds", fn := fun _ => fun
  | [d1, d2] => { results := [.lit (.bool false)], args := [d1, d2] }
  | _ => none }
def SeatBoundsWrongFalsely : Prop := seatBoundsRow.holds Tryz.pinned (OpenSpec.ofChange seatBoundsWrong)

/-- 'foreshorelaw05.SeatBest': WHATEVER THE INPUT: true; the input reads as it did. -/
def seatBestSpec : ChangeSpec := { name := "seatBest", fn := fun _ => fun
  | [d1, d2, d3, d4] => { results := [.lit (.bool true)], args := [d1, d2, d3, d4] }
  | _ => none }
def seatBestRow : OpenClaim := { program := "ythhdhbalenanjaagreat", sum := "51e4a7abd85206a016931deb69ea54bfe6a1b7ec078a8534b2da5593d6e93b87", func := "foreshore/foreshorelaw05.SeatBest", spec := "seatBest", unfollowed := true, recurses := true, plainKeys := false, apart := false }
def SeatBestSaid : Prop := seatBestRow.holds Tryz.pinned (OpenSpec.ofChange seatBestSpec)

/-- ITS FALSE NEIGHBOUR: 'it returns false'. Refute it at one input. -/
def seatBestWrong : ChangeSpec := { name := "seatBest", fn := fun _ => fun
  | [d1, d2, d3, d4] => { results := [.lit (.bool false)], args := [d1, d2, d3, d4] }
  | _ => none }
def SeatBestWrongFalsely : Prop := seatBestRow.holds Tryz.pinned (OpenSpec.ofChange seatBestWrong)

/-- 'foreshorelaw05.SeatLeaves': WHATEVER THE INPUT: true; the input reads as it did. -/
def seatLeavesSpec : ChangeSpec := { name := "seatLeaves", fn := fun _ => fun
  | [d] => { results := [.lit (.bool true)], args := [d] }
  | _ => none }
def seatLeavesRow : OpenClaim := { program := "ythhdhbalenanjaagreat", sum := "51e4a7abd85206a016931deb69ea54bfe6a1b7ec078a8534b2da5593d6e93b87", func := "foreshore/foreshorelaw05.SeatLeaves", spec := "seatLeaves", unfollowed := true, recurses := true, plainKeys := false, apart := false }
def SeatLeavesSaid : Prop := seatLeavesRow.holds Tryz.pinned (OpenSpec.ofChange seatLeavesSpec)

/-- ITS FALSE NEIGHBOUR: 'it returns false'. Refute it at one input. -/
def seatLeavesWrong : ChangeSpec := { name := "seatLeaves", fn := fun _ => fun
  | [d] => { results := [.lit (.bool false)], args := [d] }
  | _ => none }
def SeatLeavesWrongFalsely : Prop := seatLeavesRow.holds Tryz.pinned (OpenSpec.ofChange seatLeavesWrong)

/-- 'foreshorelaw05.SeatBreaks': WHATEVER THE INPUT: true; the input reads as it did. -/
def seatBreaksSpec : ChangeSpec := { name := "seatBreaks", fn := fun _ => fun
  | [d] => { results := [.lit (.bool true)], args := [d] }
  | _ => none }
def seatBreaksRow : OpenClaim := { program := "ythhdhbalenanjaagreat", sum := "51e4a7abd85206a016931deb69ea54bfe6a1b7ec078a8534b2da5593d6e93b87", func := "foreshore/foreshorelaw05.SeatBreaks", spec := "seatBreaks", unfollowed := true, recurses := true, plainKeys := false, apart := false }
def SeatBreaksSaid : Prop := seatBreaksRow.holds Tryz.pinned (OpenSpec.ofChange seatBreaksSpec)

/-- ITS FALSE NEIGHBOUR: 'it returns false'. Refute it at one input. -/
def seatBreaksWrong : ChangeSpec := { name := "seatBreaks", fn := fun _ => fun
  | [d] => { results := [.lit (.bool false)], args := [d] }
  | _ => none }
def SeatBreaksWrongFalsely : Prop := seatBreaksRow.holds Tryz.pinned (OpenSpec.ofChange seatBreaksWrong)

/-- 'foreshorelaw05.SeatNames': WHATEVER THE INPUT: true; the input reads as it did. -/
def seatNamesSpec : ChangeSpec := { name := "seatNames", fn := fun _ => fun
  | [] => { results := [.lit (.bool true)], args := [] }
  | _ => none }
def seatNamesRow : OpenClaim := { program := "ythhdhbalenanjaagreat", sum := "51e4a7abd85206a016931deb69ea54bfe6a1b7ec078a8534b2da5593d6e93b87", func := "foreshore/foreshorelaw05.SeatNames", spec := "seatNames", unfollowed := true, recurses := true, plainKeys := false, apart := false }
def SeatNamesSaid : Prop := seatNamesRow.holds Tryz.pinned (OpenSpec.ofChange seatNamesSpec)

/-- ITS FALSE NEIGHBOUR: 'it returns false'. Refute it at one input. -/
def seatNamesWrong : ChangeSpec := { name := "seatNames", fn := fun _ => fun
  | [] => { results := [.lit (.bool false)], args := [] }
  | _ => none }
def SeatNamesWrongFalsely : Prop := seatNamesRow.holds Tryz.pinned (OpenSpec.ofChange seatNamesWrong)

/-- 'foreshorelaw05.SeatTruth': WHATEVER THE INPUT: true; the input reads as it did. -/
def seatTruthSpec : ChangeSpec := { name := "seatTruth", fn := fun _ => fun
  | [d1, d2, d3] => { results := [.lit (.bool true)], args := [d1, d2, d3] }
  | _ => none }
def seatTruthRow : OpenClaim := { program := "ythhdhbalenanjaagreat", sum := "51e4a7abd85206a016931deb69ea54bfe6a1b7ec078a8534b2da5593d6e93b87", func := "foreshore/foreshorelaw05.SeatTruth", spec := "seatTruth", unfollowed := true, recurses := true, plainKeys := false, apart := false }
def SeatTruthSaid : Prop := seatTruthRow.holds Tryz.pinned (OpenSpec.ofChange seatTruthSpec)

/-- ITS FALSE NEIGHBOUR: 'it returns false'. Refute it at one input. -/
def seatTruthWrong : ChangeSpec := { name := "seatTruth", fn := fun _ => fun
  | [d1, d2, d3] => { results := [.lit (.bool false)], args := [d1, d2, d3] }
  | _ => none }
def SeatTruthWrongFalsely : Prop := seatTruthRow.holds Tryz.pinned (OpenSpec.ofChange seatTruthWrong)

/-- 'foreshorelaw05.SeatEnds': WHATEVER THE INPUT: true; the input reads as it did. -/
def seatEndsSpec : ChangeSpec := { name := "seatEnds", fn := fun _ => fun
  | [d1, d2, d3] => { results := [.lit (.bool true)], args := [d1, d2, d3] }
  | _ => none }
def seatEndsRow : OpenClaim := { program := "ythhdhbalenanjaagreat", sum := "51e4a7abd85206a016931deb69ea54bfe6a1b7ec078a8534b2da5593d6e93b87", func := "foreshore/foreshorelaw05.SeatEnds", spec := "seatEnds", unfollowed := true, recurses := true, plainKeys := false, apart := false }
def SeatEndsSaid : Prop := seatEndsRow.holds Tryz.pinned (OpenSpec.ofChange seatEndsSpec)

/-- ITS FALSE NEIGHBOUR: 'it returns false'. Refute it at one input. -/
def seatEndsWrong : ChangeSpec := { name := "seatEnds", fn := fun _ => fun
  | [d1, d2, d3] => { results := [.lit (.bool false)], args := [d1, d2, d3] }
  | _ => none }
def SeatEndsWrongFalsely : Prop := seatEndsRow.holds Tryz.pinned (OpenSpec.ofChange seatEndsWrong)

/-- 'foreshorelaw05.SeatNoBetter': WHATEVER THE INPUT: true; the input reads as it did. -/
def seatNoBetterSpec : ChangeSpec := { name := "seatNoBetter", fn := fun _ => fun
  | [d1, d2] => { results := [.lit (.bool true)], args := [d1, d2] }
  | _ => none }
def seatNoBetterRow : OpenClaim := { program := "ythhdhbalenanjaagreat", sum := "51e4a7abd85206a016931deb69ea54bfe6a1b7ec078a8534b2da5593d6e93b87", func := "foreshore/foreshorelaw05.SeatNoBetter", spec := "seatNoBetter", unfollowed := true, recurses := true, plainKeys := false, apart := false }
def SeatNoBetterSaid : Prop := seatNoBetterRow.holds Tryz.pinned (OpenSpec.ofChange seatNoBetterSpec)

/-- ITS FALSE NEIGHBOUR: 'it returns false'. Refute it at one input. -/
def seatNoBetterWrong : ChangeSpec := { name := "seatNoBetter", fn := fun _ => fun
  | [d1, d2] => { results := [.lit (.bool false)], args := [d1, d2] }
  | _ => none }
def SeatNoBetterWrongFalsely : Prop := seatNoBetterRow.holds Tryz.pinned (OpenSpec.ofChange seatNoBetterWrong)

/-- 'foreshorelaw05.SeatMore': WHATEVER THE INPUT: true; the input reads as it did. -/
def seatMoreSpec : ChangeSpec := { name := "seatMore", fn := fun _ => fun
  | [d1, d2] => { results := [.lit (.bool true)], args := [d1, d2] }
  | _ => none }
def seatMoreRow : OpenClaim := { program := "ythhdhbalenanjaagreat", sum := "51e4a7abd85206a016931deb69ea54bfe6a1b7ec078a8534b2da5593d6e93b87", func := "foreshore/foreshorelaw05.SeatMore", spec := "seatMore", unfollowed := true, recurses := true, plainKeys := false, apart := false }
def SeatMoreSaid : Prop := seatMoreRow.holds Tryz.pinned (OpenSpec.ofChange seatMoreSpec)

/-- ITS FALSE NEIGHBOUR: 'it returns false'. Refute it at one input. -/
def seatMoreWrong : ChangeSpec := { name := "seatMore", fn := fun _ => fun
  | [d1, d2] => { results := [.lit (.bool false)], args := [d1, d2] }
  | _ => none }
def SeatMoreWrongFalsely : Prop := seatMoreRow.holds Tryz.pinned (OpenSpec.ofChange seatMoreWrong)

/-- 'foreshorelaw05.SeatLess': WHATEVER THE INPUT: true; the input reads as it did. -/
def seatLessSpec : ChangeSpec := { name := "seatLess", fn := fun _ => fun
  | [d1, d2, d3, d4] => { results := [.lit (.bool true)], args := [d1, d2, d3, d4] }
  | _ => none }
def seatLessRow : OpenClaim := { program := "ythhdhbalenanjaagreat", sum := "51e4a7abd85206a016931deb69ea54bfe6a1b7ec078a8534b2da5593d6e93b87", func := "foreshore/foreshorelaw05.SeatLess", spec := "seatLess", unfollowed := true, recurses := true, plainKeys := false, apart := false }
def SeatLessSaid : Prop := seatLessRow.holds Tryz.pinned (OpenSpec.ofChange seatLessSpec)

/-- ITS FALSE NEIGHBOUR: 'it returns false'. Refute it at one input. -/
def seatLessWrong : ChangeSpec := { name := "seatLess", fn := fun _ => fun
  | [d1, d2, d3, d4] => { results := [.lit (.bool false)], args := [d1, d2, d3, d4] }
  | _ => none }
def SeatLessWrongFalsely : Prop := seatLessRow.holds Tryz.pinned (OpenSpec.ofChange seatLessWrong)

/-- 'foreshorelaw05.SeatBreak': WHATEVER THE INPUT: true; the input reads as it did. -/
def seatBreakSpec : ChangeSpec := { name := "seatBreak", fn := fun _ => fun
  | [d1, d2] => { results := [.lit (.bool true)], args := [d1, d2] }
  | _ => none }
def seatBreakRow : OpenClaim := { program := "ythhdhbalenanjaagreat", sum := "51e4a7abd85206a016931deb69ea54bfe6a1b7ec078a8534b2da5593d6e93b87", func := "foreshore/foreshorelaw05.SeatBreak", spec := "seatBreak", unfollowed := true, recurses := true, plainKeys := false, apart := false }
def SeatBreakSaid : Prop := seatBreakRow.holds Tryz.pinned (OpenSpec.ofChange seatBreakSpec)

/-- ITS FALSE NEIGHBOUR: 'it returns false'. Refute it at one input. -/
def seatBreakWrong : ChangeSpec := { name := "seatBreak", fn := fun _ => fun
  | [d1, d2] => { results := [.lit (.bool false)], args := [d1, d2] }
  | _ => none }
def SeatBreakWrongFalsely : Prop := seatBreakRow.holds Tryz.pinned (OpenSpec.ofChange seatBreakWrong)

/-- 'foreshorelaw05.SeatLeft': WHATEVER THE INPUT: true; the input reads as it did. -/
def seatLeftSpec : ChangeSpec := { name := "seatLeft", fn := fun _ => fun
  | [d1, d2] => { results := [.lit (.bool true)], args := [d1, d2] }
  | _ => none }
def seatLeftRow : OpenClaim := { program := "ythhdhbalenanjaagreat", sum := "51e4a7abd85206a016931deb69ea54bfe6a1b7ec078a8534b2da5593d6e93b87", func := "foreshore/foreshorelaw05.SeatLeft", spec := "seatLeft", unfollowed := true, recurses := true, plainKeys := false, apart := false }
def SeatLeftSaid : Prop := seatLeftRow.holds Tryz.pinned (OpenSpec.ofChange seatLeftSpec)

/-- ITS FALSE NEIGHBOUR: 'it returns false'. Refute it at one input. -/
def seatLeftWrong : ChangeSpec := { name := "seatLeft", fn := fun _ => fun
  | [d1, d2] => { results := [.lit (.bool false)], args := [d1, d2] }
  | _ => none }
def SeatLeftWrongFalsely : Prop := seatLeftRow.holds Tryz.pinned (OpenSpec.ofChange seatLeftWrong)

/-- 'foreshorelaw05.SeatParted': WHATEVER THE INPUT: true; the input reads as it did. -/
def seatPartedSpec : ChangeSpec := { name := "seatParted", fn := fun _ => fun
  | [d] => { results := [.lit (.bool true)], args := [d] }
  | _ => none }
def seatPartedRow : OpenClaim := { program := "ythhdhbalenanjaagreat", sum := "51e4a7abd85206a016931deb69ea54bfe6a1b7ec078a8534b2da5593d6e93b87", func := "foreshore/foreshorelaw05.SeatParted", spec := "seatParted", unfollowed := true, recurses := true, plainKeys := false, apart := false }
def SeatPartedSaid : Prop := seatPartedRow.holds Tryz.pinned (OpenSpec.ofChange seatPartedSpec)

/-- ITS FALSE NEIGHBOUR: 'it returns false'. Refute it at one input. -/
def seatPartedWrong : ChangeSpec := { name := "seatParted", fn := fun _ => fun
  | [d] => { results := [.lit (.bool false)], args := [d] }
  | _ => none }
def SeatPartedWrongFalsely : Prop := seatPartedRow.holds Tryz.pinned (OpenSpec.ofChange seatPartedWrong)

/-- 'foreshorelaw05.SeatMirror': WHATEVER THE INPUT: true; the input reads as it did. -/
def seatMirrorSpec : ChangeSpec := { name := "seatMirror", fn := fun _ => fun
  | [d] => { results := [.lit (.bool true)], args := [d] }
  | _ => none }
def seatMirrorRow : OpenClaim := { program := "ythhdhbalenanjaagreat", sum := "51e4a7abd85206a016931deb69ea54bfe6a1b7ec078a8534b2da5593d6e93b87", func := "foreshore/foreshorelaw05.SeatMirror", spec := "seatMirror", unfollowed := true, recurses := true, plainKeys := false, apart := false }
def SeatMirrorSaid : Prop := seatMirrorRow.holds Tryz.pinned (OpenSpec.ofChange seatMirrorSpec)

/-- ITS FALSE NEIGHBOUR: 'it returns false'. Refute it at one input. -/
def seatMirrorWrong : ChangeSpec := { name := "seatMirror", fn := fun _ => fun
  | [d] => { results := [.lit (.bool false)], args := [d] }
  | _ => none }
def SeatMirrorWrongFalsely : Prop := seatMirrorRow.holds Tryz.pinned (OpenSpec.ofChange seatMirrorWrong)

/- THE SECOND FORM. 'bulk': how many values and letters a reading holds, each counted each time it is reached (what is shared counts as often as it is met; a slice's spare places count too). A statement '..UptoSaid' is the law's where the arguments, and the package variables that the reading takes, are together of bulk at most 1048576: NARROWER than '..Said'. Prove '..Said' where nothing that the law and all that it calls make is longer than what came in: it says more and counts as full. Else prove '..UptoSaid'. A law counts once. -/
mutual
def uptoBulk {H : Type} : DataW H → Nat
  | .lit (.string bytes) => bytes.length + 1
  | .lit _ => 1
  | .nil => 1
  | .ptr d => uptoBulk d + 1
  | .slice elems spare => uptoBulkAll elems + uptoBulkAll spare + 1
  | .agg parts => uptoBulkAll parts + 1
  | .iface _ d => uptoBulk d + 1
  | .map entries => uptoBulkEntries entries + 1
  | .held _ => 1
def uptoBulkAll {H : Type} : List (DataW H) → Nat
  | [] => 0
  | d :: r => uptoBulk d + uptoBulkAll r
def uptoBulkEntries {H : Type} : List (Lit × DataW H) → Nat
  | [] => 0
  | x :: r => uptoBulkEntry x + uptoBulkEntries r
def uptoBulkEntry {H : Type} : Lit × DataW H → Nat
  | (.string bytes, d) => bytes.length + uptoBulk d + 1
  | (_, d) => uptoBulk d + 1
 end
def uptoSmall : (H : Type) → List (DataW H) → Bool := fun _ ds => decide (uptoBulkAll ds ≤ 1048576)
def OpenSpec.upto (s : _root_.Go.ChangeSpec) : _root_.Go.OpenSpec := { _root_.Go.OpenSpec.ofChange s with cond := some uptoSmall }

/-- 'foreshorelaw05.SeatPlays', WHERE WHAT IT READS IS OF BULK AT MOST 1048576: true; the input reads as it did. -/
def seatPlaysUptoRow : OpenClaim := { program := "ythhdhbalenanjaagreat", sum := "51e4a7abd85206a016931deb69ea54bfe6a1b7ec078a8534b2da5593d6e93b87", func := "foreshore/foreshorelaw05.SeatPlays", spec := "seatPlays", unfollowed := true, recurses := true, plainKeys := false, apart := false, narrowed := true }
def SeatPlaysUptoSaid : Prop := seatPlaysUptoRow.holds Tryz.pinned (OpenSpec.upto seatPlaysSpec)

/-- 'foreshorelaw05.SeatBounds', WHERE WHAT IT READS IS OF BULK AT MOST 1048576: true; the input reads as it did. -/
def seatBoundsUptoRow : OpenClaim := { program := "ythhdhbalenanjaagreat", sum := "51e4a7abd85206a016931deb69ea54bfe6a1b7ec078a8534b2da5593d6e93b87", func := "foreshore/foreshorelaw05.SeatBounds", spec := "seatBounds", unfollowed := true, recurses := true, plainKeys := false, apart := false, narrowed := true }
def SeatBoundsUptoSaid : Prop := seatBoundsUptoRow.holds Tryz.pinned (OpenSpec.upto seatBoundsSpec)

/-- 'foreshorelaw05.SeatBest', WHERE WHAT IT READS IS OF BULK AT MOST 1048576: true; the input reads as it did. -/
def seatBestUptoRow : OpenClaim := { program := "ythhdhbalenanjaagreat", sum := "51e4a7abd85206a016931deb69ea54bfe6a1b7ec078a8534b2da5593d6e93b87", func := "foreshore/foreshorelaw05.SeatBest", spec := "seatBest", unfollowed := true, recurses := true, plainKeys := false, apart := false, narrowed := true }
def SeatBestUptoSaid : Prop := seatBestUptoRow.holds Tryz.pinned (OpenSpec.upto seatBestSpec)

/-- 'foreshorelaw05.SeatLeaves', WHERE WHAT IT READS IS OF BULK AT MOST 1048576: true; the input reads as it did. -/
def seatLeavesUptoRow : OpenClaim := { program := "ythhdhbalenanjaagreat", sum := "51e4a7abd85206a016931deb69ea54bfe6a1b7ec078a8534b2da5593d6e93b87", func := "foreshore/foreshorelaw05.SeatLeaves", spec := "seatLeaves", unfollowed := true, recurses := true, plainKeys := false, apart := false, narrowed := true }
def SeatLeavesUptoSaid : Prop := seatLeavesUptoRow.holds Tryz.pinned (OpenSpec.upto seatLeavesSpec)

/-- 'foreshorelaw05.SeatBreaks', WHERE WHAT IT READS IS OF BULK AT MOST 1048576: true; the input reads as it did. -/
def seatBreaksUptoRow : OpenClaim := { program := "ythhdhbalenanjaagreat", sum := "51e4a7abd85206a016931deb69ea54bfe6a1b7ec078a8534b2da5593d6e93b87", func := "foreshore/foreshorelaw05.SeatBreaks", spec := "seatBreaks", unfollowed := true, recurses := true, plainKeys := false, apart := false, narrowed := true }
def SeatBreaksUptoSaid : Prop := seatBreaksUptoRow.holds Tryz.pinned (OpenSpec.upto seatBreaksSpec)

/-- 'foreshorelaw05.SeatNames', WHERE WHAT IT READS IS OF BULK AT MOST 1048576: true; the input reads as it did. -/
def seatNamesUptoRow : OpenClaim := { program := "ythhdhbalenanjaagreat", sum := "51e4a7abd85206a016931deb69ea54bfe6a1b7ec078a8534b2da5593d6e93b87", func := "foreshore/foreshorelaw05.SeatNames", spec := "seatNames", unfollowed := true, recurses := true, plainKeys := false, apart := false, narrowed := true }
def SeatNamesUptoSaid : Prop := seatNamesUptoRow.holds Tryz.pinned (OpenSpec.upto seatNamesSpec)

/-- 'foreshorelaw05.SeatTruth', WHERE WHAT IT READS IS OF BULK AT MOST 1048576: true; the input reads as it did. -/
def seatTruthUptoRow : OpenClaim := { program := "ythhdhbalenanjaagreat", sum := "51e4a7abd85206a016931deb69ea54bfe6a1b7ec078a8534b2da5593d6e93b87", func := "foreshore/foreshorelaw05.SeatTruth", spec := "seatTruth", unfollowed := true, recurses := true, plainKeys := false, apart := false, narrowed := true }
def SeatTruthUptoSaid : Prop := seatTruthUptoRow.holds Tryz.pinned (OpenSpec.upto seatTruthSpec)

/-- 'foreshorelaw05.SeatEnds', WHERE WHAT IT READS IS OF BULK AT MOST 1048576: true; the input reads as it did. -/
def seatEndsUptoRow : OpenClaim := { program := "ythhdhbalenanjaagreat", sum := "51e4a7abd85206a016931deb69ea54bfe6a1b7ec078a8534b2da5593d6e93b87", func := "foreshore/foreshorelaw05.SeatEnds", spec := "seatEnds", unfollowed := true, recurses := true, plainKeys := false, apart := false, narrowed := true }
def SeatEndsUptoSaid : Prop := seatEndsUptoRow.holds Tryz.pinned (OpenSpec.upto seatEndsSpec)

/-- 'foreshorelaw05.SeatNoBetter', WHERE WHAT IT READS IS OF BULK AT MOST 1048576: true; the input reads as it did. -/
def seatNoBetterUptoRow : OpenClaim := { program := "ythhdhbalenanjaagreat", sum := "51e4a7abd85206a016931deb69ea54bfe6a1b7ec078a8534b2da5593d6e93b87", func := "foreshore/foreshorelaw05.SeatNoBetter", spec := "seatNoBetter", unfollowed := true, recurses := true, plainKeys := false, apart := false, narrowed := true }
def SeatNoBetterUptoSaid : Prop := seatNoBetterUptoRow.holds Tryz.pinned (OpenSpec.upto seatNoBetterSpec)

/-- 'foreshorelaw05.SeatMore', WHERE WHAT IT READS IS OF BULK AT MOST 1048576: true; the input reads as it did. -/
def seatMoreUptoRow : OpenClaim := { program := "ythhdhbalenanjaagreat", sum := "51e4a7abd85206a016931deb69ea54bfe6a1b7ec078a8534b2da5593d6e93b87", func := "foreshore/foreshorelaw05.SeatMore", spec := "seatMore", unfollowed := true, recurses := true, plainKeys := false, apart := false, narrowed := true }
def SeatMoreUptoSaid : Prop := seatMoreUptoRow.holds Tryz.pinned (OpenSpec.upto seatMoreSpec)

/-- 'foreshorelaw05.SeatLess', WHERE WHAT IT READS IS OF BULK AT MOST 1048576: true; the input reads as it did. -/
def seatLessUptoRow : OpenClaim := { program := "ythhdhbalenanjaagreat", sum := "51e4a7abd85206a016931deb69ea54bfe6a1b7ec078a8534b2da5593d6e93b87", func := "foreshore/foreshorelaw05.SeatLess", spec := "seatLess", unfollowed := true, recurses := true, plainKeys := false, apart := false, narrowed := true }
def SeatLessUptoSaid : Prop := seatLessUptoRow.holds Tryz.pinned (OpenSpec.upto seatLessSpec)

/-- 'foreshorelaw05.SeatBreak', WHERE WHAT IT READS IS OF BULK AT MOST 1048576: true; the input reads as it did. -/
def seatBreakUptoRow : OpenClaim := { program := "ythhdhbalenanjaagreat", sum := "51e4a7abd85206a016931deb69ea54bfe6a1b7ec078a8534b2da5593d6e93b87", func := "foreshore/foreshorelaw05.SeatBreak", spec := "seatBreak", unfollowed := true, recurses := true, plainKeys := false, apart := false, narrowed := true }
def SeatBreakUptoSaid : Prop := seatBreakUptoRow.holds Tryz.pinned (OpenSpec.upto seatBreakSpec)

/-- 'foreshorelaw05.SeatLeft', WHERE WHAT IT READS IS OF BULK AT MOST 1048576: true; the input reads as it did. -/
def seatLeftUptoRow : OpenClaim := { program := "ythhdhbalenanjaagreat", sum := "51e4a7abd85206a016931deb69ea54bfe6a1b7ec078a8534b2da5593d6e93b87", func := "foreshore/foreshorelaw05.SeatLeft", spec := "seatLeft", unfollowed := true, recurses := true, plainKeys := false, apart := false, narrowed := true }
def SeatLeftUptoSaid : Prop := seatLeftUptoRow.holds Tryz.pinned (OpenSpec.upto seatLeftSpec)

/-- 'foreshorelaw05.SeatParted', WHERE WHAT IT READS IS OF BULK AT MOST 1048576: true; the input reads as it did. -/
def seatPartedUptoRow : OpenClaim := { program := "ythhdhbalenanjaagreat", sum := "51e4a7abd85206a016931deb69ea54bfe6a1b7ec078a8534b2da5593d6e93b87", func := "foreshore/foreshorelaw05.SeatParted", spec := "seatParted", unfollowed := true, recurses := true, plainKeys := false, apart := false, narrowed := true }
def SeatPartedUptoSaid : Prop := seatPartedUptoRow.holds Tryz.pinned (OpenSpec.upto seatPartedSpec)

/-- 'foreshorelaw05.SeatMirror', WHERE WHAT IT READS IS OF BULK AT MOST 1048576: true; the input reads as it did. -/
def seatMirrorUptoRow : OpenClaim := { program := "ythhdhbalenanjaagreat", sum := "51e4a7abd85206a016931deb69ea54bfe6a1b7ec078a8534b2da5593d6e93b87", func := "foreshore/foreshorelaw05.SeatMirror", spec := "seatMirror", unfollowed := true, recurses := true, plainKeys := false, apart := false, narrowed := true }
def SeatMirrorUptoSaid : Prop := seatMirrorUptoRow.holds Tryz.pinned (OpenSpec.upto seatMirrorSpec)

end Rows
end Go.Proofs.YthhdhbalenanjaaGreat
