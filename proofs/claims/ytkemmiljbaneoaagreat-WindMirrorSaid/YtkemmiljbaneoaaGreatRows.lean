/-
  No cell of these rows narrows 'for every input' (looked for: loops, veiled, ifaces, maps, wideKeys, modest, calm, conditions, laid).
  DERIVED. THE GIVEN ROWS OF THIS SEAT. 10 by the template 'for every input the law returns true; each argument reads behind the call as it read before'; 0 by the template 'total and deterministic' (their statements: YtkemmiljbaneoaaGreatTotals.lean).
  GIVEN WITH THE SEED: the statements are not yours to turn. If you find one false, say at which input.
  Laid BY PROGRAM, IN A SANDBOX (cutbox-rows.mjs): the forced cells as the released guide's own fill.sh prints them over the translation 0f5d2cac5299ff0b… (all of the seat's roots in one cut). By AI agents, Wed Nov 11 2026. No macro, syntax, notation, axiom, sorry.
-/
import Derived.Test.YtkemmiljbaneoaaGreatChecked
import GoSem.Claim
import GoSem.ClaimJoined
import GoSem.ClaimMapViews
import Derived.JoinedTies
import Derived.KernelRfl
namespace Go.Proofs.YtkemmiljbaneoaaGreat
/- THE CELL 'sum', in the pinned program and in every row, IS THE sha256 OF THE DUMP (.gsa) THAT YtkemmiljbaneoaaGreatProg.lean LOADS. Nothing in Lean hashes anything: it is a label: what it is worth is what the hold of that sum in a sandbox is worth. -/
noncomputable def Tryz.pinned : Pinned := { name := "ytkemmiljbaneoaagreat", sum := "0f5d2cac5299ff0b4d95f590e44c86ebd53e7c28559480d0cebe98d89db305cc", checked := Tryz.checked }
namespace Rows
def none {H : Type} : Left H := { results := [], args := [] }

/-- 'foreshorelaw04.WindBounds': WHATEVER THE INPUT: true; the input reads as it did. -/
def windBoundsSpec : ChangeSpec := { name := "windBounds", fn := fun _ => fun
  | [d1, d2] => { results := [.lit (.bool true)], args := [d1, d2] }
  | _ => none }
def windBoundsRow : OpenClaim := { program := "ytkemmiljbaneoaagreat", sum := "0f5d2cac5299ff0b4d95f590e44c86ebd53e7c28559480d0cebe98d89db305cc", func := "foreshore/foreshorelaw04.WindBounds", spec := "windBounds", unfollowed := true, recurses := true, plainKeys := false, apart := false }
def WindBoundsSaid : Prop := windBoundsRow.holds Tryz.pinned (OpenSpec.ofChange windBoundsSpec)

/-- ITS FALSE NEIGHBOUR: 'it returns false'. Refute it at one input. -/
def windBoundsWrong : ChangeSpec := { name := "windBounds", fn := fun _ => fun
  | [d1, d2] => { results := [.lit (.bool false)], args := [d1, d2] }
  | _ => none }
def WindBoundsWrongFalsely : Prop := windBoundsRow.holds Tryz.pinned (OpenSpec.ofChange windBoundsWrong)

/-- 'foreshorelaw04.WindCalms': WHATEVER THE INPUT: true; the input reads as it did. -/
def windCalmsSpec : ChangeSpec := { name := "windCalms", fn := fun _ => fun
  | [d1, d2, d3, d4] => { results := [.lit (.bool true)], args := [d1, d2, d3, d4] }
  | _ => none }
def windCalmsRow : OpenClaim := { program := "ytkemmiljbaneoaagreat", sum := "0f5d2cac5299ff0b4d95f590e44c86ebd53e7c28559480d0cebe98d89db305cc", func := "foreshore/foreshorelaw04.WindCalms", spec := "windCalms", unfollowed := true, recurses := true, plainKeys := false, apart := false }
def WindCalmsSaid : Prop := windCalmsRow.holds Tryz.pinned (OpenSpec.ofChange windCalmsSpec)

/-- ITS FALSE NEIGHBOUR: 'it returns false'. Refute it at one input. -/
def windCalmsWrong : ChangeSpec := { name := "windCalms", fn := fun _ => fun
  | [d1, d2, d3, d4] => { results := [.lit (.bool false)], args := [d1, d2, d3, d4] }
  | _ => none }
def WindCalmsWrongFalsely : Prop := windCalmsRow.holds Tryz.pinned (OpenSpec.ofChange windCalmsWrong)

/-- 'foreshorelaw04.WindBest': WHATEVER THE INPUT: true; the input reads as it did. -/
def windBestSpec : ChangeSpec := { name := "windBest", fn := fun _ => fun
  | [d1, d2, d3, d4] => { results := [.lit (.bool true)], args := [d1, d2, d3, d4] }
  | _ => none }
def windBestRow : OpenClaim := { program := "ytkemmiljbaneoaagreat", sum := "0f5d2cac5299ff0b4d95f590e44c86ebd53e7c28559480d0cebe98d89db305cc", func := "foreshore/foreshorelaw04.WindBest", spec := "windBest", unfollowed := true, recurses := true, plainKeys := false, apart := false }
def WindBestSaid : Prop := windBestRow.holds Tryz.pinned (OpenSpec.ofChange windBestSpec)

/-- ITS FALSE NEIGHBOUR: 'it returns false'. Refute it at one input. -/
def windBestWrong : ChangeSpec := { name := "windBest", fn := fun _ => fun
  | [d1, d2, d3, d4] => { results := [.lit (.bool false)], args := [d1, d2, d3, d4] }
  | _ => none }
def WindBestWrongFalsely : Prop := windBestRow.holds Tryz.pinned (OpenSpec.ofChange windBestWrong)

/-- 'foreshorelaw04.WindLeaves': WHATEVER THE INPUT: true; the input reads as it did. -/
def windLeavesSpec : ChangeSpec := { name := "windLeaves", fn := fun _ => fun
  | [d] => { results := [.lit (.bool true)], args := [d] }
  | _ => none }
def windLeavesRow : OpenClaim := { program := "ytkemmiljbaneoaagreat", sum := "0f5d2cac5299ff0b4d95f590e44c86ebd53e7c28559480d0cebe98d89db305cc", func := "foreshore/foreshorelaw04.WindLeaves", spec := "windLeaves", unfollowed := true, recurses := true, plainKeys := false, apart := false }
def WindLeavesSaid : Prop := windLeavesRow.holds Tryz.pinned (OpenSpec.ofChange windLeavesSpec)

/-- ITS FALSE NEIGHBOUR: 'it returns false'. Refute it at one input. -/
def windLeavesWrong : ChangeSpec := { name := "windLeaves", fn := fun _ => fun
  | [d] => { results := [.lit (.bool false)], args := [d] }
  | _ => none }
def WindLeavesWrongFalsely : Prop := windLeavesRow.holds Tryz.pinned (OpenSpec.ofChange windLeavesWrong)

/-- 'foreshorelaw04.WindEnds': WHATEVER THE INPUT: true; the input reads as it did. -/
def windEndsSpec : ChangeSpec := { name := "windEnds", fn := fun _ => fun
  | [d1, d2, d3, d4] => { results := [.lit (.bool true)], args := [d1, d2, d3, d4] }
  | _ => none }
def windEndsRow : OpenClaim := { program := "ytkemmiljbaneoaagreat", sum := "0f5d2cac5299ff0b4d95f590e44c86ebd53e7c28559480d0cebe98d89db305cc", func := "foreshore/foreshorelaw04.WindEnds", spec := "windEnds", unfollowed := true, recurses := true, plainKeys := false, apart := false }
def WindEndsSaid : Prop := windEndsRow.holds Tryz.pinned (OpenSpec.ofChange windEndsSpec)

/-- ITS FALSE NEIGHBOUR: 'it returns false'. Refute it at one input. -/
def windEndsWrong : ChangeSpec := { name := "windEnds", fn := fun _ => fun
  | [d1, d2, d3, d4] => { results := [.lit (.bool false)], args := [d1, d2, d3, d4] }
  | _ => none }
def WindEndsWrongFalsely : Prop := windEndsRow.holds Tryz.pinned (OpenSpec.ofChange windEndsWrong)

/-- 'foreshorelaw04.WindNoBetter': WHATEVER THE INPUT: true; the input reads as it did. -/
def windNoBetterSpec : ChangeSpec := { name := "windNoBetter", fn := fun _ => fun
  | [d1, d2, d3, d4] => { results := [.lit (.bool true)], args := [d1, d2, d3, d4] }
  | _ => none }
def windNoBetterRow : OpenClaim := { program := "ytkemmiljbaneoaagreat", sum := "0f5d2cac5299ff0b4d95f590e44c86ebd53e7c28559480d0cebe98d89db305cc", func := "foreshore/foreshorelaw04.WindNoBetter", spec := "windNoBetter", unfollowed := true, recurses := true, plainKeys := false, apart := false }
def WindNoBetterSaid : Prop := windNoBetterRow.holds Tryz.pinned (OpenSpec.ofChange windNoBetterSpec)

/-- ITS FALSE NEIGHBOUR: 'it returns false'. Refute it at one input. -/
def windNoBetterWrong : ChangeSpec := { name := "windNoBetter", fn := fun _ => fun
  | [d1, d2, d3, d4] => { results := [.lit (.bool false)], args := [d1, d2, d3, d4] }
  | _ => none }
def WindNoBetterWrongFalsely : Prop := windNoBetterRow.holds Tryz.pinned (OpenSpec.ofChange windNoBetterWrong)

/-- 'foreshorelaw04.WindMirror': WHATEVER THE INPUT: true; the input reads as it did. -/
def windMirrorSpec : ChangeSpec := { name := "windMirror", fn := fun _ => fun
  | [d1, d2, d3, d4] => { results := [.lit (.bool true)], args := [d1, d2, d3, d4] }
  | _ => none }
def windMirrorRow : OpenClaim := { program := "ytkemmiljbaneoaagreat", sum := "0f5d2cac5299ff0b4d95f590e44c86ebd53e7c28559480d0cebe98d89db305cc", func := "foreshore/foreshorelaw04.WindMirror", spec := "windMirror", unfollowed := true, recurses := true, plainKeys := false, apart := false }
def WindMirrorSaid : Prop := windMirrorRow.holds Tryz.pinned (OpenSpec.ofChange windMirrorSpec)

/-- ITS FALSE NEIGHBOUR: 'it returns false'. Refute it at one input. -/
def windMirrorWrong : ChangeSpec := { name := "windMirror", fn := fun _ => fun
  | [d1, d2, d3, d4] => { results := [.lit (.bool false)], args := [d1, d2, d3, d4] }
  | _ => none }
def WindMirrorWrongFalsely : Prop := windMirrorRow.holds Tryz.pinned (OpenSpec.ofChange windMirrorWrong)

/-- 'foreshorelaw04.WindLeft': WHATEVER THE INPUT: true; the input reads as it did. -/
def windLeftSpec : ChangeSpec := { name := "windLeft", fn := fun _ => fun
  | [d1, d2] => { results := [.lit (.bool true)], args := [d1, d2] }
  | _ => none }
def windLeftRow : OpenClaim := { program := "ytkemmiljbaneoaagreat", sum := "0f5d2cac5299ff0b4d95f590e44c86ebd53e7c28559480d0cebe98d89db305cc", func := "foreshore/foreshorelaw04.WindLeft", spec := "windLeft", unfollowed := true, recurses := true, plainKeys := false, apart := false }
def WindLeftSaid : Prop := windLeftRow.holds Tryz.pinned (OpenSpec.ofChange windLeftSpec)

/-- ITS FALSE NEIGHBOUR: 'it returns false'. Refute it at one input. -/
def windLeftWrong : ChangeSpec := { name := "windLeft", fn := fun _ => fun
  | [d1, d2] => { results := [.lit (.bool false)], args := [d1, d2] }
  | _ => none }
def WindLeftWrongFalsely : Prop := windLeftRow.holds Tryz.pinned (OpenSpec.ofChange windLeftWrong)

/-- 'foreshorelaw04.WindPlays': WHATEVER THE INPUT: true; the input reads as it did. -/
def windPlaysSpec : ChangeSpec := { name := "windPlays", fn := fun _ => fun
  | [d1, d2, d3] => { results := [.lit (.bool true)], args := [d1, d2, d3] }
  | _ => none }
def windPlaysRow : OpenClaim := { program := "ytkemmiljbaneoaagreat", sum := "0f5d2cac5299ff0b4d95f590e44c86ebd53e7c28559480d0cebe98d89db305cc", func := "foreshore/foreshorelaw04.WindPlays", spec := "windPlays", unfollowed := true, recurses := true, plainKeys := false, apart := false }
def WindPlaysSaid : Prop := windPlaysRow.holds Tryz.pinned (OpenSpec.ofChange windPlaysSpec)

/-- ITS FALSE NEIGHBOUR: 'it returns false'. Refute it at one input. -/
def windPlaysWrong : ChangeSpec := { name := "windPlays", fn := fun _ => fun
  | [d1, d2, d3] => { results := [.lit (.bool false)], args := [d1, d2, d3] }
  | _ => none }
def WindPlaysWrongFalsely : Prop := windPlaysRow.holds Tryz.pinned (OpenSpec.ofChange windPlaysWrong)

/-- 'foreshorelaw04.WindTruth': WHATEVER THE INPUT: true; the input reads as it did. -/
def windTruthSpec : ChangeSpec := { name := "windTruth", fn := fun _ => fun
  | [d1, d2, d3] => { results := [.lit (.bool true)], args := [d1, d2, d3] }
  | _ => none }
def windTruthRow : OpenClaim := { program := "ytkemmiljbaneoaagreat", sum := "0f5d2cac5299ff0b4d95f590e44c86ebd53e7c28559480d0cebe98d89db305cc", func := "foreshore/foreshorelaw04.WindTruth", spec := "windTruth", unfollowed := true, recurses := true, plainKeys := false, apart := false }
def WindTruthSaid : Prop := windTruthRow.holds Tryz.pinned (OpenSpec.ofChange windTruthSpec)

/-- ITS FALSE NEIGHBOUR: 'it returns false'. Refute it at one input. -/
def windTruthWrong : ChangeSpec := { name := "windTruth", fn := fun _ => fun
  | [d1, d2, d3] => { results := [.lit (.bool false)], args := [d1, d2, d3] }
  | _ => none }
def WindTruthWrongFalsely : Prop := windTruthRow.holds Tryz.pinned (OpenSpec.ofChange windTruthWrong)

/- THE SECOND FORM. 'bulk': how many values and letters a reading holds, each counted each time it is reached (what is shared counts as often as it is met; a slice's spare places count too). A statement '..UptoSaid' is the law's where the arguments, and the package variables that the reading takes, are together of bulk at most 1048576: NARROWER than '..Said'. Prove '..Said' where nothing that the law and all that it calls make is longer than what came in: it says more and counts as full. Else prove '..UptoSaid'. A law counts once. -/
mutual
def uptoBulk {H : Type} : DataW H → Nat
  | .lit (.string bytes) => bytes.length + 1
  | .lit _ => 1
  | .nil => 1
  | .ptr d => uptoBulk d + 1
  | .slice elems spare => uptoBulkAll elems + uptoBulkAll spare + 1
  | .agg parts => uptoBulkAll parts + 1
  | .iface _ d => uptoBulk d + 1
  | .map entries => uptoBulkEntries entries + 1
  | .held _ => 1
def uptoBulkAll {H : Type} : List (DataW H) → Nat
  | [] => 0
  | d :: r => uptoBulk d + uptoBulkAll r
def uptoBulkEntries {H : Type} : List (Lit × DataW H) → Nat
  | [] => 0
  | x :: r => uptoBulkEntry x + uptoBulkEntries r
def uptoBulkEntry {H : Type} : Lit × DataW H → Nat
  | (.string bytes, d) => bytes.length + uptoBulk d + 1
  | (_, d) => uptoBulk d + 1
 end
def uptoSmall : (H : Type) → List (DataW H) → Bool := fun _ ds => decide (uptoBulkAll ds ≤ 1048576)
def OpenSpec.upto (s : _root_.Go.ChangeSpec) : _root_.Go.OpenSpec := { _root_.Go.OpenSpec.ofChange s with cond := some uptoSmall }

/-- 'foreshorelaw04.WindBounds', WHERE WHAT IT READS IS OF BULK AT MOST 1048576: true; the input reads as it did. -/
def windBoundsUptoRow : OpenClaim := { program := "ytkemmiljbaneoaagreat", sum := "0f5d2cac5299ff0b4d95f590e44c86ebd53e7c28559480d0cebe98d89db305cc", func := "foreshore/foreshorelaw04.WindBounds", spec := "windBounds", unfollowed := true, recurses := true, plainKeys := false, apart := false, narrowed := true }
def WindBoundsUptoSaid : Prop := windBoundsUptoRow.holds Tryz.pinned (OpenSpec.upto windBoundsSpec)

/-- 'foreshorelaw04.WindCalms', WHERE WHAT IT READS IS OF BULK AT MOST 1048576: true; the input reads as it did. -/
def windCalmsUptoRow : OpenClaim := { program := "ytkemmiljbaneoaagreat", sum := "0f5d2cac5299ff0b4d95f590e44c86ebd53e7c28559480d0cebe98d89db305cc", func := "foreshore/foreshorelaw04.WindCalms", spec := "windCalms", unfollowed := true, recurses := true, plainKeys := false, apart := false, narrowed := true }
def WindCalmsUptoSaid : Prop := windCalmsUptoRow.holds Tryz.pinned (OpenSpec.upto windCalmsSpec)

/-- 'foreshorelaw04.WindBest', WHERE WHAT IT READS IS OF BULK AT MOST 1048576: true; the input reads as it did. -/
def windBestUptoRow : OpenClaim := { program := "ytkemmiljbaneoaagreat", sum := "0f5d2cac5299ff0b4d95f590e44c86ebd53e7c28559480d0cebe98d89db305cc", func := "foreshore/foreshorelaw04.WindBest", spec := "windBest", unfollowed := true, recurses := true, plainKeys := false, apart := false, narrowed := true }
def WindBestUptoSaid : Prop := windBestUptoRow.holds Tryz.pinned (OpenSpec.upto windBestSpec)

/-- 'foreshorelaw04.WindLeaves', WHERE WHAT IT READS IS OF BULK AT MOST 1048576: true; the input reads as it did. -/
def windLeavesUptoRow : OpenClaim := { program := "ytkemmiljbaneoaagreat", sum := "0f5d2cac5299ff0b4d95f590e44c86ebd53e7c28559480d0cebe98d89db305cc", func := "foreshore/foreshorelaw04.WindLeaves", spec := "windLeaves", unfollowed := true, recurses := true, plainKeys := false, apart := false, narrowed := true }
def WindLeavesUptoSaid : Prop := windLeavesUptoRow.holds Tryz.pinned (OpenSpec.upto windLeavesSpec)

/-- 'foreshorelaw04.WindEnds', WHERE WHAT IT READS IS OF BULK AT MOST 1048576: true; the input reads as it did. -/
def windEndsUptoRow : OpenClaim := { program := "ytkemmiljbaneoaagreat", sum := "0f5d2cac5299ff0b4d95f590e44c86ebd53e7c28559480d0cebe98d89db305cc", func := "foreshore/foreshorelaw04.WindEnds", spec := "windEnds", unfollowed := true, recurses := true, plainKeys := false, apart := false, narrowed := true }
def WindEndsUptoSaid : Prop := windEndsUptoRow.holds Tryz.pinned (OpenSpec.upto windEndsSpec)

/-- 'foreshorelaw04.WindNoBetter', WHERE WHAT IT READS IS OF BULK AT MOST 1048576: true; the input reads as it did. -/
def windNoBetterUptoRow : OpenClaim := { program := "ytkemmiljbaneoaagreat", sum := "0f5d2cac5299ff0b4d95f590e44c86ebd53e7c28559480d0cebe98d89db305cc", func := "foreshore/foreshorelaw04.WindNoBetter", spec := "windNoBetter", unfollowed := true, recurses := true, plainKeys := false, apart := false, narrowed := true }
def WindNoBetterUptoSaid : Prop := windNoBetterUptoRow.holds Tryz.pinned (OpenSpec.upto windNoBetterSpec)

/-- 'foreshorelaw04.WindMirror', WHERE WHAT IT READS IS OF BULK AT MOST 1048576: true; the input reads as it did. -/
def windMirrorUptoRow : OpenClaim := { program := "ytkemmiljbaneoaagreat", sum := "0f5d2cac5299ff0b4d95f590e44c86ebd53e7c28559480d0cebe98d89db305cc", func := "foreshore/foreshorelaw04.WindMirror", spec := "windMirror", unfollowed := true, recurses := true, plainKeys := false, apart := false, narrowed := true }
def WindMirrorUptoSaid : Prop := windMirrorUptoRow.holds Tryz.pinned (OpenSpec.upto windMirrorSpec)

/-- 'foreshorelaw04.WindLeft', WHERE WHAT IT READS IS OF BULK AT MOST 1048576: true; the input reads as it did. -/
def windLeftUptoRow : OpenClaim := { program := "ytkemmiljbaneoaagreat", sum := "0f5d2cac5299ff0b4d95f590e44c86ebd53e7c28559480d0cebe98d89db305cc", func := "foreshore/foreshorelaw04.WindLeft", spec := "windLeft", unfollowed := true, recurses := true, plainKeys := false, apart := false, narrowed := true }
def WindLeftUptoSaid : Prop := windLeftUptoRow.holds Tryz.pinned (OpenSpec.upto windLeftSpec)

/-- 'foreshorelaw04.WindPlays', WHERE WHAT IT READS IS OF BULK AT MOST 1048576: true; the input reads as it did. -/
def windPlaysUptoRow : OpenClaim := { program := "ytkemmiljbaneoaagreat", sum := "0f5d2cac5299ff0b4d95f590e44c86ebd53e7c28559480d0cebe98d89db305cc", func := "foreshore/foreshorelaw04.WindPlays", spec := "windPlays", unfollowed := true, recurses := true, plainKeys := false, apart := false, narrowed := true }
def WindPlaysUptoSaid : Prop := windPlaysUptoRow.holds Tryz.pinned (OpenSpec.upto windPlaysSpec)

/-- 'foreshorelaw04.WindTruth', WHERE WHAT IT READS IS OF BULK AT MOST 1048576: true; the input reads as it did. -/
def windTruthUptoRow : OpenClaim := { program := "ytkemmiljbaneoaagreat", sum := "0f5d2cac5299ff0b4d95f590e44c86ebd53e7c28559480d0cebe98d89db305cc", func := "foreshore/foreshorelaw04.WindTruth", spec := "windTruth", unfollowed := true, recurses := true, plainKeys := false, apart := false, narrowed := true }
def WindTruthUptoSaid : Prop := windTruthUptoRow.holds Tryz.pinned (OpenSpec.upto windTruthSpec)

end Rows
end Go.Proofs.YtkemmiljbaneoaaGreat
