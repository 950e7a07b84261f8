/-
  No cell of these rows narrows 'for every input' (looked for: loops, veiled, ifaces, maps, wideKeys, modest, calm, conditions, laid).
  DERIVED. THE GIVEN ROWS OF THIS SEAT. 7 by the template 'for every input the law returns true; each argument reads behind the call as it read before'; 0 by the template 'total and deterministic' (their statements: YtkemmiljbaneoaaTotals.lean).
  GIVEN WITH THE SEED: the statements are not yours to turn. If you find one false, say at which input.
  Laid BY PROGRAM, IN A SANDBOX (cutbox-rows.mjs): the forced cells as the released guide's own fill.sh prints them over the translation 3e7c492deb6b3226… (all of the seat's roots in one cut). By AI agents, Wed Nov 11 2026. No macro, syntax, notation, axiom, sorry.
-/
import Derived.Test.YtkemmiljbaneoaaChecked
import GoSem.Claim
import GoSem.ClaimJoined
import GoSem.ClaimMapViews
import Derived.JoinedTies
import Derived.KernelRfl
namespace Go.Proofs.Ytkemmiljbaneoaa
/- THE CELL 'sum', in the pinned program and in every row, IS THE sha256 OF THE DUMP (.gsa) THAT YtkemmiljbaneoaaProg.lean LOADS. Nothing in Lean hashes anything: it is a label: what it is worth is what the hold of that sum in a sandbox is worth. -/
noncomputable def Try.pinned : Pinned := { name := "ytkemmiljbaneoaa", sum := "3e7c492deb6b3226fb2a347113822a1db26a1adec0a3962a6e0aa37afdd3c66c", checked := Try.checked }
namespace Rows
def none {H : Type} : Left H := { results := [], args := [] }

/-- 'foreshorelaw04.WindHours': WHATEVER THE INPUT: true; the input reads as it did. -/
def windHoursSpec : ChangeSpec := { name := "windHours", fn := fun _ => fun
  | [d1, d2] => { results := [.lit (.bool true)], args := [d1, d2] }
  | _ => none }
def windHoursRow : OpenClaim := { program := "ytkemmiljbaneoaa", sum := "3e7c492deb6b3226fb2a347113822a1db26a1adec0a3962a6e0aa37afdd3c66c", func := "foreshore/foreshorelaw04.WindHours", spec := "windHours", unfollowed := true, recurses := true, plainKeys := false, apart := false }
def WindHoursSaid : Prop := windHoursRow.holds Try.pinned (OpenSpec.ofChange windHoursSpec)

/-- ITS FALSE NEIGHBOUR: 'it returns false'. Refute it at one input. -/
def windHoursWrong : ChangeSpec := { name := "windHours", fn := fun _ => fun
  | [d1, d2] => { results := [.lit (.bool false)], args := [d1, d2] }
  | _ => none }
def WindHoursWrongFalsely : Prop := windHoursRow.holds Try.pinned (OpenSpec.ofChange windHoursWrong)

/-- 'foreshorelaw04.WindBreak': WHATEVER THE INPUT: true; the input reads as it did. -/
def windBreakSpec : ChangeSpec := { name := "windBreak", fn := fun _ => fun
  | [d1, d2, d3, d4, d5, d6] => { results := [.lit (.bool true)], args := [d1, d2, d3, d4, d5, d6] }
  | _ => none }
def windBreakRow : OpenClaim := { program := "ytkemmiljbaneoaa", sum := "3e7c492deb6b3226fb2a347113822a1db26a1adec0a3962a6e0aa37afdd3c66c", func := "foreshore/foreshorelaw04.WindBreak", spec := "windBreak", unfollowed := true, recurses := true, plainKeys := false, apart := false }
def WindBreakSaid : Prop := windBreakRow.holds Try.pinned (OpenSpec.ofChange windBreakSpec)

/-- ITS FALSE NEIGHBOUR: 'it returns false'. Refute it at one input. -/
def windBreakWrong : ChangeSpec := { name := "windBreak", fn := fun _ => fun
  | [d1, d2, d3, d4, d5, d6] => { results := [.lit (.bool false)], args := [d1, d2, d3, d4, d5, d6] }
  | _ => none }
def WindBreakWrongFalsely : Prop := windBreakRow.holds Try.pinned (OpenSpec.ofChange windBreakWrong)

/-- 'foreshorelaw04.WindBack': WHATEVER THE INPUT: true; the input reads as it did. -/
def windBackSpec : ChangeSpec := { name := "windBack", fn := fun _ => fun
  | [d1, d2, d3] => { results := [.lit (.bool true)], args := [d1, d2, d3] }
  | _ => none }
def windBackRow : OpenClaim := { program := "ytkemmiljbaneoaa", sum := "3e7c492deb6b3226fb2a347113822a1db26a1adec0a3962a6e0aa37afdd3c66c", func := "foreshore/foreshorelaw04.WindBack", spec := "windBack", unfollowed := true, recurses := true, plainKeys := false, apart := false }
def WindBackSaid : Prop := windBackRow.holds Try.pinned (OpenSpec.ofChange windBackSpec)

/-- ITS FALSE NEIGHBOUR: 'it returns false'. Refute it at one input. -/
def windBackWrong : ChangeSpec := { name := "windBack", fn := fun _ => fun
  | [d1, d2, d3] => { results := [.lit (.bool false)], args := [d1, d2, d3] }
  | _ => none }
def WindBackWrongFalsely : Prop := windBackRow.holds Try.pinned (OpenSpec.ofChange windBackWrong)

/-- 'foreshorelaw04.WindMore': WHATEVER THE INPUT: true; the input reads as it did. -/
def windMoreSpec : ChangeSpec := { name := "windMore", fn := fun _ => fun
  | [d1, d2, d3, d4, d5] => { results := [.lit (.bool true)], args := [d1, d2, d3, d4, d5] }
  | _ => none }
def windMoreRow : OpenClaim := { program := "ytkemmiljbaneoaa", sum := "3e7c492deb6b3226fb2a347113822a1db26a1adec0a3962a6e0aa37afdd3c66c", func := "foreshore/foreshorelaw04.WindMore", spec := "windMore", unfollowed := true, recurses := true, plainKeys := false, apart := false }
def WindMoreSaid : Prop := windMoreRow.holds Try.pinned (OpenSpec.ofChange windMoreSpec)

/-- ITS FALSE NEIGHBOUR: 'it returns false'. Refute it at one input. -/
def windMoreWrong : ChangeSpec := { name := "windMore", fn := fun _ => fun
  | [d1, d2, d3, d4, d5] => { results := [.lit (.bool false)], args := [d1, d2, d3, d4, d5] }
  | _ => none }
def WindMoreWrongFalsely : Prop := windMoreRow.holds Try.pinned (OpenSpec.ofChange windMoreWrong)

/-- 'foreshorelaw04.WindWider': WHATEVER THE INPUT: true; the input reads as it did. -/
def windWiderSpec : ChangeSpec := { name := "windWider", fn := fun _ => fun
  | [d1, d2, d3, d4] => { results := [.lit (.bool true)], args := [d1, d2, d3, d4] }
  | _ => none }
def windWiderRow : OpenClaim := { program := "ytkemmiljbaneoaa", sum := "3e7c492deb6b3226fb2a347113822a1db26a1adec0a3962a6e0aa37afdd3c66c", func := "foreshore/foreshorelaw04.WindWider", spec := "windWider", unfollowed := true, recurses := true, plainKeys := false, apart := false }
def WindWiderSaid : Prop := windWiderRow.holds Try.pinned (OpenSpec.ofChange windWiderSpec)

/-- ITS FALSE NEIGHBOUR: 'it returns false'. Refute it at one input. -/
def windWiderWrong : ChangeSpec := { name := "windWider", fn := fun _ => fun
  | [d1, d2, d3, d4] => { results := [.lit (.bool false)], args := [d1, d2, d3, d4] }
  | _ => none }
def WindWiderWrongFalsely : Prop := windWiderRow.holds Try.pinned (OpenSpec.ofChange windWiderWrong)

/-- 'foreshorelaw04.WindFirst': WHATEVER THE INPUT: true; the input reads as it did. -/
def windFirstSpec : ChangeSpec := { name := "windFirst", fn := fun _ => fun
  | [d] => { results := [.lit (.bool true)], args := [d] }
  | _ => none }
def windFirstRow : OpenClaim := { program := "ytkemmiljbaneoaa", sum := "3e7c492deb6b3226fb2a347113822a1db26a1adec0a3962a6e0aa37afdd3c66c", func := "foreshore/foreshorelaw04.WindFirst", spec := "windFirst", unfollowed := true, recurses := true, plainKeys := false, apart := false }
def WindFirstSaid : Prop := windFirstRow.holds Try.pinned (OpenSpec.ofChange windFirstSpec)

/-- ITS FALSE NEIGHBOUR: 'it returns false'. Refute it at one input. -/
def windFirstWrong : ChangeSpec := { name := "windFirst", fn := fun _ => fun
  | [d] => { results := [.lit (.bool false)], args := [d] }
  | _ => none }
def WindFirstWrongFalsely : Prop := windFirstRow.holds Try.pinned (OpenSpec.ofChange windFirstWrong)

/-- 'foreshorelaw04.WindNames': WHATEVER THE INPUT: true; the input reads as it did. -/
def windNamesSpec : ChangeSpec := { name := "windNames", fn := fun _ => fun
  | [] => { results := [.lit (.bool true)], args := [] }
  | _ => none }
def windNamesRow : OpenClaim := { program := "ytkemmiljbaneoaa", sum := "3e7c492deb6b3226fb2a347113822a1db26a1adec0a3962a6e0aa37afdd3c66c", func := "foreshore/foreshorelaw04.WindNames", spec := "windNames", unfollowed := true, recurses := true, plainKeys := false, apart := false }
def WindNamesSaid : Prop := windNamesRow.holds Try.pinned (OpenSpec.ofChange windNamesSpec)

/-- ITS FALSE NEIGHBOUR: 'it returns false'. Refute it at one input. -/
def windNamesWrong : ChangeSpec := { name := "windNames", fn := fun _ => fun
  | [] => { results := [.lit (.bool false)], args := [] }
  | _ => none }
def WindNamesWrongFalsely : Prop := windNamesRow.holds Try.pinned (OpenSpec.ofChange windNamesWrong)

/- THE SECOND FORM. 'bulk': how many values and letters a reading holds, each counted each time it is reached (what is shared counts as often as it is met; a slice's spare places count too). A statement '..UptoSaid' is the law's where the arguments, and the package variables that the reading takes, are together of bulk at most 1048576: NARROWER than '..Said'. Prove '..Said' where nothing that the law and all that it calls make is longer than what came in: it says more and counts as full. Else prove '..UptoSaid'. A law counts once. -/
mutual
def uptoBulk {H : Type} : DataW H → Nat
  | .lit (.string bytes) => bytes.length + 1
  | .lit _ => 1
  | .nil => 1
  | .ptr d => uptoBulk d + 1
  | .slice elems spare => uptoBulkAll elems + uptoBulkAll spare + 1
  | .agg parts => uptoBulkAll parts + 1
  | .iface _ d => uptoBulk d + 1
  | .map entries => uptoBulkEntries entries + 1
  | .held _ => 1
def uptoBulkAll {H : Type} : List (DataW H) → Nat
  | [] => 0
  | d :: r => uptoBulk d + uptoBulkAll r
def uptoBulkEntries {H : Type} : List (Lit × DataW H) → Nat
  | [] => 0
  | x :: r => uptoBulkEntry x + uptoBulkEntries r
def uptoBulkEntry {H : Type} : Lit × DataW H → Nat
  | (.string bytes, d) => bytes.length + uptoBulk d + 1
  | (_, d) => uptoBulk d + 1
 end
def uptoSmall : (H : Type) → List (DataW H) → Bool := fun _ ds => decide (uptoBulkAll ds ≤ 1048576)
def OpenSpec.upto (s : _root_.Go.ChangeSpec) : _root_.Go.OpenSpec := { _root_.Go.OpenSpec.ofChange s with cond := some uptoSmall }

/-- 'foreshorelaw04.WindHours', WHERE WHAT IT READS IS OF BULK AT MOST 1048576: true; the input reads as it did. -/
def windHoursUptoRow : OpenClaim := { program := "ytkemmiljbaneoaa", sum := "3e7c492deb6b3226fb2a347113822a1db26a1adec0a3962a6e0aa37afdd3c66c", func := "foreshore/foreshorelaw04.WindHours", spec := "windHours", unfollowed := true, recurses := true, plainKeys := false, apart := false, narrowed := true }
def WindHoursUptoSaid : Prop := windHoursUptoRow.holds Try.pinned (OpenSpec.upto windHoursSpec)

/-- 'foreshorelaw04.WindBreak', WHERE WHAT IT READS IS OF BULK AT MOST 1048576: true; the input reads as it did. -/
def windBreakUptoRow : OpenClaim := { program := "ytkemmiljbaneoaa", sum := "3e7c492deb6b3226fb2a347113822a1db26a1adec0a3962a6e0aa37afdd3c66c", func := "foreshore/foreshorelaw04.WindBreak", spec := "windBreak", unfollowed := true, recurses := true, plainKeys := false, apart := false, narrowed := true }
def WindBreakUptoSaid : Prop := windBreakUptoRow.holds Try.pinned (OpenSpec.upto windBreakSpec)

/-- 'foreshorelaw04.WindBack', WHERE WHAT IT READS IS OF BULK AT MOST 1048576: true; the input reads as it did. -/
def windBackUptoRow : OpenClaim := { program := "ytkemmiljbaneoaa", sum := "3e7c492deb6b3226fb2a347113822a1db26a1adec0a3962a6e0aa37afdd3c66c", func := "foreshore/foreshorelaw04.WindBack", spec := "windBack", unfollowed := true, recurses := true, plainKeys := false, apart := false, narrowed := true }
def WindBackUptoSaid : Prop := windBackUptoRow.holds Try.pinned (OpenSpec.upto windBackSpec)

/-- 'foreshorelaw04.WindMore', WHERE WHAT IT READS IS OF BULK AT MOST 1048576: true; the input reads as it did. -/
def windMoreUptoRow : OpenClaim := { program := "ytkemmiljbaneoaa", sum := "3e7c492deb6b3226fb2a347113822a1db26a1adec0a3962a6e0aa37afdd3c66c", func := "foreshore/foreshorelaw04.WindMore", spec := "windMore", unfollowed := true, recurses := true, plainKeys := false, apart := false, narrowed := true }
def WindMoreUptoSaid : Prop := windMoreUptoRow.holds Try.pinned (OpenSpec.upto windMoreSpec)

/-- 'foreshorelaw04.WindWider', WHERE WHAT IT READS IS OF BULK AT MOST 1048576: true; the input reads as it did. -/
def windWiderUptoRow : OpenClaim := { program := "ytkemmiljbaneoaa", sum := "3e7c492deb6b3226fb2a347113822a1db26a1adec0a3962a6e0aa37afdd3c66c", func := "foreshore/foreshorelaw04.WindWider", spec := "windWider", unfollowed := true, recurses := true, plainKeys := false, apart := false, narrowed := true }
def WindWiderUptoSaid : Prop := windWiderUptoRow.holds Try.pinned (OpenSpec.upto windWiderSpec)

/-- 'foreshorelaw04.WindFirst', WHERE WHAT IT READS IS OF BULK AT MOST 1048576: true; the input reads as it did. -/
def windFirstUptoRow : OpenClaim := { program := "ytkemmiljbaneoaa", sum := "3e7c492deb6b3226fb2a347113822a1db26a1adec0a3962a6e0aa37afdd3c66c", func := "foreshore/foreshorelaw04.WindFirst", spec := "windFirst", unfollowed := true, recurses := true, plainKeys := false, apart := false, narrowed := true }
def WindFirstUptoSaid : Prop := windFirstUptoRow.holds Try.pinned (OpenSpec.upto windFirstSpec)

/-- 'foreshorelaw04.WindNames', WHERE WHAT IT READS IS OF BULK AT MOST 1048576: true; the input reads as it did. -/
def windNamesUptoRow : OpenClaim := { program := "ytkemmiljbaneoaa", sum := "3e7c492deb6b3226fb2a347113822a1db26a1adec0a3962a6e0aa37afdd3c66c", func := "foreshore/foreshorelaw04.WindNames", spec := "windNames", unfollowed := true, recurses := true, plainKeys := false, apart := false, narrowed := true }
def WindNamesUptoSaid : Prop := windNamesUptoRow.holds Try.pinned (OpenSpec.upto windNamesSpec)

end Rows
end Go.Proofs.Ytkemmiljbaneoaa
