/-
  No cell of these rows narrows 'for every input' (looked for: loops, veiled, ifaces, maps, wideKeys, modest, calm, conditions, laid).
  DERIVED. THE GIVEN ROWS OF THIS SEAT. 16 by the template 'for every input the law returns true; each argument reads behind the call as it read before'; 0 by the template 'total and deterministic' (their statements: YtmnlpgjklibndaaGreatTotals.lean).
  GIVEN WITH THE SEED: the statements are not yours to turn. If you find one false, say at which input.
  Laid BY PROGRAM, IN A SANDBOX (cutbox-rows.mjs): the forced cells as the released guide's own fill.sh prints them over the translation 4ae2ced5001e18ef… (all of the seat's roots in one cut). By AI agents, Wed Nov 11 2026. No macro, syntax, notation, axiom, sorry.
-/
import Derived.Test.YtmnlpgjklibndaaGreatChecked
import GoSem.Claim
import GoSem.ClaimJoined
import GoSem.ClaimMapViews
import Derived.JoinedTies
import Derived.KernelRfl
namespace Go.Proofs.YtmnlpgjklibndaaGreat
/- THE CELL 'sum', in the pinned program and in every row, IS THE sha256 OF THE DUMP (.gsa) THAT YtmnlpgjklibndaaGreatProg.lean LOADS. Nothing in Lean hashes anything: it is a label: what it is worth is what the hold of that sum in a sandbox is worth. -/
noncomputable def Tryz.pinned : Pinned := { name := "ytmnlpgjklibndaagreat", sum := "4ae2ced5001e18ef12a2a4c92e3a46e175ace183440298a8cdf12aad1eab65f9", checked := Tryz.checked }
namespace Rows
def none {H : Type} : Left H := { results := [], args := [] }

/-- 'foreshorelaw09.SeasonJudges': WHATEVER THE INPUT: true; the input reads as it did. -/
def seasonJudgesSpec : ChangeSpec := { name := "seasonJudges", fn := fun _ => fun
  | [d] => { results := [.lit (.bool true)], args := [d] }
  | _ => none }
def seasonJudgesRow : OpenClaim := { program := "ytmnlpgjklibndaagreat", sum := "4ae2ced5001e18ef12a2a4c92e3a46e175ace183440298a8cdf12aad1eab65f9", func := "foreshore/foreshorelaw09.SeasonJudges", spec := "seasonJudges", unfollowed := true, recurses := true, plainKeys := false, apart := false }
def SeasonJudgesSaid : Prop := seasonJudgesRow.holds Tryz.pinned (OpenSpec.ofChange seasonJudgesSpec)

/-- ITS FALSE NEIGHBOUR: 'it returns false'. Refute it at one input. -/
def seasonJudgesWrong : ChangeSpec := { name := "seasonJudges", fn := fun _ => fun
  | [d] => { results := [.lit (.bool false)], args := [d] }
  | _ => none }
def SeasonJudgesWrongFalsely : Prop := seasonJudgesRow.holds Tryz.pinned (OpenSpec.ofChange seasonJudgesWrong)

/-- 'foreshorelaw09.SeasonDenies': WHATEVER THE INPUT: true; the input reads as it did. -/
def seasonDeniesSpec : ChangeSpec := { name := "seasonDenies", fn := fun _ => fun
  | [d1, d2, d3] => { results := [.lit (.bool true)], args := [d1, d2, d3] }
  | _ => none }
def seasonDeniesRow : OpenClaim := { program := "ytmnlpgjklibndaagreat", sum := "4ae2ced5001e18ef12a2a4c92e3a46e175ace183440298a8cdf12aad1eab65f9", func := "foreshore/foreshorelaw09.SeasonDenies", spec := "seasonDenies", unfollowed := true, recurses := true, plainKeys := false, apart := false }
def SeasonDeniesSaid : Prop := seasonDeniesRow.holds Tryz.pinned (OpenSpec.ofChange seasonDeniesSpec)

/-- ITS FALSE NEIGHBOUR: 'it returns false'. Refute it at one input. -/
def seasonDeniesWrong : ChangeSpec := { name := "seasonDenies", fn := fun _ => fun
  | [d1, d2, d3] => { results := [.lit (.bool false)], args := [d1, d2, d3] }
  | _ => none }
def SeasonDeniesWrongFalsely : Prop := seasonDeniesRow.holds Tryz.pinned (OpenSpec.ofChange seasonDeniesWrong)

/-- 'foreshorelaw09.SeasonDecides': WHATEVER THE INPUT: true; the input reads as it did. -/
def seasonDecidesSpec : ChangeSpec := { name := "seasonDecides", fn := fun _ => fun
  | [d1, d2] => { results := [.lit (.bool true)], args := [d1, d2] }
  | _ => none }
def seasonDecidesRow : OpenClaim := { program := "ytmnlpgjklibndaagreat", sum := "4ae2ced5001e18ef12a2a4c92e3a46e175ace183440298a8cdf12aad1eab65f9", func := "foreshore/foreshorelaw09.SeasonDecides", spec := "seasonDecides", unfollowed := true, recurses := true, plainKeys := false, apart := false }
def SeasonDecidesSaid : Prop := seasonDecidesRow.holds Tryz.pinned (OpenSpec.ofChange seasonDecidesSpec)

/-- ITS FALSE NEIGHBOUR: 'it returns false'. Refute it at one input. -/
def seasonDecidesWrong : ChangeSpec := { name := "seasonDecides", fn := fun _ => fun
  | [d1, d2] => { results := [.lit (.bool false)], args := [d1, d2] }
  | _ => none }
def SeasonDecidesWrongFalsely : Prop := seasonDecidesRow.holds Tryz.pinned (OpenSpec.ofChange seasonDecidesWrong)

/-- 'foreshorelaw09.SeasonLeaves': WHATEVER THE INPUT: true; the input reads as it did. -/
def seasonLeavesSpec : ChangeSpec := { name := "seasonLeaves", fn := fun _ => fun
  | [d] => { results := [.lit (.bool true)], args := [d] }
  | _ => none }
def seasonLeavesRow : OpenClaim := { program := "ytmnlpgjklibndaagreat", sum := "4ae2ced5001e18ef12a2a4c92e3a46e175ace183440298a8cdf12aad1eab65f9", func := "foreshore/foreshorelaw09.SeasonLeaves", spec := "seasonLeaves", unfollowed := true, recurses := true, plainKeys := false, apart := false }
def SeasonLeavesSaid : Prop := seasonLeavesRow.holds Tryz.pinned (OpenSpec.ofChange seasonLeavesSpec)

/-- ITS FALSE NEIGHBOUR: 'it returns false'. Refute it at one input. -/
def seasonLeavesWrong : ChangeSpec := { name := "seasonLeaves", fn := fun _ => fun
  | [d] => { results := [.lit (.bool false)], args := [d] }
  | _ => none }
def SeasonLeavesWrongFalsely : Prop := seasonLeavesRow.holds Tryz.pinned (OpenSpec.ofChange seasonLeavesWrong)

/-- 'foreshorelaw09.SeasonLiars': WHATEVER THE INPUT: true; the input reads as it did. -/
def seasonLiarsSpec : ChangeSpec := { name := "seasonLiars", fn := fun _ => fun
  | [d1, d2] => { results := [.lit (.bool true)], args := [d1, d2] }
  | _ => none }
def seasonLiarsRow : OpenClaim := { program := "ytmnlpgjklibndaagreat", sum := "4ae2ced5001e18ef12a2a4c92e3a46e175ace183440298a8cdf12aad1eab65f9", func := "foreshore/foreshorelaw09.SeasonLiars", spec := "seasonLiars", unfollowed := true, recurses := true, plainKeys := false, apart := false }
def SeasonLiarsSaid : Prop := seasonLiarsRow.holds Tryz.pinned (OpenSpec.ofChange seasonLiarsSpec)

/-- ITS FALSE NEIGHBOUR: 'it returns false'. Refute it at one input. -/
def seasonLiarsWrong : ChangeSpec := { name := "seasonLiars", fn := fun _ => fun
  | [d1, d2] => { results := [.lit (.bool false)], args := [d1, d2] }
  | _ => none }
def SeasonLiarsWrongFalsely : Prop := seasonLiarsRow.holds Tryz.pinned (OpenSpec.ofChange seasonLiarsWrong)

/-- 'foreshorelaw09.SeasonMore': WHATEVER THE INPUT: true; the input reads as it did. -/
def seasonMoreSpec : ChangeSpec := { name := "seasonMore", fn := fun _ => fun
  | [d1, d2] => { results := [.lit (.bool true)], args := [d1, d2] }
  | _ => none }
def seasonMoreRow : OpenClaim := { program := "ytmnlpgjklibndaagreat", sum := "4ae2ced5001e18ef12a2a4c92e3a46e175ace183440298a8cdf12aad1eab65f9", func := "foreshore/foreshorelaw09.SeasonMore", spec := "seasonMore", unfollowed := true, recurses := true, plainKeys := false, apart := false }
def SeasonMoreSaid : Prop := seasonMoreRow.holds Tryz.pinned (OpenSpec.ofChange seasonMoreSpec)

/-- ITS FALSE NEIGHBOUR: 'it returns false'. Refute it at one input. -/
def seasonMoreWrong : ChangeSpec := { name := "seasonMore", fn := fun _ => fun
  | [d1, d2] => { results := [.lit (.bool false)], args := [d1, d2] }
  | _ => none }
def SeasonMoreWrongFalsely : Prop := seasonMoreRow.holds Tryz.pinned (OpenSpec.ofChange seasonMoreWrong)

/-- 'foreshorelaw09.SeasonWord': WHATEVER THE INPUT: true; the input reads as it did. -/
def seasonWordSpec : ChangeSpec := { name := "seasonWord", fn := fun _ => fun
  | [d1, d2, d3] => { results := [.lit (.bool true)], args := [d1, d2, d3] }
  | _ => none }
def seasonWordRow : OpenClaim := { program := "ytmnlpgjklibndaagreat", sum := "4ae2ced5001e18ef12a2a4c92e3a46e175ace183440298a8cdf12aad1eab65f9", func := "foreshore/foreshorelaw09.SeasonWord", spec := "seasonWord", unfollowed := true, recurses := true, plainKeys := false, apart := false }
def SeasonWordSaid : Prop := seasonWordRow.holds Tryz.pinned (OpenSpec.ofChange seasonWordSpec)

/-- ITS FALSE NEIGHBOUR: 'it returns false'. Refute it at one input. -/
def seasonWordWrong : ChangeSpec := { name := "seasonWord", fn := fun _ => fun
  | [d1, d2, d3] => { results := [.lit (.bool false)], args := [d1, d2, d3] }
  | _ => none }
def SeasonWordWrongFalsely : Prop := seasonWordRow.holds Tryz.pinned (OpenSpec.ofChange seasonWordWrong)

/-- 'foreshorelaw09.SeasonHonest': WHATEVER THE INPUT: true; the input reads as it did. -/
def seasonHonestSpec : ChangeSpec := { name := "seasonHonest", fn := fun _ => fun
  | [d1, d2, d3] => { results := [.lit (.bool true)], args := [d1, d2, d3] }
  | _ => none }
def seasonHonestRow : OpenClaim := { program := "ytmnlpgjklibndaagreat", sum := "4ae2ced5001e18ef12a2a4c92e3a46e175ace183440298a8cdf12aad1eab65f9", func := "foreshore/foreshorelaw09.SeasonHonest", spec := "seasonHonest", unfollowed := true, recurses := true, plainKeys := false, apart := false }
def SeasonHonestSaid : Prop := seasonHonestRow.holds Tryz.pinned (OpenSpec.ofChange seasonHonestSpec)

/-- ITS FALSE NEIGHBOUR: 'it returns false'. Refute it at one input. -/
def seasonHonestWrong : ChangeSpec := { name := "seasonHonest", fn := fun _ => fun
  | [d1, d2, d3] => { results := [.lit (.bool false)], args := [d1, d2, d3] }
  | _ => none }
def SeasonHonestWrongFalsely : Prop := seasonHonestRow.holds Tryz.pinned (OpenSpec.ofChange seasonHonestWrong)

/-- 'foreshorelaw09.SeasonDecided': WHATEVER THE INPUT: true; the input reads as it did. -/
def seasonDecidedSpec : ChangeSpec := { name := "seasonDecided", fn := fun _ => fun
  | [d1, d2, d3, d4] => { results := [.lit (.bool true)], args := [d1, d2, d3, d4] }
  | _ => none }
def seasonDecidedRow : OpenClaim := { program := "ytmnlpgjklibndaagreat", sum := "4ae2ced5001e18ef12a2a4c92e3a46e175ace183440298a8cdf12aad1eab65f9", func := "foreshore/foreshorelaw09.SeasonDecided", spec := "seasonDecided", unfollowed := true, recurses := true, plainKeys := false, apart := false }
def SeasonDecidedSaid : Prop := seasonDecidedRow.holds Tryz.pinned (OpenSpec.ofChange seasonDecidedSpec)

/-- ITS FALSE NEIGHBOUR: 'it returns false'. Refute it at one input. -/
def seasonDecidedWrong : ChangeSpec := { name := "seasonDecided", fn := fun _ => fun
  | [d1, d2, d3, d4] => { results := [.lit (.bool false)], args := [d1, d2, d3, d4] }
  | _ => none }
def SeasonDecidedWrongFalsely : Prop := seasonDecidedRow.holds Tryz.pinned (OpenSpec.ofChange seasonDecidedWrong)

/-- 'foreshorelaw09.SeasonTogether': WHATEVER THE INPUT: true; the input reads as it did. -/
def seasonTogetherSpec : ChangeSpec := { name := "seasonTogether", fn := fun _ => fun
  | [d1, d2] => { results := [.lit (.bool true)], args := [d1, d2] }
  | _ => none }
def seasonTogetherRow : OpenClaim := { program := "ytmnlpgjklibndaagreat", sum := "4ae2ced5001e18ef12a2a4c92e3a46e175ace183440298a8cdf12aad1eab65f9", func := "foreshore/foreshorelaw09.SeasonTogether", spec := "seasonTogether", unfollowed := true, recurses := true, plainKeys := false, apart := false }
def SeasonTogetherSaid : Prop := seasonTogetherRow.holds Tryz.pinned (OpenSpec.ofChange seasonTogetherSpec)

/-- ITS FALSE NEIGHBOUR: 'it returns false'. Refute it at one input. -/
def seasonTogetherWrong : ChangeSpec := { name := "seasonTogether", fn := fun _ => fun
  | [d1, d2] => { results := [.lit (.bool false)], args := [d1, d2] }
  | _ => none }
def SeasonTogetherWrongFalsely : Prop := seasonTogetherRow.holds Tryz.pinned (OpenSpec.ofChange seasonTogetherWrong)

/-- 'foreshorelaw09.SeasonLeft': WHATEVER THE INPUT: true; the input reads as it did. -/
def seasonLeftSpec : ChangeSpec := { name := "seasonLeft", fn := fun _ => fun
  | [d1, d2] => { results := [.lit (.bool true)], args := [d1, d2] }
  | _ => none }
def seasonLeftRow : OpenClaim := { program := "ytmnlpgjklibndaagreat", sum := "4ae2ced5001e18ef12a2a4c92e3a46e175ace183440298a8cdf12aad1eab65f9", func := "foreshore/foreshorelaw09.SeasonLeft", spec := "seasonLeft", unfollowed := true, recurses := true, plainKeys := false, apart := false }
def SeasonLeftSaid : Prop := seasonLeftRow.holds Tryz.pinned (OpenSpec.ofChange seasonLeftSpec)

/-- ITS FALSE NEIGHBOUR: 'it returns false'. Refute it at one input. -/
def seasonLeftWrong : ChangeSpec := { name := "seasonLeft", fn := fun _ => fun
  | [d1, d2] => { results := [.lit (.bool false)], args := [d1, d2] }
  | _ => none }
def SeasonLeftWrongFalsely : Prop := seasonLeftRow.holds Tryz.pinned (OpenSpec.ofChange seasonLeftWrong)

/-- 'foreshorelaw09.SeasonOpposite': WHATEVER THE INPUT: true; the input reads as it did. -/
def seasonOppositeSpec : ChangeSpec := { name := "seasonOpposite", fn := fun _ => fun
  | [d1, d2] => { results := [.lit (.bool true)], args := [d1, d2] }
  | _ => none }
def seasonOppositeRow : OpenClaim := { program := "ytmnlpgjklibndaagreat", sum := "4ae2ced5001e18ef12a2a4c92e3a46e175ace183440298a8cdf12aad1eab65f9", func := "foreshore/foreshorelaw09.SeasonOpposite", spec := "seasonOpposite", unfollowed := true, recurses := true, plainKeys := false, apart := false }
def SeasonOppositeSaid : Prop := seasonOppositeRow.holds Tryz.pinned (OpenSpec.ofChange seasonOppositeSpec)

/-- ITS FALSE NEIGHBOUR: 'it returns false'. Refute it at one input. -/
def seasonOppositeWrong : ChangeSpec := { name := "seasonOpposite", fn := fun _ => fun
  | [d1, d2] => { results := [.lit (.bool false)], args := [d1, d2] }
  | _ => none }
def SeasonOppositeWrongFalsely : Prop := seasonOppositeRow.holds Tryz.pinned (OpenSpec.ofChange seasonOppositeWrong)

/-- 'foreshorelaw09.SeasonPlays': WHATEVER THE INPUT: true; the input reads as it did. -/
def seasonPlaysSpec : ChangeSpec := { name := "seasonPlays", fn := fun _ => fun
  | [d1, d2] => { results := [.lit (.bool true)], args := [d1, d2] }
  | _ => none }
def seasonPlaysRow : OpenClaim := { program := "ytmnlpgjklibndaagreat", sum := "4ae2ced5001e18ef12a2a4c92e3a46e175ace183440298a8cdf12aad1eab65f9", func := "foreshore/foreshorelaw09.SeasonPlays", spec := "seasonPlays", unfollowed := true, recurses := true, plainKeys := false, apart := false }
def SeasonPlaysSaid : Prop := seasonPlaysRow.holds Tryz.pinned (OpenSpec.ofChange seasonPlaysSpec)

/-- ITS FALSE NEIGHBOUR: 'it returns false'. Refute it at one input. -/
def seasonPlaysWrong : ChangeSpec := { name := "seasonPlays", fn := fun _ => fun
  | [d1, d2] => { results := [.lit (.bool false)], args := [d1, d2] }
  | _ => none }
def SeasonPlaysWrongFalsely : Prop := seasonPlaysRow.holds Tryz.pinned (OpenSpec.ofChange seasonPlaysWrong)

/-- 'foreshorelaw09.SeasonNames': WHATEVER THE INPUT: true; the input reads as it did. -/
def seasonNamesSpec : ChangeSpec := { name := "seasonNames", fn := fun _ => fun
  | [] => { results := [.lit (.bool true)], args := [] }
  | _ => none }
def seasonNamesRow : OpenClaim := { program := "ytmnlpgjklibndaagreat", sum := "4ae2ced5001e18ef12a2a4c92e3a46e175ace183440298a8cdf12aad1eab65f9", func := "foreshore/foreshorelaw09.SeasonNames", spec := "seasonNames", unfollowed := true, recurses := true, plainKeys := false, apart := false }
def SeasonNamesSaid : Prop := seasonNamesRow.holds Tryz.pinned (OpenSpec.ofChange seasonNamesSpec)

/-- ITS FALSE NEIGHBOUR: 'it returns false'. Refute it at one input. -/
def seasonNamesWrong : ChangeSpec := { name := "seasonNames", fn := fun _ => fun
  | [] => { results := [.lit (.bool false)], args := [] }
  | _ => none }
def SeasonNamesWrongFalsely : Prop := seasonNamesRow.holds Tryz.pinned (OpenSpec.ofChange seasonNamesWrong)

/-- 'foreshorelaw09.SeasonJust': WHATEVER THE INPUT: true; the input reads as it did. -/
def seasonJustSpec : ChangeSpec := { name := "seasonJust", fn := fun _ => fun
  | [d1, d2] => { results := [.lit (.bool true)], args := [d1, d2] }
  | _ => none }
def seasonJustRow : OpenClaim := { program := "ytmnlpgjklibndaagreat", sum := "4ae2ced5001e18ef12a2a4c92e3a46e175ace183440298a8cdf12aad1eab65f9", func := "foreshore/foreshorelaw09.SeasonJust", spec := "seasonJust", unfollowed := true, recurses := true, plainKeys := false, apart := false }
def SeasonJustSaid : Prop := seasonJustRow.holds Tryz.pinned (OpenSpec.ofChange seasonJustSpec)

/-- ITS FALSE NEIGHBOUR: 'it returns false'. Refute it at one input. -/
def seasonJustWrong : ChangeSpec := { name := "seasonJust", fn := fun _ => fun
  | [d1, d2] => { results := [.lit (.bool false)], args := [d1, d2] }
  | _ => none }
def SeasonJustWrongFalsely : Prop := seasonJustRow.holds Tryz.pinned (OpenSpec.ofChange seasonJustWrong)

/-- 'foreshorelaw09.SeasonBook': WHATEVER THE INPUT: true; the input reads as it did. -/
def seasonBookSpec : ChangeSpec := { name := "seasonBook", fn := fun _ => fun
  | [d1, d2] => { results := [.lit (.bool true)], args := [d1, d2] }
  | _ => none }
def seasonBookRow : OpenClaim := { program := "ytmnlpgjklibndaagreat", sum := "4ae2ced5001e18ef12a2a4c92e3a46e175ace183440298a8cdf12aad1eab65f9", func := "foreshore/foreshorelaw09.SeasonBook", spec := "seasonBook", unfollowed := true, recurses := true, plainKeys := false, apart := false }
def SeasonBookSaid : Prop := seasonBookRow.holds Tryz.pinned (OpenSpec.ofChange seasonBookSpec)

/-- ITS FALSE NEIGHBOUR: 'it returns false'. Refute it at one input. -/
def seasonBookWrong : ChangeSpec := { name := "seasonBook", fn := fun _ => fun
  | [d1, d2] => { results := [.lit (.bool false)], args := [d1, d2] }
  | _ => none }
def SeasonBookWrongFalsely : Prop := seasonBookRow.holds Tryz.pinned (OpenSpec.ofChange seasonBookWrong)

/- THE SECOND FORM. 'bulk': how many values and letters a reading holds, each counted each time it is reached (what is shared counts as often as it is met; a slice's spare places count too). A statement '..UptoSaid' is the law's where the arguments, and the package variables that the reading takes, are together of bulk at most 1048576: NARROWER than '..Said'. Prove '..Said' where nothing that the law and all that it calls make is longer than what came in: it says more and counts as full. Else prove '..UptoSaid'. A law counts once. -/
mutual
def uptoBulk {H : Type} : DataW H → Nat
  | .lit (.string bytes) => bytes.length + 1
  | .lit _ => 1
  | .nil => 1
  | .ptr d => uptoBulk d + 1
  | .slice elems spare => uptoBulkAll elems + uptoBulkAll spare + 1
  | .agg parts => uptoBulkAll parts + 1
  | .iface _ d => uptoBulk d + 1
  | .map entries => uptoBulkEntries entries + 1
  | .held _ => 1
def uptoBulkAll {H : Type} : List (DataW H) → Nat
  | [] => 0
  | d :: r => uptoBulk d + uptoBulkAll r
def uptoBulkEntries {H : Type} : List (Lit × DataW H) → Nat
  | [] => 0
  | x :: r => uptoBulkEntry x + uptoBulkEntries r
def uptoBulkEntry {H : Type} : Lit × DataW H → Nat
  | (.string bytes, d) => bytes.length + uptoBulk d + 1
  | (_, d) => uptoBulk d + 1
 end
def uptoSmall : (H : Type) → List (DataW H) → Bool := fun _ ds => decide (uptoBulkAll ds ≤ 1048576)
def OpenSpec.upto (s : _root_.Go.ChangeSpec) : _root_.Go.OpenSpec := { _root_.Go.OpenSpec.ofChange s with cond := some uptoSmall }

/-- 'foreshorelaw09.SeasonJudges', WHERE WHAT IT READS IS OF BULK AT MOST 1048576: true; the input reads as it did. -/
def seasonJudgesUptoRow : OpenClaim := { program := "ytmnlpgjklibndaagreat", sum := "4ae2ced5001e18ef12a2a4c92e3a46e175ace183440298a8cdf12aad1eab65f9", func := "foreshore/foreshorelaw09.SeasonJudges", spec := "seasonJudges", unfollowed := true, recurses := true, plainKeys := false, apart := false, narrowed := true }
def SeasonJudgesUptoSaid : Prop := seasonJudgesUptoRow.holds Tryz.pinned (OpenSpec.upto seasonJudgesSpec)

/-- 'foreshorelaw09.SeasonDenies', WHERE WHAT IT READS IS OF BULK AT MOST 1048576: true; the input reads as it did. -/
def seasonDeniesUptoRow : OpenClaim := { program := "ytmnlpgjklibndaagreat", sum := "4ae2ced5001e18ef12a2a4c92e3a46e175ace183440298a8cdf12aad1eab65f9", func := "foreshore/foreshorelaw09.SeasonDenies", spec := "seasonDenies", unfollowed := true, recurses := true, plainKeys := false, apart := false, narrowed := true }
def SeasonDeniesUptoSaid : Prop := seasonDeniesUptoRow.holds Tryz.pinned (OpenSpec.upto seasonDeniesSpec)

/-- 'foreshorelaw09.SeasonDecides', WHERE WHAT IT READS IS OF BULK AT MOST 1048576: true; the input reads as it did. -/
def seasonDecidesUptoRow : OpenClaim := { program := "ytmnlpgjklibndaagreat", sum := "4ae2ced5001e18ef12a2a4c92e3a46e175ace183440298a8cdf12aad1eab65f9", func := "foreshore/foreshorelaw09.SeasonDecides", spec := "seasonDecides", unfollowed := true, recurses := true, plainKeys := false, apart := false, narrowed := true }
def SeasonDecidesUptoSaid : Prop := seasonDecidesUptoRow.holds Tryz.pinned (OpenSpec.upto seasonDecidesSpec)

/-- 'foreshorelaw09.SeasonLeaves', WHERE WHAT IT READS IS OF BULK AT MOST 1048576: true; the input reads as it did. -/
def seasonLeavesUptoRow : OpenClaim := { program := "ytmnlpgjklibndaagreat", sum := "4ae2ced5001e18ef12a2a4c92e3a46e175ace183440298a8cdf12aad1eab65f9", func := "foreshore/foreshorelaw09.SeasonLeaves", spec := "seasonLeaves", unfollowed := true, recurses := true, plainKeys := false, apart := false, narrowed := true }
def SeasonLeavesUptoSaid : Prop := seasonLeavesUptoRow.holds Tryz.pinned (OpenSpec.upto seasonLeavesSpec)

/-- 'foreshorelaw09.SeasonLiars', WHERE WHAT IT READS IS OF BULK AT MOST 1048576: true; the input reads as it did. -/
def seasonLiarsUptoRow : OpenClaim := { program := "ytmnlpgjklibndaagreat", sum := "4ae2ced5001e18ef12a2a4c92e3a46e175ace183440298a8cdf12aad1eab65f9", func := "foreshore/foreshorelaw09.SeasonLiars", spec := "seasonLiars", unfollowed := true, recurses := true, plainKeys := false, apart := false, narrowed := true }
def SeasonLiarsUptoSaid : Prop := seasonLiarsUptoRow.holds Tryz.pinned (OpenSpec.upto seasonLiarsSpec)

/-- 'foreshorelaw09.SeasonMore', WHERE WHAT IT READS IS OF BULK AT MOST 1048576: true; the input reads as it did. -/
def seasonMoreUptoRow : OpenClaim := { program := "ytmnlpgjklibndaagreat", sum := "4ae2ced5001e18ef12a2a4c92e3a46e175ace183440298a8cdf12aad1eab65f9", func := "foreshore/foreshorelaw09.SeasonMore", spec := "seasonMore", unfollowed := true, recurses := true, plainKeys := false, apart := false, narrowed := true }
def SeasonMoreUptoSaid : Prop := seasonMoreUptoRow.holds Tryz.pinned (OpenSpec.upto seasonMoreSpec)

/-- 'foreshorelaw09.SeasonWord', WHERE WHAT IT READS IS OF BULK AT MOST 1048576: true; the input reads as it did. -/
def seasonWordUptoRow : OpenClaim := { program := "ytmnlpgjklibndaagreat", sum := "4ae2ced5001e18ef12a2a4c92e3a46e175ace183440298a8cdf12aad1eab65f9", func := "foreshore/foreshorelaw09.SeasonWord", spec := "seasonWord", unfollowed := true, recurses := true, plainKeys := false, apart := false, narrowed := true }
def SeasonWordUptoSaid : Prop := seasonWordUptoRow.holds Tryz.pinned (OpenSpec.upto seasonWordSpec)

/-- 'foreshorelaw09.SeasonHonest', WHERE WHAT IT READS IS OF BULK AT MOST 1048576: true; the input reads as it did. -/
def seasonHonestUptoRow : OpenClaim := { program := "ytmnlpgjklibndaagreat", sum := "4ae2ced5001e18ef12a2a4c92e3a46e175ace183440298a8cdf12aad1eab65f9", func := "foreshore/foreshorelaw09.SeasonHonest", spec := "seasonHonest", unfollowed := true, recurses := true, plainKeys := false, apart := false, narrowed := true }
def SeasonHonestUptoSaid : Prop := seasonHonestUptoRow.holds Tryz.pinned (OpenSpec.upto seasonHonestSpec)

/-- 'foreshorelaw09.SeasonDecided', WHERE WHAT IT READS IS OF BULK AT MOST 1048576: true; the input reads as it did. -/
def seasonDecidedUptoRow : OpenClaim := { program := "ytmnlpgjklibndaagreat", sum := "4ae2ced5001e18ef12a2a4c92e3a46e175ace183440298a8cdf12aad1eab65f9", func := "foreshore/foreshorelaw09.SeasonDecided", spec := "seasonDecided", unfollowed := true, recurses := true, plainKeys := false, apart := false, narrowed := true }
def SeasonDecidedUptoSaid : Prop := seasonDecidedUptoRow.holds Tryz.pinned (OpenSpec.upto seasonDecidedSpec)

/-- 'foreshorelaw09.SeasonTogether', WHERE WHAT IT READS IS OF BULK AT MOST 1048576: true; the input reads as it did. -/
def seasonTogetherUptoRow : OpenClaim := { program := "ytmnlpgjklibndaagreat", sum := "4ae2ced5001e18ef12a2a4c92e3a46e175ace183440298a8cdf12aad1eab65f9", func := "foreshore/foreshorelaw09.SeasonTogether", spec := "seasonTogether", unfollowed := true, recurses := true, plainKeys := false, apart := false, narrowed := true }
def SeasonTogetherUptoSaid : Prop := seasonTogetherUptoRow.holds Tryz.pinned (OpenSpec.upto seasonTogetherSpec)

/-- 'foreshorelaw09.SeasonLeft', WHERE WHAT IT READS IS OF BULK AT MOST 1048576: true; the input reads as it did. -/
def seasonLeftUptoRow : OpenClaim := { program := "ytmnlpgjklibndaagreat", sum := "4ae2ced5001e18ef12a2a4c92e3a46e175ace183440298a8cdf12aad1eab65f9", func := "foreshore/foreshorelaw09.SeasonLeft", spec := "seasonLeft", unfollowed := true, recurses := true, plainKeys := false, apart := false, narrowed := true }
def SeasonLeftUptoSaid : Prop := seasonLeftUptoRow.holds Tryz.pinned (OpenSpec.upto seasonLeftSpec)

/-- 'foreshorelaw09.SeasonOpposite', WHERE WHAT IT READS IS OF BULK AT MOST 1048576: true; the input reads as it did. -/
def seasonOppositeUptoRow : OpenClaim := { program := "ytmnlpgjklibndaagreat", sum := "4ae2ced5001e18ef12a2a4c92e3a46e175ace183440298a8cdf12aad1eab65f9", func := "foreshore/foreshorelaw09.SeasonOpposite", spec := "seasonOpposite", unfollowed := true, recurses := true, plainKeys := false, apart := false, narrowed := true }
def SeasonOppositeUptoSaid : Prop := seasonOppositeUptoRow.holds Tryz.pinned (OpenSpec.upto seasonOppositeSpec)

/-- 'foreshorelaw09.SeasonPlays', WHERE WHAT IT READS IS OF BULK AT MOST 1048576: true; the input reads as it did. -/
def seasonPlaysUptoRow : OpenClaim := { program := "ytmnlpgjklibndaagreat", sum := "4ae2ced5001e18ef12a2a4c92e3a46e175ace183440298a8cdf12aad1eab65f9", func := "foreshore/foreshorelaw09.SeasonPlays", spec := "seasonPlays", unfollowed := true, recurses := true, plainKeys := false, apart := false, narrowed := true }
def SeasonPlaysUptoSaid : Prop := seasonPlaysUptoRow.holds Tryz.pinned (OpenSpec.upto seasonPlaysSpec)

/-- 'foreshorelaw09.SeasonNames', WHERE WHAT IT READS IS OF BULK AT MOST 1048576: true; the input reads as it did. -/
def seasonNamesUptoRow : OpenClaim := { program := "ytmnlpgjklibndaagreat", sum := "4ae2ced5001e18ef12a2a4c92e3a46e175ace183440298a8cdf12aad1eab65f9", func := "foreshore/foreshorelaw09.SeasonNames", spec := "seasonNames", unfollowed := true, recurses := true, plainKeys := false, apart := false, narrowed := true }
def SeasonNamesUptoSaid : Prop := seasonNamesUptoRow.holds Tryz.pinned (OpenSpec.upto seasonNamesSpec)

/-- 'foreshorelaw09.SeasonJust', WHERE WHAT IT READS IS OF BULK AT MOST 1048576: true; the input reads as it did. -/
def seasonJustUptoRow : OpenClaim := { program := "ytmnlpgjklibndaagreat", sum := "4ae2ced5001e18ef12a2a4c92e3a46e175ace183440298a8cdf12aad1eab65f9", func := "foreshore/foreshorelaw09.SeasonJust", spec := "seasonJust", unfollowed := true, recurses := true, plainKeys := false, apart := false, narrowed := true }
def SeasonJustUptoSaid : Prop := seasonJustUptoRow.holds Tryz.pinned (OpenSpec.upto seasonJustSpec)

/-- 'foreshorelaw09.SeasonBook', WHERE WHAT IT READS IS OF BULK AT MOST 1048576: true; the input reads as it did. -/
def seasonBookUptoRow : OpenClaim := { program := "ytmnlpgjklibndaagreat", sum := "4ae2ced5001e18ef12a2a4c92e3a46e175ace183440298a8cdf12aad1eab65f9", func := "foreshore/foreshorelaw09.SeasonBook", spec := "seasonBook", unfollowed := true, recurses := true, plainKeys := false, apart := false, narrowed := true }
def SeasonBookUptoSaid : Prop := seasonBookUptoRow.holds Tryz.pinned (OpenSpec.upto seasonBookSpec)

end Rows
end Go.Proofs.YtmnlpgjklibndaaGreat
