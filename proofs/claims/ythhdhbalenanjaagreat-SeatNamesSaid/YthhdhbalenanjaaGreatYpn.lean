/- 'SeatNames': the closed statement returns true, and nothing that was there is changed. No condition. -/
import Derived.Test.YthhdhbalenanjaaGreatRows
import Derived.Test.YthhdhbalenanjaaGreatK4
import Derived.WalkKit
import Derived.ProofKit
import Derived.OpenShut
import Derived.JoinedOf
import Derived.JoinedAt
namespace Go.Proofs.Tryz.Kn
open Go Go.Pg Go.ChangeShapes Go.WideShapes Go.ChangeAt Go.RowKit
open Go.Proofs.YthhdhbalenanjaaGreat

theorem mayE : Tryz.prog.mayEnter = true := by kernel_rfl
theorem mapE : mapsRowed Tryz.prog = true := by kernel_rfl
theorem heaE : Tryz.prog.stopsHeard = true := by kernel_rfl
theorem lifE : Tryz.prog.liftsFinal = false := by kernel_rfl
theorem laidOut : laidOutB Tryz.prog = true := by kernel_rfl
theorem ownW : ownKnob Tryz.prog.godebug = none := by kernel_rfl

theorem walk (W : World) : Calls Tryz.prog 8 #[] W fun e w' => e = .returned (.bool true) ∧ Grown W w' := by
  have h := (call0_ok hP (exN_ok 300) _ _ _ runN).1 ⟨[], []⟩
  refine (calls_of_acall (vals := #[]) (W := W) h fun G => ⟨rfl, fun i h1 _ => absurd h1 (by simp)⟩).mono fun e w' ⟨r, v, G, s', he, hr, hk, hg⟩ => ⟨?_, hg⟩
  obtain ⟨rfl, _⟩ := hk
  cases hr
  exact he

set_option maxRecDepth 100000 in
theorem lifted (os : Os) (started : os.Started) (H : Type) (enc : TypeId × Value → H) :
    ReturnsInHanded {} Tryz.checked os 8 .any (Rows.seatNamesSpec.pre6 enc Tryz.prog Tryz.f8 Rows.seatNamesRow.domain false) (Rows.seatNamesSpec.post enc Tryz.prog Tryz.f8 false true false false) := by
  refine returnsInHanded_of_change (C := Tryz.checked) ownW started (by kernel_rfl) Tryz.func8
    (ChangeSpec.witness6 (enc := enc) (C := Tryz.checked) false ⟨#[], #[], []⟩ 8 (by kernel_rfl) (by kernel_rfl) (by kernel_rfl) (by kernel_rfl)) ?_
  intro W base args ds gs before hval hW _ _
  have hW' := hW
  obtain ⟨p, q, hA0, hV, rfl, hfz, hnd⟩ := hW
  have hA : DataW.TrodAll enc Tryz.prog W 0 (fun _ => true) true Tryz.f8.params.toList args.toList ds p := hA0
  rw [Tryz.params8] at hA
  obtain ⟨hargs, rfl, rfl⟩ := trodAll_nil hA
  obtain rfl : args = #[] := by cases args; simp_all
  obtain ⟨rfl, rfl⟩ := trodVars_none hV
  clear hA0
  simp only [List.append_nil] at hW'
  refine (walk W).mono fun e W' ⟨he, hg⟩ => ?_
  subst he
  exact ⟨_, rfl, post_of_same (pa := []) (pv := []) hW' (fun _ _ _ => (trodAll_cons_mk (shut_bool Tryz.underlying4 _) trodAll_mk0)) (fun sp _ => trodAll_mk0) (fun _ _ => rfl) rfl
    (hg.frame _) hg.2.1 (ok_one (by kernel_rfl) rfl (okWide_bool_mk Tryz.underlying4 _))⟩

theorem faSeatNames : (Rows.seatNamesRow.inPlace == Tryz.prog.inPlace 8) = true := by kernel_rfl
theorem fbSeatNames : (Rows.seatNamesRow.unfollowed == Tryz.prog.unfollowed 8) = true := by kernel_rfl
theorem fcSeatNames : (Rows.seatNamesRow.recurses == Tryz.prog.recurses 8) = true := by kernel_rfl
theorem fdSeatNames : (Rows.seatNamesRow.named == Tryz.prog.varsNamed 8) = true := by kernel_rfl
theorem overSeatNames : Rows.SeatNamesSaid :=
  OpenClaim.holds_of_wide 8 Tryz.f8 rfl rfl rfl rfl rfl rfl rfl ⟨rfl, rfl, rfl, rfl, rfl⟩ rfl rfl rfl rfl rfl (by kernel_rfl) Tryz.func8 (by show joinedFacts Tryz.prog 8 Tryz.f8 Rows.seatNamesSpec Rows.seatNamesRow = true; unfold joinedFacts; rw [lifE, mayE, laidOut, mapE, heaE, faSeatNames, fbSeatNames, fcSeatNames, fdSeatNames]; kernel_rfl)
    (of_decide_eq_true (by kernel_rfl)) (by unfold Func.isWrapper; first | (rw [if_pos (by decide +kernel)]; kernel_rfl) | (rw [if_neg (by decide +kernel)]; exact ⟨rfl, rfl⟩))
    (fun os started H enc _ => lifted os started H enc)
end Go.Proofs.Tryz.Kn
namespace Go.Proofs.YthhdhbalenanjaaGreat
theorem seatNames_holds : Rows.SeatNamesSaid := Go.Proofs.Tryz.Kn.overSeatNames
end Go.Proofs.YthhdhbalenanjaaGreat
