/- 'TokenNames': whatever the input, the closed statement returns true, and nothing that was there is changed. No condition. -/
import Derived.Test.YtfbbnkaahnpicaaRows
import Derived.Test.YtfbbnkaahnpicaaRa
import Derived.Test.YtfbbnkaahnpicaaRr
import Derived.WalkKit
import Derived.ProofKit
import Derived.OpenShut
import Derived.JoinedOf
import Derived.JoinedAt
namespace Go.Proofs.Try.Kn
open Go Go.Pg Go.ChangeShapes Go.WideShapes Go.ChangeAt Go.RowKit
open Go.Proofs.Ytfbbnkaahnpicaa

theorem own : ownKnob Try.prog.godebug = none := by kernel_rfl

theorem walk (W : World) : Calls Try.prog 17 #[] W fun e w' => e = .returned (.bool true) ∧ Grown W w' := by
  have h := call_ok (lit := litN) (n := 300) hP tabOK ownOK run17 ⟨[], []⟩
  refine (calls_of_acall (vals := #[]) (W := W) h fun G => ⟨rfl, fun i h1 _ => absurd h1 (by simp)⟩).mono fun e w' ⟨r, v, G, s', he, hr, hk, hg⟩ => ⟨?_, hg⟩
  obtain ⟨rfl, _⟩ := hk
  cases hr
  exact he

set_option maxRecDepth 100000 in
theorem lifted (os : Os) (started : os.Started) (H : Type) (enc : TypeId × Value → H) :
    ReturnsInHanded {} Try.checked os 17 .any (Rows.tokenNamesSpec.pre6 enc Try.prog Try.f17 Rows.tokenNamesRow.domain false) (Rows.tokenNamesSpec.post enc Try.prog Try.f17 false true false false) := by
  refine returnsInHanded_of_change (C := Try.checked) own started (by kernel_rfl) Try.func17
    (ChangeSpec.witness6 (enc := enc) (C := Try.checked) false ⟨#[], #[], []⟩ 8 (by kernel_rfl) (by kernel_rfl) (by kernel_rfl) (by kernel_rfl)) ?_
  intro W base args ds gs before hval hW _ _
  have hW' := hW
  obtain ⟨p, q, hA0, hV, rfl, hfz, hnd⟩ := hW
  have hA : DataW.TrodAll enc Try.prog W 0 (fun _ => true) true Try.f17.params.toList args.toList ds p := hA0
  rw [Try.params17] at hA
  obtain ⟨hargs, rfl, rfl⟩ := trodAll_nil hA
  obtain rfl : args = #[] := by cases args; simp_all
  obtain ⟨rfl, rfl⟩ := trodVars_none hV
  clear hA0
  simp only [List.append_nil] at hW'
  refine (walk W).mono fun e W' ⟨he, hg⟩ => ?_
  subst he
  exact ⟨_, rfl, post_of_same (pa := []) (pv := []) hW' (fun _ _ _ => (trodAll_cons_mk (shut_bool Try.underlying4 _) trodAll_mk0)) (fun sp _ => trodAll_mk0) (fun _ _ => rfl) rfl
    (hg.frame _) hg.2.1 (ok_one (by kernel_rfl) rfl (okWide_bool_mk Try.underlying4 _))⟩

theorem over : Rows.TokenNamesSaid :=
  OpenClaim.holds_of_wide 17 Try.f17 rfl rfl rfl rfl rfl rfl rfl ⟨rfl, rfl, rfl, rfl, rfl⟩ rfl rfl rfl rfl rfl (by kernel_rfl) Try.func17 (by kernel_rfl)
    (of_decide_eq_true (by kernel_rfl)) (by unfold Func.isWrapper; first | (rw [if_pos (by decide +kernel)]; kernel_rfl) | (rw [if_neg (by decide +kernel)]; exact ⟨rfl, rfl⟩))
    (fun os started H enc _ => lifted os started H enc)
end Go.Proofs.Try.Kn
namespace Go.Proofs.Ytfbbnkaahnpicaa
theorem tokenNames_holds : Rows.TokenNamesSaid := Go.Proofs.Try.Kn.over
end Go.Proofs.Ytfbbnkaahnpicaa
