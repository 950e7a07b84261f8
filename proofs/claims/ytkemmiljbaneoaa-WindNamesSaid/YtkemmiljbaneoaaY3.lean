/- 'WindNames': the closed statement returns true, and nothing that was there is changed. No condition. -/
import Derived.Test.YtkemmiljbaneoaaRows
import Derived.Test.YtkemmiljbaneoaaKi
import Derived.WalkKit
import Derived.ProofKit
import Derived.OpenShut
import Derived.JoinedOf
import Derived.JoinedAt
namespace Go.Proofs.Try.Kn
open Go Go.Pg Go.ChangeShapes Go.WideShapes Go.ChangeAt Go.RowKit
open Go.Proofs.Ytkemmiljbaneoaa

theorem ownW:ownKnob Try.prog.godebug = none:=by kernel_rfl

theorem walk (W:World):Calls Try.prog 9 #[] W fun e w'=>e = .returned (.bool true)∧Grown W w':=by
 have h:=call_ok (lit:=litK 100000) (n:=300) hP tabN_ok ownOK runN ⟨[],[]⟩
 refine (calls_of_acall (vals:=#[]) (W:=W) h fun G=>⟨rfl,fun i h1 _=>absurd h1 (by simp)⟩).mono fun e w' ⟨r,v,G,s',he,hr,hk,hg⟩=>⟨?_,hg⟩
 obtain ⟨rfl,_⟩:=hk
 cases hr
 exact he

set_option maxRecDepth 100000 in
theorem lifted (os:Os) (started:os.Started) (H:Type) (enc:TypeId × Value→H) :
  ReturnsInHanded {} Try.checked os 9 .any (Rows.windNamesSpec.pre6 enc Try.prog Try.f9 Rows.windNamesRow.domain false) (Rows.windNamesSpec.post enc Try.prog Try.f9 false true false false):=by
 refine returnsInHanded_of_change (C:=Try.checked) ownW started (by kernel_rfl) Try.func9
  (ChangeSpec.witness6 (enc:=enc) (C:=Try.checked) false ⟨#[],#[],[]⟩ 8 (by kernel_rfl) (by kernel_rfl) (by kernel_rfl) (by kernel_rfl)) ?_
 intro W base args ds gs before hval hW _ _
 have hW':=hW
 obtain ⟨p,q,hA0,hV,rfl,hfz,hnd⟩:=hW
 have hA:DataW.TrodAll enc Try.prog W 0 (fun _=>true) true Try.f9.params.toList args.toList ds p:=hA0
 rw [Try.params9] at hA
 obtain ⟨hargs,rfl,rfl⟩:=trodAll_nil hA
 obtain rfl:args = #[]:=by cases args; simp_all
 obtain ⟨rfl,rfl⟩:=trodVars_none hV
 clear hA0
 simp only [List.append_nil] at hW'
 refine (walk W).mono fun e W' ⟨he,hg⟩=>?_
 subst he
 exact ⟨_,rfl,post_of_same (pa:=[]) (pv:=[]) hW' (fun _ _ _=>(trodAll_cons_mk (shut_bool Try.underlying4 _) trodAll_mk0)) (fun sp _=>trodAll_mk0) (fun _ _=>rfl) rfl
  (hg.frame _) hg.2.1 (ok_one (by kernel_rfl) rfl (okWide_bool_mk Try.underlying4 _))⟩

theorem overWindNames:Rows.WindNamesSaid :=
 OpenClaim.holds_of_wide 9 Try.f9 rfl rfl rfl rfl rfl rfl rfl ⟨rfl,rfl,rfl,rfl,rfl⟩ rfl rfl rfl rfl rfl (by kernel_rfl) Try.func9 (by kernel_rfl)
  (of_decide_eq_true (by kernel_rfl)) (by unfold Func.isWrapper; first | (rw [if_pos (by decide +kernel)]; kernel_rfl) | (rw [if_neg (by decide +kernel)]; exact ⟨rfl,rfl⟩))
  (fun os started H enc _=>lifted os started H enc)
end Go.Proofs.Try.Kn
namespace Go.Proofs.Ytkemmiljbaneoaa
theorem windNames_holds:Rows.WindNamesSaid:=Go.Proofs.Try.Kn.overWindNames
end Go.Proofs.Ytkemmiljbaneoaa
