/- 'TokenEnd': whatever the input, true; the input reads as it did. No condition. -/
import Derived.Test.YtfbbnkaahnpicaaYe
import Derived.Test.YtfbbnkaahnpicaaUz
import Derived.Test.YtfbbnkaahnpicaaYo
namespace Go.Proofs.Try.Op
open Go Go.Pg Go.ChangeShapes Go.WideShapes Go.ChangeAt Go.RowKit
open Go.Proofs.Ytfbbnkaahnpicaa

set_option maxRecDepth 100000 in
theorem lifted14 (os : Os) (started : os.Started) (H : Type) (enc : TypeId × Value → H) :
    ReturnsInHanded {} Try.checked os 14 .any (Rows.tokenEndSpec.pre6 enc Try.prog Try.f14 Rows.tokenEndRow.domain false) (Rows.tokenEndSpec.post enc Try.prog Try.f14 false true false false) := by
  refine returnsInHanded_of_change_sized (C := Try.checked) ownG started (by kernel_rfl) Try.func14
    (ChangeSpec.witness6 (enc := enc) (C := Try.checked) false ⟨#[], #[.agg #[.int .i64 0, .int .i64 0, .int .i64 0, .slice none 0 0, .slice none 0 0], .agg #[.int .i64 0, .int .i64 0, .int .i64 0], .int .u8 0, .int .u8 0], []⟩ 8 (by kernel_rfl) (by kernel_rfl) (by kernel_rfl) (by kernel_rfl)) ?_
  intro W base args ds gs before hval hW _ hz _
  have hW' := hW
  obtain ⟨p, q, hA0, hV, rfl, hfz, hnd⟩ := hW
  have hA : DataW.TrodAll enc Try.prog W 0 (fun _ => true) true Try.f14.params.toList args.toList ds p := hA0
  rw [Try.params14] at hA
  obtain ⟨v0, v1, v2, v3, d0, d1, d2, d3, p0, p1, p2, p3, rfl, rfl, rfl, h0, h1, h2, h3⟩ := trodAll_four hA
  obtain ⟨rfl, rfl⟩ := trodVars_none hV
  clear hA0
  simp only [List.append_nil] at hW' hz
  obtain ⟨b, hb, hz1, hz2, r0⟩ := arg_bookS (hval 0 25 v0 rfl rfl) h0 (B := reachBytes) fun w hw => by simpa using List.all_eq_true.1 hz w (DataW.weights_mem_each (j := 0) (t := 25) (d := d0) rfl rfl w hw)
  obtain ⟨x, _, r1⟩ := arg_line (hval 1 75 v1 rfl rfl) h1
  obtain ⟨k, hk, r2⟩ := arg_u8 (hval 2 5 v2 rfl rfl) h2
  obtain ⟨k1, hk1, r3⟩ := arg_u8 (hval 3 5 v3 rfl rfl) h3
  refine (walk_true (k14 0 b x k k1 hz1  hk hk1) (RepA.cons r0 (RepA.cons r1 (RepA.cons r2 (RepA.cons r3 ⟨rfl, fun i h1 => by simp at h1⟩))))).mono fun e W' ⟨he, hg⟩ => ?_
  subst he
  have l0 : ∀ x ∈ p0, x.block < W.heap.size := fun x hx => hW'.lt x (by simp [hx])
  have l1 : ∀ x ∈ p1, x.block < W.heap.size := fun x hx => hW'.lt x (by simp [hx])
  have l2 : ∀ x ∈ p2, x.block < W.heap.size := fun x hx => hW'.lt x (by simp [hx])
  have l3 : ∀ x ∈ p3, x.block < W.heap.size := fun x hx => hW'.lt x (by simp [hx])
  exact ⟨_, rfl, post_of_same (pa := p0 ++ (p1 ++ (p2 ++ (p3)))) (pv := []) hW' (fun _ _ _ => (trodAll_cons_mk (shut_bool Try.underlying4 _) trodAll_mk0))
    (fun sp hs => trodAll_mk4 (stays read25 in25 h0 hg l0 fun x hx => hs x (by simp [hx])) (stays read75 in75 h1 hg l1 fun x hx => hs x (by simp [hx])) (stays read5 in5 h2 hg l2 fun x hx => hs x (by simp [hx])) (stays read5 in5 h3 hg l3 fun x hx => hs x (by simp [hx]))) (fun _ _ => rfl) (by simp)
    (hg.frame _) hg.2.1 (ok_one (by kernel_rfl) rfl (okWide_bool_mk Try.underlying4 _))⟩

theorem over14 : Rows.TokenEndSaid :=
  OpenClaim.holds_of_wide 14 Try.f14 rfl rfl rfl rfl rfl rfl rfl ⟨rfl, rfl, rfl, rfl, rfl⟩ rfl rfl rfl rfl rfl (by kernel_rfl) Try.func14 (by kernel_rfl)
    (of_decide_eq_true (by kernel_rfl)) (by unfold Func.isWrapper; first | (rw [if_pos (by decide +kernel)]; kernel_rfl) | (rw [if_neg (by decide +kernel)]; exact ⟨rfl, rfl⟩))
    (fun os started H enc _ => lifted14 os started H enc)
end Go.Proofs.Try.Op
namespace Go.Proofs.Ytfbbnkaahnpicaa
theorem tokenEnd_holds : Rows.TokenEndSaid := Go.Proofs.Try.Op.over14
end Go.Proofs.Ytfbbnkaahnpicaa
