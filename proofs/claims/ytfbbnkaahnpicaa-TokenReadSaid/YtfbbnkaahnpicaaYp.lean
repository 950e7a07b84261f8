/- 'TokenRead': whatever the input, true; the input reads as it did. No condition. -/
import Derived.Test.YtfbbnkaahnpicaaYe
import Derived.Test.YtfbbnkaahnpicaaUz
import Derived.Test.YtfbbnkaahnpicaaYo
namespace Go.Proofs.Try.Op
open Go Go.Pg Go.ChangeShapes Go.WideShapes Go.ChangeAt Go.RowKit
open Go.Proofs.Ytfbbnkaahnpicaa

set_option maxRecDepth 100000 in
theorem lifted10 (os : Os) (started : os.Started) (H : Type) (enc : TypeId × Value → H) :
    ReturnsInHanded {} Try.checked os 10 .any (Rows.tokenReadSpec.pre6 enc Try.prog Try.f10 Rows.tokenReadRow.domain false) (Rows.tokenReadSpec.post enc Try.prog Try.f10 false true false false) := by
  refine returnsInHanded_of_change (C := Try.checked) ownG started (by kernel_rfl) Try.func10
    (ChangeSpec.witness6 (enc := enc) (C := Try.checked) false ⟨#[], #[.agg #[.int .i64 0, .int .i64 0, .int .i64 0, .slice none 0 0, .slice none 0 0], .int .u8 0, .int .u8 0, .int .u8 0, .int .u8 0], []⟩ 8 (by kernel_rfl) (by kernel_rfl) (by kernel_rfl) (by kernel_rfl)) ?_
  intro W base args ds gs before hval hW _ _
  have hW' := hW
  obtain ⟨p, q, hA0, hV, rfl, hfz, hnd⟩ := hW
  have hA : DataW.TrodAll enc Try.prog W 0 (fun _ => true) true Try.f10.params.toList args.toList ds p := hA0
  rw [Try.params10] at hA
  obtain ⟨v0, v1, v2, v3, v4, d0, d1, d2, d3, d4, p0, p1, p2, p3, p4, rfl, rfl, rfl, h0, h1, h2, h3, h4⟩ := trodAll_five hA
  obtain ⟨rfl, rfl⟩ := trodVars_none hV
  clear hA0
  simp only [List.append_nil] at hW'
  obtain ⟨b, _, r0⟩ := arg_book (hval 0 25 v0 rfl rfl) h0
  obtain ⟨k, hk, r1⟩ := arg_u8 (hval 1 5 v1 rfl rfl) h1
  obtain ⟨k1, hk1, r2⟩ := arg_u8 (hval 2 5 v2 rfl rfl) h2
  obtain ⟨k2, hk2, r3⟩ := arg_u8 (hval 3 5 v3 rfl rfl) h3
  obtain ⟨k3, hk3, r4⟩ := arg_u8 (hval 4 5 v4 rfl rfl) h4
  refine (walk_true (k10 0 b k k1 k2 k3  hk hk1 hk2 hk3) (RepA.cons r0 (RepA.cons r1 (RepA.cons r2 (RepA.cons r3 (RepA.cons r4 ⟨rfl, fun i h1 => by simp at h1⟩)))))).mono fun e W' ⟨he, hg⟩ => ?_
  subst he
  have l0 : ∀ x ∈ p0, x.block < W.heap.size := fun x hx => hW'.lt x (by simp [hx])
  have l1 : ∀ x ∈ p1, x.block < W.heap.size := fun x hx => hW'.lt x (by simp [hx])
  have l2 : ∀ x ∈ p2, x.block < W.heap.size := fun x hx => hW'.lt x (by simp [hx])
  have l3 : ∀ x ∈ p3, x.block < W.heap.size := fun x hx => hW'.lt x (by simp [hx])
  have l4 : ∀ x ∈ p4, x.block < W.heap.size := fun x hx => hW'.lt x (by simp [hx])
  exact ⟨_, rfl, post_of_same (pa := p0 ++ (p1 ++ (p2 ++ (p3 ++ (p4))))) (pv := []) hW' (fun _ _ _ => (trodAll_cons_mk (shut_bool Try.underlying4 _) trodAll_mk0))
    (fun sp hs => trodAll_mk5 (stays read25 in25 h0 hg l0 fun x hx => hs x (by simp [hx])) (stays read5 in5 h1 hg l1 fun x hx => hs x (by simp [hx])) (stays read5 in5 h2 hg l2 fun x hx => hs x (by simp [hx])) (stays read5 in5 h3 hg l3 fun x hx => hs x (by simp [hx])) (stays read5 in5 h4 hg l4 fun x hx => hs x (by simp [hx]))) (fun _ _ => rfl) (by simp)
    (hg.frame _) hg.2.1 (ok_one (by kernel_rfl) rfl (okWide_bool_mk Try.underlying4 _))⟩

theorem over10 : Rows.TokenReadSaid :=
  OpenClaim.holds_of_wide 10 Try.f10 rfl rfl rfl rfl rfl rfl rfl ⟨rfl, rfl, rfl, rfl, rfl⟩ rfl rfl rfl rfl rfl (by kernel_rfl) Try.func10 (by kernel_rfl)
    (of_decide_eq_true (by kernel_rfl)) (by unfold Func.isWrapper; first | (rw [if_pos (by decide +kernel)]; kernel_rfl) | (rw [if_neg (by decide +kernel)]; exact ⟨rfl, rfl⟩))
    (fun os started H enc _ => lifted10 os started H enc)
end Go.Proofs.Try.Op
namespace Go.Proofs.Ytfbbnkaahnpicaa
theorem tokenRead_holds : Rows.TokenReadSaid := Go.Proofs.Try.Op.over10
end Go.Proofs.Ytfbbnkaahnpicaa
