/- 'TokenTruth': whatever the input, true; the input reads as it did. No condition. -/
import Derived.Test.YtfbbnkaahnpicaaYe
import Derived.Test.YtfbbnkaahnpicaaHz
import Derived.Test.YtfbbnkaahnpicaaYk
namespace Go.Proofs.Try.Op
open Go Go.Pg Go.ChangeShapes Go.WideShapes Go.ChangeAt Go.RowKit
open Go.Proofs.Ytfbbnkaahnpicaa

set_option maxRecDepth 100000 in
theorem lifted18 (os:Os) (started:os.Started) (H:Type) (enc:TypeId × Value→H) :
  ReturnsInHanded {} Try.checked os 18 .any (Rows.tokenTruthSpec.pre6 enc Try.prog Try.f18 Rows.tokenTruthRow.domain false) (Rows.tokenTruthSpec.post enc Try.prog Try.f18 false true false false):=by
 refine returnsInHanded_of_change (C:=Try.checked) ownG started (by kernel_rfl) Try.func18
  (ChangeSpec.witness6 (enc:=enc) (C:=Try.checked) false ⟨#[],#[.agg #[.int .i64 0,.int .i64 0,.int .i64 0,.slice none 0 0,.slice none 0 0],.slice none 0 0,.int .u8 0],[]⟩ 8 (by kernel_rfl) (by kernel_rfl) (by kernel_rfl) (by kernel_rfl)) ?_
 intro W base args ds gs before hval hW _ _
 have hW':=hW
 obtain ⟨p,q,hA0,hV,rfl,hfz,hnd⟩:=hW
 have hA:DataW.TrodAll enc Try.prog W 0 (fun _=>true) true Try.f18.params.toList args.toList ds p:=hA0
 rw [Try.params18] at hA
 obtain ⟨v0,v1,v2,d0,d1,d2,p0,p1,p2,rfl,rfl,rfl,h0,h1,h2⟩:=trodAll_three hA
 obtain ⟨rfl,rfl⟩:=trodVars_none hV
 clear hA0
 simp only [List.append_nil] at hW'
 obtain ⟨b,hb,r0⟩:=arg_book (hval 0 25 v0 rfl rfl) h0
 obtain ⟨ws,hws,r1⟩:=arg_words (hval 1 72 v1 rfl rfl) h1
 obtain ⟨k,hk,r2⟩:=arg_u8 (hval 2 5 v2 rfl rfl) h2
 refine (walk_true (k18 0 b ws k hb hws hk) (RepA.cons r0 (RepA.cons r1 (RepA.cons r2 ⟨rfl,fun i h1=>by simp at h1⟩)))).mono fun e W' ⟨he,hg⟩=>?_
 subst he
 have l0:∀ x ∈ p0,x.block < W.heap.size:=fun x hx=>hW'.lt x (by simp [hx])
 have l1:∀ x ∈ p1,x.block < W.heap.size:=fun x hx=>hW'.lt x (by simp [hx])
 have l2:∀ x ∈ p2,x.block < W.heap.size:=fun x hx=>hW'.lt x (by simp [hx])
 exact ⟨_,rfl,post_of_same (pa:=p0 ++ (p1 ++ (p2))) (pv:=[]) hW' (fun _ _ _=>(trodAll_cons_mk (shut_bool Try.underlying4 _) trodAll_mk0))
  (fun sp hs=>trodAll_mk3 (stays read25 in25 h0 hg l0 fun x hx=>hs x (by simp [hx])) (stays read72 in72 h1 hg l1 fun x hx=>hs x (by simp [hx])) (stays read5 in5 h2 hg l2 fun x hx=>hs x (by simp [hx]))) (fun _ _=>rfl) (by simp)
  (hg.frame _) hg.2.1 (ok_one (by kernel_rfl) rfl (okWide_bool_mk Try.underlying4 _))⟩

theorem over18:Rows.TokenTruthSaid :=
 OpenClaim.holds_of_wide 18 Try.f18 rfl rfl rfl rfl rfl rfl rfl ⟨rfl,rfl,rfl,rfl,rfl⟩ rfl rfl rfl rfl rfl (by kernel_rfl) Try.func18 (by kernel_rfl)
  (of_decide_eq_true (by kernel_rfl)) (by unfold Func.isWrapper; first | (rw [if_pos (by decide +kernel)]; kernel_rfl) | (rw [if_neg (by decide +kernel)]; exact ⟨rfl,rfl⟩))
  (fun os started H enc _=>lifted18 os started H enc)
end Go.Proofs.Try.Op
namespace Go.Proofs.Ytfbbnkaahnpicaa
theorem tokenTruth_holds:Rows.TokenTruthSaid:=Go.Proofs.Try.Op.over18
end Go.Proofs.Ytfbbnkaahnpicaa
