/- 'WindWider': whatever the input, true; the input reads as it did. No condition. (printed by row2.py) -/
import Derived.Test.YtkemmiljbaneoaaYe
import Derived.Test.YtkemmiljbaneoaaT1
namespace Go.Proofs.Try.Op
open Go Go.Pg Go.ChangeShapes Go.WideShapes Go.ChangeAt Go.RowKit Go.Wind
open Go.Proofs.Ytkemmiljbaneoaa

set_option maxRecDepth 100000 in
theorem liftedWindWider (os:Os) (started:os.Started) (H:Type) (enc:TypeId × Value→H) :
  ReturnsInHanded {} Try.checked os 7 .any (Rows.windWiderSpec.pre6 enc Try.prog Try.f7 Rows.windWiderRow.domain false) (Rows.windWiderSpec.post enc Try.prog Try.f7 false true false false):=by
 refine returnsInHanded_of_change (C:=Try.checked) ownG started (by kernel_rfl) Try.func7
  (ChangeSpec.witness6 (enc:=enc) (C:=Try.checked) false ⟨#[],#[.agg #[.int .i64 0,.int .i64 0,.int .i64 0,.int .i64 0,.slice none 0 0,.slice none 0 0,.slice none 0 0,.slice none 0 0,.slice none 0 0],.int .u8 0,.int .u8 0,.slice none 0 0],[]⟩ 8 (by kernel_rfl) (by kernel_rfl) (by kernel_rfl) (by kernel_rfl)) ?_
 intro W base args ds gs before hval hW _ _
 have hW':=hW
 obtain ⟨p,q,hA0,hV,rfl,hfz,hnd⟩:=hW
 have hA:DataW.TrodAll enc Try.prog W 0 (fun _=>true) true Try.f7.params.toList args.toList ds p:=hA0
 rw [Try.params7] at hA
 obtain ⟨v0,v1,v2,v3,d0,d1,d2,d3,p0,p1,p2,p3,rfl,rfl,rfl,h0,h1,h2,h3⟩:=trodAll_four hA
 obtain ⟨rfl,rfl⟩:=trodVars_none hV
 clear hA0
 simp only [List.append_nil] at hW'
 obtain ⟨b,hb,r0⟩:=arg_beach (hval 0 27 v0 rfl rfl) h0
 obtain ⟨w,hw,r1⟩:=arg_u8 (hval 1 5 v1 rfl rfl) h1
 obtain ⟨w1,hw1,r2⟩:=arg_u8 (hval 2 5 v2 rfl rfl) h2
 obtain ⟨ws,hws,r3⟩:=arg_words (hval 3 28 v3 rfl rfl) h3
 refine (walk_true (kWiderL 0 b hb w hw w1 hw1 ws hws) (RepA.cons r0 (RepA.cons r1 (RepA.cons r2 (RepA.cons r3 ⟨rfl,fun i h1=>by simp at h1⟩))))).mono fun e W' ⟨he,hg⟩=>?_
 subst he
 have l0:∀ x ∈ p0,x.block < W.heap.size:=fun x hx=>hW'.lt x (by simp [hx])
 have l1:∀ x ∈ p1,x.block < W.heap.size:=fun x hx=>hW'.lt x (by simp [hx])
 have l2:∀ x ∈ p2,x.block < W.heap.size:=fun x hx=>hW'.lt x (by simp [hx])
 have l3:∀ x ∈ p3,x.block < W.heap.size:=fun x hx=>hW'.lt x (by simp [hx])
 exact ⟨_,rfl,post_of_same (pa:=p0 ++ (p1 ++ (p2 ++ (p3)))) (pv:=[]) hW' (fun _ _ _=>(trodAll_cons_mk (shut_bool Try.underlying4 _) trodAll_mk0))
  (fun sp hs=>trodAll_mk4 (stays read27 in27 h0 hg l0 fun x hx=>hs x (by simp [hx])) (stays read5 in5 h1 hg l1 fun x hx=>hs x (by simp [hx])) (stays read5 in5 h2 hg l2 fun x hx=>hs x (by simp [hx])) (stays read28 in28 h3 hg l3 fun x hx=>hs x (by simp [hx]))) (fun _ _=>rfl) (by simp)
  (hg.frame _) hg.2.1 (ok_one (by kernel_rfl) rfl (okWide_bool_mk Try.underlying4 _))⟩

theorem overWindWider:Rows.WindWiderSaid :=
 OpenClaim.holds_of_wide 7 Try.f7 rfl rfl rfl rfl rfl rfl rfl ⟨rfl,rfl,rfl,rfl,rfl⟩ rfl rfl rfl rfl rfl (by kernel_rfl) Try.func7 (by kernel_rfl)
  (of_decide_eq_true (by kernel_rfl)) (by unfold Func.isWrapper; first | (rw [if_pos (by decide +kernel)]; kernel_rfl) | (rw [if_neg (by decide +kernel)]; exact ⟨rfl,rfl⟩))
  (fun os started H enc _=>liftedWindWider os started H enc)
end Go.Proofs.Try.Op
namespace Go.Proofs.Ytkemmiljbaneoaa
theorem windWider_holds:Rows.WindWiderSaid:=Go.Proofs.Try.Op.overWindWider
end Go.Proofs.Ytkemmiljbaneoaa
