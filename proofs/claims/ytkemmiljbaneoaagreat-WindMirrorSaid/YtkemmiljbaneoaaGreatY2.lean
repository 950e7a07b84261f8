/- 'WindMirror': whatever the input, true; the input reads as it did. No condition. (printed by row2.py) -/
import Derived.Test.YtkemmiljbaneoaaGreatYe
import Derived.Test.YtkemmiljbaneoaaGreatT1
namespace Go.Proofs.Tryz.Op
open Go Go.Pg Go.ChangeShapes Go.WideShapes Go.ChangeAt Go.RowKit Go.Wind
open Go.Proofs.YtkemmiljbaneoaaGreat

set_option maxRecDepth 100000 in
theorem liftedWindMirror (os:Os) (started:os.Started) (H:Type) (enc:TypeId × Value→H) :
  ReturnsInHanded {} Tryz.checked os 9 .any (Rows.windMirrorSpec.pre6 enc Tryz.prog Tryz.f9 Rows.windMirrorRow.domain false) (Rows.windMirrorSpec.post enc Tryz.prog Tryz.f9 false true false false):=by
 refine returnsInHanded_of_change (C:=Tryz.checked) ownG started (by kernel_rfl) Tryz.func9
  (ChangeSpec.witness6 (enc:=enc) (C:=Tryz.checked) false ⟨#[],#[.agg #[.int .i64 0,.int .i64 0,.int .i64 0,.int .i64 0,.slice none 0 0,.slice none 0 0,.slice none 0 0,.slice none 0 0,.slice none 0 0],.int .u16 0,.slice none 0 0,.int .u8 0],[]⟩ 8 (by kernel_rfl) (by kernel_rfl) (by kernel_rfl) (by kernel_rfl)) ?_
 intro W base args ds gs before hval hW _ _
 have hW':=hW
 obtain ⟨p,q,hA0,hV,rfl,hfz,hnd⟩:=hW
 have hA:DataW.TrodAll enc Tryz.prog W 0 (fun _=>true) true Tryz.f9.params.toList args.toList ds p:=hA0
 rw [Tryz.params9] at hA
 obtain ⟨v0,v1,v2,v3,d0,d1,d2,d3,p0,p1,p2,p3,rfl,rfl,rfl,h0,h1,h2,h3⟩:=trodAll_four hA
 obtain ⟨rfl,rfl⟩:=trodVars_none hV
 clear hA0
 simp only [List.append_nil] at hW'
 obtain ⟨b,hb,r0⟩:=arg_beach (hval 0 27 v0 rfl rfl) h0
 obtain ⟨w,hw,r1⟩:=arg_u16 (hval 1 95 v1 rfl rfl) h1
 obtain ⟨ws,hws,r2⟩:=arg_words (hval 2 87 v2 rfl rfl) h2
 obtain ⟨w1,hw1,r3⟩:=arg_u8 (hval 3 5 v3 rfl rfl) h3
 refine (walk_true (kMirrorL 0 b hb w hw ws hws w1 hw1) (RepA.cons r0 (RepA.cons r1 (RepA.cons r2 (RepA.cons r3 ⟨rfl,fun i h1=>by simp at h1⟩))))).mono fun e W' ⟨he,hg⟩=>?_
 subst he
 have l0:∀ x ∈ p0,x.block < W.heap.size:=fun x hx=>hW'.lt x (by simp [hx])
 have l1:∀ x ∈ p1,x.block < W.heap.size:=fun x hx=>hW'.lt x (by simp [hx])
 have l2:∀ x ∈ p2,x.block < W.heap.size:=fun x hx=>hW'.lt x (by simp [hx])
 have l3:∀ x ∈ p3,x.block < W.heap.size:=fun x hx=>hW'.lt x (by simp [hx])
 exact ⟨_,rfl,post_of_same (pa:=p0 ++ (p1 ++ (p2 ++ (p3)))) (pv:=[]) hW' (fun _ _ _=>(trodAll_cons_mk (shut_bool Tryz.underlying4 _) trodAll_mk0))
  (fun sp hs=>trodAll_mk4 (stays read27 in27 h0 hg l0 fun x hx=>hs x (by simp [hx])) (stays read95 in95 h1 hg l1 fun x hx=>hs x (by simp [hx])) (stays read87 in87 h2 hg l2 fun x hx=>hs x (by simp [hx])) (stays read5 in5 h3 hg l3 fun x hx=>hs x (by simp [hx]))) (fun _ _=>rfl) (by simp)
  (hg.frame _) hg.2.1 (ok_one (by kernel_rfl) rfl (okWide_bool_mk Tryz.underlying4 _))⟩

theorem overWindMirror:Rows.WindMirrorSaid :=
 OpenClaim.holds_of_wide 9 Tryz.f9 rfl rfl rfl rfl rfl rfl rfl ⟨rfl,rfl,rfl,rfl,rfl⟩ rfl rfl rfl rfl rfl (by kernel_rfl) Tryz.func9 (by kernel_rfl)
  (of_decide_eq_true (by kernel_rfl)) (by unfold Func.isWrapper; first | (rw [if_pos (by decide +kernel)]; kernel_rfl) | (rw [if_neg (by decide +kernel)]; exact ⟨rfl,rfl⟩))
  (fun os started H enc _=>liftedWindMirror os started H enc)
end Go.Proofs.Tryz.Op
namespace Go.Proofs.YtkemmiljbaneoaaGreat
theorem windMirror_holds:Rows.WindMirrorSaid:=Go.Proofs.Tryz.Op.overWindMirror
end Go.Proofs.YtkemmiljbaneoaaGreat
