/- 'WindMore': whatever the input, true; the input reads as it did. No condition. (printed by row2.py) -/
import Derived.Test.YtkemmiljbaneoaaYe
import Derived.Test.YtkemmiljbaneoaaT1
import Derived.Test.YtkemmiljbaneoaaYu
import Derived.Test.YtkemmiljbaneoaaYv
namespace Go.Proofs.Try.Op
open Go Go.Pg Go.ChangeShapes Go.WideShapes Go.ChangeAt Go.RowKit Go.Wind
open Go.Proofs.Ytkemmiljbaneoaa

set_option maxRecDepth 100000 in
theorem liftedWindMore (os:Os) (started:os.Started) (H:Type) (enc:TypeId × Value→H) :
  ReturnsInHanded {} Try.checked os 6 .any (Rows.windMoreSpec.pre6 enc Try.prog Try.f6 Rows.windMoreRow.domain false) (Rows.windMoreSpec.post enc Try.prog Try.f6 false true false false):=by
 refine returnsInHanded_of_change_sized (C:=Try.checked) ownG started (by kernel_rfl) Try.func6
  (ChangeSpec.witness6 (enc:=enc) (C:=Try.checked) false ⟨#[],#[.agg #[.int .i64 0,.int .i64 0,.int .i64 0,.int .i64 0,.slice none 0 0,.slice none 0 0,.slice none 0 0,.slice none 0 0,.slice none 0 0],.agg #[.int .i64 0,.int .i64 0],.slice none 0 0,.int .u8 0,.int .u8 0],[]⟩ 8 (by kernel_rfl) (by kernel_rfl) (by kernel_rfl) (by kernel_rfl)) ?_
 intro W base args ds gs before hval hW _ hz _
 have hW':=hW
 obtain ⟨p,q,hA0,hV,rfl,hfz,hnd⟩:=hW
 have hA:DataW.TrodAll enc Try.prog W 0 (fun _=>true) true Try.f6.params.toList args.toList ds p:=hA0
 rw [Try.params6] at hA
 obtain ⟨v0,v1,v2,v3,v4,d0,d1,d2,d3,d4,p0,p1,p2,p3,p4,rfl,rfl,rfl,h0,h1,h2,h3,h4⟩:=trodAll_five hA
 obtain ⟨rfl,rfl⟩:=trodVars_none hV
 clear hA0
 simp only [List.append_nil] at hW' hz
 obtain ⟨b,hb,hz0,r0⟩:=arg_beachN (hval 0 27 v0 rfl rfl) h0 (B:=reachBytes) fun w hw=>by simpa using List.all_eq_true.1 hz w (DataW.weights_mem_each (j:=0) (t:=27) (d:=d0) rfl rfl w hw)
 obtain ⟨s,hs,r1⟩:=arg_note (hval 1 63 v1 rfl rfl) h1
 obtain ⟨ws,hws,r2⟩:=arg_words (hval 2 28 v2 rfl rfl) h2
 obtain ⟨w,hw,r3⟩:=arg_u8 (hval 3 5 v3 rfl rfl) h3
 obtain ⟨w1,hw1,r4⟩:=arg_u8 (hval 4 5 v4 rfl rfl) h4
 refine (walk_true (kMoreL 0 b hb hz0 s hs ws hws w hw w1 hw1) (RepA.cons r0 (RepA.cons r1 (RepA.cons r2 (RepA.cons r3 (RepA.cons r4 ⟨rfl,fun i h1=>by simp at h1⟩)))))).mono fun e W' ⟨he,hg⟩=>?_
 subst he
 have l0:∀ x ∈ p0,x.block < W.heap.size:=fun x hx=>hW'.lt x (by simp [hx])
 have l1:∀ x ∈ p1,x.block < W.heap.size:=fun x hx=>hW'.lt x (by simp [hx])
 have l2:∀ x ∈ p2,x.block < W.heap.size:=fun x hx=>hW'.lt x (by simp [hx])
 have l3:∀ x ∈ p3,x.block < W.heap.size:=fun x hx=>hW'.lt x (by simp [hx])
 have l4:∀ x ∈ p4,x.block < W.heap.size:=fun x hx=>hW'.lt x (by simp [hx])
 exact ⟨_,rfl,post_of_same (pa:=p0 ++ (p1 ++ (p2 ++ (p3 ++ (p4))))) (pv:=[]) hW' (fun _ _ _=>(trodAll_cons_mk (shut_bool Try.underlying4 _) trodAll_mk0))
  (fun sp hs=>trodAll_mk5 (stays read27 in27 h0 hg l0 fun x hx=>hs x (by simp [hx])) (stays read63 in63 h1 hg l1 fun x hx=>hs x (by simp [hx])) (stays read28 in28 h2 hg l2 fun x hx=>hs x (by simp [hx])) (stays read5 in5 h3 hg l3 fun x hx=>hs x (by simp [hx])) (stays read5 in5 h4 hg l4 fun x hx=>hs x (by simp [hx]))) (fun _ _=>rfl) (by simp)
  (hg.frame _) hg.2.1 (ok_one (by kernel_rfl) rfl (okWide_bool_mk Try.underlying4 _))⟩

theorem overWindMore:Rows.WindMoreSaid :=
 OpenClaim.holds_of_wide 6 Try.f6 rfl rfl rfl rfl rfl rfl rfl ⟨rfl,rfl,rfl,rfl,rfl⟩ rfl rfl rfl rfl rfl (by kernel_rfl) Try.func6 (by kernel_rfl)
  (of_decide_eq_true (by kernel_rfl)) (by unfold Func.isWrapper; first | (rw [if_pos (by decide +kernel)]; kernel_rfl) | (rw [if_neg (by decide +kernel)]; exact ⟨rfl,rfl⟩))
  (fun os started H enc _=>liftedWindMore os started H enc)
end Go.Proofs.Try.Op
namespace Go.Proofs.Ytkemmiljbaneoaa
theorem windMore_holds:Rows.WindMoreSaid:=Go.Proofs.Try.Op.overWindMore
end Go.Proofs.Ytkemmiljbaneoaa
