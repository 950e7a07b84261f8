/- 'SeatMirror': whatever the input, true; the input reads as it did. No condition. (printed by row2.py) -/
import Derived.Test.YthhdhbalenanjaaGreatYb
import Derived.Test.YthhdhbalenanjaaGreatZl
open Go.Proofs.Tryz renaming prog->bj,f17->bk,checked->bq
namespace Go.Proofs.Tryz.Op
open Go Go.Pg Go.ChangeShapes Go.WideShapes Go.ChangeAt Go.RowKit Go.Wind
open Go.Proofs.YthhdhbalenanjaaGreat
set_option maxRecDepth 100000 in
theorem WL(os:Os)(started:os.Started)(H:Type)(enc:TypeId×Value->H) :
  ReturnsInHanded {} bq os 17 .any (Rows.seatMirrorSpec.pre6 enc bj bk Rows.seatMirrorRow.domain false) (Rows.seatMirrorSpec.post enc bj bk false true false false):=by
 refine returnsInHanded_of_change (C:=bq) BFN started (by kernel_rfl) Tryz.func17
  (ChangeSpec.witness6 (enc:=enc) (C:=bq) false ⟨#[],#[.agg #[.int .i64 0,.int .i64 0,.int .i64 0,.int .i64 0,.slice none 0 0,.slice none 0 0,.slice none 0 0,.slice none 0 0,.slice none 0 0,.slice none 0 0,.slice none 0 0,.slice none 0 0]],[]⟩ 8 (by kernel_rfl) (by kernel_rfl) (by kernel_rfl) (by kernel_rfl)) ?_
 intro W base args ds gs before hval hW _ _
 have hW':=hW
 obtain⟨p,q,hA0,hV,rfl,hfz,hnd⟩:=hW
 have hA:DataW.TrodAll enc bj W 0 (fun _=>true) true bk.params.toList args.toList ds p:=hA0
 rw[Tryz.params17]at hA
 obtain⟨v0,d0,rfl,rfl,h0⟩:=trodAll_one hA
 obtain⟨rfl,rfl⟩:=trodVars_none hV
 clear hA0
 simp only[List.append_nil]at hW'
 obtain⟨c,hc,r0⟩:=AIR (hval 0 31 v0 rfl rfl) h0
 refine(ABY (pQ 0 c hc) (RepA.cons r0 ⟨rfl,fun i h1=>by simp at h1⟩)).mono fun e W' ⟨he,hg⟩=>?_
 subst he
 have l0:∀x∈p,x.block<W.heap.size:=fun x hx=>hW'.lt x (by simp[hx])
 exact⟨_,rfl,post_of_same (pa:=p) (pv:=[]) hW' (fun _ _ _=>(trodAll_cons_mk (shut_bool Tryz.underlying4 _) trodAll_mk0))
  (fun sp hs=>trodAll_mk1 (stays AVT BFK h0 hg l0 fun x hx=>hs x (by simp[hx]))) (fun _ _=>rfl) (by simp)
  (hg.frame _) hg.2.1 (ok_one (by kernel_rfl) rfl (okWide_bool_mk Tryz.underlying4 _))⟩
theorem jT:(Rows.seatMirrorRow.inPlace==bj.inPlace 17)=true:=by kernel_rfl
theorem jU:(Rows.seatMirrorRow.unfollowed==bj.unfollowed 17)=true:=by kernel_rfl
theorem jV:(Rows.seatMirrorRow.recurses==bj.recurses 17)=true:=by kernel_rfl
theorem jW:(Rows.seatMirrorRow.named==bj.varsNamed 17)=true:=by kernel_rfl
theorem overSeatMirror:Rows.SeatMirrorSaid :=
 OpenClaim.holds_of_wide 17 bk rfl rfl rfl rfl rfl rfl rfl ⟨rfl,rfl,rfl,rfl,rfl⟩ rfl rfl rfl rfl rfl (by kernel_rfl) Tryz.func17 (by show joinedFacts bj 17 bk Rows.seatMirrorSpec Rows.seatMirrorRow=true;unfold joinedFacts;rw[BFJ,BFG,yD,BFH,BFI,jT,jU,jV,jW];kernel_rfl)
  (of_decide_eq_true (by kernel_rfl)) (by unfold Func.isWrapper;first|(rw[if_pos (by decide +kernel)];kernel_rfl)|(rw[if_neg (by decide +kernel)];exact⟨rfl,rfl⟩))
  (fun os started H enc _=>WL os started H enc)
end Go.Proofs.Tryz.Op
namespace Go.Proofs.YthhdhbalenanjaaGreat
theorem seatMirror_holds:Rows.SeatMirrorSaid:=Go.Proofs.Tryz.Op.overSeatMirror
end Go.Proofs.YthhdhbalenanjaaGreat
