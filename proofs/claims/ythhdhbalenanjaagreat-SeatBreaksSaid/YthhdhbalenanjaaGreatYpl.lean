/- 'SeatBreaks': whatever the input, true; the input reads as it did. No condition. (printed by row2.py) -/
import Derived.Test.YthhdhbalenanjaaGreatYb
import Derived.Test.YthhdhbalenanjaaGreatZn
open Go.Proofs.Tryz renaming prog->bj,f7->bk,checked->bq
namespace Go.Proofs.Tryz.Op
open Go Go.Pg Go.ChangeShapes Go.WideShapes Go.ChangeAt Go.RowKit Go.Wind
open Go.Proofs.YthhdhbalenanjaaGreat
set_option maxRecDepth 100000 in
theorem XR(os:Os)(started:os.Started)(H:Type)(enc:TypeId×Value->H) :
  ReturnsInHanded {} bq os 7 .any (Rows.seatBreaksSpec.pre6 enc bj bk Rows.seatBreaksRow.domain false) (Rows.seatBreaksSpec.post enc bj bk false true false false):=by
 refine returnsInHanded_of_change (C:=bq) BJM started (by kernel_rfl) Tryz.func7
  (ChangeSpec.witness6 (enc:=enc) (C:=bq) false ⟨#[],#[.agg #[.int .i64 0,.int .i64 0,.int .i64 0,.int .i64 0,.slice none 0 0,.slice none 0 0,.slice none 0 0,.slice none 0 0,.slice none 0 0,.slice none 0 0,.slice none 0 0,.slice none 0 0]],[]⟩ 8 (by kernel_rfl) (by kernel_rfl) (by kernel_rfl) (by kernel_rfl)) ?_
 intro W base args ds gs before hval hW _ _
 have hW':=hW
 obtain⟨p,q,hA0,hV,rfl,hfz,hnd⟩:=hW
 have hA:DataW.TrodAll enc bj W 0 (fun _=>true) true bk.params.toList args.toList ds p:=hA0
 rw[Tryz.params7]at hA
 obtain⟨v0,d0,rfl,rfl,h0⟩:=trodAll_one hA
 obtain⟨rfl,rfl⟩:=trodVars_none hV
 clear hA0
 simp only[List.append_nil]at hW'
 obtain⟨c,hc,r0⟩:=AKP (hval 0 31 v0 rfl rfl) h0
 refine(ADV (sP 0 c hc) (RepA.cons r0 ⟨rfl,fun i h1=>by simp at h1⟩)).mono fun e W' ⟨he,hg⟩=>?_
 subst he
 have l0:∀x∈p,x.block<W.heap.size:=fun x hx=>hW'.lt x (by simp[hx])
 exact⟨_,rfl,post_of_same (pa:=p) (pv:=[]) hW' (fun _ _ _=>(trodAll_cons_mk (shut_bool Tryz.underlying4 _) trodAll_mk0))
  (fun sp hs=>trodAll_mk1 (stays AYT BJJ h0 hg l0 fun x hx=>hs x (by simp[hx]))) (fun _ _=>rfl) (by simp)
  (hg.frame _) hg.2.1 (ok_one (by kernel_rfl) rfl (okWide_bool_mk Tryz.underlying4 _))⟩
theorem mI:(Rows.seatBreaksRow.inPlace==bj.inPlace 7)=true:=by kernel_rfl
theorem mJ:(Rows.seatBreaksRow.unfollowed==bj.unfollowed 7)=true:=by kernel_rfl
theorem mK:(Rows.seatBreaksRow.recurses==bj.recurses 7)=true:=by kernel_rfl
theorem mL:(Rows.seatBreaksRow.named==bj.varsNamed 7)=true:=by kernel_rfl
theorem overSeatBreaks:Rows.SeatBreaksSaid :=
 OpenClaim.holds_of_wide 7 bk rfl rfl rfl rfl rfl rfl rfl ⟨rfl,rfl,rfl,rfl,rfl⟩ rfl rfl rfl rfl rfl (by kernel_rfl) Tryz.func7 (by show joinedFacts bj 7 bk Rows.seatBreaksSpec Rows.seatBreaksRow=true;unfold joinedFacts;rw[BJI,BJF,AAV,BJG,BJH,mI,mJ,mK,mL];kernel_rfl)
  (of_decide_eq_true (by kernel_rfl)) (by unfold Func.isWrapper;first|(rw[if_pos (by decide +kernel)];kernel_rfl)|(rw[if_neg (by decide +kernel)];exact⟨rfl,rfl⟩))
  (fun os started H enc _=>XR os started H enc)
end Go.Proofs.Tryz.Op
namespace Go.Proofs.YthhdhbalenanjaaGreat
theorem seatBreaks_holds:Rows.SeatBreaksSaid:=Go.Proofs.Tryz.Op.overSeatBreaks
end Go.Proofs.YthhdhbalenanjaaGreat
