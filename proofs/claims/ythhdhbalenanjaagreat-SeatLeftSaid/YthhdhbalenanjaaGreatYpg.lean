/- 'SeatLeft': whatever the input, true; the input reads as it did. No condition. (printed by row2.py) -/
import Derived.Test.YthhdhbalenanjaaGreatYb
import Derived.Test.YthhdhbalenanjaaGreatZ2
open Go.Proofs.Tryz renaming prog->bj,f15->bk,checked->bq
namespace Go.Proofs.Tryz.Op
open Go Go.Pg Go.ChangeShapes Go.WideShapes Go.ChangeAt Go.RowKit Go.Wind
open Go.Proofs.YthhdhbalenanjaaGreat
set_option maxRecDepth 100000 in
theorem bJ(os:Os)(started:os.Started)(H:Type)(enc:TypeId×Value->H) :
  ReturnsInHanded {} bq os 15 .any (Rows.seatLeftSpec.pre6 enc bj bk Rows.seatLeftRow.domain false) (Rows.seatLeftSpec.post enc bj bk false true false false):=by
 refine returnsInHanded_of_change (C:=bq) BF2 started (by kernel_rfl) Tryz.func15
  (ChangeSpec.witness6 (enc:=enc) (C:=bq) false ⟨#[],#[.agg #[.int .i64 0,.int .i64 0,.int .i64 0,.int .i64 0,.slice none 0 0,.slice none 0 0,.slice none 0 0,.slice none 0 0,.slice none 0 0,.slice none 0 0,.slice none 0 0,.slice none 0 0],.int .u8 0],[]⟩ 8 (by kernel_rfl) (by kernel_rfl) (by kernel_rfl) (by kernel_rfl)) ?_
 intro W base args ds gs before hval hW _ _
 have hW':=hW
 obtain⟨p,q,hA0,hV,rfl,hfz,hnd⟩:=hW
 have hA:DataW.TrodAll enc bj W 0 (fun _=>true) true bk.params.toList args.toList ds p:=hA0
 rw[Tryz.params15]at hA
 obtain⟨v0,v1,d0,d1,p0,p1,rfl,rfl,rfl,h0,h1⟩:=trodAll_two hA
 obtain⟨rfl,rfl⟩:=trodVars_none hV
 clear hA0
 simp only[List.append_nil]at hW'
 obtain⟨c,hc,r0⟩:=AGQ (hval 0 31 v0 rfl rfl) h0
 obtain⟨w,hw,r1⟩:=AUR (hval 1 5 v1 rfl rfl) h1
 refine(AAA (AAC 0 c hc w hw) (RepA.cons r0 (RepA.cons r1 ⟨rfl,fun i h1=>by simp at h1⟩))).mono fun e W' ⟨he,hg⟩=>?_
 subst he
 have l0:∀x∈p0,x.block<W.heap.size:=fun x hx=>hW'.lt x (by simp[hx])
 have l1:∀x∈p1,x.block<W.heap.size:=fun x hx=>hW'.lt x (by simp[hx])
 exact⟨_,rfl,post_of_same (pa:=p0++p1) (pv:=[]) hW' (fun _ _ _=>(trodAll_cons_mk (shut_bool Tryz.underlying4 _) trodAll_mk0))
  (fun sp hs=>trodAll_mk2 (stays AUQ BFZ h0 hg l0 fun x hx=>hs x (by simp[hx])) (stays A78 in5 h1 hg l1 fun x hx=>hs x (by simp[hx]))) (fun _ _=>rfl) (by simp)
  (hg.frame _) hg.2.1 (ok_one (by kernel_rfl) rfl (okWide_bool_mk Tryz.underlying4 _))⟩
theorem rU:(Rows.seatLeftRow.inPlace==bj.inPlace 15)=true:=by kernel_rfl
theorem rV:(Rows.seatLeftRow.unfollowed==bj.unfollowed 15)=true:=by kernel_rfl
theorem rW:(Rows.seatLeftRow.recurses==bj.recurses 15)=true:=by kernel_rfl
theorem rX:(Rows.seatLeftRow.named==bj.varsNamed 15)=true:=by kernel_rfl
theorem overSeatLeft:Rows.SeatLeftSaid :=
 OpenClaim.holds_of_wide 15 bk rfl rfl rfl rfl rfl rfl rfl ⟨rfl,rfl,rfl,rfl,rfl⟩ rfl rfl rfl rfl rfl (by kernel_rfl) Tryz.func15 (by show joinedFacts bj 15 bk Rows.seatLeftSpec Rows.seatLeftRow=true;unfold joinedFacts;rw[BFY,BFV,vV,BFW,BFX,rU,rV,rW,rX];kernel_rfl)
  (of_decide_eq_true (by kernel_rfl)) (by unfold Func.isWrapper;first|(rw[if_pos (by decide +kernel)];kernel_rfl)|(rw[if_neg (by decide +kernel)];exact⟨rfl,rfl⟩))
  (fun os started H enc _=>bJ os started H enc)
end Go.Proofs.Tryz.Op
namespace Go.Proofs.YthhdhbalenanjaaGreat
theorem seatLeft_holds:Rows.SeatLeftSaid:=Go.Proofs.Tryz.Op.overSeatLeft
end Go.Proofs.YthhdhbalenanjaaGreat
