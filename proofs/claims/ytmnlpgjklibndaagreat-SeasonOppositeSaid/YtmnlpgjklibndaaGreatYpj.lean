/- 'SeasonOpposite': whatever the input, true; the input reads as it did. No condition. (printed by row3.py) -/
import Derived.Test.YtmnlpgjklibndaaGreatYe
import Derived.Test.YtmnlpgjklibndaaGreatJ5
open Go.Proofs.Tryz renaming prog->bj,f14->bq,checked->bw
namespace Go.Proofs.Tryz.Op
open Go Go.Pg Go.ChangeShapes Go.WideShapes Go.ChangeAt Go.RowKit
open Go.Proofs.YtmnlpgjklibndaaGreat
set_option maxRecDepth 100000 in
theorem liftedSeasonOpposite(os:Os)(started:os.Started)(H:Type)(enc:TypeId×Value->H) :
  ReturnsInHanded {} bw os 14 .any (Rows.seasonOppositeSpec.pre6 enc bj bq Rows.seasonOppositeRow.domain false) (Rows.seasonOppositeSpec.post enc bj bq false true false false):=by
 refine returnsInHanded_of_change (C:=bw) BIF started (by kernel_rfl) Tryz.func14
  (ChangeSpec.witness6 (enc:=enc) (C:=bw) false ⟨#[],#[.agg #[.int .i64 0,.int .i64 0,.int .i64 0,.slice none 0 0,.slice none 0 0,.slice none 0 0,.int .i64 0,.slice none 0 0],.int .u8 0],[]⟩ 8 (by kernel_rfl) (by kernel_rfl) (by kernel_rfl) (by kernel_rfl)) ?_
 intro W base args ds gs before hval hW _ _
 have hW':=hW
 obtain⟨p,q,hA0,hV,rfl,hfz,hnd⟩:=hW
 have hA:DataW.TrodAll enc bj W 0 (fun _=>true) true bq.params.toList args.toList ds p:=hA0
 rw[Tryz.params14]at hA
 obtain⟨v0,v1,d0,d1,p0,p1,rfl,rfl,rfl,h0,h1⟩:=trodAll_two hA
 obtain⟨rfl,rfl⟩:=trodVars_none hV
 clear hA0
 simp only[List.append_nil]at hW'
 obtain⟨c,hc,r0⟩:=AIA (hval 0 29 v0 rfl rfl) h0
 obtain⟨w,hw,r1⟩:=BIG (hval 1 5 v1 rfl rfl) h1
 refine(ABQ ((AO rfl).symm.trans (ABX 0 c w hw)) (RepA.cons r0 (RepA.cons r1 ⟨rfl,fun i h1=>by simp at h1⟩))).mono fun e W' ⟨he,hg⟩=>?_
 subst he
 have l0:∀x∈p0,x.block<W.heap.size:=fun x hx=>hW'.lt x (by simp[hx])
 have l1:∀x∈p1,x.block<W.heap.size:=fun x hx=>hW'.lt x (by simp[hx])
 exact⟨_,rfl,post_of_same (pa:=p0++p1) (pv:=[]) hW' (fun _ _ _=>(trodAll_cons_mk (shut_bool Tryz.underlying4 _) trodAll_mk0))
  (fun sp hs=>trodAll_mk2 (stays AWR BIM h0 hg l0 fun x hx=>hs x (by simp[hx])) (stays BL2 in5 h1 hg l1 fun x hx=>hs x (by simp[hx]))) (fun _ _=>rfl) (by simp)
  (hg.frame _) hg.2.1 (ok_one (by kernel_rfl) rfl (okWide_bool_mk Tryz.underlying4 _))⟩
theorem faSeasonOpposite:(Rows.seasonOppositeRow.inPlace==bj.inPlace 14)=true:=by kernel_rfl
theorem fbSeasonOpposite:(Rows.seasonOppositeRow.unfollowed==bj.unfollowed 14)=true:=by kernel_rfl
theorem fcSeasonOpposite:(Rows.seasonOppositeRow.recurses==bj.recurses 14)=true:=by kernel_rfl
theorem fdSeasonOpposite:(Rows.seasonOppositeRow.named==bj.varsNamed 14)=true:=by kernel_rfl
theorem overSeasonOpposite:Rows.SeasonOppositeSaid :=
 OpenClaim.holds_of_wide 14 bq rfl rfl rfl rfl rfl rfl rfl ⟨rfl,rfl,rfl,rfl,rfl⟩ rfl rfl rfl rfl rfl (by kernel_rfl) Tryz.func14 (by show joinedFacts bj 14 bq Rows.seasonOppositeSpec Rows.seasonOppositeRow=true;unfold joinedFacts;rw[BIL,BII,xZ,BIJ,BIK,faSeasonOpposite,fbSeasonOpposite,fcSeasonOpposite,fdSeasonOpposite];kernel_rfl)
  (of_decide_eq_true (by kernel_rfl)) (by unfold Func.isWrapper;first|(rw[if_pos (by decide +kernel)];kernel_rfl)|(rw[if_neg (by decide +kernel)];exact⟨rfl,rfl⟩))
  (fun os started H enc _=>liftedSeasonOpposite os started H enc)
end Go.Proofs.Tryz.Op
namespace Go.Proofs.YtmnlpgjklibndaaGreat
theorem seasonOpposite_holds:Rows.SeasonOppositeSaid:=Go.Proofs.Tryz.Op.overSeasonOpposite
end Go.Proofs.YtmnlpgjklibndaaGreat
