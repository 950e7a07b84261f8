/- 'SeasonDecides': whatever the input, true; the input reads as it did. No condition. (printed by row3.py) -/
import Derived.Test.YtmnlpgjklibndaaGreatYe
import Derived.Test.YtmnlpgjklibndaaGreatJ5
open Go.Proofs.Tryz renaming prog->bj,f5->bq,checked->bw
namespace Go.Proofs.Tryz.Op
open Go Go.Pg Go.ChangeShapes Go.WideShapes Go.ChangeAt Go.RowKit
open Go.Proofs.YtmnlpgjklibndaaGreat
set_option maxRecDepth 100000 in
theorem liftedSeasonDecides(os:Os)(started:os.Started)(H:Type)(enc:TypeId×Value->H) :
  ReturnsInHanded {} bw os 5 .any (Rows.seasonDecidesSpec.pre6 enc bj bq Rows.seasonDecidesRow.domain false) (Rows.seasonDecidesSpec.post enc bj bq false true false false):=by
 refine returnsInHanded_of_change (C:=bw) BIF started (by kernel_rfl) Tryz.func5
  (ChangeSpec.witness6 (enc:=enc) (C:=bw) false ⟨#[],#[.agg #[.int .i64 0,.int .i64 0,.int .i64 0,.slice none 0 0,.slice none 0 0,.slice none 0 0,.int .i64 0,.slice none 0 0],.int .i64 0],[]⟩ 8 (by kernel_rfl) (by kernel_rfl) (by kernel_rfl) (by kernel_rfl)) ?_
 intro W base args ds gs before hval hW _ _
 have hW':=hW
 obtain⟨p,q,hA0,hV,rfl,hfz,hnd⟩:=hW
 have hA:DataW.TrodAll enc bj W 0 (fun _=>true) true bq.params.toList args.toList ds p:=hA0
 rw[Tryz.params5]at hA
 obtain⟨v0,v1,d0,d1,p0,p1,rfl,rfl,rfl,h0,h1⟩:=trodAll_two hA
 obtain⟨rfl,rfl⟩:=trodVars_none hV
 clear hA0
 simp only[List.append_nil]at hW'
 obtain⟨c,hc,r0⟩:=AIA (hval 0 29 v0 rfl rfl) h0
 obtain⟨k,hk,r1⟩:=BDL (hval 1 3 v1 rfl rfl) h1
 refine(ABQ ((AO rfl).symm.trans (AEQ 0 c k)) (RepA.cons r0 (RepA.cons r1 ⟨rfl,fun i h1=>by simp at h1⟩))).mono fun e W' ⟨he,hg⟩=>?_
 subst he
 have l0:∀x∈p0,x.block<W.heap.size:=fun x hx=>hW'.lt x (by simp[hx])
 have l1:∀x∈p1,x.block<W.heap.size:=fun x hx=>hW'.lt x (by simp[hx])
 exact⟨_,rfl,post_of_same (pa:=p0++p1) (pv:=[]) hW' (fun _ _ _=>(trodAll_cons_mk (shut_bool Tryz.underlying4 _) trodAll_mk0))
  (fun sp hs=>trodAll_mk2 (stays AWR BIM h0 hg l0 fun x hx=>hs x (by simp[hx])) (stays BL3 in3 h1 hg l1 fun x hx=>hs x (by simp[hx]))) (fun _ _=>rfl) (by simp)
  (hg.frame _) hg.2.1 (ok_one (by kernel_rfl) rfl (okWide_bool_mk Tryz.underlying4 _))⟩
theorem faSeasonDecides:(Rows.seasonDecidesRow.inPlace==bj.inPlace 5)=true:=by kernel_rfl
theorem fbSeasonDecides:(Rows.seasonDecidesRow.unfollowed==bj.unfollowed 5)=true:=by kernel_rfl
theorem fcSeasonDecides:(Rows.seasonDecidesRow.recurses==bj.recurses 5)=true:=by kernel_rfl
theorem fdSeasonDecides:(Rows.seasonDecidesRow.named==bj.varsNamed 5)=true:=by kernel_rfl
theorem overSeasonDecides:Rows.SeasonDecidesSaid :=
 OpenClaim.holds_of_wide 5 bq rfl rfl rfl rfl rfl rfl rfl ⟨rfl,rfl,rfl,rfl,rfl⟩ rfl rfl rfl rfl rfl (by kernel_rfl) Tryz.func5 (by show joinedFacts bj 5 bq Rows.seasonDecidesSpec Rows.seasonDecidesRow=true;unfold joinedFacts;rw[BIL,BII,xZ,BIJ,BIK,faSeasonDecides,fbSeasonDecides,fcSeasonDecides,fdSeasonDecides];kernel_rfl)
  (of_decide_eq_true (by kernel_rfl)) (by unfold Func.isWrapper;first|(rw[if_pos (by decide +kernel)];kernel_rfl)|(rw[if_neg (by decide +kernel)];exact⟨rfl,rfl⟩))
  (fun os started H enc _=>liftedSeasonDecides os started H enc)
end Go.Proofs.Tryz.Op
namespace Go.Proofs.YtmnlpgjklibndaaGreat
theorem seasonDecides_holds:Rows.SeasonDecidesSaid:=Go.Proofs.Tryz.Op.overSeasonDecides
end Go.Proofs.YtmnlpgjklibndaaGreat
