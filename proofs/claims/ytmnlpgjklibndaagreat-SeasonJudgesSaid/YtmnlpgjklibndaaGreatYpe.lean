/- 'SeasonJudges': whatever the input, true; the input reads as it did. No condition. (printed by row3.py) -/
import Derived.Test.YtmnlpgjklibndaaGreatYe
import Derived.Test.YtmnlpgjklibndaaGreatJ5
open Go.Proofs.Tryz renaming prog->bj,f3->bq,checked->bw
namespace Go.Proofs.Tryz.Op
open Go Go.Pg Go.ChangeShapes Go.WideShapes Go.ChangeAt Go.RowKit
open Go.Proofs.YtmnlpgjklibndaaGreat
set_option maxRecDepth 100000 in
theorem RL(os:Os)(started:os.Started)(H:Type)(enc:TypeId×Value->H) :
  ReturnsInHanded {} bw os 3 .any (Rows.seasonJudgesSpec.pre6 enc bj bq Rows.seasonJudgesRow.domain false) (Rows.seasonJudgesSpec.post enc bj bq false true false false):=by
 refine returnsInHanded_of_change (C:=bw) BIF started (by kernel_rfl) Tryz.func3
  (ChangeSpec.witness6 (enc:=enc) (C:=bw) false ⟨#[],#[.agg #[.int .i64 0,.int .i64 0,.int .i64 0,.slice none 0 0,.slice none 0 0,.slice none 0 0,.int .i64 0,.slice none 0 0]],[]⟩ 8 (by kernel_rfl) (by kernel_rfl) (by kernel_rfl) (by kernel_rfl)) ?_
 intro W base args ds gs before hval hW _ _
 have hW':=hW
 obtain⟨p,q,hA0,hV,rfl,hfz,hnd⟩:=hW
 have hA:DataW.TrodAll enc bj W 0 (fun _=>true) true bq.params.toList args.toList ds p:=hA0
 rw[Tryz.params3]at hA
 obtain⟨v0,d0,rfl,rfl,h0⟩:=trodAll_one hA
 obtain⟨rfl,rfl⟩:=trodVars_none hV
 clear hA0
 simp only[List.append_nil]at hW'
 obtain⟨c,hc,r0⟩:=AIA (hval 0 29 v0 rfl rfl) h0
 refine(ABQ ((AO rfl).symm.trans (bV 0 c)) (RepA.cons r0 ⟨rfl,fun i h1=>by simp at h1⟩)).mono fun e W' ⟨he,hg⟩=>?_
 subst he
 have l0:∀x∈p,x.block<W.heap.size:=fun x hx=>hW'.lt x (by simp[hx])
 exact⟨_,rfl,post_of_same (pa:=p) (pv:=[]) hW' (fun _ _ _=>(trodAll_cons_mk (shut_bool Tryz.underlying4 _) trodAll_mk0))
  (fun sp hs=>trodAll_mk1 (stays AWR BIM h0 hg l0 fun x hx=>hs x (by simp[hx]))) (fun _ _=>rfl) (by simp)
  (hg.frame _) hg.2.1 (ok_one (by kernel_rfl) rfl (okWide_bool_mk Tryz.underlying4 _))⟩
theorem bB:(Rows.seasonJudgesRow.inPlace==bj.inPlace 3)=true:=by kernel_rfl
theorem bC:(Rows.seasonJudgesRow.unfollowed==bj.unfollowed 3)=true:=by kernel_rfl
theorem bD:(Rows.seasonJudgesRow.recurses==bj.recurses 3)=true:=by kernel_rfl
theorem bE:(Rows.seasonJudgesRow.named==bj.varsNamed 3)=true:=by kernel_rfl
theorem overSeasonJudges:Rows.SeasonJudgesSaid :=
 OpenClaim.holds_of_wide 3 bq rfl rfl rfl rfl rfl rfl rfl ⟨rfl,rfl,rfl,rfl,rfl⟩ rfl rfl rfl rfl rfl (by kernel_rfl) Tryz.func3 (by show joinedFacts bj 3 bq Rows.seasonJudgesSpec Rows.seasonJudgesRow=true;unfold joinedFacts;rw[BIL,BII,xZ,BIJ,BIK,bB,bC,bD,bE];kernel_rfl)
  (of_decide_eq_true (by kernel_rfl)) (by unfold Func.isWrapper;first|(rw[if_pos (by decide +kernel)];kernel_rfl)|(rw[if_neg (by decide +kernel)];exact⟨rfl,rfl⟩))
  (fun os started H enc _=>RL os started H enc)
end Go.Proofs.Tryz.Op
namespace Go.Proofs.YtmnlpgjklibndaaGreat
theorem seasonJudges_holds:Rows.SeasonJudgesSaid:=Go.Proofs.Tryz.Op.overSeasonJudges
end Go.Proofs.YtmnlpgjklibndaaGreat
