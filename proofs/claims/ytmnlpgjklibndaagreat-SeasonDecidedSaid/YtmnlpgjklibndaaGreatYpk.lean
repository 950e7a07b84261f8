/- 'SeasonDecided': whatever the input, true; the input reads as it did. No condition. (printed by row3.py) -/
import Derived.Test.YtmnlpgjklibndaaGreatYe
import Derived.Test.YtmnlpgjklibndaaGreatJ5
open Go.Proofs.Tryz renaming prog->bj,f11->bq,checked->bw
namespace Go.Proofs.Tryz.Op
open Go Go.Pg Go.ChangeShapes Go.WideShapes Go.ChangeAt Go.RowKit
open Go.Proofs.YtmnlpgjklibndaaGreat
set_option maxRecDepth 100000 in
theorem liftedSeasonDecided(os:Os)(started:os.Started)(H:Type)(enc:TypeId×Value->H) :
  ReturnsInHanded {} bw os 11 .any (Rows.seasonDecidedSpec.pre6 enc bj bq Rows.seasonDecidedRow.domain false) (Rows.seasonDecidedSpec.post enc bj bq false true false false):=by
 refine returnsInHanded_of_change (C:=bw) BIF started (by kernel_rfl) Tryz.func11
  (ChangeSpec.witness6 (enc:=enc) (C:=bw) false ⟨#[],#[.agg #[.int .i64 0,.int .i64 0,.int .i64 0,.slice none 0 0,.slice none 0 0,.slice none 0 0,.int .i64 0,.slice none 0 0],.int .u8 0,.int .u16 0,.int .u16 0],[]⟩ 8 (by kernel_rfl) (by kernel_rfl) (by kernel_rfl) (by kernel_rfl)) ?_
 intro W base args ds gs before hval hW _ _
 have hW':=hW
 obtain⟨p,q,hA0,hV,rfl,hfz,hnd⟩:=hW
 have hA:DataW.TrodAll enc bj W 0 (fun _=>true) true bq.params.toList args.toList ds p:=hA0
 rw[Tryz.params11]at hA
 obtain⟨v0,v1,v2,v3,d0,d1,d2,d3,p0,p1,p2,p3,rfl,rfl,rfl,h0,h1,h2,h3⟩:=trodAll_four hA
 obtain⟨rfl,rfl⟩:=trodVars_none hV
 clear hA0
 simp only[List.append_nil]at hW'
 obtain⟨c,hc,r0⟩:=AIA (hval 0 29 v0 rfl rfl) h0
 obtain⟨w,hw,r1⟩:=BIG (hval 1 5 v1 rfl rfl) h1
 obtain⟨w1,hw1,r2⟩:=BDM (hval 2 78 v2 rfl rfl) h2
 obtain⟨w2,hw2,r3⟩:=BDM (hval 3 78 v3 rfl rfl) h3
 refine(ABQ ((AO rfl).symm.trans (AET 0 c w hw w1 hw1 w2 hw2)) (RepA.cons r0 (RepA.cons r1 (RepA.cons r2 (RepA.cons r3 ⟨rfl,fun i h1=>by simp at h1⟩))))).mono fun e W' ⟨he,hg⟩=>?_
 subst he
 have l0:∀x∈p0,x.block<W.heap.size:=fun x hx=>hW'.lt x (by simp[hx])
 have l1:∀x∈p1,x.block<W.heap.size:=fun x hx=>hW'.lt x (by simp[hx])
 have l2:∀x∈p2,x.block<W.heap.size:=fun x hx=>hW'.lt x (by simp[hx])
 have l3:∀x∈p3,x.block<W.heap.size:=fun x hx=>hW'.lt x (by simp[hx])
 exact⟨_,rfl,post_of_same (pa:=p0++(p1++(p2++(p3)))) (pv:=[]) hW' (fun _ _ _=>(trodAll_cons_mk (shut_bool Tryz.underlying4 _) trodAll_mk0))
  (fun sp hs=>trodAll_mk4 (stays AWR BIM h0 hg l0 fun x hx=>hs x (by simp[hx])) (stays BL2 in5 h1 hg l1 fun x hx=>hs x (by simp[hx])) (stays BIH BQ3 h2 hg l2 fun x hx=>hs x (by simp[hx])) (stays BIH BQ3 h3 hg l3 fun x hx=>hs x (by simp[hx]))) (fun _ _=>rfl) (by simp)
  (hg.frame _) hg.2.1 (ok_one (by kernel_rfl) rfl (okWide_bool_mk Tryz.underlying4 _))⟩
theorem faSeasonDecided:(Rows.seasonDecidedRow.inPlace==bj.inPlace 11)=true:=by kernel_rfl
theorem fbSeasonDecided:(Rows.seasonDecidedRow.unfollowed==bj.unfollowed 11)=true:=by kernel_rfl
theorem fcSeasonDecided:(Rows.seasonDecidedRow.recurses==bj.recurses 11)=true:=by kernel_rfl
theorem fdSeasonDecided:(Rows.seasonDecidedRow.named==bj.varsNamed 11)=true:=by kernel_rfl
theorem overSeasonDecided:Rows.SeasonDecidedSaid :=
 OpenClaim.holds_of_wide 11 bq rfl rfl rfl rfl rfl rfl rfl ⟨rfl,rfl,rfl,rfl,rfl⟩ rfl rfl rfl rfl rfl (by kernel_rfl) Tryz.func11 (by show joinedFacts bj 11 bq Rows.seasonDecidedSpec Rows.seasonDecidedRow=true;unfold joinedFacts;rw[BIL,BII,xZ,BIJ,BIK,faSeasonDecided,fbSeasonDecided,fcSeasonDecided,fdSeasonDecided];kernel_rfl)
  (of_decide_eq_true (by kernel_rfl)) (by unfold Func.isWrapper;first|(rw[if_pos (by decide +kernel)];kernel_rfl)|(rw[if_neg (by decide +kernel)];exact⟨rfl,rfl⟩))
  (fun os started H enc _=>liftedSeasonDecided os started H enc)
end Go.Proofs.Tryz.Op
namespace Go.Proofs.YtmnlpgjklibndaaGreat
theorem seasonDecided_holds:Rows.SeasonDecidedSaid:=Go.Proofs.Tryz.Op.overSeasonDecided
end Go.Proofs.YtmnlpgjklibndaaGreat
