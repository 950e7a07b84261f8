/- 'SeasonLiars': whatever the input, true; the input reads as it did. No condition. (printed by row3.py) -/
import Derived.Test.YtmnlpgjklibndaaGreatYe
import Derived.Test.YtmnlpgjklibndaaGreatJb
open Go.Proofs.Tryz renaming prog->bj,f7->bq,checked->bw
namespace Go.Proofs.Tryz.Op
open Go Go.Pg Go.ChangeShapes Go.WideShapes Go.ChangeAt Go.RowKit
open Go.Proofs.YtmnlpgjklibndaaGreat
set_option maxRecDepth 100000 in
theorem R6(os:Os)(started:os.Started)(H:Type)(enc:TypeId×Value->H) :
  ReturnsInHanded {} bw os 7 .any (Rows.seasonLiarsSpec.pre6 enc bj bq Rows.seasonLiarsRow.domain false) (Rows.seasonLiarsSpec.post enc bj bq false true false false):=by
 refine returnsInHanded_of_change (C:=bw) BCU started (by kernel_rfl) Tryz.func7
  (ChangeSpec.witness6 (enc:=enc) (C:=bw) false ⟨#[],#[.agg #[.int .i64 0,.int .i64 0,.int .i64 0,.slice none 0 0,.slice none 0 0,.slice none 0 0,.int .i64 0,.slice none 0 0],.int .u8 0],[]⟩ 8 (by kernel_rfl) (by kernel_rfl) (by kernel_rfl) (by kernel_rfl)) ?_
 intro W base args ds gs before hval hW _ _
 have hW':=hW
 obtain⟨p,q,hA0,hV,rfl,hfz,hnd⟩:=hW
 have hA:DataW.TrodAll enc bj W 0 (fun _=>true) true bq.params.toList args.toList ds p:=hA0
 rw[Tryz.params7]at hA
 obtain⟨v0,v1,d0,d1,p0,p1,rfl,rfl,rfl,h0,h1⟩:=trodAll_two hA
 obtain⟨rfl,rfl⟩:=trodVars_none hV
 clear hA0
 simp only[List.append_nil]at hW'
 obtain⟨c,hc,r0⟩:=AED (hval 0 29 v0 rfl rfl) h0
 obtain⟨w,hw,r1⟩:=ARZ (hval 1 5 v1 rfl rfl) h1
 refine(xP ((AQ rfl).symm.trans (dB 0 c w hw)) (RepA.cons r0 (RepA.cons r1 ⟨rfl,fun i h1=>by simp at h1⟩))).mono fun e W' ⟨he,hg⟩=>?_
 subst he
 have l0:∀x∈p0,x.block<W.heap.size:=fun x hx=>hW'.lt x (by simp[hx])
 have l1:∀x∈p1,x.block<W.heap.size:=fun x hx=>hW'.lt x (by simp[hx])
 exact⟨_,rfl,post_of_same (pa:=p0++p1) (pv:=[]) hW' (fun _ _ _=>(trodAll_cons_mk (shut_bool Tryz.underlying4 _) trodAll_mk0))
  (fun sp hs=>trodAll_mk2 (stays AR0 BCZ h0 hg l0 fun x hx=>hs x (by simp[hx])) (stays A40 in5 h1 hg l1 fun x hx=>hs x (by simp[hx]))) (fun _ _=>rfl) (by simp)
  (hg.frame _) hg.2.1 (ok_one (by kernel_rfl) rfl (okWide_bool_mk Tryz.underlying4 _))⟩
theorem ZZ:(Rows.seasonLiarsRow.inPlace==bj.inPlace 7)=true:=by kernel_rfl
theorem Z0:(Rows.seasonLiarsRow.unfollowed==bj.unfollowed 7)=true:=by kernel_rfl
theorem Z1:(Rows.seasonLiarsRow.recurses==bj.recurses 7)=true:=by kernel_rfl
theorem Z2:(Rows.seasonLiarsRow.named==bj.varsNamed 7)=true:=by kernel_rfl
theorem overSeasonLiars:Rows.SeasonLiarsSaid :=
 OpenClaim.holds_of_wide 7 bq rfl rfl rfl rfl rfl rfl rfl ⟨rfl,rfl,rfl,rfl,rfl⟩ rfl rfl rfl rfl rfl (by kernel_rfl) Tryz.func7 (by show joinedFacts bj 7 bq Rows.seasonLiarsSpec Rows.seasonLiarsRow=true;unfold joinedFacts;rw[BCY,BCV,tP,BCW,BCX,ZZ,Z0,Z1,Z2];kernel_rfl)
  (of_decide_eq_true (by kernel_rfl)) (by unfold Func.isWrapper;first|(rw[if_pos (by decide +kernel)];kernel_rfl)|(rw[if_neg (by decide +kernel)];exact⟨rfl,rfl⟩))
  (fun os started H enc _=>R6 os started H enc)
end Go.Proofs.Tryz.Op
namespace Go.Proofs.YtmnlpgjklibndaaGreat
theorem seasonLiars_holds:Rows.SeasonLiarsSaid:=Go.Proofs.Tryz.Op.overSeasonLiars
end Go.Proofs.YtmnlpgjklibndaaGreat
