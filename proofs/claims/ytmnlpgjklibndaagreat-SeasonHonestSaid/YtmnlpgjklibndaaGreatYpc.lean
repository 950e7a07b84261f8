/- 'SeasonHonest': whatever the input, true; the input reads as it did. No condition. (printed by row3.py) -/
import Derived.Test.YtmnlpgjklibndaaGreatJ1
open Go.Proofs.Tryz renaming prog->bj,f10->bq,checked->bw
namespace Go.Proofs.Tryz.Op
open Go Go.Pg Go.ChangeShapes Go.WideShapes Go.ChangeAt Go.RowKit
open Go.Proofs.YtmnlpgjklibndaaGreat
set_option maxRecDepth 100000 in
theorem Q2(os:Os)(started:os.Started)(H:Type)(enc:TypeId×Value->H) :
  ReturnsInHanded {} bw os 10 .any (Rows.seasonHonestSpec.pre6 enc bj bq Rows.seasonHonestRow.domain false) (Rows.seasonHonestSpec.post enc bj bq false true false false):=by
 refine returnsInHanded_of_change (C:=bw) BEN started (by kernel_rfl) Tryz.func10
  (ChangeSpec.witness6 (enc:=enc) (C:=bw) false ⟨#[],#[.agg #[.int .i64 0,.int .i64 0,.int .i64 0,.slice none 0 0,.slice none 0 0,.slice none 0 0,.int .i64 0,.slice none 0 0],.int .u8 0,.int .u8 0],[]⟩ 8 (by kernel_rfl) (by kernel_rfl) (by kernel_rfl) (by kernel_rfl)) ?_
 intro W base args ds gs before hval hW _ _
 have hW':=hW
 obtain⟨p,q,hA0,hV,rfl,hfz,hnd⟩:=hW
 have hA:DataW.TrodAll enc bj W 0 (fun _=>true) true bq.params.toList args.toList ds p:=hA0
 rw[Tryz.params10]at hA
 obtain⟨v0,v1,v2,d0,d1,d2,p0,p1,p2,rfl,rfl,rfl,h0,h1,h2⟩:=trodAll_three hA
 obtain⟨rfl,rfl⟩:=trodVars_none hV
 clear hA0
 simp only[List.append_nil]at hW'
 obtain⟨c,hc,r0⟩:=nR (hval 0 29 v0 rfl rfl) h0
 obtain⟨w,hw,r1⟩:=AFT (hval 1 5 v1 rfl rfl) h1
 obtain⟨w1,hw1,r2⟩:=AFT (hval 2 5 v2 rfl rfl) h2
 refine(zW ((AP rfl).symm.trans (aC 0 c w hw w1 hw1)) (RepA.cons r0 (RepA.cons r1 (RepA.cons r2 ⟨rfl,fun i h1=>by simp at h1⟩)))).mono fun e W' ⟨he,hg⟩=>?_
 subst he
 have l0:∀x∈p0,x.block<W.heap.size:=fun x hx=>hW'.lt x (by simp[hx])
 have l1:∀x∈p1,x.block<W.heap.size:=fun x hx=>hW'.lt x (by simp[hx])
 have l2:∀x∈p2,x.block<W.heap.size:=fun x hx=>hW'.lt x (by simp[hx])
 exact⟨_,rfl,post_of_same (pa:=p0++(p1++(p2))) (pv:=[]) hW' (fun _ _ _=>(trodAll_cons_mk (shut_bool Tryz.underlying4 _) trodAll_mk0))
  (fun sp hs=>trodAll_mk3 (stays ATM BES h0 hg l0 fun x hx=>hs x (by simp[hx])) (stays ANG in5 h1 hg l1 fun x hx=>hs x (by simp[hx])) (stays ANG in5 h2 hg l2 fun x hx=>hs x (by simp[hx]))) (fun _ _=>rfl) (by simp)
  (hg.frame _) hg.2.1 (ok_one (by kernel_rfl) rfl (okWide_bool_mk Tryz.underlying4 _))⟩
theorem ZT:(Rows.seasonHonestRow.inPlace==bj.inPlace 10)=true:=by kernel_rfl
theorem ZU:(Rows.seasonHonestRow.unfollowed==bj.unfollowed 10)=true:=by kernel_rfl
theorem ZV:(Rows.seasonHonestRow.recurses==bj.recurses 10)=true:=by kernel_rfl
theorem ZW:(Rows.seasonHonestRow.named==bj.varsNamed 10)=true:=by kernel_rfl
theorem overSeasonHonest:Rows.SeasonHonestSaid :=
 OpenClaim.holds_of_wide 10 bq rfl rfl rfl rfl rfl rfl rfl ⟨rfl,rfl,rfl,rfl,rfl⟩ rfl rfl rfl rfl rfl (by kernel_rfl) Tryz.func10 (by show joinedFacts bj 10 bq Rows.seasonHonestSpec Rows.seasonHonestRow=true;unfold joinedFacts;rw[BER,BEO,vP,BEP,BEQ,ZT,ZU,ZV,ZW];kernel_rfl)
  (of_decide_eq_true (by kernel_rfl)) (by unfold Func.isWrapper;first|(rw[if_pos (by decide +kernel)];kernel_rfl)|(rw[if_neg (by decide +kernel)];exact⟨rfl,rfl⟩))
  (fun os started H enc _=>Q2 os started H enc)
end Go.Proofs.Tryz.Op
namespace Go.Proofs.YtmnlpgjklibndaaGreat
theorem seasonHonest_holds:Rows.SeasonHonestSaid:=Go.Proofs.Tryz.Op.overSeasonHonest
end Go.Proofs.YtmnlpgjklibndaaGreat
