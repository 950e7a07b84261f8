/- 'SeasonWord': whatever the input, true; the input reads as it did. No condition. (printed by row3.py) -/
import Derived.Test.YtmnlpgjklibndaaGreatJ1
open Go.Proofs.Tryz renaming prog->bj,f9->bq,checked->bw
namespace Go.Proofs.Tryz.Op
open Go Go.Pg Go.ChangeShapes Go.WideShapes Go.ChangeAt Go.RowKit
open Go.Proofs.YtmnlpgjklibndaaGreat
set_option maxRecDepth 100000 in
theorem liftedSeasonWord(os:Os)(started:os.Started)(H:Type)(enc:TypeId×Value->H) :
  ReturnsInHanded {} bw os 9 .any (Rows.seasonWordSpec.pre6 enc bj bq Rows.seasonWordRow.domain false) (Rows.seasonWordSpec.post enc bj bq false true false false):=by
 refine returnsInHanded_of_change_sized (C:=bw) BEN started (by kernel_rfl) Tryz.func9
  (ChangeSpec.witness6 (enc:=enc) (C:=bw) false ⟨#[],#[.agg #[.int .i64 0,.int .i64 0,.int .i64 0,.slice none 0 0,.slice none 0 0,.slice none 0 0,.int .i64 0,.slice none 0 0],.int .u8 0,.agg #[.int .i64 0,.bool false,.int .i64 0,.bool false]],[]⟩ 8 (by kernel_rfl) (by kernel_rfl) (by kernel_rfl) (by kernel_rfl)) ?_
 intro W base args ds gs before hval hW _ hz _
 have hW':=hW
 obtain⟨p,q,hA0,hV,rfl,hfz,hnd⟩:=hW
 have hA:DataW.TrodAll enc bj W 0 (fun _=>true) true bq.params.toList args.toList ds p:=hA0
 rw[Tryz.params9]at hA
 obtain⟨v0,v1,v2,d0,d1,d2,p0,p1,p2,rfl,rfl,rfl,h0,h1,h2⟩:=trodAll_three hA
 obtain⟨rfl,rfl⟩:=trodVars_none hV
 clear hA0
 simp only[List.append_nil]at hW' hz
 obtain⟨c,hc,hz0,r0⟩:=AYT (hval 0 29 v0 rfl rfl) h0 (B:=reachBytes) fun w hw=>by simpa using List.all_eq_true.1 hz w (DataW.weights_mem_each (j:=0) (t:=29) (d:=d0) rfl rfl w hw)
 obtain⟨w,hw,r1⟩:=AFT (hval 1 5 v1 rfl rfl) h1
 obtain⟨w1,hw1,r2⟩:=A6S (hval 2 54 v2 rfl rfl) h2
 refine(zW ((AP rfl).symm.trans (ALL 0 c hz0 w hw w1)) (RepA.cons r0 (RepA.cons r1 (RepA.cons r2 ⟨rfl,fun i h1=>by simp at h1⟩)))).mono fun e W' ⟨he,hg⟩=>?_
 subst he
 have l0:∀x∈p0,x.block<W.heap.size:=fun x hx=>hW'.lt x (by simp[hx])
 have l1:∀x∈p1,x.block<W.heap.size:=fun x hx=>hW'.lt x (by simp[hx])
 have l2:∀x∈p2,x.block<W.heap.size:=fun x hx=>hW'.lt x (by simp[hx])
 exact⟨_,rfl,post_of_same (pa:=p0++(p1++(p2))) (pv:=[]) hW' (fun _ _ _=>(trodAll_cons_mk (shut_bool Tryz.underlying4 _) trodAll_mk0))
  (fun sp hs=>trodAll_mk3 (stays ATM BES h0 hg l0 fun x hx=>hs x (by simp[hx])) (stays ANG in5 h1 hg l1 fun x hx=>hs x (by simp[hx])) (stays BEU BLX h2 hg l2 fun x hx=>hs x (by simp[hx]))) (fun _ _=>rfl) (by simp)
  (hg.frame _) hg.2.1 (ok_one (by kernel_rfl) rfl (okWide_bool_mk Tryz.underlying4 _))⟩
theorem faSeasonWord:(Rows.seasonWordRow.inPlace==bj.inPlace 9)=true:=by kernel_rfl
theorem fbSeasonWord:(Rows.seasonWordRow.unfollowed==bj.unfollowed 9)=true:=by kernel_rfl
theorem fcSeasonWord:(Rows.seasonWordRow.recurses==bj.recurses 9)=true:=by kernel_rfl
theorem fdSeasonWord:(Rows.seasonWordRow.named==bj.varsNamed 9)=true:=by kernel_rfl
theorem overSeasonWord:Rows.SeasonWordSaid :=
 OpenClaim.holds_of_wide 9 bq rfl rfl rfl rfl rfl rfl rfl ⟨rfl,rfl,rfl,rfl,rfl⟩ rfl rfl rfl rfl rfl (by kernel_rfl) Tryz.func9 (by show joinedFacts bj 9 bq Rows.seasonWordSpec Rows.seasonWordRow=true;unfold joinedFacts;rw[BER,BEO,vP,BEP,BEQ,faSeasonWord,fbSeasonWord,fcSeasonWord,fdSeasonWord];kernel_rfl)
  (of_decide_eq_true (by kernel_rfl)) (by unfold Func.isWrapper;first|(rw[if_pos (by decide +kernel)];kernel_rfl)|(rw[if_neg (by decide +kernel)];exact⟨rfl,rfl⟩))
  (fun os started H enc _=>liftedSeasonWord os started H enc)
end Go.Proofs.Tryz.Op
namespace Go.Proofs.YtmnlpgjklibndaaGreat
theorem seasonWord_holds:Rows.SeasonWordSaid:=Go.Proofs.Tryz.Op.overSeasonWord
end Go.Proofs.YtmnlpgjklibndaaGreat
