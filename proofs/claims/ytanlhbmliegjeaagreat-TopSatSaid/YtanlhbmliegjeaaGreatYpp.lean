/- 'TopSat': whatever the input, true; the input reads as it did. No condition. (printed by row2.py) -/
import Derived.Test.YtanlhbmliegjeaaGreatYb
import Derived.Test.YtanlhbmliegjeaaGreatZr
open Go.Proofs.Tryz renaming prog->bj,f3->bk,checked->bq
namespace Go.Proofs.Tryz.Op
open Go Go.Pg Go.ChangeShapes Go.WideShapes Go.ChangeAt Go.RowKit Go.Wind
open Go.Proofs.YtanlhbmliegjeaaGreat
set_option maxRecDepth 100000 in
theorem iR(os:Os)(started:os.Started)(H:Type)(enc:TypeId×Value->H) :
  ReturnsInHanded {} bq os 3 .any (Rows.topSatSpec.pre6 enc bj bk Rows.topSatRow.domain false) (Rows.topSatSpec.post enc bj bk false true false false):=by
 refine returnsInHanded_of_change (C:=bq) BE7 started (by kernel_rfl) Tryz.func3
  (ChangeSpec.witness6 (enc:=enc) (C:=bq) false ⟨#[],#[.agg #[.int .i64 0,.int .i64 0,.int .i64 0,.int .i64 0,.slice none 0 0,.slice none 0 0,.slice none 0 0,.slice none 0 0,.slice none 0 0,.slice none 0 0,.slice none 0 0,.slice none 0 0],.int .u16 0],[]⟩ 8 (by kernel_rfl) (by kernel_rfl) (by kernel_rfl) (by kernel_rfl)) ?_
 intro W base args ds gs before hval hW _ _
 have hW':=hW
 obtain⟨p,q,hA0,hV,rfl,hfz,hnd⟩:=hW
 have hA:DataW.TrodAll enc bj W 0 (fun _=>true) true bk.params.toList args.toList ds p:=hA0
 rw[Tryz.params3]at hA
 obtain⟨v0,v1,d0,d1,p0,p1,rfl,rfl,rfl,h0,h1⟩:=trodAll_two hA
 obtain⟨rfl,rfl⟩:=trodVars_none hV
 clear hA0
 simp only[List.append_nil]at hW'
 obtain⟨c,hc,r0⟩:=AGS (hval 0 31 v0 rfl rfl) h0
 obtain⟨w,hw,r1⟩:=AKV (hval 1 32 v1 rfl rfl) h1
 refine(AA4 (AKY 0 c hc w hw) (RepA.cons r0 (RepA.cons r1 ⟨rfl,fun i h1=>by simp at h1⟩))).mono fun e W' ⟨he,hg⟩=>?_
 subst he
 have l0:∀x∈p0,x.block<W.heap.size:=fun x hx=>hW'.lt x (by simp[hx])
 have l1:∀x∈p1,x.block<W.heap.size:=fun x hx=>hW'.lt x (by simp[hx])
 exact⟨_,rfl,post_of_same (pa:=p0++p1) (pv:=[]) hW' (fun _ _ _=>(trodAll_cons_mk (shut_bool Tryz.underlying4 _) trodAll_mk0))
  (fun sp hs=>trodAll_mk2 (stays AUO BE4 h0 hg l0 fun x hx=>hs x (by simp[hx])) (stays AUP BE8 h1 hg l1 fun x hx=>hs x (by simp[hx]))) (fun _ _=>rfl) (by simp)
  (hg.frame _) hg.2.1 (ok_one (by kernel_rfl) rfl (okWide_bool_mk Tryz.underlying4 _))⟩
theorem AGT:(Rows.topSatRow.inPlace==bj.inPlace 3)=true:=by kernel_rfl
theorem AGU:(Rows.topSatRow.unfollowed==bj.unfollowed 3)=true:=by kernel_rfl
theorem AGV:(Rows.topSatRow.recurses==bj.recurses 3)=true:=by kernel_rfl
theorem AGW:(Rows.topSatRow.named==bj.varsNamed 3)=true:=by kernel_rfl
theorem overTopSat:Rows.TopSatSaid :=
 OpenClaim.holds_of_wide 3 bk rfl rfl rfl rfl rfl rfl rfl ⟨rfl,rfl,rfl,rfl,rfl⟩ rfl rfl rfl rfl rfl (by kernel_rfl) Tryz.func3 (by show joinedFacts bj 3 bk Rows.topSatSpec Rows.topSatRow=true;unfold joinedFacts;rw[BE3,BE0,wW,BE1,BE2,AGT,AGU,AGV,AGW];kernel_rfl)
  (of_decide_eq_true (by kernel_rfl)) (by unfold Func.isWrapper;first|(rw[if_pos (by decide +kernel)];kernel_rfl)|(rw[if_neg (by decide +kernel)];exact⟨rfl,rfl⟩))
  (fun os started H enc _=>iR os started H enc)
end Go.Proofs.Tryz.Op
namespace Go.Proofs.YtanlhbmliegjeaaGreat
theorem topSat_holds:Rows.TopSatSaid:=Go.Proofs.Tryz.Op.overTopSat
end Go.Proofs.YtanlhbmliegjeaaGreat
