/- 'SeatBounds': whatever the input, true; the input reads as it did. No condition. (printed by row2.py) -/
import Derived.Test.YthhdhbalenanjaaGreatYe
import Derived.Test.YthhdhbalenanjaaGreatYb
import Derived.Test.YthhdhbalenanjaaGreatZ1
namespace Go.Proofs.Tryz.Op
open Go Go.Pg Go.ChangeShapes Go.WideShapes Go.ChangeAt Go.RowKit Go.Wind
open Go.Proofs.YthhdhbalenanjaaGreat
set_option maxRecDepth 100000 in
theorem VX(os:Os)(started:os.Started)(H:Type)(enc:TypeId×Value→H) :
  ReturnsInHanded {} Tryz.checked os 4 .any (Rows.seatBoundsSpec.pre6 enc Tryz.prog Tryz.f4 Rows.seatBoundsRow.domain false) (Rows.seatBoundsSpec.post enc Tryz.prog Tryz.f4 false true false false):=by
 refine returnsInHanded_of_change (C:=Tryz.checked) BH9 started (by kernel_rfl) Tryz.func4
  (ChangeSpec.witness6 (enc:=enc) (C:=Tryz.checked) false ⟨#[],#[.agg #[.int .i64 0,.int .i64 0,.int .i64 0,.int .i64 0,.slice none 0 0,.slice none 0 0,.slice none 0 0,.slice none 0 0,.slice none 0 0,.slice none 0 0,.slice none 0 0,.slice none 0 0],.slice none 0 0],[]⟩ 8 (by kernel_rfl) (by kernel_rfl) (by kernel_rfl) (by kernel_rfl)) ?_
 intro W base args ds gs before hval hW _ _
 have hW':=hW
 obtain⟨p,q,hA0,hV,rfl,hfz,hnd⟩:=hW
 have hA:DataW.TrodAll enc Tryz.prog W 0 (fun _=>true) true Tryz.f4.params.toList args.toList ds p:=hA0
 rw[Tryz.params4]at hA
 obtain⟨v0,v1,d0,d1,p0,p1,rfl,rfl,rfl,h0,h1⟩:=trodAll_two hA
 obtain⟨rfl,rfl⟩:=trodVars_none hV
 clear hA0
 simp only[List.append_nil]at hW'
 obtain⟨c,hc,r0⟩:=AGJ (hval 0 31 v0 rfl rfl) h0
 obtain⟨ss,hss,r1⟩:=AAD (hval 1 24 v1 rfl rfl) h1
 refine(AAE (oE 0 c hc ss hss) (RepA.cons r0 (RepA.cons r1 ⟨rfl,fun i h1=>by simp at h1⟩))).mono fun e W' ⟨he,hg⟩=>?_
 subst he
 have l0:∀x∈p0,x.block<W.heap.size:=fun x hx=>hW'.lt x (by simp[hx])
 have l1:∀x∈p1,x.block<W.heap.size:=fun x hx=>hW'.lt x (by simp[hx])
 exact⟨_,rfl,post_of_same (pa:=p0++p1) (pv:=[]) hW' (fun _ _ _=>(trodAll_cons_mk (shut_bool Tryz.underlying4 _) trodAll_mk0))
  (fun sp hs=>trodAll_mk2 (stays AU4 BH5 h0 hg l0 fun x hx=>hs x (by simp[hx])) (stays AU5 BH6 h1 hg l1 fun x hx=>hs x (by simp[hx]))) (fun _ _=>rfl) (by simp)
  (hg.frame _) hg.2.1 (ok_one (by kernel_rfl) rfl (okWide_bool_mk Tryz.underlying4 _))⟩
theorem iL:(Rows.seatBoundsRow.inPlace==Tryz.prog.inPlace 4)=true:=by kernel_rfl
theorem iM:(Rows.seatBoundsRow.unfollowed==Tryz.prog.unfollowed 4)=true:=by kernel_rfl
theorem iN:(Rows.seatBoundsRow.recurses==Tryz.prog.recurses 4)=true:=by kernel_rfl
theorem iO:(Rows.seatBoundsRow.named==Tryz.prog.varsNamed 4)=true:=by kernel_rfl
theorem overSeatBounds:Rows.SeatBoundsSaid :=
 OpenClaim.holds_of_wide 4 Tryz.f4 rfl rfl rfl rfl rfl rfl rfl ⟨rfl,rfl,rfl,rfl,rfl⟩ rfl rfl rfl rfl rfl (by kernel_rfl) Tryz.func4 (by show joinedFacts Tryz.prog 4 Tryz.f4 Rows.seatBoundsSpec Rows.seatBoundsRow=true;unfold joinedFacts;rw[BH4,BH1,wI,BH2,BH3,iL,iM,iN,iO];kernel_rfl)
  (of_decide_eq_true (by kernel_rfl)) (by unfold Func.isWrapper;first|(rw[if_pos (by decide +kernel)];kernel_rfl)|(rw[if_neg (by decide +kernel)];exact⟨rfl,rfl⟩))
  (fun os started H enc _=>VX os started H enc)
end Go.Proofs.Tryz.Op
namespace Go.Proofs.YthhdhbalenanjaaGreat
theorem seatBounds_holds:Rows.SeatBoundsSaid:=Go.Proofs.Tryz.Op.overSeatBounds
end Go.Proofs.YthhdhbalenanjaaGreat
