/- 'SeatNoBetter': whatever the input, true; the input reads as it did. No condition. (printed by row2.py) -/
import Derived.Test.YthhdhbalenanjaaGreatYe
import Derived.Test.YthhdhbalenanjaaGreatYb
import Derived.Test.YthhdhbalenanjaaGreatZe
namespace Go.Proofs.Tryz.Op
open Go Go.Pg Go.ChangeShapes Go.WideShapes Go.ChangeAt Go.RowKit Go.Wind
open Go.Proofs.YthhdhbalenanjaaGreat
set_option maxRecDepth 100000 in
theorem TO(os:Os)(started:os.Started)(H:Type)(enc:TypeId×Value→H) :
  ReturnsInHanded {} Tryz.checked os 11 .any (Rows.seatNoBetterSpec.pre6 enc Tryz.prog Tryz.f11 Rows.seatNoBetterRow.domain false) (Rows.seatNoBetterSpec.post enc Tryz.prog Tryz.f11 false true false false):=by
 refine returnsInHanded_of_change (C:=Tryz.checked) BPR started (by kernel_rfl) Tryz.func11
  (ChangeSpec.witness6 (enc:=enc) (C:=Tryz.checked) false ⟨#[],#[.agg #[.int .i64 0,.int .i64 0,.int .i64 0,.int .i64 0,.slice none 0 0,.slice none 0 0,.slice none 0 0,.slice none 0 0,.slice none 0 0,.slice none 0 0,.slice none 0 0,.slice none 0 0],.slice none 0 0],[]⟩ 8 (by kernel_rfl) (by kernel_rfl) (by kernel_rfl) (by kernel_rfl)) ?_
 intro W base args ds gs before hval hW _ _
 have hW':=hW
 obtain⟨p,q,hA0,hV,rfl,hfz,hnd⟩:=hW
 have hA:DataW.TrodAll enc Tryz.prog W 0 (fun _=>true) true Tryz.f11.params.toList args.toList ds p:=hA0
 rw[Tryz.params11]at hA
 obtain⟨v0,v1,d0,d1,p0,p1,rfl,rfl,rfl,h0,h1⟩:=trodAll_two hA
 obtain⟨rfl,rfl⟩:=trodVars_none hV
 clear hA0
 simp only[List.append_nil]at hW'
 obtain⟨c,hc,r0⟩:=ALY (hval 0 31 v0 rfl rfl) h0
 obtain⟨ws,hws,r1⟩:=AFD (hval 1 101 v1 rfl rfl) h1
 refine(AFC (iC 0 c hc ws hws) (RepA.cons r0 (RepA.cons r1 ⟨rfl,fun i h1=>by simp at h1⟩))).mono fun e W' ⟨he,hg⟩=>?_
 subst he
 have l0:∀x∈p0,x.block<W.heap.size:=fun x hx=>hW'.lt x (by simp[hx])
 have l1:∀x∈p1,x.block<W.heap.size:=fun x hx=>hW'.lt x (by simp[hx])
 exact⟨_,rfl,post_of_same (pa:=p0++p1) (pv:=[]) hW' (fun _ _ _=>(trodAll_cons_mk (shut_bool Tryz.underlying4 _) trodAll_mk0))
  (fun sp hs=>trodAll_mk2 (stays A1R BPO h0 hg l0 fun x hx=>hs x (by simp[hx])) (stays ARC BGL h1 hg l1 fun x hx=>hs x (by simp[hx]))) (fun _ _=>rfl) (by simp)
  (hg.frame _) hg.2.1 (ok_one (by kernel_rfl) rfl (okWide_bool_mk Tryz.underlying4 _))⟩
theorem fQ:(Rows.seatNoBetterRow.inPlace==Tryz.prog.inPlace 11)=true:=by kernel_rfl
theorem fR:(Rows.seatNoBetterRow.unfollowed==Tryz.prog.unfollowed 11)=true:=by kernel_rfl
theorem fS:(Rows.seatNoBetterRow.recurses==Tryz.prog.recurses 11)=true:=by kernel_rfl
theorem fT:(Rows.seatNoBetterRow.named==Tryz.prog.varsNamed 11)=true:=by kernel_rfl
theorem overSeatNoBetter:Rows.SeatNoBetterSaid :=
 OpenClaim.holds_of_wide 11 Tryz.f11 rfl rfl rfl rfl rfl rfl rfl ⟨rfl,rfl,rfl,rfl,rfl⟩ rfl rfl rfl rfl rfl (by kernel_rfl) Tryz.func11 (by show joinedFacts Tryz.prog 11 Tryz.f11 Rows.seatNoBetterSpec Rows.seatNoBetterRow=true;unfold joinedFacts;rw[BPN,BPK,ACA,BPL,BPM,fQ,fR,fS,fT];kernel_rfl)
  (of_decide_eq_true (by kernel_rfl)) (by unfold Func.isWrapper;first|(rw[if_pos (by decide +kernel)];kernel_rfl)|(rw[if_neg (by decide +kernel)];exact⟨rfl,rfl⟩))
  (fun os started H enc _=>TO os started H enc)
end Go.Proofs.Tryz.Op
namespace Go.Proofs.YthhdhbalenanjaaGreat
theorem seatNoBetter_holds:Rows.SeatNoBetterSaid:=Go.Proofs.Tryz.Op.overSeatNoBetter
end Go.Proofs.YthhdhbalenanjaaGreat
