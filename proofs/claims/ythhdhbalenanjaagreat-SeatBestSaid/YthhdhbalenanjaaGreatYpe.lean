/- 'SeatBest': whatever the input, true; the input reads as it did. No condition. (printed by row2.py) -/
import Derived.Test.YthhdhbalenanjaaGreatYb
import Derived.Test.YthhdhbalenanjaaGreatZf
open Go.Proofs.Tryz renaming prog->bj,f5->bk,checked->bq
namespace Go.Proofs.Tryz.Op
open Go Go.Pg Go.ChangeShapes Go.WideShapes Go.ChangeAt Go.RowKit Go.Wind
open Go.Proofs.YthhdhbalenanjaaGreat
set_option maxRecDepth 100000 in
theorem eJ(os:Os)(started:os.Started)(H:Type)(enc:TypeId×Value->H) :
  ReturnsInHanded {} bq os 5 .any (Rows.seatBestSpec.pre6 enc bj bk Rows.seatBestRow.domain false) (Rows.seatBestSpec.post enc bj bk false true false false):=by
 refine returnsInHanded_of_change (C:=bq) BI6 started (by kernel_rfl) Tryz.func5
  (ChangeSpec.witness6 (enc:=enc) (C:=bq) false ⟨#[],#[.agg #[.int .i64 0,.int .i64 0,.int .i64 0,.int .i64 0,.slice none 0 0,.slice none 0 0,.slice none 0 0,.slice none 0 0,.slice none 0 0,.slice none 0 0,.slice none 0 0,.slice none 0 0],.slice none 0 0,.int .i64 0,.int .i64 0],[]⟩ 8 (by kernel_rfl) (by kernel_rfl) (by kernel_rfl) (by kernel_rfl)) ?_
 intro W base args ds gs before hval hW _ _
 have hW':=hW
 obtain⟨p,q,hA0,hV,rfl,hfz,hnd⟩:=hW
 have hA:DataW.TrodAll enc bj W 0 (fun _=>true) true bk.params.toList args.toList ds p:=hA0
 rw[Tryz.params5]at hA
 obtain⟨v0,v1,v2,v3,d0,d1,d2,d3,p0,p1,p2,p3,rfl,rfl,rfl,h0,h1,h2,h3⟩:=trodAll_four hA
 obtain⟨rfl,rfl⟩:=trodVars_none hV
 clear hA0
 simp only[List.append_nil]at hW'
 obtain⟨c,hc,r0⟩:=AKD (hval 0 31 v0 rfl rfl) h0
 obtain⟨ss,hss,r1⟩:=ADQ (hval 1 24 v1 rfl rfl) h1
 obtain⟨k,hk,r2⟩:=AAQ (hval 2 3 v2 rfl rfl) h2
 obtain⟨k1,hk1,r3⟩:=AAQ (hval 3 3 v3 rfl rfl) h3
 refine(ADR (ADT 0 c hc ss hss k hk k1 hk1) (RepA.cons r0 (RepA.cons r1 (RepA.cons r2 (RepA.cons r3 ⟨rfl,fun i h1=>by simp at h1⟩))))).mono fun e W' ⟨he,hg⟩=>?_
 subst he
 have l0:∀x∈p0,x.block<W.heap.size:=fun x hx=>hW'.lt x (by simp[hx])
 have l1:∀x∈p1,x.block<W.heap.size:=fun x hx=>hW'.lt x (by simp[hx])
 have l2:∀x∈p2,x.block<W.heap.size:=fun x hx=>hW'.lt x (by simp[hx])
 have l3:∀x∈p3,x.block<W.heap.size:=fun x hx=>hW'.lt x (by simp[hx])
 exact⟨_,rfl,post_of_same (pa:=p0++(p1++(p2++(p3)))) (pv:=[]) hW' (fun _ _ _=>(trodAll_cons_mk (shut_bool Tryz.underlying4 _) trodAll_mk0))
  (fun sp hs=>trodAll_mk4 (stays AYF BI2 h0 hg l0 fun x hx=>hs x (by simp[hx])) (stays AYG BI3 h1 hg l1 fun x hx=>hs x (by simp[hx])) (stays ASM in3 h2 hg l2 fun x hx=>hs x (by simp[hx])) (stays ASM in3 h3 hg l3 fun x hx=>hs x (by simp[hx]))) (fun _ _=>rfl) (by simp)
  (hg.frame _) hg.2.1 (ok_one (by kernel_rfl) rfl (okWide_bool_mk Tryz.underlying4 _))⟩
theorem wC:(Rows.seatBestRow.inPlace==bj.inPlace 5)=true:=by kernel_rfl
theorem wD:(Rows.seatBestRow.unfollowed==bj.unfollowed 5)=true:=by kernel_rfl
theorem wE:(Rows.seatBestRow.recurses==bj.recurses 5)=true:=by kernel_rfl
theorem wF:(Rows.seatBestRow.named==bj.varsNamed 5)=true:=by kernel_rfl
theorem overSeatBest:Rows.SeatBestSaid :=
 OpenClaim.holds_of_wide 5 bk rfl rfl rfl rfl rfl rfl rfl ⟨rfl,rfl,rfl,rfl,rfl⟩ rfl rfl rfl rfl rfl (by kernel_rfl) Tryz.func5 (by show joinedFacts bj 5 bk Rows.seatBestSpec Rows.seatBestRow=true;unfold joinedFacts;rw[BI1,BIY,AAP,BIZ,BI0,wC,wD,wE,wF];kernel_rfl)
  (of_decide_eq_true (by kernel_rfl)) (by unfold Func.isWrapper;first|(rw[if_pos (by decide +kernel)];kernel_rfl)|(rw[if_neg (by decide +kernel)];exact⟨rfl,rfl⟩))
  (fun os started H enc _=>eJ os started H enc)
end Go.Proofs.Tryz.Op
namespace Go.Proofs.YthhdhbalenanjaaGreat
theorem seatBest_holds:Rows.SeatBestSaid:=Go.Proofs.Tryz.Op.overSeatBest
end Go.Proofs.YthhdhbalenanjaaGreat
