/- 'SeatLess': whatever the input, true; the input reads as it did. No condition. (printed by row2.py) -/
import Derived.Test.YthhdhbalenanjaaGreatYb
import Derived.Test.YthhdhbalenanjaaGreatZ2
open Go.Proofs.Tryz renaming prog->bj,f13->bk,checked->bq
namespace Go.Proofs.Tryz.Op
open Go Go.Pg Go.ChangeShapes Go.WideShapes Go.ChangeAt Go.RowKit Go.Wind
open Go.Proofs.YthhdhbalenanjaaGreat
set_option maxRecDepth 100000 in
theorem bW(os:Os)(started:os.Started)(H:Type)(enc:TypeId×Value->H) :
  ReturnsInHanded {} bq os 13 .any (Rows.seatLessSpec.pre6 enc bj bk Rows.seatLessRow.domain false) (Rows.seatLessSpec.post enc bj bk false true false false):=by
 refine returnsInHanded_of_change (C:=bq) BGE started (by kernel_rfl) Tryz.func13
  (ChangeSpec.witness6 (enc:=enc) (C:=bq) false ⟨#[],#[.agg #[.int .i64 0,.int .i64 0,.int .i64 0,.int .i64 0,.slice none 0 0,.slice none 0 0,.slice none 0 0,.slice none 0 0,.slice none 0 0,.slice none 0 0,.slice none 0 0,.slice none 0 0],.int .u8 0,.int .u8 0,.int .u8 0],[]⟩ 8 (by kernel_rfl) (by kernel_rfl) (by kernel_rfl) (by kernel_rfl)) ?_
 intro W base args ds gs before hval hW _ _
 have hW':=hW
 obtain⟨p,q,hA0,hV,rfl,hfz,hnd⟩:=hW
 have hA:DataW.TrodAll enc bj W 0 (fun _=>true) true bk.params.toList args.toList ds p:=hA0
 rw[Tryz.params13]at hA
 obtain⟨v0,v1,v2,v3,d0,d1,d2,d3,p0,p1,p2,p3,rfl,rfl,rfl,h0,h1,h2,h3⟩:=trodAll_four hA
 obtain⟨rfl,rfl⟩:=trodVars_none hV
 clear hA0
 simp only[List.append_nil]at hW'
 obtain⟨c,hc,r0⟩:=AHA (hval 0 31 v0 rfl rfl) h0
 obtain⟨w,hw,r1⟩:=sS (hval 1 5 v1 rfl rfl) h1
 obtain⟨w1,hw1,r2⟩:=sS (hval 2 5 v2 rfl rfl) h2
 obtain⟨w2,hw2,r3⟩:=sS (hval 3 5 v3 rfl rfl) h3
 refine(AAU (AA5 0 c hc w hw w1 hw1 w2 hw2) (RepA.cons r0 (RepA.cons r1 (RepA.cons r2 (RepA.cons r3 ⟨rfl,fun i h1=>by simp at h1⟩))))).mono fun e W' ⟨he,hg⟩=>?_
 subst he
 have l0:∀x∈p0,x.block<W.heap.size:=fun x hx=>hW'.lt x (by simp[hx])
 have l1:∀x∈p1,x.block<W.heap.size:=fun x hx=>hW'.lt x (by simp[hx])
 have l2:∀x∈p2,x.block<W.heap.size:=fun x hx=>hW'.lt x (by simp[hx])
 have l3:∀x∈p3,x.block<W.heap.size:=fun x hx=>hW'.lt x (by simp[hx])
 exact⟨_,rfl,post_of_same (pa:=p0++(p1++(p2++(p3)))) (pv:=[]) hW' (fun _ _ _=>(trodAll_cons_mk (shut_bool Tryz.underlying4 _) trodAll_mk0))
  (fun sp hs=>trodAll_mk4 (stays AU3 BGB h0 hg l0 fun x hx=>hs x (by simp[hx])) (stays AHB in5 h1 hg l1 fun x hx=>hs x (by simp[hx])) (stays AHB in5 h2 hg l2 fun x hx=>hs x (by simp[hx])) (stays AHB in5 h3 hg l3 fun x hx=>hs x (by simp[hx]))) (fun _ _=>rfl) (by simp)
  (hg.frame _) hg.2.1 (ok_one (by kernel_rfl) rfl (okWide_bool_mk Tryz.underlying4 _))⟩
theorem sT:(Rows.seatLessRow.inPlace==bj.inPlace 13)=true:=by kernel_rfl
theorem sU:(Rows.seatLessRow.unfollowed==bj.unfollowed 13)=true:=by kernel_rfl
theorem sV:(Rows.seatLessRow.recurses==bj.recurses 13)=true:=by kernel_rfl
theorem sW:(Rows.seatLessRow.named==bj.varsNamed 13)=true:=by kernel_rfl
theorem overSeatLess:Rows.SeatLessSaid :=
 OpenClaim.holds_of_wide 13 bk rfl rfl rfl rfl rfl rfl rfl ⟨rfl,rfl,rfl,rfl,rfl⟩ rfl rfl rfl rfl rfl (by kernel_rfl) Tryz.func13 (by show joinedFacts bj 13 bk Rows.seatLessSpec Rows.seatLessRow=true;unfold joinedFacts;rw[BGA,BF7,wR,BF8,BF9,sT,sU,sV,sW];kernel_rfl)
  (of_decide_eq_true (by kernel_rfl)) (by unfold Func.isWrapper;first|(rw[if_pos (by decide +kernel)];kernel_rfl)|(rw[if_neg (by decide +kernel)];exact⟨rfl,rfl⟩))
  (fun os started H enc _=>bW os started H enc)
end Go.Proofs.Tryz.Op
namespace Go.Proofs.YthhdhbalenanjaaGreat
theorem seatLess_holds:Rows.SeatLessSaid:=Go.Proofs.Tryz.Op.overSeatLess
end Go.Proofs.YthhdhbalenanjaaGreat
