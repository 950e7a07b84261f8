/- 'SeatNoBetter': whatever the input, true; the input reads as it did. No condition. (printed by row2.py) -/
import Derived.Test.YthhdhbalenanjaaGreatYb
import Derived.Test.YthhdhbalenanjaaGreatZe
open Go.Proofs.Tryz renaming prog->bj,f11->bk,checked->bq
namespace Go.Proofs.Tryz.Op
open Go Go.Pg Go.ChangeShapes Go.WideShapes Go.ChangeAt Go.RowKit Go.Wind
open Go.Proofs.YthhdhbalenanjaaGreat
set_option maxRecDepth 100000 in
theorem SW(os:Os)(started:os.Started)(H:Type)(enc:TypeId×Value->H) :
  ReturnsInHanded {} bq os 11 .any (Rows.seatNoBetterSpec.pre6 enc bj bk Rows.seatNoBetterRow.domain false) (Rows.seatNoBetterSpec.post enc bj bk false true false false):=by
 refine returnsInHanded_of_change (C:=bq) BLX started (by kernel_rfl) Tryz.func11
  (ChangeSpec.witness6 (enc:=enc) (C:=bq) false ⟨#[],#[.agg #[.int .i64 0,.int .i64 0,.int .i64 0,.int .i64 0,.slice none 0 0,.slice none 0 0,.slice none 0 0,.slice none 0 0,.slice none 0 0,.slice none 0 0,.slice none 0 0,.slice none 0 0],.slice none 0 0],[]⟩ 8 (by kernel_rfl) (by kernel_rfl) (by kernel_rfl) (by kernel_rfl)) ?_
 intro W base args ds gs before hval hW _ _
 have hW':=hW
 obtain⟨p,q,hA0,hV,rfl,hfz,hnd⟩:=hW
 have hA:DataW.TrodAll enc bj W 0 (fun _=>true) true bk.params.toList args.toList ds p:=hA0
 rw[Tryz.params11]at hA
 obtain⟨v0,v1,d0,d1,p0,p1,rfl,rfl,rfl,h0,h1⟩:=trodAll_two hA
 obtain⟨rfl,rfl⟩:=trodVars_none hV
 clear hA0
 simp only[List.append_nil]at hW'
 obtain⟨c,hc,r0⟩:=AJ6 (hval 0 31 v0 rfl rfl) h0
 obtain⟨ws,hws,r1⟩:=ADP (hval 1 101 v1 rfl rfl) h1
 refine(ADO (fU 0 c hc ws hws) (RepA.cons r0 (RepA.cons r1 ⟨rfl,fun i h1=>by simp at h1⟩))).mono fun e W' ⟨he,hg⟩=>?_
 subst he
 have l0:∀x∈p0,x.block<W.heap.size:=fun x hx=>hW'.lt x (by simp[hx])
 have l1:∀x∈p1,x.block<W.heap.size:=fun x hx=>hW'.lt x (by simp[hx])
 exact⟨_,rfl,post_of_same (pa:=p0++p1) (pv:=[]) hW' (fun _ _ _=>(trodAll_cons_mk (shut_bool Tryz.underlying4 _) trodAll_mk0))
  (fun sp hs=>trodAll_mk2 (stays AZA BLU h0 hg l0 fun x hx=>hs x (by simp[hx])) (stays APC BDO h1 hg l1 fun x hx=>hs x (by simp[hx]))) (fun _ _=>rfl) (by simp)
  (hg.frame _) hg.2.1 (ok_one (by kernel_rfl) rfl (okWide_bool_mk Tryz.underlying4 _))⟩
theorem eG:(Rows.seatNoBetterRow.inPlace==bj.inPlace 11)=true:=by kernel_rfl
theorem eH:(Rows.seatNoBetterRow.unfollowed==bj.unfollowed 11)=true:=by kernel_rfl
theorem eI:(Rows.seatNoBetterRow.recurses==bj.recurses 11)=true:=by kernel_rfl
theorem eJ:(Rows.seatNoBetterRow.named==bj.varsNamed 11)=true:=by kernel_rfl
theorem overSeatNoBetter:Rows.SeatNoBetterSaid :=
 OpenClaim.holds_of_wide 11 bk rfl rfl rfl rfl rfl rfl rfl ⟨rfl,rfl,rfl,rfl,rfl⟩ rfl rfl rfl rfl rfl (by kernel_rfl) Tryz.func11 (by show joinedFacts bj 11 bk Rows.seatNoBetterSpec Rows.seatNoBetterRow=true;unfold joinedFacts;rw[BLT,BLQ,AAN,BLR,BLS,eG,eH,eI,eJ];kernel_rfl)
  (of_decide_eq_true (by kernel_rfl)) (by unfold Func.isWrapper;first|(rw[if_pos (by decide +kernel)];kernel_rfl)|(rw[if_neg (by decide +kernel)];exact⟨rfl,rfl⟩))
  (fun os started H enc _=>SW os started H enc)
end Go.Proofs.Tryz.Op
namespace Go.Proofs.YthhdhbalenanjaaGreat
theorem seatNoBetter_holds:Rows.SeatNoBetterSaid:=Go.Proofs.Tryz.Op.overSeatNoBetter
end Go.Proofs.YthhdhbalenanjaaGreat
