/- 'SeatMore': whatever the input, true; the input reads as it did. No condition. (printed by row2.py) -/
import Derived.Test.YthhdhbalenanjaaGreatYc
import Derived.Test.YthhdhbalenanjaaGreatZ2
open Go.Proofs.Tryz renaming prog->bj,f12->bk,checked->bq
namespace Go.Proofs.Tryz.Op
open Go Go.Pg Go.ChangeShapes Go.WideShapes Go.ChangeAt Go.RowKit Go.Wind
open Go.Proofs.YthhdhbalenanjaaGreat
set_option maxRecDepth 100000 in
theorem eZ(os:Os)(started:os.Started)(H:Type)(enc:TypeId×Value->H) :
  ReturnsInHanded {} bq os 12 .any (Rows.seatMoreSpec.pre6 enc bj bk Rows.seatMoreRow.domain false) (Rows.seatMoreSpec.post enc bj bk false true false false):=by
 refine returnsInHanded_of_change_sized (C:=bq) BMG started (by kernel_rfl) Tryz.func12
  (ChangeSpec.witness6 (enc:=enc) (C:=bq) false ⟨#[],#[.agg #[.int .i64 0,.int .i64 0,.int .i64 0,.int .i64 0,.slice none 0 0,.slice none 0 0,.slice none 0 0,.slice none 0 0,.slice none 0 0,.slice none 0 0,.slice none 0 0,.slice none 0 0],.agg #[.int .i64 0,.int .i64 0,.bool false,.bool false]],[]⟩ 8 (by kernel_rfl) (by kernel_rfl) (by kernel_rfl) (by kernel_rfl)) ?_
 intro W base args ds gs before hval hW _ hz _
 have hW':=hW
 obtain⟨p,q,hA0,hV,rfl,hfz,hnd⟩:=hW
 have hA:DataW.TrodAll enc bj W 0 (fun _=>true) true bk.params.toList args.toList ds p:=hA0
 rw[Tryz.params12]at hA
 obtain⟨v0,v1,d0,d1,p0,p1,rfl,rfl,rfl,h0,h1⟩:=trodAll_two hA
 obtain⟨rfl,rfl⟩:=trodVars_none hV
 clear hA0
 simp only[List.append_nil]at hW' hz
 obtain⟨c,hc,hz0,r0⟩:=AEB (hval 0 31 v0 rfl rfl) h0 (B:=reachBytes) fun w hw=>by simpa using List.all_eq_true.1 hz w (DataW.weights_mem_each (j:=0) (t:=31) (d:=d0) rfl rfl w hw)
 obtain⟨f,hf,r1⟩:=wR (hval 1 57 v1 rfl rfl) h1
 refine(AEC (AEF 0 c hc hz0 f hf) (RepA.cons r0 (RepA.cons r1 ⟨rfl,fun i h1=>by simp at h1⟩))).mono fun e W' ⟨he,hg⟩=>?_
 subst he
 have l0:∀x∈p0,x.block<W.heap.size:=fun x hx=>hW'.lt x (by simp[hx])
 have l1:∀x∈p1,x.block<W.heap.size:=fun x hx=>hW'.lt x (by simp[hx])
 exact⟨_,rfl,post_of_same (pa:=p0++p1) (pv:=[]) hW' (fun _ _ _=>(trodAll_cons_mk (shut_bool Tryz.underlying4 _) trodAll_mk0))
  (fun sp hs=>trodAll_mk2 (stays AZU BMC h0 hg l0 fun x hx=>hs x (by simp[hx])) (stays AZV BMD h1 hg l1 fun x hx=>hs x (by simp[hx]))) (fun _ _=>rfl) (by simp)
  (hg.frame _) hg.2.1 (ok_one (by kernel_rfl) rfl (okWide_bool_mk Tryz.underlying4 _))⟩
theorem wT:(Rows.seatMoreRow.inPlace==bj.inPlace 12)=true:=by kernel_rfl
theorem wU:(Rows.seatMoreRow.unfollowed==bj.unfollowed 12)=true:=by kernel_rfl
theorem wV:(Rows.seatMoreRow.recurses==bj.recurses 12)=true:=by kernel_rfl
theorem wW:(Rows.seatMoreRow.named==bj.varsNamed 12)=true:=by kernel_rfl
theorem overSeatMore:Rows.SeatMoreSaid :=
 OpenClaim.holds_of_wide 12 bk rfl rfl rfl rfl rfl rfl rfl ⟨rfl,rfl,rfl,rfl,rfl⟩ rfl rfl rfl rfl rfl (by kernel_rfl) Tryz.func12 (by show joinedFacts bj 12 bk Rows.seatMoreSpec Rows.seatMoreRow=true;unfold joinedFacts;rw[BMB,BL8,AA3,BL9,BMA,wT,wU,wV,wW];kernel_rfl)
  (of_decide_eq_true (by kernel_rfl)) (by unfold Func.isWrapper;first|(rw[if_pos (by decide +kernel)];kernel_rfl)|(rw[if_neg (by decide +kernel)];exact⟨rfl,rfl⟩))
  (fun os started H enc _=>eZ os started H enc)
end Go.Proofs.Tryz.Op
namespace Go.Proofs.YthhdhbalenanjaaGreat
theorem seatMore_holds:Rows.SeatMoreSaid:=Go.Proofs.Tryz.Op.overSeatMore
end Go.Proofs.YthhdhbalenanjaaGreat
