/- 'SeatEnds': whatever the input, true; the input reads as it did. No condition. (printed by row2.py) -/
import Derived.Test.YthhdhbalenanjaaGreatYe
import Derived.Test.YthhdhbalenanjaaGreatYb
import Derived.Test.YthhdhbalenanjaaGreatZ1
namespace Go.Proofs.Tryz.Op
open Go Go.Pg Go.ChangeShapes Go.WideShapes Go.ChangeAt Go.RowKit Go.Wind
open Go.Proofs.YthhdhbalenanjaaGreat
set_option maxRecDepth 100000 in
theorem bC(os:Os)(started:os.Started)(H:Type)(enc:TypeId×Value→H) :
  ReturnsInHanded {} Tryz.checked os 10 .any (Rows.seatEndsSpec.pre6 enc Tryz.prog Tryz.f10 Rows.seatEndsRow.domain false) (Rows.seatEndsSpec.post enc Tryz.prog Tryz.f10 false true false false):=by
 refine returnsInHanded_of_change (C:=Tryz.checked) BHP started (by kernel_rfl) Tryz.func10
  (ChangeSpec.witness6 (enc:=enc) (C:=Tryz.checked) false ⟨#[],#[.agg #[.int .i64 0,.int .i64 0,.int .i64 0,.int .i64 0,.slice none 0 0,.slice none 0 0,.slice none 0 0,.slice none 0 0,.slice none 0 0,.slice none 0 0,.slice none 0 0,.slice none 0 0],.slice none 0 0,.int .u8 0],[]⟩ 8 (by kernel_rfl) (by kernel_rfl) (by kernel_rfl) (by kernel_rfl)) ?_
 intro W base args ds gs before hval hW _ _
 have hW':=hW
 obtain⟨p,q,hA0,hV,rfl,hfz,hnd⟩:=hW
 have hA:DataW.TrodAll enc Tryz.prog W 0 (fun _=>true) true Tryz.f10.params.toList args.toList ds p:=hA0
 rw[Tryz.params10]at hA
 obtain⟨v0,v1,v2,d0,d1,d2,p0,p1,p2,rfl,rfl,rfl,h0,h1,h2⟩:=trodAll_three hA
 obtain⟨rfl,rfl⟩:=trodVars_none hV
 clear hA0
 simp only[List.append_nil]at hW'
 obtain⟨c,hc,r0⟩:=AF1 (hval 0 31 v0 rfl rfl) h0
 obtain⟨ws,hws,r1⟩:=zM (hval 1 101 v1 rfl rfl) h1
 obtain⟨w,hw,r2⟩:=AUM (hval 2 5 v2 rfl rfl) h2
 refine(zL (zO 0 c hc ws hws w hw) (RepA.cons r0 (RepA.cons r1 (RepA.cons r2 ⟨rfl,fun i h1=>by simp at h1⟩)))).mono fun e W' ⟨he,hg⟩=>?_
 subst he
 have l0:∀x∈p0,x.block<W.heap.size:=fun x hx=>hW'.lt x (by simp[hx])
 have l1:∀x∈p1,x.block<W.heap.size:=fun x hx=>hW'.lt x (by simp[hx])
 have l2:∀x∈p2,x.block<W.heap.size:=fun x hx=>hW'.lt x (by simp[hx])
 exact⟨_,rfl,post_of_same (pa:=p0++(p1++(p2))) (pv:=[]) hW' (fun _ _ _=>(trodAll_cons_mk (shut_bool Tryz.underlying4 _) trodAll_mk0))
  (fun sp hs=>trodAll_mk3 (stays AUL BHM h0 hg l0 fun x hx=>hs x (by simp[hx])) (stays AK5 A8W h1 hg l1 fun x hx=>hs x (by simp[hx])) (stays A8V in5 h2 hg l2 fun x hx=>hs x (by simp[hx]))) (fun _ _=>rfl) (by simp)
  (hg.frame _) hg.2.1 (ok_one (by kernel_rfl) rfl (okWide_bool_mk Tryz.underlying4 _))⟩
theorem rY:(Rows.seatEndsRow.inPlace==Tryz.prog.inPlace 10)=true:=by kernel_rfl
theorem rZ:(Rows.seatEndsRow.unfollowed==Tryz.prog.unfollowed 10)=true:=by kernel_rfl
theorem sA:(Rows.seatEndsRow.recurses==Tryz.prog.recurses 10)=true:=by kernel_rfl
theorem sB:(Rows.seatEndsRow.named==Tryz.prog.varsNamed 10)=true:=by kernel_rfl
theorem overSeatEnds:Rows.SeatEndsSaid :=
 OpenClaim.holds_of_wide 10 Tryz.f10 rfl rfl rfl rfl rfl rfl rfl ⟨rfl,rfl,rfl,rfl,rfl⟩ rfl rfl rfl rfl rfl (by kernel_rfl) Tryz.func10 (by show joinedFacts Tryz.prog 10 Tryz.f10 Rows.seatEndsSpec Rows.seatEndsRow=true;unfold joinedFacts;rw[BHL,BHI,vU,BHJ,BHK,rY,rZ,sA,sB];kernel_rfl)
  (of_decide_eq_true (by kernel_rfl)) (by unfold Func.isWrapper;first|(rw[if_pos (by decide +kernel)];kernel_rfl)|(rw[if_neg (by decide +kernel)];exact⟨rfl,rfl⟩))
  (fun os started H enc _=>bC os started H enc)
end Go.Proofs.Tryz.Op
namespace Go.Proofs.YthhdhbalenanjaaGreat
theorem seatEnds_holds:Rows.SeatEndsSaid:=Go.Proofs.Tryz.Op.overSeatEnds
end Go.Proofs.YthhdhbalenanjaaGreat
