/- A case without some families: it stays valid, its best seating is there just if the groups left can be seated. Plain law of SeatLeft and SeatParted. No program. -/
import Derived.Test.YthhdhbalenanjaaGreatA2
set_option maxRecDepth 100000
open Go Go.Pg Go.Proofs Go.Wind
namespace Go.Proofs.Tryz.Op
theorem AAY{c:AW}{k:Nat}(hk:k<c.fams.length):C5 c k∈c.fams:=by simp[C5,List.getElem?_eq_getElem hk]
theorem AAZ(n:Nat)(out:List Int):(EN n out).length<=n:=by unfold EN;have:=List.length_filter_le (fun k:Nat=>!decide ((k:Int)∈out)) (List.range n);rwa [List.length_range]at this
theorem AA0{c:AW}{out:List Int}{f:UD}(h:f∈(DQ c out).fams):f∈c.fams:=by obtain⟨k,hk,rfl⟩:=List.mem_map.1 h;exact AAY (List.mem_range.1 (List.mem_filter.1 hk).1)
theorem cY(c:AW)(out:List Int):(DQ c out).fams.length<=c.fams.length:=by show((EN c.fams.length out).map (C5 c)).length<=_;rw[List.length_map];exact AAZ _ _
theorem oA{c:AW}(h:EG c=0)(out:List Int):EG (DQ c out)=0:=by
 have hc:=O5 h;have hl:=cY c out;have hfl:=hc.fl;have h6:(DQ c out).fams.all JA=true:=List.all_eq_true.2 fun f hf=>by have:=hc.fo f (AA0 hf);simp only[JA,Bool.and_eq_true,EL];exact this
 have hb:=LI hc.be;have h5:EM c=true:=by simp only[EM,Bool.and_eq_true,decide_eq_true_eq,List.all_eq_true];exact⟨hc.ch,hc.cr⟩
 unfold EG;rw[if_neg (by omega),if_neg (show ¬DK (DQ c out).beach≠0 from fun hh=>hh hb),if_neg (show ¬DV (DQ c out).beach (DQ c out).plan=false from by show ¬DV c.beach c.plan=false;rw[hc.pl];decide),if_neg (show ¬B9 (DQ c out).beach=[] from hc.tr),if_neg (show ¬EM (DQ c out)=false from by show ¬EM c=false;rw[h5];decide),if_neg (by rw[h6];decide)]
theorem wE(c:AW)(out:List Int):(JB (DQ c out)).isSome=FL c out:=by rw[<-AAV];exact AAU c (AU c) out
theorem iZ{c:AW}(h:EG c=0)(out:List Int):(L9 (DQ c out)).2.2.2=if FL c out=true then 0 else 10:=by
 have hb:=wE c out;unfold L9;rw[if_neg (by rw[oA h];decide)];cases hO:JB (DQ c out)with
 |none=>
  rw[hO]at hb
  rw[<-hb]
  rfl
 |some q=>
  rw[hO]at hb
  rw[<-hb]
  rfl
end Go.Proofs.Tryz.Op
