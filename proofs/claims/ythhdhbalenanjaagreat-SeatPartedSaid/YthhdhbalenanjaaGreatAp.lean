/- A case without some families: it stays valid, its best seating is there just if the groups left can be seated. Plain law of SeatLeft and SeatParted. No program. -/
import Derived.Test.YthhdhbalenanjaaGreatA2
open List renaming mem_range->bj
set_option maxRecDepth 100000
open Go Go.Pg Go.Proofs Go.Wind
namespace Go.Proofs.Tryz.Op
theorem iA{c:AV}{k:Nat}(hk:k<c.fams.length):BR c k∈c.fams:=by simp[BR,List.getElem?_eq_getElem hk]
theorem zK(n:Nat)(out:List Int):(EV n out).length<=n:=by unfold EV;have:=List.length_filter_le (fun k:Nat=>!decide ((k:Int)∈out)) (List.range n);rwa [List.length_range]at this
theorem zL{c:AV}{out:List Int}{f:TU}(h:f∈(D5 c out).fams):f∈c.fams:=by obtain⟨k,hk,rfl⟩:=List.mem_map.1 h;exact iA (bj.1 (List.mem_filter.1 hk).1)
theorem bU(c:AV)(out:List Int):(D5 c out).fams.length<=c.fams.length:=by show((EV c.fams.length out).map (BR c)).length<=_;rw[List.length_map];exact zK _ _
theorem nE{c:AV}(h:D6 c=0)(out:List Int):D6 (D5 c out)=0:=by
 have hc:=KY h;have hl:=bU c out;have hfl:=hc.fl;have h6:(D5 c out).fams.all I6=true:=List.all_eq_true.2 fun f hf=>by have:=hc.fo f (zL hf);simp only[I6,Bool.and_eq_true,EH];exact this
 have hb:=LB hc.be;have h5:EI c=true:=by simp only[EI,Bool.and_eq_true,decide_eq_true_eq,List.all_eq_true];exact⟨hc.ch,hc.cr⟩
 unfold D6;rw[if_neg (by omega),if_neg (show ¬DJ (D5 c out).beach≠0 from fun hh=>hh hb),if_neg (show ¬DR (D5 c out).beach (D5 c out).plan=false from by show ¬DR c.beach c.plan=false;rw[hc.pl];decide),if_neg (show ¬CA (D5 c out).beach=[] from hc.tr),if_neg (show ¬EI (D5 c out)=false from by show ¬EI c=false;rw[h5];decide),if_neg (by rw[h6];decide)]
theorem vA(c:AV)(out:List Int):(IA (D5 c out)).isSome=WB c out:=by rw[<-hJ];exact zJ c (AS c) out
theorem zM{c:AV}(h:D6 c=0)(out:List Int):(LV (D5 c out)).2.2.2=if WB c out=true then 0 else 10:=by
 have hb:=vA c out;unfold LV;rw[if_neg (by rw[nE h];decide)];cases hO:IA (D5 c out)with
 |none=>
  rw[hO]at hb
  rw[<-hb]
  rfl
 |some q=>
  rw[hO]at hb
  rw[<-hb]
  rfl
theorem nF{n:Nat}{a b:List Int}(h:∀k:Nat,k<n->((k:Int)∈a↔(k:Int)∈b)):EV n a=EV n b:=by unfold EV;exact List.filter_congr fun k hk=>by rw[decide_eq_decide.2 (h k (bj.1 hk))]
theorem nG{c:AV}{a b:List Int}(h:∀k:Nat,k<c.fams.length->((k:Int)∈a↔(k:Int)∈b)):WB c a=WB c b:=by unfold WB;rw[FE,FE,nF h]
theorem zN{c:AV}(k:Nat):WB c (F0 (2 ^ k) c.fams.length)=WB c [(k:Int)]:=nG fun j hj=>by rw[W6,Nat.testBit_two_pow];simp only[decide_eq_true_eq,List.mem_singleton];omega
theorem nH{c:AV}{k:Nat}(h:CZ c k=true):2<=(BR c k).size:=by unfold CZ at h;obtain⟨n,hn,_⟩:=List.any_eq_true.1 h;have:=bj.1 hn;omega
theorem nI{c:AV}(hc:C5 c){k:Nat}(h:CZ c k=true):WB c [(k:Int)]=true:=by
 unfold CZ at h;obtain⟨n,hn,h2⟩:=List.any_eq_true.1 h;have hn:=bj.1 hn;obtain⟨m,hm⟩:=WN.1 h2;have hgr:=hm.gr;have e:(m.take (AW c [(k:Int)]).length).map gN=AW c [(k:Int)]:=by rw[List.map_take,hgr,List.take_left]
 have h0:∀x∈m,0<=x.size:=fun x hx=>by
  have hg:gN x∈m.map gN:=List.mem_map_of_mem hx;rw[hgr]at hg;show 0<=(gN x).2;rcases List.mem_append.1 hg with hg|hg
  ·rw[FE]at hg;obtain⟨j,hj,e⟩:=List.mem_map.1 hg;rw[<-e];have:=hc.fo _ (iA (bj.1 (List.mem_filter.1 hj).1));show 0<=(BR c j).size;omega
  ·simp only[List.mem_cons,List.not_mem_nil,or_false]at hg;rcases hg with hg|hg<;>rw[hg]<;>simp only<;>omega
 have hs:=hm.sub (List.take_sublist (AW c [(k:Int)]).length m) h0;rw[e]at hs;exact WN.2 ⟨_,hs⟩
end Go.Proofs.Tryz.Op
