/- A case without some families: it stays valid, its best seating is there just if the groups left can be seated. Plain law of SeatLeft and SeatParted. No program. -/
import Derived.Test.YthhdhbalenanjaaGreatA2
open List renaming getD_eq_getElem?_getD->bj,mem_range->bk,mem_filter->bq,mem_singleton->bw,length_append->bx
set_option maxRecDepth 100000
open Go Go.Pg Go.Proofs Go.Wind
namespace Go.Proofs.Tryz.Op
theorem AEZ{c:AO}{k:Nat}(hk:k<c.fams.length):D4 c k∈c.fams:=by simp[D4,List.getElem?_eq_getElem hk]
theorem tJ{n:Nat}{a b:List Int}(h:∀k:Nat,k<n->((k:Int)∈a↔(k:Int)∈b)):ME n a=ME n b:=by unfold ME;exact List.filter_congr fun k hk=>by rw[decide_eq_decide.2 (h k (bk.1 hk))]
theorem Z1{c:AO}{a b:List Int}(h:∀k:Nat,k<c.fams.length->((k:Int)∈a↔(k:Int)∈b)):E8 c a=E8 c b:=by unfold E8;rw[ED,ED,tJ h]
def CK(c:AO)(f:K7):AO:={ c with fams:=c.fams++[f] }
theorem KI{c:AO}{f:K7}{k:Nat}(hk:k<c.fams.length):D4 (CK c f) k=D4 c k:=by unfold D4 CK;rw[bj,bj,List.getElem?_append_left hk]
theorem AE0{c:AO}{f:K7}{s:List (List Int)}{gs:List (Nat×Int)}(hg:∀g∈gs,g.1<c.fams.length):Eas (CK c f) c s s gs id where
 ro:=rfl
 pl:=rfl
 su:=LeS.rfl
 go:=fun g h=>by rw[KI (hg g h)];exact Int.le_refl _
 mi:=fun g h k h2 e=>by unfold HW at e|-;rw[KI (hg g h),KI (hg k h2)];exact e
 ch:=Nat.le_refl _
theorem ABH{c:AO}{f:K7}{s:List (List Int)}{gs:List (Nat×Int)}(hg:∀g∈gs,g.1<c.fams.length):Eas c (CK c f) s s gs id where
 ro:=rfl
 pl:=rfl
 su:=LeS.rfl
 go:=fun g h=>by show(D4 (CK c f) g.1).good<=_;rw[KI (hg g h)];exact Int.le_refl _
 mi:=fun g h k h2 e=>by unfold HW at e|-;simp only[id]at e;rw[KI (hg g h),KI (hg k h2)]at e;exact e
 ch:=Nat.le_refl _
theorem gP{c:AO}{out:List Int}:∀g∈AR c out,g.1<c.fams.length:=fun g hg=>by rw[ED]at hg;obtain⟨j,hj,e⟩:=List.mem_map.1 hg;rw[<-e];exact bk.1 (bq.1 hj).1
theorem MF(c:AO)(f:K7):(CK c f).fams.length=c.fams.length+1:=by simp[CK]
theorem OW(c:AO)(f:K7)(out:List Int):AR (CK c f) out=AR c out++if (c.fams.length:Int)∈out then[] else[(c.fams.length,f.size)]:=by
 rw[ED,ED,MF,ZZ,List.map_append];congr 1
 ·exact List.map_congr_left fun j hj=>by rw[KI (bk.1 (bq.1 hj).1)]
 ·by_cases h:(c.fams.length:Int)∈out
  ·rw[if_pos h,if_pos h];rfl
  ·rw[if_neg h,if_neg h];simp[D4,CK]
theorem AE1{c:AO}(hc:B7 c){out:List Int}{s:List (List Int)}{m:List Sp}(h:mM c s (AR c out) m):∀x∈m,0<=x.size:=fun x hx=>by have hg:ZX x∈m.map ZX:=List.mem_map_of_mem hx;rw[h.gr,ED]at hg;obtain⟨j,hj,e⟩:=List.mem_map.1 hg;show 0<=(ZX x).2;rw[<-e];have:=hc.fo _ (AEZ (bk.1 (bq.1 hj).1));show 0<=(D4 c j).size;omega
theorem jX{c:AO}{f:K7}(hx:B7 (CK c f)){out:List Int}{s:List (List Int)}{m:List Sp}(h:mM (CK c f) s (AR (CK c f) out) m):mM c s (AR c out) (m.take (AR c out).length):=by
 have e:(m.take (AR c out).length).map ZX=AR c out:=by rw[List.map_take,h.gr,OW,List.take_left]
 have hs:=h.sub (List.take_sublist (AR c out).length m) (AE1 hx h);rw[e]at hs;have:=(AE0 (f:=f) (s:=s) (gP (c:=c) (out:=out))).ok hs;rw[AEW,xF]at this;exact this
theorem AE2{c:AO}{f:K7}(hx:B7 (CK c f)){out:List Int}(h:E8 (CK c f) out=true):E8 c out=true:=by obtain⟨m,hm⟩:=TH.1 h;exact TH.2 ⟨_,jX hx hm⟩
theorem ABI{c:AO}{f:K7}{out:List Int}(h:E8 c out=true)(hN:(c.fams.length:Int)∈out):E8 (CK c f) out=true:=by have:=(ABH (f:=f) (s:=AX c) (gP (c:=c) (out:=out))).can h;rw[xF]at this;unfold E8;rw[OW,if_pos hN,List.append_nil];exact this
theorem tK{c:AO}{f:K7}(hx:B7 (CK c f)){l m:List Int}(hl:XY (E8 c) c.fams.length l)(hm:XY (E8 (CK c f)) (c.fams.length+1) m):l.length<=m.length/\m.length<=l.length+1:=by
 have sh:∀{a b:List Int},GF a b=false->b.length<=a.length:=fun {a b} h=>by unfold GF at h;simp only[Bool.or_eq_false_iff,decide_eq_false_iff_not]at h;omega
 constructor
 ·have hc:=AE2 hx hm.can;rcases hm.inc.split with h|⟨m',e,h⟩
  ·exact sh (hl.min m h hc)
  ·have:E8 c m'=true:=by rw[<-hc];refine Z1 fun k hk=>?_;rw[e,List.mem_append,bw];exact⟨.inl,fun h=>h.resolve_right (by omega)⟩
   have:=sh (hl.min m' h this);rw[e,bx];omega
 ·have h1:=hl.inc.snoc (Nat.zero_le _);have h2:E8 c (l++[(c.fams.length:Int)])=true:=by rw[<-hl.can];refine Z1 fun k hk=>?_;rw[List.mem_append,bw];exact⟨fun h=>h.resolve_right (by omega),.inl⟩
  have:=sh (hm.min _ h1 (ABI h2 (by simp)));rw[bx]at this;exact this
theorem ABJ{c:AO}{f:K7}(hx:B7 (CK c f)){b:List Sp}{t:CE}(h:JG (CK c f)=some (b,t)):∃b' t',JG c=some (b',t')/\(EN c (AX c) (b.take c.fams.length)).sun<=t'.sun:=by
 have hO:mM (CK c f) (AX c) (AR (CK c f) []) b:=QD.1 (WD h).1;have h2:=jX hx hO;rw[DE]at h2;cases hb:JG c with
 |none=>
  have:=AA9.1 hb
  have h3:=QD.2 h2
  rw[this]at h3
  cases h3
 |some q=>
  obtain⟨b',t'⟩:=q
  refine⟨b',t',rfl,?_⟩
  have:=(WD hb).2.2 _ (QD.2 h2)
  unfold geS at this
  omega
end Go.Proofs.Tryz.Op
