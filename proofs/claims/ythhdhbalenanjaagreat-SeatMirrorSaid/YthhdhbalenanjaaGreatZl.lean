/- The law walk SeatMirror. No condition. -/
import Derived.Test.YthhdhbalenanjaaGreatD3
import Derived.Test.YthhdhbalenanjaaGreatZ1
import Derived.Test.YthhdhbalenanjaaGreatC3
open Bool renaming and_eq_true->bj,not_eq_true'->bw
open List renaming length_map->bk,all_eq_true->bq,mem_map->bx,reverse->bz,map->bb
set_option maxRecDepth 100000
set_option linter.unusedSimpArgs false
open Go Go.Pg Go.Proofs Go.Wind
namespace Go.Proofs.Tryz.Op
theorem pO{l:List Int}(h:DB l=true):(FE l).length=l.length :=
 (by decide:∀l∈YS,(FE l).length=l.length) l (eG h)
theorem pP:∀{ws:List (List Int)},ws.all DB=true->E7 (ws.map FE)=E7 ws
 |[],_=>rfl
 |l::r,h=>by rw[List.all_cons,bj]at h;rw[List.map_cons,E7,E7,pO h.1,pP h.2]
theorem ABZ{ws:List (List Int)}(h:NI ws=true)(hw:ws.all DB=true):NI (ws.map FE)=true:=by simp only[NI,bj,bq,decide_eq_true_eq,<-List.map_take,bx,bk]at h|-;refine⟨fun x hx=>?_,h.2⟩;obtain⟨l,hl,rfl⟩:=hx;rw[pO (bq.1 hw l (List.mem_of_mem_take hl))];exact h.1 l hl
theorem AIS{c:AR}(hT:NM c=true)(h0:B5 c=0):NM (EN c)=true:=by
 have hc:=E9 h0;obtain⟨t1,t2,t3,t4,t5,t6⟩:=J6 hT;have hwo:=hc.be.wo;have hb:Q1 (F1 c.beach)=true:=by
  simp only[Q1,bj,bw,Bool.or_eq_false_iff,Bool.not_eq_false',decide_eq_false_iff_not,Bool.or_eq_true,decide_eq_true_eq]at t1|-;obtain⟨⟨⟨⟨⟨u1,u2⟩,u3⟩,u4⟩,u5⟩,u6⟩:=t1;refine⟨⟨⟨⟨⟨?_,?_⟩,ABZ u3 hwo⟩,?_⟩,?_⟩,?_⟩
  ·rw[show(F1 c.beach).face=BN c.beach.face from rfl,F0];exact u1
  ·rw[show(F1 c.beach).sun=BN c.beach.sun from rfl,F0];exact u2
  ·rw[show(F1 c.beach).breaks=c.beach.breaks.map (GM c.beach) from rfl,bk];exact u4
  ·rw[show(F1 c.beach).notes=c.beach.notes.map IW from rfl,bk];exact u5
  ·rw[show(F1 c.beach).winds=c.beach.winds.map FE from rfl,pP hwo];rcases u6 with u6|u6
   ·exact absurd (I0 hc.be) (by simpa using u6)
   ·exact Or.inr u6
 simp only[NM,bj,bw,decide_eq_false_iff_not,eF,bq];refine⟨⟨hb,?_,?_,by show ¬(5:Int)<(c.fams.length:Int);omega⟩,?_,?_⟩
 ·rw[show(EN c).plan=c.plan.map BN from rfl,bk];exact t2
 ·rw[show(EN c).chairs=c.chairs.map bz from rfl,bk];exact t3
 ·rw[show(EN c).plan=c.plan.map BN from rfl];intro x hx;obtain⟨l,hl,rfl⟩:=bx.1 hx;rw[F0];exact t5 l hl
 ·rw[show(EN c).chairs=c.chairs.map bz from rfl];intro x hx;obtain⟨l,hl,rfl⟩:=bx.1 hx;rw[List.length_reverse];exact t6 l hl
section
variable (σ:Nat->Nat)(δ:Nat)
theorem A73:bb (V.ren σ δ)∘AJ=AJ:=funext fun l=>by simp[AJ]
theorem A74:bb (V.ren σ δ)∘BF=BF:=funext fun l=>by simp[BF]
theorem BFO:bb (V.ren σ δ)∘AM=AM:=funext fun l=>by simp[AM]
theorem A75:bb (V.ren σ δ)∘AY=AY:=funext fun l=>by simp[AY]
theorem BFP:bb (V.ren σ δ)∘AQ=AQ:=funext fun l=>by simp[AQ,A73]
theorem A76:bb (V.ren σ δ)∘AS=AS:=funext fun l=>by simp[AS,A74]
end
@[simp] theorem BAU:H0 Tryz.prog 63=false:=by kernel_rfl
set_option maxHeartbeats 4000000 in
theorem pQ(n:Nat)(c:AR)(_:okC c):EQ Tryz.prog (AE Tryz.prog ann kn (n+9900)) 17 [.agg (AF c)]=some (.bool true):=by
 rw[AP Tryz.func17 b17 rfl (by simp[AF,AS,BF,AY])];have qr:=fun n=>ANF n c;cases hR:jX c with
 |false=>
  rw[hR]at qr
  simp only[AF]at qr|-
  simp[c17,AD,qr,AS,BF,AY,yE]
 |true=>
 rw[hR]at qr;simp only[jX,bj,decide_eq_true_eq]at hR;obtain⟨hT,h0⟩:=hR;have hc:=E9 h0;obtain⟨t1,t2,t3,t4,t5,t6⟩:=J6 hT;obtain⟨l1,l2,l3,l4,l5,l6⟩:=RY t1;have hfl:=hc.fl;have hTm:=AIS hT h0;obtain⟨m1,m2,m3,m4,m5,m6⟩:=J6 hTm;obtain⟨l1m,l2m,l3m,l4m,l5m,l6m⟩:=RY m1;have hTo:NM { c with fams:=[] }=true:=by simp only[NM,bj]at hT|-;exact⟨⟨hT.1.1,hT.1.2.1,hT.1.2.2.1,rfl⟩,hT.2⟩
 have qM:=fun n=>qS n c hc;have qC:=fun n=>qR n c hT;have qCm:=fun n=>qR n (EN c) hTm;have qCo:=fun n=>qR n { c with fams:=[] } hTo;have qB:=fun n=>qQ n c l4 (by omega);have qBm:=fun n=>qQ n (EN c) l4m (by omega);have qBo:=fun n=>qQ n { c with fams:=[] } l4 (show c.chairs.length<=40 by omega);have qL:=fun n=>vA n c l4 (by omega);have qLm:=fun n=>vA n (EN c) l4m (by omega);have qP:=fun n=>ACY n c l4 (by omega);have qPm:=fun n=>ACY n (EN c) l4m (by omega);rw[yQ { c with fams:=[] } rfl (qN h0)]at qBo;rw[yP h0]at qLm;rw[ACL h0]at qPm;rw[ACM h0]at qBm;have hL2:(FZ c).2=0:=by unfold FZ;rw[if_neg (by simp[h0])]
 have hX4:(FD c).2.2.2=0\/(FD c).2.2.2=10:=by
  unfold FD;rw[if_neg (by simp[h0])];cases GZ c with
  |none=>exact Or.inr rfl
  |some q=>exact Or.inl rfl
 rw[hL2]at qL qLm;have hLl:(FZ c).1.length<=100:=by unfold FZ;rw[if_neg (by simp[h0])];obtain⟨y,hy,hsp⟩:=WO c;rw[hy,Option.getD_some];have:=R5 hsp.inc (Nat.zero_le _);show y.length<=100;omega
 have hPl:(JD c).1.length<=100:=by
  unfold JD;rw[if_neg (by simp[h0])];split
  ·exact Nat.zero_le _
  ·rw[bk];have:=List.length_filter_le (FI c) (List.range c.fams.length);rw[List.length_range]at this;omega
 have i1:=fun n=>ANV n (FZ c).1 (FZ c).1 hLl;have i2:=fun n=>ANV n (JD c).1 (JD c).1 hPl;generalize (FD c).1=X1 at *;generalize (FD (EN c)).1=Y1 at *;generalize (FD c).2.1=X2 at *;generalize (FD c).2.2.1=X3 at *;generalize (FD c).2.2.2=X4 at *;generalize (FZ c).1=L1 at *;generalize (JD c).1=P1 at *;generalize (JD c).2=P2 at *;simp only[EN,F1,AF,gT,KL]at qr qC qCm qCo qB qBm qBo qL qLm qP qPm qM|-;generalize (c.beach.winds.map FE)=Wl at *;generalize DS c.plan=Pl at *;generalize c.beach.breaks.map (GM c.beach)=Bl at *;generalize c.beach.notes.map IW=Ml at *;generalize c.chairs.map bz=Cl at *;generalize (BN c.beach.face)=F at *;generalize (BN c.beach.sun)=S at *;simp only[List.map_nil,XR]at qCo qBo;rcases hX4 with rfl|rfl <;>
  simp[c17,AD,AS,BF,AY,qr,qC,qCm,qCo,qB,qBm,qBo,qL,qLm,qP,qPm,qM,i1,i2,A73,BFP,BFO,A76,A75,yE]
end Go.Proofs.Tryz.Op
