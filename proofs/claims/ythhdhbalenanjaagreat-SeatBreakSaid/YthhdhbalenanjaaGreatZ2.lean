/- The contract of the law's some: a case without some families. No condition but few of them. -/
import Derived.Test.YthhdhbalenanjaaGreatZ1
import Derived.Test.YthhdhbalenanjaaGreatC3
import Derived.Test.YthhdhbalenanjaaGreatD3
set_option maxRecDepth 100000
set_option linter.unusedSimpArgs false
open Go Go.Pg Go.Proofs Go.Wind
namespace Go.Proofs.Tryz.Op
theorem AGX{f g:List Int->Bool}{N:Nat}{y z:List Int}(h:VZ f N y)(h':VZ g N z)(hfg:∀out,f out=true->g out=true):z.length<=y.length:=by have:=h'.min y h.inc (hfg _ h.can);unfold FZ at this;simp only[Bool.or_eq_false_iff,decide_eq_false_iff_not]at this;omega
set_option maxHeartbeats 2000000 in
theorem ALM(n:Nat)(x c:AP)(hT:M5 c=true)(h0:CZ c=0)(hTx:M5 x=true)(h0x:CZ x=0)(hN:x.fams.length=c.fams.length)(hb:∀q,ED c=some q->∃q',ED x=some q'/\q.2.sun<=q'.2.sun)(hl:∀out,FW c out=true->FW x out=true):A3 Tryz.prog kn (AF Tryz.prog ann kn (n+9800)) 58 [.agg (AE x),.agg (AE c)]=some (.bool true):=by
 rw[AQ rfl,AR Tryz.func58 b58 rfl (by simp[AE,AS,BU,AU])];obtain⟨t1,t2,t3,t4,t5,t6⟩:=GJ hT;obtain⟨l1,l2,l3,l4,l5,l6⟩:=KB t1;obtain⟨u1,u2,u3,u4,u5,u6⟩:=GJ hTx;obtain⟨m1,m2,m3,m4,m5,m6⟩:=KB u1;have qC:=fun n=>fM n c hT;have qCx:=fun n=>fM n x hTx;have qB:=fun n=>oQ n c l4 (by omega);have qBx:=fun n=>oQ n x m4 (by omega);have qL:=fun n=>tE n c l4 (by omega);have qLx:=fun n=>tE n x m4 (by omega);obtain⟨y,hy,hsp⟩:=NM c;obtain⟨z,hz,hsz⟩:=NM x;unfold XA at qL qLx;rw[if_neg (by simp[h0]),hy,Option.getD_some]at qL;rw[if_neg (by simp[h0x]),hz,Option.getD_some]at qLx;rw[hN]at hsz;have hle:=AGX hsp hsz hl;unfold QL at qB qBx;rw[if_neg (by simp[h0])]at qB;rw[if_neg (by simp[h0x])]at qBx;cases hO:ED c with
 |none=>
  rw[hO]at qB
  cases hX:ED x with
  |none=>
   rw[hX]at qBx
   simp only[AE,JE,F0]at qC qCx qB qBx qL qLx|-
   simp[c58,AD,AS,BU,AU,qC,qCx,qB,qBx,qL,qLx,hle]
   done
  |some q'=>
   rw[hX]at qBx
   simp only[AE,JE,F0]at qC qCx qB qBx qL qLx|-
   simp[c58,AD,AS,BU,AU,qC,qCx,qB,qBx,qL,qLx,hle]
   done
 |some q=>
  obtain⟨q',hX,hq⟩:=hb q hO
  rw[hO]at qB
  rw[hX]at qBx
  simp only[AE,JE,F0]at qC qCx qB qBx qL qLx|-
  simp[c58,AD,AS,BU,AU,qC,qCx,qB,qBx,qL,qLx,hle,hq]
  done
end Go.Proofs.Tryz.Op
