/- The law walk SeatBreaks. No condition. -/
import Derived.Test.YthhdhbalenanjaaGreatD3
import Derived.Test.YthhdhbalenanjaaGreatC3
import Derived.Test.YthhdhbalenanjaaGreatZ1
open Go.Proofs.Tryz renaming prog->bj
set_option maxRecDepth 100000
set_option linter.unusedSimpArgs false
open Go Go.Pg Go.Proofs Go.Wind
namespace Go.Proofs.Tryz.Op
theorem BBY(a1 a2 b1 b2:Int)(h1:FE a1)(h2:FE a2)(g1:FE b1)(g2:FE b2):NA bj 86 [i a1,i a2] [i b1,i b2]=some (decide (a1=b1)&&decide (a2=b2)):=by
 have kl:∀a b:Int,FE a->FE b->Program.keyLits bj 16 86 [.int .i64 a,.int .i64 b]=some [.int .i64 a,.int .i64 b]:=fun a b ha hb=>by unfold Program.keyLits;simp[Tryz.underlying86,k3I (wfI ha),k3I (wfI hb)]
 have kt:(tT bj 86&&Program.keyTypeAt bj 16 86&&!(bj.eqGuardType bj.depth 86))=true:=by kernel_rfl
 unfold NA;simp[DV,kl _ _ h1 h2,kl _ _ g1 g2];refine⟨⟨by simpa using kt,by simp[CK]⟩,?_⟩;simp only[JM,Bool.and_true];congr 1
def V0(c:AM)(a:ON):Prop:=∀b,a=some b->(0<=b.1.1/\b.1.1<c.beach.rows)/\0<=b.1.2/\b.1.2<c.beach.places
theorem V0.step{c:AM}{a:ON}(h:V0 c a){s:Int×Int}(hs:(0<=s.1/\s.1<c.beach.rows)/\0<=s.2/\s.2<c.beach.places):V0 c (C0 c a s):=fun b hb=>by
 unfold C0 at hb;cases hO:GA (B7 c s)with
 |none=>rw[hO]at hb;exact h b hb
 |some q=>
  rw[hO]at hb
  cases a with
  |none=>cases hb;exact hs
  |some a=>
   have hb:(if a.2.sun<q.2.sun then some (s,q.2) else some a)=some b:=hb
   by_cases hl:a.2.sun<q.2.sun
   ·rw[if_pos hl]at hb;cases hb;exact hs
   ·rw[if_neg hl]at hb;exact h b hb
theorem V0.inn{c:AM}(r:Nat)(hr:(r:Int)<c.beach.rows):∀(d p:Nat) (a:ON),p+d=c.beach.places.toNat->V0 c a->V0 c (M0 c r d p a)
 |0,_,_,_,h=>h
 |d+1,p,a,hd,h=>V0.inn r hr d (p+1) _ (by omega) (h.step ⟨⟨by show(0:Int)<=(r:Int);omega,hr⟩,by show(0:Int)<=(p:Int);omega,by show(p:Int)<c.beach.places;omega⟩)
theorem V0.out{c:AM}:∀(d r:Nat) (a:ON),r+d=c.beach.rows.toNat->V0 c a->V0 c (V9 c d r a)
 |0,_,_,_,h=>h
 |d+1,r,a,hd,h=>V0.out d (r+1) _ (by omega) (V0.inn r (by omega) _ 0 _ (by omega) h)
theorem ADW(c:AM):V0 c (OS c):=by rw[gF];exact V0.out _ 0 _ (by omega) fun b hb=>by cases hb
set_option maxHeartbeats 4000000 in
theorem sP(n:Nat)(c:AM)(_:okC c):E1 bj (AE bj ann kn (n+18000)) 7 [.agg (AD c)]=some (.bool true):=by
 rw[AO Tryz.func7 b7 rfl (by simp[AD,AR,A7,AS])];have qT:=fun n=>AS9 n c;cases hT:gJ c with
 |false=>
  rw[hT]at qT
  simp only[AD]at qT|-
  simp[c7,AF,qT,AR,A7,AS,VZ]
 |true=>
 rw[hT]at qT;obtain⟨t1,t2,t3,t4,t5,t6⟩:=ZW hT;obtain⟨l1,l2,l3,l4,l5,l6⟩:=wL t1;have l100:∀l∈c.beach.winds,l.length<=100:=fun l hl=>by have:=l4 l hl;omega
 have qC:=fun n=>ATD n c hT;have qf:=fun n=>AK8 n c l100 (by omega) (by omega);have qb:=fun n=>AK2 n c l4 (by omega);have ok0:FE 0:=by constructor<;>decide
 have e00:=BBY 0 0 0 0 ok0 ok0 ok0 ok0;unfold ZQ at qb;by_cases h0:DT c=0
 ·have hc:=F1 h0;have hbr:=hc.be.br;rw[if_neg (by simp[h0])]at qb;rw[h0]at qf;by_cases h4:4<=c.beach.breaks.length
  ·rw[if_pos h4]at qb;have e4:(c.beach.breaks.length:Int)=4:=by omega
   simp only[AD,P7,H2,AH]at qT qC qf qb|-;simp[c7,AF,qT,qC,qf,qb,e4,e00,AR,A7,AS,VZ];done
  ·rw[if_neg h4]at qb;have n4:¬(c.beach.breaks.length:Int)=4:=by omega
   have qR:=fun n=>ABG n c h0 (by omega);have hin:=ADW c;cases hO:OS c with
   |none=>
    rw[hO]at qb qR
    simp only[AD,P7,H2,AH,acQ,xI]at qT qC qf qb qR|-
    simp at qR qb
    simp[c7,AF,qT,qC,qf,qb,qR,n4,e00,AR,A7,AS,VZ]
    done
   |some a=>
    obtain⟨⟨a1,a2⟩,a3,a4⟩:=hin a hO
    have hro:=hc.be.ro
    have hpl:=hc.be.pl
    have qs:=fun n=>AJ8 n a.1
    have o1:FE a.1.1:=by constructor<;>omega
    have o2:FE a.1.2:=by constructor<;>omega
    have eaa:=BBY a.1.1 a.1.2 a.1.1 a.1.2 o1 o2 o1 o2
    rw[hO]at qb qR
    simp only[AD,P7,H2,AH,acQ,xI]at qT qC qf qb qR qs|-
    simp at qR qb eaa
    simp[c7,AF,qT,qC,qf,qb,qR,qs,n4,eaa,AR,A7,AS,VZ]
    done
 ·rw[if_pos h0]at qb;generalize DT c=E at *;simp only[AD,P7,H2,AH]at qT qC qf qb|-;simp[c7,AF,qT,qC,qf,qb,h0,e00,AR,A7,AS,VZ];done
end Go.Proofs.Tryz.Op
