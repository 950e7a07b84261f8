/- The law walk SeatBest. No condition. -/
import Derived.Test.YthhdhbalenanjaaGreatD3
import Derived.Test.YthhdhbalenanjaaGreatZa
import Derived.Test.YthhdhbalenanjaaGreatC2
open List renaming all_eq_true->bj
set_option maxRecDepth 100000
set_option linter.unusedSimpArgs false
open Go Go.Pg Go.Proofs Go.Wind
namespace Go.Proofs.Tryz.Op
theorem ADS{c:AQ}(h0:EC c=0){q:List Sp×CB}(hb:H9 c=some q):EX c (CZ c) (q.1.map SO)=true/\JK c (q.1.map SO)=q.2.sun/\JZ c (q.1.map SO)=q.2.carried:=by have hc:=GY h0;obtain⟨b,t⟩:=q;obtain⟨g1,g2,_⟩:=V2 hb;have hok:=YS.1 g1;have ha:=mP hok;obtain⟨s1,s2⟩:=jK hok;obtain⟨e1,e2⟩:=mY hc s1;rw[s2,<-g2]at e1 e2;rw[<-KC hc];exact⟨ha,e1.symm,e2.symm⟩
set_option maxHeartbeats 8000000 in
theorem ADT(n:Nat)(c:AQ)(_:okC c)(ss:List (Int×Int))(_:∀p∈ss,JI p.1/\JI p.2)(k:Int)(_:JI k)(k1:Int)(_:JI k1):E2 Tryz.prog (AE Tryz.prog ann kn (n+18000)) 5 [.agg (AD c),.list false (ss.map AJ),i k,i k1]=some (.bool true):=by
 rw[AO Tryz.func5 b5 rfl (by simp[AD,AS,A6,AU])];have qT:=fun n=>ASW n c;cases hT:fZ c with
 |false=>
  rw[hT]at qT
  simp only[AD]at qT|-
  simp[c5,AF,qT,AS,A6,AU,N6]
 |true=>
 rw[hT]at qT;by_cases h6:(6:Int)<ss.length
 ·simp only[AD]at qT|-;simp[c5,AF,qT,h6,AS,A6,AU,N6]
 obtain⟨t1,t2,t3,t4,t5,t6⟩:=ZJ hT;obtain⟨l1,l2,l3,l4,l5,l6⟩:=wG t1;have l100:∀l∈c.beach.winds,l.length<=100:=fun l hl=>by have:=l4 l hl;omega
 have qC:=fun n=>AS0 n c hT;have qS:=fun n=>AKR n ss (by omega);have qf:=fun n=>AKU n c l100 (by omega) (by omega);have qb:=fun n=>ASV n c l4 (by omega);have qP:=fun n=>AKM n c l4 (by omega) ss k k1;by_cases h0:EC c=0
 ·have hc:=GY h0;rw[AKW h0]at qP;unfold RO at qb;rw[if_neg (by simp[h0])]at qb;have hfl:=hc.fl;have hgl:=CL c;have hgm:∀g∈AK c [],g.1<c.fams.length/\1<=g.2/\g.2<=4:=fun g hg=>FB hc [] _ (Nat.le_refl _) g hg;have qs:=fun n=>AS3 n c hc;have qG:=fun n=>mW n c (by omega);have qA:=fun n=>ZK n c hc (CZ c) (KB hc) (AK c []) ss (by omega) hgm;rw[K5 hc]at qA;have qR:=fun n=>AEI n c hc;rw[AEH h0]at qR;rw[h0]at qf;have g7:=eq_true (L7 (G:=AK c []) 6);have g8:=eq_true (L7 (G:=AK c []) 7);have g8b:((AK c []).map A2).all (fun e=>e.all (AG 8))=true:=bj.2 fun e he=>bj.2 fun v hv=>L7 7 e he v hv;have e7:=eq_true (KD (ss:=ss) 6);have e8:=eq_true (KD (ss:=ss) 7);have e8b:(ss.map AJ).all (fun e=>e.all (AG 8))=true:=bj.2 fun e he=>bj.2 fun v hv=>KD 7 e he v hv;have h6S:¬(6:Int)<(((ss.map AJ).length:Nat):Int):=by rw[List.length_map];exact h6
  have hcb:c.chairs.all ((fun e=>e.all (AG 7))∘AS)=true:=by rw[bj];intro x _;simp[AS,A6]
  have hcf:c.fams.all ((fun e=>e.all (AG 7))∘AU)=true:=by rw[bj];intro x _;simp[AU]
  have hsl:EX c (CZ c) ss=true->ss.length=c.fams.length:=fun hA=>(M3 hc (GZ.1 hA).1).1;have qS1:EX c (CZ c) ss=true->∀n,AY Tryz.prog kn (AE Tryz.prog ann kn (n+500)) 37 [FO (CZ c),.list false ((AK c []).map A2),.list false (ss.map AJ)]=some (i (JK c ss)):=fun hA n=>AEE c hc (CZ c) (KB hc) (AK c []) ss (fun g hg=>by have:=hgm g hg;omega) (by have:=hsl hA;omega) (by omega) (jO (GZ.1 hA).1) n;have qK1:EX c (CZ c) ss=true->∀n,AY Tryz.prog kn (AE Tryz.prog ann kn (n+500)) 38 [.agg (AD c),.list false ((AK c []).map A2),.list false (ss.map AJ)]=some (i (JZ c ss)):=fun hA n=>ZL c hc (AK c []) ss (fun g hg=>by have:=hgm g hg;omega) (by have:=hsl hA;omega) (by omega) (jO (GZ.1 hA).1) n;clear hsl;generalize EX c (CZ c) ss=A at *;generalize JK c ss=S at *;generalize JZ c ss=R at *;cases hO:H9 c with
  |none=>
   rw[hO]at qb qR
   simp only at qb qR
   generalize (AK c []).map A2=GG at *
   generalize ss.map AJ=SS at *
   generalize CZ c=SR at *
   simp only[AD,S4,IU]at qT qC qS qf qb qP qs qG qA qR qS1 qK1|-
   simp[slN]at qb
   cases A with
   |false=>simp[c5,AF,qT,h6S,hcb,hcf,qC,qS,qf,qb,qP,qs,qG,qA,qR,g8b,e8b,N6]
   |true=>
    have qS1:=qS1 rfl
    have qK1:=qK1 rfl
    by_cases hk:k<=S<;>by_cases hr:R<=k1<;>simp[c5,AF,qT,h6S,hcb,hcf,qC,qS,qf,qb,qP,qs,qG,qA,qR,g8b,e8b,N6,qS1,qK1,hk,hr]
  |some q=>
   rw[hO]at qb qR
   simp only at qb qR
   obtain⟨a1,a2,a3⟩:=ADS h0 hO
   have qA2:=fun n=>ZK n c hc (CZ c) (KB hc) (AK c []) (q.1.map SO) (by omega) hgm
   rw[K5 hc,a1]at qA2
   have hbs:=(GZ.1 a1).1
   have hbl:=(M3 hc hbs).1
   have qS2:=AEE c hc (CZ c) (KB hc) (AK c []) (q.1.map SO) (fun g hg=>by have:=hgm g hg;omega) (by omega) (by omega) (jO hbs)
   have qK2:=ZL c hc (AK c []) (q.1.map SO) (fun g hg=>by have:=hgm g hg;omega) (by omega) (by omega) (jO hbs)
   unfold JK at a2
   unfold JZ at a3
   rw[a2]at qS2
   rw[a3]at qK2
   have qB:=fun n=>AS5 n (q.1.map SO) (by omega)
   have b7:=eq_true (KD (ss:=q.1.map SO) 6)
   have b8:=eq_true (KD (ss:=q.1.map SO) 7)
   have b8b:((q.1.map SO).map AJ).all (fun e=>e.all (AG 8))=true:=bj.2 fun e he=>bj.2 fun v hv=>KD 7 e he v hv
   have hBl:(((q.1.map SO).map AJ).length:Int)<=3:=by rw[List.length_map];omega
   clear a2 a3
   generalize q.2.sun=X at *
   generalize q.2.carried=Y at *
   generalize (q.1.map SO).map AJ=BB at *
   generalize (AK c []).map A2=GG at *
   generalize ss.map AJ=SS at *
   generalize CZ c=SR at *
   simp only[AD,S4,IU]at qT qC qS qf qb qP qs qG qA qR qA2 qK2 qS2 qB qS1 qK1|-
   cases A with
   |false=>simp[c5,AF,qT,h6S,hcb,hcf,qC,qS,qf,qb,qP,qs,qG,qA,qR,g8b,e8b,N6,qA2,qS2,qK2,qB,b8b,hBl]
   |true=>
    have qS1:=qS1 rfl
    have qK1:=qK1 rfl
    by_cases hk:k<=S<;>by_cases hr:R<=k1<;>simp[c5,AF,qT,h6S,hcb,hcf,qC,qS,qf,qb,qP,qs,qG,qA,qR,g8b,e8b,N6,qS1,qK1,hk,hr,qA2,qS2,qK2,qB,b8b,hBl]
 ·have qP':V4 c ss k k1=false:=by unfold V4;rw[decide_eq_false h0,Bool.false_and]
  rw[qP']at qP;unfold RO at qb;rw[if_pos h0]at qb;generalize EC c=E at *;simp only[AD,S4,IU]at qT qC qS qf qb qP|-;simp[slN]at qb;simp[c5,AF,qT,h6,qC,qS,qf,qb,qP,h0,AS,A6,AU,N6]
end Go.Proofs.Tryz.Op
