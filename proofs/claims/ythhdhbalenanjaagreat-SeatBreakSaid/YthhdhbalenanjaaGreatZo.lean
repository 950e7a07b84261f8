/- The law walk SeatBreak. No condition. -/
import Derived.Test.YthhdhbalenanjaaGreatZ2
open Bool renaming and_eq_true->bj
set_option maxRecDepth 100000
set_option linter.unusedSimpArgs false
open Go Go.Pg Go.Proofs Go.Wind
namespace Go.Proofs.Tryz.Op
theorem AAG{c:AP}(hT:M5 c=true)(h3:c.beach.breaks.length<=3)(s:Int×Int)(h0:CZ c=0):M5 (BD c s)=true:=by
 have hc:=GR h0;obtain⟨t1,t2,t3,t4,t5,t6⟩:=GJ hT;have hb:QG (BD c s).beach=true:=by
  simp only[QG,bj,Bool.not_eq_true',Bool.or_eq_false_iff,Bool.not_eq_false',decide_eq_false_iff_not,Bool.or_eq_true,decide_eq_true_eq]at t1|-;obtain⟨⟨⟨⟨⟨u1,u2⟩,u3⟩,u4⟩,u5⟩,u6⟩:=t1;refine⟨⟨⟨⟨⟨u1,u2⟩,u3⟩,?_⟩,u5⟩,?_⟩
  ·show ¬6<(c.beach.breaks++[s]).length;rw[List.length_append,List.length_singleton];omega
  ·rcases u6 with u6|u6
   ·exact absurd (JW hc.be) (by simpa using u6)
   ·exact Or.inr u6
 simp only[M5,bj]at hT|-;exact⟨⟨hb,hT.1.2.1,hT.1.2.2.1,hT.1.2.2.2⟩,hT.2⟩
theorem AGY{c:AP}{s:Int×Int}(hc:BZ c)(hx:BZ (BD c s))(out:List Int)(h:FW c out=true):FW (BD c s) out=true:=by have:=(jE hc hx (BA c out)).can h;rw[show(BA c out).map (fun g=>(id g.1,g.2))=BA c out from List.map_id _]at this;exact this
theorem AAH{c:AP}{s:Int×Int}(hc:BZ c)(hx:BZ (BD c s))(q:List Sp×BJ)(h:ED c=some q):∃q',ED (BD c s)=some q'/\q.2.sun<=q'.2.sun:=by obtain⟨b',t',h1,h2,_⟩:=(jE hc hx (BA c [])).best (b:=q.1) (t:=q.2) h;rw[show(BA c []).map (fun g=>(id g.1,g.2))=BA c [] from List.map_id _]at h1;exact⟨(b',t'),h1,h2⟩
theorem sH(k:IntKind)(n:Int):MD Tryz.prog 5 3 (.int k n)=some (.int .i64 (IntKind.i64.wrap n)):=by kernel_rfl
set_option maxHeartbeats 4000000 in
theorem sI(n:Nat)(c:AP)(_:okC c)(κ:Nat)(hκ:κ<=255):EM Tryz.prog (AF Tryz.prog ann kn (n+9990)) 14 [.agg (AE c),.int .u8 κ]=some (.bool true):=by
 rw[AR Tryz.func14 b14 rfl (by simp[AE,AS,BU,AU])];have qr:=fun n=>ALL n c;cases hR:iT c with
 |false=>
  rw[hR]at qr
  simp only[AE]at qr|-
  simp[c14,AD,qr,AS,BU,AU,UF]
 |true=>
 rw[hR]at qr;by_cases h3:c.beach.breaks.length<=3
 ·simp only[iT,bj,decide_eq_true_eq]at hR;obtain⟨hT,h0⟩:=hR;have hc:=GR h0;have hro:=hc.be.ro;have hpl:=hc.be.pl;obtain⟨R,hRR⟩:∃R:Nat,c.beach.rows=(R:Int):=⟨c.beach.rows.toNat,by omega⟩;obtain⟨P,hPP⟩:∃P:Nat,c.beach.places=(P:Int):=⟨c.beach.places.toNat,by omega⟩;have hR3:R=1\/R=2\/R=3:=by omega
  have hP5:P=1\/P=2\/P=3\/P=4\/P=5:=by omega
  have hM:1<=R*P/\R*P<=15:=by rcases hR3 with rfl|rfl|rfl<;>rcases hP5 with rfl|rfl|rfl|rfl|rfl<;>omega
  have hk:=Nat.mod_lt κ (show 0<R*P by omega);have hdiv:κ % (R*P) / P<R:=Nat.div_lt_of_lt_mul (by rw[Nat.mul_comm P R];exact hk);have hmod:κ % (R*P) % P<P:=Nat.mod_lt _ (by omega);have e1:IntKind.i64.wrap (c.beach.rows*c.beach.places)=((R*P:Nat):Int):=by rw[hRR,hPP,show(R:Int)*(P:Int)=((R*P:Nat):Int) from(Int.natCast_mul R P).symm];exact AX (by omega) (by omega)
  have wk:IntKind.i64.wrap (κ:Int)=(κ:Int):=AX (by omega) (by omega);have e2:(κ:Int).tmod ((R*P:Nat):Int)=((κ % (R*P):Nat):Int):=(Int.ofNat_tmod _ _).symm;have e3:((κ % (R*P):Nat):Int).tdiv c.beach.places=((κ % (R*P) / P:Nat):Int):=by rw[hPP];exact(Int.ofNat_tdiv _ _).symm
  have e4:((κ % (R*P):Nat):Int).tmod c.beach.places=((κ % (R*P) % P:Nat):Int):=by rw[hPP];exact(Int.ofNat_tmod _ _).symm
  have n1:¬R*P=0:=by omega
  have n2:¬c.beach.places=0:=by omega
  have w3:IntKind.i64.wrap ((κ % (R*P) / P:Nat):Int)=((κ % (R*P) / P:Nat):Int):=(fun (k:Nat) (h:k<100)=>AX (x:=(k:Int)) (by omega) (by omega)) _ (Nat.lt_trans hdiv (by omega));have hr:((κ % (R*P) / P:Nat):Int)<c.beach.rows:=by omega
  have hp:((κ % (R*P) % P:Nat):Int)<c.beach.places:=by omega
  generalize κ % (R*P) / P=r at *;generalize κ % (R*P) % P=p at *;generalize κ % (R*P)=m at *;generalize R*P=M at *;have hsp:DU c.beach ((r:Int),(p:Int))=true:=by simp only[DU,bj,DT];omega
  have h0x:=X9 h0 h3 hsp;have hx:=GR h0x;have hTx:=AAG hT h3 ((r:Int),(p:Int)) h0;obtain⟨t1,t2,t3,t4,t5,t6⟩:=GJ hT;obtain⟨l1,l2,l3,l4,l5,l6⟩:=KB t1;obtain⟨u1,u2,u3,u4,u5,u6⟩:=GJ hTx;obtain⟨m1,m2,m3,m4,m5,m6⟩:=KB u1;have n4:¬4<=c.beach.breaks.length:=by omega
  have n3:¬(3:Int)<(c.beach.breaks.length:Int):=by omega
  have qC:=fun n=>fM n c hT;have qCx:=fun n=>fM n (BD c ((r:Int),(p:Int))) hTx;have qb:=fun n=>AHC n c l4 (by omega);have qB:=fun n=>oQ n (BD c ((r:Int),(p:Int))) m4 (by omega);have qW:=fun n=>AYM n c (by omega) ((r:Int),(p:Int));have qN:=fun n=>ALM n (BD c ((r:Int),(p:Int))) c hT h0 hTx h0x rfl (AAH hc hx) (AGY hc hx);have hge:=wO hr hp;unfold YB at qb;rw[if_neg (by simp[h0]),if_neg n4]at qb;unfold QL at qB;rw[if_neg (by simp[h0x])]at qB;have hcw:AE (BD c ((r:Int),(p:Int)))=[i c.beach.last,i c.beach.rows,i c.beach.places,i c.beach.reach,li c.beach.face,li c.beach.sun,I1 c.beach.winds,.list false ((c.beach.breaks++[((r:Int),(p:Int))]).map AL),.list false (c.beach.notes.map AL),I1 c.plan,.list false (c.chairs.map AS),.list false (c.fams.map AU)]:=rfl;have hcr:JE (BD c ((r:Int),(p:Int)))=[i c.beach.last,i c.beach.rows,i c.beach.places,i c.beach.reach,li c.beach.face,li c.beach.sun,I1 c.beach.winds,sl ((c.beach.breaks++[((r:Int),(p:Int))]).map AL),sl (c.beach.notes.map AL),sl (c.plan.map AW),sl (c.chairs.map AS),sl (c.fams.map AU)]:=rfl;cases hO:ED (BD c ((r:Int),(p:Int)))with
  |none=>
   rw[hO]at qB
   cases hb:YA c with
   |none=>
    rw[hb]at qb
    simp only[hcw,hcr]at qCx qB qW qN
    simp only[AE,JE,F0]at qr qC qCx qb qB qW qN|-
    generalize c.beach.breaks++[((r:Int),(p:Int))]=BR at *
    simp[AL]at qW qb
    simp[c14,AD,AS,BU,AU,qr,n3,e1,wk,e2,e3,e4,n1,n2,w3,qC,qCx,qb,qB,qW,qN,AHH,AOO,AON,ABC,ABB,sH,UF]
   |some a=>
    rw[hb]at qb
    simp only[hcw,hcr]at qCx qB qW qN
    simp only[AE,JE,F0]at qr qC qCx qb qB qW qN|-
    generalize c.beach.breaks++[((r:Int),(p:Int))]=BR at *
    simp[AL]at qW qb
    simp[c14,AD,AS,BU,AU,qr,n3,e1,wk,e2,e3,e4,n1,n2,w3,qC,qCx,qb,qB,qW,qN,AHH,AOO,AON,ABC,ABB,sH,UF]
  |some q=>
   rw[hO]at qB
   obtain⟨b,hb,hle⟩:=hge q hO
   rw[hb]at qb
   simp only[hcw,hcr]at qCx qB qW qN
   simp only[AE,JE,F0]at qr qC qCx qb qB qW qN|-
   generalize c.beach.breaks++[((r:Int),(p:Int))]=BR at *
   simp[AL]at qW qb
   simp[c14,AD,AS,BU,AU,qr,n3,e1,wk,e2,e3,e4,n1,n2,w3,qC,qCx,qb,qB,qW,qN,AHH,AOO,AON,ABC,ABB,sH,UF,hle]
 ·have n3:(3:Int)<(c.beach.breaks.length:Int):=by omega
  simp only[AE]at qr|-;simp[c14,AD,qr,n3,AS,BU,AU,UF]
end Go.Proofs.Tryz.Op
