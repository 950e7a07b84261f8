/- The law walk SeatNoBetter. No condition. -/
import Derived.Test.YthhdhbalenanjaaGreatD2
import Derived.Test.YthhdhbalenanjaaGreatZ1
import Derived.Test.YthhdhbalenanjaaGreatC2
import Derived.Test.YthhdhbalenanjaaGreatFz
set_option maxRecDepth 100000
set_option linter.unusedSimpArgs false
open Go Go.Pg Go.Proofs Go.Wind
namespace Go.Proofs.Tryz.Op
theorem ARE{c:AO}(hc:BZ c){q:List Sp×CE}(hb:J6 c=some q):0≤q.2.sun∧q.2.sun≤100∧0≤q.2.carried∧q.2.carried≤100:=by
 obtain⟨b,t⟩:=q;obtain⟨h1,h2,_⟩:=QS hb;have hO:=NG.1 h1;have hl:b.length=c.fams.length:=by have:=congrArg List.length hO.gr;rw[List.length_map,C9]at this;exact this
 have hfl:=hc.fl;have:=xM hc (l:=b) fun x hx=>by
  have hg:=I6 hc [] _ (Nat.le_refl _) (gD x) (by
   show gD x∈AY c [];rw[← hO.gr];exact List.mem_map.2 ⟨x,hx,rfl⟩)
  exact⟨((LR.1 hO).2.1 x hx).1,hg.1,Int.le_trans (by decide) hg.2.1,hg.2.2⟩
 simp only;rw[h2];omega
theorem WG{ss:List (Int×Int)}(f:Nat):∀e∈ss.map AF,∀v∈e,AH (f+1) v=true:=fun e he v hv=>by obtain⟨l,_,rfl⟩:=List.mem_map.1 he;simp only[AF,List.mem_cons,List.not_mem_nil,or_false]at hv;rcases hv with rfl|rfl<;>rfl
theorem tY{G:List (Nat×Int)}(f:Nat):∀e∈G.map A7,∀v∈e,AH (f+1) v=true:=fun e he v hv=>by obtain⟨l,_,rfl⟩:=List.mem_map.1 he;simp only[A7,List.mem_cons,List.not_mem_nil,or_false]at hv;rcases hv with rfl|rfl<;>rfl
set_option maxHeartbeats 4000000 in
theorem iC(n:Nat)(c:AO)(_:okC c)(ws:List Nat)(hws:∀w∈ws,w≤65535):FB Tryz.prog (AE Tryz.prog ann kn (n+9800)) 11 [.agg (AD c),.list false (ws.map JF)]=some (.bool true):=by
 rw[AR Tryz.func11 b11 rfl (by simp[AD,AJ,AM,AF,AS,A3,AU,JF])];have qr:=fun n=>ARD n c;cases hR:nI c with
 |false=>
  rw[hR]at qr
  simp only[AD]at qr⊢
  simp[c11,AG,qr,AJ,AM,AF,JF,AS,A3,AU,RI]
 |true=>
 rw[hR]at qr;simp only[nI,Bool.and_eq_true,decide_eq_true_eq]at hR;obtain⟨hT,h0⟩:=hR;have hc:=KK h0;obtain⟨t1,t2,t3,t4,t5,t6⟩:=SL hT;obtain⟨l1,l2,l3,l4,l5,l6⟩:=fU t1;have hfl:=hc.fl;have hgl:=C9 c;have hgm:∀g∈AY c [],g.1<c.fams.length∧1≤g.2∧g.2≤4:=fun g hg=>I6 hc [] _ (Nat.le_refl _) g hg;have qT:=fun n=>A1T n c hc ws hws;have hss:(HE c ws).2=true→DL c (HE c ws).1=true:=fun hs=>by have h:=hs;unfold HE at h⊢;split at h<;>simp_all
 have qb:=fun n=>AVM n c l4 (by omega);have qs:=fun n=>AVU n c hc;have qG:∀n,A0 Tryz.prog kn (AE Tryz.prog ann kn (n+200)) 26 [.agg (AD c),i 0]=some (sl ((HV c 0).map A7)):=fun n=>oD n c (by omega) 0;rw[kX]at qG;have qA:=fun n=>uQ n c hc (FM c) (oF hc) (AY c []) (HE c ws).1 (by omega) hgm;rw[oH hc]at qA;have qC:=fun n=>AVR n c hT;have e7:=eq_true (WG (ss:=(HE c ws).1) 6);have e8:=eq_true (WG (ss:=(HE c ws).1) 7);have g8:=eq_true (tY (G:=AY c []) 7);have b7:=eq_true (WG (ss:=(SJ c).1) 6);have e8b:((HE c ws).1.map AF).all (fun e=>e.all (AH 8))=true:=List.all_eq_true.2 fun e he=>List.all_eq_true.2 fun v hv=>WG 7 e he v hv;have g8b:((AY c []).map A7).all (fun e=>e.all (AH 8))=true:=List.all_eq_true.2 fun e he=>List.all_eq_true.2 fun v hv=>tY 7 e he v hv;have cS:(V.list false ((FM c).map AM))=G5 (FM c):=rfl;unfold SJ at qb b7;rw[if_neg (by simp[h0])]at qb b7;cases hO:J6 c with
 |none=>
  rw[hO]at qb
  simp only at qb
  have hno:=AMN h0 hO
  rw[hno]at qA
  generalize (HE c ws).1=ss at *
  generalize (AY c []).map A7=GG at *
  generalize ss.map AF=SS at *
  generalize FM c=SR at *
  simp only[AD,AC,QU,IJ]at qr qT qb qs qG qA qC⊢
  simp[lD]at qb
  cases hs:(HE c ws).2<;>rw[hs]at qT<;>simp[c11,AG,qr,qT,qb,qs,qG,qA,qC,e7,e8,g8,AJ,AM,AF,JF,AS,A3,AU,RI,C5,lD]
 |some q=>
  rw[hO]at qb b7
  simp only at qb b7
  obtain⟨d1,d2,d3,d4⟩:=ARE hc hO
  cases hs:(HE c ws).2 with
  |false=>
   rw[hs]at qT
   generalize (HE c ws).1=ss at *
   generalize (AY c []).map A7=GG at *
   generalize ss.map AF=SS at *
   generalize (q.1.map spt).map AF=QQ at *
   generalize FM c=SR at *
   simp only[AD,AC,QU,IJ]at qr qT qb qs qG qC⊢
   simp[c11,AG,qr,qT,qb,qs,qG,qC,e7,e8,g8,e8b,g8b,b7,AJ,AM,AF,JF,AS,A3,AU,RI,C5]
  |true=>
  rw[hs]at qT
  have hss:=hss hs
  generalize (HE c ws).1=ss at *
  cases hA:HS c (FM c) ss with
  |false=>
   rw[hA]at qA
   generalize (AY c []).map A7=GG at *
   generalize ss.map AF=SS at *
   generalize (q.1.map spt).map AF=QQ at *
   generalize FM c=SR at *
   simp only[AD,AC,QU,IJ]at qr qT qb qs qG qA qC⊢
   simp[c11,AG,qr,qT,qb,qs,qG,qA,qC,e7,e8,g8,e8b,g8b,b7,AJ,AM,AF,JF,AS,A3,AU,RI,C5]
  |true=>
  rw[hA]at qA
  have hl:=(LV hc hss).1
  obtain⟨b1,b2⟩:=AMO h0 hO hA
  have qS:=fun n=>AMG n ss (by omega)
  have qSun:∀n,A0 Tryz.prog kn (AE Tryz.prog ann kn (n+500)) 37 [G5 (FM c),.list false ((AY c []).map A7),.list false (ss.map AF)]=some (i (oJ c ss)):=fun n=>A72 c hc (FM c) (oF hc) (AY c []) ss (fun g hg=>by have:=hgm g hg;omega) (by omega) (by omega) (AF4 hss) n
  have qCar:∀n,A0 Tryz.prog kn (AE Tryz.prog ann kn (n+500)) 38 [.agg (AD c),.list false ((AY c []).map A7),.list false (ss.map AF)]=some (i (ACU c ss)):=fun n=>AF3 c hc (AY c []) ss (fun g hg=>by have:=hgm g hg;omega) (by omega) (by omega) (AF4 hss) n
  have qP1:=fun n=>yX n c l4 (by omega) ss (q.2.sun+1) 99
  have qP2:=fun n=>yX n c l4 (by omega) ss q.2.sun (q.2.carried-1)
  have v1:WP c ss (q.2.sun+1) 99=false:=by rw[zC h0,decide_eq_false (show ¬q.2.sun+1≤oJ c ss by omega)];simp
  have v2:WP c ss q.2.sun (q.2.carried-1)=false:=by
   rw[zC h0];by_cases h:q.2.sun≤oJ c ss
   ·rw[decide_eq_false (show ¬ACU c ss≤q.2.carried-1 by omega)];simp
   ·rw[decide_eq_false h];simp
  rw[v1]at qP1
  rw[v2]at qP2
  have w1:IntKind.i64.wrap (q.2.sun+1)=q.2.sun+1:=AV (by omega) (by omega)
  have w2:IntKind.i64.wrap (q.2.carried-1)=q.2.carried-1:=AV (by omega) (by omega)
  generalize oJ c ss=S at *
  generalize ACU c ss=R at *
  generalize q.2.sun=X at *
  generalize q.2.carried=Y at *
  generalize (AY c []).map A7=GG at *
  generalize ss.map AF=SS at *
  generalize (q.1.map spt).map AF=QQ at *
  generalize FM c=SR at *
  simp only[AD,AC,QU,IJ]at qr qT qb qs qG qA qC qS qSun qCar qP1 qP2⊢
  by_cases h:S<X
  ·simp[c11,AG,qr,qT,qb,qs,qG,qA,qC,qS,qSun,qCar,qP1,qP2,b1,h,w1,w2,e7,e8,g8,e8b,g8b,b7,AJ,AM,AF,JF,AS,A3,AU,RI,C5]
  ·have h2:Y≤R:=by omega
   simp[c11,AG,qr,qT,qb,qs,qG,qA,qC,qS,qSun,qCar,qP1,qP2,b1,h,h2,w1,w2,e7,e8,g8,e8b,g8b,b7,AJ,AM,AF,JF,AS,A3,AU,RI,C5]
end Go.Proofs.Tryz.Op
