/- The law walk SeatNoBetter. No condition. -/
import Derived.Test.YthhdhbalenanjaaGreatD2
import Derived.Test.YthhdhbalenanjaaGreatZ1
import Derived.Test.YthhdhbalenanjaaGreatC2
open Go.Proofs.Tryz renaming prog->bq
open List renaming all_eq_true->bj,mem_map->bk
set_option maxRecDepth 100000
set_option linter.unusedSimpArgs false
open Go Go.Pg Go.Proofs Go.Wind
namespace Go.Proofs.Tryz.Op
theorem APE{c:AV}(hc:B5 c){q:List Sp×CE}(hb:JZ c=some q):0<=q.2.sun/\q.2.sun<=100/\0<=q.2.carried/\q.2.carried<=100:=by
 obtain⟨b,t⟩:=q;obtain⟨h1,h2,_⟩:=fW hb;have hO:=jH.1 h1;have hl:b.length=c.fams.length:=by have:=congrArg List.length hO.gr;rw[List.length_map,C3]at this;exact this
 have hfl:=hc.fl;have:=vN hc (l:=b) fun x hx=>by
  have hg:=IV hc [] _ (Nat.le_refl _) (wM x) (by
   show wM x∈AY c [];rw[<- hO.gr];exact bk.2 ⟨x,hx,rfl⟩)
  exact⟨((AKD.1 hO).2.1 x hx).1,hg.1,Int.le_trans (by decide) hg.2.1,hg.2.2⟩
 simp only;rw[h2];omega
theorem VT{ss:List (Int×Int)}(f:Nat):∀e∈ss.map AF,∀v∈e,AH (f+1) v=true:=fun e he v hv=>by obtain⟨l,_,rfl⟩:=bk.1 he;simp only[AF,List.mem_cons,List.not_mem_nil,or_false]at hv;rcases hv with rfl|rfl<;>rfl
theorem sD{G:List (Nat×Int)}(f:Nat):∀e∈G.map AZ,∀v∈e,AH (f+1) v=true:=fun e he v hv=>by obtain⟨l,_,rfl⟩:=bk.1 he;simp only[AZ,List.mem_cons,List.not_mem_nil,or_false]at hv;rcases hv with rfl|rfl<;>rfl
set_option maxHeartbeats 4000000 in
theorem fU(n:Nat)(c:AV)(_:okC c)(ws:List Nat)(hws:∀w∈ws,w<=65535):E5 bq (AE bq ann kn (n+9800)) 11 [.agg (AD c),.list false (ws.map I4)]=some (.bool true):=by
 rw[AP Tryz.func11 b11 rfl (by simp[AD,AJ,AL,AF,AR,A4,AS,I4])];have qr:=fun n=>APD n c;cases hR:lV c with
 |false=>
  rw[hR]at qr
  simp only[AD]at qr|-
  simp[c11,AG,qr,AJ,AL,AF,I4,AR,A4,AS,QT]
 |true=>
 rw[hR]at qr;simp only[lV,Bool.and_eq_true,decide_eq_true_eq]at hR;obtain⟨hT,h0⟩:=hR;have hc:=KC h0;obtain⟨t1,t2,t3,t4,t5,t6⟩:=RT hT;obtain⟨l1,l2,l3,l4,l5,l6⟩:=eK t1;have hfl:=hc.fl;have hgl:=C3 c;have hgm:∀g∈AY c [],g.1<c.fams.length/\1<=g.2/\g.2<=4:=fun g hg=>IV hc [] _ (Nat.le_refl _) g hg;have qT:=fun n=>AZC n c hc ws hws;have hss:(G8 c ws).2=true->D3 c (G8 c ws).1=true:=fun hs=>by have h:=hs;unfold G8 at h|-;split at h<;>simp_all
 have qb:=fun n=>ATA n c l4 (by omega);have qs:=fun n=>ATI n c hc;have qG:∀n,A2 bq kn (AE bq ann kn (n+200)) 26 [.agg (AD c),i 0]=some (sl ((HP c 0).map AZ)):=fun n=>mS n c (by omega) 0;rw[jF]at qG;have qA:=fun n=>sU n c hc (FC c) (mU hc) (AY c []) (G8 c ws).1 (by omega) hgm;rw[mW hc]at qA;have qC:=fun n=>ATF n c hT;have e7:=eq_true (VT (ss:=(G8 c ws).1) 6);have e8:=eq_true (VT (ss:=(G8 c ws).1) 7);have g8:=eq_true (sD (G:=AY c []) 7);have b7:=eq_true (VT (ss:=(RP c).1) 6);have e8b:((G8 c ws).1.map AF).all (fun e=>e.all (AH 8))=true:=bj.2 fun e he=>bj.2 fun v hv=>VT 7 e he v hv;have g8b:((AY c []).map AZ).all (fun e=>e.all (AH 8))=true:=bj.2 fun e he=>bj.2 fun v hv=>sD 7 e he v hv;have cS:(V.list false ((FC c).map AL))=GW (FC c):=rfl;unfold RP at qb b7;rw[if_neg (by simp[h0])]at qb b7;cases hO:JZ c with
 |none=>
  rw[hO]at qb
  simp only at qb
  have hno:=AKT h0 hO
  rw[hno]at qA
  generalize (G8 c ws).1=ss at *
  generalize (AY c []).map AZ=GG at *
  generalize ss.map AF=SS at *
  generalize FC c=SR at *
  simp only[AD,AC,P7,ID]at qr qT qb qs qG qA qC|-
  simp[jM]at qb
  cases hs:(G8 c ws).2<;>rw[hs]at qT<;>simp[c11,AG,qr,qT,qb,qs,qG,qA,qC,e7,e8,g8,AJ,AL,AF,I4,AR,A4,AS,QT,C0,jM]
 |some q=>
  rw[hO]at qb b7
  simp only at qb b7
  obtain⟨d1,d2,d3,d4⟩:=APE hc hO
  cases hs:(G8 c ws).2 with
  |false=>
   rw[hs]at qT
   generalize (G8 c ws).1=ss at *
   generalize (AY c []).map AZ=GG at *
   generalize ss.map AF=SS at *
   generalize (q.1.map spt).map AF=QQ at *
   generalize FC c=SR at *
   simp only[AD,AC,P7,ID]at qr qT qb qs qG qC|-
   simp[c11,AG,qr,qT,qb,qs,qG,qC,e7,e8,g8,e8b,g8b,b7,AJ,AL,AF,I4,AR,A4,AS,QT,C0]
  |true=>
  rw[hs]at qT
  have hss:=hss hs
  generalize (G8 c ws).1=ss at *
  cases hA:HM c (FC c) ss with
  |false=>
   rw[hA]at qA
   generalize (AY c []).map AZ=GG at *
   generalize ss.map AF=SS at *
   generalize (q.1.map spt).map AF=QQ at *
   generalize FC c=SR at *
   simp only[AD,AC,P7,ID]at qr qT qb qs qG qA qC|-
   simp[c11,AG,qr,qT,qb,qs,qG,qA,qC,e7,e8,g8,e8b,g8b,b7,AJ,AL,AF,I4,AR,A4,AS,QT,C0]
  |true=>
  rw[hA]at qA
  have hl:=(P5 hc hss).1
  obtain⟨b1,b2⟩:=AKU h0 hO hA
  have qS:=fun n=>AKM n ss (by omega)
  have qSun:∀n,A2 bq kn (AE bq ann kn (n+500)) 37 [GW (FC c),.list false ((AY c []).map AZ),.list false (ss.map AF)]=some (i (mY c ss)):=fun n=>A5H c hc (FC c) (mU hc) (AY c []) ss (fun g hg=>by have:=hgm g hg;omega) (by omega) (by omega) (AEC hss) n
  have qCar:∀n,A2 bq kn (AE bq ann kn (n+500)) 38 [.agg (AD c),.list false ((AY c []).map AZ),.list false (ss.map AF)]=some (i (AA5 c ss)):=fun n=>AEB c hc (AY c []) ss (fun g hg=>by have:=hgm g hg;omega) (by omega) (by omega) (AEC hss) n
  have qP1:=fun n=>wV n c l4 (by omega) ss (q.2.sun+1) 99
  have qP2:=fun n=>wV n c l4 (by omega) ss q.2.sun (q.2.carried-1)
  have v1:V2 c ss (q.2.sun+1) 99=false:=by rw[wZ h0,decide_eq_false (show ¬q.2.sun+1<=mY c ss by omega)];simp
  have v2:V2 c ss q.2.sun (q.2.carried-1)=false:=by
   rw[wZ h0];by_cases h:q.2.sun<=mY c ss
   ·rw[decide_eq_false (show ¬AA5 c ss<=q.2.carried-1 by omega)];simp
   ·rw[decide_eq_false h];simp
  rw[v1]at qP1
  rw[v2]at qP2
  have w1:IntKind.i64.wrap (q.2.sun+1)=q.2.sun+1:=AU (by omega) (by omega)
  have w2:IntKind.i64.wrap (q.2.carried-1)=q.2.carried-1:=AU (by omega) (by omega)
  generalize mY c ss=S at *
  generalize AA5 c ss=R at *
  generalize q.2.sun=X at *
  generalize q.2.carried=Y at *
  generalize (AY c []).map AZ=GG at *
  generalize ss.map AF=SS at *
  generalize (q.1.map spt).map AF=QQ at *
  generalize FC c=SR at *
  simp only[AD,AC,P7,ID]at qr qT qb qs qG qA qC qS qSun qCar qP1 qP2|-
  by_cases h:S<X
  ·simp[c11,AG,qr,qT,qb,qs,qG,qA,qC,qS,qSun,qCar,qP1,qP2,b1,h,w1,w2,e7,e8,g8,e8b,g8b,b7,AJ,AL,AF,I4,AR,A4,AS,QT,C0]
  ·have h2:Y<=R:=by omega
   simp[c11,AG,qr,qT,qb,qs,qG,qA,qC,qS,qSun,qCar,qP1,qP2,b1,h,h2,w1,w2,e7,e8,g8,e8b,g8b,b7,AJ,AL,AF,I4,AR,A4,AS,QT,C0]
end Go.Proofs.Tryz.Op
