/- The walk of SeasonPlays: true. No condition. -/
import Derived.Test.YtmnlpgjklibndaaGreatD1
open Go.Proofs.Tryz renaming prog->bq
set_option maxRecDepth 100000
set_option linter.unusedSimpArgs false
open Go Go.Pg Go.Proofs Go.Season
namespace Go.Proofs.Tryz.Op
theorem ABT(n:Nat)(d:Option Tmp)(st:XS):NS (BU bq ann kn n) d st 20 []=C4 d st (some (.bool true)):=by rw[WS d rfl (by simp)];rfl
def dF(c:DR):Bool:=iC c.book&&(decide (c.wits.length<=6)&&(decide (c.claims.length<=6)&&c.wits.all fun l=>decide (l.length<=6)))
theorem AFM(n:Nat)(c:DR)(hw:c.wits.length<=90):∀(d k m:Nat),k+d=c.wits.length->d<m ->
  BQ (AF bq ann kn (n+50) 34) UR (ann 34 (CO UR)) m ⟨1,[(1,true,.ptr 0 1 0 0),(3,true,i k)],⟨[],[(1,0,.box (AH c))]⟩⟩ =
   bif (c.wits.drop k).all (fun l=>decide (l.length<=6)) then some (.exit 0,⟨1,[(24,true,.bool false),(23,true,i c.wits.length),(22,true,.list false (c.wits.map AR)),(21,true,.ptr 0 1 0 5),(20,true,i c.wits.length),(1,true,.ptr 0 1 0 0),(3,true,i c.wits.length)],⟨[],[(1,0,.box (AH c))]⟩⟩)
   else some (.ret,⟨1,[(2,true,.bool false)],⟨[],[]⟩⟩)
 |0,k,m+1,hd,hm=>by
  have:k=c.wits.length:=by omega
  subst this;simp[AE,AH]
 |d+1,k,m+1,hd,hm=>by
  have hk:k<c.wits.length:=by omega
  have hwk:=GP (k:=k) (by omega);have ih:=AFM n c hw d (k+1) m (by omega) (by omega);rw[AE,List.drop_eq_getElem_cons hk];simp only[List.all_cons];generalize e:decide (c.wits[k].length<=6)=b;have e':decide ((6:Int)<(c.wits[k].length:Int))=!b:=by rw[<-e];exact H7 (by omega)
  simp only[AH]at ih|-;try simp at ih
  cases b<;>simp[hk,hwk,AR,AD,e',ih]
theorem AIG(n:Nat)(c:DR):A4 bq kn (AF bq ann kn (n+600)) 19 [.agg (AH c)]=some (.bool (dF c)):=by
 rw[AP rfl,AQ Tryz.func19 b19 rfl (by simp[AH,AD,AN,AM,AR])];have qT:=fun n=>k19 n c.book;unfold dF;simp only[AC]at qT;generalize iC c.book=t at qT|-;generalize e1:decide (c.wits.length<=6)=b1;have e1':decide ((6:Int)<(c.wits.length:Int))=!b1:=by rw[<-e1];exact H7 (by omega)
 generalize e2:decide (c.claims.length<=6)=b2;have e2':decide ((6:Int)<(c.claims.length:Int))=!b2:=by rw[<-e2];exact H7 (by omega)
 cases t with
 |false=>simp[c19,AJ,AH,qT,AD,AN,AM,AR]
 |true=>
  cases b1 with
  |false=>simp[c19,AJ,AH,qT,e1',AD,AN,AM,AR]
  |true=>
   cases b2 with
   |false=>simp[c19,AJ,AH,qT,e1',e2',AD,AN,AM,AR]
   |true=>
    have hw:c.wits.length<=6:=by simpa using e1
    have q:=AFM (n+544) c (by omega) c.wits.length 0 (n+594) (by omega) (by omega)
    simp only[List.drop_zero,Nat.add_assoc,Nat.reduceAdd,Int.natCast_zero]at q
    generalize (c.wits.all fun l=>decide (l.length<=6))=b3 at q|-
    simp only[AH]at q
    cases b3<;>(try simp at q)<;>simp[c19,AJ,AH,qT,e1',e2',q,AD,AN,AM,AR]
theorem ABU(n:Nat)(c:DR)(hc:c.claims.length<=90)(hw:c.wits.length<=90)(hx:∀l∈c.wits,l.length<=90):A4 bq kn (AF bq ann kn (n+5200)) 25 [.agg (AH c)]=some (i (EG c)):=by rw[AP rfl,AQ Tryz.func25 b25 rfl (by simp[AH,AD,AN,AM,AR])];have q:=fun n=>ABS n c hc hw hx;simp only[AH]at q|-;simp[c25,AJ,q,AD,AN,AM,AR]
theorem AFN(n:Nat)(c:DR)(ls:List AK)(B:List (List V))(cc:Nat)(hl:ls.length<=90)(hn:c.claims.length<=90)(h:∀w∈c.claims,LQ ls.length w):∀(d k m:Nat),k+d=c.claims.length->d<m ->
  BQ (AF bq ann kn (n+250) 136) PQ (ann 136 (CO PQ)) m ⟨cc,[(1,true,.list false (ls.map AD)),(2,true,.ptr 0 2 0 0),(5,true,sl ((c.claims.map (BI ls)).map CA)),(6,true,sl B),(10,true,i k)],⟨[],[(2,0,.box (AH c))]⟩⟩ =
   some (.exit 0,⟨cc,[(102,true,.bool false),(101,true,i c.claims.length),(100,true,sl ((c.claims.map (BI ls)).map CA)),(99,true,i c.claims.length),(1,true,.list false (ls.map AD)),(2,true,.ptr 0 2 0 0),(5,true,sl ((c.claims.map (BI ls)).map CA)),(6,true,sl B),(10,true,i c.claims.length)],⟨[],[(2,0,.box (AH c))]⟩⟩)
 |0,k,m+1,hd,hm=>by
  have:k=c.claims.length:=by omega
  subst this;simp[AE,AH]
 |d+1,k,m+1,hd,hm=>by
  have hk:k<c.claims.length:=by omega
  have hwk:=GP (k:=k) (by omega);have q:=fun n=>nA n ls c.claims[k] hl (h _ (List.getElem_mem hk));have ih:=AFN n c ls B cc hl hn h d (k+1) m (by omega) (by omega);have hg:((c.claims.map (BI ls)).map CA)[k]? = some [.bool (BI ls c.claims[k])]:=by simp[hk,CA]
  have hlen:((c.claims.map (BI ls)).map CA).length=c.claims.length:=by simp
  rw[AE];generalize BI ls c.claims[k]=b at q hg;generalize (c.claims.map (BI ls)).map CA=A at ih hg hlen|-;have hkA:k<A.length:=by omega
  have hge:A[k]=[.bool b]:=by rw[List.getElem?_eq_getElem hkA]at hg;exact Option.some.inj hg
  simp only[AH,AM]at q ih|-;try simp at ih
  simp[hk,hwk,AM,AR,AD,AN,q,hge,hlen,ih]
theorem AFO(n:Nat)(c:DR)(ls:List AK)(cc:Nat)(hl:ls.length<=90)(hn:c.wits.length<=90)(h:∀l∈c.wits,l.length<=90/\∀w∈l,LQ ls.length w):∀(d k m:Nat),k+d=c.wits.length->d<m ->
  BQ (AF bq ann kn (n+350) 136) PR (ann 136 (CO PR)) m ⟨cc,[(1,true,.list false (ls.map AD)),(2,true,.ptr 0 2 0 0),(6,true,sl ((c.wits.map fun l=>!l.all (BI ls)).map CA)),(11,true,i k)],⟨[],[(2,0,.box (AH c))]⟩⟩ =
   some (.exit 2,⟨cc,[(120,true,.bool false),(119,true,i c.wits.length),(118,true,sl ((c.wits.map fun l=>!l.all (BI ls)).map CA)),(117,true,i c.wits.length),(1,true,.list false (ls.map AD)),(2,true,.ptr 0 2 0 0),(6,true,sl ((c.wits.map fun l=>!l.all (BI ls)).map CA)),(11,true,i c.wits.length)],⟨[],[(2,0,.box (AH c))]⟩⟩)
 |0,k,m+1,hd,hm=>by
  have:k=c.wits.length:=by omega
  subst this;simp[AE,AH]
 |d+1,k,m+1,hd,hm=>by
  have hk:k<c.wits.length:=by omega
  have hwk:=GP (k:=k) (by omega);obtain⟨g1,g2⟩:=h _ (List.getElem_mem hk);have q:=fun n=>uW n ls c.wits[k] hl g1 g2;have ih:=AFO n c ls cc hl hn h d (k+1) m (by omega) (by omega);have hg:((c.wits.map fun l=>!l.all (BI ls)).map CA)[k]? = some [.bool (!c.wits[k].all (BI ls))]:=by simp[hk,CA]
  have hlen:((c.wits.map fun l=>!l.all (BI ls)).map CA).length=c.wits.length:=by simp
  rw[AE];generalize (!c.wits[k].all (BI ls))=b at q hg;generalize (c.wits.map fun l=>!l.all (BI ls)).map CA=A at ih hg hlen|-;have hkA:k<A.length:=by omega
  have hge:A[k]=[.bool b]:=by rw[List.getElem?_eq_getElem hkA]at hg;exact Option.some.inj hg
  simp only[AH]at q ih|-;try simp at ih
  simp[hk,hwk,AM,AR,AD,AN,q,hge,hlen,ih]
theorem pQ{c:DR}(h:dF c=true):c.book.lines.length<=10/\c.book.counts.length<=6/\c.wits.length<=6/\c.claims.length<=6/\∀l∈c.wits,l.length<=6:=by simp only[dF,iC,Bool.and_eq_true,decide_eq_true_eq]at h;exact⟨h.1.1,h.1.2.1,h.2.1,h.2.2.1,fun l hl=>by simpa using List.all_eq_true.1 h.2.2.2 l hl⟩
theorem Z3(n:Nat)(c:DR)(ls:List AK)(hts:∀t∈ls,ZN t):A4 bq kn (AF bq ann kn (n+5500)) 15 [.agg (AH c),.list false (ls.map AD)]=some (.bool true):=by
 rw[AP rfl,AQ Tryz.func15 b15 rfl (by simp[AH,AD,AN,AM,AR])];have qA:=fun n d st=>ABT n d st;have qT:=fun n=>AIG n c;cases ht:dF c with
 |false=>
  rw[ht]at qT
  simp only[AH]at qT|-
  simp[c15,AJ,qT,qA,AD,AN,AM,AR]
 |true=>
  rw[ht]at qT
  generalize e1:decide (11<ls.length)=b1
  have e1':decide ((11:Int)<(ls.length:Int))=b1:=by rw[<-e1];congr 1;apply propext;omega
  cases b1 with
  |true=>
   simp only[AH]at qT|-
   simp[c15,AJ,qT,qA,e1',AD,AN,AM,AR]
  |false=>
   have hl:ls.length<=11:=by simpa using e1
   obtain⟨t1,t2,t3,t4,t5⟩:=pQ ht
   have qC:=fun n=>AIF n c (by omega) (by omega) (by omega) (fun l hl=>by have:=t5 l hl;omega) (by omega)
   have qL:=fun n=>k35 n ls (by omega)
   have qP:=fun n=>AH6 n c ls hts (by omega)
   have qV:=fun n=>ABN n c ls hts (by omega)
   have qK:=fun n=>ZZ n c
   have qF:=fun n=>ABU n c (by omega) (by omega) (fun l hl=>by have:=t5 l hl;omega)
   unfold uL at qP
   unfold uJ at qV
   by_cases he:EG c=0
   ·have ok:=Z0 he;have hf:DL c.book=0:=by rw[<-Q1];exact ok.book
    have qX:=fun n=>k56 n c.book hf ls (by omega);have hpe:HC c.book ls=Q0 c.book ls:=by rw[iG,hf];rfl
    rw[if_pos he]at qP;rw[he]at qV qK qF;rw[hpe]at qP qV;cases hb:Q0 c.book ls with
    |false=>
     rw[hb]at qP qV qX
     simp only[AH,AC,UI]at qT qC qP qV qK qF qX|-
     simp[c15,AJ,qT,qA,e1',qC,qL,qP,qV,qK,qF,qX,AD,AN,AM,AR]
    |true=>
     have hll:=OT (hpe.trans hb)
     rw[hb]at qP qV qX
     have hcw:∀w∈c.claims,LQ ls.length w:=fun w hw=>by rw[hll];exact ok.cw w hw
     have hww:∀l∈c.wits,∀w∈l,LQ ls.length w:=fun l hm w hw=>by rw[hll];exact ok.ww l hm w hw
     have qR:=fun n=>ABR n c ls (by omega) (by omega) (fun l hm=>⟨by have:=t5 l hm;omega,hww l hm⟩)
     have r1:=AFN (n+5237) c ls ((c.wits.map fun l=>!l.all (BI ls)).map CA) 1 (by omega) (by omega) hcw c.claims.length 0 (n+5487) (by omega) (by omega)
     have r2:=AFO (n+5136) c ls 1 (by omega) (by omega) (fun l hm=>⟨by have:=t5 l hm;omega,hww l hm⟩) c.wits.length 0 (n+5486) (by omega) (by omega)
     have lA:((c.claims.map (BI ls)).map CA).length=c.claims.length:=by simp
     have lB:((c.wits.map fun l=>!l.all (BI ls)).map CA).length=c.wits.length:=by simp
     generalize (c.claims.map (BI ls)).map CA=A at qP r1 lA
     generalize (c.wits.map fun l=>!l.all (BI ls)).map CA=B at qP r1 r2 lB
     generalize Q9 c ls=Q at qV qR
     simp only[AH,AC,UI,Nat.add_assoc,Nat.reduceAdd,Int.natCast_zero]at qT qC qP qV qK qF qX qR r1 r2|-
     try simp at r1 r2
     simp[c15,AJ,qT,qA,e1',qC,qL,qP,qV,qK,qF,qX,qR,lA,lB,gK,AD,AN,AM,AR]
     simp[r1]
     simp[r2,qA]
   ·have hd:decide (EG c=0)=false:=by simpa using he
    rw[if_neg he]at qP;rw[hd]at qV;generalize EG c=E at qP qK qF he hd;simp only[AH,UI]at qT qC qP qV qK qF|-;simp[c15,AJ,qT,qA,e1',qC,qL,qP,qV,qK,qF,hd,he,AD,AN,AM,AR]
end Go.Proofs.Tryz.Op
