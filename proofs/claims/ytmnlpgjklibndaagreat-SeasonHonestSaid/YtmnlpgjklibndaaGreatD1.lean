/- Contracts of season's reference: isWord, IsTrue, Lies, Liars, Fault. No condition. -/
import Derived.Test.YtmnlpgjklibndaaGreatC1
import Derived.Test.YtmnlpgjklibndaaGreatT1
open Go.Proofs.Tryz renaming prog->bn
open List renaming drop_eq_getElem_cons->bj,drop_zero->bz,getElem_mem->bc,all_cons->bf,mem_cons_of_mem->bg,map_nil->bh
open Int renaming natCast_zero->bq
open Nat renaming add_assoc->bw,reduceAdd->bx
set_option maxRecDepth 100000
set_option linter.unusedSimpArgs false
open Go Go.Pg Go.Proofs Go.Season
namespace Go.Proofs.Tryz.Op
theorem AAR(n:Nat)(c:BF)(w:Wrd)(h1:1<=c.book.chairs)(h4:c.book.chairs<=4):A4 bn kn (AG bn ann kn (n+200)) 121 [.agg (AD c),.agg (AJ w)]=some (.bool (DU c w)):=by rw[AP rfl,AQ Tryz.func121 BBA rfl (by simp[AD,AB,AN,AJ,AM])];have hw:IntKind.i64.wrap (c.book.chairs-1)=c.book.chairs-1:=AV (by omega) (by omega);have q:=fun n x lo hi=>k25 n x lo hi;unfold DU;generalize e1:EW w.after 0 c.book.lines.length=b1;generalize e2:EW w.num 0 (c.book.chairs-1)=b2;simp[A0V,AH,AD,AJ,q,e1,e2,hw];cases b1<;>(try simp[e2,q,hw])
theorem sV(n:Nat)(c:BF)(hw:c.wits.length<=90):∀(d k m:Nat),k+d=c.wits.length->d<m ->
  BR (AG bn ann kn (n+50) 89) W0 (ann 89 (CU W0)) m ⟨1,[(1,true,.ptr 0 1 0 0),(3,true,i k)],⟨[],[(1,0,.box (AD c))]⟩⟩ =
   bif (c.wits.drop k).all (fun l=>decide (l.length<=4)) then some (.exit 0,⟨1,[(22,true,.bool false),(21,true,i c.wits.length),(20,true,.list false (c.wits.map AM)),(19,true,.ptr 0 1 0 5),(18,true,i c.wits.length),(1,true,.ptr 0 1 0 0),(3,true,i c.wits.length)],⟨[],[(1,0,.box (AD c))]⟩⟩)
   else some (.ret,⟨1,[(2,true,i 3)],⟨[],[]⟩⟩)
 |0,k,m+1,hd,hm=>by
  have:k=c.wits.length:=by omega
  subst this;simp[AE,AD]
 |d+1,k,m+1,hd,hm=>by
  have hk:k<c.wits.length:=by omega
  have hwk:=FB (k:=k) (by omega);have ih:=sV n c hw d (k+1) m (by omega) (by omega);rw[AE,bj hk];simp only[bf];generalize e:decide (c.wits[k].length<=4)=b;have e':decide ((4:Int)<(c.wits[k].length:Int))=!b:=by rw[<-e];exact JE (by omega)
  simp only[AD]at ih|-;try simp at ih
  cases b<;>simp[hk,hwk,AM,AB,e',ih]
theorem sW(n:Nat)(c:BF)(h1:1<=c.book.chairs)(h4:c.book.chairs<=4)(hw:c.claims.length<=90):∀(d k m:Nat),k+d=c.claims.length->d<m ->
  BR (AG bn ann kn (n+250) 89) RI (ann 89 (CU RI)) m ⟨1,[(1,true,.ptr 0 1 0 0),(5,true,i k)],⟨[],[(1,0,.box (AD c))]⟩⟩ =
   bif (c.claims.drop k).all (DU c) then some (.exit 2,⟨1,[(50,true,.bool false),(49,true,i c.claims.length),(48,true,.list false (c.claims.map AJ)),(47,true,.ptr 0 1 0 7),(46,true,i c.claims.length),(1,true,.ptr 0 1 0 0),(5,true,i c.claims.length)],⟨[],[(1,0,.box (AD c))]⟩⟩)
   else some (.ret,⟨1,[(2,true,i 1)],⟨[],[]⟩⟩)
 |0,k,m+1,hd,hm=>by
  have:k=c.claims.length:=by omega
  subst this;simp[AE,AD]
 |d+1,k,m+1,hd,hm=>by
  have hk:k<c.claims.length:=by omega
  have hwk:=FB (k:=k) (by omega);have q:=fun n=>AAR n c c.claims[k] h1 h4;have ih:=sW n c h1 h4 hw d (k+1) m (by omega) (by omega);rw[AE,bj hk];simp only[bf];generalize DU c c.claims[k]=b at q;simp only[AD,AJ]at q ih|-;try simp at ih
  cases b<;>simp[hk,hwk,AM,AJ,AB,AN,q,ih]
theorem sX(n:Nat)(c:BF)(h1:1<=c.book.chairs)(h4:c.book.chairs<=4)(j:Nat)(hj:j<c.wits.length)(hx:c.wits[j].length<=90):∀(d k m:Nat),k+d=c.wits[j].length->d<m ->
  BR (AG bn ann kn (n+250) 89) RJ (ann 89 (CU RJ)) m ⟨1,[(1,true,.ptr 0 1 0 0),(6,true,i j),(7,true,i k)],⟨[],[(1,0,.box (AD c))]⟩⟩ =
   bif (c.wits[j].drop k).all (DU c) then some (.exit 6,⟨1,[(75,true,.bool false),(74,true,i c.wits[j].length),(73,true,NH c.wits[j]),(72,true,.ref (AM c.wits[j])),(71,true,i j),(70,true,.list false (c.wits.map AM)),(69,true,.ptr 0 1 0 5),(68,true,i c.wits[j].length),(1,true,.ptr 0 1 0 0),(6,true,i j),(7,true,i c.wits[j].length)],⟨[],[(1,0,.box (AD c))]⟩⟩)
   else some (.ret,⟨1,[(2,true,i 1)],⟨[],[]⟩⟩)
 |0,k,m+1,hd,hm=>by
  have:k=c.wits[j].length:=by omega
  subst this;simp[AE,AD,hj,AM]
 |d+1,k,m+1,hd,hm=>by
  have hk:k<c.wits[j].length:=by omega
  have hwk:=FB (k:=k) (by omega);have q:=fun n=>AAR n c c.wits[j][k] h1 h4;have ih:=sX n c h1 h4 j hj hx d (k+1) m (by omega) (by omega);rw[AE,bj hk];simp only[bf];generalize DU c c.wits[j][k]=b at q;simp only[AD,AJ]at q ih|-;try simp at ih
  cases b<;>simp[hj,hk,hwk,AM,AJ,AB,AN,q,ih]
theorem sY(n:Nat)(c:BF)(h1:1<=c.book.chairs)(h4:c.book.chairs<=4)(hw:c.wits.length<=90)(hx:∀l∈c.wits,l.length<=90):∀(d k m:Nat),k+d=c.wits.length->d<m ->
  BR (AG bn ann kn (n+350) 89) RK (ann 89 (CU RK)) m ⟨1,[(1,true,.ptr 0 1 0 0),(6,true,i k)],⟨[],[(1,0,.box (AD c))]⟩⟩ =
   bif (c.wits.drop k).all (fun l=>l.all (DU c)) then some (.exit 4,⟨1,[(65,true,.bool false),(64,true,i c.wits.length),(63,true,.list false (c.wits.map AM)),(62,true,.ptr 0 1 0 5),(61,true,i c.wits.length),(1,true,.ptr 0 1 0 0),(6,true,i c.wits.length)],⟨[],[(1,0,.box (AD c))]⟩⟩)
   else some (.ret,⟨1,[(2,true,i 1)],⟨[],[]⟩⟩)
 |0,k,m+1,hd,hm=>by
  have:k=c.wits.length:=by omega
  subst this;simp[AE,AD]
 |d+1,k,m+1,hd,hm=>by
  have hk:k<c.wits.length:=by omega
  have hwk:=FB (k:=k) (by omega);have q:=sX (n+94) c h1 h4 k hk (hx _ (bc hk)) c.wits[k].length 0 (n+344) (by omega) (by have:=hx _ (bc hk);omega);have ih:=sY n c h1 h4 hw hx d (k+1) m (by omega) (by omega);rw[AE,bj hk];simp only[bf,bz,bw,bx,bq]at q|-;generalize c.wits[k].all (DU c)=b at q;simp only[AD]at q ih|-;try simp at ih q
  cases b<;>(try simp at q)<;>simp[hk,hwk,AM,AJ,AB,AN,q,ih]
theorem AGF(n:Nat)(c:BF)(hc:c.claims.length<=90)(hw:c.wits.length<=90)(hx:∀l∈c.wits,l.length<=90):A4 bn kn (AG bn ann kn (n+5100)) 73 [.agg (AD c)]=some (i (EB c)):=by
 rw[AP rfl,AQ Tryz.func73 b73 rfl (by simp[AD,AB,AN,AJ,AM])];unfold EB;generalize e1:decide (4<c.wits.length)=b1;have e1':decide ((4:Int)<(c.wits.length:Int))=b1:=by rw[<-e1];congr 1;apply propext;omega
 generalize e2:decide (4<c.claims.length)=b2;have e2':decide ((4:Int)<(c.claims.length:Int))=b2:=by rw[<-e2];congr 1;apply propext;omega
 cases b1 with
 |true=>simp[c73,AH,AD,e1',AB,AN,AJ,AM]
 |false=>
  cases b2 with
  |true=>simp[c73,AH,AD,e1',e2',AB,AN,AJ,AM]
  |false=>
   have qA:=sV (n+5044) c hw c.wits.length 0 (n+5094) (by omega) (by omega)
   simp only[bz,bw,bx,bq]at qA
   generalize (c.wits.all fun l=>decide (l.length<=4))=b3 at qA|-
   simp only[AD]at qA
   try simp at qA
   cases b3 with
   |false=>
    try simp at qA
    simp[c73,AH,AD,e1',e2',qA,AB,AN,AJ,AM]
   |true=>
    try simp at qA
    have qF:=fun n=>k67 n c.book
    unfold D8
    rw[OP]
    by_cases hf:DN c.book=0
    ·obtain⟨h1,h4,_⟩:=I3 hf;have qP:=fun n=>k88 n c.book hf;rw[hf]at qF|-;simp only[if_true];simp only[AC]at qF qP;generalize OR c.book=p at qP|-;cases p with
     |false=>simp[c73,AH,AD,e1',e2',qA,qF,qP,AB,AN,AJ,AM]
     |true=>
      simp only[if_true]
      have qI:=fun n x lo hi=>k25 n x lo hi
      generalize e4:EW c.liars 0 4=b4
      cases b4 with
      |false=>simp[c73,AH,AD,e1',e2',qA,qF,qP,qI,e4,AB,AN,AJ,AM]
      |true=>
       have qB:=sW (n+4840) c h1 h4 hc c.claims.length 0 (n+5090) (by omega) (by omega)
       simp only[bz,bw,bx,bq]at qB
       generalize c.claims.all (DU c)=b5 at qB|-
       simp only[AD]at qB
       cases b5 with
       |false=>
        try simp at qB
        simp[c73,AH,AD,e1',e2',qA,qF,qP,qI,e4,qB,AB,AN,AJ,AM]
       |true=>
        have qD:=sY (n+4739) c h1 h4 hw hx c.wits.length 0 (n+5089) (by omega) (by omega)
        simp only[bz,bw,bx,bq]at qD
        generalize (c.wits.all fun l=>l.all (DU c))=b6 at qD|-
        simp only[AD]at qD
        try simp at qB
        cases b6<;>(try simp at qD)<;>simp[c73,AH,AD,e1',e2',qA,qF,qP,qI,e4,qB,qD,AB,AN,AJ,AM]
    ·have hd:decide (DN c.book=0)=false:=by simpa using hf
     simp only[AC]at qF;generalize DN c.book=F at qF hf hd|-;rw[if_neg hf];simp only[Bool.not_true,Bool.or_false,Bool.false_eq_true,if_false,hf];simp[c73,AH,AD,e1',e2',qA,qF,hd,AB,AN,AJ,AM]
theorem VQ(L:AA)(k γ:Nat)(r:AZ):AA.put L k γ r=(k,γ,r)::L:=rfl
theorem pvC(k γ:Nat)(h:List V)(t:List (List V)):pv k γ (h::t)=.vec 0 k γ (t.length+1):=rfl
theorem slN:sl []=.nil:=rfl
theorem slC(e:List V)(es:List (List V)):sl (e::es)=.list false (e::es):=rfl
theorem iH{P:Program}{fr:Fr}{s:St}(e d c:Nat)(ys:List (List V))(h:B8 P e 0 ys=true):zH P e d c fr s .nil ys=some (⟨c+1,(d,true,.vec s.up.length d c ys.length)::fr,s.put s.up.length d c (.vec e ys)⟩,[(s.up.length,d),(s.up.length,d+NT)]):=by unfold zH;simp[IG,h]
theorem AZB{k:Nat}{x:Wrd}(h:k<=1000):B8 bn 98 k [AJ x]=true:=by rw[CL (by simp) (by simp)];simp[maxLen,AJ];omega
theorem AAS(ws:List Wrd)(hl:ws.length<=900):∀(d k:Nat) (out:List Wrd) (cc γ:Nat),k+d=ws.length->out.length<=k ->
  ∃c' γ',cc<=c'/\∀n m,d<m->BR (AG bn ann kn (n+50) 36) W1 (ann 36 (CU W1)) m ⟨cc,[(0,true,NH ws),(3,true,pv 34 γ (out.map AJ)),(4,true,i k)],⟨[],pl 34 γ 98 (out.map AJ)⟩⟩ =
  some (.exit 0,⟨c',[(8,true,.bool false),(7,true,i ws.length),(6,true,NH ws),(5,true,i ws.length),(0,true,NH ws),(3,true,pv 34 γ' ((out++ws.drop k).map AJ)),(4,true,i ws.length)],⟨[],pl 34 γ' 98 ((out++ws.drop k).map AJ)⟩⟩)
 |0,k,out,cc,γ,hd,ho=>by
  have:k=ws.length:=by omega
  subst this;refine⟨cc,γ,Nat.le_refl _,fun n m hm=>?_⟩;obtain⟨m,rfl⟩:=qNz m (by omega);simp[AE]
 |d+1,k,out,cc,γ,hd,ho=>by
  have hk:k<ws.length:=by omega
  have hwk:=FB (k:=k) (by omega);obtain⟨c',γ',hc,ih⟩:=AAS ws hl d (k+1) (out++[ws[k]]) (cc+1) cc (by omega) (by simp;omega);have happ:=AZB (k:=out.length) (x:=ws[k]) (by omega);refine⟨c',γ',by omega,fun n m hm=>?_⟩;obtain⟨m,rfl⟩:=qNz m (by omega);have ih:=ih n m (by omega);rw[AE,bj hk];simp only[List.map_append,List.map_cons,bh,JF,AJ,List.append_assoc,List.cons_append,List.nil_append]at ih happ|-;try simp at ih
  simp[hk,hwk,AJ,happ,NT,ih]
theorem AAT(n:Nat)(ws:List Wrd)(hl:ws.length<=900):A4 bn kn (AG bn ann kn (n+1000)) 67 [NH ws]=some (sl (ws.map AJ)):=by
 rw[AP rfl,AQ Tryz.func67 b67 rfl (by simp[AJ])];obtain⟨c',γ',h1,q⟩:=AAS ws hl ws.length 0 [] 0 0 (by omega) (by simp);have q:=q (n+944) (n+994) (by omega);have hcl:(ws.map AJ).all (fun e=>e.all (AK 8))=true:=by simp[AJ]
 simp only[bz,List.nil_append,bh,ZD,MV,bw,bx,bq]at q;try simp at q hcl
 simp[c67,AH,q];exact hcl
abbrev bxK(c:BF)(v:V):AZ:=.box [i c.book.chairs,i c.book.coin,i c.book.box,sl (c.book.lines.map AB),sl (c.book.counts.map AN),v,i c.liars,sl (c.claims.map AJ)]
theorem AZD{k:Nat}{v:V}(h:k<=1000):B8 bn 41 k [[v]]=true:=by rw[CL (by simp) (by simp)];simp[maxLen];omega
theorem AZE(ls:List (List Wrd)):(ls.map AM).map (List.map cT)=ls.map AM:=by rw[List.map_map];exact List.map_congr_left fun x _=>rfl
theorem AAU(c:BF)(h1:c.wits.length<=100)(h2:∀l∈c.wits,l.length<=100):∀(d k:Nat) (g γ:Nat),k+d=c.wits.length->2<g->∃g' γ',g<=g'/\∀n m,d<m->BR (AG bn ann kn (n+1100) 33) W2 (ann 33 (CU W2)) m ⟨g,[(1,true,.ptr 0 1 0 0),(2,true,.ptr 0 2 1 0),(3,true,.ptr 0 3 2 0),(4,true,i k)],⟨[],(1,0,.box (AD c))::(2,1,.box [i 0,i 0,i 0,.nil,.nil,.nil,i 0,.nil])::(3,2,bxK c (pv 30 γ ((c.wits.take k).map AM)))::pl 30 γ 41 ((c.wits.take k).map AM)⟩⟩ =
  some (.exit 0,⟨g',[(18,true,.bool false),(17,true,i c.wits.length),(16,true,.list false (c.wits.map AM)),(15,true,.ptr 0 1 0 5),(14,true,i c.wits.length),(1,true,.ptr 0 1 0 0),(2,true,.ptr 0 2 1 0),(3,true,.ptr 0 3 2 0),(4,true,i c.wits.length)],⟨[],(1,0,.box (AD c))::(2,1,.box [i 0,i 0,i 0,.nil,.nil,.nil,i 0,.nil])::(3,2,bxK c (pv 30 γ' (c.wits.map AM)))::pl 30 γ' 41 (c.wits.map AM)⟩⟩)
 |0,k,g,γ,hk,hg=>by
  have:k=c.wits.length:=by omega
  subst this;rw[List.take_length];refine⟨g,γ,Nat.le_refl _,fun n m hm=>?_⟩;obtain⟨m,rfl⟩:=qNz m (by omega);rw[AE];simp only[AD,bxK];cases c.wits<;>simp
 |d+1,k,g,γ,hk,hg=>by
  have hk':k<c.wits.length:=by omega
  have hw:=FB (k:=k) (by omega);have h3:=h2 _ (bc hk');have q:=fun n=>AAT n c.wits[k] (by omega);have hst:(c.wits.take (k+1)).map AM=(c.wits.take k).map AM++[AM c.wits[k]]:=by rw[List.take_succ_eq_append_getElem hk',List.map_append];rfl
  have hRl:((c.wits.take k).map AM).length=k:=by rw[List.length_map,List.length_take];omega
  have hwk:=AZE (c.wits.take k);have hR1:∀e∈(c.wits.take k).map AM,e.length=1:=fun e he=>by obtain⟨l,_,rfl⟩:=List.mem_map.1 he;rfl
  have ha:=AZD (k:=((c.wits.take k).map AM).length) (v:=sl (c.wits[k].map AJ)) (by omega);obtain⟨g',γ',hgg,ih⟩:=AAU c h1 h2 d (k+1) (g+1) g (by omega) (by omega);refine⟨g',γ',by omega,fun n m hm=>?_⟩;obtain⟨m,rfl⟩:=qNz m (by omega);have ih:=ih n m (by omega);rw[hst]at ih;rw[AE];generalize (c.wits.take k).map AM=R at *;simp only[AM]at ih;have hf:A9 (sl (c.wits[k].map AJ))=true:=by cases c.wits[k].map AJ<;>rfl
  have hv:A8 (sl (c.wits[k].map AJ))=[sl (c.wits[k].map AJ)]:=by cases c.wits[k].map AJ<;>rfl
  have hwl:cT (sl (c.wits[k].map AJ))=NH c.wits[k]:=AQ8 _;generalize hW:sl (c.wits[k].map AJ)=W at *;simp only[AD,bxK]at ih|-;cases R with
  |nil=>
   simp[pvC]at ih ha
   simp[hk',hw,AM,q,hW,hf,hv,hwl,ha,ih,VQ,PV,NT,iH,pvC,C5,DS,BU,IW,G9,show 2<g+1 by omega]
  |cons r R=>
   have hR2:=hR1 r (by simp)
   have hR3:=eq_true (fun e he=>hR1 e (bg r he):∀e∈R,e.length=1)
   simp[pvC]at ih ha hwk
   simp[hk',hw,AM,q,hW,hf,hv,hwl,ha,ih,hwk,hR2,hR3,VQ,PV,NT,iH,pvC,C5,DS,BU,IW,G9,show 2<g+1 by omega]
def KJ(c:BF):List V:=[i c.book.chairs,i c.book.coin,i c.book.box,sl (c.book.lines.map AB),sl (c.book.counts.map AN),sl (c.wits.map AM),i c.liars,sl (c.claims.map AJ)]
theorem S7(n:Nat)(c:BF)(hl:c.book.lines.length<=100)(hk:c.book.counts.length<=100)(h1:c.wits.length<=100)(h2:∀l∈c.wits,l.length<=100)(h3:c.claims.length<=100):A4 bn kn (AG bn ann kn (n+1200)) 22 [.agg (AD c)]=some (.agg (KJ c)):=by
 rw[AP rfl,AQ Tryz.func22 b22 rfl (by simp[AD,AB,AN,AJ,AM])];have qB:=fun n=>k22 n c.book (by omega) (by omega);have qW:=fun n=>AAT n c.claims (by omega);obtain⟨g1,γ1,g2,q⟩:=AAU c h1 h2 c.wits.length 0 3 0 (by omega) (by omega);have q:=q (n+94) (n+1194) (by omega);have c1:∀e∈c.wits.map AM,∀v∈e,AK 7 v=true:=fun e he v hv=>by obtain⟨l,_,rfl⟩:=List.mem_map.1 he;simp only[AM,List.mem_cons,List.not_mem_nil,or_false]at hv;subst hv;simp[AJ]
 have hg2:1<g1:=by omega
 unfold KJ;simp only[AD,AC,sH,bxK,List.take_zero,bh,bw,bx,bq]at q qB|-;generalize c.wits.map AM=R at *;cases R with
 |nil=>
  simp at q
  simp[c22,AH,qB,qW,q,hg2,AB,AN,AJ,pvC,slN,slC,VQ,PV,NT,C5,DS,BU,IW,G9]
 |cons r R=>
  have r1:=eq_true (c1 r (by simp))
  have r2:=eq_true (fun e he=>c1 e (bg r he):∀e∈R,∀v∈e,AK 7 v=true)
  simp[pvC]at q
  simp[c22,AH,qB,qW,q,r1,r2,hg2,AB,AN,AJ,pvC,slN,slC,VQ,PV,NT,C5,DS,BU,IW,G9]
end Go.Proofs.Tryz.Op
