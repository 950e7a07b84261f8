/- Contracts of season's reference: Truths, Judge, Liar, Least; sure of the law. No condition. -/
import Derived.Test.YtmnlpgjklibndaaGreatA2
open Go.Proofs.Tryz renaming prog->bt
open List renaming getElem?_eq_getElem->bj,countP->bq,drop_eq_getElem_cons->bw,getElem_mem->bx,length_map->bz,all_eq_true->bc,drop_zero->bf,map_nil->bh
open Int renaming natCast_zero->bg
open Nat renaming add_assoc->bn,reduceAdd->bp
open Option renaming some->br
set_option maxRecDepth 100000
set_option linter.unusedSimpArgs false
open Go Go.Pg Go.Proofs Go.Season
namespace Go.Proofs.Tryz.Op
theorem A47{k:Nat}{x:V}(h:k<=5000)(_hx:x.isCell=true):CD bt 22 k [[x]]=true:=by rw[CQ (by simp) (by simp)];simp[maxLen];omega
theorem ASP(c:BC)(hw4:c.wits.length<=90)(T:List (List AF))(hT:∀t∈T,t.length<=90/\∀l∈c.wits,l.length<=90/\∀w∈l,GB t.length w)(hTl:T.length<=5000):∀(d k:Nat) (out:List (List AF)) (cc γ:Nat),k+d=T.length->out.length<=k->γ<cc ->
  ∃c' γ':Nat,γ'<c'/\∀n m,d<m->BN (AH bt ann kn (n+450) 32) YB (ann 32 (CC YB)) m ⟨cc,[(1,true,.ptr 0 1 0 0),(3,true,pv 30 γ (out.map BK)),(4,true,sl (T.map BK)),(5,true,i k)],⟨[],(1,0,.box (AC c))::pl 30 γ 22 (out.map BK)⟩⟩ =
   some (.exit 0,⟨c',[(12,true,.bool false),(11,true,i T.length),(10,true,sl (T.map BK)),(9,true,i T.length),(1,true,.ptr 0 1 0 0),(3,true,pv 30 γ' ((out++(T.drop k).filter fun s=>decide (DO c s<=c.liars)).map BK)),(4,true,sl (T.map BK)),(5,true,i T.length)],⟨[],(1,0,.box (AC c))::pl 30 γ' 22 ((out++(T.drop k).filter fun s=>decide (DO c s<=c.liars)).map BK)⟩⟩)
 |0,k,out,cc,γ,hd,ho,hg=>by
  have:k=T.length:=by omega
  subst this;refine⟨cc,γ,hg,fun n m hm=>?_⟩;obtain⟨m,rfl⟩:=qNz m (by omega);simp[AD,AC]
 |d+1,k,out,cc,γ,hd,ho,hg=>by
  have hk:k<T.length:=by omega
  have hwk:=DF (k:=k) (by omega);have hh:=hT _ (bx hk);have q:=fun n=>vK n c T[k] hh.1 hw4 hh.2;rw[bw hk];generalize hv:decide (DO c T[k]<=c.liars)=v;have hg1:(T.map BK)[k]? = some (BK T[k]):=by simp[hk]
  generalize ht:T[k]=t at q hv hg1;cases v with
  |false=>
   obtain⟨c',γ',h1,ih⟩:=ASP c hw4 T hT hTl d (k+1) out cc γ (by omega) (by omega) hg
   refine⟨c',γ',h1,fun n m hm=>?_⟩
   obtain⟨m,rfl⟩:=qNz m (by omega)
   have ih:=ih n m (by omega)
   rw[AD,List.filter_cons_of_neg (by simp[hv])]
   generalize hTe:T.map BK=TT at ih hg1|-
   have hkT:k<TT.length:=by rw[<-hTe,bz];exact hk
   have hln:TT.length=T.length:=by rw[<-hTe,bz]
   have hgT:TT[k]=BK t:=by rw[bj hkT]at hg1;exact br.inj hg1
   simp only[AC,BK]at q ih hgT|-
   try simp at ih
   simp[hk,hwk,hgT,hln,hkT,nb8,nb4,US,AL,AB,AM,AG,q,hv,ih]
  |true=>
   obtain⟨c',γ',h1,ih⟩:=ASP c hw4 T hT hTl d (k+1) (out++[t]) (cc+1) cc (by omega) (by simp;omega) (by omega)
   refine⟨c',γ',h1,fun n m hm=>?_⟩
   obtain⟨m,rfl⟩:=qNz m (by omega)
   have ih:=ih n m (by omega)
   rw[AD,List.filter_cons_of_pos (by simp[hv])]
   generalize hTe:T.map BK=TT at ih hg1|-
   have hkT:k<TT.length:=by rw[<-hTe,bz];exact hk
   have hln:TT.length=T.length:=by rw[<-hTe,bz]
   have hgT:TT[k]=BK t:=by rw[bj hkT]at hg1;exact br.inj hg1
   have happ:=A47 (k:=out.length) (x:=sl (t.map AB)) (by omega) (by cases t<;>rfl)
   simp only[List.map_append,List.map_cons,bh,FJ,BK,AC,List.append_assoc,List.cons_append,List.nil_append]at q ih hgT happ|-
   try simp at ih
   simp[hk,hwk,hgT,hln,hkT,nb8,nb4,US,AL,AB,AM,AG,BK,q,hv,happ,ih]
theorem AEG(L:List (List AF))(w:Wrd)(hL:∀t∈L,t.length<=90/\GB t.length w)(hlen:L.length<=5000):∀(d j y:Nat),j+d=L.length->y<=j->∀n m,d<m ->
  BN (AH bt ann kn (n+250) 25) YC (ann 25 (CC YC)) m ⟨1,[(0,true,.list false (L.map BK)),(1,true,.agg (AG w)),(3,true,.ptr 0 3 0 0),(5,true,i y),(6,true,i j)],⟨[],[(3,0,.box (AG w))]⟩⟩ =
   some (.exit 0,⟨1,[(10,true,.bool false),(9,true,i L.length),(8,true,.list false (L.map BK)),(7,true,i L.length),(0,true,.list false (L.map BK)),(1,true,.agg (AG w)),(3,true,.ptr 0 3 0 0),(5,true,i ((y+(L.drop j).countP (fun s=>BI s w):Nat):Int)),(6,true,i L.length)],⟨[],[(3,0,.box (AG w))]⟩⟩)
 |0,j,y,hd,hy,n,m+1,hm=>by
  have:j=L.length:=by omega
  subst this;simp[AD,AG]
 |d+1,j,y,hd,hy,n,m+1,hm=>by
  have hj:j<L.length:=by omega
  have hw:=DF (k:=j) (by omega);have hwy:IntKind.i64.wrap ((y:Int)+1)=((y+1:Nat):Int):=by rw[AU (by omega) (by omega)];rfl
  have hh:=hL _ (bx hj);have q:=fun n=>WH n L[j] w hh.1 hh.2;rw[bw hj,List.countP_cons,AD];generalize hv:BI L[j] w=v at q;cases v with
  |true=>
   have ih:=AEG L w hL hlen d (j+1) (y+1) (by omega) (by omega) n m (by omega)
   rw[show y+(bq (fun s=>BI s w) (L.drop (j+1))+if true=true then 1 else 0)=y+1+bq (fun s=>BI s w) (L.drop (j+1)) by simp;omega]
   generalize bq (fun s=>BI s w) (L.drop (j+1))=z at ih|-
   simp only[AG]at q ih|-
   try simp at ih
   simp[hj,hw,hwy,BK,AB,q,ih]
  |false=>
   have ih:=AEG L w hL hlen d (j+1) y (by omega) (by omega) n m (by omega)
   rw[show y+(bq (fun s=>BI s w) (L.drop (j+1))+if false=true then 1 else 0)=y+bq (fun s=>BI s w) (L.drop (j+1)) by simp]
   generalize bq (fun s=>BI s w) (L.drop (j+1))=z at ih|-
   simp only[AG]at q ih|-
   try simp at ih
   simp[hj,hw,BK,AB,q,ih]
theorem AEH(n:Nat)(L:List (List AF))(w:Wrd)(hL:∀t∈L,t.length<=90/\GB t.length w)(hlen:L.length<=5000):AW bt kn (AH bt ann kn (n+5300)) 28 [.list false (L.map BK),.agg (AG w)]=some (i (uZ (L.length:Nat) (L.countP (fun s=>BI s w):Nat))):=by
 rw[AO rfl,AP Tryz.func28 b28 rfl (by simp[BK,AB,AG])];have ih:=AEG L w hL hlen L.length 0 0 (by omega) (by omega) (n+5044) (n+5294) (by omega);have q73:=fun n=>k73 n (L.countP (fun s=>BI s w):Nat) L.length;simp only[Nat.zero_add,bf,AG]at ih|-;generalize bq (fun s=>BI s w) L=z at ih q73|-;try simp at ih
 simp[c28,AJ,ih,q73]
theorem AEI(L:List (List AF))(ws:List Wrd)(hws:ws.length<=90)(hL:∀t∈L,t.length<=90/\∀w∈ws,GB t.length w)(hlen:L.length<=5000):∀(d j y:Nat),j+d=L.length->y<=j->∀n m,d<m ->
  BN (AH bt ann kn (n+350) 25) YD (ann 25 (CC YD)) m ⟨0,[(0,true,.list false (L.map BK)),(1,true,J2 ws),(5,true,i y),(6,true,i j)],⟨[],[]⟩⟩ =
   some (.exit 0,⟨0,[(10,true,.bool false),(9,true,i L.length),(8,true,.list false (L.map BK)),(7,true,i L.length),(0,true,.list false (L.map BK)),(1,true,J2 ws),(5,true,i ((y+(L.drop j).countP (fun s=>!ws.all (BI s)):Nat):Int)),(6,true,i L.length)],⟨[],[]⟩⟩)
 |0,j,y,hd,hy,n,m+1,hm=>by
  have:j=L.length:=by omega
  subst this;simp[AD]
 |d+1,j,y,hd,hy,n,m+1,hm=>by
  have hj:j<L.length:=by omega
  have hw:=DF (k:=j) (by omega);have hwy:IntKind.i64.wrap ((y:Int)+1)=((y+1:Nat):Int):=by rw[AU (by omega) (by omega)];rfl
  have hh:=hL _ (bx hj);have q:=fun n=>XQ n L[j] ws hh.1 hws hh.2;rw[bw hj,List.countP_cons,AD];generalize hv:(!ws.all (BI L[j]))=v at q;cases v with
  |true=>
   have ih:=AEI L ws hws hL hlen d (j+1) (y+1) (by omega) (by omega) n m (by omega)
   rw[show y+(bq (fun s=>!ws.all (BI s)) (L.drop (j+1))+if true=true then 1 else 0)=y+1+bq (fun s=>!ws.all (BI s)) (L.drop (j+1)) by simp;omega]
   generalize bq (fun s=>!ws.all (BI s)) (L.drop (j+1))=z at ih|-
   try simp at ih
   simp[hj,hw,hwy,BK,AB,q,ih]
  |false=>
   have ih:=AEI L ws hws hL hlen d (j+1) y (by omega) (by omega) n m (by omega)
   rw[show y+(bq (fun s=>!ws.all (BI s)) (L.drop (j+1))+if false=true then 1 else 0)=y+bq (fun s=>!ws.all (BI s)) (L.drop (j+1)) by simp]
   generalize bq (fun s=>!ws.all (BI s)) (L.drop (j+1))=z at ih|-
   try simp at ih
   simp[hj,hw,BK,AB,q,ih]
theorem A48(n:Nat)(L:List (List AF))(ws:List Wrd)(hws:ws.length<=90)(hL:∀t∈L,t.length<=90/\∀w∈ws,GB t.length w)(hlen:L.length<=5000):AW bt kn (AH bt ann kn (n+5400)) 29 [.list false (L.map BK),J2 ws]=some (i (uZ (L.length:Nat) (L.countP (fun s=>!ws.all (BI s)):Nat))):=by
 rw[AO rfl,AP Tryz.func29 b29 rfl (by simp[BK,AB,AG])];have ih:=AEI L ws hws hL hlen L.length 0 0 (by omega) (by omega) (n+5044) (n+5394) (by omega);have q73:=fun n=>k73 n (L.countP (fun s=>!ws.all (BI s)):Nat) L.length;simp only[Nat.zero_add,bf]at ih|-;generalize bq (fun s=>!ws.all (BI s)) L=z at ih q73|-;try simp at ih
 simp[c29,AJ,ih,q73]
theorem A49(n:Nat)(c:BC)(ok:QE c):AW bt kn (AH bt ann kn (n+5600)) 75 [.agg (AC c)]=some (sl ((HA c).map BK)):=by
 rw[AO rfl,AP Tryz.func75 b75 rfl (by simp[AC,AB,AM,AG,AL])];have q43:=fun n=>k43 n c.book ok.fault;obtain⟨t1,t2⟩:=MI ok;have h8:=ok.lines;have hw4:=ok.wl;obtain⟨c',γ',i1,ih⟩:=ASP c (by omega) (DZ c.book) (fun t ht=>⟨by rw[t1 t ht];omega,fun l hl=>⟨by have:=ok.wx l hl;omega,fun w hw=>by rw[t1 t ht];exact ok.ww l hl w hw⟩⟩) (by omega) (DZ c.book).length 0 [] 1 0 (by omega) (by simp) (by omega);have ih:=ih (n+5143) (n+5593) (by omega);simp only[bh,List.nil_append,bf,LD,HZ,bg]at ih;rw[show(DZ c.book).filter (fun s=>decide (DO c s<=c.liars))=HA c from rfl]at ih;generalize HA c=L at ih|-;generalize hTe:(DZ c.book).map BK=TT at ih q43;have hcl:(L.map BK).all (fun e=>e.all (AK 8))=true:=by simp[BK,AB]
 generalize L.map BK=LL at ih hcl|-;simp only[AC,AE,bn,bp]at q43 ih|-;try simp at ih
 simp[c75,AJ,AB,AM,AG,AL,q43,ih];try exact fun x hx v hv=>bc.1 (bc.1 hcl x hx) v hv
def wE(c:BC):V:=if DV c true=0 then .tup [sl ((HA c).map BK),i 0] else .tup [.nil,i (DV c true)]
theorem AEJ(n:Nat)(c:BC)(hc:c.claims.length<=90)(hw:c.wits.length<=90)(hx:∀l∈c.wits,l.length<=90):AW bt kn (AH bt ann kn (n+5700)) 27 [.agg (AC c)]=some (wE c):=by
 rw[AO rfl,AP Tryz.func27 b27 rfl (by simp[AC,AB,AM,AG,AL])];have qF:=fun n=>fR n c hc hw hx;unfold wE;by_cases he:CB c=0
 ·have ok:=MJ he;have qT:=fun n=>A49 n c ok;rw[he]at qF;rw[HD he];by_cases hk:AR c=[]
  ·have ht:=(PB ok).2 hk;rw[if_pos hk,if_neg (by decide)];rw[ht]at qT;simp only[AC,bh]at qF qT|-;simp[c27,AJ,AB,AM,AG,AL,qF,qT]
  ·have ht:HA c≠[]:=fun e=>hk ((PB ok).1 e);rw[if_neg hk,if_pos rfl];have hcl:((HA c).map BK).all (fun e=>e.all (AK 7))=true:=by simp[BK,AB]
   have hln:((HA c).map BK)≠[]:=by simpa using ht
   generalize (HA c).map BK=LL at qT hcl hln|-;have e:decide (LL=[])=false:=by simpa using hln
   simp only[AC]at qF qT|-;simp[c27,AJ,AB,AM,AG,AL,qF,qT,e,hln];try exact fun x hx v hv=>bc.1 (bc.1 hcl x hx) v hv
 ·have ha:DV c true=CB c:=by simp[DV,he]
  have hd:decide (CB c=0)=false:=by simpa using he
  rw[ha,if_neg he];simp only[AC]at qF|-;generalize CB c=E at qF he hd|-;simp[c27,AJ,AB,AM,AG,AL,qF,hd,he]
theorem AOF(c:BC)(hw4:c.wits.length<=90)(T:List (List AF))(hT:∀t∈T,t.length<=90/\∀l∈c.wits,l.length<=90/\∀w∈l,GB t.length w)(hTl:T.length<=5000):∀(d k:Nat) (v:Int),k+d=T.length->∀n m,d<m ->
  BN (AH bt ann kn (n+450) 27) YE (ann 27 (CC YE)) m ⟨1,[(1,true,.ptr 0 1 0 0),(3,true,i v),(4,true,sl (T.map BK)),(5,true,i k)],⟨[],[(1,0,.box (AC c))]⟩⟩ =
   some (.exit 0,⟨1,[(15,true,.bool false),(14,true,i T.length),(13,true,sl (T.map BK)),(12,true,i T.length),(1,true,.ptr 0 1 0 0),(3,true,i (runL (D5 c) v (T.drop k))),(4,true,sl (T.map BK)),(5,true,i T.length)],⟨[],[(1,0,.box (AC c))]⟩⟩)
 |0,k,v,hd,n,m+1,hm=>by
  have:k=T.length:=by omega
  subst this;simp[AD,AC,runL]
 |d+1,k,v,hd,n,m+1,hm=>by
  have hk:k<T.length:=by omega
  have hwk:=DF (k:=k) (by omega);have hh:=hT _ (bx hk);have q:=fun n=>vK n c T[k] hh.1 hw4 hh.2;have hg1:(T.map BK)[k]? = some (BK T[k]):=by simp[hk]
  have ih:=AOF c hw4 T hT hTl d (k+1) (D5 c v T[k]) (by omega) n m (by omega);have hr:runL (D5 c) v (T.drop k)=runL (D5 c) (D5 c v T[k]) (T.drop (k+1)):=by rw[bw hk];rfl
  rw[hr,AD];generalize runL (D5 c) (D5 c v T[k]) (T.drop (k+1))=R at ih|-;unfold D5 at ih;generalize T[k]=t at q hg1 ih;generalize hTe:T.map BK=TT at ih hg1|-;have hkT:k<TT.length:=by rw[<-hTe,bz];exact hk
  have hln:TT.length=T.length:=by rw[<-hTe,bz]
  have hgT:TT[k]=BK t:=by rw[bj hkT]at hg1;exact br.inj hg1
  generalize DO c t=z at q ih;simp only[AC,BK]at q ih hgT|-;by_cases hz:z<v
  ·rw[if_pos hz]at ih;try simp at ih
   simp[hk,hwk,hgT,hln,hkT,nb8,nb4,US,AL,AB,AM,AG,q,ih,hz]
  ·rw[if_neg hz]at ih;try simp at ih
   simp[hk,hwk,hgT,hln,hkT,nb8,nb4,US,AL,AB,AM,AG,q,ih,hz]
theorem A5A(n:Nat)(c:BC)(ok:QE c):AW bt kn (AH bt ann kn (n+5600)) 26 [.agg (AC c)]=some (i (N6 c)):=by
 rw[AO rfl,AP Tryz.func26 b26 rfl (by simp[AC,AB,AM,AG,AL])];have q43:=fun n=>k43 n c.book ok.fault;obtain⟨t1,t2⟩:=MI ok;have h8:=ok.lines;have hw4:=ok.wl;have ih:=AOF c (by omega) (DZ c.book) (fun t ht=>⟨by rw[t1 t ht];omega,fun l hl=>⟨by have:=ok.wx l hl;omega,fun w hw=>by rw[t1 t ht];exact ok.ww l hl w hw⟩⟩) (by omega) (DZ c.book).length 0 c.wits.length (by omega) (n+5143) (n+5593) (by omega);simp only[bf,bg]at ih;rw[show runL (D5 c) (c.wits.length:Int) (DZ c.book)=AB5 c from rfl,yG ok]at ih;generalize N6 c=R at ih|-;generalize hTe:(DZ c.book).map BK=TT at ih q43;simp only[AC,AE,bn,bp]at q43 ih|-;try simp at ih
 simp[c26,AJ,AB,AM,AG,AL,q43,ih]
theorem AOG(n:Nat)(c:BC)(TT B:List (List V))(J:Wrd->Int)(cc:Nat)(hn:c.claims.length<=90)(hcl:TT.all (fun e=>e.all (AK 7))=true)(hcl8:TT.all (fun e=>e.all (AK 8))=true)(hq:∀n,∀w∈c.claims,AW bt kn (AH bt ann kn (n+5300)) 28 [.list false TT,.agg (AG w)]=some (i (J w))):∀(d k m:Nat),k+d=c.claims.length->d<m ->
  BN (AH bt ann kn (n+5350) 161) YF (ann 161 (CC YF)) m ⟨cc,[(1,true,.ptr 0 1 0 0),(3,true,sl ((c.claims.map J).map BM)),(5,true,sl B),(10,true,sl TT),(12,true,i k)],⟨[],[(1,0,.box (AC c))]⟩⟩ =
   some (.exit 0,⟨cc,[(127,true,.bool false),(126,true,i c.claims.length),(125,true,sl ((c.claims.map J).map BM)),(124,true,i c.claims.length),(1,true,.ptr 0 1 0 0),(3,true,sl ((c.claims.map J).map BM)),(5,true,sl B),(10,true,sl TT),(12,true,i c.claims.length)],⟨[],[(1,0,.box (AC c))]⟩⟩)
 |0,k,m+1,hd,hm=>by
  have:k=c.claims.length:=by omega
  subst this;simp[AD,AC]
 |d+1,k,m+1,hd,hm=>by
  have hk:k<c.claims.length:=by omega
  have hwk:=DF (k:=k) (by omega);have q:=fun n=>hq n c.claims[k] (bx hk);have ih:=AOG n c TT B J cc hn hcl hcl8 hq d (k+1) m (by omega) (by omega);have hg:((c.claims.map J).map BM)[k]? = some [i (J c.claims[k])]:=by simp[hk,BM]
  have hlen:((c.claims.map J).map BM).length=c.claims.length:=by simp
  rw[AD];generalize J c.claims[k]=b at q hg;generalize (c.claims.map J).map BM=A at ih hg hlen|-;have hkA:k<A.length:=by omega
  have hge:A[k]=[i b]:=by rw[bj hkA]at hg;exact br.inj hg
  simp only[AC,AG]at q ih|-;try simp at ih
  simp[hk,hwk,AG,AL,AB,AM,q,hge,hlen,hcl,hcl8,ih]
theorem AOH(n:Nat)(c:BC)(TT:List (List V))(J:List Wrd->Int)(cc:Nat)(hn:c.wits.length<=90)(hcl:TT.all (fun e=>e.all (AK 7))=true)(hcl8:TT.all (fun e=>e.all (AK 8))=true)(hq:∀n,∀w∈c.wits,AW bt kn (AH bt ann kn (n+5400)) 29 [.list false TT,J2 w]=some (i (J w))):∀(d k m:Nat),k+d=c.wits.length->d<m ->
  BN (AH bt ann kn (n+5450) 161) YG (ann 161 (CC YG)) m ⟨cc,[(1,true,.ptr 0 1 0 0),(5,true,sl ((c.wits.map J).map BM)),(10,true,sl TT),(13,true,i k)],⟨[],[(1,0,.box (AC c))]⟩⟩ =
   some (.exit 2,⟨cc,[(145,true,.bool false),(144,true,i c.wits.length),(143,true,sl ((c.wits.map J).map BM)),(142,true,i c.wits.length),(1,true,.ptr 0 1 0 0),(5,true,sl ((c.wits.map J).map BM)),(10,true,sl TT),(13,true,i c.wits.length)],⟨[],[(1,0,.box (AC c))]⟩⟩)
 |0,k,m+1,hd,hm=>by
  have:k=c.wits.length:=by omega
  subst this;simp[AD,AC]
 |d+1,k,m+1,hd,hm=>by
  have hk:k<c.wits.length:=by omega
  have hwk:=DF (k:=k) (by omega);have q:=fun n=>hq n c.wits[k] (bx hk);have ih:=AOH n c TT J cc hn hcl hcl8 hq d (k+1) m (by omega) (by omega);have hg:((c.wits.map J).map BM)[k]? = some [i (J c.wits[k])]:=by simp[hk,BM]
  have hlen:((c.wits.map J).map BM).length=c.wits.length:=by simp
  rw[AD];generalize J c.wits[k]=b at q hg;generalize (c.wits.map J).map BM=A at ih hg hlen|-;have hkA:k<A.length:=by omega
  have hge:A[k]=[i b]:=by rw[bj hkA]at hg;exact br.inj hg
  simp only[AC]at q ih|-;try simp at ih
  simp[hk,hwk,AG,AL,AB,AM,q,hge,hlen,hcl,hcl8,ih]
theorem bV(n:Nat)(c:BC):AW bt kn (AH bt ann kn (n+11500)) 3 [.agg (AC c)]=some (.bool true):=by
 rw[AO rfl,AP Tryz.func3 b3 rfl (by simp[AC,AB,AM,AG,AL])];have qA:=fun n d st=>WJ n d st;have qT:=fun n=>rL n c;cases ht:RO c with
 |false=>
  rw[ht]at qT
  simp only[AC]at qT|-
  simp[c3,AJ,qT,qA,AB,AM,AG,AL]
 |true=>
  rw[ht]at qT
  obtain⟨t1,t2,t3,t4,t5⟩:=LJ ht
  have qC:=fun n=>XR n c (by omega) (by omega) (by omega) (fun l hl=>by have:=t5 l hl;omega) (by omega)
  have qJ:=fun n=>WM n c
  have qL:=fun n=>vV n c
  have qM:=fun n=>AJC n c
  have qF:=fun n=>fR n c (by omega) (by omega) (fun l hl=>by have:=t5 l hl;omega)
  have qS:=fun n=>AEJ n c (by omega) (by omega) (fun l hl=>by have:=t5 l hl;omega)
  rw[Q0]at qJ
  rw[dD]at qL
  unfold rS at qM
  unfold wE at qS
  by_cases he:CB c=0
  ·have ok:=MJ he;have qR:=fun n=>A5A n c ok;obtain⟨r1,r2⟩:=fP ok;rw[if_pos he]at qM;rw[he]at qF;by_cases hk:AR c=[]
   ·have ha:DV c true=11:=by rw[HD he,if_pos hk]
    rw[ha]at qJ qL qS;rw[if_neg (by decide)]at qS;have e1:I0 c=[]:=by unfold I0;rw[ha];rfl
    have e2:QZ c=[]:=by unfold QZ;rw[ha];rfl
    rw[e1]at qJ;rw[e2]at qL;generalize N6 c=N at qM qR;simp only[AC,HC,bh]at qT qC qJ qL qM qF qS qR|-;simp[c3,AJ,qT,qA,qC,qJ,qL,qM,qF,qS,qR,AB,AM,AG,AL]
   ·have ha:DV c true=0:=by rw[HD he,if_neg hk]
    rw[ha]at qJ qL qS;rw[if_pos rfl]at qS;have e1:I0 c=c.claims.map fun w=>BO w (AR c):=if_pos ha;have e2:QZ c=c.wits.map fun l=>JR l (AR c):=if_pos ha;rw[e1]at qJ;rw[e2]at qL;have hcl7:((HA c).map BK).all (fun e=>e.all (AK 7))=true:=by simp[BK,AB]
    have hcl8:((HA c).map BK).all (fun e=>e.all (AK 8))=true:=by simp[BK,AB]
    have h8:=ok.lines;have hj:∀n,∀w∈c.claims,AW bt kn (AH bt ann kn (n+5300)) 28 [.list false ((HA c).map BK),.agg (AG w)]=some (i (BO w (AR c))):=fun n w hw=>by have:=AEH n (HA c) w (fun t ht=>⟨by rw[r1 t ht];omega,by rw[r1 t ht];exact ok.cw w hw⟩) (by omega);rw[AB3 ok hk]at this;rw[J1];exact this
    have hl:∀n,∀w∈c.wits,AW bt kn (AH bt ann kn (n+5400)) 29 [.list false ((HA c).map BK),J2 w]=some (i (JR w (AR c))):=fun n w hw=>by have:=A48 n (HA c) w (by have:=ok.wx w hw;omega) (fun t ht=>⟨by rw[r1 t ht];omega,by rw[r1 t ht];exact ok.ww w hw⟩) (by omega);rw[AB3 ok hk]at this;exact this
    have z1:=AOG (n+6136) c ((HA c).map BK) ((c.wits.map fun l=>JR l (AR c)).map BM) (fun w=>BO w (AR c)) 1 (by omega) hcl7 hcl8 hj c.claims.length 0 (n+11486) (by omega) (by omega);have z2:=AOH (n+6035) c ((HA c).map BK) (fun l=>JR l (AR c)) 1 (by omega) hcl7 hcl8 hl c.wits.length 0 (n+11485) (by omega) (by omega);have lA:((c.claims.map fun w=>BO w (AR c)).map BM).length=c.claims.length:=by simp
    have lB:((c.wits.map fun l=>JR l (AR c)).map BM).length=c.wits.length:=by simp
    generalize (c.claims.map fun w=>BO w (AR c)).map BM=A at qJ z1 lA;generalize (c.wits.map fun l=>JR l (AR c)).map BM=B at qL z1 z2 lB;generalize (HA c).map BK=TT at qS z1 z2 hcl7;generalize N6 c=N at qM qR;simp only[AC,HC,bn,bp,bg]at qT qC qJ qL qM qF qS qR z1 z2|-;try simp at z1 z2
    simp[c3,AJ,qT,qA,qC,qJ,qL,qM,qF,qS,qR,lA,lB,AB,AM,AG,AL];simp[z1];simp[z2,qA]
  ·have ha:DV c true=CB c:=by simp[DV,he]
   have hd:decide (CB c=0)=false:=by simpa using he
   rw[if_neg he]at qM;rw[ha]at qJ qL;have e1:I0 c=[]:=by unfold I0;rw[ha,if_neg he]
   have e2:QZ c=[]:=by unfold QZ;rw[ha,if_neg he]
   rw[e1]at qJ;rw[e2]at qL;generalize CB c=E at qJ qL qM qF he hd;simp only[AC,HC,bh]at qT qC qJ qL qM qF|-;simp[c3,AJ,qT,qA,qC,qJ,qL,qM,qF,he,hd,AB,AM,AG,AL]
end Go.Proofs.Tryz.Op
