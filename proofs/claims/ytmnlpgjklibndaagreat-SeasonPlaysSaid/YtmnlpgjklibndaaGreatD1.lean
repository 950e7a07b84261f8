/- Contracts of season's reference: isWord, IsTrue, Lies, Liars, Fault. No condition. -/
import Derived.Test.YtmnlpgjklibndaaGreatC1
import Derived.Test.YtmnlpgjklibndaaGreatT1
open Go.Proofs.Tryz renaming prog->bp
open List renaming drop_eq_getElem_cons->bj,drop_zero->bz,getElem_mem->bc,all_cons->bf,mem_cons_of_mem->bg,map_nil->bn
open Int renaming natCast_zero->bq
open Nat renaming add_assoc->bw,reduceAdd->bx
set_option maxRecDepth 100000
set_option linter.unusedSimpArgs false
open Go Go.Pg Go.Proofs Go.Season
namespace Go.Proofs.Tryz.Op
theorem uS(n:Nat)(c:DR)(w:Wrd)(h1:1<=c.book.chairs)(h4:c.book.chairs<=4):A4 bp kn (AF bp ann kn (n+200)) 121 [.agg (AH c),.agg (AM w)]=some (.bool (DF c w)):=by rw[AP rfl,AQ Tryz.func121 A4J rfl (by simp[AH,AD,AN,AM,AR])];have hw:IntKind.i64.wrap (c.book.chairs-1)=c.book.chairs-1:=AW (by omega) (by omega);have q:=fun n x lo hi=>k25 n x lo hi;unfold DF;generalize e1:EW w.after 0 c.book.lines.length=b1;generalize e2:EW w.num 0 (c.book.chairs-1)=b2;simp[AUD,AJ,AH,AM,q,e1,e2,hw];cases b1<;>(try simp[e2,q,hw])
theorem uT(tok:Bool)(num:Int):∀(ts:List AK) (k:Nat) (v:Int) (o:Bool),decide (0<=v)=o->decide (0<=HO (fun t=>if tok=true then t.t else t.c) num k v ts)=S6 tok num (ts.map AD) o
 |[],k,v,o,h=>h
 |t::ts,k,v,o,h=>by
  have ih:=uT tok num ts (k+1);simp only[HO,List.map_cons,AD,S6];refine ih _ _ ?_;have h0:(0:Int)<=(k:Int):=by omega
  by_cases e:(if tok=true then t.t else t.c)=num
  ·by_cases e2:t.k=1<;>simp[e,e2,h0]
  ·simp[e,h]
theorem uU(ls:List AK)(w:Wrd):BI ls w=(decide (0<=EM (fun t=>if w.tok=true then t.t else t.c) ls w.after.toNat w.num)==w.out):=by unfold BI EM;rw[uT w.tok w.num (ls.take w.after.toNat) 0 (-1) false (by decide),List.map_take]
theorem nA(n:Nat)(ls:List AK)(w:Wrd)(hl:ls.length<=90)(h:LQ ls.length w):A4 bp kn (AF bp ann kn (n+200)) 36 [.list false (ls.map AD),.agg (AM w)]=some (.bool (BI ls w)):=by
 rw[AP rfl,AQ Tryz.func36 b36 rfl (by simp[AD,AM])];obtain⟨a,ha⟩:∃a:Nat,w.after=a:=⟨w.after.toNat,by have:=h.a0;omega⟩;have ha2:a<=ls.length:=by have:=h.a1;omega
 have q1:=fun n=>k63 n ls w.num a ha2 hl;have q2:=fun n=>k64 n ls w.num a ha2 hl;rw[uU,ha];simp only[Int.toNat_natCast];cases ht:w.tok with
 |true=>
  simp only[if_true]
  have e:EM (fun t=>t.t) ls a w.num=EM AK.t ls a w.num:=rfl
  rw[e]
  generalize EM AK.t ls a w.num=x at q2|-
  simp[c36,AJ,AM,ha,ht,q2]
 |false=>
  simp only[Bool.false_eq_true,if_false]
  have e:EM (fun t=>t.c) ls a w.num=EM AK.c ls a w.num:=rfl
  rw[e]
  generalize EM AK.c ls a w.num=x at q1|-
  simp[c36,AJ,AM,ha,ht,q1]
theorem uV(n:Nat)(ls:List AK)(ws:List Wrd)(hl:ls.length<=90)(hn:ws.length<=90)(h:∀w∈ws,LQ ls.length w):∀(d k m:Nat),k+d=ws.length->d<m ->
  BQ (AF bp ann kn (n+250) 19) UM (ann 19 (CO UM)) m ⟨0,[(0,true,.list false (ls.map AD)),(1,true,YB ws),(5,true,i k)],⟨[],[]⟩⟩ =
   bif (ws.drop k).all (BI ls) then some (.exit 0,⟨0,[(9,true,.bool false),(8,true,i ws.length),(7,true,YB ws),(6,true,i ws.length),(0,true,.list false (ls.map AD)),(1,true,YB ws),(5,true,i ws.length)],⟨[],[]⟩⟩)
   else some (.ret,⟨0,[(4,true,.bool true)],⟨[],[]⟩⟩)
 |0,k,m+1,hd,hm=>by
  have:k=ws.length:=by omega
  subst this;simp[AE]
 |d+1,k,m+1,hd,hm=>by
  have hk:k<ws.length:=by omega
  have hwk:=GP (k:=k) (by omega);have q:=fun n=>nA n ls ws[k] hl (h _ (bc hk));have ih:=uV n ls ws hl hn h d (k+1) m (by omega) (by omega);rw[AE,bj hk];simp only[bf];generalize BI ls ws[k]=b at q|-;simp only[AM]at q;try simp at ih
  cases b<;>simp[hk,hwk,AM,AD,q,ih]
theorem uW(n:Nat)(ls:List AK)(ws:List Wrd)(hl:ls.length<=90)(hn:ws.length<=90)(h:∀w∈ws,LQ ls.length w):A4 bp kn (AF bp ann kn (n+300)) 49 [.list false (ls.map AD),YB ws]=some (.bool (!ws.all (BI ls))):=by
 rw[AP rfl,AQ Tryz.func49 b49 rfl (by simp[AD,AM])];have q:=uV (n+45) ls ws hl hn h ws.length 0 (n+295) (by omega) (by omega);simp only[bz,bw,bx,bq]at q;generalize ws.all (BI ls)=b at q|-;try simp at q
 cases b<;>simp[c49,AJ,q]
theorem nB(n:Nat)(c:DR)(ls:List AK)(hl:ls.length<=90)(hw4:c.wits.length<=90)(hx:∀l∈c.wits,l.length<=90/\∀w∈l,LQ ls.length w):∀(d k:Nat) (v:Int) (m:Nat),k+d=c.wits.length->d<m->0<=v->v<=k ->
  BQ (AF bp ann kn (n+350) 24) UN (ann 24 (CO UN)) m ⟨1,[(1,true,.list false (ls.map AD)),(2,true,.ptr 0 2 0 0),(5,true,i v),(6,true,i k)],⟨[],[(2,0,.box (AH c))]⟩⟩ =
  some (.exit 0,⟨1,[(11,true,.bool false),(10,true,i c.wits.length),(9,true,.list false (c.wits.map AR)),(8,true,.ptr 0 2 0 5),(7,true,i c.wits.length),(1,true,.list false (ls.map AD)),(2,true,.ptr 0 2 0 0),(5,true,i (SE (fun l=>!l.all (BI ls)) v (c.wits.drop k))),(6,true,i c.wits.length)],⟨[],[(2,0,.box (AH c))]⟩⟩)
 |0,k,v,m+1,hd,hm,h0,h1=>by
  have:k=c.wits.length:=by omega
  subst this;simp[AE,SE,AH]
 |d+1,k,v,m+1,hd,hm,h0,h1=>by
  have hk:k<c.wits.length:=by omega
  have hw:=GP (k:=k) (by omega);have hv:IntKind.i64.wrap (v+1)=v+1:=AW (by omega) (by omega);obtain⟨g1,g2⟩:=hx _ (bc hk);have q:=fun n=>uW n ls c.wits[k] hl g1 g2;have ih:=nB n c ls hl hw4 hx d (k+1) (cond (!c.wits[k].all (BI ls)) (v+1) v) m (by omega) (by omega) (by cases c.wits[k].all (BI ls)<;>simp<;>omega) (by cases c.wits[k].all (BI ls)<;>simp<;>omega);rw[AE,bj hk];simp only[SE];generalize c.wits[k].all (BI ls)=b at q ih|-;simp only[AH]at ih|-;try simp at ih
  cases b<;>(try simp at ih)<;>simp[hk,hw,hv,AR,AD,AN,AM,q,ih]
theorem ABR(n:Nat)(c:DR)(ls:List AK)(hl:ls.length<=90)(hw4:c.wits.length<=90)(hx:∀l∈c.wits,l.length<=90/\∀w∈l,LQ ls.length w):A4 bp kn (AF bp ann kn (n+400)) 35 [.agg (AH c),.list false (ls.map AD)]=some (i (Q9 c ls)):=by
 rw[AP rfl,AQ Tryz.func35 b35 rfl (by simp[AH,AD,AN,AM,AR])];have q:=nB (n+44) c ls hl hw4 hx c.wits.length 0 0 (n+394) (by omega) (by omega) (by omega) (by omega);simp only[bz,AH,bw,bx,bq]at q|-;try simp at q
 simp[c35,AJ,q,Q9]
theorem nC(n:Nat)(c:DR)(hw:c.wits.length<=90):∀(d k m:Nat),k+d=c.wits.length->d<m ->
  BQ (AF bp ann kn (n+50) 89) UO (ann 89 (CO UO)) m ⟨1,[(1,true,.ptr 0 1 0 0),(3,true,i k)],⟨[],[(1,0,.box (AH c))]⟩⟩ =
   bif (c.wits.drop k).all (fun l=>decide (l.length<=4)) then some (.exit 0,⟨1,[(22,true,.bool false),(21,true,i c.wits.length),(20,true,.list false (c.wits.map AR)),(19,true,.ptr 0 1 0 5),(18,true,i c.wits.length),(1,true,.ptr 0 1 0 0),(3,true,i c.wits.length)],⟨[],[(1,0,.box (AH c))]⟩⟩)
   else some (.ret,⟨1,[(2,true,i 3)],⟨[],[]⟩⟩)
 |0,k,m+1,hd,hm=>by
  have:k=c.wits.length:=by omega
  subst this;simp[AE,AH]
 |d+1,k,m+1,hd,hm=>by
  have hk:k<c.wits.length:=by omega
  have hwk:=GP (k:=k) (by omega);have ih:=nC n c hw d (k+1) m (by omega) (by omega);rw[AE,bj hk];simp only[bf];generalize e:decide (c.wits[k].length<=4)=b;have e':decide ((4:Int)<(c.wits[k].length:Int))=!b:=by rw[<-e];exact H7 (by omega)
  simp only[AH]at ih|-;try simp at ih
  cases b<;>simp[hk,hwk,AR,AD,e',ih]
theorem nD(n:Nat)(c:DR)(h1:1<=c.book.chairs)(h4:c.book.chairs<=4)(hw:c.claims.length<=90):∀(d k m:Nat),k+d=c.claims.length->d<m ->
  BQ (AF bp ann kn (n+250) 89) PN (ann 89 (CO PN)) m ⟨1,[(1,true,.ptr 0 1 0 0),(5,true,i k)],⟨[],[(1,0,.box (AH c))]⟩⟩ =
   bif (c.claims.drop k).all (DF c) then some (.exit 2,⟨1,[(50,true,.bool false),(49,true,i c.claims.length),(48,true,.list false (c.claims.map AM)),(47,true,.ptr 0 1 0 7),(46,true,i c.claims.length),(1,true,.ptr 0 1 0 0),(5,true,i c.claims.length)],⟨[],[(1,0,.box (AH c))]⟩⟩)
   else some (.ret,⟨1,[(2,true,i 1)],⟨[],[]⟩⟩)
 |0,k,m+1,hd,hm=>by
  have:k=c.claims.length:=by omega
  subst this;simp[AE,AH]
 |d+1,k,m+1,hd,hm=>by
  have hk:k<c.claims.length:=by omega
  have hwk:=GP (k:=k) (by omega);have q:=fun n=>uS n c c.claims[k] h1 h4;have ih:=nD n c h1 h4 hw d (k+1) m (by omega) (by omega);rw[AE,bj hk];simp only[bf];generalize DF c c.claims[k]=b at q;simp only[AH,AM]at q ih|-;try simp at ih
  cases b<;>simp[hk,hwk,AR,AM,AD,AN,q,ih]
theorem nE(n:Nat)(c:DR)(h1:1<=c.book.chairs)(h4:c.book.chairs<=4)(j:Nat)(hj:j<c.wits.length)(hx:c.wits[j].length<=90):∀(d k m:Nat),k+d=c.wits[j].length->d<m ->
  BQ (AF bp ann kn (n+250) 89) PO (ann 89 (CO PO)) m ⟨1,[(1,true,.ptr 0 1 0 0),(6,true,i j),(7,true,i k)],⟨[],[(1,0,.box (AH c))]⟩⟩ =
   bif (c.wits[j].drop k).all (DF c) then some (.exit 6,⟨1,[(75,true,.bool false),(74,true,i c.wits[j].length),(73,true,YB c.wits[j]),(72,true,.ref (AR c.wits[j])),(71,true,i j),(70,true,.list false (c.wits.map AR)),(69,true,.ptr 0 1 0 5),(68,true,i c.wits[j].length),(1,true,.ptr 0 1 0 0),(6,true,i j),(7,true,i c.wits[j].length)],⟨[],[(1,0,.box (AH c))]⟩⟩)
   else some (.ret,⟨1,[(2,true,i 1)],⟨[],[]⟩⟩)
 |0,k,m+1,hd,hm=>by
  have:k=c.wits[j].length:=by omega
  subst this;simp[AE,AH,hj,AR]
 |d+1,k,m+1,hd,hm=>by
  have hk:k<c.wits[j].length:=by omega
  have hwk:=GP (k:=k) (by omega);have q:=fun n=>uS n c c.wits[j][k] h1 h4;have ih:=nE n c h1 h4 j hj hx d (k+1) m (by omega) (by omega);rw[AE,bj hk];simp only[bf];generalize DF c c.wits[j][k]=b at q;simp only[AH,AM]at q ih|-;try simp at ih
  cases b<;>simp[hj,hk,hwk,AR,AM,AD,AN,q,ih]
theorem nF(n:Nat)(c:DR)(h1:1<=c.book.chairs)(h4:c.book.chairs<=4)(hw:c.wits.length<=90)(hx:∀l∈c.wits,l.length<=90):∀(d k m:Nat),k+d=c.wits.length->d<m ->
  BQ (AF bp ann kn (n+350) 89) PP (ann 89 (CO PP)) m ⟨1,[(1,true,.ptr 0 1 0 0),(6,true,i k)],⟨[],[(1,0,.box (AH c))]⟩⟩ =
   bif (c.wits.drop k).all (fun l=>l.all (DF c)) then some (.exit 4,⟨1,[(65,true,.bool false),(64,true,i c.wits.length),(63,true,.list false (c.wits.map AR)),(62,true,.ptr 0 1 0 5),(61,true,i c.wits.length),(1,true,.ptr 0 1 0 0),(6,true,i c.wits.length)],⟨[],[(1,0,.box (AH c))]⟩⟩)
   else some (.ret,⟨1,[(2,true,i 1)],⟨[],[]⟩⟩)
 |0,k,m+1,hd,hm=>by
  have:k=c.wits.length:=by omega
  subst this;simp[AE,AH]
 |d+1,k,m+1,hd,hm=>by
  have hk:k<c.wits.length:=by omega
  have hwk:=GP (k:=k) (by omega);have q:=nE (n+94) c h1 h4 k hk (hx _ (bc hk)) c.wits[k].length 0 (n+344) (by omega) (by have:=hx _ (bc hk);omega);have ih:=nF n c h1 h4 hw hx d (k+1) m (by omega) (by omega);rw[AE,bj hk];simp only[bf,bz,bw,bx,bq]at q|-;generalize c.wits[k].all (DF c)=b at q;simp only[AH]at q ih|-;try simp at ih q
  cases b<;>(try simp at q)<;>simp[hk,hwk,AR,AM,AD,AN,q,ih]
theorem ABS(n:Nat)(c:DR)(hc:c.claims.length<=90)(hw:c.wits.length<=90)(hx:∀l∈c.wits,l.length<=90):A4 bp kn (AF bp ann kn (n+5100)) 73 [.agg (AH c)]=some (i (EG c)):=by
 rw[AP rfl,AQ Tryz.func73 b73 rfl (by simp[AH,AD,AN,AM,AR])];unfold EG;generalize e1:decide (4<c.wits.length)=b1;have e1':decide ((4:Int)<(c.wits.length:Int))=b1:=by rw[<-e1];congr 1;apply propext;omega
 generalize e2:decide (4<c.claims.length)=b2;have e2':decide ((4:Int)<(c.claims.length:Int))=b2:=by rw[<-e2];congr 1;apply propext;omega
 cases b1 with
 |true=>simp[c73,AJ,AH,e1',AD,AN,AM,AR]
 |false=>
  cases b2 with
  |true=>simp[c73,AJ,AH,e1',e2',AD,AN,AM,AR]
  |false=>
   have qA:=nC (n+5044) c hw c.wits.length 0 (n+5094) (by omega) (by omega)
   simp only[bz,bw,bx,bq]at qA
   generalize (c.wits.all fun l=>decide (l.length<=4))=b3 at qA|-
   simp only[AH]at qA
   try simp at qA
   cases b3 with
   |false=>
    try simp at qA
    simp[c73,AJ,AH,e1',e2',qA,AD,AN,AM,AR]
   |true=>
    try simp at qA
    have qF:=fun n=>k67 n c.book
    unfold E6
    rw[Q1]
    by_cases hf:DL c.book=0
    ·obtain⟨h1,h4,_⟩:=HX hf;have qP:=fun n=>k88 n c.book hf;rw[hf]at qF|-;simp only[if_true];simp only[AC]at qF qP;generalize NF c.book=p at qP|-;cases p with
     |false=>simp[c73,AJ,AH,e1',e2',qA,qF,qP,AD,AN,AM,AR]
     |true=>
      simp only[if_true]
      have qI:=fun n x lo hi=>k25 n x lo hi
      generalize e4:EW c.liars 0 4=b4
      cases b4 with
      |false=>simp[c73,AJ,AH,e1',e2',qA,qF,qP,qI,e4,AD,AN,AM,AR]
      |true=>
       have qB:=nD (n+4840) c h1 h4 hc c.claims.length 0 (n+5090) (by omega) (by omega)
       simp only[bz,bw,bx,bq]at qB
       generalize c.claims.all (DF c)=b5 at qB|-
       simp only[AH]at qB
       cases b5 with
       |false=>
        try simp at qB
        simp[c73,AJ,AH,e1',e2',qA,qF,qP,qI,e4,qB,AD,AN,AM,AR]
       |true=>
        have qD:=nF (n+4739) c h1 h4 hw hx c.wits.length 0 (n+5089) (by omega) (by omega)
        simp only[bz,bw,bx,bq]at qD
        generalize (c.wits.all fun l=>l.all (DF c))=b6 at qD|-
        simp only[AH]at qD
        try simp at qB
        cases b6<;>(try simp at qD)<;>simp[c73,AJ,AH,e1',e2',qA,qF,qP,qI,e4,qB,qD,AD,AN,AM,AR]
    ·have hd:decide (DL c.book=0)=false:=by simpa using hf
     simp only[AC]at qF;generalize DL c.book=F at qF hf hd|-;rw[if_neg hf];simp only[Bool.not_true,Bool.or_false,Bool.false_eq_true,if_false,hf];simp[c73,AJ,AH,e1',e2',qA,qF,hd,AD,AN,AM,AR]
theorem TJ(L:AB)(k γ:Nat)(r:AY):AB.put L k γ r=(k,γ,r)::L:=rfl
theorem pvC(k γ:Nat)(h:List V)(t:List (List V)):pv k γ (h::t)=.vec 0 k γ (t.length+1):=rfl
theorem slN:sl []=.nil:=rfl
theorem slC(e:List V)(es:List (List V)):sl (e::es)=.list false (e::es):=rfl
theorem dE{P:Program}{fr:Fr}{s:St}(e d c:Nat)(ys:List (List V))(h:CL P e 0 ys=true):adV P e d c fr s .nil ys=some (⟨c+1,(d,true,.vec s.up.length d c ys.length)::fr,s.put s.up.length d c (.vec e ys)⟩,[(s.up.length,d),(s.up.length,d+RK)]):=by unfold adV;simp[H4,h]
theorem ASZ{k:Nat}{x:Wrd}(h:k<=1000):CL bp 98 k [AM x]=true:=by rw[D5 (by simp) (by simp)];simp[maxLen,AM];omega
theorem uX(ws:List Wrd)(hl:ws.length<=900):∀(d k:Nat) (out:List Wrd) (cc γ:Nat),k+d=ws.length->out.length<=k ->
  ∃c' γ',cc<=c'/\∀n m,d<m->BQ (AF bp ann kn (n+50) 36) UP (ann 36 (CO UP)) m ⟨cc,[(0,true,YB ws),(3,true,pv 34 γ (out.map AM)),(4,true,i k)],⟨[],pl 34 γ 98 (out.map AM)⟩⟩ =
  some (.exit 0,⟨c',[(8,true,.bool false),(7,true,i ws.length),(6,true,YB ws),(5,true,i ws.length),(0,true,YB ws),(3,true,pv 34 γ' ((out++ws.drop k).map AM)),(4,true,i ws.length)],⟨[],pl 34 γ' 98 ((out++ws.drop k).map AM)⟩⟩)
 |0,k,out,cc,γ,hd,ho=>by
  have:k=ws.length:=by omega
  subst this;refine⟨cc,γ,Nat.le_refl _,fun n m hm=>?_⟩;obtain⟨m,rfl⟩:=qNz m (by omega);simp[AE]
 |d+1,k,out,cc,γ,hd,ho=>by
  have hk:k<ws.length:=by omega
  have hwk:=GP (k:=k) (by omega);obtain⟨c',γ',hc,ih⟩:=uX ws hl d (k+1) (out++[ws[k]]) (cc+1) cc (by omega) (by simp;omega);have happ:=ASZ (k:=out.length) (x:=ws[k]) (by omega);refine⟨c',γ',by omega,fun n m hm=>?_⟩;obtain⟨m,rfl⟩:=qNz m (by omega);have ih:=ih n m (by omega);rw[AE,bj hk];simp only[List.map_append,List.map_cons,bn,H8,AM,List.append_assoc,List.cons_append,List.nil_append]at ih happ|-;try simp at ih
  simp[hk,hwk,AM,happ,RK,ih]
theorem uY(n:Nat)(ws:List Wrd)(hl:ws.length<=900):A4 bp kn (AF bp ann kn (n+1000)) 67 [YB ws]=some (sl (ws.map AM)):=by
 rw[AP rfl,AQ Tryz.func67 b67 rfl (by simp[AM])];obtain⟨c',γ',h1,q⟩:=uX ws hl ws.length 0 [] 0 0 (by omega) (by simp);have q:=q (n+944) (n+994) (by omega);have hcl:(ws.map AM).all (fun e=>e.all (AL 8))=true:=by simp[AM]
 simp only[bz,List.nil_append,bn,cD,cE,bw,bx,bq]at q;try simp at q hcl
 simp[c67,AJ,q];exact hcl
abbrev bxK(c:DR)(v:V):AY:=.box [i c.book.chairs,i c.book.coin,i c.book.box,sl (c.book.lines.map AD),sl (c.book.counts.map AN),v,i c.liars,sl (c.claims.map AM)]
theorem AS1{k:Nat}{v:V}(h:k<=1000):CL bp 41 k [[v]]=true:=by rw[D5 (by simp) (by simp)];simp[maxLen];omega
theorem AS2(ls:List (List Wrd)):(ls.map AR).map (List.map cV)=ls.map AR:=by rw[List.map_map];exact List.map_congr_left fun x _=>rfl
theorem uZ(c:DR)(h1:c.wits.length<=100)(h2:∀l∈c.wits,l.length<=100):∀(d k:Nat) (g γ:Nat),k+d=c.wits.length->2<g->∃g' γ',g<=g'/\∀n m,d<m->BQ (AF bp ann kn (n+1100) 33) UQ (ann 33 (CO UQ)) m ⟨g,[(1,true,.ptr 0 1 0 0),(2,true,.ptr 0 2 1 0),(3,true,.ptr 0 3 2 0),(4,true,i k)],⟨[],(1,0,.box (AH c))::(2,1,.box [i 0,i 0,i 0,.nil,.nil,.nil,i 0,.nil])::(3,2,bxK c (pv 30 γ ((c.wits.take k).map AR)))::pl 30 γ 41 ((c.wits.take k).map AR)⟩⟩ =
  some (.exit 0,⟨g',[(18,true,.bool false),(17,true,i c.wits.length),(16,true,.list false (c.wits.map AR)),(15,true,.ptr 0 1 0 5),(14,true,i c.wits.length),(1,true,.ptr 0 1 0 0),(2,true,.ptr 0 2 1 0),(3,true,.ptr 0 3 2 0),(4,true,i c.wits.length)],⟨[],(1,0,.box (AH c))::(2,1,.box [i 0,i 0,i 0,.nil,.nil,.nil,i 0,.nil])::(3,2,bxK c (pv 30 γ' (c.wits.map AR)))::pl 30 γ' 41 (c.wits.map AR)⟩⟩)
 |0,k,g,γ,hk,hg=>by
  have:k=c.wits.length:=by omega
  subst this;rw[List.take_length];refine⟨g,γ,Nat.le_refl _,fun n m hm=>?_⟩;obtain⟨m,rfl⟩:=qNz m (by omega);rw[AE];simp only[AH,bxK];cases c.wits<;>simp
 |d+1,k,g,γ,hk,hg=>by
  have hk':k<c.wits.length:=by omega
  have hw:=GP (k:=k) (by omega);have h3:=h2 _ (bc hk');have q:=fun n=>uY n c.wits[k] (by omega);have hst:(c.wits.take (k+1)).map AR=(c.wits.take k).map AR++[AR c.wits[k]]:=by rw[List.take_succ_eq_append_getElem hk',List.map_append];rfl
  have hRl:((c.wits.take k).map AR).length=k:=by rw[List.length_map,List.length_take];omega
  have hwk:=AS2 (c.wits.take k);have hR1:∀e∈(c.wits.take k).map AR,e.length=1:=fun e he=>by obtain⟨l,_,rfl⟩:=List.mem_map.1 he;rfl
  have ha:=AS1 (k:=((c.wits.take k).map AR).length) (v:=sl (c.wits[k].map AM)) (by omega);obtain⟨g',γ',hgg,ih⟩:=uZ c h1 h2 d (k+1) (g+1) g (by omega) (by omega);refine⟨g',γ',by omega,fun n m hm=>?_⟩;obtain⟨m,rfl⟩:=qNz m (by omega);have ih:=ih n m (by omega);rw[hst]at ih;rw[AE];generalize (c.wits.take k).map AR=R at *;simp only[AR]at ih;have hf:BC (sl (c.wits[k].map AM))=true:=by cases c.wits[k].map AM<;>rfl
  have hv:A7 (sl (c.wits[k].map AM))=[sl (c.wits[k].map AM)]:=by cases c.wits[k].map AM<;>rfl
  have hwl:cV (sl (c.wits[k].map AM))=YB c.wits[k]:=ALE _;generalize hW:sl (c.wits[k].map AM)=W at *;simp only[AH,bxK]at ih|-;cases R with
  |nil=>
   simp[pvC]at ih ha
   simp[hk',hw,AR,q,hW,hf,hv,hwl,ha,ih,TJ,gK,RK,dE,pvC,EJ,G8,C6,P6,LV,show 2<g+1 by omega]
  |cons r R=>
   have hR2:=hR1 r (by simp)
   have hR3:=eq_true (fun e he=>hR1 e (bg r he):∀e∈R,e.length=1)
   simp[pvC]at ih ha hwk
   simp[hk',hw,AR,q,hW,hf,hv,hwl,ha,ih,hwk,hR2,hR3,TJ,gK,RK,dE,pvC,EJ,G8,C6,P6,LV,show 2<g+1 by omega]
def UI(c:DR):List V:=[i c.book.chairs,i c.book.coin,i c.book.box,sl (c.book.lines.map AD),sl (c.book.counts.map AN),sl (c.wits.map AR),i c.liars,sl (c.claims.map AM)]
theorem AIF(n:Nat)(c:DR)(hl:c.book.lines.length<=100)(hk:c.book.counts.length<=100)(h1:c.wits.length<=100)(h2:∀l∈c.wits,l.length<=100)(h3:c.claims.length<=100):A4 bp kn (AF bp ann kn (n+1200)) 22 [.agg (AH c)]=some (.agg (UI c)):=by
 rw[AP rfl,AQ Tryz.func22 b22 rfl (by simp[AH,AD,AN,AM,AR])];have qB:=fun n=>k22 n c.book (by omega) (by omega);have qW:=fun n=>uY n c.claims (by omega);obtain⟨g1,γ1,g2,q⟩:=uZ c h1 h2 c.wits.length 0 3 0 (by omega) (by omega);have q:=q (n+94) (n+1194) (by omega);have c1:∀e∈c.wits.map AR,∀v∈e,AL 7 v=true:=fun e he v hv=>by obtain⟨l,_,rfl⟩:=List.mem_map.1 he;simp only[AR,List.mem_cons,List.not_mem_nil,or_false]at hv;subst hv;simp[AM]
 have hg2:1<g1:=by omega
 unfold UI;simp only[AH,AC,mM,bxK,List.take_zero,bn,bw,bx,bq]at q qB|-;generalize c.wits.map AR=R at *;cases R with
 |nil=>
  simp at q
  simp[c22,AJ,qB,qW,q,hg2,AD,AN,AM,pvC,slN,slC,TJ,gK,RK,EJ,G8,C6,P6,LV]
 |cons r R=>
  have r1:=eq_true (c1 r (by simp))
  have r2:=eq_true (fun e he=>c1 e (bg r he):∀e∈R,∀v∈e,AL 7 v=true)
  simp[pvC]at q
  simp[c22,AJ,qB,qW,q,r1,r2,hg2,AD,AN,AM,pvC,slN,slC,TJ,gK,RK,EJ,G8,C6,P6,LV]
end Go.Proofs.Tryz.Op
