/- Contracts of season's reference: isWord, IsTrue, Lies, Liars, Fault. No condition. -/
import Derived.Test.YtmnlpgjklibndaaGreatC1
import Derived.Test.YtmnlpgjklibndaaGreatT1
open Go.Proofs.Tryz renaming prog->bp
open List renaming drop_eq_getElem_cons->bj,drop_zero->bz,getElem_mem->bc,all_cons->bf,mem_cons_of_mem->bg,map_nil->bn
open Int renaming natCast_zero->bq
open Nat renaming add_assoc->bw,reduceAdd->bx
set_option maxRecDepth 100000
set_option linter.unusedSimpArgs false
open Go Go.Pg Go.Proofs Go.Season
namespace Go.Proofs.Tryz.Op
theorem ACM(n:Nat)(c:BC)(w:Wrd)(h1:1<=c.book.chairs)(h4:c.book.chairs<=4):AW bp kn (AH bp ann kn (n+200)) 121 [.agg (AC c),.agg (AG w)]=some (.bool (DJ c w)):=by rw[AO rfl,AP Tryz.func121 BE8 rfl (by simp[AC,AB,AM,AG,AL])];have hw:IntKind.i64.wrap (c.book.chairs-1)=c.book.chairs-1:=AU (by omega) (by omega);have q:=fun n x lo hi=>k25 n x lo hi;unfold DJ;generalize e1:D7 w.after 0 c.book.lines.length=b1;generalize e2:D7 w.num 0 (c.book.chairs-1)=b2;simp[A33,AJ,AC,AG,q,e1,e2,hw];cases b1<;>(try simp[e2,q,hw])
theorem ACN(tok:Bool)(num:Int):∀(ts:List AF) (k:Nat) (v:Int) (o:Bool),decide (0<=v)=o->decide (0<=JD (fun t=>if tok=true then t.t else t.c) num k v ts)=TW tok num (ts.map AB) o
 |[],k,v,o,h=>h
 |t::ts,k,v,o,h=>by
  have ih:=ACN tok num ts (k+1);simp only[JD,List.map_cons,AB,TW];refine ih _ _ ?_;have h0:(0:Int)<=(k:Int):=by omega
  by_cases e:(if tok=true then t.t else t.c)=num
  ·by_cases e2:t.k=1<;>simp[e,e2,h0]
  ·simp[e,h]
theorem ACO(ls:List AF)(w:Wrd):BI ls w=(decide (0<=FG (fun t=>if w.tok=true then t.t else t.c) ls w.after.toNat w.num)==w.out):=by unfold BI FG;rw[ACN w.tok w.num (ls.take w.after.toNat) 0 (-1) false (by decide),List.map_take]
theorem WH(n:Nat)(ls:List AF)(w:Wrd)(hl:ls.length<=90)(h:GB ls.length w):AW bp kn (AH bp ann kn (n+200)) 36 [.list false (ls.map AB),.agg (AG w)]=some (.bool (BI ls w)):=by
 rw[AO rfl,AP Tryz.func36 b36 rfl (by simp[AB,AG])];obtain⟨a,ha⟩:∃a:Nat,w.after=a:=⟨w.after.toNat,by have:=h.a0;omega⟩;have ha2:a<=ls.length:=by have:=h.a1;omega
 have q1:=fun n=>k63 n ls w.num a ha2 hl;have q2:=fun n=>k64 n ls w.num a ha2 hl;rw[ACO,ha];simp only[Int.toNat_natCast];cases ht:w.tok with
 |true=>
  simp only[if_true]
  have e:FG (fun t=>t.t) ls a w.num=FG AF.t ls a w.num:=rfl
  rw[e]
  generalize FG AF.t ls a w.num=x at q2|-
  simp[c36,AJ,AG,ha,ht,q2]
 |false=>
  simp only[Bool.false_eq_true,if_false]
  have e:FG (fun t=>t.c) ls a w.num=FG AF.c ls a w.num:=rfl
  rw[e]
  generalize FG AF.c ls a w.num=x at q1|-
  simp[c36,AJ,AG,ha,ht,q1]
theorem ACP(n:Nat)(ls:List AF)(ws:List Wrd)(hl:ls.length<=90)(hn:ws.length<=90)(h:∀w∈ws,GB ls.length w):∀(d k m:Nat),k+d=ws.length->d<m ->
  BN (AH bp ann kn (n+250) 19) X5 (ann 19 (CC X5)) m ⟨0,[(0,true,.list false (ls.map AB)),(1,true,J2 ws),(5,true,i k)],⟨[],[]⟩⟩ =
   bif (ws.drop k).all (BI ls) then some (.exit 0,⟨0,[(9,true,.bool false),(8,true,i ws.length),(7,true,J2 ws),(6,true,i ws.length),(0,true,.list false (ls.map AB)),(1,true,J2 ws),(5,true,i ws.length)],⟨[],[]⟩⟩)
   else some (.ret,⟨0,[(4,true,.bool true)],⟨[],[]⟩⟩)
 |0,k,m+1,hd,hm=>by
  have:k=ws.length:=by omega
  subst this;simp[AD]
 |d+1,k,m+1,hd,hm=>by
  have hk:k<ws.length:=by omega
  have hwk:=DF (k:=k) (by omega);have q:=fun n=>WH n ls ws[k] hl (h _ (bc hk));have ih:=ACP n ls ws hl hn h d (k+1) m (by omega) (by omega);rw[AD,bj hk];simp only[bf];generalize BI ls ws[k]=b at q|-;simp only[AG]at q;try simp at ih
  cases b<;>simp[hk,hwk,AG,AB,q,ih]
theorem XQ(n:Nat)(ls:List AF)(ws:List Wrd)(hl:ls.length<=90)(hn:ws.length<=90)(h:∀w∈ws,GB ls.length w):AW bp kn (AH bp ann kn (n+300)) 49 [.list false (ls.map AB),J2 ws]=some (.bool (!ws.all (BI ls))):=by
 rw[AO rfl,AP Tryz.func49 b49 rfl (by simp[AB,AG])];have q:=ACP (n+45) ls ws hl hn h ws.length 0 (n+295) (by omega) (by omega);simp only[bz,bw,bx,bq]at q;generalize ws.all (BI ls)=b at q|-;try simp at q
 cases b<;>simp[c49,AJ,q]
theorem vJ(n:Nat)(c:BC)(ls:List AF)(hl:ls.length<=90)(hw4:c.wits.length<=90)(hx:∀l∈c.wits,l.length<=90/\∀w∈l,GB ls.length w):∀(d k:Nat) (v:Int) (m:Nat),k+d=c.wits.length->d<m->0<=v->v<=k ->
  BN (AH bp ann kn (n+350) 24) X6 (ann 24 (CC X6)) m ⟨1,[(1,true,.list false (ls.map AB)),(2,true,.ptr 0 2 0 0),(5,true,i v),(6,true,i k)],⟨[],[(2,0,.box (AC c))]⟩⟩ =
  some (.exit 0,⟨1,[(11,true,.bool false),(10,true,i c.wits.length),(9,true,.list false (c.wits.map AL)),(8,true,.ptr 0 2 0 5),(7,true,i c.wits.length),(1,true,.list false (ls.map AB)),(2,true,.ptr 0 2 0 0),(5,true,i (U9 (fun l=>!l.all (BI ls)) v (c.wits.drop k))),(6,true,i c.wits.length)],⟨[],[(2,0,.box (AC c))]⟩⟩)
 |0,k,v,m+1,hd,hm,h0,h1=>by
  have:k=c.wits.length:=by omega
  subst this;simp[AD,U9,AC]
 |d+1,k,v,m+1,hd,hm,h0,h1=>by
  have hk:k<c.wits.length:=by omega
  have hw:=DF (k:=k) (by omega);have hv:IntKind.i64.wrap (v+1)=v+1:=AU (by omega) (by omega);obtain⟨g1,g2⟩:=hx _ (bc hk);have q:=fun n=>XQ n ls c.wits[k] hl g1 g2;have ih:=vJ n c ls hl hw4 hx d (k+1) (cond (!c.wits[k].all (BI ls)) (v+1) v) m (by omega) (by omega) (by cases c.wits[k].all (BI ls)<;>simp<;>omega) (by cases c.wits[k].all (BI ls)<;>simp<;>omega);rw[AD,bj hk];simp only[U9];generalize c.wits[k].all (BI ls)=b at q ih|-;simp only[AC]at ih|-;try simp at ih
  cases b<;>(try simp at ih)<;>simp[hk,hw,hv,AL,AB,AM,AG,q,ih]
theorem vK(n:Nat)(c:BC)(ls:List AF)(hl:ls.length<=90)(hw4:c.wits.length<=90)(hx:∀l∈c.wits,l.length<=90/\∀w∈l,GB ls.length w):AW bp kn (AH bp ann kn (n+400)) 35 [.agg (AC c),.list false (ls.map AB)]=some (i (DO c ls)):=by
 rw[AO rfl,AP Tryz.func35 b35 rfl (by simp[AC,AB,AM,AG,AL])];have q:=vJ (n+44) c ls hl hw4 hx c.wits.length 0 0 (n+394) (by omega) (by omega) (by omega) (by omega);simp only[bz,AC,bw,bx,bq]at q|-;try simp at q
 simp[c35,AJ,q,DO]
theorem vL(n:Nat)(c:BC)(hw:c.wits.length<=90):∀(d k m:Nat),k+d=c.wits.length->d<m ->
  BN (AH bp ann kn (n+50) 89) X7 (ann 89 (CC X7)) m ⟨1,[(1,true,.ptr 0 1 0 0),(3,true,i k)],⟨[],[(1,0,.box (AC c))]⟩⟩ =
   bif (c.wits.drop k).all (fun l=>decide (l.length<=4)) then some (.exit 0,⟨1,[(22,true,.bool false),(21,true,i c.wits.length),(20,true,.list false (c.wits.map AL)),(19,true,.ptr 0 1 0 5),(18,true,i c.wits.length),(1,true,.ptr 0 1 0 0),(3,true,i c.wits.length)],⟨[],[(1,0,.box (AC c))]⟩⟩)
   else some (.ret,⟨1,[(2,true,i 3)],⟨[],[]⟩⟩)
 |0,k,m+1,hd,hm=>by
  have:k=c.wits.length:=by omega
  subst this;simp[AD,AC]
 |d+1,k,m+1,hd,hm=>by
  have hk:k<c.wits.length:=by omega
  have hwk:=DF (k:=k) (by omega);have ih:=vL n c hw d (k+1) m (by omega) (by omega);rw[AD,bj hk];simp only[bf];generalize e:decide (c.wits[k].length<=4)=b;have e':decide ((4:Int)<(c.wits[k].length:Int))=!b:=by rw[<-e];exact JZ (by omega)
  simp only[AC]at ih|-;try simp at ih
  cases b<;>simp[hk,hwk,AL,AB,e',ih]
theorem vM(n:Nat)(c:BC)(h1:1<=c.book.chairs)(h4:c.book.chairs<=4)(hw:c.claims.length<=90):∀(d k m:Nat),k+d=c.claims.length->d<m ->
  BN (AH bp ann kn (n+250) 89) RZ (ann 89 (CC RZ)) m ⟨1,[(1,true,.ptr 0 1 0 0),(5,true,i k)],⟨[],[(1,0,.box (AC c))]⟩⟩ =
   bif (c.claims.drop k).all (DJ c) then some (.exit 2,⟨1,[(50,true,.bool false),(49,true,i c.claims.length),(48,true,.list false (c.claims.map AG)),(47,true,.ptr 0 1 0 7),(46,true,i c.claims.length),(1,true,.ptr 0 1 0 0),(5,true,i c.claims.length)],⟨[],[(1,0,.box (AC c))]⟩⟩)
   else some (.ret,⟨1,[(2,true,i 1)],⟨[],[]⟩⟩)
 |0,k,m+1,hd,hm=>by
  have:k=c.claims.length:=by omega
  subst this;simp[AD,AC]
 |d+1,k,m+1,hd,hm=>by
  have hk:k<c.claims.length:=by omega
  have hwk:=DF (k:=k) (by omega);have q:=fun n=>ACM n c c.claims[k] h1 h4;have ih:=vM n c h1 h4 hw d (k+1) m (by omega) (by omega);rw[AD,bj hk];simp only[bf];generalize DJ c c.claims[k]=b at q;simp only[AC,AG]at q ih|-;try simp at ih
  cases b<;>simp[hk,hwk,AL,AG,AB,AM,q,ih]
theorem vN(n:Nat)(c:BC)(h1:1<=c.book.chairs)(h4:c.book.chairs<=4)(j:Nat)(hj:j<c.wits.length)(hx:c.wits[j].length<=90):∀(d k m:Nat),k+d=c.wits[j].length->d<m ->
  BN (AH bp ann kn (n+250) 89) R0 (ann 89 (CC R0)) m ⟨1,[(1,true,.ptr 0 1 0 0),(6,true,i j),(7,true,i k)],⟨[],[(1,0,.box (AC c))]⟩⟩ =
   bif (c.wits[j].drop k).all (DJ c) then some (.exit 6,⟨1,[(75,true,.bool false),(74,true,i c.wits[j].length),(73,true,J2 c.wits[j]),(72,true,.ref (AL c.wits[j])),(71,true,i j),(70,true,.list false (c.wits.map AL)),(69,true,.ptr 0 1 0 5),(68,true,i c.wits[j].length),(1,true,.ptr 0 1 0 0),(6,true,i j),(7,true,i c.wits[j].length)],⟨[],[(1,0,.box (AC c))]⟩⟩)
   else some (.ret,⟨1,[(2,true,i 1)],⟨[],[]⟩⟩)
 |0,k,m+1,hd,hm=>by
  have:k=c.wits[j].length:=by omega
  subst this;simp[AD,AC,hj,AL]
 |d+1,k,m+1,hd,hm=>by
  have hk:k<c.wits[j].length:=by omega
  have hwk:=DF (k:=k) (by omega);have q:=fun n=>ACM n c c.wits[j][k] h1 h4;have ih:=vN n c h1 h4 j hj hx d (k+1) m (by omega) (by omega);rw[AD,bj hk];simp only[bf];generalize DJ c c.wits[j][k]=b at q;simp only[AC,AG]at q ih|-;try simp at ih
  cases b<;>simp[hj,hk,hwk,AL,AG,AB,AM,q,ih]
theorem vO(n:Nat)(c:BC)(h1:1<=c.book.chairs)(h4:c.book.chairs<=4)(hw:c.wits.length<=90)(hx:∀l∈c.wits,l.length<=90):∀(d k m:Nat),k+d=c.wits.length->d<m ->
  BN (AH bp ann kn (n+350) 89) R1 (ann 89 (CC R1)) m ⟨1,[(1,true,.ptr 0 1 0 0),(6,true,i k)],⟨[],[(1,0,.box (AC c))]⟩⟩ =
   bif (c.wits.drop k).all (fun l=>l.all (DJ c)) then some (.exit 4,⟨1,[(65,true,.bool false),(64,true,i c.wits.length),(63,true,.list false (c.wits.map AL)),(62,true,.ptr 0 1 0 5),(61,true,i c.wits.length),(1,true,.ptr 0 1 0 0),(6,true,i c.wits.length)],⟨[],[(1,0,.box (AC c))]⟩⟩)
   else some (.ret,⟨1,[(2,true,i 1)],⟨[],[]⟩⟩)
 |0,k,m+1,hd,hm=>by
  have:k=c.wits.length:=by omega
  subst this;simp[AD,AC]
 |d+1,k,m+1,hd,hm=>by
  have hk:k<c.wits.length:=by omega
  have hwk:=DF (k:=k) (by omega);have q:=vN (n+94) c h1 h4 k hk (hx _ (bc hk)) c.wits[k].length 0 (n+344) (by omega) (by have:=hx _ (bc hk);omega);have ih:=vO n c h1 h4 hw hx d (k+1) m (by omega) (by omega);rw[AD,bj hk];simp only[bf,bz,bw,bx,bq]at q|-;generalize c.wits[k].all (DJ c)=b at q;simp only[AC]at q ih|-;try simp at ih q
  cases b<;>(try simp at q)<;>simp[hk,hwk,AL,AG,AB,AM,q,ih]
theorem vP(n:Nat)(c:BC)(hc:c.claims.length<=90)(hw:c.wits.length<=90)(hx:∀l∈c.wits,l.length<=90):AW bp kn (AH bp ann kn (n+5100)) 73 [.agg (AC c)]=some (i (CB c)):=by
 rw[AO rfl,AP Tryz.func73 b73 rfl (by simp[AC,AB,AM,AG,AL])];unfold CB;generalize e1:decide (4<c.wits.length)=b1;have e1':decide ((4:Int)<(c.wits.length:Int))=b1:=by rw[<-e1];congr 1;apply propext;omega
 generalize e2:decide (4<c.claims.length)=b2;have e2':decide ((4:Int)<(c.claims.length:Int))=b2:=by rw[<-e2];congr 1;apply propext;omega
 cases b1 with
 |true=>simp[c73,AJ,AC,e1',AB,AM,AG,AL]
 |false=>
  cases b2 with
  |true=>simp[c73,AJ,AC,e1',e2',AB,AM,AG,AL]
  |false=>
   have qA:=vL (n+5044) c hw c.wits.length 0 (n+5094) (by omega) (by omega)
   simp only[bz,bw,bx,bq]at qA
   generalize (c.wits.all fun l=>decide (l.length<=4))=b3 at qA|-
   simp only[AC]at qA
   try simp at qA
   cases b3 with
   |false=>
    try simp at qA
    simp[c73,AJ,AC,e1',e2',qA,AB,AM,AG,AL]
   |true=>
    try simp at qA
    have qF:=fun n=>k67 n c.book
    unfold EG
    rw[O8]
    by_cases hf:DC c.book=0
    ·obtain⟨h1,h4,_⟩:=F8 hf;have qP:=fun n=>k88 n c.book hf;rw[hf]at qF|-;simp only[if_true];simp only[AE]at qF qP;generalize PA c.book=p at qP|-;cases p with
     |false=>simp[c73,AJ,AC,e1',e2',qA,qF,qP,AB,AM,AG,AL]
     |true=>
      simp only[if_true]
      have qI:=fun n x lo hi=>k25 n x lo hi
      generalize e4:D7 c.liars 0 4=b4
      cases b4 with
      |false=>simp[c73,AJ,AC,e1',e2',qA,qF,qP,qI,e4,AB,AM,AG,AL]
      |true=>
       have qB:=vM (n+4840) c h1 h4 hc c.claims.length 0 (n+5090) (by omega) (by omega)
       simp only[bz,bw,bx,bq]at qB
       generalize c.claims.all (DJ c)=b5 at qB|-
       simp only[AC]at qB
       cases b5 with
       |false=>
        try simp at qB
        simp[c73,AJ,AC,e1',e2',qA,qF,qP,qI,e4,qB,AB,AM,AG,AL]
       |true=>
        have qD:=vO (n+4739) c h1 h4 hw hx c.wits.length 0 (n+5089) (by omega) (by omega)
        simp only[bz,bw,bx,bq]at qD
        generalize (c.wits.all fun l=>l.all (DJ c))=b6 at qD|-
        simp only[AC]at qD
        try simp at qB
        cases b6<;>(try simp at qD)<;>simp[c73,AJ,AC,e1',e2',qA,qF,qP,qI,e4,qB,qD,AB,AM,AG,AL]
    ·have hd:decide (DC c.book=0)=false:=by simpa using hf
     simp only[AE]at qF;generalize DC c.book=F at qF hf hd|-;rw[if_neg hf];simp only[Bool.not_true,Bool.or_false,Bool.false_eq_true,if_false,hf];simp[c73,AJ,AC,e1',e2',qA,qF,hd,AB,AM,AG,AL]
theorem WI(L:AA)(k γ:Nat)(r:A6):AA.put L k γ r=(k,γ,r)::L:=rfl
theorem pvC(k γ:Nat)(h:List V)(t:List (List V)):pv k γ (h::t)=.vec 0 k γ (t.length+1):=rfl
theorem slN:sl []=.nil:=rfl
theorem slC(e:List V)(es:List (List V)):sl (e::es)=.list false (e::es):=rfl
theorem kN{P:Program}{fr:Fr}{s:St}(e d c:Nat)(ys:List (List V))(h:CD P e 0 ys=true):adV P e d c fr s .nil ys=some (⟨c+1,(d,true,.vec s.up.length d c ys.length)::fr,s.put s.up.length d c (.vec e ys)⟩,[(s.up.length,d),(s.up.length,d+P8)]):=by unfold adV;simp[JH,h]
theorem A2H{k:Nat}{x:Wrd}(h:k<=1000):CD bp 98 k [AG x]=true:=by rw[CQ (by simp) (by simp)];simp[maxLen,AG];omega
theorem ACQ(ws:List Wrd)(hl:ws.length<=900):∀(d k:Nat) (out:List Wrd) (cc γ:Nat),k+d=ws.length->out.length<=k ->
  ∃c' γ',cc<=c'/\∀n m,d<m->BN (AH bp ann kn (n+50) 36) X8 (ann 36 (CC X8)) m ⟨cc,[(0,true,J2 ws),(3,true,pv 34 γ (out.map AG)),(4,true,i k)],⟨[],pl 34 γ 98 (out.map AG)⟩⟩ =
  some (.exit 0,⟨c',[(8,true,.bool false),(7,true,i ws.length),(6,true,J2 ws),(5,true,i ws.length),(0,true,J2 ws),(3,true,pv 34 γ' ((out++ws.drop k).map AG)),(4,true,i ws.length)],⟨[],pl 34 γ' 98 ((out++ws.drop k).map AG)⟩⟩)
 |0,k,out,cc,γ,hd,ho=>by
  have:k=ws.length:=by omega
  subst this;refine⟨cc,γ,Nat.le_refl _,fun n m hm=>?_⟩;obtain⟨m,rfl⟩:=qNz m (by omega);simp[AD]
 |d+1,k,out,cc,γ,hd,ho=>by
  have hk:k<ws.length:=by omega
  have hwk:=DF (k:=k) (by omega);obtain⟨c',γ',hc,ih⟩:=ACQ ws hl d (k+1) (out++[ws[k]]) (cc+1) cc (by omega) (by simp;omega);have happ:=A2H (k:=out.length) (x:=ws[k]) (by omega);refine⟨c',γ',by omega,fun n m hm=>?_⟩;obtain⟨m,rfl⟩:=qNz m (by omega);have ih:=ih n m (by omega);rw[AD,bj hk];simp only[List.map_append,List.map_cons,bn,FJ,AG,List.append_assoc,List.cons_append,List.nil_append]at ih happ|-;try simp at ih
  simp[hk,hwk,AG,happ,P8,ih]
theorem ACR(n:Nat)(ws:List Wrd)(hl:ws.length<=900):AW bp kn (AH bp ann kn (n+1000)) 67 [J2 ws]=some (sl (ws.map AG)):=by
 rw[AO rfl,AP Tryz.func67 b67 rfl (by simp[AG])];obtain⟨c',γ',h1,q⟩:=ACQ ws hl ws.length 0 [] 0 0 (by omega) (by simp);have q:=q (n+944) (n+994) (by omega);have hcl:(ws.map AG).all (fun e=>e.all (AK 8))=true:=by simp[AG]
 simp only[bz,List.nil_append,bn,LD,HZ,bw,bx,bq]at q;try simp at q hcl
 simp[c67,AJ,q];exact hcl
abbrev bxK(c:BC)(v:V):A6:=.box [i c.book.chairs,i c.book.coin,i c.book.box,sl (c.book.lines.map AB),sl (c.book.counts.map AM),v,i c.liars,sl (c.claims.map AG)]
theorem A2J{k:Nat}{v:V}(h:k<=1000):CD bp 41 k [[v]]=true:=by rw[CQ (by simp) (by simp)];simp[maxLen];omega
theorem A2K(ls:List (List Wrd)):(ls.map AL).map (List.map kD)=ls.map AL:=by rw[List.map_map];exact List.map_congr_left fun x _=>rfl
theorem ACS(c:BC)(h1:c.wits.length<=100)(h2:∀l∈c.wits,l.length<=100):∀(d k:Nat) (g γ:Nat),k+d=c.wits.length->2<g->∃g' γ',g<=g'/\∀n m,d<m->BN (AH bp ann kn (n+1100) 33) X9 (ann 33 (CC X9)) m ⟨g,[(1,true,.ptr 0 1 0 0),(2,true,.ptr 0 2 1 0),(3,true,.ptr 0 3 2 0),(4,true,i k)],⟨[],(1,0,.box (AC c))::(2,1,.box [i 0,i 0,i 0,.nil,.nil,.nil,i 0,.nil])::(3,2,bxK c (pv 30 γ ((c.wits.take k).map AL)))::pl 30 γ 41 ((c.wits.take k).map AL)⟩⟩ =
  some (.exit 0,⟨g',[(18,true,.bool false),(17,true,i c.wits.length),(16,true,.list false (c.wits.map AL)),(15,true,.ptr 0 1 0 5),(14,true,i c.wits.length),(1,true,.ptr 0 1 0 0),(2,true,.ptr 0 2 1 0),(3,true,.ptr 0 3 2 0),(4,true,i c.wits.length)],⟨[],(1,0,.box (AC c))::(2,1,.box [i 0,i 0,i 0,.nil,.nil,.nil,i 0,.nil])::(3,2,bxK c (pv 30 γ' (c.wits.map AL)))::pl 30 γ' 41 (c.wits.map AL)⟩⟩)
 |0,k,g,γ,hk,hg=>by
  have:k=c.wits.length:=by omega
  subst this;rw[List.take_length];refine⟨g,γ,Nat.le_refl _,fun n m hm=>?_⟩;obtain⟨m,rfl⟩:=qNz m (by omega);rw[AD];simp only[AC,bxK];cases c.wits<;>simp
 |d+1,k,g,γ,hk,hg=>by
  have hk':k<c.wits.length:=by omega
  have hw:=DF (k:=k) (by omega);have h3:=h2 _ (bc hk');have q:=fun n=>ACR n c.wits[k] (by omega);have hst:(c.wits.take (k+1)).map AL=(c.wits.take k).map AL++[AL c.wits[k]]:=by rw[List.take_succ_eq_append_getElem hk',List.map_append];rfl
  have hRl:((c.wits.take k).map AL).length=k:=by rw[List.length_map,List.length_take];omega
  have hwk:=A2K (c.wits.take k);have hR1:∀e∈(c.wits.take k).map AL,e.length=1:=fun e he=>by obtain⟨l,_,rfl⟩:=List.mem_map.1 he;rfl
  have ha:=A2J (k:=((c.wits.take k).map AL).length) (v:=sl (c.wits[k].map AG)) (by omega);obtain⟨g',γ',hgg,ih⟩:=ACS c h1 h2 d (k+1) (g+1) g (by omega) (by omega);refine⟨g',γ',by omega,fun n m hm=>?_⟩;obtain⟨m,rfl⟩:=qNz m (by omega);have ih:=ih n m (by omega);rw[hst]at ih;rw[AD];generalize (c.wits.take k).map AL=R at *;simp only[AL]at ih;have hf:BD (sl (c.wits[k].map AG))=true:=by cases c.wits[k].map AG<;>rfl
  have hv:BA (sl (c.wits[k].map AG))=[sl (c.wits[k].map AG)]:=by cases c.wits[k].map AG<;>rfl
  have hwl:kD (sl (c.wits[k].map AG))=J2 c.wits[k]:=AUE _;generalize hW:sl (c.wits[k].map AG)=W at *;simp only[AC,bxK]at ih|-;cases R with
  |nil=>
   simp[pvC]at ih ha
   simp[hk',hw,AL,q,hW,hf,hv,hwl,ha,ih,WI,US,P8,kN,pvC,FE,IJ,DE,SK,NX,show 2<g+1 by omega]
  |cons r R=>
   have hR2:=hR1 r (by simp)
   have hR3:=eq_true (fun e he=>hR1 e (bg r he):∀e∈R,e.length=1)
   simp[pvC]at ih ha hwk
   simp[hk',hw,AL,q,hW,hf,hv,hwl,ha,ih,hwk,hR2,hR3,WI,US,P8,kN,pvC,FE,IJ,DE,SK,NX,show 2<g+1 by omega]
def HC(c:BC):List V:=[i c.book.chairs,i c.book.coin,i c.book.box,sl (c.book.lines.map AB),sl (c.book.counts.map AM),sl (c.wits.map AL),i c.liars,sl (c.claims.map AG)]
theorem XR(n:Nat)(c:BC)(hl:c.book.lines.length<=100)(hk:c.book.counts.length<=100)(h1:c.wits.length<=100)(h2:∀l∈c.wits,l.length<=100)(h3:c.claims.length<=100):AW bp kn (AH bp ann kn (n+1200)) 22 [.agg (AC c)]=some (.agg (HC c)):=by
 rw[AO rfl,AP Tryz.func22 b22 rfl (by simp[AC,AB,AM,AG,AL])];have qB:=fun n=>k22 n c.book (by omega) (by omega);have qW:=fun n=>ACR n c.claims (by omega);obtain⟨g1,γ1,g2,q⟩:=ACS c h1 h2 c.wits.length 0 3 0 (by omega) (by omega);have q:=q (n+94) (n+1194) (by omega);have c1:∀e∈c.wits.map AL,∀v∈e,AK 7 v=true:=fun e he v hv=>by obtain⟨l,_,rfl⟩:=List.mem_map.1 he;simp only[AL,List.mem_cons,List.not_mem_nil,or_false]at hv;subst hv;simp[AG]
 have hg2:1<g1:=by omega
 unfold HC;simp only[AC,AE,uT,bxK,List.take_zero,bn,bw,bx,bq]at q qB|-;generalize c.wits.map AL=R at *;cases R with
 |nil=>
  simp at q
  simp[c22,AJ,qB,qW,q,hg2,AB,AM,AG,pvC,slN,slC,WI,US,P8,FE,IJ,DE,SK,NX]
 |cons r R=>
  have r1:=eq_true (c1 r (by simp))
  have r2:=eq_true (fun e he=>c1 e (bg r he):∀e∈R,∀v∈e,AK 7 v=true)
  simp[pvC]at q
  simp[c22,AJ,qB,qW,q,r1,r2,hg2,AB,AM,AG,pvC,slN,slC,WI,US,P8,FE,IJ,DE,SK,NX]
end Go.Proofs.Tryz.Op
