/- Contracts: CheckBook. No condition. -/
import Derived.Test.YtmnlpgjklibndaaGreatB1
open Go.Proofs.Tryz renaming prog->br
open List renaming drop_eq_getElem_cons->bj,getElem_mem->bx,drop_zero->bz,all_eq_true->bg,mem_cons->bn,getD->bp
open Nat renaming add_assoc->bq,reduceAdd->bw
open Int renaming natCast_zero->bc
open Bool renaming and_eq_true->bf
set_option maxRecDepth 100000
set_option linter.unusedSimpArgs false
open Go Go.Pg Go.Proofs
namespace Go.Proofs.Tryz.Op
theorem EQ(C:Int)(l:AF)(h:C<=4):(readingsP C l).length<=32:=by
 have h2:=fun k=>jQ C l k h (F9 l.c (-1) 0 (C-1));have h3:=L9 l.c (-1) 0 (C-1) (by omega);have e:F9 l.k 0 1 2=[1,2]\/F9 l.k 0 1 2=[l.k]:=by
  unfold F9;split
  ·exact .inl rfl
  ·exact .inr rfl
 unfold readingsP rd1;rcases e with e|e<;>rw[e]<;>simp only[List.flatMap_cons,List.flatMap_nil,List.length_append,List.length_nil]
 ·have:=h2 1;have:=h2 2;omega
 ·have:=h2 l.k;omega
def U3(v:Int):Int:=if 4097<v then 4097 else v
def MA(C:Int)(n:Int)(ls:List AF):Int:=ls.foldl (fun n l=>U3 (n*(readingsP C l).length)) n
def E4(b:A5):Int :=
 if (decide (8<b.lines.length)||decide (4<b.counts.length))=true then 3
 else if (D7 b.chairs 1 4&&(D7 b.coin 1 99&&D7 b.box 0 999))=false then 1
 else if b.lines.all (CJ b.chairs)=false then 1
 else if b.counts.all (FL b.lines.length)=false then 1
 else if 4096<MA b.chairs 1 b.lines then 3 else 0
theorem l55(n:Nat)(b:A5)(h1:1<=b.chairs)(h4:b.chairs<=4):∀(d k:Nat) (v:Int) (c m:Nat),k+d=b.lines.length->d<m->0<=v->v<=4097->b.lines.length<=8->1<=c ->
  ∃c':Nat,BN (AH br ann kn (n+550) 72) WX (some ([1,5,55,56,57],[1,64])) m ⟨c,[(1,true,.ptr 0 1 0 0),(5,true,i v),(55,true,.list false (b.lines.map AB)),(56,true,i b.lines.length),(57,true,i k)],⟨[],[(1,0,.box (AE b))]⟩⟩ =
  some (.exit 1,⟨c',[(58,true,.bool false),(1,true,.ptr 0 1 0 0),(5,true,i (MA b.chairs v (b.lines.drop k))),(55,true,.list false (b.lines.map AB)),(56,true,i b.lines.length),(57,true,i b.lines.length)],⟨[],[(1,0,.box (AE b))]⟩⟩)
 |0,k,v,c,m+1,hd,hm,hv,hv2,hl,hc=>by
  have:k=b.lines.length:=by omega
  subst this;refine⟨c,?_⟩;simp[AD,AE,MA]
 |d+1,k,v,c,m+1,hd,hm,hv,hv2,hl,hc=>by
  have hk:k<b.lines.length:=by omega
  have hr:=EQ b.chairs b.lines[k] h4;have hq:=U2 hv (by omega) hr;have hw:IntKind.i64.wrap ((k:Int)+1)=(k:Int)+1:=AU (by omega) (by omega);have hw2:IntKind.i64.wrap (v*((readingsP b.chairs b.lines[k]).length:Int))=v*((readingsP b.chairs b.lines[k]).length:Int):=AU (by omega) (by omega);have h5:0<=U3 (v*((readingsP b.chairs b.lines[k]).length:Int))/\U3 (v*((readingsP b.chairs b.lines[k]).length:Int))<=4097:=by unfold U3;split<;>omega
  obtain⟨c',ih⟩:=l55 n b h1 h4 d (k+1) (U3 (v*((readingsP b.chairs b.lines[k]).length:Int))) (c+1) m (by omega) (by omega) h5.1 h5.2 hl (by omega);have hc8:=fun n=>k81 n b b.lines[k] h1 h4;have hc9:=fun n=>k98 n (v*((readingsP b.chairs b.lines[k]).length:Int)) 4097;refine⟨c',?_⟩;rw[AD];simp only[AE,AB,bj hk,MA,List.foldl_cons,U3]at ih hc8|-;try simp at ih
  simp[hk,hw,hw2,AB,hc8,hc9,AM,ih]
theorem k55(n:Nat)(b:A5):AW br kn (AH br ann kn (n+800)) 137 [.agg (AE b)]=some (i (E4 b)):=by
 rw[AO rfl,AP Tryz.func137 BEA rfl (by simp[AE,AB,AM])];unfold E4;generalize e1:decide (8<b.lines.length)=b1;have e1':decide ((8:Int)<(b.lines.length:Int))=b1:=by rw[<-e1];congr 1;apply propext;omega
 generalize e2:decide (4<b.counts.length)=b2;have e2':decide ((4:Int)<(b.counts.length:Int))=b2:=by rw[<-e2];congr 1;apply propext;omega
 generalize e3:D7 b.chairs 1 4=b3;generalize e4:D7 b.coin 1 99=b4;generalize e5:D7 b.box 0 999=b5;cases b1
 ·cases b2
  ·cases b3
   ·simp[gD,AJ,AE,e1',e2',e3]
   ·cases b4
    ·simp[gD,AJ,AE,e1',e2',e3,e4]
    ·cases b5
     ·simp[gD,AJ,AE,e1',e2',e3,e4,e5]
     ·have h14:1<=b.chairs/\b.chairs<=4:=by simpa [D7]using e3
      have hl:b.lines.length<=8:=by simpa using e1
      have hc:b.counts.length<=4:=by simpa using e2
      have q96:=fun n=>k96 n b b.lines h14.1 h14.2 (by omega);have q97:=fun n=>k97 n b b.counts (by omega);obtain⟨c1,q1⟩:=l55 (n+242) b h14.1 h14.2 b.lines.length 0 1 1 (n+792) (by omega) (by omega) (by omega) (by omega) hl (by omega);generalize e6:b.lines.all (CJ b.chairs)=b6 at q96;generalize e7:b.counts.all (FL b.lines.length)=b7 at q97;generalize e8:decide (4096<MA b.chairs 1 b.lines)=b8;have e8':(4096<MA b.chairs 1 b.lines)=(b8=true):=by rw[<-e8];simp
      simp only[bz,e6,e7,e8',AE,bq,bw,bc]at q1 q96 q97|-;cases b6
      ·simp[gD,AJ,AE,e1',e2',e3,e4,e5,q96,AB,AM]
      ·cases b7
       ·simp[gD,AJ,AE,e1',e2',e3,e4,e5,q96,q97,AB,AM]
       ·simp[gD,AJ,AE,e1',e2',e3,e4,e5,q96,q97,AB,AM];simp[q1,e8];cases b8<;>simp
  ·simp[gD,AJ,AE,e1',e2']
 ·simp[gD,AJ,AE,e1']
structure AY where
 ch:List Int
 tk:List Int
 money:Int
 mixed:Int
def AX(s:AY):List V:=s.ch.map i++(s.tk.map i++[i s.money,i s.mixed])
def BQ(b:A5):AY:=⟨[0,0,0,0],[0,0,0,0],b.box,0⟩
theorem AMK(n:Nat)(b:A5):AW br kn (AH br ann kn (n+100)) 168 [.agg (AE b)]=some (.agg (AX (BQ b))):=by rw[AO rfl,AP Tryz.func168 BEB rfl (by simp[AE,AB,AM])];simp[A3E,AJ,AE,AX,BQ]
def CA(coin:Int)(s:AY)(k:Int)(l:AF):AY×Bool :=
 let out:=decide (l.k=2)
 let c:=s.ch.getD l.c.toNat 0
 let t:=s.tk.getD l.t.toNat 0
 if ((!decide (c=0)) != out||(!decide (t=0)) != out)=true then(s,false)
 else if out=true then(⟨s.ch.set l.c.toNat 0,s.tk.set l.t.toNat 0,s.money-coin,if decide (c=t)=true then s.mixed else s.mixed+1⟩,true)
 else(⟨s.ch.set l.c.toNat (k+1),s.tk.set l.t.toNat (k+1),s.money+coin,s.mixed⟩,true)
structure AY.ok(s:AY):Prop where
 ch:s.ch.length=4
 tk:s.tk.length=4
theorem aT{l:List Int}(h:l.length=4):∃a b c d,l=[a,b,c,d]:=by
 match l,h with
 |[a,b,c,d],_=>exact⟨a,b,c,d,rfl⟩
set_option maxHeartbeats 1000000 in
theorem AWJ(n:Nat)(b:A5)(s:AY)(k:Int)(l:AF)(hs:s.ok)(hc0:0<=l.c)(hc:l.c<4)(ht0:0<=l.t)(ht:l.t<4)(hk0:0<=k)(hk:k<=1000)(hm0:-100000<=s.money)(hm:s.money<=100000)(hx0:0<=s.mixed)(hx:s.mixed<=1000)(hco0:-1000<=b.coin)(hco:b.coin<=1000) :
  AW br kn (AH br ann kn (n+100)) 171 [.agg (AE b),.agg (AX s),i k,.agg (AB l)]=some (.tup [.agg (AX (CA b.coin s k l).1),.bool (CA b.coin s k l).2]):=by
 obtain⟨ch,tk,money,mixed⟩:=s
 obtain⟨lk,lc,lt⟩:=l
 obtain⟨a0,a1,a2,a3,rfl⟩:=aT hs.ch
 obtain⟨b0,b1,b2,b3,rfl⟩:=aT hs.tk
 simp only at *
 rw[AO rfl,AP Tryz.func171 BEC rfl (by simp[AE,AB,AM,AX])]
 have w1:IntKind.i64.wrap (k+1)=k+1:=AU (by omega) (by omega)
 have w2:IntKind.i64.wrap (money+b.coin)=money+b.coin:=AU (by omega) (by omega)
 have w3:IntKind.i64.wrap (money-b.coin)=money-b.coin:=AU (by omega) (by omega)
 have w4:IntKind.i64.wrap (mixed+1)=mixed+1:=AU (by omega) (by omega)
 have hc4:lc=0\/lc=1\/lc=2\/lc=3:=by omega
 have ht4:lt=0\/lt=1\/lt=2\/lt=3:=by omega
 unfold CA
 generalize e1:decide (lk=2)=q1
 generalize e2:decide (bp [a0,a1,a2,a3] lc.toNat 0=0)=q2
 generalize e3:decide (bp [b0,b1,b2,b3] lt.toNat 0=0)=q3
 generalize e4:decide (bp [a0,a1,a2,a3] lc.toNat 0=bp [b0,b1,b2,b3] lt.toNat 0)=q4
 rcases hc4 with rfl|rfl|rfl|rfl<;>rcases ht4 with rfl|rfl|rfl|rfl
 all_goals
  simp only[Int.reduceToNat,List.getD_cons_succ,List.getD_cons_zero,Int.toNat_zero]at e2 e3 e4
  simp[A3F,AJ,AE,AX,AB,e1,e2]
  cases q1<;>cases q2<;>(try simp[e3])<;>cases q3<;>(try simp[e4,w1,w2,w3,w4])<;>cases q4<;>(try simp[w1,w2,w3,w4])<;>(try (simp only[decide_eq_true_eq,decide_eq_false_iff_not]at e4))<;>(try simp[e4])
def VZ(n:Int):Prop:=-9223372036854775808<=n/\n<9223372036854775808
def NJ(l:AF):Prop:=VZ l.k/\VZ l.c/\VZ l.t
theorem aU{n:Int}(h:VZ n):(Lit.int .i64 n).wf=true:=by obtain⟨h1,h2⟩:=h;have e:IntKind.i64.max=9223372036854775807:=rfl;simp only[Lit.wf,bf,decide_eq_true_eq];exact⟨h1,by omega⟩
theorem A9W(l x:AF)(hl:NJ l)(hx:NJ x):Q3 br 96 (AB l) (AB x)=some (decide (l.k=x.k)&&(decide (l.c=x.c)&&decide (l.t=x.t))):=by
 have a1:=aU hl.1;have a2:=aU hl.2.1;have a3:=aU hl.2.2;have b1:=aU hx.1;have b2:=aU hx.2.1;have b3:=aU hx.2.2;have k3:∀n:Int,(Lit.int .i64 n).wf=true->Program.keyLits br 15 3 [.int .i64 n]=some [.int .i64 n]:=fun n h=>by unfold Program.keyLits;simp[Tryz.underlying3,h]
 have kl:∀l:AF,NJ l->Program.keyLits br 16 96 [.int .i64 l.k,.int .i64 l.c,.int .i64 l.t]=some [.int .i64 l.k,.int .i64 l.c,.int .i64 l.t]:=fun l hl=>by unfold Program.keyLits;simp[Tryz.underlying96,k3 _ (aU hl.1),k3 _ (aU hl.2.1),k3 _ (aU hl.2.2)]
 have kt:(AEV br 96&&Program.keyTypeAt br 16 96&&!(br.eqGuardType br.depth 96))=true:=by kernel_rfl
 unfold Q3;simp[AB,DP,kl _ hl,kl _ hx];refine⟨⟨by simpa using kt,by simp[CR]⟩,?_⟩;simp only[K6,Bool.and_true];congr 1
def eqL(l x:AF):Bool:=decide (l.k=x.k)&&(decide (l.c=x.c)&&decide (l.t=x.t))
theorem A9X(n:Nat)(l:AF)(hl:NJ l)(xs:List AF)(hx:∀x∈xs,NJ x)(hlen:xs.length<=1000):∀(d k:Nat) (c m:Nat),k+d=xs.length->d<m ->
  ∃(j:Int),0<=j/\BN (AH br ann kn (n+50) 19) WY (some ([0,1,3,7,8],[3])) m ⟨c,[(0,true,.list false (xs.map AB)),(1,true,.agg (AB l)),(3,true,.ptr 0 3 0 0),(7,true,i xs.length),(8,true,i k)],⟨[],[(3,0,.box (AB l))]⟩⟩ =
   bif (xs.drop k).any (eqL l) then some (.ret,⟨c,[(4,true,i j),(17,true,i j),(5,true,i j)],⟨[],[]⟩⟩)
   else some (.exit 0,⟨c,[(9,true,.bool false),(0,true,.list false (xs.map AB)),(1,true,.agg (AB l)),(3,true,.ptr 0 3 0 0),(7,true,i xs.length),(8,true,i xs.length)],⟨[],[(3,0,.box (AB l))]⟩⟩)
 |0,k,c,m+1,hd,hm=>by
  have:k=xs.length:=by omega
  subst this;refine⟨0,by omega,?_⟩;simp[AD,AB]
 |d+1,k,c,m+1,hd,hm=>by
  have hk:k<xs.length:=by omega
  have hw:IntKind.i64.wrap ((k:Int)+1)=(k:Int)+1:=AU (by omega) (by omega);obtain⟨j,h2,ih⟩:=A9X n l hl xs hx hlen d (k+1) c m (by omega) (by omega);have he:=A9W l xs[k] hl (hx _ (bx hk));rw[AD,bj hk,List.any_cons];have hq:eqL l xs[k]=(decide (l.k=xs[k].k)&&(decide (l.c=xs[k].c)&&decide (l.t=xs[k].t))):=rfl;rw[<-hq]at he;generalize eqL l xs[k]=b at he;simp only[AB]at he ih|-;try simp at ih
  cases b with
  |true=>
   refine⟨k,by omega,?_⟩
   simp[hk,hw,AB,he]
  |false=>
   refine⟨j,h2,?_⟩
   simp[hk,hw,AB,he,ih]
theorem BH4(n:Nat)(l:AF)(hl:NJ l)(xs:List AF)(hx:∀x∈xs,NJ x)(hlen:xs.length<=90):∃j:Int,decide (0<=j)=xs.any (eqL l)/\AW br kn (AH br ann kn (n+100)) 191 [.list false (xs.map AB),.agg (AB l)]=some (i j):=by
 obtain⟨j,h1,q⟩:=A9X (n+45) l hl xs hx (by omega) xs.length 0 1 (n+95) (by omega) (by omega);rw[AO rfl,AP Tryz.func191 BED rfl (by simp[AB])];simp only[bz,AB,bq,bw]at q|-;generalize xs.any (eqL l)=b at q;cases b with
 |true=>
  refine⟨j,by simpa using h1,?_⟩
  try simp at q
  simp[ARB,AJ,q]
 |false=>
  refine⟨-1,by simp,?_⟩
  try simp at q
  simp[ARB,AJ,q]
theorem BH5(n:Nat)(l:AF)(hl:NJ l)(xs:List AF)(hx:∀x∈xs,NJ x)(hlen:xs.length<=90):AW br kn (AH br ann kn (n+200)) 188 [.list false (xs.map AB),.agg (AB l)]=some (.bool (xs.any (eqL l))):=by obtain⟨j,h1,q⟩:=BH4 (n+97) l hl xs hx hlen;rw[AO rfl,AP Tryz.func188 BEE rfl (by simp[AB])];simp only[AB,bq,bw]at q|-;simp[A3G,AJ,q,h1,AB]
theorem O6{n:Int}(h:-1000<=n)(h2:n<=1000):VZ n:=⟨by omega,by omega⟩
theorem xV{a x:Int}:∀{d:Nat},x∈rng a d->a<=x/\x<a+d
 |0,h=>by cases h
 |d+1,h=>by
  rcases bn.1 h with rfl|h
  ·omega
  ·have:=xV h;omega
theorem aV{sg no a b x:Int}(h:x∈F9 sg no a b):(sg=no/\a<=x/\x<=b)\/(sg≠no/\x=sg):=by
 unfold F9 at h;split at h
 ·rename_i e;have:=xV h;exact .inl ⟨e,by omega,by omega⟩
 ·rename_i e;exact .inr ⟨e,by simpa using h⟩
theorem QT{C:Int}{l x:AF}(h:x∈readingsP C l):x.k∈F9 l.k 0 1 2/\x.c∈F9 l.c (-1) 0 (C-1)/\x.t∈F9 l.t (-1) 0 (C-1):=by unfold readingsP rd1 rd2 rd3 at h;simp only[List.mem_flatMap,List.mem_map]at h;obtain⟨k,h1,c,h2,t,h3,rfl⟩:=h;exact⟨h1,h2,h3⟩
theorem MB{C:Int}{l:AF}(h:CJ C l=true):(0<=l.k/\l.k<=2)/\(-1<=l.c/\l.c<=C-1)/\(-1<=l.t/\l.t<=C-1):=by simp only[CJ,D7,bf,decide_eq_true_eq]at h;exact⟨h.1,h.2.1,h.2.2⟩
theorem J0{C:Int}(_hC:C<=4){l x:AF}(hl:CJ C l=true)(h:x∈readingsP C l):(1<=x.k/\x.k<=2)/\(0<=x.c/\x.c<=C-1)/\(0<=x.t/\x.t<=C-1):=by obtain⟨v1,v2,v3⟩:=MB hl;obtain⟨h1,h2,h3⟩:=QT h;have h1:=aV h1;have h2:=aV h2;have h3:=aV h3;omega
def H1(C:Int)(l x:AF):Bool:=(readingsP C l).any (eqL x)
theorem BH6(n:Nat)(b:A5)(l x:AF)(h1:1<=b.chairs)(h4:b.chairs<=4)(hl:CJ b.chairs l=true)(hx:NJ x):AW br kn (AH br ann kn (n+600)) 174 [.agg (AE b),.agg (AB l),.agg (AB x)]=some (.bool (H1 b.chairs l x)):=by
 have q1:=fun n=>k81 n b l h1 h4;have q2:=fun n=>BH5 n x hx (readingsP b.chairs l) (fun y hy=>by
  obtain⟨a1,a2,a3⟩:=J0 h4 hl hy;exact⟨O6 (by omega) (by omega),O6 (by omega) (by omega),O6 (by omega) (by omega)⟩) (by have:=EQ b.chairs l h4; omega)
 rw[AO rfl,AP Tryz.func174 BEF rfl (by simp[AE,AB,AM])];simp only[AE,AB]at q1 q2|-;simp[A3H,AJ,q1,q2,AB,AM,H1]
end Go.Proofs.Tryz.Op
open Go.Season
namespace Go.Proofs.Tryz.Op
def countOne(money k:Int)(x:FK):Bool:=!decide (x.a=k)||D7 money x.lo x.hi
theorem k93(n:Nat)(b:A5)(s:AY)(k:Int)(hs:s.ok)(hl:b.counts.length<=40):AW br kn (AH br ann kn (n+900)) 145 [.agg (AE b),.agg (AX s),i k]=some (.bool (b.counts.all (countOne s.money k))):=by
 obtain⟨ch,tk,money,mixed⟩:=s;obtain⟨a0,a1,a2,a3,rfl⟩:=aT hs.ch;obtain⟨b0,b1,b2,b3,rfl⟩:=aT hs.tk;simp only at *;rw[AO rfl,AP Tryz.func145 BEH rfl (by simp[AE,AB,AM,AX])];have hp:kG (fun (_:Unit)=>[[(3,0,A6.box (AE b)),(4,1,.box (AX ⟨[a0,a1,a2,a3],[b0,b1,b2,b3],money,mixed⟩)),(5,2,.box [i k])]]++[[(3,3,A6.box [V.fn 175 [] [.ptr 0 5 2 0,.ptr 0 4 1 0]])]]++[[]]) (fun _=>True) 500 186 [.ptr 1 3 3 0] (fun _ x=>!countOne money k x) (fun _ _=>()) b.counts 0:=by intro n c fr _ x _ _ hx;refine⟨fun _=>trivial,c+2,by omega,?_⟩;have hk:=fun n=>BDQ n x.lo x.hi money;unfold countOne;generalize e1:decide (x.a=k)=q1;simp only[AE,AM,AX]at hk|-;rw[BP Tryz.func186 b186 rfl (by simp)];simp[ARA,AJ];rw[BP Tryz.func175 b175 rfl (by simp)];simp[A3M,AJ,e1];cases q1<;>simp[hk]
 have hsh:∀t:St,[[(3,0,A6.box (AE b)),(4,1,.box (AX ⟨[a0,a1,a2,a3],[b0,b1,b2,b3],money,mixed⟩)),(5,2,.box [i k])]].length+1<=t.up.length->([[(3,0,A6.box (AE b)),(4,1,.box (AX ⟨[a0,a1,a2,a3],[b0,b1,b2,b3],money,mixed⟩)),(5,2,.box [i k])]]++[[(3,3,A6.box [V.fn 175 [] [.ptr 0 5 2 0,.ptr 0 4 1 0]])]]).map (AQ t)=[[(3,0,A6.box (AE b)),(4,1,.box (AX ⟨[a0,a1,a2,a3],[b0,b1,b2,b3],money,mixed⟩)),(5,2,.box [i k])]]++[[(3,3,A6.box [V.fn 175 [] [.ptr 0 5 2 0,.ptr 0 4 1 0]])]]:=by
  intro t ht;obtain⟨up,loc⟩:=t;have h0:¬0=up.length:=by simp at ht;omega
  simp[AE,AX,h0]
 obtain⟨c',q1,q2⟩:=AMV (n+194) 500 (fun _=>[[(3,0,.box (AE b)),(4,1,.box (AX ⟨[a0,a1,a2,a3],[b0,b1,b2,b3],money,mixed⟩)),(5,2,.box [i k])]]) (fun _=>[(3,3,.box [.fn 175 [] [.ptr 0 5 2 0,.ptr 0 4 1 0]])]) (fun _=>True) 186 [.ptr 1 3 3 0] (by simp) (by simp) (fun _ x=>!countOne money k x) (fun _ _=>()) b.counts 0 hp hl (fun _ t h=>hsh t h) 4 7 [(6,true,.fn 186 [] [.ptr 1 3 3 0]),(5,true,.list false (b.counts.map AM)),(0,true,.list false (b.counts.map AM)),(1,true,.fn 175 [] [.ptr 0 5 2 0,.ptr 0 4 1 0]),(3,true,.ptr 1 3 3 0)] () (Nat.zero_le _) trivial;rw[GS]at q2;have ha:=K1 (countOne money k) b.counts;simp only[AE,AX,bq,bw]at q2|-;try simp at q2
 simp[A3L,AJ];rw[BP Tryz.func165 b165 rfl (by simp)];simp[AQ9,AJ,q2];rw[<-ha,Bool.not_not]
end Go.Proofs.Tryz.Op
namespace Go.Pg
def tv(k γ:Nat)(e0:List V):List (List V)->V
 |[]=>.list true [e0]
 |e::es=>.vec 0 k γ ((e::es).length+1)
def tl(k γ:Nat)(T:TypeId)(e0:List V):List (List V)->AA
 |[]=>[]
 |e::es=>[(k,γ,.vec T (e0::e::es))]
variable {P:Program}{fr:Fr}
@[simp] theorem AWK(k γ:Nat)(e0:List V):tv k γ e0 []=.list true [e0]:=rfl
@[simp] theorem AWL(k γ:Nat)(T:TypeId)(e0:List V):tl k γ T e0 []=[]:=rfl
@[simp] theorem AML(k γ:Nat)(T:TypeId)(e0:List V)(es:List (List V))(y:List V)(ys:List (List V)):tl k γ T e0 (es++y::ys)=[(k,γ,.vec T (e0::(es++y::ys)))]:=by cases es<;>rfl
@[simp] theorem BLQ(k γ:Nat)(T:TypeId)(e0:List V)(es:List (List V)):kl k [] ((tl k γ T e0 es).get k)=tl k γ T e0 es:=by
 cases es with
 |nil=>rfl
 |cons e es=>simp[tl]
@[simp] theorem A9Z{k j:Nat}(γ:Nat)(T:TypeId)(e0:List V)(es:List (List V))(h:j≠k):(tl k γ T e0 es).get j=none:=by
 cases es with
 |nil=>rfl
 |cons e es=>simp[tl,h]
@[simp] theorem AWM(e k c γ:Nat)(loc:AA)(e0:List V)(es:List (List V))(y:List V)(ys:List (List V))(hl:AA.get loc k=(tl k γ e e0 es).get k)(h1:(e0::es).all (fun y=>y.length==P.cellsOf e)=true)(h2:CD P e (e0::es).length (y::ys)=true) :
  rH P e k c fr ⟨[],loc⟩ (tv k γ e0 es) (y::ys)=some ⟨c+1,(k,true,tv k c e0 (es++y::ys))::fr,⟨[],(k,c,.vec e (e0::(es++y::ys)))::loc⟩⟩:=by
 cases es with
 |nil=>
  simp only[tv,AHQ,h1,h2,and_self,if_true]
  simp[Nat.add_comm,Nat.add_left_comm]
 |cons z es=>exact AV8 (P:=P) (fr:=fr) e k c γ loc (e0::z::es) y ys hl h1 h2
@[simp] theorem A1Z(f k γ:Nat)(T:TypeId)(e0:List V)(es:List (List V)):A4 ⟨[],tl k γ T e0 es⟩ (f+1) (tv k γ e0 es)=some (.list false (e0::es)):=by
 cases es with
 |nil=>rfl
 |cons e es=>simp[tv,tl]
end Go.Pg
namespace Go.Proofs.Tryz.Op
theorem TI(coin:Int)(s:AY)(k:Int)(l:AF)(h:s.ok):(CA coin s k l).1.ok:=by
 unfold CA;simp only;split
 ·exact h
 ·split
  ·exact⟨by simp[h.ch],by simp[h.tk]⟩
  ·exact⟨by simp[h.ch],by simp[h.tk]⟩
theorem AY.len{s:AY}(h:s.ok):(AX s).length=10:=by simp[AX,h.ch,h.tk]
theorem AY.take{s:AY}(h:s.ok):(AX s).take 10=AX s:=List.take_of_length_le (by rw[s.len h];omega)
theorem AY.drop{s:AY}(h:s.ok):(AX s).drop 10=[]:=List.drop_eq_nil_of_le (by rw[s.len h];omega)
theorem AY.weak(s:AY):(AX s).map weakC=AX s:=by have h:weakC∘i=i:=rfl;simp[AX,h]
@[simp] theorem AY.weakM(s:AY):(AX s).map weakM=AX s:=by have h:Go.Pg.weakM∘i=i:=rfl;simp[AX,h]
theorem AY.closed(s:AY)(f:Nat):(AX s).all (AK (f+1))=true:=by simp[AX]
structure AY.bd(s:AY)(k:Nat):Prop where
 m0:-(1000+100*(k:Int))<=s.money
 m1:s.money<=1000+100*(k:Int)
 x0:0<=s.mixed
 x1:s.mixed<=k
theorem jR{coin:Int}{s:AY}{j:Int}{k:Nat}{l:AF}(h:s.bd k)(h0:1<=coin)(h1:coin<=99):(CA coin s j l).1.bd (k+1):=by
 obtain⟨m0,m1,x0,x1⟩:=h;unfold CA;simp only;split
 ·exact⟨by simp only;omega,by simp only;omega,by simp only;omega,by simp only;omega⟩
 ·split
  ·refine⟨by simp only;omega,by simp only;omega,?_,?_⟩<;>(simp only;split<;>omega)
  ·exact⟨by simp only;omega,by simp only;omega,by simp only;omega,by simp only;omega⟩
theorem aW{C:Int}(hC:C<=4){l x:AF}(hl:CJ C l=true)(h:H1 C l x=true):(1<=x.k/\x.k<=2)/\(0<=x.c/\x.c<=C-1)/\(0<=x.t/\x.t<=C-1):=by unfold H1 at h;obtain⟨y,hy,he⟩:=List.any_eq_true.1 h;have:=J0 hC hl hy;simp only[eqL,bf,decide_eq_true_eq]at he;omega
def DI(b:A5):Nat->AY->List AF->List AF->Option (List AY)
 |k,s,l::ls,t::ts=>if H1 b.chairs l t=true then(if (CA b.coin s k t).2=true then(DI b (k+1) (CA b.coin s k t).1 ls ts).map ((CA b.coin s k t).1::·) else none) else none
 |_,_,_,_=>some []
def R92(c' γ':Nat)(b:A5)(ts:List AF)(s0:AY)(out:List AY):Option (List AY×AY)->Option (Exit×XS)
 | some (L,s')=>some (.exit 0,⟨c',[(24,true,.bool false),(2,true,.ptr 0 2 0 0),(6,true,.ptr 0 6 2 0),(7,true,tv 50 γ' (AX s0) ((out++L).map AX)),(21,true,.list false (ts.map AB)),(22,true,i ts.length),(23,true,i ts.length)],
   ⟨[],(2,0,.box (AE b)) :: (6,2,.box (AX s')) :: tl 50 γ' 162 (AX s0) ((out++L).map AX)⟩⟩)
 |none=>some (.ret,⟨c',[(5,true,.bool false),(4,true,.nil)],⟨[],[]⟩⟩)
def AH8(s:AY)(L:List AY):AY:=L.getLast?.getD s
theorem l92(n:Nat)(b:A5)(hb:E4 b=0)(ts:List AF)(hts:∀t∈ts,NJ t)(hlen:ts.length=b.lines.length)(h1:1<=b.chairs)(h4:b.chairs<=4)(hc1:1<=b.coin)(hc2:b.coin<=99)(hl8:b.lines.length<=8)(hok:b.lines.all (CJ b.chairs)=true)(s0:AY)(hs0:s0.ok) :
  ∀(d k:Nat) (s:AY) (out:List AY) (c γ m:Nat),k+d=ts.length->d<m->s.ok->s.bd k->(∀x∈out,x.ok)->out.length<=k->3<=c ->
  ∃(c' γ':Nat),BN (AH br ann kn (n+650) 53) WZ (some ([2,6,7,21,22,23],[2,6,50])) m ⟨c,[(2,true,.ptr 0 2 0 0),(6,true,.ptr 0 6 2 0),(7,true,tv 50 γ (AX s0) (out.map AX)),(21,true,.list false (ts.map AB)),(22,true,i ts.length),(23,true,i k)],
   ⟨[],(2,0,.box (AE b)) :: (6,2,.box (AX s)) :: tl 50 γ 162 (AX s0) (out.map AX)⟩⟩ =
   R92 c' γ' b ts s0 out ((DI b k s (b.lines.drop k) (ts.drop k)).map fun L=>(L,AH8 s L))
 |0,k,s,out,c,γ,m+1,hd,hm,hs,hbd,ho,hol,hc=>by
  have:k=ts.length:=by omega
  subst this;refine⟨c,γ,?_⟩;have e:b.lines.drop ts.length=[]:=by rw[hlen];simp
  simp[AD,AE,e,DI,R92,AH8]
 |d+1,k,s,out,c,γ,m+1,hd,hm,hs,hbd,ho,hol,hc=>by
  have hk:k<ts.length:=by omega
  have hk2:k<b.lines.length:=by omega
  have hw:IntKind.i64.wrap ((k:Int)+1)=(k:Int)+1:=AU (by omega) (by omega);have hlk:=bg.1 hok _ (bx hk2);have q1:=fun n=>BH6 n b b.lines[k] ts[k] h1 h4 hlk (hts _ (bx hk));rw[AD,bj hk,bj hk2];cases hag:H1 b.chairs b.lines[k] ts[k]with
  |false=>
   refine⟨c+1,γ,?_⟩
   simp only[hag,AE,AB]at q1|-
   have hc2:2<c:=by omega
   simp[hk,hk2,hw,q1,AB,AM,DI,hag,R92]
  |true=>
   obtain⟨r1,r2,r3⟩:=aW h4 hlk hag
   obtain⟨m0,m1,x0,x1⟩:=hbd
   have q2:=fun n=>AWJ n b s k ts[k] hs (by omega) (by omega) (by omega) (by omega) (by omega) (by omega) (by omega) (by omega) (by omega) (by omega) (by omega) (by omega)
   have hn:=TI b.coin s k ts[k] hs
   have hnb:=jR (l:=ts[k]) (j:=k) ⟨m0,m1,x0,x1⟩ hc1 hc2
   generalize hq:CA b.coin s k ts[k]=nx at q2 hn hnb
   obtain⟨s',can⟩:=nx
   simp only at q2 hn hnb
   have f1:=s.len hs
   have f2:=s.take hs
   have f3:=s.drop hs
   have f4:=s.weak
   have f5:=s.closed
   have g1:=s'.len hn
   have g2:=s'.take hn
   have g4:=s'.weak
   have g5:=s'.closed
   cases can with
   |false=>
    refine⟨c+1,γ,?_⟩
    simp only[hag,AE,AB]at q1 q2|-
    have hc2:2<c:=by omega
    have hc3:2<c+1:=by omega
    simp[hk,hk2,hw,q1,q2,AB,AM,DI,hag,R92,hq,f1,f2,f3,f4,f5,g1,hc3]
   |true=>
    have ho':CD br 162 (out.length+1) [AX s']=true:=by rw[CQ (by simp) (by simp)];simp[maxLen,g1];omega
    have hall:((AX s0)::out.map AX).all (fun y=>y.length==10)=true:=by simp only[List.all_cons,s0.len hs0,List.all_map,Function.comp_def];simp only[BEq.rfl,Bool.true_and,bg];intro x hx;simp[x.len (ho x hx)]
    have hap:=fun fr=>AWM (P:=br) (fr:=fr) 162 50 (c+1) γ ((2,0,A6.box (AE b))::(6,2,A6.box (AX s'))::tl 50 γ 162 (AX s0) (out.map AX)) (AX s0) (out.map AX) (AX s') [] (by simp) (by simpa using hall) (by simpa using ho')
    obtain⟨c',γ',ih⟩:=l92 n b hb ts hts hlen h1 h4 hc1 hc2 hl8 hok s0 hs0 d (k+1) s' (out++[s']) (c+2) (c+1) m (by omega) (by omega) hn hnb (by
     intro x hx;rcases List.mem_append.1 hx with hx|hx
     ·exact ho x hx
     ·simp at hx; subst hx; exact hn) (by simp; omega) (by omega)
    refine⟨c',γ',?_⟩
    simp only[hag,AE,AB,List.map_append,List.map_cons,List.map_nil,AML]at q1 q2 ih hap|-
    try simp at ih
    have hc2:2<c:=by omega
    have hc3:2<c+1:=by omega
    simp[hk,hk2,hw,q1,q2,AB,AM,DI,hag,hq,f1,f2,f3,f4,f5,g1,g2,g4,g5,hc3,hap,ih]
    cases DI b (k+1) s' (b.lines.drop (k+1)) (ts.drop (k+1))with
    |none=>simp[R92]
    |some L=>simp[R92,AH8,List.getLast?_cons]
def F2(b:A5)(ts:List AF):Option (List AY):=if ts.length=b.lines.length then(DI b 0 (BQ b) b.lines ts).map (BQ b::·) else none
def ABK(r:Option (List AY)):V:=match r with
 |some L=>.tup [.list false (L.map AX),.bool true]
 |none=>.tup [.nil,.bool false]
theorem GJ(b:A5):(BQ b).ok:=⟨rfl,rfl⟩
theorem k92(n:Nat)(b:A5)(hb:E4 b=0)(ts:List AF)(hts:∀t∈ts,NJ t)(h1:1<=b.chairs)(h4:b.chairs<=4)(hc1:1<=b.coin)(hc2:b.coin<=99)(hx1:0<=b.box)(hx2:b.box<=999)(hl8:b.lines.length<=8)(hok:b.lines.all (CJ b.chairs)=true) :
  AW br kn (AH br ann kn (n+700)) 144 [.agg (AE b),.list false (ts.map AB)]=some (ABK (F2 b ts)):=by
 rw[AO rfl,AP Tryz.func144 BEI rfl (by simp[AE,AB,AM])]
 unfold F2
 by_cases hlen:ts.length=b.lines.length
 ·have e1:decide ((ts.length:Int)=(b.lines.length:Int))=true:=by simp[hlen]
  have h5:=fun n=>AMK n b;have f1:=(BQ b).len (GJ b);have f2:=(BQ b).take (GJ b);have f4:=(BQ b).weak;have f5:=(BQ b).closed;obtain⟨c',γ',q⟩:=l92 (n+42) b hb ts hts hlen h1 h4 hc1 hc2 hl8 hok (BQ b) (GJ b) ts.length 0 (BQ b) [] 3 0 (n+692) (by omega) (by omega) (GJ b) ⟨by simp[BQ];omega,by simp[BQ];omega,by simp[BQ],by simp[BQ]⟩ (by simp) (by simp) (by omega);have ow:=fun n=>aL (P:=br) (A:=ann) (kn:=kn) (n:=n+100) (d:=18) (c:=1) (fr:=[(17,true,.agg (AE b)),(1,true,.list false (ts.map AB)),(2,true,.ptr 0 2 0 0)]) (s:=⟨[],[(2,0,.box (AE b))]⟩) (x:=.func 168) (args:=[.tmp 17]) (f:=168) (first:=[]) (cap:=[]) (vs:=[.agg (AE b)]) (r:=.agg (AX (BQ b))) (by simp) (by simp) (by kernel_rfl) (by simp[f5]) (by simpa [AE]using AMK n b);have hdrop0:List.drop 10 (List.replicate 10 (V.int .i64 0))=[]:=rfl;simp only[AE,bz,bq,bw,List.map_nil,AWK,AWL,bc]at h5 q ow|-;simp only[hlen,if_true]at q|-;simp[ARH,AJ,hlen,h5,f1,f2,f4,f5,AB,AM,ow];rw[q];cases DI b 0 (BQ b) b.lines ts with
  |none=>simp[R92,ABK]
  |some L=>
   simp[R92,ABK,f5]
   intro x _ y hy
   exact bg.1 (x.closed 6) y hy
 ·have e1:decide ((ts.length:Int)=(b.lines.length:Int))=false:=by simp;omega
  simp[ARH,AJ,AE,e1,hlen,ABK]
theorem ED{s:AY}(h:s.ok):∃a0 a1 a2 a3 b0 b1 b2 b3,AX s=[i a0,i a1,i a2,i a3,i b0,i b1,i b2,i b3,i s.money,i s.mixed]:=by obtain⟨ch,tk,money,mixed⟩:=s;obtain⟨a0,a1,a2,a3,e1⟩:=aT h.ch;obtain⟨b0,b1,b2,b3,e2⟩:=aT h.tk;simp only at e1 e2;subst e1;subst e2;exact⟨a0,a1,a2,a3,b0,b1,b2,b3,rfl⟩
def TJ(v:Int)(L:List AY):Int:=((L.map AY.mixed).getLast?).getD v
theorem U4{b:A5}(h:E4 b=0):1<=b.chairs/\b.chairs<=4/\b.lines.length<=8/\b.counts.length<=4/\1<=b.coin/\b.coin<=99/\0<=b.box/\b.box<=999/\b.lines.all (CJ b.chairs)=true/\b.counts.all (FL b.lines.length)=true/\MA b.chairs 1 b.lines<=4096:=by
 unfold E4 at h;split at h
 ·omega
 ·rename_i h1;split at h
  ·omega
  ·rename_i h2;split at h
   ·omega
   ·rename_i h3;split at h
    ·omega
    ·rename_i h4;split at h
     ·omega
     ·rename_i h5;simp[D7]at h1 h2;simp only[Bool.not_eq_false]at h3 h4;refine⟨by omega,by omega,by omega,by omega,by omega,by omega,by omega,by omega,h3,h4,by omega⟩
theorem V0(b:A5):∀(k:Nat) (s:AY) (ls ts:List AF) (L:List AY),s.ok->DI b k s ls ts=some L->(∀x∈L,x.ok)/\L.length<=ls.length
 |k,s,[],ts,L,hs,h=>by cases ts<;>(cases h;simp)
 |k,s,l::ls,[],L,hs,h=>by cases h;simp
 |k,s,l::ls,t::ts,L,hs,h=>by
  unfold DI at h;split at h
  ·split at h
   ·simp only[Option.map_eq_some_iff]at h;obtain⟨L',h',rfl⟩:=h;have hn:=TI b.coin s k t hs;obtain⟨q1,q2⟩:=V0 b (k+1) _ ls ts L' hn h';refine⟨fun x hx=>?_,by simp;omega⟩;rcases bn.1 hx with rfl|hx
    ·exact hn
    ·exact q1 x hx
   ·cases h
  ·cases h
theorem uU{b:A5}{ts:List AF}{L:List AY}(h:F2 b ts=some L):(∀x∈L,x.ok)/\L.length<=b.lines.length+1:=by
 unfold F2 at h;split at h
 ·simp only[Option.map_eq_some_iff]at h;obtain⟨L',h',rfl⟩:=h;obtain⟨q1,q2⟩:=V0 b 0 _ _ _ L' (GJ b) h';refine⟨fun x hx=>?_,by simp;omega⟩;rcases bn.1 hx with rfl|hx
  ·exact GJ b
  ·exact q1 x hx
 ·cases h
def O7(b:A5):Nat->Bool->List AY->Bool
 |_,v,[]=>v
 |k,v,s::L=>O7 b (k+1) (v&&b.counts.all (countOne s.money k)) L
theorem l53(n:Nat)(b:A5)(hc:b.counts.length<=4)(L:List AY)(hL:∀s∈L,s.ok)(hlen:L.length<=100):∀(d k:Nat) (v:Bool) (c m:Nat),k+d=L.length->d<m ->
  ∃(c':Nat),BN (AH br ann kn (n+950) 34) W0 (some ([2,6,18,19,20],[2,15])) m ⟨c,[(2,true,.ptr 0 2 0 0),(6,true,.bool v),(18,true,.list false (L.map AX)),(19,true,i L.length),(20,true,i k)],⟨[],[(2,0,.box (AE b))]⟩⟩ =
  some (.exit 0,⟨c',[(21,true,.bool false),(2,true,.ptr 0 2 0 0),(6,true,.bool (O7 b k v (L.drop k))),(18,true,.list false (L.map AX)),(19,true,i L.length),(20,true,i L.length)],⟨[],[(2,0,.box (AE b))]⟩⟩)
 |0,k,v,c,m+1,hd,hm=>by
  have:k=L.length:=by omega
  subst this;refine⟨c,?_⟩;simp[AD,O7,AE]
 |d+1,k,v,c,m+1,hd,hm=>by
  have hk:k<L.length:=by omega
  have hw:IntKind.i64.wrap ((k:Int)+1)=(k:Int)+1:=AU (by omega) (by omega);have hs:=hL _ (bx hk);have hq:=fun n=>k93 n b L[k] k hs (by omega);obtain⟨a0,a1,a2,a3,b0,b1,b2,b3,hcs⟩:=ED hs;obtain⟨c',ih⟩:=l53 n b hc L hL hlen d (k+1) (v&&b.counts.all (countOne L[k].money k)) (c+1) m (by omega) (by omega);refine⟨c',?_⟩;rw[AD,bj hk];simp only[O7,hcs,AE]at hq ih|-;generalize b.counts.all (countOne L[k].money k)=q at hq ih|-;try simp at ih
  cases v with
  |false=>
   try simp at ih
   simp[hk,hw,hcs,IU,ih]
  |true=>
   try simp at ih
   simp[hk,hw,hcs,IU,hq,AB,AM,ih]
def GA(b:A5)(ts:List AF):Bool:=decide (E4 b=0)&&(match F2 b ts with
 |some L=>O7 b 0 true L
 | none=>false)
theorem k53(n:Nat)(b:A5)(ts:List AF)(hts:∀t∈ts,NJ t):AW br kn (AH br ann kn (n+1000)) 117 [.agg (AE b),.list false (ts.map AB)]=some (.bool (GA b ts)):=by
 rw[AO rfl,AP Tryz.func117 BEJ rfl (by simp[AE,AB,AM])];have q0:=fun n=>k55 n b;unfold GA;by_cases hb:E4 b=0
 ·obtain⟨h1,h4,hl8,hc4,hc1,hc2,hx1,hx2,hok,_,_⟩:=U4 hb;have q1:=fun n=>k92 n b hb ts hts h1 h4 hc1 hc2 hx1 hx2 hl8 hok;cases hs:F2 b ts with
  |none=>
   simp only[hs,ABK,hb,AE,if_true]at q0 q1|-
   simp[AJ0,AJ,q0,q1,AB,AM,AD]
  |some L=>
   obtain⟨hL,hLl⟩:=uU hs
   obtain⟨c',q2⟩:=l53 (n+43) b hc4 L hL (by omega) L.length 0 true 1 (n+993) (by omega) (by omega)
   simp only[hs,ABK,hb,AE,if_true,bz,bq,bw,bc]at q0 q1 q2|-
   simp[AJ0,AJ,q0,q1,AB,AM,q2]
 ·have e:decide (E4 b=0)=false:=by simpa using hb
  simp only[AE]at q0|-;simp[AJ0,AJ,q0,AB,AM,e,hb]
end Go.Proofs.Tryz.Op
