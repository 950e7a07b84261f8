/- The winds that the truths of a beach have, hour by hour. No condition; no program in sight. -/
import Derived.Test.YthhdhbalenanjaaGreatL
open List renaming getD_eq_getElem?_getD->bj,getElem?_eq_getElem->bk,exists_mem_of_ne_nil->bq,mem_or_eq_of_mem_set->bw,mem_singleton->bx,ne_nil_of_mem->bz,eq_of_mem_replicate->bb,getElem_mem->bc
namespace Go.Wind
def PA(ws:List (List Int))(h:Nat)(n:Int):List (List Int):=if n∈ws.getD h [] then ws else ws.set h (ws.getD h []++[n])
def KO:List (List Int)->Nat->List Int->List (List Int)
 |ws,_,[]=>ws
 |ws,h,n::t=>KO (PA ws h n) (h+1) t
def fM(k:Nat)(T:List (List Int)):List (List Int):=T.foldl (fun ws t=>KO ws 0 t) (List.replicate k [])
theorem nT(ws:List (List Int))(h:Nat)(n:Int):(PA ws h n).length=ws.length:=by unfold PA;split<;>simp
theorem bD:∀(t:List Int) (ws:List (List Int)) (h:Nat),(KO ws h t).length=ws.length
 |[],_,_=>rfl
 |n::t,ws,h=>(bD t (PA ws h n) (h+1)).trans (nT ws h n)
theorem nU:∀(T:List (List Int)) (ws:List (List Int)),(T.foldl (fun ws t=>KO ws 0 t) ws).length=ws.length
 |[],_=>rfl
 |t::T,ws=>(nU T (KO ws 0 t)).trans (bD t ws 0)
theorem nV(k:Nat)(T:List (List Int)):(fM k T).length=k:=by unfold fM;rw[nU];simp
theorem AG2(ws:List (List Int))(h:Nat)(l:List Int)(j:Nat)(hj:j<ws.length):(ws.set h l).getD j []=if h=j then l else ws.getD j []:=by
 simp only[bj,List.getElem?_set];by_cases e:h=j
 ·subst e;simp[hj]
 ·simp[e]
theorem AG3{ws:List (List Int)}{h:Nat}{n x:Int}{j:Nat}(hj:j<ws.length):x∈(PA ws h n).getD j []↔x∈ws.getD j []\/(h=j/\n=x):=by
 unfold PA;split
 ·rename_i hn;refine⟨.inl,fun h'=>?_⟩;rcases h' with h'|⟨rfl,rfl⟩
  ·exact h'
  ·exact hn
 ·rw[AG2 _ _ _ _ hj];by_cases e:h=j
  ·subst e;rw[if_pos rfl,List.mem_append,bx];simp[eq_comm]
  ·rw[if_neg e];simp[e]
theorem nW:∀(t:List Int) {ws:List (List Int)} {h j:Nat} {x:Int} (_:j<ws.length),x∈(KO ws h t).getD j []↔x∈ws.getD j []\/∃i,i<t.length/\h+i=j/\t.getD i 0=x
 |[],ws,h,j,x,hj=>by simp[KO]
 |n::t,ws,h,j,x,hj=>by
  show x∈(KO (PA ws h n) (h+1) t).getD j []↔_;rw[nW t (by rw[nT];exact hj),AG3 hj];constructor
  ·rintro ((h1|⟨h1,h2⟩)|⟨i,h1,h2,h3⟩)
   ·exact .inl h1
   ·exact .inr ⟨0,by simp,by omega,by simpa using h2⟩
   ·exact .inr ⟨i+1,by simpa using h1,by omega,by simpa using h3⟩
  ·rintro (h1|⟨i,h1,h2,h3⟩)
   ·exact .inl (.inl h1)
   ·cases i with
    |zero=>exact .inl (.inr ⟨by omega,by simpa using h3⟩)
    |succ i=>exact .inr ⟨i,by simpa using h1,by omega,by simpa using h3⟩
theorem nX:∀(T:List (List Int)) {ws:List (List Int)} {j:Nat} {x:Int} (_:j<ws.length),x∈(T.foldl (fun ws t=>KO ws 0 t) ws).getD j []↔x∈ws.getD j []\/∃t∈T,j<t.length/\t.getD j 0=x
 |[],ws,j,x,hj=>by simp
 |t::T,ws,j,x,hj=>by
  rw[List.foldl_cons,nX T (by rw[bD];exact hj),nW t hj];constructor
  ·rintro ((h1|⟨i,h1,h2,h3⟩)|⟨u,h1,h2⟩)
   ·exact .inl h1
   ·have:i=j:=by omega
    subst this;exact .inr ⟨t,by simp,h1,h3⟩
   ·exact .inr ⟨u,by simp[h1],h2⟩
  ·rintro (h1|⟨u,h1,h2,h3⟩)
   ·exact .inl (.inl h1)
   ·rcases List.mem_cons.1 h1 with rfl|h1
    ·exact .inl (.inr ⟨j,h2,by omega,h3⟩)
    ·exact .inr ⟨u,h1,h2,h3⟩
theorem yB{k:Nat}{T:List (List Int)}{j:Nat}{x:Int}(hj:j<k):x∈(fM k T).getD j []↔∃t∈T,j<t.length/\t.getD j 0=x:=by unfold fM;rw[nX T (by simpa using hj)];simp[bj,hj]
def kH(ws:List (List Int)):Prop:=∀l∈ws,l.Nodup
theorem tT{ws:List (List Int)}(h:kH ws)(k:Nat)(n:Int):kH (PA ws k n):=by
 unfold PA;split
 ·exact h
 ·rename_i hn;intro l hl;rcases Nat.lt_or_ge k ws.length with hk|hk
  ·rcases bw hl with h1|h1
   ·exact h l h1
   ·subst h1;have hm:ws.getD k []=ws[k]:=by rw[bj,bk hk];rfl
    rw[hm]at hn|-;rw[List.nodup_append];refine⟨h _ (bc hk),by simp,fun a ha b hb=>?_⟩;simp only[bx]at hb;subst hb;exact fun e=>hn (e▸ha)
  ·rw[List.set_eq_of_length_le hk]at hl;exact h l hl
theorem X6:∀(k:Nat) (l:List Int),l.Nodup->(∀x∈l,0<=x/\x<k)->l.length<=k
 |0,l,_,hx=>by
  cases l with
  |nil=>simp
  |cons x l=>have:=hx x (by simp);omega
 |k+1,l,hn,hx=>by
  have h1:(l.erase (k:Int)).length<=k:=X6 k _ (hn.erase _) fun x hm=>by have hm1:=(hn.mem_erase_iff.1 hm);have:=hx x hm1.2;have:=hm1.1;omega
  rw[List.length_erase]at h1;split at h1<;>omega
structure DO(ws:List (List Int)):Prop where
 nd:kH ws
 lo:∀l∈ws,∀x∈l,0<=x/\x<=3
theorem DO.len{ws:List (List Int)}(h:DO ws):∀l∈ws,l.length<=4:=fun l hl=>X6 4 l (h.nd l hl) fun x hx=>by have:=h.lo l hl x hx;omega
theorem DO.add{ws:List (List Int)}(h:DO ws)(k:Nat)(n:Int)(hn:0<=n/\n<=3):DO (PA ws k n):=by
 refine⟨tT h.nd k n,fun l hl x hx=>?_⟩;unfold PA at hl;split at hl
 ·exact h.lo l hl x hx
 ·rcases bw hl with h1|h1
  ·exact h.lo l h1 x hx
  ·subst h1;rcases List.mem_append.1 hx with hx|hx
   ·rcases Nat.lt_or_ge k ws.length with hk|hk
    ·have hm:ws.getD k []=ws[k]:=by rw[bj,bk hk];rfl
     rw[hm]at hx;exact h.lo _ (bc hk) x hx
    ·rw[bj,List.getElem?_eq_none hk]at hx;simp at hx
   ·rw[bx.1 hx];exact hn
theorem DO.adds:∀(t:List Int) {ws:List (List Int)} (_:DO ws) (k:Nat) (_:∀n∈t,0<=n/\n<=3),DO (KO ws k t)
 |[],_,h,_,_=>h
 |n::t,_,h,k,hn=>DO.adds t (h.add k n (hn n (by simp))) (k+1) fun x hx=>hn x (by simp[hx])
theorem DO.fold:∀(T:List (List Int)) {ws:List (List Int)} (_:DO ws) (_:∀t∈T,∀n∈t,0<=n/\n<=3),DO (T.foldl (fun ws t=>KO ws 0 t) ws)
 |[],_,h,_=>h
 |t::T,_,h,hT=>DO.fold T (h.adds t 0 (hT t (by simp))) fun u hu=>hT u (by simp[hu])
theorem DO.ask(k:Nat)(T:List (List Int))(hT:∀t∈T,∀n∈t,0<=n/\n<=3):DO (fM k T):=DO.fold T ⟨fun l hl=>by rw[bb hl];simp,fun l hl x hx=>by rw[bb hl]at hx;cases hx⟩ hT
theorem LN{b:AM}(hb:Valid b){t:List Int}(ht:A2 t b.winds=true):∀n∈t,0<=n/\n<=3:=fun n hn=>by obtain⟨j,hj,rfl⟩:=List.getElem_of_mem hn;have:=SJ hb ht hj;rw[bj,bk hj,DU]at this;exact this
theorem AVO{b:AM}(hb:Valid b){T:List (List Int)}(hT:∀t,t∈T↔DF b t=true)(hne:T≠[]){j:Nat}(hj:j<b.winds.length)(x:Int):x∈(fM b.winds.length T).getD j []↔x∈(aw b)[j]'(by rw[HG];exact hj):=by
 rw[yB hj];constructor
 ·rintro ⟨t,ht,h1,rfl⟩;have:=GJ ((FN hb).1 ((hT t).1 ht)) j h1 (by rw[HG];exact hj);rwa [bj,bk h1]
 ·intro hx;obtain⟨t0,ht0⟩:=bq _ hne;have h0:=(FN hb).1 ((hT t0).1 ht0);have hl:=C0 h0;have hjt:j<t0.length:=by rw[hl,HG];exact hj
  refine⟨t0.set j x,(hT _).2 ((FN hb).2 (MS (by simpa using hl) fun k h1 h2=>?_)),by simpa using hjt,by simp[bj,hjt]⟩;rw[List.getElem_set];by_cases e:j=k
  ·subst e;rw[if_pos rfl];exact hx
  ·rw[if_neg e];exact GJ h0 k (by simpa using h1) h2
def E3(f:Nat->Int):Nat->Int
 |0=>0
 |n+1=>E3 f n+f n
theorem FM{f g:Nat->Int}:∀{n:Nat},(∀i,i<n->f i=g i)->E3 f n=E3 g n
 |0,_=>rfl
 |n+1,h=>by simp only[E3];rw[FM (n:=n) fun i hi=>h i (by omega),h n (by omega)]
theorem UY{f:Nat->Int}{c:Int}:∀{n:Nat},(∀i,i<n->0<=f i/\f i<=c)->0<=E3 f n/\E3 f n<=n*c
 |0,_=>by simp[E3]
 |n+1,h=>by
  have h1:=UY (n:=n) fun i hi=>h i (by omega);have h2:=h n (by omega);simp only[E3];have e:((n+1:Nat):Int)*c=(n:Int)*c+c:=by rw[Int.natCast_succ,Int.add_mul,Int.one_mul]
  omega
theorem WP(f:Nat->Int):∀(n h:Nat),WQ f h n=E3 (fun i=>f (h+i)) n
 |0,_=>rfl
 |n+1,h=>by
  have e:∀(g:Nat->Int) (n:Nat),E3 g (n+1)=g 0+E3 (fun i=>g (i+1)) n:=by
   intro g n;induction n with
   |zero=>simp[E3]
   |succ n ih=>
    have:E3 g (n+1+1)=E3 g (n+1)+g (n+1):=rfl
    rw[this,ih]
    simp only[E3]
    omega
  rw[e];show f h+WQ f (h+1) n=_;rw[WP f n (h+1)];congr 1;exact FM fun i _=>by congr 1;omega
theorem AG4(g:Nat->Int->Int):∀(t:List Int) (h:Nat),PD g h t=WQ (fun i=>g i (t.getD (i-h) 0)) h t.length
 |[],_=>rfl
 |x::t,h=>by show g h x+PD g (h+1) t=g h ((x::t).getD (h-h) 0)+WQ (fun i=>g i ((x::t).getD (i-h) 0)) (h+1) t.length;rw[Nat.sub_self,AG4 g t (h+1)];congr 1;rw[WP,WP];refine FM fun i _=>?_;rw[show h+1+i-(h+1)=i by omega,show h+1+i-h=i+1 by omega];rfl
theorem AM9(g:Nat->Int->Int)(t:List Int):PD g 0 t=E3 (fun h=>g h (t.getD h 0)) t.length:=by rw[AG4,WP];exact FM fun i _=>by simp
def DP(z:Int×Int)(l:List Int):Int×Int:=l.foldl (fun r n=>(min r.1 n,max r.2 n)) z
theorem ZH:∀(l:List Int) (z:Int×Int),DP z l=(fO z.1 l,fP z.2 l)
 |[],_=>rfl
 |n::l,z=>ZH l (min z.1 n,max z.2 n)
theorem yC:∀(l:List Int) (z:Int×Int) (lo hi:Int),(∀x∈l,lo<=x/\x<=hi)->lo<=z.1->z.2<=hi->lo<=(DP z l).1/\(DP z l).1<=z.1/\z.2<=(DP z l).2/\(DP z l).2<=hi
 |[],z,lo,hi,_,h1,h2=>⟨h1,Int.le_refl _,Int.le_refl _,h2⟩
 |n::l,z,lo,hi,h,h1,h2=>by have hn:=h n (by simp);have:=yC l (min z.1 n,max z.2 n) lo hi (fun x hx=>h x (by simp[hx])) (by simp only;omega) (by simp only;omega);have e:DP z (n::l)=DP (min z.1 n,max z.2 n) l:=rfl;rw[e];simp only at this;omega
theorem JJ.congr{α:Type}{l m:List α}{f:α->Int}{v:Int}(h:∀x,x∈l↔x∈m)(hm:JJ l f v):JJ m f v :=
 ⟨fun x hx=>hm.le x ((h x).2 hx),by obtain⟨x,h1,h2⟩:=hm.at';exact⟨x,(h x).1 h1,h2⟩⟩
theorem J3.congr{α:Type}{l m:List α}{f:α->Int}{v:Int}(h:∀x,x∈l↔x∈m)(hm:J3 l f v):J3 m f v :=
 ⟨fun x hx=>hm.le x ((h x).2 hx),by obtain⟨x,h1,h2⟩:=hm.at';exact⟨x,(h x).1 h1,h2⟩⟩
theorem JJ.fun_congr{α:Type}{l:List α}{f g:α->Int}{v:Int}(h:∀x∈l,f x=g x)(hm:JJ l f v):JJ l g v :=
 ⟨fun x hx=>by rw[<-h x hx];exact hm.le x hx,by obtain⟨x,h1,h2⟩:=hm.at';exact⟨x,h1,by rw[<-h x h1];exact h2⟩⟩
theorem J3.fun_congr{α:Type}{l:List α}{f g:α->Int}{v:Int}(h:∀x∈l,f x=g x)(hm:J3 l f v):J3 l g v :=
 ⟨fun x hx=>by rw[<-h x hx];exact hm.le x hx,by obtain⟨x,h1,h2⟩:=hm.at';exact⟨x,h1,by rw[<-h x h1];exact h2⟩⟩
def ANA(z:Int×Int)(ws:List (List Int))(g:Nat->Int->Int)(n:Nat):Int×Int:=(E3 (fun h=>(DP z ((ws.getD h []).map (g h))).1) n,E3 (fun h=>(DP z ((ws.getD h []).map (g h))).2) n)
structure UZ(b:AM)(ws:List (List Int)):Prop where
 len:ws.length=b.winds.length
 ok:DO ws
 mem:∀j (hj:j<b.winds.length) (x:Int),x∈ws.getD j []↔x∈(aw b)[j]'(by rw[HG];exact hj)
 ne:∀l∈aw b,l≠[]
theorem AG5{b:AM}(hb:Valid b){T:List (List Int)}(hT:∀t,t∈T↔DF b t=true)(hne:T≠[]):UZ b (fM b.winds.length T):=by
 refine⟨nV _ _,DO.ask _ _ fun t ht=>?_,fun j hj x=>AVO hb hT hne hj x,?_⟩
 ·have:=(hT t).1 ht;simp only[DF,Bool.and_eq_true]at this;exact LN hb this.1
 ·refine(ABY hb).1 ?_;obtain⟨t,ht⟩:=bq _ hne;exact bz (E4.2 ((hT t).1 ht))
theorem UZ.row{b:AM}{ws:List (List Int)}(h:UZ b ws){j:Nat}(hj:j<b.winds.length):ws.getD j []≠[]:=by have h1:=h.ne _ (bc (by rw[HG];exact hj:j<(aw b).length));obtain⟨x,hx⟩:=bq _ h1;exact bz ((h.mem j hj x).2 hx)
theorem AG6{b:AM}(hb:Valid b){ws:List (List Int)}(ha:UZ b ws)(z:Int×Int)(g:Nat->Int->Int)(hz:∀h n,g h n<=z.1):JJ (BR b) (PD g 0) (ANA z ws g b.winds.length).1:=by
 have:=AND hb g (fun h=>(DP z ((ws.getD h []).map (g h))).1) fun j hj=>by rw[HG]at hj;rw[ZH];exact(yM (fun x _=>hz j x) (ha.row hj)).congr fun x=>ha.mem j hj x
 rw[WP]at this;simp only[Nat.zero_add]at this;exact this
theorem AG7{b:AM}(hb:Valid b){ws:List (List Int)}(ha:UZ b ws)(z:Int×Int)(g:Nat->Int->Int)(hz:∀h n,z.2<=g h n):J3 (BR b) (PD g 0) (ANA z ws g b.winds.length).2:=by
 have:=ANE hb g (fun h=>(DP z ((ws.getD h []).map (g h))).2) fun j hj=>by rw[HG]at hj;rw[ZH];exact(yN (fun x _=>hz j x) (ha.row hj)).congr fun x=>ha.mem j hj x
 rw[WP]at this;simp only[Nat.zero_add]at this;exact this
def bE(b:Bool):Int:=if b=true then 1 else 0
theorem bF(b:Bool):0<=bE b/\bE b<=1:=by cases b<;>simp[bE]
theorem ARI(f:Nat->Bool):∀n,((mS f n:Nat):Int)=E3 (fun h=>bE (f h)) n
 |0=>rfl
 |n+1=>by have ih:=ARI f n;simp only[mS,E3];rw[<-ih];unfold bE;split<;>simp
def yD(b:AM)(s:Int×Int)(h:Nat)(f w:Int):Int:=bE (decide (b.sun.getD h 0=f)&&U3 b s f w)
def A8Y(b:AM)(s:Int×Int)(f w:Int):Int:=bE (U3 b s f w)
theorem X7(b:AM)(plan:List (List Int))(t:List Int)(r p:Nat):(CL b plan t r p).good=PD (fun h w=>yD b (r,p) h (C8 plan h r) w) 0 t:=by
 rw[AM9];refine(ARI _ _).trans (FM fun h _=>?_);have:NC b plan r h=decide (b.sun.getD h 0=C8 plan h r):=by unfold NC;congr 1;exact propext eq_comm
 rw[this];rfl
def nY(b:AM)(h:Nat)(f:Nat->Int)(w:Int):Int:=E3 (fun r=>E3 (fun p=>yD b (r,p) h (f r) w) b.places.toNat) b.rows.toNat
def hH(b:AM)(ws:List (List Int))(h:Nat)(f:Nat->Int):Int×Int:=DP (b.rows*b.places,0) ((ws.getD h []).map (nY b h f))
def AVP(b:AM)(ws plan:List (List Int)):Int×Int:=(E3 (fun h=>(hH b ws h (C8 plan h)).1) plan.length,E3 (fun h=>(hH b ws h (C8 plan h)).2) plan.length)
def bG(ws:List (List Int))(g:Nat->Int->Int):Int×Int:=ANA (1,0) ws g ws.length
theorem ABX{b:AM}(hb:Valid b){ws:List (List Int)}(ha:UZ b ws)(g:Nat->Int->Int)(hg:∀h n,0<=g h n/\g h n<=1):JJ (BR b) (PD g 0) (bG ws g).1/\J3 (BR b) (PD g 0) (bG ws g).2:=by unfold bG;rw[ha.len];exact⟨AG6 hb ha (1,0) g fun h n=>(hg h n).2,AG7 hb ha (1,0) g fun h n=>(hg h n).1⟩
def DQ:Int×Int:=(1099511627776,-1)
def yE(b:AM)(plan:List (List Int))(r p:Nat):Int×Int:=DP DQ ((BR b).map fun t=>(CL b plan t r p).good)
theorem U0{b:AM}{t:List Int}(h:t∈BR b):A2 t b.winds=true:=by have:=E4.1 h;simp only[DF,Bool.and_eq_true]at this;exact this.1
theorem hJ{b:AM}(hb:Valid b){t:List Int}(h:t∈BR b):t.length<=5:=by have:=C0 (U0 h);have:=hb.hl;omega
theorem iA(b:AM)(plan:List (List Int))(t:List Int)(r p:Nat):0<=(CL b plan t r p).sun/\(CL b plan t r p).sun<=t.length/\0<=(CL b plan t r p).calm/\(CL b plan t r p).calm<=t.length/\0<=(CL b plan t r p).good/\(CL b plan t r p).good<=t.length:=by have h1:=PC (NC b plan r) t.length;have h2:=PC (bJ b plan t r p) t.length;have h3:=PC (fun h=>NC b plan r h&&bJ b plan t r p h) t.length;simp only[CL,I2];omega
theorem AVQ{α:Type}{l:List α}{f:α->Int}{m n:Int}(h1:JJ l f m)(h2:J3 l f n)(hf:∀x∈l,0<=f x/\f x<=1000):DP DQ (l.map f)=(m,n):=by
 have hne:l≠[]:=by obtain⟨x,hx,_⟩:=h1.at';exact bz hx
 rw[ZH];have e1:=(yM (z:=DQ.1) (fun x hx=>by have:=hf x hx;simp only[DQ];omega) hne).uniq h1;have e2:=(yN (z:=DQ.2) (fun x hx=>by have:=hf x hx;simp only[DQ];omega) hne).uniq h2;rw[e1,e2]
def nZ(b:AM)(ws plan:List (List Int))(r p:Nat):Int×Int:=bG ws fun h w=>A8Y b (r,p) (C8 plan h r) w
def YA(b:AM)(ws plan:List (List Int))(r p:Nat):Int×Int:=bG ws fun h w=>yD b (r,p) h (C8 plan h r) w
theorem oA{b:AM}(hb:Valid b){ws:List (List Int)}(ha:UZ b ws)(plan:List (List Int))(r p:Nat):JJ (BR b) (fun t=>(CL b plan t r p).good) (YA b ws plan r p).1/\J3 (BR b) (fun t=>(CL b plan t r p).good) (YA b ws plan r p).2:=by obtain⟨h1,h2⟩:=ABX hb ha (fun h w=>yD b (r,p) h (C8 plan h r) w) fun h n=>bF _;exact⟨h1.fun_congr fun t _=>(X7 b plan t r p).symm,h2.fun_congr fun t _=>(X7 b plan t r p).symm⟩
theorem SH{b:AM}(hb:Valid b){ws:List (List Int)}(ha:UZ b ws)(plan:List (List Int))(r p:Nat):yE b plan r p=YA b ws plan r p:=by obtain⟨h1,h2⟩:=oA hb ha plan r p;exact AVQ h1 h2 fun t ht=>by have:=iA b plan t r p;have:=hJ hb ht;omega
def MR(b:AM)(plan:List (List Int))(r n:Nat):Int:=((mS (NC b plan r) n:Nat):Int)
def A8Z(g:List Int):Nat->Int:=fun r=>g.getD r 0
def AG8(b:AM)(ws:List (List Int))(h:Nat)(g:List Int):Int:=(hH b ws h (A8Z g)).1
def ANB(b:AM)(ws:List (List Int)):Nat->List (List Int)->Int
 |_,[]=>0
 |h,g::gs=>AG8 b ws h g+ANB b ws (h+1) gs
theorem bH(g:Nat->Int):∀n,E3 g (n+1)=g 0+E3 (fun i=>g (i+1)) n
 |0=>by simp[E3]
 |n+1=>by have:E3 g (n+1+1)=E3 g (n+1)+g (n+1):=rfl;rw[this,bH g n];simp only[E3];omega
theorem AG9(b:AM)(ws:List (List Int)):∀(gs:List (List Int)) (h:Nat),ANB b ws h gs=E3 (fun i=>AG8 b ws (h+i) (gs.getD i [])) gs.length
 |[],_=>rfl
 |g::gs,h=>by rw[List.length_cons,bH];show AG8 b ws h g+ANB b ws (h+1) gs=_;rw[AG9 b ws gs (h+1)];congr 1;exact FM fun i _=>by rw[show h+1+i=h+(i+1) by omega];rfl
theorem oB{b:AM}{h:Nat}{f g:Nat->Int}(hfg:∀r,r<b.rows.toNat->f r=g r)(w:Int):nY b h f w=nY b h g w :=
 FM fun r hr=>by rw[hfg r hr]
theorem oC{b:AM}{ws:List (List Int)}{h:Nat}{f g:Nat->Int}(hfg:∀r,r<b.rows.toNat->f r=g r):hH b ws h f=hH b ws h g:=by unfold hH;rw[show nY b h f=nY b h g from funext fun w=>oB hfg w]
def A80(b:AM)(plan gs:List (List Int)):Prop:=plan.length=gs.length/\∀h,h<plan.length->∀r,r<b.rows.toNat->C8 plan h r=A8Z (gs.getD h []) r
theorem gO{b:AM}{ws plan gs:List (List Int)}(h:A80 b plan gs):(AVP b ws plan).1=ANB b ws 0 gs:=by rw[AG9,<-h.1];refine FM fun i hi=>?_;rw[Nat.zero_add];exact congrArg Prod.fst (oC fun r hr=>h.2 i hi r hr)
end Go.Wind
