/- The winds that the truths of a beach have, hour by hour. No condition; no program in sight. -/
import Derived.Test.YthhdhbalenanjaaGreatL
open List renaming getD_eq_getElem?_getD->bj,getElem?_eq_getElem->bk,exists_mem_of_ne_nil->bq,mem_or_eq_of_mem_set->bw,mem_singleton->bx,ne_nil_of_mem->bz,eq_of_mem_replicate->bc,getElem_mem->bf
namespace Go.Wind
def OK(ws:List (List Int))(h:Nat)(n:Int):List (List Int):=if n∈ws.getD h [] then ws else ws.set h (ws.getD h []++[n])
def KK:List (List Int)->Nat->List Int->List (List Int)
 |ws,_,[]=>ws
 |ws,h,n::t=>KK (OK ws h n) (h+1) t
def cJ(k:Nat)(T:List (List Int)):List (List Int):=T.foldl (fun ws t=>KK ws 0 t) (List.replicate k [])
theorem kB(ws:List (List Int))(h:Nat)(n:Int):(OK ws h n).length=ws.length:=by unfold OK;split<;>simp
theorem YV:∀(t:List Int) (ws:List (List Int)) (h:Nat),(KK ws h t).length=ws.length
 |[],_,_=>rfl
 |n::t,ws,h=>(YV t (OK ws h n) (h+1)).trans (kB ws h n)
theorem kD:∀(T:List (List Int)) (ws:List (List Int)),(T.foldl (fun ws t=>KK ws 0 t) ws).length=ws.length
 |[],_=>rfl
 |t::T,ws=>(kD T (KK ws 0 t)).trans (YV t ws 0)
theorem kE(k:Nat)(T:List (List Int)):(cJ k T).length=k:=by unfold cJ;rw[kD];simp
theorem ADE(ws:List (List Int))(h:Nat)(l:List Int)(j:Nat)(hj:j<ws.length):(ws.set h l).getD j []=if h=j then l else ws.getD j []:=by
 simp only[bj,List.getElem?_set];by_cases e:h=j
 ·subst e;simp[hj]
 ·simp[e]
theorem ADF{ws:List (List Int)}{h:Nat}{n x:Int}{j:Nat}(hj:j<ws.length):x∈(OK ws h n).getD j []↔x∈ws.getD j []\/(h=j/\n=x):=by
 unfold OK;split
 ·rename_i hn;refine⟨.inl,fun h'=>?_⟩;rcases h' with h'|⟨rfl,rfl⟩
  ·exact h'
  ·exact hn
 ·rw[ADE _ _ _ _ hj];by_cases e:h=j
  ·subst e;rw[if_pos rfl,List.mem_append,bx];simp[eq_comm]
  ·rw[if_neg e];simp[e]
theorem kF:∀(t:List Int) {ws:List (List Int)} {h j:Nat} {x:Int} (_:j<ws.length),x∈(KK ws h t).getD j []↔x∈ws.getD j []\/∃i,i<t.length/\h+i=j/\t.getD i 0=x
 |[],ws,h,j,x,hj=>by simp[KK]
 |n::t,ws,h,j,x,hj=>by
  show x∈(KK (OK ws h n) (h+1) t).getD j []↔_;rw[kF t (by rw[kB];exact hj),ADF hj];constructor
  ·rintro ((h1|⟨h1,h2⟩)|⟨i,h1,h2,h3⟩)
   ·exact .inl h1
   ·exact .inr ⟨0,by simp,by omega,by simpa using h2⟩
   ·exact .inr ⟨i+1,by simpa using h1,by omega,by simpa using h3⟩
  ·rintro (h1|⟨i,h1,h2,h3⟩)
   ·exact .inl (.inl h1)
   ·cases i with
    |zero=>exact .inl (.inr ⟨by omega,by simpa using h3⟩)
    |succ i=>exact .inr ⟨i,by simpa using h1,by omega,by simpa using h3⟩
theorem kG:∀(T:List (List Int)) {ws:List (List Int)} {j:Nat} {x:Int} (_:j<ws.length),x∈(T.foldl (fun ws t=>KK ws 0 t) ws).getD j []↔x∈ws.getD j []\/∃t∈T,j<t.length/\t.getD j 0=x
 |[],ws,j,x,hj=>by simp
 |t::T,ws,j,x,hj=>by
  rw[List.foldl_cons,kG T (by rw[YV];exact hj),kF t hj];constructor
  ·rintro ((h1|⟨i,h1,h2,h3⟩)|⟨u,h1,h2⟩)
   ·exact .inl h1
   ·have:i=j:=by omega
    subst this;exact .inr ⟨t,by simp,h1,h3⟩
   ·exact .inr ⟨u,by simp[h1],h2⟩
  ·rintro (h1|⟨u,h1,h2,h3⟩)
   ·exact .inl (.inl h1)
   ·rcases List.mem_cons.1 h1 with rfl|h1
    ·exact .inl (.inr ⟨j,h2,by omega,h3⟩)
    ·exact .inr ⟨u,h1,h2,h3⟩
theorem uB{k:Nat}{T:List (List Int)}{j:Nat}{x:Int}(hj:j<k):x∈(cJ k T).getD j []↔∃t∈T,j<t.length/\t.getD j 0=x:=by unfold cJ;rw[kG T (by simpa using hj)];simp[bj,hj]
def gC(ws:List (List Int)):Prop:=∀l∈ws,l.Nodup
theorem pC{ws:List (List Int)}(h:gC ws)(k:Nat)(n:Int):gC (OK ws k n):=by
 unfold OK;split
 ·exact h
 ·rename_i hn;intro l hl;rcases Nat.lt_or_ge k ws.length with hk|hk
  ·rcases bw hl with h1|h1
   ·exact h l h1
   ·subst h1;have hm:ws.getD k []=ws[k]:=by rw[bj,bk hk];rfl
    rw[hm]at hn|-;rw[List.nodup_append];refine⟨h _ (bf hk),by simp,fun a ha b hb=>?_⟩;simp only[bx]at hb;subst hb;exact fun e=>hn (e▸ha)
  ·rw[List.set_eq_of_length_le hk]at hl;exact h l hl
theorem WF:∀(k:Nat) (l:List Int),l.Nodup->(∀x∈l,0<=x/\x<k)->l.length<=k
 |0,l,_,hx=>by
  cases l with
  |nil=>simp
  |cons x l=>have:=hx x (by simp);omega
 |k+1,l,hn,hx=>by
  have h1:(l.erase (k:Int)).length<=k:=WF k _ (hn.erase _) fun x hm=>by have hm1:=(hn.mem_erase_iff.1 hm);have:=hx x hm1.2;have:=hm1.1;omega
  rw[List.length_erase]at h1;split at h1<;>omega
structure DL(ws:List (List Int)):Prop where
 nd:gC ws
 lo:∀l∈ws,∀x∈l,0<=x/\x<=3
theorem DL.len{ws:List (List Int)}(h:DL ws):∀l∈ws,l.length<=4:=fun l hl=>WF 4 l (h.nd l hl) fun x hx=>by have:=h.lo l hl x hx;omega
theorem DL.add{ws:List (List Int)}(h:DL ws)(k:Nat)(n:Int)(hn:0<=n/\n<=3):DL (OK ws k n):=by
 refine⟨pC h.nd k n,fun l hl x hx=>?_⟩;unfold OK at hl;split at hl
 ·exact h.lo l hl x hx
 ·rcases bw hl with h1|h1
  ·exact h.lo l h1 x hx
  ·subst h1;rcases List.mem_append.1 hx with hx|hx
   ·rcases Nat.lt_or_ge k ws.length with hk|hk
    ·have hm:ws.getD k []=ws[k]:=by rw[bj,bk hk];rfl
     rw[hm]at hx;exact h.lo _ (bf hk) x hx
    ·rw[bj,List.getElem?_eq_none hk]at hx;simp at hx
   ·rw[bx.1 hx];exact hn
theorem DL.adds:∀(t:List Int) {ws:List (List Int)} (_:DL ws) (k:Nat) (_:∀n∈t,0<=n/\n<=3),DL (KK ws k t)
 |[],_,h,_,_=>h
 |n::t,_,h,k,hn=>DL.adds t (h.add k n (hn n (by simp))) (k+1) fun x hx=>hn x (by simp[hx])
theorem DL.fold:∀(T:List (List Int)) {ws:List (List Int)} (_:DL ws) (_:∀t∈T,∀n∈t,0<=n/\n<=3),DL (T.foldl (fun ws t=>KK ws 0 t) ws)
 |[],_,h,_=>h
 |t::T,_,h,hT=>DL.fold T (h.adds t 0 (hT t (by simp))) fun u hu=>hT u (by simp[hu])
theorem DL.ask(k:Nat)(T:List (List Int))(hT:∀t∈T,∀n∈t,0<=n/\n<=3):DL (cJ k T):=DL.fold T ⟨fun l hl=>by rw[bc hl];simp,fun l hl x hx=>by rw[bc hl]at hx;cases hx⟩ hT
theorem LA{b:AN}(hb:Valid b){t:List Int}(ht:A9 t b.winds=true):∀n∈t,0<=n/\n<=3:=fun n hn=>by obtain⟨j,hj,rfl⟩:=List.getElem_of_mem hn;have:=pE hb ht hj;rw[bj,bk hj,D7]at this;exact this
theorem AQY{b:AN}(hb:Valid b){T:List (List Int)}(hT:∀t,t∈T↔DB b t=true)(hne:T≠[]){j:Nat}(hj:j<b.winds.length)(x:Int):x∈(cJ b.winds.length T).getD j []↔x∈(aw b)[j]'(by rw[G9];exact hj):=by
 rw[uB hj];constructor
 ·rintro ⟨t,ht,h1,rfl⟩;have:=F8 ((E8 hb).1 ((hT t).1 ht)) j h1 (by rw[G9];exact hj);rwa [bj,bk h1]
 ·intro hx;obtain⟨t0,ht0⟩:=bq _ hne;have h0:=(E8 hb).1 ((hT t0).1 ht0);have hl:=DM h0;have hjt:j<t0.length:=by rw[hl,G9];exact hj
  refine⟨t0.set j x,(hT _).2 ((E8 hb).2 (MC (by simpa using hl) fun k h1 h2=>?_)),by simpa using hjt,by simp[bj,hjt]⟩;rw[List.getElem_set];by_cases e:j=k
  ·subst e;rw[if_pos rfl];exact hx
  ·rw[if_neg e];exact F8 h0 k (by simpa using h1) h2
def HS(f:Nat->Int):Nat->Int
 |0=>0
 |n+1=>HS f n+f n
theorem KL{f g:Nat->Int}:∀{n:Nat},(∀i,i<n->f i=g i)->HS f n=HS g n
 |0,_=>rfl
 |n+1,h=>by simp only[HS];rw[KL (n:=n) fun i hi=>h i (by omega),h n (by omega)]
theorem gD{f:Nat->Int}{c:Int}:∀{n:Nat},(∀i,i<n->0<=f i/\f i<=c)->0<=HS f n/\HS f n<=n*c
 |0,_=>by simp[HS]
 |n+1,h=>by
  have h1:=gD (n:=n) fun i hi=>h i (by omega);have h2:=h n (by omega);simp only[HS];have e:((n+1:Nat):Int)*c=(n:Int)*c+c:=by rw[Int.natCast_succ,Int.add_mul,Int.one_mul]
  omega
theorem UY(f:Nat->Int):∀(n h:Nat),U0 f h n=HS (fun i=>f (h+i)) n
 |0,_=>rfl
 |n+1,h=>by
  have e:∀(g:Nat->Int) (n:Nat),HS g (n+1)=g 0+HS (fun i=>g (i+1)) n:=by
   intro g n;induction n with
   |zero=>simp[HS]
   |succ n ih=>
    have:HS g (n+1+1)=HS g (n+1)+g (n+1):=rfl
    rw[this,ih]
    simp only[HS]
    omega
  rw[e];show f h+U0 f (h+1) n=_;rw[UY f n (h+1)];congr 1;exact KL fun i _=>by congr 1;omega
theorem ADG(g:Nat->Int->Int):∀(t:List Int) (h:Nat),OM g h t=U0 (fun i=>g i (t.getD (i-h) 0)) h t.length
 |[],_=>rfl
 |x::t,h=>by show g h x+OM g (h+1) t=g h ((x::t).getD (h-h) 0)+U0 (fun i=>g i ((x::t).getD (i-h) 0)) (h+1) t.length;rw[Nat.sub_self,ADG g t (h+1)];congr 1;rw[UY,UY];refine KL fun i _=>?_;rw[show h+1+i-(h+1)=i by omega,show h+1+i-h=i+1 by omega];rfl
theorem AJD(g:Nat->Int->Int)(t:List Int):OM g 0 t=HS (fun h=>g h (t.getD h 0)) t.length:=by rw[ADG,UY];exact KL fun i _=>by simp
def GQ(z:Int×Int)(l:List Int):Int×Int:=l.foldl (fun r n=>(min r.1 n,max r.2 n)) z
theorem XM:∀(l:List Int) (z:Int×Int),GQ z l=(cK z.1 l,cL z.2 l)
 |[],_=>rfl
 |n::l,z=>XM l (min z.1 n,max z.2 n)
theorem uC:∀(l:List Int) (z:Int×Int) (lo hi:Int),(∀x∈l,lo<=x/\x<=hi)->lo<=z.1->z.2<=hi->lo<=(GQ z l).1/\(GQ z l).1<=z.1/\z.2<=(GQ z l).2/\(GQ z l).2<=hi
 |[],z,lo,hi,_,h1,h2=>⟨h1,Int.le_refl _,Int.le_refl _,h2⟩
 |n::l,z,lo,hi,h,h1,h2=>by have hn:=h n (by simp);have:=uC l (min z.1 n,max z.2 n) lo hi (fun x hx=>h x (by simp[hx])) (by simp only;omega) (by simp only;omega);have e:GQ z (n::l)=GQ (min z.1 n,max z.2 n) l:=rfl;rw[e];simp only at this;omega
theorem JG.congr{α:Type}{l m:List α}{f:α->Int}{v:Int}(h:∀x,x∈l↔x∈m)(hm:JG l f v):JG m f v :=
 ⟨fun x hx=>hm.le x ((h x).2 hx),by obtain⟨x,h1,h2⟩:=hm.at';exact⟨x,(h x).1 h1,h2⟩⟩
theorem JZ.congr{α:Type}{l m:List α}{f:α->Int}{v:Int}(h:∀x,x∈l↔x∈m)(hm:JZ l f v):JZ m f v :=
 ⟨fun x hx=>hm.le x ((h x).2 hx),by obtain⟨x,h1,h2⟩:=hm.at';exact⟨x,(h x).1 h1,h2⟩⟩
theorem JG.fun_congr{α:Type}{l:List α}{f g:α->Int}{v:Int}(h:∀x∈l,f x=g x)(hm:JG l f v):JG l g v :=
 ⟨fun x hx=>by rw[<-h x hx];exact hm.le x hx,by obtain⟨x,h1,h2⟩:=hm.at';exact⟨x,h1,by rw[<-h x h1];exact h2⟩⟩
theorem JZ.fun_congr{α:Type}{l:List α}{f g:α->Int}{v:Int}(h:∀x∈l,f x=g x)(hm:JZ l f v):JZ l g v :=
 ⟨fun x hx=>by rw[<-h x hx];exact hm.le x hx,by obtain⟨x,h1,h2⟩:=hm.at';exact⟨x,h1,by rw[<-h x h1];exact h2⟩⟩
def AJE(z:Int×Int)(ws:List (List Int))(g:Nat->Int->Int)(n:Nat):Int×Int:=(HS (fun h=>(GQ z ((ws.getD h []).map (g h))).1) n,HS (fun h=>(GQ z ((ws.getD h []).map (g h))).2) n)
structure TA(b:AN)(ws:List (List Int)):Prop where
 len:ws.length=b.winds.length
 ok:DL ws
 mem:∀j (hj:j<b.winds.length) (x:Int),x∈ws.getD j []↔x∈(aw b)[j]'(by rw[G9];exact hj)
 ne:∀l∈aw b,l≠[]
theorem ADH{b:AN}(hb:Valid b){T:List (List Int)}(hT:∀t,t∈T↔DB b t=true)(hne:T≠[]):TA b (cJ b.winds.length T):=by
 refine⟨kE _ _,DL.ask _ _ fun t ht=>?_,fun j hj x=>AQY hb hT hne hj x,?_⟩
 ·have:=(hT t).1 ht;simp only[DB,Bool.and_eq_true]at this;exact LA hb this.1
 ·refine(xN hb).1 ?_;obtain⟨t,ht⟩:=bq _ hne;exact bz (EW.2 ((hT t).1 ht))
theorem TA.row{b:AN}{ws:List (List Int)}(h:TA b ws){j:Nat}(hj:j<b.winds.length):ws.getD j []≠[]:=by have h1:=h.ne _ (bf (by rw[G9];exact hj:j<(aw b).length));obtain⟨x,hx⟩:=bq _ h1;exact bz ((h.mem j hj x).2 hx)
theorem ADI{b:AN}(hb:Valid b){ws:List (List Int)}(ha:TA b ws)(z:Int×Int)(g:Nat->Int->Int)(hz:∀h n,g h n<=z.1):JG (CE b) (OM g 0) (AJE z ws g b.winds.length).1:=by
 have:=AJH hb g (fun h=>(GQ z ((ws.getD h []).map (g h))).1) fun j hj=>by rw[G9]at hj;rw[XM];exact(uI (fun x _=>hz j x) (ha.row hj)).congr fun x=>ha.mem j hj x
 rw[UY]at this;simp only[Nat.zero_add]at this;exact this
theorem ADJ{b:AN}(hb:Valid b){ws:List (List Int)}(ha:TA b ws)(z:Int×Int)(g:Nat->Int->Int)(hz:∀h n,z.2<=g h n):JZ (CE b) (OM g 0) (AJE z ws g b.winds.length).2:=by
 have:=AJI hb g (fun h=>(GQ z ((ws.getD h []).map (g h))).2) fun j hj=>by rw[G9]at hj;rw[XM];exact(uJ (fun x _=>hz j x) (ha.row hj)).congr fun x=>ha.mem j hj x
 rw[UY]at this;simp only[Nat.zero_add]at this;exact this
def YW(b:Bool):Int:=if b=true then 1 else 0
theorem YX(b:Bool):0<=YW b/\YW b<=1:=by cases b<;>simp[YW]
theorem AM2(f:Nat->Bool):∀n,((cnt f n:Nat):Int)=HS (fun h=>YW (f h)) n
 |0=>rfl
 |n+1=>by have ih:=AM2 f n;simp only[cnt,HS];rw[<-ih];unfold YW;split<;>simp
def ADK(b:AN)(s:Int×Int)(h:Nat)(f w:Int):Int:=YW (decide (b.sun.getD h 0=f)&&Y0 b s f w)
def A3E(b:AN)(s:Int×Int)(f w:Int):Int:=YW (Y0 b s f w)
theorem WG(b:AN)(plan:List (List Int))(t:List Int)(r p:Nat):(JS b plan t r p).good=OM (fun h w=>ADK b (r,p) h (E7 plan h r) w) 0 t:=by
 rw[AJD];refine(AM2 _ _).trans (KL fun h _=>?_);have:Y2 b plan r h=decide (b.sun.getD h 0=E7 plan h r):=by unfold Y2;congr 1;exact propext eq_comm
 rw[this];rfl
def YY(ws:List (List Int))(g:Nat->Int->Int):Int×Int:=AJE (1,0) ws g ws.length
theorem xL{b:AN}(hb:Valid b){ws:List (List Int)}(ha:TA b ws)(g:Nat->Int->Int)(hg:∀h n,0<=g h n/\g h n<=1):JG (CE b) (OM g 0) (YY ws g).1/\JZ (CE b) (OM g 0) (YY ws g).2:=by unfold YY;rw[ha.len];exact⟨ADI hb ha (1,0) g fun h n=>(hg h n).2,ADJ hb ha (1,0) g fun h n=>(hg h n).1⟩
def UZ:Int×Int:=(1099511627776,-1)
def uD(b:AN)(plan:List (List Int))(r p:Nat):Int×Int:=GQ UZ ((CE b).map fun t=>(JS b plan t r p).good)
theorem gE{b:AN}{t:List Int}(h:t∈CE b):A9 t b.winds=true:=by have:=EW.1 h;simp only[DB,Bool.and_eq_true]at this;exact this.1
theorem dS{b:AN}(hb:Valid b){t:List Int}(h:t∈CE b):t.length<=5:=by have:=DM (gE h);have:=hb.hl;omega
theorem dT(b:AN)(plan:List (List Int))(t:List Int)(r p:Nat):0<=(JS b plan t r p).sun/\(JS b plan t r p).sun<=t.length/\0<=(JS b plan t r p).calm/\(JS b plan t r p).calm<=t.length/\0<=(JS b plan t r p).good/\(JS b plan t r p).good<=t.length:=by have h1:=Y1 (Y2 b plan r) t.length;have h2:=Y1 (pD b plan t r p) t.length;have h3:=Y1 (fun h=>Y2 b plan r h&&pD b plan t r p h) t.length;simp only[JS,ADL];omega
theorem AQZ{α:Type}{l:List α}{f:α->Int}{m n:Int}(h1:JG l f m)(h2:JZ l f n)(hf:∀x∈l,0<=f x/\f x<=1000):GQ UZ (l.map f)=(m,n):=by
 have hne:l≠[]:=by obtain⟨x,hx,_⟩:=h1.at';exact bz hx
 rw[XM];have e1:=(uI (z:=UZ.1) (fun x hx=>by have:=hf x hx;simp only[UZ];omega) hne).uniq h1;have e2:=(uJ (z:=UZ.2) (fun x hx=>by have:=hf x hx;simp only[UZ];omega) hne).uniq h2;rw[e1,e2]
def kH(b:AN)(ws plan:List (List Int))(r p:Nat):Int×Int:=YY ws fun h w=>A3E b (r,p) (E7 plan h r) w
def WH(b:AN)(ws plan:List (List Int))(r p:Nat):Int×Int:=YY ws fun h w=>ADK b (r,p) h (E7 plan h r) w
theorem kI{b:AN}(hb:Valid b){ws:List (List Int)}(ha:TA b ws)(plan:List (List Int))(r p:Nat):JG (CE b) (fun t=>(JS b plan t r p).good) (WH b ws plan r p).1/\JZ (CE b) (fun t=>(JS b plan t r p).good) (WH b ws plan r p).2:=by obtain⟨h1,h2⟩:=xL hb ha (fun h w=>ADK b (r,p) h (E7 plan h r) w) fun h n=>YX _;exact⟨h1.fun_congr fun t _=>(WG b plan t r p).symm,h2.fun_congr fun t _=>(WG b plan t r p).symm⟩
theorem YZ{b:AN}(hb:Valid b){ws:List (List Int)}(ha:TA b ws)(plan:List (List Int))(r p:Nat):uD b plan r p=WH b ws plan r p:=by obtain⟨h1,h2⟩:=kI hb ha plan r p;exact AQZ h1 h2 fun t ht=>by have:=dT b plan t r p;have:=dS hb ht;omega
def MA(b:AN)(plan:List (List Int))(r n:Nat):Int:=((cnt (Y2 b plan r) n:Nat):Int)
end Go.Wind
