/- The winds that the truths of a beach have, hour by hour. No condition; no program in sight. -/
import Derived.Test.YthhdhbalenanjaaGreatL
open List renaming getD_eq_getElem?_getD->bj,getElem?_eq_getElem->bk,exists_mem_of_ne_nil->bq,mem_or_eq_of_mem_set->bw,mem_singleton->bx,ne_nil_of_mem->bz,eq_of_mem_replicate->bb,getElem_mem->bc
namespace Go.Wind
def N5(ws:List (List Int))(h:Nat)(n:Int):List (List Int):=if n∈ws.getD h [] then ws else ws.set h (ws.getD h []++[n])
def JX:List (List Int)->Nat->List Int->List (List Int)
 |ws,_,[]=>ws
 |ws,h,n::t=>JX (N5 ws h n) (h+1) t
def bU(k:Nat)(T:List (List Int)):List (List Int):=T.foldl (fun ws t=>JX ws 0 t) (List.replicate k [])
theorem jJ(ws:List (List Int))(h:Nat)(n:Int):(N5 ws h n).length=ws.length:=by unfold N5;split<;>simp
theorem YF:∀(t:List Int) (ws:List (List Int)) (h:Nat),(JX ws h t).length=ws.length
 |[],_,_=>rfl
 |n::t,ws,h=>(YF t (N5 ws h n) (h+1)).trans (jJ ws h n)
theorem jK:∀(T:List (List Int)) (ws:List (List Int)),(T.foldl (fun ws t=>JX ws 0 t) ws).length=ws.length
 |[],_=>rfl
 |t::T,ws=>(jK T (JX ws 0 t)).trans (YF t ws 0)
theorem jL(k:Nat)(T:List (List Int)):(bU k T).length=k:=by unfold bU;rw[jK];simp
theorem ACS(ws:List (List Int))(h:Nat)(l:List Int)(j:Nat)(hj:j<ws.length):(ws.set h l).getD j []=if h=j then l else ws.getD j []:=by
 simp only[bj,List.getElem?_set];by_cases e:h=j
 ·subst e;simp[hj]
 ·simp[e]
theorem ACT{ws:List (List Int)}{h:Nat}{n x:Int}{j:Nat}(hj:j<ws.length):x∈(N5 ws h n).getD j []↔x∈ws.getD j []\/(h=j/\n=x):=by
 unfold N5;split
 ·rename_i hn;refine⟨.inl,fun h'=>?_⟩;rcases h' with h'|⟨rfl,rfl⟩
  ·exact h'
  ·exact hn
 ·rw[ACS _ _ _ _ hj];by_cases e:h=j
  ·subst e;rw[if_pos rfl,List.mem_append,bx];simp[eq_comm]
  ·rw[if_neg e];simp[e]
theorem jM:∀(t:List Int) {ws:List (List Int)} {h j:Nat} {x:Int} (_:j<ws.length),x∈(JX ws h t).getD j []↔x∈ws.getD j []\/∃i,i<t.length/\h+i=j/\t.getD i 0=x
 |[],ws,h,j,x,hj=>by simp[JX]
 |n::t,ws,h,j,x,hj=>by
  show x∈(JX (N5 ws h n) (h+1) t).getD j []↔_;rw[jM t (by rw[jJ];exact hj),ACT hj];constructor
  ·rintro ((h1|⟨h1,h2⟩)|⟨i,h1,h2,h3⟩)
   ·exact .inl h1
   ·exact .inr ⟨0,by simp,by omega,by simpa using h2⟩
   ·exact .inr ⟨i+1,by simpa using h1,by omega,by simpa using h3⟩
  ·rintro (h1|⟨i,h1,h2,h3⟩)
   ·exact .inl (.inl h1)
   ·cases i with
    |zero=>exact .inl (.inr ⟨by omega,by simpa using h3⟩)
    |succ i=>exact .inr ⟨i,by simpa using h1,by omega,by simpa using h3⟩
theorem jN:∀(T:List (List Int)) {ws:List (List Int)} {j:Nat} {x:Int} (_:j<ws.length),x∈(T.foldl (fun ws t=>JX ws 0 t) ws).getD j []↔x∈ws.getD j []\/∃t∈T,j<t.length/\t.getD j 0=x
 |[],ws,j,x,hj=>by simp
 |t::T,ws,j,x,hj=>by
  rw[List.foldl_cons,jN T (by rw[YF];exact hj),jM t hj];constructor
  ·rintro ((h1|⟨i,h1,h2,h3⟩)|⟨u,h1,h2⟩)
   ·exact .inl h1
   ·have:i=j:=by omega
    subst this;exact .inr ⟨t,by simp,h1,h3⟩
   ·exact .inr ⟨u,by simp[h1],h2⟩
  ·rintro (h1|⟨u,h1,h2,h3⟩)
   ·exact .inl (.inl h1)
   ·rcases List.mem_cons.1 h1 with rfl|h1
    ·exact .inl (.inr ⟨j,h2,by omega,h3⟩)
    ·exact .inr ⟨u,h1,h2,h3⟩
theorem tC{k:Nat}{T:List (List Int)}{j:Nat}{x:Int}(hj:j<k):x∈(bU k T).getD j []↔∃t∈T,j<t.length/\t.getD j 0=x:=by unfold bU;rw[jN T (by simpa using hj)];simp[bj,hj]
def fK(ws:List (List Int)):Prop:=∀l∈ws,l.Nodup
theorem oI{ws:List (List Int)}(h:fK ws)(k:Nat)(n:Int):fK (N5 ws k n):=by
 unfold N5;split
 ·exact h
 ·rename_i hn;intro l hl;rcases Nat.lt_or_ge k ws.length with hk|hk
  ·rcases bw hl with h1|h1
   ·exact h l h1
   ·subst h1;have hm:ws.getD k []=ws[k]:=by rw[bj,bk hk];rfl
    rw[hm]at hn|-;rw[List.nodup_append];refine⟨h _ (bc hk),by simp,fun a ha b hb=>?_⟩;simp only[bx]at hb;subst hb;exact fun e=>hn (e▸ha)
  ·rw[List.set_eq_of_length_le hk]at hl;exact h l hl
theorem V4:∀(k:Nat) (l:List Int),l.Nodup->(∀x∈l,0<=x/\x<k)->l.length<=k
 |0,l,_,hx=>by
  cases l with
  |nil=>simp
  |cons x l=>have:=hx x (by simp);omega
 |k+1,l,hn,hx=>by
  have h1:(l.erase (k:Int)).length<=k:=V4 k _ (hn.erase _) fun x hm=>by have hm1:=(hn.mem_erase_iff.1 hm);have:=hx x hm1.2;have:=hm1.1;omega
  rw[List.length_erase]at h1;split at h1<;>omega
structure DD(ws:List (List Int)):Prop where
 nd:fK ws
 lo:∀l∈ws,∀x∈l,0<=x/\x<=3
theorem DD.len{ws:List (List Int)}(h:DD ws):∀l∈ws,l.length<=4:=fun l hl=>V4 4 l (h.nd l hl) fun x hx=>by have:=h.lo l hl x hx;omega
theorem DD.add{ws:List (List Int)}(h:DD ws)(k:Nat)(n:Int)(hn:0<=n/\n<=3):DD (N5 ws k n):=by
 refine⟨oI h.nd k n,fun l hl x hx=>?_⟩;unfold N5 at hl;split at hl
 ·exact h.lo l hl x hx
 ·rcases bw hl with h1|h1
  ·exact h.lo l h1 x hx
  ·subst h1;rcases List.mem_append.1 hx with hx|hx
   ·rcases Nat.lt_or_ge k ws.length with hk|hk
    ·have hm:ws.getD k []=ws[k]:=by rw[bj,bk hk];rfl
     rw[hm]at hx;exact h.lo _ (bc hk) x hx
    ·rw[bj,List.getElem?_eq_none hk]at hx;simp at hx
   ·rw[bx.1 hx];exact hn
theorem DD.adds:∀(t:List Int) {ws:List (List Int)} (_:DD ws) (k:Nat) (_:∀n∈t,0<=n/\n<=3),DD (JX ws k t)
 |[],_,h,_,_=>h
 |n::t,_,h,k,hn=>DD.adds t (h.add k n (hn n (by simp))) (k+1) fun x hx=>hn x (by simp[hx])
theorem DD.fold:∀(T:List (List Int)) {ws:List (List Int)} (_:DD ws) (_:∀t∈T,∀n∈t,0<=n/\n<=3),DD (T.foldl (fun ws t=>JX ws 0 t) ws)
 |[],_,h,_=>h
 |t::T,_,h,hT=>DD.fold T (h.adds t 0 (hT t (by simp))) fun u hu=>hT u (by simp[hu])
theorem DD.ask(k:Nat)(T:List (List Int))(hT:∀t∈T,∀n∈t,0<=n/\n<=3):DD (bU k T):=DD.fold T ⟨fun l hl=>by rw[bb hl];simp,fun l hl x hx=>by rw[bb hl]at hx;cases hx⟩ hT
theorem KN{b:AN}(hb:Valid b){t:List Int}(ht:A7 t b.winds=true):∀n∈t,0<=n/\n<=3:=fun n hn=>by obtain⟨j,hj,rfl⟩:=List.getElem_of_mem hn;have:=oK hb ht hj;rw[bj,bk hj,EL]at this;exact this
theorem AQM{b:AN}(hb:Valid b){T:List (List Int)}(hT:∀t,t∈T↔C4 b t=true)(hne:T≠[]){j:Nat}(hj:j<b.winds.length)(x:Int):x∈(bU b.winds.length T).getD j []↔x∈(aw b)[j]'(by rw[GN];exact hj):=by
 rw[tC hj];constructor
 ·rintro ⟨t,ht,h1,rfl⟩;have:=FN ((EX hb).1 ((hT t).1 ht)) j h1 (by rw[GN];exact hj);rwa [bj,bk h1]
 ·intro hx;obtain⟨t0,ht0⟩:=bq _ hne;have h0:=(EX hb).1 ((hT t0).1 ht0);have hl:=DE h0;have hjt:j<t0.length:=by rw[hl,GN];exact hj
  refine⟨t0.set j x,(hT _).2 ((EX hb).2 (LJ (by simpa using hl) fun k h1 h2=>?_)),by simpa using hjt,by simp[bj,hjt]⟩;rw[List.getElem_set];by_cases e:j=k
  ·subst e;rw[if_pos rfl];exact hx
  ·rw[if_neg e];exact FN h0 k (by simpa using h1) h2
def II(f:Nat->Int):Nat->Int
 |0=>0
 |n+1=>II f n+f n
theorem JY{f g:Nat->Int}:∀{n:Nat},(∀i,i<n->f i=g i)->II f n=II g n
 |0,_=>rfl
 |n+1,h=>by simp only[II];rw[JY (n:=n) fun i hi=>h i (by omega),h n (by omega)]
theorem fL{f:Nat->Int}{c:Int}:∀{n:Nat},(∀i,i<n->0<=f i/\f i<=c)->0<=II f n/\II f n<=n*c
 |0,_=>by simp[II]
 |n+1,h=>by
  have h1:=fL (n:=n) fun i hi=>h i (by omega);have h2:=h n (by omega);simp only[II];have e:((n+1:Nat):Int)*c=(n:Int)*c+c:=by rw[Int.natCast_succ,Int.add_mul,Int.one_mul]
  omega
theorem UP(f:Nat->Int):∀(n h:Nat),UR f h n=II (fun i=>f (h+i)) n
 |0,_=>rfl
 |n+1,h=>by
  have e:∀(g:Nat->Int) (n:Nat),II g (n+1)=g 0+II (fun i=>g (i+1)) n:=by
   intro g n;induction n with
   |zero=>simp[II]
   |succ n ih=>
    have:II g (n+1+1)=II g (n+1)+g (n+1):=rfl
    rw[this,ih]
    simp only[II]
    omega
  rw[e];show f h+UR f (h+1) n=_;rw[UP f n (h+1)];congr 1;exact JY fun i _=>by congr 1;omega
theorem ACU(g:Nat->Int->Int):∀(t:List Int) (h:Nat),N7 g h t=UR (fun i=>g i (t.getD (i-h) 0)) h t.length
 |[],_=>rfl
 |x::t,h=>by show g h x+N7 g (h+1) t=g h ((x::t).getD (h-h) 0)+UR (fun i=>g i ((x::t).getD (i-h) 0)) (h+1) t.length;rw[Nat.sub_self,ACU g t (h+1)];congr 1;rw[UP,UP];refine JY fun i _=>?_;rw[show h+1+i-(h+1)=i by omega,show h+1+i-h=i+1 by omega];rfl
theorem AIR(g:Nat->Int->Int)(t:List Int):N7 g 0 t=II (fun h=>g h (t.getD h 0)) t.length:=by rw[ACU,UP];exact JY fun i _=>by simp
def F7(z:Int×Int)(l:List Int):Int×Int:=l.foldl (fun r n=>(min r.1 n,max r.2 n)) z
theorem W7:∀(l:List Int) (z:Int×Int),F7 z l=(bV z.1 l,bW z.2 l)
 |[],_=>rfl
 |n::l,z=>W7 l (min z.1 n,max z.2 n)
theorem tD:∀(l:List Int) (z:Int×Int) (lo hi:Int),(∀x∈l,lo<=x/\x<=hi)->lo<=z.1->z.2<=hi->lo<=(F7 z l).1/\(F7 z l).1<=z.1/\z.2<=(F7 z l).2/\(F7 z l).2<=hi
 |[],z,lo,hi,_,h1,h2=>⟨h1,Int.le_refl _,Int.le_refl _,h2⟩
 |n::l,z,lo,hi,h,h1,h2=>by have hn:=h n (by simp);have:=tD l (min z.1 n,max z.2 n) lo hi (fun x hx=>h x (by simp[hx])) (by simp only;omega) (by simp only;omega);have e:F7 z (n::l)=F7 (min z.1 n,max z.2 n) l:=rfl;rw[e];simp only at this;omega
theorem IJ.congr{α:Type}{l m:List α}{f:α->Int}{v:Int}(h:∀x,x∈l↔x∈m)(hm:IJ l f v):IJ m f v :=
 ⟨fun x hx=>hm.le x ((h x).2 hx),by obtain⟨x,h1,h2⟩:=hm.at';exact⟨x,(h x).1 h1,h2⟩⟩
theorem JD.congr{α:Type}{l m:List α}{f:α->Int}{v:Int}(h:∀x,x∈l↔x∈m)(hm:JD l f v):JD m f v :=
 ⟨fun x hx=>hm.le x ((h x).2 hx),by obtain⟨x,h1,h2⟩:=hm.at';exact⟨x,(h x).1 h1,h2⟩⟩
theorem IJ.fun_congr{α:Type}{l:List α}{f g:α->Int}{v:Int}(h:∀x∈l,f x=g x)(hm:IJ l f v):IJ l g v :=
 ⟨fun x hx=>by rw[<-h x hx];exact hm.le x hx,by obtain⟨x,h1,h2⟩:=hm.at';exact⟨x,h1,by rw[<-h x h1];exact h2⟩⟩
theorem JD.fun_congr{α:Type}{l:List α}{f g:α->Int}{v:Int}(h:∀x∈l,f x=g x)(hm:JD l f v):JD l g v :=
 ⟨fun x hx=>by rw[<-h x hx];exact hm.le x hx,by obtain⟨x,h1,h2⟩:=hm.at';exact⟨x,h1,by rw[<-h x h1];exact h2⟩⟩
def AIS(z:Int×Int)(ws:List (List Int))(g:Nat->Int->Int)(n:Nat):Int×Int:=(II (fun h=>(F7 z ((ws.getD h []).map (g h))).1) n,II (fun h=>(F7 z ((ws.getD h []).map (g h))).2) n)
structure SY(b:AN)(ws:List (List Int)):Prop where
 len:ws.length=b.winds.length
 ok:DD ws
 mem:∀j (hj:j<b.winds.length) (x:Int),x∈ws.getD j []↔x∈(aw b)[j]'(by rw[GN];exact hj)
 ne:∀l∈aw b,l≠[]
theorem ACV{b:AN}(hb:Valid b){T:List (List Int)}(hT:∀t,t∈T↔C4 b t=true)(hne:T≠[]):SY b (bU b.winds.length T):=by
 refine⟨jL _ _,DD.ask _ _ fun t ht=>?_,fun j hj x=>AQM hb hT hne hj x,?_⟩
 ·have:=(hT t).1 ht;simp only[C4,Bool.and_eq_true]at this;exact KN hb this.1
 ·refine(wQ hb).1 ?_;obtain⟨t,ht⟩:=bq _ hne;exact bz (EH.2 ((hT t).1 ht))
theorem SY.row{b:AN}{ws:List (List Int)}(h:SY b ws){j:Nat}(hj:j<b.winds.length):ws.getD j []≠[]:=by have h1:=h.ne _ (bc (by rw[GN];exact hj:j<(aw b).length));obtain⟨x,hx⟩:=bq _ h1;exact bz ((h.mem j hj x).2 hx)
theorem ACW{b:AN}(hb:Valid b){ws:List (List Int)}(ha:SY b ws)(z:Int×Int)(g:Nat->Int->Int)(hz:∀h n,g h n<=z.1):IJ (B9 b) (N7 g 0) (AIS z ws g b.winds.length).1:=by
 have:=AIV hb g (fun h=>(F7 z ((ws.getD h []).map (g h))).1) fun j hj=>by rw[GN]at hj;rw[W7];exact(tJ (fun x _=>hz j x) (ha.row hj)).congr fun x=>ha.mem j hj x
 rw[UP]at this;simp only[Nat.zero_add]at this;exact this
theorem ACX{b:AN}(hb:Valid b){ws:List (List Int)}(ha:SY b ws)(z:Int×Int)(g:Nat->Int->Int)(hz:∀h n,z.2<=g h n):JD (B9 b) (N7 g 0) (AIS z ws g b.winds.length).2:=by
 have:=AIW hb g (fun h=>(F7 z ((ws.getD h []).map (g h))).2) fun j hj=>by rw[GN]at hj;rw[W7];exact(tK (fun x _=>hz j x) (ha.row hj)).congr fun x=>ha.mem j hj x
 rw[UP]at this;simp only[Nat.zero_add]at this;exact this
def YG(b:Bool):Int:=if b=true then 1 else 0
theorem YH(b:Bool):0<=YG b/\YG b<=1:=by cases b<;>simp[YG]
theorem AML(f:Nat->Bool):∀n,((cnt f n:Nat):Int)=II (fun h=>YG (f h)) n
 |0=>rfl
 |n+1=>by have ih:=AML f n;simp only[cnt,II];rw[<-ih];unfold YG;split<;>simp
def ACY(b:AN)(s:Int×Int)(h:Nat)(f w:Int):Int:=YG (decide (b.sun.getD h 0=f)&&YK b s f w)
def A25(b:AN)(s:Int×Int)(f w:Int):Int:=YG (YK b s f w)
theorem V5(b:AN)(plan:List (List Int))(t:List Int)(r p:Nat):(I3 b plan t r p).good=N7 (fun h w=>ACY b (r,p) h (EW plan h r) w) 0 t:=by
 rw[AIR];refine(AML _ _).trans (JY fun h _=>?_);have:YM b plan r h=decide (b.sun.getD h 0=EW plan h r):=by unfold YM;congr 1;exact propext eq_comm
 rw[this];rfl
def YI(ws:List (List Int))(g:Nat->Int->Int):Int×Int:=AIS (1,0) ws g ws.length
theorem wO{b:AN}(hb:Valid b){ws:List (List Int)}(ha:SY b ws)(g:Nat->Int->Int)(hg:∀h n,0<=g h n/\g h n<=1):IJ (B9 b) (N7 g 0) (YI ws g).1/\JD (B9 b) (N7 g 0) (YI ws g).2:=by unfold YI;rw[ha.len];exact⟨ACW hb ha (1,0) g fun h n=>(hg h n).2,ACX hb ha (1,0) g fun h n=>(hg h n).1⟩
def UQ:Int×Int:=(1099511627776,-1)
def tE(b:AN)(plan:List (List Int))(r p:Nat):Int×Int:=F7 UQ ((B9 b).map fun t=>(I3 b plan t r p).good)
theorem fM{b:AN}{t:List Int}(h:t∈B9 b):A7 t b.winds=true:=by have:=EH.1 h;simp only[C4,Bool.and_eq_true]at this;exact this.1
theorem dG{b:AN}(hb:Valid b){t:List Int}(h:t∈B9 b):t.length<=5:=by have:=DE (fM h);have:=hb.hl;omega
theorem dH(b:AN)(plan:List (List Int))(t:List Int)(r p:Nat):0<=(I3 b plan t r p).sun/\(I3 b plan t r p).sun<=t.length/\0<=(I3 b plan t r p).calm/\(I3 b plan t r p).calm<=t.length/\0<=(I3 b plan t r p).good/\(I3 b plan t r p).good<=t.length:=by have h1:=YL (YM b plan r) t.length;have h2:=YL (oJ b plan t r p) t.length;have h3:=YL (fun h=>YM b plan r h&&oJ b plan t r p h) t.length;simp only[I3,ACZ];omega
theorem AQN{α:Type}{l:List α}{f:α->Int}{m n:Int}(h1:IJ l f m)(h2:JD l f n)(hf:∀x∈l,0<=f x/\f x<=1000):F7 UQ (l.map f)=(m,n):=by
 have hne:l≠[]:=by obtain⟨x,hx,_⟩:=h1.at';exact bz hx
 rw[W7];have e1:=(tJ (z:=UQ.1) (fun x hx=>by have:=hf x hx;simp only[UQ];omega) hne).uniq h1;have e2:=(tK (z:=UQ.2) (fun x hx=>by have:=hf x hx;simp only[UQ];omega) hne).uniq h2;rw[e1,e2]
def jO(b:AN)(ws plan:List (List Int))(r p:Nat):Int×Int:=YI ws fun h w=>A25 b (r,p) (EW plan h r) w
def V6(b:AN)(ws plan:List (List Int))(r p:Nat):Int×Int:=YI ws fun h w=>ACY b (r,p) h (EW plan h r) w
theorem jP{b:AN}(hb:Valid b){ws:List (List Int)}(ha:SY b ws)(plan:List (List Int))(r p:Nat):IJ (B9 b) (fun t=>(I3 b plan t r p).good) (V6 b ws plan r p).1/\JD (B9 b) (fun t=>(I3 b plan t r p).good) (V6 b ws plan r p).2:=by obtain⟨h1,h2⟩:=wO hb ha (fun h w=>ACY b (r,p) h (EW plan h r) w) fun h n=>YH _;exact⟨h1.fun_congr fun t _=>(V5 b plan t r p).symm,h2.fun_congr fun t _=>(V5 b plan t r p).symm⟩
theorem YJ{b:AN}(hb:Valid b){ws:List (List Int)}(ha:SY b ws)(plan:List (List Int))(r p:Nat):tE b plan r p=V6 b ws plan r p:=by obtain⟨h1,h2⟩:=jP hb ha plan r p;exact AQN h1 h2 fun t ht=>by have:=dH b plan t r p;have:=dG hb ht;omega
def LH(b:AN)(plan:List (List Int))(r n:Nat):Int:=((cnt (YM b plan r) n:Nat):Int)
end Go.Wind
