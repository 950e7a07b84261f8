/- The winds that the truths of a beach have, hour by hour. No condition; no program in sight. -/
import Derived.Test.YthhdhbalenanjaaGreatL
open List renaming getD_eq_getElem?_getD->bj,getElem?_eq_getElem->bk,exists_mem_of_ne_nil->bq,mem_or_eq_of_mem_set->bw,mem_singleton->bx,ne_nil_of_mem->bz,eq_of_mem_replicate->bb,getElem_mem->bc
namespace Go.Wind
def NY(ws:List (List Int))(h:Nat)(n:Int):List (List Int):=if n∈ws.getD h [] then ws else ws.set h (ws.getD h []++[n])
def JT:List (List Int)->Nat->List Int->List (List Int)
 |ws,_,[]=>ws
 |ws,h,n::t=>JT (NY ws h n) (h+1) t
def bX(k:Nat)(T:List (List Int)):List (List Int):=T.foldl (fun ws t=>JT ws 0 t) (List.replicate k [])
theorem jO(ws:List (List Int))(h:Nat)(n:Int):(NY ws h n).length=ws.length:=by unfold NY;split<;>simp
theorem YX:∀(t:List Int) (ws:List (List Int)) (h:Nat),(JT ws h t).length=ws.length
 |[],_,_=>rfl
 |n::t,ws,h=>(YX t (NY ws h n) (h+1)).trans (jO ws h n)
theorem jP:∀(T:List (List Int)) (ws:List (List Int)),(T.foldl (fun ws t=>JT ws 0 t) ws).length=ws.length
 |[],_=>rfl
 |t::T,ws=>(jP T (JT ws 0 t)).trans (YX t ws 0)
theorem jQ(k:Nat)(T:List (List Int)):(bX k T).length=k:=by unfold bX;rw[jP];simp
theorem ACY(ws:List (List Int))(h:Nat)(l:List Int)(j:Nat)(hj:j<ws.length):(ws.set h l).getD j []=if h=j then l else ws.getD j []:=by
 simp only[bj,List.getElem?_set];by_cases e:h=j
 ·subst e;simp[hj]
 ·simp[e]
theorem ACZ{ws:List (List Int)}{h:Nat}{n x:Int}{j:Nat}(hj:j<ws.length):x∈(NY ws h n).getD j []↔x∈ws.getD j []\/(h=j/\n=x):=by
 unfold NY;split
 ·rename_i hn;refine⟨.inl,fun h'=>?_⟩;rcases h' with h'|⟨rfl,rfl⟩
  ·exact h'
  ·exact hn
 ·rw[ACY _ _ _ _ hj];by_cases e:h=j
  ·subst e;rw[if_pos rfl,List.mem_append,bx];simp[eq_comm]
  ·rw[if_neg e];simp[e]
theorem jR:∀(t:List Int) {ws:List (List Int)} {h j:Nat} {x:Int} (_:j<ws.length),x∈(JT ws h t).getD j []↔x∈ws.getD j []\/∃i,i<t.length/\h+i=j/\t.getD i 0=x
 |[],ws,h,j,x,hj=>by simp[JT]
 |n::t,ws,h,j,x,hj=>by
  show x∈(JT (NY ws h n) (h+1) t).getD j []↔_;rw[jR t (by rw[jO];exact hj),ACZ hj];constructor
  ·rintro ((h1|⟨h1,h2⟩)|⟨i,h1,h2,h3⟩)
   ·exact .inl h1
   ·exact .inr ⟨0,by simp,by omega,by simpa using h2⟩
   ·exact .inr ⟨i+1,by simpa using h1,by omega,by simpa using h3⟩
  ·rintro (h1|⟨i,h1,h2,h3⟩)
   ·exact .inl (.inl h1)
   ·cases i with
    |zero=>exact .inl (.inr ⟨by omega,by simpa using h3⟩)
    |succ i=>exact .inr ⟨i,by simpa using h1,by omega,by simpa using h3⟩
theorem jS:∀(T:List (List Int)) {ws:List (List Int)} {j:Nat} {x:Int} (_:j<ws.length),x∈(T.foldl (fun ws t=>JT ws 0 t) ws).getD j []↔x∈ws.getD j []\/∃t∈T,j<t.length/\t.getD j 0=x
 |[],ws,j,x,hj=>by simp
 |t::T,ws,j,x,hj=>by
  rw[List.foldl_cons,jS T (by rw[YX];exact hj),jR t hj];constructor
  ·rintro ((h1|⟨i,h1,h2,h3⟩)|⟨u,h1,h2⟩)
   ·exact .inl h1
   ·have:i=j:=by omega
    subst this;exact .inr ⟨t,by simp,h1,h3⟩
   ·exact .inr ⟨u,by simp[h1],h2⟩
  ·rintro (h1|⟨u,h1,h2,h3⟩)
   ·exact .inl (.inl h1)
   ·rcases List.mem_cons.1 h1 with rfl|h1
    ·exact .inl (.inr ⟨j,h2,by omega,h3⟩)
    ·exact .inr ⟨u,h1,h2,h3⟩
theorem tP{k:Nat}{T:List (List Int)}{j:Nat}{x:Int}(hj:j<k):x∈(bX k T).getD j []↔∃t∈T,j<t.length/\t.getD j 0=x:=by unfold bX;rw[jS T (by simpa using hj)];simp[bj,hj]
def fS(ws:List (List Int)):Prop:=∀l∈ws,l.Nodup
theorem oW{ws:List (List Int)}(h:fS ws)(k:Nat)(n:Int):fS (NY ws k n):=by
 unfold NY;split
 ·exact h
 ·rename_i hn;intro l hl;rcases Nat.lt_or_ge k ws.length with hk|hk
  ·rcases bw hl with h1|h1
   ·exact h l h1
   ·subst h1;have hm:ws.getD k []=ws[k]:=by rw[bj,bk hk];rfl
    rw[hm]at hn|-;rw[List.nodup_append];refine⟨h _ (bc hk),by simp,fun a ha b hb=>?_⟩;simp only[bx]at hb;subst hb;exact fun e=>hn (e▸ha)
  ·rw[List.set_eq_of_length_le hk]at hl;exact h l hl
theorem V6:∀(k:Nat) (l:List Int),l.Nodup->(∀x∈l,0<=x/\x<k)->l.length<=k
 |0,l,_,hx=>by
  cases l with
  |nil=>simp
  |cons x l=>have:=hx x (by simp);omega
 |k+1,l,hn,hx=>by
  have h1:(l.erase (k:Int)).length<=k:=V6 k _ (hn.erase _) fun x hm=>by have hm1:=(hn.mem_erase_iff.1 hm);have:=hx x hm1.2;have:=hm1.1;omega
  rw[List.length_erase]at h1;split at h1<;>omega
structure DC(ws:List (List Int)):Prop where
 nd:fS ws
 lo:∀l∈ws,∀x∈l,0<=x/\x<=3
theorem DC.len{ws:List (List Int)}(h:DC ws):∀l∈ws,l.length<=4:=fun l hl=>V6 4 l (h.nd l hl) fun x hx=>by have:=h.lo l hl x hx;omega
theorem DC.add{ws:List (List Int)}(h:DC ws)(k:Nat)(n:Int)(hn:0<=n/\n<=3):DC (NY ws k n):=by
 refine⟨oW h.nd k n,fun l hl x hx=>?_⟩;unfold NY at hl;split at hl
 ·exact h.lo l hl x hx
 ·rcases bw hl with h1|h1
  ·exact h.lo l h1 x hx
  ·subst h1;rcases List.mem_append.1 hx with hx|hx
   ·rcases Nat.lt_or_ge k ws.length with hk|hk
    ·have hm:ws.getD k []=ws[k]:=by rw[bj,bk hk];rfl
     rw[hm]at hx;exact h.lo _ (bc hk) x hx
    ·rw[bj,List.getElem?_eq_none hk]at hx;simp at hx
   ·rw[bx.1 hx];exact hn
theorem DC.adds:∀(t:List Int) {ws:List (List Int)} (_:DC ws) (k:Nat) (_:∀n∈t,0<=n/\n<=3),DC (JT ws k t)
 |[],_,h,_,_=>h
 |n::t,_,h,k,hn=>DC.adds t (h.add k n (hn n (by simp))) (k+1) fun x hx=>hn x (by simp[hx])
theorem DC.fold:∀(T:List (List Int)) {ws:List (List Int)} (_:DC ws) (_:∀t∈T,∀n∈t,0<=n/\n<=3),DC (T.foldl (fun ws t=>JT ws 0 t) ws)
 |[],_,h,_=>h
 |t::T,_,h,hT=>DC.fold T (h.adds t 0 (hT t (by simp))) fun u hu=>hT u (by simp[hu])
theorem DC.ask(k:Nat)(T:List (List Int))(hT:∀t∈T,∀n∈t,0<=n/\n<=3):DC (bX k T):=DC.fold T ⟨fun l hl=>by rw[bb hl];simp,fun l hl x hx=>by rw[bb hl]at hx;cases hx⟩ hT
theorem KM{b:AK}(hb:Valid b){t:List Int}(ht:A5 t b.winds=true):∀n∈t,0<=n/\n<=3:=fun n hn=>by obtain⟨j,hj,rfl⟩:=List.getElem_of_mem hn;have:=oX hb ht hj;rw[bj,bk hj,DT]at this;exact this
theorem AP9{b:AK}(hb:Valid b){T:List (List Int)}(hT:∀t,t∈T↔C3 b t=true)(hne:T≠[]){j:Nat}(hj:j<b.winds.length)(x:Int):x∈(bX b.winds.length T).getD j []↔x∈(aw b)[j]'(by rw[GK];exact hj):=by
 rw[tP hj];constructor
 ·rintro ⟨t,ht,h1,rfl⟩;have:=FK ((E1 hb).1 ((hT t).1 ht)) j h1 (by rw[GK];exact hj);rwa [bj,bk h1]
 ·intro hx;obtain⟨t0,ht0⟩:=bq _ hne;have h0:=(E1 hb).1 ((hT t0).1 ht0);have hl:=DD h0;have hjt:j<t0.length:=by rw[hl,GK];exact hj
  refine⟨t0.set j x,(hT _).2 ((E1 hb).2 (LJ (by simpa using hl) fun k h1 h2=>?_)),by simpa using hjt,by simp[bj,hjt]⟩;rw[List.getElem_set];by_cases e:j=k
  ·subst e;rw[if_pos rfl];exact hx
  ·rw[if_neg e];exact FK h0 k (by simpa using h1) h2
def G9(f:Nat->Int):Nat->Int
 |0=>0
 |n+1=>G9 f n+f n
theorem JU{f g:Nat->Int}:∀{n:Nat},(∀i,i<n->f i=g i)->G9 f n=G9 g n
 |0,_=>rfl
 |n+1,h=>by simp only[G9];rw[JU (n:=n) fun i hi=>h i (by omega),h n (by omega)]
theorem fT{f:Nat->Int}{c:Int}:∀{n:Nat},(∀i,i<n->0<=f i/\f i<=c)->0<=G9 f n/\G9 f n<=n*c
 |0,_=>by simp[G9]
 |n+1,h=>by
  have h1:=fT (n:=n) fun i hi=>h i (by omega);have h2:=h n (by omega);simp only[G9];have e:((n+1:Nat):Int)*c=(n:Int)*c+c:=by rw[Int.natCast_succ,Int.add_mul,Int.one_mul]
  omega
theorem US(f:Nat->Int):∀(n h:Nat),UU f h n=G9 (fun i=>f (h+i)) n
 |0,_=>rfl
 |n+1,h=>by
  have e:∀(g:Nat->Int) (n:Nat),G9 g (n+1)=g 0+G9 (fun i=>g (i+1)) n:=by
   intro g n;induction n with
   |zero=>simp[G9]
   |succ n ih=>
    have:G9 g (n+1+1)=G9 g (n+1)+g (n+1):=rfl
    rw[this,ih]
    simp only[G9]
    omega
  rw[e];show f h+UU f (h+1) n=_;rw[US f n (h+1)];congr 1;exact JU fun i _=>by congr 1;omega
theorem AC0(g:Nat->Int->Int):∀(t:List Int) (h:Nat),N4 g h t=UU (fun i=>g i (t.getD (i-h) 0)) h t.length
 |[],_=>rfl
 |x::t,h=>by show g h x+N4 g (h+1) t=g h ((x::t).getD (h-h) 0)+UU (fun i=>g i ((x::t).getD (i-h) 0)) (h+1) t.length;rw[Nat.sub_self,AC0 g t (h+1)];congr 1;rw[US,US];refine JU fun i _=>?_;rw[show h+1+i-(h+1)=i by omega,show h+1+i-h=i+1 by omega];rfl
theorem AI1(g:Nat->Int->Int)(t:List Int):N4 g 0 t=G9 (fun h=>g h (t.getD h 0)) t.length:=by rw[AC0,US];exact JU fun i _=>by simp
def F2(z:Int×Int)(l:List Int):Int×Int:=l.foldl (fun r n=>(min r.1 n,max r.2 n)) z
theorem XG:∀(l:List Int) (z:Int×Int),F2 z l=(bY z.1 l,bZ z.2 l)
 |[],_=>rfl
 |n::l,z=>XG l (min z.1 n,max z.2 n)
theorem tQ:∀(l:List Int) (z:Int×Int) (lo hi:Int),(∀x∈l,lo<=x/\x<=hi)->lo<=z.1->z.2<=hi->lo<=(F2 z l).1/\(F2 z l).1<=z.1/\z.2<=(F2 z l).2/\(F2 z l).2<=hi
 |[],z,lo,hi,_,h1,h2=>⟨h1,Int.le_refl _,Int.le_refl _,h2⟩
 |n::l,z,lo,hi,h,h1,h2=>by have hn:=h n (by simp);have:=tQ l (min z.1 n,max z.2 n) lo hi (fun x hx=>h x (by simp[hx])) (by simp only;omega) (by simp only;omega);have e:F2 z (n::l)=F2 (min z.1 n,max z.2 n) l:=rfl;rw[e];simp only at this;omega
theorem IL.congr{α:Type}{l m:List α}{f:α->Int}{v:Int}(h:∀x,x∈l↔x∈m)(hm:IL l f v):IL m f v :=
 ⟨fun x hx=>hm.le x ((h x).2 hx),by obtain⟨x,h1,h2⟩:=hm.at';exact⟨x,(h x).1 h1,h2⟩⟩
theorem JD.congr{α:Type}{l m:List α}{f:α->Int}{v:Int}(h:∀x,x∈l↔x∈m)(hm:JD l f v):JD m f v :=
 ⟨fun x hx=>hm.le x ((h x).2 hx),by obtain⟨x,h1,h2⟩:=hm.at';exact⟨x,(h x).1 h1,h2⟩⟩
theorem IL.fun_congr{α:Type}{l:List α}{f g:α->Int}{v:Int}(h:∀x∈l,f x=g x)(hm:IL l f v):IL l g v :=
 ⟨fun x hx=>by rw[<-h x hx];exact hm.le x hx,by obtain⟨x,h1,h2⟩:=hm.at';exact⟨x,h1,by rw[<-h x h1];exact h2⟩⟩
theorem JD.fun_congr{α:Type}{l:List α}{f g:α->Int}{v:Int}(h:∀x∈l,f x=g x)(hm:JD l f v):JD l g v :=
 ⟨fun x hx=>by rw[<-h x hx];exact hm.le x hx,by obtain⟨x,h1,h2⟩:=hm.at';exact⟨x,h1,by rw[<-h x h1];exact h2⟩⟩
def AI2(z:Int×Int)(ws:List (List Int))(g:Nat->Int->Int)(n:Nat):Int×Int:=(G9 (fun h=>(F2 z ((ws.getD h []).map (g h))).1) n,G9 (fun h=>(F2 z ((ws.getD h []).map (g h))).2) n)
structure SU(b:AK)(ws:List (List Int)):Prop where
 len:ws.length=b.winds.length
 ok:DC ws
 mem:∀j (hj:j<b.winds.length) (x:Int),x∈ws.getD j []↔x∈(aw b)[j]'(by rw[GK];exact hj)
 ne:∀l∈aw b,l≠[]
theorem AC1{b:AK}(hb:Valid b){T:List (List Int)}(hT:∀t,t∈T↔C3 b t=true)(hne:T≠[]):SU b (bX b.winds.length T):=by
 refine⟨jQ _ _,DC.ask _ _ fun t ht=>?_,fun j hj x=>AP9 hb hT hne hj x,?_⟩
 ·have:=(hT t).1 ht;simp only[C3,Bool.and_eq_true]at this;exact KM hb this.1
 ·refine(xB hb).1 ?_;obtain⟨t,ht⟩:=bq _ hne;exact bz (EJ.2 ((hT t).1 ht))
theorem SU.row{b:AK}{ws:List (List Int)}(h:SU b ws){j:Nat}(hj:j<b.winds.length):ws.getD j []≠[]:=by have h1:=h.ne _ (bc (by rw[GK];exact hj:j<(aw b).length));obtain⟨x,hx⟩:=bq _ h1;exact bz ((h.mem j hj x).2 hx)
theorem AC2{b:AK}(hb:Valid b){ws:List (List Int)}(ha:SU b ws)(z:Int×Int)(g:Nat->Int->Int)(hz:∀h n,g h n<=z.1):IL (CE b) (N4 g 0) (AI2 z ws g b.winds.length).1:=by
 have:=AI5 hb g (fun h=>(F2 z ((ws.getD h []).map (g h))).1) fun j hj=>by rw[GK]at hj;rw[XG];exact(tW (fun x _=>hz j x) (ha.row hj)).congr fun x=>ha.mem j hj x
 rw[US]at this;simp only[Nat.zero_add]at this;exact this
theorem AC3{b:AK}(hb:Valid b){ws:List (List Int)}(ha:SU b ws)(z:Int×Int)(g:Nat->Int->Int)(hz:∀h n,z.2<=g h n):JD (CE b) (N4 g 0) (AI2 z ws g b.winds.length).2:=by
 have:=AI6 hb g (fun h=>(F2 z ((ws.getD h []).map (g h))).2) fun j hj=>by rw[GK]at hj;rw[XG];exact(tX (fun x _=>hz j x) (ha.row hj)).congr fun x=>ha.mem j hj x
 rw[US]at this;simp only[Nat.zero_add]at this;exact this
def YY(b:Bool):Int:=if b=true then 1 else 0
theorem YZ(b:Bool):0<=YY b/\YY b<=1:=by cases b<;>simp[YY]
theorem AMN(f:Nat->Bool):∀n,((jV f n:Nat):Int)=G9 (fun h=>YY (f h)) n
 |0=>rfl
 |n+1=>by have ih:=AMN f n;simp only[jV,G9];rw[<-ih];unfold YY;split<;>simp
def AC4(b:AK)(s:Int×Int)(h:Nat)(f w:Int):Int:=YY (decide (b.sun.getD h 0=f)&&P6 b s f w)
def A1E(b:AK)(s:Int×Int)(f w:Int):Int:=YY (P6 b s f w)
theorem V7(b:AK)(plan:List (List Int))(t:List Int)(r p:Nat):(D5 b plan t r p).good=N4 (fun h w=>AC4 b (r,p) h (E0 plan h r) w) 0 t:=by
 rw[AI1];refine(AMN _ _).trans (JU fun h _=>?_);have:QR b plan r h=decide (b.sun.getD h 0=E0 plan h r):=by unfold QR;congr 1;exact propext eq_comm
 rw[this];rfl
def Y0(ws:List (List Int))(g:Nat->Int->Int):Int×Int:=AI2 (1,0) ws g ws.length
theorem wZ{b:AK}(hb:Valid b){ws:List (List Int)}(ha:SU b ws)(g:Nat->Int->Int)(hg:∀h n,0<=g h n/\g h n<=1):IL (CE b) (N4 g 0) (Y0 ws g).1/\JD (CE b) (N4 g 0) (Y0 ws g).2:=by unfold Y0;rw[ha.len];exact⟨AC2 hb ha (1,0) g fun h n=>(hg h n).2,AC3 hb ha (1,0) g fun h n=>(hg h n).1⟩
def UT:Int×Int:=(1099511627776,-1)
def tR(b:AK)(plan:List (List Int))(r p:Nat):Int×Int:=F2 UT ((CE b).map fun t=>(D5 b plan t r p).good)
theorem fU{b:AK}{t:List Int}(h:t∈CE b):A5 t b.winds=true:=by have:=EJ.1 h;simp only[C3,Bool.and_eq_true]at this;exact this.1
theorem dI{b:AK}(hb:Valid b){t:List Int}(h:t∈CE b):t.length<=5:=by have:=DD (fU h);have:=hb.hl;omega
theorem dJ(b:AK)(plan:List (List Int))(t:List Int)(r p:Nat):0<=(D5 b plan t r p).sun/\(D5 b plan t r p).sun<=t.length/\0<=(D5 b plan t r p).calm/\(D5 b plan t r p).calm<=t.length/\0<=(D5 b plan t r p).good/\(D5 b plan t r p).good<=t.length:=by have h1:=Y1 (QR b plan r) t.length;have h2:=Y1 (JY b plan t r p) t.length;have h3:=Y1 (fun h=>QR b plan r h&&JY b plan t r p h) t.length;simp only[D5,AC5];omega
theorem AQA{α:Type}{l:List α}{f:α->Int}{m n:Int}(h1:IL l f m)(h2:JD l f n)(hf:∀x∈l,0<=f x/\f x<=1000):F2 UT (l.map f)=(m,n):=by
 have hne:l≠[]:=by obtain⟨x,hx,_⟩:=h1.at';exact bz hx
 rw[XG];have e1:=(tW (z:=UT.1) (fun x hx=>by have:=hf x hx;simp only[UT];omega) hne).uniq h1;have e2:=(tX (z:=UT.2) (fun x hx=>by have:=hf x hx;simp only[UT];omega) hne).uniq h2;rw[e1,e2]
def jT(b:AK)(ws plan:List (List Int))(r p:Nat):Int×Int:=Y0 ws fun h w=>A1E b (r,p) (E0 plan h r) w
def V8(b:AK)(ws plan:List (List Int))(r p:Nat):Int×Int:=Y0 ws fun h w=>AC4 b (r,p) h (E0 plan h r) w
theorem jU{b:AK}(hb:Valid b){ws:List (List Int)}(ha:SU b ws)(plan:List (List Int))(r p:Nat):IL (CE b) (fun t=>(D5 b plan t r p).good) (V8 b ws plan r p).1/\JD (CE b) (fun t=>(D5 b plan t r p).good) (V8 b ws plan r p).2:=by obtain⟨h1,h2⟩:=wZ hb ha (fun h w=>AC4 b (r,p) h (E0 plan h r) w) fun h n=>YZ _;exact⟨h1.fun_congr fun t _=>(V7 b plan t r p).symm,h2.fun_congr fun t _=>(V7 b plan t r p).symm⟩
theorem QP{b:AK}(hb:Valid b){ws:List (List Int)}(ha:SU b ws)(plan:List (List Int))(r p:Nat):tR b plan r p=V8 b ws plan r p:=by obtain⟨h1,h2⟩:=jU hb ha plan r p;exact AQA h1 h2 fun t ht=>by have:=dJ b plan t r p;have:=dI hb ht;omega
def LI(b:AK)(plan:List (List Int))(r n:Nat):Int:=((jV (QR b plan r) n:Nat):Int)
end Go.Wind
