/- The winds that the truths of a beach have, hour by hour. No condition; no program in sight. -/
import Derived.Test.YthhdhbalenanjaaGreatL
open List renaming getD_eq_getElem?_getD->bj,getElem?_eq_getElem->bk,exists_mem_of_ne_nil->bq,mem_or_eq_of_mem_set->bw,mem_singleton->bx,ne_nil_of_mem->bz,eq_of_mem_replicate->bb,getElem_mem->bc
namespace Go.Wind
def O5(ws:List (List Int))(h:Nat)(n:Int):List (List Int):=if n∈ws.getD h [] then ws else ws.set h (ws.getD h []++[n])
def KK:List (List Int)->Nat->List Int->List (List Int)
 |ws,_,[]=>ws
 |ws,h,n::t=>KK (O5 ws h n) (h+1) t
def eX(k:Nat)(T:List (List Int)):List (List Int):=T.foldl (fun ws t=>KK ws 0 t) (List.replicate k [])
theorem nK(ws:List (List Int))(h:Nat)(n:Int):(O5 ws h n).length=ws.length:=by unfold O5;split<;>simp
theorem aI:∀(t:List Int) (ws:List (List Int)) (h:Nat),(KK ws h t).length=ws.length
 |[],_,_=>rfl
 |n::t,ws,h=>(aI t (O5 ws h n) (h+1)).trans (nK ws h n)
theorem nL:∀(T:List (List Int)) (ws:List (List Int)),(T.foldl (fun ws t=>KK ws 0 t) ws).length=ws.length
 |[],_=>rfl
 |t::T,ws=>(nL T (KK ws 0 t)).trans (aI t ws 0)
theorem nM(k:Nat)(T:List (List Int)):(eX k T).length=k:=by unfold eX;rw[nL];simp
theorem AFZ(ws:List (List Int))(h:Nat)(l:List Int)(j:Nat)(hj:j<ws.length):(ws.set h l).getD j []=if h=j then l else ws.getD j []:=by
 simp only[bj,List.getElem?_set];by_cases e:h=j
 ·subst e;simp[hj]
 ·simp[e]
theorem AF0{ws:List (List Int)}{h:Nat}{n x:Int}{j:Nat}(hj:j<ws.length):x∈(O5 ws h n).getD j []↔x∈ws.getD j []\/(h=j/\n=x):=by
 unfold O5;split
 ·rename_i hn;refine⟨.inl,fun h'=>?_⟩;rcases h' with h'|⟨rfl,rfl⟩
  ·exact h'
  ·exact hn
 ·rw[AFZ _ _ _ _ hj];by_cases e:h=j
  ·subst e;rw[if_pos rfl,List.mem_append,bx];simp[eq_comm]
  ·rw[if_neg e];simp[e]
theorem nN:∀(t:List Int) {ws:List (List Int)} {h j:Nat} {x:Int} (_:j<ws.length),x∈(KK ws h t).getD j []↔x∈ws.getD j []\/∃i,i<t.length/\h+i=j/\t.getD i 0=x
 |[],ws,h,j,x,hj=>by simp[KK]
 |n::t,ws,h,j,x,hj=>by
  show x∈(KK (O5 ws h n) (h+1) t).getD j []↔_;rw[nN t (by rw[nK];exact hj),AF0 hj];constructor
  ·rintro ((h1|⟨h1,h2⟩)|⟨i,h1,h2,h3⟩)
   ·exact .inl h1
   ·exact .inr ⟨0,by simp,by omega,by simpa using h2⟩
   ·exact .inr ⟨i+1,by simpa using h1,by omega,by simpa using h3⟩
  ·rintro (h1|⟨i,h1,h2,h3⟩)
   ·exact .inl (.inl h1)
   ·cases i with
    |zero=>exact .inl (.inr ⟨by omega,by simpa using h3⟩)
    |succ i=>exact .inr ⟨i,by simpa using h1,by omega,by simpa using h3⟩
theorem nO:∀(T:List (List Int)) {ws:List (List Int)} {j:Nat} {x:Int} (_:j<ws.length),x∈(T.foldl (fun ws t=>KK ws 0 t) ws).getD j []↔x∈ws.getD j []\/∃t∈T,j<t.length/\t.getD j 0=x
 |[],ws,j,x,hj=>by simp
 |t::T,ws,j,x,hj=>by
  rw[List.foldl_cons,nO T (by rw[aI];exact hj),nN t hj];constructor
  ·rintro ((h1|⟨i,h1,h2,h3⟩)|⟨u,h1,h2⟩)
   ·exact .inl h1
   ·have:i=j:=by omega
    subst this;exact .inr ⟨t,by simp,h1,h3⟩
   ·exact .inr ⟨u,by simp[h1],h2⟩
  ·rintro (h1|⟨u,h1,h2,h3⟩)
   ·exact .inl (.inl h1)
   ·rcases List.mem_cons.1 h1 with rfl|h1
    ·exact .inl (.inr ⟨j,h2,by omega,h3⟩)
    ·exact .inr ⟨u,h1,h2,h3⟩
theorem xN{k:Nat}{T:List (List Int)}{j:Nat}{x:Int}(hj:j<k):x∈(eX k T).getD j []↔∃t∈T,j<t.length/\t.getD j 0=x:=by unfold eX;rw[nO T (by simpa using hj)];simp[bj,hj]
def jQ(ws:List (List Int)):Prop:=∀l∈ws,l.Nodup
theorem tD{ws:List (List Int)}(h:jQ ws)(k:Nat)(n:Int):jQ (O5 ws k n):=by
 unfold O5;split
 ·exact h
 ·rename_i hn;intro l hl;rcases Nat.lt_or_ge k ws.length with hk|hk
  ·rcases bw hl with h1|h1
   ·exact h l h1
   ·subst h1;have hm:ws.getD k []=ws[k]:=by rw[bj,bk hk];rfl
    rw[hm]at hn|-;rw[List.nodup_append];refine⟨h _ (bc hk),by simp,fun a ha b hb=>?_⟩;simp only[bx]at hb;subst hb;exact fun e=>hn (e▸ha)
  ·rw[List.set_eq_of_length_le hk]at hl;exact h l hl
theorem XN:∀(k:Nat) (l:List Int),l.Nodup->(∀x∈l,0<=x/\x<k)->l.length<=k
 |0,l,_,hx=>by
  cases l with
  |nil=>simp
  |cons x l=>have:=hx x (by simp);omega
 |k+1,l,hn,hx=>by
  have h1:(l.erase (k:Int)).length<=k:=XN k _ (hn.erase _) fun x hm=>by have hm1:=(hn.mem_erase_iff.1 hm);have:=hx x hm1.2;have:=hm1.1;omega
  rw[List.length_erase]at h1;split at h1<;>omega
structure DO(ws:List (List Int)):Prop where
 nd:jQ ws
 lo:∀l∈ws,∀x∈l,0<=x/\x<=3
theorem DO.len{ws:List (List Int)}(h:DO ws):∀l∈ws,l.length<=4:=fun l hl=>XN 4 l (h.nd l hl) fun x hx=>by have:=h.lo l hl x hx;omega
theorem DO.add{ws:List (List Int)}(h:DO ws)(k:Nat)(n:Int)(hn:0<=n/\n<=3):DO (O5 ws k n):=by
 refine⟨tD h.nd k n,fun l hl x hx=>?_⟩;unfold O5 at hl;split at hl
 ·exact h.lo l hl x hx
 ·rcases bw hl with h1|h1
  ·exact h.lo l h1 x hx
  ·subst h1;rcases List.mem_append.1 hx with hx|hx
   ·rcases Nat.lt_or_ge k ws.length with hk|hk
    ·have hm:ws.getD k []=ws[k]:=by rw[bj,bk hk];rfl
     rw[hm]at hx;exact h.lo _ (bc hk) x hx
    ·rw[bj,List.getElem?_eq_none hk]at hx;simp at hx
   ·rw[bx.1 hx];exact hn
theorem DO.adds:∀(t:List Int) {ws:List (List Int)} (_:DO ws) (k:Nat) (_:∀n∈t,0<=n/\n<=3),DO (KK ws k t)
 |[],_,h,_,_=>h
 |n::t,_,h,k,hn=>DO.adds t (h.add k n (hn n (by simp))) (k+1) fun x hx=>hn x (by simp[hx])
theorem DO.fold:∀(T:List (List Int)) {ws:List (List Int)} (_:DO ws) (_:∀t∈T,∀n∈t,0<=n/\n<=3),DO (T.foldl (fun ws t=>KK ws 0 t) ws)
 |[],_,h,_=>h
 |t::T,_,h,hT=>DO.fold T (h.adds t 0 (hT t (by simp))) fun u hu=>hT u (by simp[hu])
theorem DO.ask(k:Nat)(T:List (List Int))(hT:∀t∈T,∀n∈t,0<=n/\n<=3):DO (eX k T):=DO.fold T ⟨fun l hl=>by rw[bb hl];simp,fun l hl x hx=>by rw[bb hl]at hx;cases hx⟩ hT
theorem LK{b:AN}(hb:Valid b){t:List Int}(ht:A6 t b.winds=true):∀n∈t,0<=n/\n<=3:=fun n hn=>by obtain⟨j,hj,rfl⟩:=List.getElem_of_mem hn;have:=R6 hb ht hj;rw[bj,bk hj,C5]at this;exact this
theorem AU5{b:AN}(hb:Valid b){T:List (List Int)}(hT:∀t,t∈T↔DF b t=true)(hne:T≠[]){j:Nat}(hj:j<b.winds.length)(x:Int):x∈(eX b.winds.length T).getD j []↔x∈(aw b)[j]'(by rw[GZ];exact hj):=by
 rw[xN hj];constructor
 ·rintro ⟨t,ht,h1,rfl⟩;have:=F9 ((FJ hb).1 ((hT t).1 ht)) j h1 (by rw[GZ];exact hj);rwa [bj,bk h1]
 ·intro hx;obtain⟨t0,ht0⟩:=bq _ hne;have h0:=(FJ hb).1 ((hT t0).1 ht0);have hl:=CZ h0;have hjt:j<t0.length:=by rw[hl,GZ];exact hj
  refine⟨t0.set j x,(hT _).2 ((FJ hb).2 (MN (by simpa using hl) fun k h1 h2=>?_)),by simpa using hjt,by simp[bj,hjt]⟩;rw[List.getElem_set];by_cases e:j=k
  ·subst e;rw[if_pos rfl];exact hx
  ·rw[if_neg e];exact F9 h0 k (by simpa using h1) h2
def E0(f:Nat->Int):Nat->Int
 |0=>0
 |n+1=>E0 f n+f n
theorem FI{f g:Nat->Int}:∀{n:Nat},(∀i,i<n->f i=g i)->E0 f n=E0 g n
 |0,_=>rfl
 |n+1,h=>by simp only[E0];rw[FI (n:=n) fun i hi=>h i (by omega),h n (by omega)]
theorem M8{f:Nat->Int}{c:Int}:∀{n:Nat},(∀i,i<n->0<=f i/\f i<=c)->0<=E0 f n/\E0 f n<=n*c
 |0,_=>by simp[E0]
 |n+1,h=>by
  have h1:=M8 (n:=n) fun i hi=>h i (by omega);have h2:=h n (by omega);simp only[E0];have e:((n+1:Nat):Int)*c=(n:Int)*c+c:=by rw[Int.natCast_succ,Int.add_mul,Int.one_mul]
  omega
theorem WB(f:Nat->Int):∀(n h:Nat),WC f h n=E0 (fun i=>f (h+i)) n
 |0,_=>rfl
 |n+1,h=>by
  have e:∀(g:Nat->Int) (n:Nat),E0 g (n+1)=g 0+E0 (fun i=>g (i+1)) n:=by
   intro g n;induction n with
   |zero=>simp[E0]
   |succ n ih=>
    have:E0 g (n+1+1)=E0 g (n+1)+g (n+1):=rfl
    rw[this,ih]
    simp only[E0]
    omega
  rw[e];show f h+WC f (h+1) n=_;rw[WB f n (h+1)];congr 1;exact FI fun i _=>by congr 1;omega
theorem AF1(g:Nat->Int->Int):∀(t:List Int) (h:Nat),O8 g h t=WC (fun i=>g i (t.getD (i-h) 0)) h t.length
 |[],_=>rfl
 |x::t,h=>by show g h x+O8 g (h+1) t=g h ((x::t).getD (h-h) 0)+WC (fun i=>g i ((x::t).getD (i-h) 0)) (h+1) t.length;rw[Nat.sub_self,AF1 g t (h+1)];congr 1;rw[WB,WB];refine FI fun i _=>?_;rw[show h+1+i-(h+1)=i by omega,show h+1+i-h=i+1 by omega];rfl
theorem AMJ(g:Nat->Int->Int)(t:List Int):O8 g 0 t=E0 (fun h=>g h (t.getD h 0)) t.length:=by rw[AF1,WB];exact FI fun i _=>by simp
def DP(z:Int×Int)(l:List Int):Int×Int:=l.foldl (fun r n=>(min r.1 n,max r.2 n)) z
theorem YU:∀(l:List Int) (z:Int×Int),DP z l=(eZ z.1 l,fA z.2 l)
 |[],_=>rfl
 |n::l,z=>YU l (min z.1 n,max z.2 n)
theorem xO:∀(l:List Int) (z:Int×Int) (lo hi:Int),(∀x∈l,lo<=x/\x<=hi)->lo<=z.1->z.2<=hi->lo<=(DP z l).1/\(DP z l).1<=z.1/\z.2<=(DP z l).2/\(DP z l).2<=hi
 |[],z,lo,hi,_,h1,h2=>⟨h1,Int.le_refl _,Int.le_refl _,h2⟩
 |n::l,z,lo,hi,h,h1,h2=>by have hn:=h n (by simp);have:=xO l (min z.1 n,max z.2 n) lo hi (fun x hx=>h x (by simp[hx])) (by simp only;omega) (by simp only;omega);have e:DP z (n::l)=DP (min z.1 n,max z.2 n) l:=rfl;rw[e];simp only at this;omega
theorem JD.congr{α:Type}{l m:List α}{f:α->Int}{v:Int}(h:∀x,x∈l↔x∈m)(hm:JD l f v):JD m f v :=
 ⟨fun x hx=>hm.le x ((h x).2 hx),by obtain⟨x,h1,h2⟩:=hm.at';exact⟨x,(h x).1 h1,h2⟩⟩
theorem J1.congr{α:Type}{l m:List α}{f:α->Int}{v:Int}(h:∀x,x∈l↔x∈m)(hm:J1 l f v):J1 m f v :=
 ⟨fun x hx=>hm.le x ((h x).2 hx),by obtain⟨x,h1,h2⟩:=hm.at';exact⟨x,(h x).1 h1,h2⟩⟩
theorem JD.fun_congr{α:Type}{l:List α}{f g:α->Int}{v:Int}(h:∀x∈l,f x=g x)(hm:JD l f v):JD l g v :=
 ⟨fun x hx=>by rw[<-h x hx];exact hm.le x hx,by obtain⟨x,h1,h2⟩:=hm.at';exact⟨x,h1,by rw[<-h x h1];exact h2⟩⟩
theorem J1.fun_congr{α:Type}{l:List α}{f g:α->Int}{v:Int}(h:∀x∈l,f x=g x)(hm:J1 l f v):J1 l g v :=
 ⟨fun x hx=>by rw[<-h x hx];exact hm.le x hx,by obtain⟨x,h1,h2⟩:=hm.at';exact⟨x,h1,by rw[<-h x h1];exact h2⟩⟩
def AMK(z:Int×Int)(ws:List (List Int))(g:Nat->Int->Int)(n:Nat):Int×Int:=(E0 (fun h=>(DP z ((ws.getD h []).map (g h))).1) n,E0 (fun h=>(DP z ((ws.getD h []).map (g h))).2) n)
structure UJ(b:AN)(ws:List (List Int)):Prop where
 len:ws.length=b.winds.length
 ok:DO ws
 mem:∀j (hj:j<b.winds.length) (x:Int),x∈ws.getD j []↔x∈(aw b)[j]'(by rw[GZ];exact hj)
 ne:∀l∈aw b,l≠[]
theorem AF2{b:AN}(hb:Valid b){T:List (List Int)}(hT:∀t,t∈T↔DF b t=true)(hne:T≠[]):UJ b (eX b.winds.length T):=by
 refine⟨nM _ _,DO.ask _ _ fun t ht=>?_,fun j hj x=>AU5 hb hT hne hj x,?_⟩
 ·have:=(hT t).1 ht;simp only[DF,Bool.and_eq_true]at this;exact LK hb this.1
 ·refine(ABD hb).1 ?_;obtain⟨t,ht⟩:=bq _ hne;exact bz (E1.2 ((hT t).1 ht))
theorem UJ.row{b:AN}{ws:List (List Int)}(h:UJ b ws){j:Nat}(hj:j<b.winds.length):ws.getD j []≠[]:=by have h1:=h.ne _ (bc (by rw[GZ];exact hj:j<(aw b).length));obtain⟨x,hx⟩:=bq _ h1;exact bz ((h.mem j hj x).2 hx)
theorem AF3{b:AN}(hb:Valid b){ws:List (List Int)}(ha:UJ b ws)(z:Int×Int)(g:Nat->Int->Int)(hz:∀h n,g h n<=z.1):JD (BU b) (O8 g 0) (AMK z ws g b.winds.length).1:=by
 have:=AMN hb g (fun h=>(DP z ((ws.getD h []).map (g h))).1) fun j hj=>by rw[GZ]at hj;rw[YU];exact(xY (fun x _=>hz j x) (ha.row hj)).congr fun x=>ha.mem j hj x
 rw[WB]at this;simp only[Nat.zero_add]at this;exact this
theorem AF4{b:AN}(hb:Valid b){ws:List (List Int)}(ha:UJ b ws)(z:Int×Int)(g:Nat->Int->Int)(hz:∀h n,z.2<=g h n):J1 (BU b) (O8 g 0) (AMK z ws g b.winds.length).2:=by
 have:=AMO hb g (fun h=>(DP z ((ws.getD h []).map (g h))).2) fun j hj=>by rw[GZ]at hj;rw[YU];exact(xZ (fun x _=>hz j x) (ha.row hj)).congr fun x=>ha.mem j hj x
 rw[WB]at this;simp only[Nat.zero_add]at this;exact this
def aJ(b:Bool):Int:=if b=true then 1 else 0
theorem aK(b:Bool):0<=aJ b/\aJ b<=1:=by cases b<;>simp[aJ]
theorem AQ0(f:Nat->Bool):∀n,((mD f n:Nat):Int)=E0 (fun h=>aJ (f h)) n
 |0=>rfl
 |n+1=>by have ih:=AQ0 f n;simp only[mD,E0];rw[<-ih];unfold aJ;split<;>simp
def xP(b:AN)(s:Int×Int)(h:Nat)(f w:Int):Int:=aJ (decide (b.sun.getD h 0=f)&&UN b s f w)
def A8C(b:AN)(s:Int×Int)(f w:Int):Int:=aJ (UN b s f w)
theorem XO(b:AN)(plan:List (List Int))(t:List Int)(r p:Nat):(CJ b plan t r p).good=O8 (fun h w=>xP b (r,p) h (DC plan h r) w) 0 t:=by
 rw[AMJ];refine(AQ0 _ _).trans (FI fun h _=>?_);have:M9 b plan r h=decide (b.sun.getD h 0=DC plan h r):=by unfold M9;congr 1;exact propext eq_comm
 rw[this];rfl
def nP(b:AN)(h:Nat)(f:Nat->Int)(w:Int):Int:=E0 (fun r=>E0 (fun p=>xP b (r,p) h (f r) w) b.places.toNat) b.rows.toNat
def gJ(b:AN)(ws:List (List Int))(h:Nat)(f:Nat->Int):Int×Int:=DP (b.rows*b.places,0) ((ws.getD h []).map (nP b h f))
def AU6(b:AN)(ws plan:List (List Int)):Int×Int:=(E0 (fun h=>(gJ b ws h (DC plan h)).1) plan.length,E0 (fun h=>(gJ b ws h (DC plan h)).2) plan.length)
def aL(ws:List (List Int))(g:Nat->Int->Int):Int×Int:=AMK (1,0) ws g ws.length
theorem ABC{b:AN}(hb:Valid b){ws:List (List Int)}(ha:UJ b ws)(g:Nat->Int->Int)(hg:∀h n,0<=g h n/\g h n<=1):JD (BU b) (O8 g 0) (aL ws g).1/\J1 (BU b) (O8 g 0) (aL ws g).2:=by unfold aL;rw[ha.len];exact⟨AF3 hb ha (1,0) g fun h n=>(hg h n).2,AF4 hb ha (1,0) g fun h n=>(hg h n).1⟩
def DQ:Int×Int:=(1099511627776,-1)
def xQ(b:AN)(plan:List (List Int))(r p:Nat):Int×Int:=DP DQ ((BU b).map fun t=>(CJ b plan t r p).good)
theorem UK{b:AN}{t:List Int}(h:t∈BU b):A6 t b.winds=true:=by have:=E1.1 h;simp only[DF,Bool.and_eq_true]at this;exact this.1
theorem gK{b:AN}(hb:Valid b){t:List Int}(h:t∈BU b):t.length<=5:=by have:=CZ (UK h);have:=hb.hl;omega
theorem gL(b:AN)(plan:List (List Int))(t:List Int)(r p:Nat):0<=(CJ b plan t r p).sun/\(CJ b plan t r p).sun<=t.length/\0<=(CJ b plan t r p).calm/\(CJ b plan t r p).calm<=t.length/\0<=(CJ b plan t r p).good/\(CJ b plan t r p).good<=t.length:=by have h1:=O7 (M9 b plan r) t.length;have h2:=O7 (aO b plan t r p) t.length;have h3:=O7 (fun h=>M9 b plan r h&&aO b plan t r p h) t.length;simp only[CJ,IY];omega
theorem AU7{α:Type}{l:List α}{f:α->Int}{m n:Int}(h1:JD l f m)(h2:J1 l f n)(hf:∀x∈l,0<=f x/\f x<=1000):DP DQ (l.map f)=(m,n):=by
 have hne:l≠[]:=by obtain⟨x,hx,_⟩:=h1.at';exact bz hx
 rw[YU];have e1:=(xY (z:=DQ.1) (fun x hx=>by have:=hf x hx;simp only[DQ];omega) hne).uniq h1;have e2:=(xZ (z:=DQ.2) (fun x hx=>by have:=hf x hx;simp only[DQ];omega) hne).uniq h2;rw[e1,e2]
def nQ(b:AN)(ws plan:List (List Int))(r p:Nat):Int×Int:=aL ws fun h w=>A8C b (r,p) (DC plan h r) w
def XP(b:AN)(ws plan:List (List Int))(r p:Nat):Int×Int:=aL ws fun h w=>xP b (r,p) h (DC plan h r) w
theorem nR{b:AN}(hb:Valid b){ws:List (List Int)}(ha:UJ b ws)(plan:List (List Int))(r p:Nat):JD (BU b) (fun t=>(CJ b plan t r p).good) (XP b ws plan r p).1/\J1 (BU b) (fun t=>(CJ b plan t r p).good) (XP b ws plan r p).2:=by obtain⟨h1,h2⟩:=ABC hb ha (fun h w=>xP b (r,p) h (DC plan h r) w) fun h n=>aK _;exact⟨h1.fun_congr fun t _=>(XO b plan t r p).symm,h2.fun_congr fun t _=>(XO b plan t r p).symm⟩
theorem R4{b:AN}(hb:Valid b){ws:List (List Int)}(ha:UJ b ws)(plan:List (List Int))(r p:Nat):xQ b plan r p=XP b ws plan r p:=by obtain⟨h1,h2⟩:=nR hb ha plan r p;exact AU7 h1 h2 fun t ht=>by have:=gL b plan t r p;have:=gK hb ht;omega
def MM(b:AN)(plan:List (List Int))(r n:Nat):Int:=((mD (M9 b plan r) n:Nat):Int)
def A8D(g:List Int):Nat->Int:=fun r=>g.getD r 0
def AF5(b:AN)(ws:List (List Int))(h:Nat)(g:List Int):Int:=(gJ b ws h (A8D g)).1
def AML(b:AN)(ws:List (List Int)):Nat->List (List Int)->Int
 |_,[]=>0
 |h,g::gs=>AF5 b ws h g+AML b ws (h+1) gs
theorem aM(g:Nat->Int):∀n,E0 g (n+1)=g 0+E0 (fun i=>g (i+1)) n
 |0=>by simp[E0]
 |n+1=>by have:E0 g (n+1+1)=E0 g (n+1)+g (n+1):=rfl;rw[this,aM g n];simp only[E0];omega
theorem AF6(b:AN)(ws:List (List Int)):∀(gs:List (List Int)) (h:Nat),AML b ws h gs=E0 (fun i=>AF5 b ws (h+i) (gs.getD i [])) gs.length
 |[],_=>rfl
 |g::gs,h=>by rw[List.length_cons,aM];show AF5 b ws h g+AML b ws (h+1) gs=_;rw[AF6 b ws gs (h+1)];congr 1;exact FI fun i _=>by rw[show h+1+i=h+(i+1) by omega];rfl
theorem nS{b:AN}{h:Nat}{f g:Nat->Int}(hfg:∀r,r<b.rows.toNat->f r=g r)(w:Int):nP b h f w=nP b h g w :=
 FI fun r hr=>by rw[hfg r hr]
theorem nT{b:AN}{ws:List (List Int)}{h:Nat}{f g:Nat->Int}(hfg:∀r,r<b.rows.toNat->f r=g r):gJ b ws h f=gJ b ws h g:=by unfold gJ;rw[show nP b h f=nP b h g from funext fun w=>nS hfg w]
def A8E(b:AN)(plan gs:List (List Int)):Prop:=plan.length=gs.length/\∀h,h<plan.length->∀r,r<b.rows.toNat->DC plan h r=A8D (gs.getD h []) r
theorem fX{b:AN}{ws plan gs:List (List Int)}(h:A8E b plan gs):(AU6 b ws plan).1=AML b ws 0 gs:=by rw[AF6,<-h.1];refine FI fun i hi=>?_;rw[Nat.zero_add];exact congrArg Prod.fst (nT fun r hr=>h.2 i hi r hr)
end Go.Wind
