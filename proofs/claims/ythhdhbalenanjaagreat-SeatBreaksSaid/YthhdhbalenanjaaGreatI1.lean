/- The winds that the truths of a beach have, hour by hour. No condition; no program in sight. -/
import Derived.Test.YthhdhbalenanjaaGreatL
open List renaming getD_eq_getElem?_getD->bj,getElem?_eq_getElem->bk,exists_mem_of_ne_nil->bq,mem_or_eq_of_mem_set->bw,mem_singleton->bx,ne_nil_of_mem->bz,eq_of_mem_replicate->bb,getElem_mem->bc
namespace Go.Wind
def O6(ws:List (List Int))(h:Nat)(n:Int):List (List Int):=if n∈ws.getD h [] then ws else ws.set h (ws.getD h []++[n])
def KE:List (List Int)->Nat->List Int->List (List Int)
 |ws,_,[]=>ws
 |ws,h,n::t=>KE (O6 ws h n) (h+1) t
def fC(k:Nat)(T:List (List Int)):List (List Int):=T.foldl (fun ws t=>KE ws 0 t) (List.replicate k [])
theorem nR(ws:List (List Int))(h:Nat)(n:Int):(O6 ws h n).length=ws.length:=by unfold O6;split<;>simp
theorem bB:∀(t:List Int) (ws:List (List Int)) (h:Nat),(KE ws h t).length=ws.length
 |[],_,_=>rfl
 |n::t,ws,h=>(bB t (O6 ws h n) (h+1)).trans (nR ws h n)
theorem nS:∀(T:List (List Int)) (ws:List (List Int)),(T.foldl (fun ws t=>KE ws 0 t) ws).length=ws.length
 |[],_=>rfl
 |t::T,ws=>(nS T (KE ws 0 t)).trans (bB t ws 0)
theorem nT(k:Nat)(T:List (List Int)):(fC k T).length=k:=by unfold fC;rw[nS];simp
theorem AGF(ws:List (List Int))(h:Nat)(l:List Int)(j:Nat)(hj:j<ws.length):(ws.set h l).getD j []=if h=j then l else ws.getD j []:=by
 simp only[bj,List.getElem?_set];by_cases e:h=j
 ·subst e;simp[hj]
 ·simp[e]
theorem AGG{ws:List (List Int)}{h:Nat}{n x:Int}{j:Nat}(hj:j<ws.length):x∈(O6 ws h n).getD j []↔x∈ws.getD j []\/(h=j/\n=x):=by
 unfold O6;split
 ·rename_i hn;refine⟨.inl,fun h'=>?_⟩;rcases h' with h'|⟨rfl,rfl⟩
  ·exact h'
  ·exact hn
 ·rw[AGF _ _ _ _ hj];by_cases e:h=j
  ·subst e;rw[if_pos rfl,List.mem_append,bx];simp[eq_comm]
  ·rw[if_neg e];simp[e]
theorem nU:∀(t:List Int) {ws:List (List Int)} {h j:Nat} {x:Int} (_:j<ws.length),x∈(KE ws h t).getD j []↔x∈ws.getD j []\/∃i,i<t.length/\h+i=j/\t.getD i 0=x
 |[],ws,h,j,x,hj=>by simp[KE]
 |n::t,ws,h,j,x,hj=>by
  show x∈(KE (O6 ws h n) (h+1) t).getD j []↔_;rw[nU t (by rw[nR];exact hj),AGG hj];constructor
  ·rintro ((h1|⟨h1,h2⟩)|⟨i,h1,h2,h3⟩)
   ·exact .inl h1
   ·exact .inr ⟨0,by simp,by omega,by simpa using h2⟩
   ·exact .inr ⟨i+1,by simpa using h1,by omega,by simpa using h3⟩
  ·rintro (h1|⟨i,h1,h2,h3⟩)
   ·exact .inl (.inl h1)
   ·cases i with
    |zero=>exact .inl (.inr ⟨by omega,by simpa using h3⟩)
    |succ i=>exact .inr ⟨i,by simpa using h1,by omega,by simpa using h3⟩
theorem nV:∀(T:List (List Int)) {ws:List (List Int)} {j:Nat} {x:Int} (_:j<ws.length),x∈(T.foldl (fun ws t=>KE ws 0 t) ws).getD j []↔x∈ws.getD j []\/∃t∈T,j<t.length/\t.getD j 0=x
 |[],ws,j,x,hj=>by simp
 |t::T,ws,j,x,hj=>by
  rw[List.foldl_cons,nV T (by rw[bB];exact hj),nU t hj];constructor
  ·rintro ((h1|⟨i,h1,h2,h3⟩)|⟨u,h1,h2⟩)
   ·exact .inl h1
   ·have:i=j:=by omega
    subst this;exact .inr ⟨t,by simp,h1,h3⟩
   ·exact .inr ⟨u,by simp[h1],h2⟩
  ·rintro (h1|⟨u,h1,h2,h3⟩)
   ·exact .inl (.inl h1)
   ·rcases List.mem_cons.1 h1 with rfl|h1
    ·exact .inl (.inr ⟨j,h2,by omega,h3⟩)
    ·exact .inr ⟨u,h1,h2,h3⟩
theorem xW{k:Nat}{T:List (List Int)}{j:Nat}{x:Int}(hj:j<k):x∈(fC k T).getD j []↔∃t∈T,j<t.length/\t.getD j 0=x:=by unfold fC;rw[nV T (by simpa using hj)];simp[bj,hj]
def kD(ws:List (List Int)):Prop:=∀l∈ws,l.Nodup
theorem tO{ws:List (List Int)}(h:kD ws)(k:Nat)(n:Int):kD (O6 ws k n):=by
 unfold O6;split
 ·exact h
 ·rename_i hn;intro l hl;rcases Nat.lt_or_ge k ws.length with hk|hk
  ·rcases bw hl with h1|h1
   ·exact h l h1
   ·subst h1;have hm:ws.getD k []=ws[k]:=by rw[bj,bk hk];rfl
    rw[hm]at hn|-;rw[List.nodup_append];refine⟨h _ (bc hk),by simp,fun a ha b hb=>?_⟩;simp only[bx]at hb;subst hb;exact fun e=>hn (e▸ha)
  ·rw[List.set_eq_of_length_le hk]at hl;exact h l hl
theorem XW:∀(k:Nat) (l:List Int),l.Nodup->(∀x∈l,0<=x/\x<k)->l.length<=k
 |0,l,_,hx=>by
  cases l with
  |nil=>simp
  |cons x l=>have:=hx x (by simp);omega
 |k+1,l,hn,hx=>by
  have h1:(l.erase (k:Int)).length<=k:=XW k _ (hn.erase _) fun x hm=>by have hm1:=(hn.mem_erase_iff.1 hm);have:=hx x hm1.2;have:=hm1.1;omega
  rw[List.length_erase]at h1;split at h1<;>omega
structure DL(ws:List (List Int)):Prop where
 nd:kD ws
 lo:∀l∈ws,∀x∈l,0<=x/\x<=3
theorem DL.len{ws:List (List Int)}(h:DL ws):∀l∈ws,l.length<=4:=fun l hl=>XW 4 l (h.nd l hl) fun x hx=>by have:=h.lo l hl x hx;omega
theorem DL.add{ws:List (List Int)}(h:DL ws)(k:Nat)(n:Int)(hn:0<=n/\n<=3):DL (O6 ws k n):=by
 refine⟨tO h.nd k n,fun l hl x hx=>?_⟩;unfold O6 at hl;split at hl
 ·exact h.lo l hl x hx
 ·rcases bw hl with h1|h1
  ·exact h.lo l h1 x hx
  ·subst h1;rcases List.mem_append.1 hx with hx|hx
   ·rcases Nat.lt_or_ge k ws.length with hk|hk
    ·have hm:ws.getD k []=ws[k]:=by rw[bj,bk hk];rfl
     rw[hm]at hx;exact h.lo _ (bc hk) x hx
    ·rw[bj,List.getElem?_eq_none hk]at hx;simp at hx
   ·rw[bx.1 hx];exact hn
theorem DL.adds:∀(t:List Int) {ws:List (List Int)} (_:DL ws) (k:Nat) (_:∀n∈t,0<=n/\n<=3),DL (KE ws k t)
 |[],_,h,_,_=>h
 |n::t,_,h,k,hn=>DL.adds t (h.add k n (hn n (by simp))) (k+1) fun x hx=>hn x (by simp[hx])
theorem DL.fold:∀(T:List (List Int)) {ws:List (List Int)} (_:DL ws) (_:∀t∈T,∀n∈t,0<=n/\n<=3),DL (T.foldl (fun ws t=>KE ws 0 t) ws)
 |[],_,h,_=>h
 |t::T,_,h,hT=>DL.fold T (h.adds t 0 (hT t (by simp))) fun u hu=>hT u (by simp[hu])
theorem DL.ask(k:Nat)(T:List (List Int))(hT:∀t∈T,∀n∈t,0<=n/\n<=3):DL (fC k T):=DL.fold T ⟨fun l hl=>by rw[bb hl];simp,fun l hl x hx=>by rw[bb hl]at hx;cases hx⟩ hT
theorem K4{b:AK}(hb:Valid b){t:List Int}(ht:A2 t b.winds=true):∀n∈t,0<=n/\n<=3:=fun n hn=>by obtain⟨j,hj,rfl⟩:=List.getElem_of_mem hn;have:=R3 hb ht hj;rw[bj,bk hj,C6]at this;exact this
theorem AU3{b:AK}(hb:Valid b){T:List (List Int)}(hT:∀t,t∈T↔DA b t=true)(hne:T≠[]){j:Nat}(hj:j<b.winds.length)(x:Int):x∈(fC b.winds.length T).getD j []↔x∈(aw b)[j]'(by rw[GV];exact hj):=by
 rw[xW hj];constructor
 ·rintro ⟨t,ht,h1,rfl⟩;have:=F2 ((FC hb).1 ((hT t).1 ht)) j h1 (by rw[GV];exact hj);rwa [bj,bk h1]
 ·intro hx;obtain⟨t0,ht0⟩:=bq _ hne;have h0:=(FC hb).1 ((hT t0).1 ht0);have hl:=CX h0;have hjt:j<t0.length:=by rw[hl,GV];exact hj
  refine⟨t0.set j x,(hT _).2 ((FC hb).2 (ML (by simpa using hl) fun k h1 h2=>?_)),by simpa using hjt,by simp[bj,hjt]⟩;rw[List.getElem_set];by_cases e:j=k
  ·subst e;rw[if_pos rfl];exact hx
  ·rw[if_neg e];exact F2 h0 k (by simpa using h1) h2
def EX(f:Nat->Int):Nat->Int
 |0=>0
 |n+1=>EX f n+f n
theorem FB{f g:Nat->Int}:∀{n:Nat},(∀i,i<n->f i=g i)->EX f n=EX g n
 |0,_=>rfl
 |n+1,h=>by simp only[EX];rw[FB (n:=n) fun i hi=>h i (by omega),h n (by omega)]
theorem M7{f:Nat->Int}{c:Int}:∀{n:Nat},(∀i,i<n->0<=f i/\f i<=c)->0<=EX f n/\EX f n<=n*c
 |0,_=>by simp[EX]
 |n+1,h=>by
  have h1:=M7 (n:=n) fun i hi=>h i (by omega);have h2:=h n (by omega);simp only[EX];have e:((n+1:Nat):Int)*c=(n:Int)*c+c:=by rw[Int.natCast_succ,Int.add_mul,Int.one_mul]
  omega
theorem WJ(f:Nat->Int):∀(n h:Nat),WK f h n=EX (fun i=>f (h+i)) n
 |0,_=>rfl
 |n+1,h=>by
  have e:∀(g:Nat->Int) (n:Nat),EX g (n+1)=g 0+EX (fun i=>g (i+1)) n:=by
   intro g n;induction n with
   |zero=>simp[EX]
   |succ n ih=>
    have:EX g (n+1+1)=EX g (n+1)+g (n+1):=rfl
    rw[this,ih]
    simp only[EX]
    omega
  rw[e];show f h+WK f (h+1) n=_;rw[WJ f n (h+1)];congr 1;exact FB fun i _=>by congr 1;omega
theorem AGH(g:Nat->Int->Int):∀(t:List Int) (h:Nat),O8 g h t=WK (fun i=>g i (t.getD (i-h) 0)) h t.length
 |[],_=>rfl
 |x::t,h=>by show g h x+O8 g (h+1) t=g h ((x::t).getD (h-h) 0)+WK (fun i=>g i ((x::t).getD (i-h) 0)) (h+1) t.length;rw[Nat.sub_self,AGH g t (h+1)];congr 1;rw[WJ,WJ];refine FB fun i _=>?_;rw[show h+1+i-(h+1)=i by omega,show h+1+i-h=i+1 by omega];rfl
theorem AM2(g:Nat->Int->Int)(t:List Int):O8 g 0 t=EX (fun h=>g h (t.getD h 0)) t.length:=by rw[AGH,WJ];exact FB fun i _=>by simp
def DM(z:Int×Int)(l:List Int):Int×Int:=l.foldl (fun r n=>(min r.1 n,max r.2 n)) z
theorem Y9:∀(l:List Int) (z:Int×Int),DM z l=(fE z.1 l,fF z.2 l)
 |[],_=>rfl
 |n::l,z=>Y9 l (min z.1 n,max z.2 n)
theorem xX:∀(l:List Int) (z:Int×Int) (lo hi:Int),(∀x∈l,lo<=x/\x<=hi)->lo<=z.1->z.2<=hi->lo<=(DM z l).1/\(DM z l).1<=z.1/\z.2<=(DM z l).2/\(DM z l).2<=hi
 |[],z,lo,hi,_,h1,h2=>⟨h1,Int.le_refl _,Int.le_refl _,h2⟩
 |n::l,z,lo,hi,h,h1,h2=>by have hn:=h n (by simp);have:=xX l (min z.1 n,max z.2 n) lo hi (fun x hx=>h x (by simp[hx])) (by simp only;omega) (by simp only;omega);have e:DM z (n::l)=DM (min z.1 n,max z.2 n) l:=rfl;rw[e];simp only at this;omega
theorem I8.congr{α:Type}{l m:List α}{f:α->Int}{v:Int}(h:∀x,x∈l↔x∈m)(hm:I8 l f v):I8 m f v :=
 ⟨fun x hx=>hm.le x ((h x).2 hx),by obtain⟨x,h1,h2⟩:=hm.at';exact⟨x,(h x).1 h1,h2⟩⟩
theorem JW.congr{α:Type}{l m:List α}{f:α->Int}{v:Int}(h:∀x,x∈l↔x∈m)(hm:JW l f v):JW m f v :=
 ⟨fun x hx=>hm.le x ((h x).2 hx),by obtain⟨x,h1,h2⟩:=hm.at';exact⟨x,(h x).1 h1,h2⟩⟩
theorem I8.fun_congr{α:Type}{l:List α}{f g:α->Int}{v:Int}(h:∀x∈l,f x=g x)(hm:I8 l f v):I8 l g v :=
 ⟨fun x hx=>by rw[<-h x hx];exact hm.le x hx,by obtain⟨x,h1,h2⟩:=hm.at';exact⟨x,h1,by rw[<-h x h1];exact h2⟩⟩
theorem JW.fun_congr{α:Type}{l:List α}{f g:α->Int}{v:Int}(h:∀x∈l,f x=g x)(hm:JW l f v):JW l g v :=
 ⟨fun x hx=>by rw[<-h x hx];exact hm.le x hx,by obtain⟨x,h1,h2⟩:=hm.at';exact⟨x,h1,by rw[<-h x h1];exact h2⟩⟩
def AM3(z:Int×Int)(ws:List (List Int))(g:Nat->Int->Int)(n:Nat):Int×Int:=(EX (fun h=>(DM z ((ws.getD h []).map (g h))).1) n,EX (fun h=>(DM z ((ws.getD h []).map (g h))).2) n)
structure UJ(b:AK)(ws:List (List Int)):Prop where
 len:ws.length=b.winds.length
 ok:DL ws
 mem:∀j (hj:j<b.winds.length) (x:Int),x∈ws.getD j []↔x∈(aw b)[j]'(by rw[GV];exact hj)
 ne:∀l∈aw b,l≠[]
theorem AGI{b:AK}(hb:Valid b){T:List (List Int)}(hT:∀t,t∈T↔DA b t=true)(hne:T≠[]):UJ b (fC b.winds.length T):=by
 refine⟨nT _ _,DL.ask _ _ fun t ht=>?_,fun j hj x=>AU3 hb hT hne hj x,?_⟩
 ·have:=(hT t).1 ht;simp only[DA,Bool.and_eq_true]at this;exact K4 hb this.1
 ·refine(ABM hb).1 ?_;obtain⟨t,ht⟩:=bq _ hne;exact bz (EY.2 ((hT t).1 ht))
theorem UJ.row{b:AK}{ws:List (List Int)}(h:UJ b ws){j:Nat}(hj:j<b.winds.length):ws.getD j []≠[]:=by have h1:=h.ne _ (bc (by rw[GV];exact hj:j<(aw b).length));obtain⟨x,hx⟩:=bq _ h1;exact bz ((h.mem j hj x).2 hx)
theorem AGJ{b:AK}(hb:Valid b){ws:List (List Int)}(ha:UJ b ws)(z:Int×Int)(g:Nat->Int->Int)(hz:∀h n,g h n<=z.1):I8 (BK b) (O8 g 0) (AM3 z ws g b.winds.length).1:=by
 have:=AM6 hb g (fun h=>(DM z ((ws.getD h []).map (g h))).1) fun j hj=>by rw[GV]at hj;rw[Y9];exact(yH (fun x _=>hz j x) (ha.row hj)).congr fun x=>ha.mem j hj x
 rw[WJ]at this;simp only[Nat.zero_add]at this;exact this
theorem AGK{b:AK}(hb:Valid b){ws:List (List Int)}(ha:UJ b ws)(z:Int×Int)(g:Nat->Int->Int)(hz:∀h n,z.2<=g h n):JW (BK b) (O8 g 0) (AM3 z ws g b.winds.length).2:=by
 have:=AM7 hb g (fun h=>(DM z ((ws.getD h []).map (g h))).2) fun j hj=>by rw[GV]at hj;rw[Y9];exact(yI (fun x _=>hz j x) (ha.row hj)).congr fun x=>ha.mem j hj x
 rw[WJ]at this;simp only[Nat.zero_add]at this;exact this
def bC(b:Bool):Int:=if b=true then 1 else 0
theorem bD(b:Bool):0<=bC b/\bC b<=1:=by cases b<;>simp[bC]
theorem ARC(f:Nat->Bool):∀n,((mP f n:Nat):Int)=EX (fun h=>bC (f h)) n
 |0=>rfl
 |n+1=>by have ih:=ARC f n;simp only[mP,EX];rw[<-ih];unfold bC;split<;>simp
def xY(b:AK)(s:Int×Int)(h:Nat)(f w:Int):Int:=bC (decide (b.sun.getD h 0=f)&&UN b s f w)
def A6X(b:AK)(s:Int×Int)(f w:Int):Int:=bC (UN b s f w)
theorem XX(b:AK)(plan:List (List Int))(t:List Int)(r p:Nat):(CG b plan t r p).good=O8 (fun h w=>xY b (r,p) h (C7 plan h r) w) 0 t:=by
 rw[AM2];refine(ARC _ _).trans (FB fun h _=>?_);have:M8 b plan r h=decide (b.sun.getD h 0=C7 plan h r):=by unfold M8;congr 1;exact propext eq_comm
 rw[this];rfl
def nW(b:AK)(h:Nat)(f:Nat->Int)(w:Int):Int:=EX (fun r=>EX (fun p=>xY b (r,p) h (f r) w) b.places.toNat) b.rows.toNat
def gU(b:AK)(ws:List (List Int))(h:Nat)(f:Nat->Int):Int×Int:=DM (b.rows*b.places,0) ((ws.getD h []).map (nW b h f))
def AU4(b:AK)(ws plan:List (List Int)):Int×Int:=(EX (fun h=>(gU b ws h (C7 plan h)).1) plan.length,EX (fun h=>(gU b ws h (C7 plan h)).2) plan.length)
def bE(ws:List (List Int))(g:Nat->Int->Int):Int×Int:=AM3 (1,0) ws g ws.length
theorem ABL{b:AK}(hb:Valid b){ws:List (List Int)}(ha:UJ b ws)(g:Nat->Int->Int)(hg:∀h n,0<=g h n/\g h n<=1):I8 (BK b) (O8 g 0) (bE ws g).1/\JW (BK b) (O8 g 0) (bE ws g).2:=by unfold bE;rw[ha.len];exact⟨AGJ hb ha (1,0) g fun h n=>(hg h n).2,AGK hb ha (1,0) g fun h n=>(hg h n).1⟩
def DN:Int×Int:=(1099511627776,-1)
def xZ(b:AK)(plan:List (List Int))(r p:Nat):Int×Int:=DM DN ((BK b).map fun t=>(CG b plan t r p).good)
theorem UK{b:AK}{t:List Int}(h:t∈BK b):A2 t b.winds=true:=by have:=EY.1 h;simp only[DA,Bool.and_eq_true]at this;exact this.1
theorem gV{b:AK}(hb:Valid b){t:List Int}(h:t∈BK b):t.length<=5:=by have:=CX (UK h);have:=hb.hl;omega
theorem gW(b:AK)(plan:List (List Int))(t:List Int)(r p:Nat):0<=(CG b plan t r p).sun/\(CG b plan t r p).sun<=t.length/\0<=(CG b plan t r p).calm/\(CG b plan t r p).calm<=t.length/\0<=(CG b plan t r p).good/\(CG b plan t r p).good<=t.length:=by have h1:=O7 (M8 b plan r) t.length;have h2:=O7 (bH b plan t r p) t.length;have h3:=O7 (fun h=>M8 b plan r h&&bH b plan t r p h) t.length;simp only[CG,IM];omega
theorem AU5{α:Type}{l:List α}{f:α->Int}{m n:Int}(h1:I8 l f m)(h2:JW l f n)(hf:∀x∈l,0<=f x/\f x<=1000):DM DN (l.map f)=(m,n):=by
 have hne:l≠[]:=by obtain⟨x,hx,_⟩:=h1.at';exact bz hx
 rw[Y9];have e1:=(yH (z:=DN.1) (fun x hx=>by have:=hf x hx;simp only[DN];omega) hne).uniq h1;have e2:=(yI (z:=DN.2) (fun x hx=>by have:=hf x hx;simp only[DN];omega) hne).uniq h2;rw[e1,e2]
def nX(b:AK)(ws plan:List (List Int))(r p:Nat):Int×Int:=bE ws fun h w=>A6X b (r,p) (C7 plan h r) w
def XY(b:AK)(ws plan:List (List Int))(r p:Nat):Int×Int:=bE ws fun h w=>xY b (r,p) h (C7 plan h r) w
theorem nY{b:AK}(hb:Valid b){ws:List (List Int)}(ha:UJ b ws)(plan:List (List Int))(r p:Nat):I8 (BK b) (fun t=>(CG b plan t r p).good) (XY b ws plan r p).1/\JW (BK b) (fun t=>(CG b plan t r p).good) (XY b ws plan r p).2:=by obtain⟨h1,h2⟩:=ABL hb ha (fun h w=>xY b (r,p) h (C7 plan h r) w) fun h n=>bD _;exact⟨h1.fun_congr fun t _=>(XX b plan t r p).symm,h2.fun_congr fun t _=>(XX b plan t r p).symm⟩
theorem RY{b:AK}(hb:Valid b){ws:List (List Int)}(ha:UJ b ws)(plan:List (List Int))(r p:Nat):xZ b plan r p=XY b ws plan r p:=by obtain⟨h1,h2⟩:=nY hb ha plan r p;exact AU5 h1 h2 fun t ht=>by have:=gW b plan t r p;have:=gV hb ht;omega
def MJ(b:AK)(plan:List (List Int))(r n:Nat):Int:=((mP (M8 b plan r) n:Nat):Int)
def A6Y(g:List Int):Nat->Int:=fun r=>g.getD r 0
def AGL(b:AK)(ws:List (List Int))(h:Nat)(g:List Int):Int:=(gU b ws h (A6Y g)).1
def AM4(b:AK)(ws:List (List Int)):Nat->List (List Int)->Int
 |_,[]=>0
 |h,g::gs=>AGL b ws h g+AM4 b ws (h+1) gs
theorem bF(g:Nat->Int):∀n,EX g (n+1)=g 0+EX (fun i=>g (i+1)) n
 |0=>by simp[EX]
 |n+1=>by have:EX g (n+1+1)=EX g (n+1)+g (n+1):=rfl;rw[this,bF g n];simp only[EX];omega
theorem AGM(b:AK)(ws:List (List Int)):∀(gs:List (List Int)) (h:Nat),AM4 b ws h gs=EX (fun i=>AGL b ws (h+i) (gs.getD i [])) gs.length
 |[],_=>rfl
 |g::gs,h=>by rw[List.length_cons,bF];show AGL b ws h g+AM4 b ws (h+1) gs=_;rw[AGM b ws gs (h+1)];congr 1;exact FB fun i _=>by rw[show h+1+i=h+(i+1) by omega];rfl
theorem nZ{b:AK}{h:Nat}{f g:Nat->Int}(hfg:∀r,r<b.rows.toNat->f r=g r)(w:Int):nW b h f w=nW b h g w :=
 FB fun r hr=>by rw[hfg r hr]
theorem oA{b:AK}{ws:List (List Int)}{h:Nat}{f g:Nat->Int}(hfg:∀r,r<b.rows.toNat->f r=g r):gU b ws h f=gU b ws h g:=by unfold gU;rw[show nW b h f=nW b h g from funext fun w=>nZ hfg w]
def A6Z(b:AK)(plan gs:List (List Int)):Prop:=plan.length=gs.length/\∀h,h<plan.length->∀r,r<b.rows.toNat->C7 plan h r=A6Y (gs.getD h []) r
theorem gD{b:AK}{ws plan gs:List (List Int)}(h:A6Z b plan gs):(AU4 b ws plan).1=AM4 b ws 0 gs:=by rw[AGM,<-h.1];refine FB fun i hi=>?_;rw[Nat.zero_add];exact congrArg Prod.fst (oA fun r hr=>h.2 i hi r hr)
end Go.Wind
