/- The winds that the truths of a beach have, hour by hour. No condition; no program in sight. -/
import Derived.Test.YthhdhbalenanjaaGreatL
open List renaming getD_eq_getElem?_getD->bj,getElem?_eq_getElem->bk,exists_mem_of_ne_nil->bq,mem_or_eq_of_mem_set->bw,mem_singleton->bx,ne_nil_of_mem->bz,eq_of_mem_replicate->bb,getElem_mem->bc
namespace Go.Wind
def OL(ws:List (List Int))(h:Nat)(n:Int):List (List Int):=if n∈ws.getD h [] then ws else ws.set h (ws.getD h []++[n])
def J9:List (List Int)->Nat->List Int->List (List Int)
 |ws,_,[]=>ws
 |ws,h,n::t=>J9 (OL ws h n) (h+1) t
def cY(k:Nat)(T:List (List Int)):List (List Int):=T.foldl (fun ws t=>J9 ws 0 t) (List.replicate k [])
theorem lE(ws:List (List Int))(h:Nat)(n:Int):(OL ws h n).length=ws.length:=by unfold OL;split<;>simp
theorem ZF:∀(t:List Int) (ws:List (List Int)) (h:Nat),(J9 ws h t).length=ws.length
 |[],_,_=>rfl
 |n::t,ws,h=>(ZF t (OL ws h n) (h+1)).trans (lE ws h n)
theorem lF:∀(T:List (List Int)) (ws:List (List Int)),(T.foldl (fun ws t=>J9 ws 0 t) ws).length=ws.length
 |[],_=>rfl
 |t::T,ws=>(lF T (J9 ws 0 t)).trans (ZF t ws 0)
theorem lG(k:Nat)(T:List (List Int)):(cY k T).length=k:=by unfold cY;rw[lF];simp
theorem AET(ws:List (List Int))(h:Nat)(l:List Int)(j:Nat)(hj:j<ws.length):(ws.set h l).getD j []=if h=j then l else ws.getD j []:=by
 simp only[bj,List.getElem?_set];by_cases e:h=j
 ·subst e;simp[hj]
 ·simp[e]
theorem AEU{ws:List (List Int)}{h:Nat}{n x:Int}{j:Nat}(hj:j<ws.length):x∈(OL ws h n).getD j []↔x∈ws.getD j []\/(h=j/\n=x):=by
 unfold OL;split
 ·rename_i hn;refine⟨.inl,fun h'=>?_⟩;rcases h' with h'|⟨rfl,rfl⟩
  ·exact h'
  ·exact hn
 ·rw[AET _ _ _ _ hj];by_cases e:h=j
  ·subst e;rw[if_pos rfl,List.mem_append,bx];simp[eq_comm]
  ·rw[if_neg e];simp[e]
theorem lH:∀(t:List Int) {ws:List (List Int)} {h j:Nat} {x:Int} (_:j<ws.length),x∈(J9 ws h t).getD j []↔x∈ws.getD j []\/∃i,i<t.length/\h+i=j/\t.getD i 0=x
 |[],ws,h,j,x,hj=>by simp[J9]
 |n::t,ws,h,j,x,hj=>by
  show x∈(J9 (OL ws h n) (h+1) t).getD j []↔_;rw[lH t (by rw[lE];exact hj),AEU hj];constructor
  ·rintro ((h1|⟨h1,h2⟩)|⟨i,h1,h2,h3⟩)
   ·exact .inl h1
   ·exact .inr ⟨0,by simp,by omega,by simpa using h2⟩
   ·exact .inr ⟨i+1,by simpa using h1,by omega,by simpa using h3⟩
  ·rintro (h1|⟨i,h1,h2,h3⟩)
   ·exact .inl (.inl h1)
   ·cases i with
    |zero=>exact .inl (.inr ⟨by omega,by simpa using h3⟩)
    |succ i=>exact .inr ⟨i,by simpa using h1,by omega,by simpa using h3⟩
theorem lI:∀(T:List (List Int)) {ws:List (List Int)} {j:Nat} {x:Int} (_:j<ws.length),x∈(T.foldl (fun ws t=>J9 ws 0 t) ws).getD j []↔x∈ws.getD j []\/∃t∈T,j<t.length/\t.getD j 0=x
 |[],ws,j,x,hj=>by simp
 |t::T,ws,j,x,hj=>by
  rw[List.foldl_cons,lI T (by rw[ZF];exact hj),lH t hj];constructor
  ·rintro ((h1|⟨i,h1,h2,h3⟩)|⟨u,h1,h2⟩)
   ·exact .inl h1
   ·have:i=j:=by omega
    subst this;exact .inr ⟨t,by simp,h1,h3⟩
   ·exact .inr ⟨u,by simp[h1],h2⟩
  ·rintro (h1|⟨u,h1,h2,h3⟩)
   ·exact .inl (.inl h1)
   ·rcases List.mem_cons.1 h1 with rfl|h1
    ·exact .inl (.inr ⟨j,h2,by omega,h3⟩)
    ·exact .inr ⟨u,h1,h2,h3⟩
theorem vO{k:Nat}{T:List (List Int)}{j:Nat}{x:Int}(hj:j<k):x∈(cY k T).getD j []↔∃t∈T,j<t.length/\t.getD j 0=x:=by unfold cY;rw[lI T (by simpa using hj)];simp[bj,hj]
def gX(ws:List (List Int)):Prop:=∀l∈ws,l.Nodup
theorem rA{ws:List (List Int)}(h:gX ws)(k:Nat)(n:Int):gX (OL ws k n):=by
 unfold OL;split
 ·exact h
 ·rename_i hn;intro l hl;rcases Nat.lt_or_ge k ws.length with hk|hk
  ·rcases bw hl with h1|h1
   ·exact h l h1
   ·subst h1;have hm:ws.getD k []=ws[k]:=by rw[bj,bk hk];rfl
    rw[hm]at hn|-;rw[List.nodup_append];refine⟨h _ (bc hk),by simp,fun a ha b hb=>?_⟩;simp only[bx]at hb;subst hb;exact fun e=>hn (e▸ha)
  ·rw[List.set_eq_of_length_le hk]at hl;exact h l hl
theorem WT:∀(k:Nat) (l:List Int),l.Nodup->(∀x∈l,0<=x/\x<k)->l.length<=k
 |0,l,_,hx=>by
  cases l with
  |nil=>simp
  |cons x l=>have:=hx x (by simp);omega
 |k+1,l,hn,hx=>by
  have h1:(l.erase (k:Int)).length<=k:=WT k _ (hn.erase _) fun x hm=>by have hm1:=(hn.mem_erase_iff.1 hm);have:=hx x hm1.2;have:=hm1.1;omega
  rw[List.length_erase]at h1;split at h1<;>omega
structure DG(ws:List (List Int)):Prop where
 nd:gX ws
 lo:∀l∈ws,∀x∈l,0<=x/\x<=3
theorem DG.len{ws:List (List Int)}(h:DG ws):∀l∈ws,l.length<=4:=fun l hl=>WT 4 l (h.nd l hl) fun x hx=>by have:=h.lo l hl x hx;omega
theorem DG.add{ws:List (List Int)}(h:DG ws)(k:Nat)(n:Int)(hn:0<=n/\n<=3):DG (OL ws k n):=by
 refine⟨rA h.nd k n,fun l hl x hx=>?_⟩;unfold OL at hl;split at hl
 ·exact h.lo l hl x hx
 ·rcases bw hl with h1|h1
  ·exact h.lo l h1 x hx
  ·subst h1;rcases List.mem_append.1 hx with hx|hx
   ·rcases Nat.lt_or_ge k ws.length with hk|hk
    ·have hm:ws.getD k []=ws[k]:=by rw[bj,bk hk];rfl
     rw[hm]at hx;exact h.lo _ (bc hk) x hx
    ·rw[bj,List.getElem?_eq_none hk]at hx;simp at hx
   ·rw[bx.1 hx];exact hn
theorem DG.adds:∀(t:List Int) {ws:List (List Int)} (_:DG ws) (k:Nat) (_:∀n∈t,0<=n/\n<=3),DG (J9 ws k t)
 |[],_,h,_,_=>h
 |n::t,_,h,k,hn=>DG.adds t (h.add k n (hn n (by simp))) (k+1) fun x hx=>hn x (by simp[hx])
theorem DG.fold:∀(T:List (List Int)) {ws:List (List Int)} (_:DG ws) (_:∀t∈T,∀n∈t,0<=n/\n<=3),DG (T.foldl (fun ws t=>J9 ws 0 t) ws)
 |[],_,h,_=>h
 |t::T,_,h,hT=>DG.fold T (h.adds t 0 (hT t (by simp))) fun u hu=>hT u (by simp[hu])
theorem DG.ask(k:Nat)(T:List (List Int))(hT:∀t∈T,∀n∈t,0<=n/\n<=3):DG (cY k T):=DG.fold T ⟨fun l hl=>by rw[bb hl];simp,fun l hl x hx=>by rw[bb hl]at hx;cases hx⟩ hT
theorem KU{b:AL}(hb:Valid b){t:List Int}(ht:AZ t b.winds=true):∀n∈t,0<=n/\n<=3:=fun n hn=>by obtain⟨j,hj,rfl⟩:=List.getElem_of_mem hn;have:=rG hb ht hj;rw[bj,bk hj,BU]at this;exact this
theorem AR9{b:AL}(hb:Valid b){T:List (List Int)}(hT:∀t,t∈T↔CZ b t=true)(hne:T≠[]){j:Nat}(hj:j<b.winds.length)(x:Int):x∈(cY b.winds.length T).getD j []↔x∈(aw b)[j]'(by rw[GP];exact hj):=by
 rw[vO hj];constructor
 ·rintro ⟨t,ht,h1,rfl⟩;have:=FA ((E4 hb).1 ((hT t).1 ht)) j h1 (by rw[GP];exact hj);rwa [bj,bk h1]
 ·intro hx;obtain⟨t0,ht0⟩:=bq _ hne;have h0:=(E4 hb).1 ((hT t0).1 ht0);have hl:=C6 h0;have hjt:j<t0.length:=by rw[hl,GP];exact hj
  refine⟨t0.set j x,(hT _).2 ((E4 hb).2 (LW (by simpa using hl) fun k h1 h2=>?_)),by simpa using hjt,by simp[bj,hjt]⟩;rw[List.getElem_set];by_cases e:j=k
  ·subst e;rw[if_pos rfl];exact hx
  ·rw[if_neg e];exact FA h0 k (by simpa using h1) h2
def FG(f:Nat->Int):Nat->Int
 |0=>0
 |n+1=>FG f n+f n
theorem GO{f g:Nat->Int}:∀{n:Nat},(∀i,i<n->f i=g i)->FG f n=FG g n
 |0,_=>rfl
 |n+1,h=>by simp only[FG];rw[GO (n:=n) fun i hi=>h i (by omega),h n (by omega)]
theorem gY{f:Nat->Int}{c:Int}:∀{n:Nat},(∀i,i<n->0<=f i/\f i<=c)->0<=FG f n/\FG f n<=n*c
 |0,_=>by simp[FG]
 |n+1,h=>by
  have h1:=gY (n:=n) fun i hi=>h i (by omega);have h2:=h n (by omega);simp only[FG];have e:((n+1:Nat):Int)*c=(n:Int)*c+c:=by rw[Int.natCast_succ,Int.add_mul,Int.one_mul]
  omega
theorem VH(f:Nat->Int):∀(n h:Nat),VJ f h n=FG (fun i=>f (h+i)) n
 |0,_=>rfl
 |n+1,h=>by
  have e:∀(g:Nat->Int) (n:Nat),FG g (n+1)=g 0+FG (fun i=>g (i+1)) n:=by
   intro g n;induction n with
   |zero=>simp[FG]
   |succ n ih=>
    have:FG g (n+1+1)=FG g (n+1)+g (n+1):=rfl
    rw[this,ih]
    simp only[FG]
    omega
  rw[e];show f h+VJ f (h+1) n=_;rw[VH f n (h+1)];congr 1;exact GO fun i _=>by congr 1;omega
theorem AEV(g:Nat->Int->Int):∀(t:List Int) (h:Nat),OP g h t=VJ (fun i=>g i (t.getD (i-h) 0)) h t.length
 |[],_=>rfl
 |x::t,h=>by show g h x+OP g (h+1) t=g h ((x::t).getD (h-h) 0)+VJ (fun i=>g i ((x::t).getD (i-h) 0)) (h+1) t.length;rw[Nat.sub_self,AEV g t (h+1)];congr 1;rw[VH,VH];refine GO fun i _=>?_;rw[show h+1+i-(h+1)=i by omega,show h+1+i-h=i+1 by omega];rfl
theorem AKV(g:Nat->Int->Int)(t:List Int):OP g 0 t=FG (fun h=>g h (t.getD h 0)) t.length:=by rw[AEV,VH];exact GO fun i _=>by simp
def GB(z:Int×Int)(l:List Int):Int×Int:=l.foldl (fun r n=>(min r.1 n,max r.2 n)) z
theorem XZ:∀(l:List Int) (z:Int×Int),GB z l=(cZ z.1 l,dA z.2 l)
 |[],_=>rfl
 |n::l,z=>XZ l (min z.1 n,max z.2 n)
theorem vP:∀(l:List Int) (z:Int×Int) (lo hi:Int),(∀x∈l,lo<=x/\x<=hi)->lo<=z.1->z.2<=hi->lo<=(GB z l).1/\(GB z l).1<=z.1/\z.2<=(GB z l).2/\(GB z l).2<=hi
 |[],z,lo,hi,_,h1,h2=>⟨h1,Int.le_refl _,Int.le_refl _,h2⟩
 |n::l,z,lo,hi,h,h1,h2=>by have hn:=h n (by simp);have:=vP l (min z.1 n,max z.2 n) lo hi (fun x hx=>h x (by simp[hx])) (by simp only;omega) (by simp only;omega);have e:GB z (n::l)=GB (min z.1 n,max z.2 n) l:=rfl;rw[e];simp only at this;omega
theorem IZ.congr{α:Type}{l m:List α}{f:α->Int}{v:Int}(h:∀x,x∈l↔x∈m)(hm:IZ l f v):IZ m f v :=
 ⟨fun x hx=>hm.le x ((h x).2 hx),by obtain⟨x,h1,h2⟩:=hm.at';exact⟨x,(h x).1 h1,h2⟩⟩
theorem JN.congr{α:Type}{l m:List α}{f:α->Int}{v:Int}(h:∀x,x∈l↔x∈m)(hm:JN l f v):JN m f v :=
 ⟨fun x hx=>hm.le x ((h x).2 hx),by obtain⟨x,h1,h2⟩:=hm.at';exact⟨x,(h x).1 h1,h2⟩⟩
theorem IZ.fun_congr{α:Type}{l:List α}{f g:α->Int}{v:Int}(h:∀x∈l,f x=g x)(hm:IZ l f v):IZ l g v :=
 ⟨fun x hx=>by rw[<-h x hx];exact hm.le x hx,by obtain⟨x,h1,h2⟩:=hm.at';exact⟨x,h1,by rw[<-h x h1];exact h2⟩⟩
theorem JN.fun_congr{α:Type}{l:List α}{f g:α->Int}{v:Int}(h:∀x∈l,f x=g x)(hm:JN l f v):JN l g v :=
 ⟨fun x hx=>by rw[<-h x hx];exact hm.le x hx,by obtain⟨x,h1,h2⟩:=hm.at';exact⟨x,h1,by rw[<-h x h1];exact h2⟩⟩
def AKW(z:Int×Int)(ws:List (List Int))(g:Nat->Int->Int)(n:Nat):Int×Int:=(FG (fun h=>(GB z ((ws.getD h []).map (g h))).1) n,FG (fun h=>(GB z ((ws.getD h []).map (g h))).2) n)
structure TO(b:AL)(ws:List (List Int)):Prop where
 len:ws.length=b.winds.length
 ok:DG ws
 mem:∀j (hj:j<b.winds.length) (x:Int),x∈ws.getD j []↔x∈(aw b)[j]'(by rw[GP];exact hj)
 ne:∀l∈aw b,l≠[]
theorem AEW{b:AL}(hb:Valid b){T:List (List Int)}(hT:∀t,t∈T↔CZ b t=true)(hne:T≠[]):TO b (cY b.winds.length T):=by
 refine⟨lG _ _,DG.ask _ _ fun t ht=>?_,fun j hj x=>AR9 hb hT hne hj x,?_⟩
 ·have:=(hT t).1 ht;simp only[CZ,Bool.and_eq_true]at this;exact KU hb this.1
 ·refine(zF hb).1 ?_;obtain⟨t,ht⟩:=bq _ hne;exact bz (DT.2 ((hT t).1 ht))
theorem TO.row{b:AL}{ws:List (List Int)}(h:TO b ws){j:Nat}(hj:j<b.winds.length):ws.getD j []≠[]:=by have h1:=h.ne _ (bc (by rw[GP];exact hj:j<(aw b).length));obtain⟨x,hx⟩:=bq _ h1;exact bz ((h.mem j hj x).2 hx)
theorem AEX{b:AL}(hb:Valid b){ws:List (List Int)}(ha:TO b ws)(z:Int×Int)(g:Nat->Int->Int)(hz:∀h n,g h n<=z.1):IZ (BQ b) (OP g 0) (AKW z ws g b.winds.length).1:=by
 have:=AKY hb g (fun h=>(GB z ((ws.getD h []).map (g h))).1) fun j hj=>by rw[GP]at hj;rw[XZ];exact(vV (fun x _=>hz j x) (ha.row hj)).congr fun x=>ha.mem j hj x
 rw[VH]at this;simp only[Nat.zero_add]at this;exact this
theorem AEY{b:AL}(hb:Valid b){ws:List (List Int)}(ha:TO b ws)(z:Int×Int)(g:Nat->Int->Int)(hz:∀h n,z.2<=g h n):JN (BQ b) (OP g 0) (AKW z ws g b.winds.length).2:=by
 have:=AKZ hb g (fun h=>(GB z ((ws.getD h []).map (g h))).2) fun j hj=>by rw[GP]at hj;rw[XZ];exact(vW (fun x _=>hz j x) (ha.row hj)).congr fun x=>ha.mem j hj x
 rw[VH]at this;simp only[Nat.zero_add]at this;exact this
def ZG(b:Bool):Int:=if b=true then 1 else 0
theorem ZH(b:Bool):0<=ZG b/\ZG b<=1:=by cases b<;>simp[ZG]
theorem AOM(f:Nat->Bool):∀n,((rD f n:Nat):Int)=FG (fun h=>ZG (f h)) n
 |0=>rfl
 |n+1=>by have ih:=AOM f n;simp only[rD,FG];rw[<-ih];unfold ZG;split<;>simp
def AEZ(b:AL)(s:Int×Int)(h:Nat)(f w:Int):Int:=ZG (decide (b.sun.getD h 0=f)&&QR b s f w)
def A3I(b:AL)(s:Int×Int)(f w:Int):Int:=ZG (QR b s f w)
theorem WU(b:AL)(plan:List (List Int))(t:List Int)(r p:Nat):(E3 b plan t r p).good=OP (fun h w=>AEZ b (r,p) h (EF plan h r) w) 0 t:=by
 rw[AKV];refine(AOM _ _).trans (GO fun h _=>?_);have:OM b plan r h=decide (b.sun.getD h 0=EF plan h r):=by unfold OM;congr 1;exact propext eq_comm
 rw[this];rfl
def ZI(ws:List (List Int))(g:Nat->Int->Int):Int×Int:=AKW (1,0) ws g ws.length
theorem zD{b:AL}(hb:Valid b){ws:List (List Int)}(ha:TO b ws)(g:Nat->Int->Int)(hg:∀h n,0<=g h n/\g h n<=1):IZ (BQ b) (OP g 0) (ZI ws g).1/\JN (BQ b) (OP g 0) (ZI ws g).2:=by unfold ZI;rw[ha.len];exact⟨AEX hb ha (1,0) g fun h n=>(hg h n).2,AEY hb ha (1,0) g fun h n=>(hg h n).1⟩
def VI:Int×Int:=(1099511627776,-1)
def vQ(b:AL)(plan:List (List Int))(r p:Nat):Int×Int:=GB VI ((BQ b).map fun t=>(E3 b plan t r p).good)
theorem TP{b:AL}{t:List Int}(h:t∈BQ b):AZ t b.winds=true:=by have:=DT.1 h;simp only[CZ,Bool.and_eq_true]at this;exact this.1
theorem eL{b:AL}(hb:Valid b){t:List Int}(h:t∈BQ b):t.length<=5:=by have:=C6 (TP h);have:=hb.hl;omega
theorem eM(b:AL)(plan:List (List Int))(t:List Int)(r p:Nat):0<=(E3 b plan t r p).sun/\(E3 b plan t r p).sun<=t.length/\0<=(E3 b plan t r p).calm/\(E3 b plan t r p).calm<=t.length/\0<=(E3 b plan t r p).good/\(E3 b plan t r p).good<=t.length:=by have h1:=ZK (OM b plan r) t.length;have h2:=ZK (RB b plan t r p) t.length;have h3:=ZK (fun h=>OM b plan r h&&RB b plan t r p h) t.length;simp only[E3,rF];omega
theorem ASA{α:Type}{l:List α}{f:α->Int}{m n:Int}(h1:IZ l f m)(h2:JN l f n)(hf:∀x∈l,0<=f x/\f x<=1000):GB VI (l.map f)=(m,n):=by
 have hne:l≠[]:=by obtain⟨x,hx,_⟩:=h1.at';exact bz hx
 rw[XZ];have e1:=(vV (z:=VI.1) (fun x hx=>by have:=hf x hx;simp only[VI];omega) hne).uniq h1;have e2:=(vW (z:=VI.2) (fun x hx=>by have:=hf x hx;simp only[VI];omega) hne).uniq h2;rw[e1,e2]
def lJ(b:AL)(ws plan:List (List Int))(r p:Nat):Int×Int:=ZI ws fun h w=>A3I b (r,p) (EF plan h r) w
def WV(b:AL)(ws plan:List (List Int))(r p:Nat):Int×Int:=ZI ws fun h w=>AEZ b (r,p) h (EF plan h r) w
theorem lK{b:AL}(hb:Valid b){ws:List (List Int)}(ha:TO b ws)(plan:List (List Int))(r p:Nat):IZ (BQ b) (fun t=>(E3 b plan t r p).good) (WV b ws plan r p).1/\JN (BQ b) (fun t=>(E3 b plan t r p).good) (WV b ws plan r p).2:=by obtain⟨h1,h2⟩:=zD hb ha (fun h w=>AEZ b (r,p) h (EF plan h r) w) fun h n=>ZH _;exact⟨h1.fun_congr fun t _=>(WU b plan t r p).symm,h2.fun_congr fun t _=>(WU b plan t r p).symm⟩
theorem Q9{b:AL}(hb:Valid b){ws:List (List Int)}(ha:TO b ws)(plan:List (List Int))(r p:Nat):vQ b plan r p=WV b ws plan r p:=by obtain⟨h1,h2⟩:=lK hb ha plan r p;exact ASA h1 h2 fun t ht=>by have:=eM b plan t r p;have:=eL hb ht;omega
def LV(b:AL)(plan:List (List Int))(r n:Nat):Int:=((rD (OM b plan r) n:Nat):Int)
def AE0:List Int:=[0,1,2,3]
theorem AE1{x:Int}:x∈AE0↔0<=x/\x<=3:=by simp only[AE0,List.mem_cons,List.not_mem_nil,or_false];omega
theorem ZJ(g:Nat->Int):∀n,FG g (n+1)=g 0+FG (fun i=>g (i+1)) n
 |0=>by simp[FG]
 |n+1=>by have:FG g (n+1+1)=FG g (n+1)+g (n+1):=rfl;rw[this,ZJ g n];simp only[FG];omega
end Go.Wind
