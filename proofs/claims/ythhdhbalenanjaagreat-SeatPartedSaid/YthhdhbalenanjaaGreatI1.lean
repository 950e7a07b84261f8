/- The winds that the truths of a beach have, hour by hour. No condition; no program in sight. -/
import Derived.Test.YthhdhbalenanjaaGreatL
open List renaming getD_eq_getElem?_getD->bj,getElem?_eq_getElem->bk,exists_mem_of_ne_nil->bq,mem_or_eq_of_mem_set->bw,mem_singleton->bx,ne_nil_of_mem->bz,eq_of_mem_replicate->bb,getElem_mem->bc
namespace Go.Wind
def NT(ws:List (List Int))(h:Nat)(n:Int):List (List Int):=if n∈ws.getD h [] then ws else ws.set h (ws.getD h []++[n])
def JQ:List (List Int)->Nat->List Int->List (List Int)
 |ws,_,[]=>ws
 |ws,h,n::t=>JQ (NT ws h n) (h+1) t
def aU(k:Nat)(T:List (List Int)):List (List Int):=T.foldl (fun ws t=>JQ ws 0 t) (List.replicate k [])
theorem iK(ws:List (List Int))(h:Nat)(n:Int):(NT ws h n).length=ws.length:=by unfold NT;split<;>simp
theorem XU:∀(t:List Int) (ws:List (List Int)) (h:Nat),(JQ ws h t).length=ws.length
 |[],_,_=>rfl
 |n::t,ws,h=>(XU t (NT ws h n) (h+1)).trans (iK ws h n)
theorem iL:∀(T:List (List Int)) (ws:List (List Int)),(T.foldl (fun ws t=>JQ ws 0 t) ws).length=ws.length
 |[],_=>rfl
 |t::T,ws=>(iL T (JQ ws 0 t)).trans (XU t ws 0)
theorem iM(k:Nat)(T:List (List Int)):(aU k T).length=k:=by unfold aU;rw[iL];simp
theorem ABR(ws:List (List Int))(h:Nat)(l:List Int)(j:Nat)(hj:j<ws.length):(ws.set h l).getD j []=if h=j then l else ws.getD j []:=by
 simp only[bj,List.getElem?_set];by_cases e:h=j
 ·subst e;simp[hj]
 ·simp[e]
theorem ABS{ws:List (List Int)}{h:Nat}{n x:Int}{j:Nat}(hj:j<ws.length):x∈(NT ws h n).getD j []↔x∈ws.getD j []\/(h=j/\n=x):=by
 unfold NT;split
 ·rename_i hn;refine⟨.inl,fun h'=>?_⟩;rcases h' with h'|⟨rfl,rfl⟩
  ·exact h'
  ·exact hn
 ·rw[ABR _ _ _ _ hj];by_cases e:h=j
  ·subst e;rw[if_pos rfl,List.mem_append,bx];simp[eq_comm]
  ·rw[if_neg e];simp[e]
theorem iN:∀(t:List Int) {ws:List (List Int)} {h j:Nat} {x:Int} (_:j<ws.length),x∈(JQ ws h t).getD j []↔x∈ws.getD j []\/∃i,i<t.length/\h+i=j/\t.getD i 0=x
 |[],ws,h,j,x,hj=>by simp[JQ]
 |n::t,ws,h,j,x,hj=>by
  show x∈(JQ (NT ws h n) (h+1) t).getD j []↔_;rw[iN t (by rw[iK];exact hj),ABS hj];constructor
  ·rintro ((h1|⟨h1,h2⟩)|⟨i,h1,h2,h3⟩)
   ·exact .inl h1
   ·exact .inr ⟨0,by simp,by omega,by simpa using h2⟩
   ·exact .inr ⟨i+1,by simpa using h1,by omega,by simpa using h3⟩
  ·rintro (h1|⟨i,h1,h2,h3⟩)
   ·exact .inl (.inl h1)
   ·cases i with
    |zero=>exact .inl (.inr ⟨by omega,by simpa using h3⟩)
    |succ i=>exact .inr ⟨i,by simpa using h1,by omega,by simpa using h3⟩
theorem iO:∀(T:List (List Int)) {ws:List (List Int)} {j:Nat} {x:Int} (_:j<ws.length),x∈(T.foldl (fun ws t=>JQ ws 0 t) ws).getD j []↔x∈ws.getD j []\/∃t∈T,j<t.length/\t.getD j 0=x
 |[],ws,j,x,hj=>by simp
 |t::T,ws,j,x,hj=>by
  rw[List.foldl_cons,iO T (by rw[XU];exact hj),iN t hj];constructor
  ·rintro ((h1|⟨i,h1,h2,h3⟩)|⟨u,h1,h2⟩)
   ·exact .inl h1
   ·have:i=j:=by omega
    subst this;exact .inr ⟨t,by simp,h1,h3⟩
   ·exact .inr ⟨u,by simp[h1],h2⟩
  ·rintro (h1|⟨u,h1,h2,h3⟩)
   ·exact .inl (.inl h1)
   ·rcases List.mem_cons.1 h1 with rfl|h1
    ·exact .inl (.inr ⟨j,h2,by omega,h3⟩)
    ·exact .inr ⟨u,h1,h2,h3⟩
theorem sA{k:Nat}{T:List (List Int)}{j:Nat}{x:Int}(hj:j<k):x∈(aU k T).getD j []↔∃t∈T,j<t.length/\t.getD j 0=x:=by unfold aU;rw[iO T (by simpa using hj)];simp[bj,hj]
def eG(ws:List (List Int)):Prop:=∀l∈ws,l.Nodup
theorem nP{ws:List (List Int)}(h:eG ws)(k:Nat)(n:Int):eG (NT ws k n):=by
 unfold NT;split
 ·exact h
 ·rename_i hn;intro l hl;rcases Nat.lt_or_ge k ws.length with hk|hk
  ·rcases bw hl with h1|h1
   ·exact h l h1
   ·subst h1;have hm:ws.getD k []=ws[k]:=by rw[bj,bk hk];rfl
    rw[hm]at hn|-;rw[List.nodup_append];refine⟨h _ (bc hk),by simp,fun a ha b hb=>?_⟩;simp only[bx]at hb;subst hb;exact fun e=>hn (e▸ha)
  ·rw[List.set_eq_of_length_le hk]at hl;exact h l hl
theorem VM:∀(k:Nat) (l:List Int),l.Nodup->(∀x∈l,0<=x/\x<k)->l.length<=k
 |0,l,_,hx=>by
  cases l with
  |nil=>simp
  |cons x l=>have:=hx x (by simp);omega
 |k+1,l,hn,hx=>by
  have h1:(l.erase (k:Int)).length<=k:=VM k _ (hn.erase _) fun x hm=>by have hm1:=(hn.mem_erase_iff.1 hm);have:=hx x hm1.2;have:=hm1.1;omega
  rw[List.length_erase]at h1;split at h1<;>omega
structure DD(ws:List (List Int)):Prop where
 nd:eG ws
 lo:∀l∈ws,∀x∈l,0<=x/\x<=3
theorem DD.len{ws:List (List Int)}(h:DD ws):∀l∈ws,l.length<=4:=fun l hl=>VM 4 l (h.nd l hl) fun x hx=>by have:=h.lo l hl x hx;omega
theorem DD.add{ws:List (List Int)}(h:DD ws)(k:Nat)(n:Int)(hn:0<=n/\n<=3):DD (NT ws k n):=by
 refine⟨nP h.nd k n,fun l hl x hx=>?_⟩;unfold NT at hl;split at hl
 ·exact h.lo l hl x hx
 ·rcases bw hl with h1|h1
  ·exact h.lo l h1 x hx
  ·subst h1;rcases List.mem_append.1 hx with hx|hx
   ·rcases Nat.lt_or_ge k ws.length with hk|hk
    ·have hm:ws.getD k []=ws[k]:=by rw[bj,bk hk];rfl
     rw[hm]at hx;exact h.lo _ (bc hk) x hx
    ·rw[bj,List.getElem?_eq_none hk]at hx;simp at hx
   ·rw[bx.1 hx];exact hn
theorem DD.adds:∀(t:List Int) {ws:List (List Int)} (_:DD ws) (k:Nat) (_:∀n∈t,0<=n/\n<=3),DD (JQ ws k t)
 |[],_,h,_,_=>h
 |n::t,_,h,k,hn=>DD.adds t (h.add k n (hn n (by simp))) (k+1) fun x hx=>hn x (by simp[hx])
theorem DD.fold:∀(T:List (List Int)) {ws:List (List Int)} (_:DD ws) (_:∀t∈T,∀n∈t,0<=n/\n<=3),DD (T.foldl (fun ws t=>JQ ws 0 t) ws)
 |[],_,h,_=>h
 |t::T,_,h,hT=>DD.fold T (h.adds t 0 (hT t (by simp))) fun u hu=>hT u (by simp[hu])
theorem DD.ask(k:Nat)(T:List (List Int))(hT:∀t∈T,∀n∈t,0<=n/\n<=3):DD (aU k T):=DD.fold T ⟨fun l hl=>by rw[bb hl];simp,fun l hl x hx=>by rw[bb hl]at hx;cases hx⟩ hT
theorem KE{b:AN}(hb:Valid b){t:List Int}(ht:A6 t b.winds=true):∀n∈t,0<=n/\n<=3:=fun n hn=>by obtain⟨j,hj,rfl⟩:=List.getElem_of_mem hn;have:=nR hb ht hj;rw[bj,bk hj,EH]at this;exact this
theorem APC{b:AN}(hb:Valid b){T:List (List Int)}(hT:∀t,t∈T↔C6 b t=true)(hne:T≠[]){j:Nat}(hj:j<b.winds.length)(x:Int):x∈(aU b.winds.length T).getD j []↔x∈(aw b)[j]'(by rw[GD];exact hj):=by
 rw[sA hj];constructor
 ·rintro ⟨t,ht,h1,rfl⟩;have:=FH ((ES hb).1 ((hT t).1 ht)) j h1 (by rw[GD];exact hj);rwa [bj,bk h1]
 ·intro hx;obtain⟨t0,ht0⟩:=bq _ hne;have h0:=(ES hb).1 ((hT t0).1 ht0);have hl:=DE h0;have hjt:j<t0.length:=by rw[hl,GD];exact hj
  refine⟨t0.set j x,(hT _).2 ((ES hb).2 (LC (by simpa using hl) fun k h1 h2=>?_)),by simpa using hjt,by simp[bj,hjt]⟩;rw[List.getElem_set];by_cases e:j=k
  ·subst e;rw[if_pos rfl];exact hx
  ·rw[if_neg e];exact FH h0 k (by simpa using h1) h2
def ID(f:Nat->Int):Nat->Int
 |0=>0
 |n+1=>ID f n+f n
theorem JR{f g:Nat->Int}:∀{n:Nat},(∀i,i<n->f i=g i)->ID f n=ID g n
 |0,_=>rfl
 |n+1,h=>by simp only[ID];rw[JR (n:=n) fun i hi=>h i (by omega),h n (by omega)]
theorem eH{f:Nat->Int}{c:Int}:∀{n:Nat},(∀i,i<n->0<=f i/\f i<=c)->0<=ID f n/\ID f n<=n*c
 |0,_=>by simp[ID]
 |n+1,h=>by
  have h1:=eH (n:=n) fun i hi=>h i (by omega);have h2:=h n (by omega);simp only[ID];have e:((n+1:Nat):Int)*c=(n:Int)*c+c:=by rw[Int.natCast_succ,Int.add_mul,Int.one_mul]
  omega
theorem UA(f:Nat->Int):∀(n h:Nat),UC f h n=ID (fun i=>f (h+i)) n
 |0,_=>rfl
 |n+1,h=>by
  have e:∀(g:Nat->Int) (n:Nat),ID g (n+1)=g 0+ID (fun i=>g (i+1)) n:=by
   intro g n;induction n with
   |zero=>simp[ID]
   |succ n ih=>
    have:ID g (n+1+1)=ID g (n+1)+g (n+1):=rfl
    rw[this,ih]
    simp only[ID]
    omega
  rw[e];show f h+UC f (h+1) n=_;rw[UA f n (h+1)];congr 1;exact JR fun i _=>by congr 1;omega
theorem ABT(g:Nat->Int->Int):∀(t:List Int) (h:Nat),NV g h t=UC (fun i=>g i (t.getD (i-h) 0)) h t.length
 |[],_=>rfl
 |x::t,h=>by show g h x+NV g (h+1) t=g h ((x::t).getD (h-h) 0)+UC (fun i=>g i ((x::t).getD (i-h) 0)) (h+1) t.length;rw[Nat.sub_self,ABT g t (h+1)];congr 1;rw[UA,UA];refine JR fun i _=>?_;rw[show h+1+i-(h+1)=i by omega,show h+1+i-h=i+1 by omega];rfl
theorem AHM(g:Nat->Int->Int)(t:List Int):NV g 0 t=ID (fun h=>g h (t.getD h 0)) t.length:=by rw[ABT,UA];exact JR fun i _=>by simp
def FY(z:Int×Int)(l:List Int):Int×Int:=l.foldl (fun r n=>(min r.1 n,max r.2 n)) z
theorem WR:∀(l:List Int) (z:Int×Int),FY z l=(aV z.1 l,aW z.2 l)
 |[],_=>rfl
 |n::l,z=>WR l (min z.1 n,max z.2 n)
theorem sB:∀(l:List Int) (z:Int×Int) (lo hi:Int),(∀x∈l,lo<=x/\x<=hi)->lo<=z.1->z.2<=hi->lo<=(FY z l).1/\(FY z l).1<=z.1/\z.2<=(FY z l).2/\(FY z l).2<=hi
 |[],z,lo,hi,_,h1,h2=>⟨h1,Int.le_refl _,Int.le_refl _,h2⟩
 |n::l,z,lo,hi,h,h1,h2=>by have hn:=h n (by simp);have:=sB l (min z.1 n,max z.2 n) lo hi (fun x hx=>h x (by simp[hx])) (by simp only;omega) (by simp only;omega);have e:FY z (n::l)=FY (min z.1 n,max z.2 n) l:=rfl;rw[e];simp only at this;omega
theorem IE.congr{α:Type}{l m:List α}{f:α->Int}{v:Int}(h:∀x,x∈l↔x∈m)(hm:IE l f v):IE m f v :=
 ⟨fun x hx=>hm.le x ((h x).2 hx),by obtain⟨x,h1,h2⟩:=hm.at';exact⟨x,(h x).1 h1,h2⟩⟩
theorem I8.congr{α:Type}{l m:List α}{f:α->Int}{v:Int}(h:∀x,x∈l↔x∈m)(hm:I8 l f v):I8 m f v :=
 ⟨fun x hx=>hm.le x ((h x).2 hx),by obtain⟨x,h1,h2⟩:=hm.at';exact⟨x,(h x).1 h1,h2⟩⟩
theorem IE.fun_congr{α:Type}{l:List α}{f g:α->Int}{v:Int}(h:∀x∈l,f x=g x)(hm:IE l f v):IE l g v :=
 ⟨fun x hx=>by rw[<-h x hx];exact hm.le x hx,by obtain⟨x,h1,h2⟩:=hm.at';exact⟨x,h1,by rw[<-h x h1];exact h2⟩⟩
theorem I8.fun_congr{α:Type}{l:List α}{f g:α->Int}{v:Int}(h:∀x∈l,f x=g x)(hm:I8 l f v):I8 l g v :=
 ⟨fun x hx=>by rw[<-h x hx];exact hm.le x hx,by obtain⟨x,h1,h2⟩:=hm.at';exact⟨x,h1,by rw[<-h x h1];exact h2⟩⟩
def AHN(z:Int×Int)(ws:List (List Int))(g:Nat->Int->Int)(n:Nat):Int×Int:=(ID (fun h=>(FY z ((ws.getD h []).map (g h))).1) n,ID (fun h=>(FY z ((ws.getD h []).map (g h))).2) n)
structure SF(b:AN)(ws:List (List Int)):Prop where
 len:ws.length=b.winds.length
 ok:DD ws
 mem:∀j (hj:j<b.winds.length) (x:Int),x∈ws.getD j []↔x∈(aw b)[j]'(by rw[GD];exact hj)
 ne:∀l∈aw b,l≠[]
theorem ABU{b:AN}(hb:Valid b){T:List (List Int)}(hT:∀t,t∈T↔C6 b t=true)(hne:T≠[]):SF b (aU b.winds.length T):=by
 refine⟨iM _ _,DD.ask _ _ fun t ht=>?_,fun j hj x=>APC hb hT hne hj x,?_⟩
 ·have:=(hT t).1 ht;simp only[C6,Bool.and_eq_true]at this;exact KE hb this.1
 ·refine(vM hb).1 ?_;obtain⟨t,ht⟩:=bq _ hne;exact bz (ED.2 ((hT t).1 ht))
theorem SF.row{b:AN}{ws:List (List Int)}(h:SF b ws){j:Nat}(hj:j<b.winds.length):ws.getD j []≠[]:=by have h1:=h.ne _ (bc (by rw[GD];exact hj:j<(aw b).length));obtain⟨x,hx⟩:=bq _ h1;exact bz ((h.mem j hj x).2 hx)
theorem ABV{b:AN}(hb:Valid b){ws:List (List Int)}(ha:SF b ws)(z:Int×Int)(g:Nat->Int->Int)(hz:∀h n,g h n<=z.1):IE (CA b) (NV g 0) (AHN z ws g b.winds.length).1:=by
 have:=AHQ hb g (fun h=>(FY z ((ws.getD h []).map (g h))).1) fun j hj=>by rw[GD]at hj;rw[WR];exact(sH (fun x _=>hz j x) (ha.row hj)).congr fun x=>ha.mem j hj x
 rw[UA]at this;simp only[Nat.zero_add]at this;exact this
theorem ABW{b:AN}(hb:Valid b){ws:List (List Int)}(ha:SF b ws)(z:Int×Int)(g:Nat->Int->Int)(hz:∀h n,z.2<=g h n):I8 (CA b) (NV g 0) (AHN z ws g b.winds.length).2:=by
 have:=AHR hb g (fun h=>(FY z ((ws.getD h []).map (g h))).2) fun j hj=>by rw[GD]at hj;rw[WR];exact(sI (fun x _=>hz j x) (ha.row hj)).congr fun x=>ha.mem j hj x
 rw[UA]at this;simp only[Nat.zero_add]at this;exact this
def XV(b:Bool):Int:=if b=true then 1 else 0
theorem XW(b:Bool):0<=XV b/\XV b<=1:=by cases b<;>simp[XV]
theorem ALE(f:Nat->Bool):∀n,((cnt f n:Nat):Int)=ID (fun h=>XV (f h)) n
 |0=>rfl
 |n+1=>by have ih:=ALE f n;simp only[cnt,ID];rw[<-ih];unfold XV;split<;>simp
def ABX(b:AN)(s:Int×Int)(h:Nat)(f w:Int):Int:=XV (decide (b.sun.getD h 0=f)&&XZ b s f w)
def A1L(b:AN)(s:Int×Int)(f w:Int):Int:=XV (XZ b s f w)
theorem VN(b:AN)(plan:List (List Int))(t:List Int)(r p:Nat):(IZ b plan t r p).good=NV (fun h w=>ABX b (r,p) h (ER plan h r) w) 0 t:=by
 rw[AHM];refine(ALE _ _).trans (JR fun h _=>?_);have:X3 b plan r h=decide (b.sun.getD h 0=ER plan h r):=by unfold X3;congr 1;exact propext eq_comm
 rw[this];rfl
def XX(ws:List (List Int))(g:Nat->Int->Int):Int×Int:=AHN (1,0) ws g ws.length
theorem vK{b:AN}(hb:Valid b){ws:List (List Int)}(ha:SF b ws)(g:Nat->Int->Int)(hg:∀h n,0<=g h n/\g h n<=1):IE (CA b) (NV g 0) (XX ws g).1/\I8 (CA b) (NV g 0) (XX ws g).2:=by unfold XX;rw[ha.len];exact⟨ABV hb ha (1,0) g fun h n=>(hg h n).2,ABW hb ha (1,0) g fun h n=>(hg h n).1⟩
def UB:Int×Int:=(1099511627776,-1)
def sC(b:AN)(plan:List (List Int))(r p:Nat):Int×Int:=FY UB ((CA b).map fun t=>(IZ b plan t r p).good)
theorem eI{b:AN}{t:List Int}(h:t∈CA b):A6 t b.winds=true:=by have:=ED.1 h;simp only[C6,Bool.and_eq_true]at this;exact this.1
theorem cC{b:AN}(hb:Valid b){t:List Int}(h:t∈CA b):t.length<=5:=by have:=DE (eI h);have:=hb.hl;omega
theorem cD(b:AN)(plan:List (List Int))(t:List Int)(r p:Nat):0<=(IZ b plan t r p).sun/\(IZ b plan t r p).sun<=t.length/\0<=(IZ b plan t r p).calm/\(IZ b plan t r p).calm<=t.length/\0<=(IZ b plan t r p).good/\(IZ b plan t r p).good<=t.length:=by have h1:=X0 (X3 b plan r) t.length;have h2:=X0 (nQ b plan t r p) t.length;have h3:=X0 (fun h=>X3 b plan r h&&nQ b plan t r p h) t.length;simp only[IZ,ABY];omega
theorem APD{α:Type}{l:List α}{f:α->Int}{m n:Int}(h1:IE l f m)(h2:I8 l f n)(hf:∀x∈l,0<=f x/\f x<=1000):FY UB (l.map f)=(m,n):=by
 have hne:l≠[]:=by obtain⟨x,hx,_⟩:=h1.at';exact bz hx
 rw[WR];have e1:=(sH (z:=UB.1) (fun x hx=>by have:=hf x hx;simp only[UB];omega) hne).uniq h1;have e2:=(sI (z:=UB.2) (fun x hx=>by have:=hf x hx;simp only[UB];omega) hne).uniq h2;rw[e1,e2]
def iP(b:AN)(ws plan:List (List Int))(r p:Nat):Int×Int:=XX ws fun h w=>A1L b (r,p) (ER plan h r) w
def VO(b:AN)(ws plan:List (List Int))(r p:Nat):Int×Int:=XX ws fun h w=>ABX b (r,p) h (ER plan h r) w
theorem iQ{b:AN}(hb:Valid b){ws:List (List Int)}(ha:SF b ws)(plan:List (List Int))(r p:Nat):IE (CA b) (fun t=>(IZ b plan t r p).good) (VO b ws plan r p).1/\I8 (CA b) (fun t=>(IZ b plan t r p).good) (VO b ws plan r p).2:=by obtain⟨h1,h2⟩:=vK hb ha (fun h w=>ABX b (r,p) h (ER plan h r) w) fun h n=>XW _;exact⟨h1.fun_congr fun t _=>(VN b plan t r p).symm,h2.fun_congr fun t _=>(VN b plan t r p).symm⟩
theorem XY{b:AN}(hb:Valid b){ws:List (List Int)}(ha:SF b ws)(plan:List (List Int))(r p:Nat):sC b plan r p=VO b ws plan r p:=by obtain⟨h1,h2⟩:=iQ hb ha plan r p;exact APD h1 h2 fun t ht=>by have:=cD b plan t r p;have:=cC hb ht;omega
def LA(b:AN)(plan:List (List Int))(r n:Nat):Int:=((cnt (X3 b plan r) n:Nat):Int)
end Go.Wind
