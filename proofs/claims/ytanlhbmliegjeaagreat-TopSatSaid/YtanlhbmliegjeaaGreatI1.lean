/- The winds that the truths of a beach have, hour by hour. No condition; no program in sight. -/
import Derived.Test.YtanlhbmliegjeaaGreatL
open List renaming getD_eq_getElem?_getD->bj,getElem?_eq_getElem->bk,exists_mem_of_ne_nil->bq,mem_or_eq_of_mem_set->bw,mem_singleton->bx,ne_nil_of_mem->bz,eq_of_mem_replicate->bb,getElem_mem->bc,getElem?_eq_none->bf
namespace Go.Wind
def NY(ws:List (List Int))(h:Nat)(n:Int):List (List Int):=if n∈ws.getD h [] then ws else ws.set h (ws.getD h []++[n])
def JZ:List (List Int)->Nat->List Int->List (List Int)
 |ws,_,[]=>ws
 |ws,h,n::t=>JZ (NY ws h n) (h+1) t
def bS(k:Nat)(T:List (List Int)):List (List Int):=T.foldl (fun ws t=>JZ ws 0 t) (List.replicate k [])
theorem kB(ws:List (List Int))(h:Nat)(n:Int):(NY ws h n).length=ws.length:=by unfold NY;split<;>simp
theorem YM:∀(t:List Int) (ws:List (List Int)) (h:Nat),(JZ ws h t).length=ws.length
 |[],_,_=>rfl
 |n::t,ws,h=>(YM t (NY ws h n) (h+1)).trans (kB ws h n)
theorem kD:∀(T:List (List Int)) (ws:List (List Int)),(T.foldl (fun ws t=>JZ ws 0 t) ws).length=ws.length
 |[],_=>rfl
 |t::T,ws=>(kD T (JZ ws 0 t)).trans (YM t ws 0)
theorem YN(k:Nat)(T:List (List Int)):(bS k T).length=k:=by unfold bS;rw[kD];simp
theorem ACF(ws:List (List Int))(h:Nat)(l:List Int)(j:Nat)(hj:j<ws.length):(ws.set h l).getD j []=if h=j then l else ws.getD j []:=by
 simp only[bj,List.getElem?_set];by_cases e:h=j
 ·subst e;simp[hj]
 ·simp[e]
theorem ACG{ws:List (List Int)}{h:Nat}{n x:Int}{j:Nat}(hj:j<ws.length):x∈(NY ws h n).getD j []↔x∈ws.getD j []\/(h=j/\n=x):=by
 unfold NY;split
 ·rename_i hn;refine⟨.inl,fun h'=>?_⟩;rcases h' with h'|⟨rfl,rfl⟩
  ·exact h'
  ·exact hn
 ·rw[ACF _ _ _ _ hj];by_cases e:h=j
  ·subst e;rw[if_pos rfl,List.mem_append,bx];simp[eq_comm]
  ·rw[if_neg e];simp[e]
theorem kE:∀(t:List Int) {ws:List (List Int)} {h j:Nat} {x:Int} (_:j<ws.length),x∈(JZ ws h t).getD j []↔x∈ws.getD j []\/∃i,i<t.length/\h+i=j/\t.getD i 0=x
 |[],ws,h,j,x,hj=>by simp[JZ]
 |n::t,ws,h,j,x,hj=>by
  show x∈(JZ (NY ws h n) (h+1) t).getD j []↔_;rw[kE t (by rw[kB];exact hj),ACG hj];constructor
  ·rintro ((h1|⟨h1,h2⟩)|⟨i,h1,h2,h3⟩)
   ·exact .inl h1
   ·exact .inr ⟨0,by simp,by omega,by simpa using h2⟩
   ·exact .inr ⟨i+1,by simpa using h1,by omega,by simpa using h3⟩
  ·rintro (h1|⟨i,h1,h2,h3⟩)
   ·exact .inl (.inl h1)
   ·cases i with
    |zero=>exact .inl (.inr ⟨by omega,by simpa using h3⟩)
    |succ i=>exact .inr ⟨i,by simpa using h1,by omega,by simpa using h3⟩
theorem kF:∀(T:List (List Int)) {ws:List (List Int)} {j:Nat} {x:Int} (_:j<ws.length),x∈(T.foldl (fun ws t=>JZ ws 0 t) ws).getD j []↔x∈ws.getD j []\/∃t∈T,j<t.length/\t.getD j 0=x
 |[],ws,j,x,hj=>by simp
 |t::T,ws,j,x,hj=>by
  rw[List.foldl_cons,kF T (by rw[YM];exact hj),kE t hj];constructor
  ·rintro ((h1|⟨i,h1,h2,h3⟩)|⟨u,h1,h2⟩)
   ·exact .inl h1
   ·have:i=j:=by omega
    subst this;exact .inr ⟨t,by simp,h1,h3⟩
   ·exact .inr ⟨u,by simp[h1],h2⟩
  ·rintro (h1|⟨u,h1,h2,h3⟩)
   ·exact .inl (.inl h1)
   ·rcases List.mem_cons.1 h1 with rfl|h1
    ·exact .inl (.inr ⟨j,h2,by omega,h3⟩)
    ·exact .inr ⟨u,h1,h2,h3⟩
theorem uD{k:Nat}{T:List (List Int)}{j:Nat}{x:Int}(hj:j<k):x∈(bS k T).getD j []↔∃t∈T,j<t.length/\t.getD j 0=x:=by unfold bS;rw[kF T (by simpa using hj)];simp[bj,hj]
def fM(ws:List (List Int)):Prop:=∀l∈ws,l.Nodup
theorem pE{ws:List (List Int)}(h:fM ws)(k:Nat)(n:Int):fM (NY ws k n):=by
 unfold NY;split
 ·exact h
 ·rename_i hn;intro l hl;rcases Nat.lt_or_ge k ws.length with hk|hk
  ·rcases bw hl with h1|h1
   ·exact h l h1
   ·subst h1;have hm:ws.getD k []=ws[k]:=by rw[bj,bk hk];rfl
    rw[hm]at hn|-;rw[List.nodup_append];refine⟨h _ (bc hk),by simp,fun a ha b hb=>?_⟩;simp only[bx]at hb;subst hb;exact fun e=>hn (e▸ha)
  ·rw[List.set_eq_of_length_le hk]at hl;exact h l hl
theorem VD:∀(k:Nat) (l:List Int),l.Nodup->(∀x∈l,0<=x/\x<k)->l.length<=k
 |0,l,_,hx=>by
  cases l with
  |nil=>simp
  |cons x l=>have:=hx x (by simp);omega
 |k+1,l,hn,hx=>by
  have h1:(l.erase (k:Int)).length<=k:=VD k _ (hn.erase _) fun x hm=>by have hm1:=(hn.mem_erase_iff.1 hm);have:=hx x hm1.2;have:=hm1.1;omega
  rw[List.length_erase]at h1;split at h1<;>omega
structure DD(ws:List (List Int)):Prop where
 nd:fM ws
 lo:∀l∈ws,∀x∈l,0<=x/\x<=3
theorem DD.len{ws:List (List Int)}(h:DD ws):∀l∈ws,l.length<=4:=fun l hl=>VD 4 l (h.nd l hl) fun x hx=>by have:=h.lo l hl x hx;omega
theorem DD.add{ws:List (List Int)}(h:DD ws)(k:Nat)(n:Int)(hn:0<=n/\n<=3):DD (NY ws k n):=by
 refine⟨pE h.nd k n,fun l hl x hx=>?_⟩;unfold NY at hl;split at hl
 ·exact h.lo l hl x hx
 ·rcases bw hl with h1|h1
  ·exact h.lo l h1 x hx
  ·subst h1;rcases List.mem_append.1 hx with hx|hx
   ·rcases Nat.lt_or_ge k ws.length with hk|hk
    ·have hm:ws.getD k []=ws[k]:=by rw[bj,bk hk];rfl
     rw[hm]at hx;exact h.lo _ (bc hk) x hx
    ·rw[bj,bf hk]at hx;simp at hx
   ·rw[bx.1 hx];exact hn
theorem DD.adds:∀(t:List Int) {ws:List (List Int)} (_:DD ws) (k:Nat) (_:∀n∈t,0<=n/\n<=3),DD (JZ ws k t)
 |[],_,h,_,_=>h
 |n::t,_,h,k,hn=>DD.adds t (h.add k n (hn n (by simp))) (k+1) fun x hx=>hn x (by simp[hx])
theorem DD.fold:∀(T:List (List Int)) {ws:List (List Int)} (_:DD ws) (_:∀t∈T,∀n∈t,0<=n/\n<=3),DD (T.foldl (fun ws t=>JZ ws 0 t) ws)
 |[],_,h,_=>h
 |t::T,_,h,hT=>DD.fold T (h.adds t 0 (hT t (by simp))) fun u hu=>hT u (by simp[hu])
theorem DD.ask(k:Nat)(T:List (List Int))(hT:∀t∈T,∀n∈t,0<=n/\n<=3):DD (bS k T):=DD.fold T ⟨fun l hl=>by rw[bb hl];simp,fun l hl x hx=>by rw[bb hl]at hx;cases hx⟩ hT
theorem KT{b:AL}(hb:Valid b){t:List Int}(ht:AV t b.winds=true):∀n∈t,0<=n/\n<=3:=fun n hn=>by obtain⟨j,hj,rfl⟩:=List.getElem_of_mem hn;have:=YR hb ht hj;rw[bj,bk hj,DV]at this;exact this
theorem AQI{b:AL}(hb:Valid b){T:List (List Int)}(hT:∀t,t∈T↔DE b t=true)(hne:T≠[]){j:Nat}(hj:j<b.winds.length)(x:Int):x∈(bS b.winds.length T).getD j []↔x∈(aw b)[j]'(by rw[GK];exact hj):=by
 rw[uD hj];constructor
 ·rintro ⟨t,ht,h1,rfl⟩;have:=FT ((E2 hb).1 ((hT t).1 ht)) j h1 (by rw[GK];exact hj);rwa [bj,bk h1]
 ·intro hx;obtain⟨t0,ht0⟩:=bq _ hne;have h0:=(E2 hb).1 ((hT t0).1 ht0);have hl:=CK h0;have hjt:j<t0.length:=by rw[hl,GK];exact hj
  refine⟨t0.set j x,(hT _).2 ((E2 hb).2 (LQ (by simpa using hl) fun k h1 h2=>?_)),by simpa using hjt,by simp[bj,hjt]⟩;rw[List.getElem_set];by_cases e:j=k
  ·subst e;rw[if_pos rfl];exact hx
  ·rw[if_neg e];exact FT h0 k (by simpa using h1) h2
def BZ(f:Nat->Int):Nat->Int
 |0=>0
 |n+1=>BZ f n+f n
theorem D0{f g:Nat->Int}:∀{n:Nat},(∀i,i<n->f i=g i)->BZ f n=BZ g n
 |0,_=>rfl
 |n+1,h=>by simp only[BZ];rw[D0 (n:=n) fun i hi=>h i (by omega),h n (by omega)]
theorem RU(f g:Nat->Int):∀n,BZ (fun i=>f i+g i) n=BZ f n+BZ g n
 |0=>rfl
 |n+1=>by simp only[BZ,RU f g n];omega
theorem TQ:∀n,BZ (fun _=>0) n=0
 |0=>rfl
 |n+1=>by simp only[BZ,TQ n];rfl
theorem TR(f:Nat->Nat->Int)(m:Nat):∀n,BZ (fun i=>BZ (f i) m) n=BZ (fun j=>BZ (fun i=>f i j) n) m
 |0=>(TQ m).symm
 |n+1=>by show BZ (fun i=>BZ (f i) m) n+BZ (f n) m=BZ (fun j=>BZ (fun i=>f i j) n+f n j) m;rw[RU,TR f m n]
theorem HA{f:Nat->Int}{c:Int}:∀{n:Nat},(∀i,i<n->0<=f i/\f i<=c)->0<=BZ f n/\BZ f n<=n*c
 |0,_=>by simp[BZ]
 |n+1,h=>by
  have h1:=HA (n:=n) fun i hi=>h i (by omega);have h2:=h n (by omega);simp only[BZ];have e:((n+1:Nat):Int)*c=(n:Int)*c+c:=by rw[Int.natCast_succ,Int.add_mul,Int.one_mul]
  omega
theorem TU(f:Nat->Int):∀(n h:Nat),TX f h n=BZ (fun i=>f (h+i)) n
 |0,_=>rfl
 |n+1,h=>by
  have e:∀(g:Nat->Int) (n:Nat),BZ g (n+1)=g 0+BZ (fun i=>g (i+1)) n:=by
   intro g n;induction n with
   |zero=>simp[BZ]
   |succ n ih=>
    have:BZ g (n+1+1)=BZ g (n+1)+g (n+1):=rfl
    rw[this,ih]
    simp only[BZ]
    omega
  rw[e];show f h+TX f (h+1) n=_;rw[TU f n (h+1)];congr 1;exact D0 fun i _=>by congr 1;omega
theorem ACH(g:Nat->Int->Int):∀(t:List Int) (h:Nat),NN g h t=TX (fun i=>g i (t.getD (i-h) 0)) h t.length
 |[],_=>rfl
 |x::t,h=>by show g h x+NN g (h+1) t=g h ((x::t).getD (h-h) 0)+TX (fun i=>g i ((x::t).getD (i-h) 0)) (h+1) t.length;rw[Nat.sub_self,ACH g t (h+1)];congr 1;rw[TU,TU];refine D0 fun i _=>?_;rw[show h+1+i-(h+1)=i by omega,show h+1+i-h=i+1 by omega];rfl
theorem fN(g:Nat->Int->Int)(t:List Int):NN g 0 t=BZ (fun h=>g h (t.getD h 0)) t.length:=by rw[ACH,TU];exact D0 fun i _=>by simp
def EE(z:Int×Int)(l:List Int):Int×Int:=l.foldl (fun r n=>(min r.1 n,max r.2 n)) z
theorem WE:∀(l:List Int) (z:Int×Int),EE z l=(bU z.1 l,bV z.2 l)
 |[],_=>rfl
 |n::l,z=>WE l (min z.1 n,max z.2 n)
theorem fO:∀(l:List Int) (z:Int×Int) (lo hi:Int),(∀x∈l,lo<=x/\x<=hi)->lo<=z.1->z.2<=hi->lo<=(EE z l).1/\(EE z l).1<=z.1/\z.2<=(EE z l).2/\(EE z l).2<=hi
 |[],z,lo,hi,_,h1,h2=>⟨h1,Int.le_refl _,Int.le_refl _,h2⟩
 |n::l,z,lo,hi,h,h1,h2=>by have hn:=h n (by simp);have:=fO l (min z.1 n,max z.2 n) lo hi (fun x hx=>h x (by simp[hx])) (by simp only;omega) (by simp only;omega);have e:EE z (n::l)=EE (min z.1 n,max z.2 n) l:=rfl;rw[e];simp only at this;omega
theorem HY.congr{α:Type}{l m:List α}{f:α->Int}{v:Int}(h:∀x,x∈l↔x∈m)(hm:HY l f v):HY m f v :=
 ⟨fun x hx=>hm.le x ((h x).2 hx),by obtain⟨x,h1,h2⟩:=hm.at';exact⟨x,(h x).1 h1,h2⟩⟩
theorem IV.congr{α:Type}{l m:List α}{f:α->Int}{v:Int}(h:∀x,x∈l↔x∈m)(hm:IV l f v):IV m f v :=
 ⟨fun x hx=>hm.le x ((h x).2 hx),by obtain⟨x,h1,h2⟩:=hm.at';exact⟨x,(h x).1 h1,h2⟩⟩
theorem HY.fun_congr{α:Type}{l:List α}{f g:α->Int}{v:Int}(h:∀x∈l,f x=g x)(hm:HY l f v):HY l g v :=
 ⟨fun x hx=>by rw[<-h x hx];exact hm.le x hx,by obtain⟨x,h1,h2⟩:=hm.at';exact⟨x,h1,by rw[<-h x h1];exact h2⟩⟩
theorem IV.fun_congr{α:Type}{l:List α}{f g:α->Int}{v:Int}(h:∀x∈l,f x=g x)(hm:IV l f v):IV l g v :=
 ⟨fun x hx=>by rw[<-h x hx];exact hm.le x hx,by obtain⟨x,h1,h2⟩:=hm.at';exact⟨x,h1,by rw[<-h x h1];exact h2⟩⟩
def AHZ(z:Int×Int)(ws:List (List Int))(g:Nat->Int->Int)(n:Nat):Int×Int:=(BZ (fun h=>(EE z ((ws.getD h []).map (g h))).1) n,BZ (fun h=>(EE z ((ws.getD h []).map (g h))).2) n)
structure P2(b:AL)(ws:List (List Int)):Prop where
 len:ws.length=b.winds.length
 ok:DD ws
 mem:∀j (hj:j<b.winds.length) (x:Int),x∈ws.getD j []↔x∈(aw b)[j]'(by rw[GK];exact hj)
 ne:∀l∈aw b,l≠[]
theorem ACI{b:AL}(hb:Valid b){T:List (List Int)}(hT:∀t,t∈T↔DE b t=true)(hne:T≠[]):P2 b (bS b.winds.length T):=by
 refine⟨YN _ _,DD.ask _ _ fun t ht=>?_,fun j hj x=>AQI hb hT hne hj x,?_⟩
 ·have:=(hT t).1 ht;simp only[DE,Bool.and_eq_true]at this;exact KT hb this.1
 ·refine(xO hb).1 ?_;obtain⟨t,ht⟩:=bq _ hne;exact bz (EM.2 ((hT t).1 ht))
theorem P2.row{b:AL}{ws:List (List Int)}(h:P2 b ws){j:Nat}(hj:j<b.winds.length):ws.getD j []≠[]:=by have h1:=h.ne _ (bc (by rw[GK];exact hj:j<(aw b).length));obtain⟨x,hx⟩:=bq _ h1;exact bz ((h.mem j hj x).2 hx)
theorem kG{b:AL}(hb:Valid b){ws:List (List Int)}(ha:P2 b ws)(z:Int×Int)(g:Nat->Int->Int)(hz:∀h n,g h n<=z.1):HY (BC b) (NN g 0) (AHZ z ws g b.winds.length).1:=by
 have:=AH1 hb g (fun h=>(EE z ((ws.getD h []).map (g h))).1) fun j hj=>by rw[GK]at hj;rw[WE];exact(uK (fun x _=>hz j x) (ha.row hj)).congr fun x=>ha.mem j hj x
 rw[TU]at this;simp only[Nat.zero_add]at this;exact this
theorem kH{b:AL}(hb:Valid b){ws:List (List Int)}(ha:P2 b ws)(z:Int×Int)(g:Nat->Int->Int)(hz:∀h n,z.2<=g h n):IV (BC b) (NN g 0) (AHZ z ws g b.winds.length).2:=by
 have:=AH2 hb g (fun h=>(EE z ((ws.getD h []).map (g h))).2) fun j hj=>by rw[GK]at hj;rw[WE];exact(uL (fun x _=>hz j x) (ha.row hj)).congr fun x=>ha.mem j hj x
 rw[TU]at this;simp only[Nat.zero_add]at this;exact this
def YO(b:Bool):Int:=if b=true then 1 else 0
theorem J0(b:Bool):0<=YO b/\YO b<=1:=by cases b<;>simp[YO]
theorem AMN(f:Nat->Bool):∀n,((xN f n:Nat):Int)=BZ (fun h=>YO (f h)) n
 |0=>rfl
 |n+1=>by have ih:=AMN f n;simp only[xN,BZ];rw[<-ih];unfold YO;split<;>simp
def EP(b:AL)(s:Int×Int)(h:Nat)(f w:Int):Int:=YO (decide (b.sun.getD h 0=f)&&LR b s f w)
def A1Y(b:AL)(s:Int×Int)(f w:Int):Int:=YO (LR b s f w)
theorem N3(b:AL)(plan:List (List Int))(t:List Int)(r p:Nat):(B7 b plan t r p).good=NN (fun h w=>EP b (r,p) h (BR plan h r) w) 0 t:=by
 rw[fN];refine(AMN _ _).trans (D0 fun h _=>?_);have:K3 b plan r h=decide (b.sun.getD h 0=BR plan h r):=by unfold K3;congr 1;exact propext eq_comm
 rw[this];rfl
def D9(b:AL)(h:Nat)(f:Nat->Int)(w:Int):Int:=BZ (fun r=>BZ (fun p=>EP b (r,p) h (f r) w) b.places.toNat) b.rows.toNat
theorem YP(b:AL)(h:Nat)(f:Nat->Int)(w:Int):0<=D9 b h f w/\D9 b h f w<=b.rows.toNat*b.places.toNat:=by unfold D9;refine HA fun r _=>?_;have:=HA (n:=b.places.toNat) (c:=1) fun p _=>J0 (decide (b.sun.getD h 0=f r)&&LR b (r,p) (f r) w);rw[Int.mul_one]at this;exact this
def fP(b:AL)(plan:List (List Int))(t:List Int):Int:=BZ (fun r=>BZ (fun p=>(B7 b plan t r p).good) b.places.toNat) b.rows.toNat
theorem uE(b:AL)(plan:List (List Int))(t:List Int):fP b plan t=NN (fun h w=>D9 b h (BR plan h) w) 0 t:=by
 rw[fN];unfold fP D9;have e1:∀r p,(B7 b plan t r p).good=BZ (fun h=>EP b (r,p) h (BR plan h r) (t.getD h 0)) t.length:=fun r p=>by rw[N3,fN]
 simp only[e1];rw[<-TR (fun r h=>BZ (fun p=>EP b (r,p) h (BR plan h r) (t.getD h 0)) b.places.toNat) t.length];exact D0 fun r _=>TR (fun p h=>EP b (r,p) h (BR plan h r) (t.getD h 0)) t.length _
def IW(b:AL)(ws:List (List Int))(h:Nat)(f:Nat->Int):Int×Int:=EE (b.rows*b.places,0) ((ws.getD h []).map (D9 b h f))
def MJ(b:AL)(ws plan:List (List Int)):Int×Int:=(BZ (fun h=>(IW b ws h (BR plan h)).1) plan.length,BZ (fun h=>(IW b ws h (BR plan h)).2) plan.length)
def YQ(ws:List (List Int))(g:Nat->Int->Int):Int×Int:=AHZ (1,0) ws g ws.length
theorem xL{b:AL}(hb:Valid b){ws:List (List Int)}(ha:P2 b ws){plan:List (List Int)}(hp:F2 b plan):HY (BC b) (fP b plan) (MJ b ws plan).1/\IV (BC b) (fP b plan) (MJ b ws plan).2:=by
 have hl:plan.length=b.winds.length:=by have:=hp.len;have:=hb.wi;omega
 have hro:=hb.ro;have hpl:=hb.pl;have hz:∀h n,D9 b h (BR plan h) n<=b.rows*b.places:=fun h n=>by
  have:=(YP b h (BR plan h) n).2;have e1:((b.rows.toNat:Nat):Int)=b.rows:=by omega
  have e2:((b.places.toNat:Nat):Int)=b.places:=by omega
  rwa [e1,e2]at this
 have h1:=kG hb ha (b.rows*b.places,0) (fun h w=>D9 b h (BR plan h) w) hz;have h2:=kH hb ha (b.rows*b.places,0) (fun h w=>D9 b h (BR plan h) w) fun h n=>(YP b h (BR plan h) n).1;rw[<-hl]at h1 h2;exact⟨h1.fun_congr fun t _=>(uE b plan t).symm,h2.fun_congr fun t _=>(uE b plan t).symm⟩
theorem xM{b:AL}(hb:Valid b){ws:List (List Int)}(ha:P2 b ws)(g:Nat->Int->Int)(hg:∀h n,0<=g h n/\g h n<=1):HY (BC b) (NN g 0) (YQ ws g).1/\IV (BC b) (NN g 0) (YQ ws g).2:=by unfold YQ;rw[ha.len];exact⟨kG hb ha (1,0) g fun h n=>(hg h n).2,kH hb ha (1,0) g fun h n=>(hg h n).1⟩
theorem ACJ{b:AL}{plan:List (List Int)}(hp:F2 b plan){h r:Nat}(hh:h<plan.length)(hr:r<b.rows.toNat):0<=BR plan h r/\BR plan h r<=3:=by have:=hp.dir h r hh (by have:=hp.row h hh;omega);exact DV.1 this
def TV:Int×Int:=(1099511627776,-1)
def uF(b:AL)(plan:List (List Int))(r p:Nat):Int×Int:=EE TV ((BC b).map fun t=>(B7 b plan t r p).good)
theorem RV{b:AL}{t:List Int}(h:t∈BC b):AV t b.winds=true:=by have:=EM.1 h;simp only[DE,Bool.and_eq_true]at this;exact this.1
theorem TW{b:AL}(hb:Valid b){t:List Int}(h:t∈BC b):t.length<=5:=by have:=CK (RV h);have:=hb.hl;omega
theorem O5(b:AL)(plan:List (List Int))(t:List Int)(r p:Nat):0<=(B7 b plan t r p).sun/\(B7 b plan t r p).sun<=t.length/\0<=(B7 b plan t r p).calm/\(B7 b plan t r p).calm<=t.length/\0<=(B7 b plan t r p).good/\(B7 b plan t r p).good<=t.length:=by have h1:=N4 (K3 b plan r) t.length;have h2:=N4 (JC b plan t r p) t.length;have h3:=N4 (fun h=>K3 b plan r h&&JC b plan t r p h) t.length;simp only[B7,H9];omega
theorem AQJ{α:Type}{l:List α}{f:α->Int}{m n:Int}(h1:HY l f m)(h2:IV l f n)(hf:∀x∈l,0<=f x/\f x<=1000):EE TV (l.map f)=(m,n):=by
 have hne:l≠[]:=by obtain⟨x,hx,_⟩:=h1.at';exact bz hx
 rw[WE];have e1:=(uK (z:=TV.1) (fun x hx=>by have:=hf x hx;simp only[TV];omega) hne).uniq h1;have e2:=(uL (z:=TV.2) (fun x hx=>by have:=hf x hx;simp only[TV];omega) hne).uniq h2;rw[e1,e2]
def kI(b:AL)(ws plan:List (List Int))(r p:Nat):Int×Int:=YQ ws fun h w=>A1Y b (r,p) (BR plan h r) w
def VE(b:AL)(ws plan:List (List Int))(r p:Nat):Int×Int:=YQ ws fun h w=>EP b (r,p) h (BR plan h r) w
theorem kJ{b:AL}(hb:Valid b){ws:List (List Int)}(ha:P2 b ws)(plan:List (List Int))(r p:Nat):HY (BC b) (fun t=>(B7 b plan t r p).good) (VE b ws plan r p).1/\IV (BC b) (fun t=>(B7 b plan t r p).good) (VE b ws plan r p).2:=by obtain⟨h1,h2⟩:=xM hb ha (fun h w=>EP b (r,p) h (BR plan h r) w) fun h n=>J0 _;exact⟨h1.fun_congr fun t _=>(N3 b plan t r p).symm,h2.fun_congr fun t _=>(N3 b plan t r p).symm⟩
theorem QJ{b:AL}(hb:Valid b){ws:List (List Int)}(ha:P2 b ws)(plan:List (List Int))(r p:Nat):uF b plan r p=VE b ws plan r p:=by obtain⟨h1,h2⟩:=kJ hb ha plan r p;exact AQJ h1 h2 fun t ht=>by have:=O5 b plan t r p;have:=TW hb ht;omega
def LO(b:AL)(plan:List (List Int))(r n:Nat):Int:=((xN (K3 b plan r) n:Nat):Int)
def CU(g:List Int):Nat->Int:=fun r=>g.getD r 0
def fQ(l:List Int):List Int:=l++List.replicate (3-l.length) 0
theorem ACK{l:List Int}{r:Nat}:CU (fQ l) r=l.getD r 0:=by
 unfold CU fQ;simp only[bj];rcases Nat.lt_or_ge r l.length with h|h
 ·rw[List.getElem?_append_left h]
 ·rw[List.getElem?_append_right h,bf h,List.getElem?_replicate];split<;>rfl
end Go.Wind
