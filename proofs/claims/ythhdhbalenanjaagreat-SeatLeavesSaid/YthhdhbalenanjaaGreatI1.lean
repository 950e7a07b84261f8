/- The winds that the truths of a beach have, hour by hour. No condition; no program in sight. -/
import Derived.Test.YthhdhbalenanjaaGreatL
open List renaming getD_eq_getElem?_getD->bj,getElem?_eq_getElem->bk,exists_mem_of_ne_nil->bq,mem_or_eq_of_mem_set->bw,mem_singleton->bx,ne_nil_of_mem->bz,eq_of_mem_replicate->bb,getElem_mem->bc
namespace Go.Wind
def OG(ws:List (List Int))(h:Nat)(n:Int):List (List Int):=if n∈ws.getD h [] then ws else ws.set h (ws.getD h []++[n])
def JZ:List (List Int)->Nat->List Int->List (List Int)
 |ws,_,[]=>ws
 |ws,h,n::t=>JZ (OG ws h n) (h+1) t
def eJ(k:Nat)(T:List (List Int)):List (List Int):=T.foldl (fun ws t=>JZ ws 0 t) (List.replicate k [])
theorem mM(ws:List (List Int))(h:Nat)(n:Int):(OG ws h n).length=ws.length:=by unfold OG;split<;>simp
theorem aF:∀(t:List Int) (ws:List (List Int)) (h:Nat),(JZ ws h t).length=ws.length
 |[],_,_=>rfl
 |n::t,ws,h=>(aF t (OG ws h n) (h+1)).trans (mM ws h n)
theorem mN:∀(T:List (List Int)) (ws:List (List Int)),(T.foldl (fun ws t=>JZ ws 0 t) ws).length=ws.length
 |[],_=>rfl
 |t::T,ws=>(mN T (JZ ws 0 t)).trans (aF t ws 0)
theorem mO(k:Nat)(T:List (List Int)):(eJ k T).length=k:=by unfold eJ;rw[mN];simp
theorem AFD(ws:List (List Int))(h:Nat)(l:List Int)(j:Nat)(hj:j<ws.length):(ws.set h l).getD j []=if h=j then l else ws.getD j []:=by
 simp only[bj,List.getElem?_set];by_cases e:h=j
 ·subst e;simp[hj]
 ·simp[e]
theorem AFE{ws:List (List Int)}{h:Nat}{n x:Int}{j:Nat}(hj:j<ws.length):x∈(OG ws h n).getD j []↔x∈ws.getD j []\/(h=j/\n=x):=by
 unfold OG;split
 ·rename_i hn;refine⟨.inl,fun h'=>?_⟩;rcases h' with h'|⟨rfl,rfl⟩
  ·exact h'
  ·exact hn
 ·rw[AFD _ _ _ _ hj];by_cases e:h=j
  ·subst e;rw[if_pos rfl,List.mem_append,bx];simp[eq_comm]
  ·rw[if_neg e];simp[e]
theorem mP:∀(t:List Int) {ws:List (List Int)} {h j:Nat} {x:Int} (_:j<ws.length),x∈(JZ ws h t).getD j []↔x∈ws.getD j []\/∃i,i<t.length/\h+i=j/\t.getD i 0=x
 |[],ws,h,j,x,hj=>by simp[JZ]
 |n::t,ws,h,j,x,hj=>by
  show x∈(JZ (OG ws h n) (h+1) t).getD j []↔_;rw[mP t (by rw[mM];exact hj),AFE hj];constructor
  ·rintro ((h1|⟨h1,h2⟩)|⟨i,h1,h2,h3⟩)
   ·exact .inl h1
   ·exact .inr ⟨0,by simp,by omega,by simpa using h2⟩
   ·exact .inr ⟨i+1,by simpa using h1,by omega,by simpa using h3⟩
  ·rintro (h1|⟨i,h1,h2,h3⟩)
   ·exact .inl (.inl h1)
   ·cases i with
    |zero=>exact .inl (.inr ⟨by omega,by simpa using h3⟩)
    |succ i=>exact .inr ⟨i,by simpa using h1,by omega,by simpa using h3⟩
theorem mQ:∀(T:List (List Int)) {ws:List (List Int)} {j:Nat} {x:Int} (_:j<ws.length),x∈(T.foldl (fun ws t=>JZ ws 0 t) ws).getD j []↔x∈ws.getD j []\/∃t∈T,j<t.length/\t.getD j 0=x
 |[],ws,j,x,hj=>by simp
 |t::T,ws,j,x,hj=>by
  rw[List.foldl_cons,mQ T (by rw[aF];exact hj),mP t hj];constructor
  ·rintro ((h1|⟨i,h1,h2,h3⟩)|⟨u,h1,h2⟩)
   ·exact .inl h1
   ·have:i=j:=by omega
    subst this;exact .inr ⟨t,by simp,h1,h3⟩
   ·exact .inr ⟨u,by simp[h1],h2⟩
  ·rintro (h1|⟨u,h1,h2,h3⟩)
   ·exact .inl (.inl h1)
   ·rcases List.mem_cons.1 h1 with rfl|h1
    ·exact .inl (.inr ⟨j,h2,by omega,h3⟩)
    ·exact .inr ⟨u,h1,h2,h3⟩
theorem wI{k:Nat}{T:List (List Int)}{j:Nat}{x:Int}(hj:j<k):x∈(eJ k T).getD j []↔∃t∈T,j<t.length/\t.getD j 0=x:=by unfold eJ;rw[mQ T (by simpa using hj)];simp[bj,hj]
def jB(ws:List (List Int)):Prop:=∀l∈ws,l.Nodup
theorem sI{ws:List (List Int)}(h:jB ws)(k:Nat)(n:Int):jB (OG ws k n):=by
 unfold OG;split
 ·exact h
 ·rename_i hn;intro l hl;rcases Nat.lt_or_ge k ws.length with hk|hk
  ·rcases bw hl with h1|h1
   ·exact h l h1
   ·subst h1;have hm:ws.getD k []=ws[k]:=by rw[bj,bk hk];rfl
    rw[hm]at hn|-;rw[List.nodup_append];refine⟨h _ (bc hk),by simp,fun a ha b hb=>?_⟩;simp only[bx]at hb;subst hb;exact fun e=>hn (e▸ha)
  ·rw[List.set_eq_of_length_le hk]at hl;exact h l hl
theorem W6:∀(k:Nat) (l:List Int),l.Nodup->(∀x∈l,0<=x/\x<k)->l.length<=k
 |0,l,_,hx=>by
  cases l with
  |nil=>simp
  |cons x l=>have:=hx x (by simp);omega
 |k+1,l,hn,hx=>by
  have h1:(l.erase (k:Int)).length<=k:=W6 k _ (hn.erase _) fun x hm=>by have hm1:=(hn.mem_erase_iff.1 hm);have:=hx x hm1.2;have:=hm1.1;omega
  rw[List.length_erase]at h1;split at h1<;>omega
structure DB(ws:List (List Int)):Prop where
 nd:jB ws
 lo:∀l∈ws,∀x∈l,0<=x/\x<=3
theorem DB.len{ws:List (List Int)}(h:DB ws):∀l∈ws,l.length<=4:=fun l hl=>W6 4 l (h.nd l hl) fun x hx=>by have:=h.lo l hl x hx;omega
theorem DB.add{ws:List (List Int)}(h:DB ws)(k:Nat)(n:Int)(hn:0<=n/\n<=3):DB (OG ws k n):=by
 refine⟨sI h.nd k n,fun l hl x hx=>?_⟩;unfold OG at hl;split at hl
 ·exact h.lo l hl x hx
 ·rcases bw hl with h1|h1
  ·exact h.lo l h1 x hx
  ·subst h1;rcases List.mem_append.1 hx with hx|hx
   ·rcases Nat.lt_or_ge k ws.length with hk|hk
    ·have hm:ws.getD k []=ws[k]:=by rw[bj,bk hk];rfl
     rw[hm]at hx;exact h.lo _ (bc hk) x hx
    ·rw[bj,List.getElem?_eq_none hk]at hx;simp at hx
   ·rw[bx.1 hx];exact hn
theorem DB.adds:∀(t:List Int) {ws:List (List Int)} (_:DB ws) (k:Nat) (_:∀n∈t,0<=n/\n<=3),DB (JZ ws k t)
 |[],_,h,_,_=>h
 |n::t,_,h,k,hn=>DB.adds t (h.add k n (hn n (by simp))) (k+1) fun x hx=>hn x (by simp[hx])
theorem DB.fold:∀(T:List (List Int)) {ws:List (List Int)} (_:DB ws) (_:∀t∈T,∀n∈t,0<=n/\n<=3),DB (T.foldl (fun ws t=>JZ ws 0 t) ws)
 |[],_,h,_=>h
 |t::T,_,h,hT=>DB.fold T (h.adds t 0 (hT t (by simp))) fun u hu=>hT u (by simp[hu])
theorem DB.ask(k:Nat)(T:List (List Int))(hT:∀t∈T,∀n∈t,0<=n/\n<=3):DB (eJ k T):=DB.fold T ⟨fun l hl=>by rw[bb hl];simp,fun l hl x hx=>by rw[bb hl]at hx;cases hx⟩ hT
theorem KV{b:AK}(hb:Valid b){t:List Int}(ht:A1 t b.winds=true):∀n∈t,0<=n/\n<=3:=fun n hn=>by obtain⟨j,hj,rfl⟩:=List.getElem_of_mem hn;have:=Q2 hb ht hj;rw[bj,bk hj,DI]at this;exact this
theorem ATU{b:AK}(hb:Valid b){T:List (List Int)}(hT:∀t,t∈T↔C0 b t=true)(hne:T≠[]){j:Nat}(hj:j<b.winds.length)(x:Int):x∈(eJ b.winds.length T).getD j []↔x∈(aw b)[j]'(by rw[GL];exact hj):=by
 rw[wI hj];constructor
 ·rintro ⟨t,ht,h1,rfl⟩;have:=FZ ((E6 hb).1 ((hT t).1 ht)) j h1 (by rw[GL];exact hj);rwa [bj,bk h1]
 ·intro hx;obtain⟨t0,ht0⟩:=bq _ hne;have h0:=(E6 hb).1 ((hT t0).1 ht0);have hl:=CP h0;have hjt:j<t0.length:=by rw[hl,GL];exact hj
  refine⟨t0.set j x,(hT _).2 ((E6 hb).2 (LY (by simpa using hl) fun k h1 h2=>?_)),by simpa using hjt,by simp[bj,hjt]⟩;rw[List.getElem_set];by_cases e:j=k
  ·subst e;rw[if_pos rfl];exact hx
  ·rw[if_neg e];exact FZ h0 k (by simpa using h1) h2
def FB(f:Nat->Int):Nat->Int
 |0=>0
 |n+1=>FB f n+f n
theorem E5{f g:Nat->Int}:∀{n:Nat},(∀i,i<n->f i=g i)->FB f n=FB g n
 |0,_=>rfl
 |n+1,h=>by simp only[FB];rw[E5 (n:=n) fun i hi=>h i (by omega),h n (by omega)]
theorem jC{f:Nat->Int}{c:Int}:∀{n:Nat},(∀i,i<n->0<=f i/\f i<=c)->0<=FB f n/\FB f n<=n*c
 |0,_=>by simp[FB]
 |n+1,h=>by
  have h1:=jC (n:=n) fun i hi=>h i (by omega);have h2:=h n (by omega);simp only[FB];have e:((n+1:Nat):Int)*c=(n:Int)*c+c:=by rw[Int.natCast_succ,Int.add_mul,Int.one_mul]
  omega
theorem VN(f:Nat->Int):∀(n h:Nat),VO f h n=FB (fun i=>f (h+i)) n
 |0,_=>rfl
 |n+1,h=>by
  have e:∀(g:Nat->Int) (n:Nat),FB g (n+1)=g 0+FB (fun i=>g (i+1)) n:=by
   intro g n;induction n with
   |zero=>simp[FB]
   |succ n ih=>
    have:FB g (n+1+1)=FB g (n+1)+g (n+1):=rfl
    rw[this,ih]
    simp only[FB]
    omega
  rw[e];show f h+VO f (h+1) n=_;rw[VN f n (h+1)];congr 1;exact E5 fun i _=>by congr 1;omega
theorem AFF(g:Nat->Int->Int):∀(t:List Int) (h:Nat),OJ g h t=VO (fun i=>g i (t.getD (i-h) 0)) h t.length
 |[],_=>rfl
 |x::t,h=>by show g h x+OJ g (h+1) t=g h ((x::t).getD (h-h) 0)+VO (fun i=>g i ((x::t).getD (i-h) 0)) (h+1) t.length;rw[Nat.sub_self,AFF g t (h+1)];congr 1;rw[VN,VN];refine E5 fun i _=>?_;rw[show h+1+i-(h+1)=i by omega,show h+1+i-h=i+1 by omega];rfl
theorem ALX(g:Nat->Int->Int)(t:List Int):OJ g 0 t=FB (fun h=>g h (t.getD h 0)) t.length:=by rw[AFF,VN];exact E5 fun i _=>by simp
def DC(z:Int×Int)(l:List Int):Int×Int:=l.foldl (fun r n=>(min r.1 n,max r.2 n)) z
theorem YO:∀(l:List Int) (z:Int×Int),DC z l=(eM z.1 l,eN z.2 l)
 |[],_=>rfl
 |n::l,z=>YO l (min z.1 n,max z.2 n)
theorem wJ:∀(l:List Int) (z:Int×Int) (lo hi:Int),(∀x∈l,lo<=x/\x<=hi)->lo<=z.1->z.2<=hi->lo<=(DC z l).1/\(DC z l).1<=z.1/\z.2<=(DC z l).2/\(DC z l).2<=hi
 |[],z,lo,hi,_,h1,h2=>⟨h1,Int.le_refl _,Int.le_refl _,h2⟩
 |n::l,z,lo,hi,h,h1,h2=>by have hn:=h n (by simp);have:=wJ l (min z.1 n,max z.2 n) lo hi (fun x hx=>h x (by simp[hx])) (by simp only;omega) (by simp only;omega);have e:DC z (n::l)=DC (min z.1 n,max z.2 n) l:=rfl;rw[e];simp only at this;omega
theorem IY.congr{α:Type}{l m:List α}{f:α->Int}{v:Int}(h:∀x,x∈l↔x∈m)(hm:IY l f v):IY m f v :=
 ⟨fun x hx=>hm.le x ((h x).2 hx),by obtain⟨x,h1,h2⟩:=hm.at';exact⟨x,(h x).1 h1,h2⟩⟩
theorem JJ.congr{α:Type}{l m:List α}{f:α->Int}{v:Int}(h:∀x,x∈l↔x∈m)(hm:JJ l f v):JJ m f v :=
 ⟨fun x hx=>hm.le x ((h x).2 hx),by obtain⟨x,h1,h2⟩:=hm.at';exact⟨x,(h x).1 h1,h2⟩⟩
theorem IY.fun_congr{α:Type}{l:List α}{f g:α->Int}{v:Int}(h:∀x∈l,f x=g x)(hm:IY l f v):IY l g v :=
 ⟨fun x hx=>by rw[<-h x hx];exact hm.le x hx,by obtain⟨x,h1,h2⟩:=hm.at';exact⟨x,h1,by rw[<-h x h1];exact h2⟩⟩
theorem JJ.fun_congr{α:Type}{l:List α}{f g:α->Int}{v:Int}(h:∀x∈l,f x=g x)(hm:JJ l f v):JJ l g v :=
 ⟨fun x hx=>by rw[<-h x hx];exact hm.le x hx,by obtain⟨x,h1,h2⟩:=hm.at';exact⟨x,h1,by rw[<-h x h1];exact h2⟩⟩
def ALY(z:Int×Int)(ws:List (List Int))(g:Nat->Int->Int)(n:Nat):Int×Int:=(FB (fun h=>(DC z ((ws.getD h []).map (g h))).1) n,FB (fun h=>(DC z ((ws.getD h []).map (g h))).2) n)
structure TM(b:AK)(ws:List (List Int)):Prop where
 len:ws.length=b.winds.length
 ok:DB ws
 mem:∀j (hj:j<b.winds.length) (x:Int),x∈ws.getD j []↔x∈(aw b)[j]'(by rw[GL];exact hj)
 ne:∀l∈aw b,l≠[]
theorem AFG{b:AK}(hb:Valid b){T:List (List Int)}(hT:∀t,t∈T↔C0 b t=true)(hne:T≠[]):TM b (eJ b.winds.length T):=by
 refine⟨mO _ _,DB.ask _ _ fun t ht=>?_,fun j hj x=>ATU hb hT hne hj x,?_⟩
 ·have:=(hT t).1 ht;simp only[C0,Bool.and_eq_true]at this;exact KV hb this.1
 ·refine(AAF hb).1 ?_;obtain⟨t,ht⟩:=bq _ hne;exact bz (EL.2 ((hT t).1 ht))
theorem TM.row{b:AK}{ws:List (List Int)}(h:TM b ws){j:Nat}(hj:j<b.winds.length):ws.getD j []≠[]:=by have h1:=h.ne _ (bc (by rw[GL];exact hj:j<(aw b).length));obtain⟨x,hx⟩:=bq _ h1;exact bz ((h.mem j hj x).2 hx)
theorem AFH{b:AK}(hb:Valid b){ws:List (List Int)}(ha:TM b ws)(z:Int×Int)(g:Nat->Int->Int)(hz:∀h n,g h n<=z.1):IY (BL b) (OJ g 0) (ALY z ws g b.winds.length).1:=by
 have:=AL1 hb g (fun h=>(DC z ((ws.getD h []).map (g h))).1) fun j hj=>by rw[GL]at hj;rw[YO];exact(wT (fun x _=>hz j x) (ha.row hj)).congr fun x=>ha.mem j hj x
 rw[VN]at this;simp only[Nat.zero_add]at this;exact this
theorem AFI{b:AK}(hb:Valid b){ws:List (List Int)}(ha:TM b ws)(z:Int×Int)(g:Nat->Int->Int)(hz:∀h n,z.2<=g h n):JJ (BL b) (OJ g 0) (ALY z ws g b.winds.length).2:=by
 have:=AL2 hb g (fun h=>(DC z ((ws.getD h []).map (g h))).2) fun j hj=>by rw[GL]at hj;rw[YO];exact(wU (fun x _=>hz j x) (ha.row hj)).congr fun x=>ha.mem j hj x
 rw[VN]at this;simp only[Nat.zero_add]at this;exact this
def aG(b:Bool):Int:=if b=true then 1 else 0
theorem aH(b:Bool):0<=aG b/\aG b<=1:=by cases b<;>simp[aG]
theorem AP2(f:Nat->Bool):∀n,((lN f n:Nat):Int)=FB (fun h=>aG (f h)) n
 |0=>rfl
 |n+1=>by have ih:=AP2 f n;simp only[lN,FB];rw[<-ih];unfold aG;split<;>simp
def wK(b:AK)(s:Int×Int)(h:Nat)(f w:Int):Int:=aG (decide (b.sun.getD h 0=f)&&TQ b s f w)
def A5H(b:AK)(s:Int×Int)(f w:Int):Int:=aG (TQ b s f w)
theorem W7(b:AK)(plan:List (List Int))(t:List Int)(r p:Nat):(CC b plan t r p).good=OJ (fun h w=>wK b (r,p) h (CW plan h r) w) 0 t:=by
 rw[ALX];refine(AP2 _ _).trans (E5 fun h _=>?_);have:MO b plan r h=decide (b.sun.getD h 0=CW plan h r):=by unfold MO;congr 1;exact propext eq_comm
 rw[this];rfl
def mR(b:AK)(h:Nat)(f:Nat->Int)(w:Int):Int:=FB (fun r=>FB (fun p=>wK b (r,p) h (f r) w) b.places.toNat) b.rows.toNat
def fV(b:AK)(ws:List (List Int))(h:Nat)(f:Nat->Int):Int×Int:=DC (b.rows*b.places,0) ((ws.getD h []).map (mR b h f))
def ATV(b:AK)(ws plan:List (List Int)):Int×Int:=(FB (fun h=>(fV b ws h (CW plan h)).1) plan.length,FB (fun h=>(fV b ws h (CW plan h)).2) plan.length)
def aI(ws:List (List Int))(g:Nat->Int->Int):Int×Int:=ALY (1,0) ws g ws.length
theorem AAE{b:AK}(hb:Valid b){ws:List (List Int)}(ha:TM b ws)(g:Nat->Int->Int)(hg:∀h n,0<=g h n/\g h n<=1):IY (BL b) (OJ g 0) (aI ws g).1/\JJ (BL b) (OJ g 0) (aI ws g).2:=by unfold aI;rw[ha.len];exact⟨AFH hb ha (1,0) g fun h n=>(hg h n).2,AFI hb ha (1,0) g fun h n=>(hg h n).1⟩
def DD:Int×Int:=(1099511627776,-1)
def wL(b:AK)(plan:List (List Int))(r p:Nat):Int×Int:=DC DD ((BL b).map fun t=>(CC b plan t r p).good)
theorem TN{b:AK}{t:List Int}(h:t∈BL b):A1 t b.winds=true:=by have:=EL.1 h;simp only[C0,Bool.and_eq_true]at this;exact this.1
theorem fW{b:AK}(hb:Valid b){t:List Int}(h:t∈BL b):t.length<=5:=by have:=CP (TN h);have:=hb.hl;omega
theorem fX(b:AK)(plan:List (List Int))(t:List Int)(r p:Nat):0<=(CC b plan t r p).sun/\(CC b plan t r p).sun<=t.length/\0<=(CC b plan t r p).calm/\(CC b plan t r p).calm<=t.length/\0<=(CC b plan t r p).good/\(CC b plan t r p).good<=t.length:=by have h1:=OI (MO b plan r) t.length;have h2:=OI (aL b plan t r p) t.length;have h3:=OI (fun h=>MO b plan r h&&aL b plan t r p h) t.length;simp only[CC,H9];omega
theorem ATW{α:Type}{l:List α}{f:α->Int}{m n:Int}(h1:IY l f m)(h2:JJ l f n)(hf:∀x∈l,0<=f x/\f x<=1000):DC DD (l.map f)=(m,n):=by
 have hne:l≠[]:=by obtain⟨x,hx,_⟩:=h1.at';exact bz hx
 rw[YO];have e1:=(wT (z:=DD.1) (fun x hx=>by have:=hf x hx;simp only[DD];omega) hne).uniq h1;have e2:=(wU (z:=DD.2) (fun x hx=>by have:=hf x hx;simp only[DD];omega) hne).uniq h2;rw[e1,e2]
def mS(b:AK)(ws plan:List (List Int))(r p:Nat):Int×Int:=aI ws fun h w=>A5H b (r,p) (CW plan h r) w
def W8(b:AK)(ws plan:List (List Int))(r p:Nat):Int×Int:=aI ws fun h w=>wK b (r,p) h (CW plan h r) w
theorem mT{b:AK}(hb:Valid b){ws:List (List Int)}(ha:TM b ws)(plan:List (List Int))(r p:Nat):IY (BL b) (fun t=>(CC b plan t r p).good) (W8 b ws plan r p).1/\JJ (BL b) (fun t=>(CC b plan t r p).good) (W8 b ws plan r p).2:=by obtain⟨h1,h2⟩:=AAE hb ha (fun h w=>wK b (r,p) h (CW plan h r) w) fun h n=>aH _;exact⟨h1.fun_congr fun t _=>(W7 b plan t r p).symm,h2.fun_congr fun t _=>(W7 b plan t r p).symm⟩
theorem Q0{b:AK}(hb:Valid b){ws:List (List Int)}(ha:TM b ws)(plan:List (List Int))(r p:Nat):wL b plan r p=W8 b ws plan r p:=by obtain⟨h1,h2⟩:=mT hb ha plan r p;exact ATW h1 h2 fun t ht=>by have:=fX b plan t r p;have:=fW hb ht;omega
def LW(b:AK)(plan:List (List Int))(r n:Nat):Int:=((lN (MO b plan r) n:Nat):Int)
def A5I(g:List Int):Nat->Int:=fun r=>g.getD r 0
def AFJ(b:AK)(ws:List (List Int))(h:Nat)(g:List Int):Int:=(fV b ws h (A5I g)).1
def ALZ(b:AK)(ws:List (List Int)):Nat->List (List Int)->Int
 |_,[]=>0
 |h,g::gs=>AFJ b ws h g+ALZ b ws (h+1) gs
theorem aJ(g:Nat->Int):∀n,FB g (n+1)=g 0+FB (fun i=>g (i+1)) n
 |0=>by simp[FB]
 |n+1=>by have:FB g (n+1+1)=FB g (n+1)+g (n+1):=rfl;rw[this,aJ g n];simp only[FB];omega
theorem AFK(b:AK)(ws:List (List Int)):∀(gs:List (List Int)) (h:Nat),ALZ b ws h gs=FB (fun i=>AFJ b ws (h+i) (gs.getD i [])) gs.length
 |[],_=>rfl
 |g::gs,h=>by rw[List.length_cons,aJ];show AFJ b ws h g+ALZ b ws (h+1) gs=_;rw[AFK b ws gs (h+1)];congr 1;exact E5 fun i _=>by rw[show h+1+i=h+(i+1) by omega];rfl
theorem mU{b:AK}{h:Nat}{f g:Nat->Int}(hfg:∀r,r<b.rows.toNat->f r=g r)(w:Int):mR b h f w=mR b h g w :=
 E5 fun r hr=>by rw[hfg r hr]
theorem mV{b:AK}{ws:List (List Int)}{h:Nat}{f g:Nat->Int}(hfg:∀r,r<b.rows.toNat->f r=g r):fV b ws h f=fV b ws h g:=by unfold fV;rw[show mR b h f=mR b h g from funext fun w=>mU hfg w]
def A5J(b:AK)(plan gs:List (List Int)):Prop:=plan.length=gs.length/\∀h,h<plan.length->∀r,r<b.rows.toNat->CW plan h r=A5I (gs.getD h []) r
theorem VE{b:AK}{ws plan gs:List (List Int)}(h:A5J b plan gs):(ATV b ws plan).1=ALZ b ws 0 gs:=by rw[AFK,<-h.1];refine E5 fun i hi=>?_;rw[Nat.zero_add];exact congrArg Prod.fst (mV fun r hr=>h.2 i hi r hr)
end Go.Wind
