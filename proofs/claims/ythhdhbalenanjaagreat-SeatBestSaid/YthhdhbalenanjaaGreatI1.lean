/- The winds that the truths of a beach have, hour by hour. No condition; no program in sight. -/
import Derived.Test.YthhdhbalenanjaaGreatL
open List renaming getD_eq_getElem?_getD->bj,getElem?_eq_getElem->bk,exists_mem_of_ne_nil->bq,mem_or_eq_of_mem_set->bw,mem_singleton->bx,ne_nil_of_mem->bz,eq_of_mem_replicate->bb,getElem_mem->bc
namespace Go.Wind
def O6(ws:List (List Int))(h:Nat)(n:Int):List (List Int):=if n∈ws.getD h [] then ws else ws.set h (ws.getD h []++[n])
def KG:List (List Int)->Nat->List Int->List (List Int)
 |ws,_,[]=>ws
 |ws,h,n::t=>KG (O6 ws h n) (h+1) t
def eX(k:Nat)(T:List (List Int)):List (List Int):=T.foldl (fun ws t=>KG ws 0 t) (List.replicate k [])
theorem nL(ws:List (List Int))(h:Nat)(n:Int):(O6 ws h n).length=ws.length:=by unfold O6;split<;>simp
theorem aO:∀(t:List Int) (ws:List (List Int)) (h:Nat),(KG ws h t).length=ws.length
 |[],_,_=>rfl
 |n::t,ws,h=>(aO t (O6 ws h n) (h+1)).trans (nL ws h n)
theorem nM:∀(T:List (List Int)) (ws:List (List Int)),(T.foldl (fun ws t=>KG ws 0 t) ws).length=ws.length
 |[],_=>rfl
 |t::T,ws=>(nM T (KG ws 0 t)).trans (aO t ws 0)
theorem nN(k:Nat)(T:List (List Int)):(eX k T).length=k:=by unfold eX;rw[nM];simp
theorem AF5(ws:List (List Int))(h:Nat)(l:List Int)(j:Nat)(hj:j<ws.length):(ws.set h l).getD j []=if h=j then l else ws.getD j []:=by
 simp only[bj,List.getElem?_set];by_cases e:h=j
 ·subst e;simp[hj]
 ·simp[e]
theorem AF6{ws:List (List Int)}{h:Nat}{n x:Int}{j:Nat}(hj:j<ws.length):x∈(O6 ws h n).getD j []↔x∈ws.getD j []\/(h=j/\n=x):=by
 unfold O6;split
 ·rename_i hn;refine⟨.inl,fun h'=>?_⟩;rcases h' with h'|⟨rfl,rfl⟩
  ·exact h'
  ·exact hn
 ·rw[AF5 _ _ _ _ hj];by_cases e:h=j
  ·subst e;rw[if_pos rfl,List.mem_append,bx];simp[eq_comm]
  ·rw[if_neg e];simp[e]
theorem nO:∀(t:List Int) {ws:List (List Int)} {h j:Nat} {x:Int} (_:j<ws.length),x∈(KG ws h t).getD j []↔x∈ws.getD j []\/∃i,i<t.length/\h+i=j/\t.getD i 0=x
 |[],ws,h,j,x,hj=>by simp[KG]
 |n::t,ws,h,j,x,hj=>by
  show x∈(KG (O6 ws h n) (h+1) t).getD j []↔_;rw[nO t (by rw[nL];exact hj),AF6 hj];constructor
  ·rintro ((h1|⟨h1,h2⟩)|⟨i,h1,h2,h3⟩)
   ·exact .inl h1
   ·exact .inr ⟨0,by simp,by omega,by simpa using h2⟩
   ·exact .inr ⟨i+1,by simpa using h1,by omega,by simpa using h3⟩
  ·rintro (h1|⟨i,h1,h2,h3⟩)
   ·exact .inl (.inl h1)
   ·cases i with
    |zero=>exact .inl (.inr ⟨by omega,by simpa using h3⟩)
    |succ i=>exact .inr ⟨i,by simpa using h1,by omega,by simpa using h3⟩
theorem nP:∀(T:List (List Int)) {ws:List (List Int)} {j:Nat} {x:Int} (_:j<ws.length),x∈(T.foldl (fun ws t=>KG ws 0 t) ws).getD j []↔x∈ws.getD j []\/∃t∈T,j<t.length/\t.getD j 0=x
 |[],ws,j,x,hj=>by simp
 |t::T,ws,j,x,hj=>by
  rw[List.foldl_cons,nP T (by rw[aO];exact hj),nO t hj];constructor
  ·rintro ((h1|⟨i,h1,h2,h3⟩)|⟨u,h1,h2⟩)
   ·exact .inl h1
   ·have:i=j:=by omega
    subst this;exact .inr ⟨t,by simp,h1,h3⟩
   ·exact .inr ⟨u,by simp[h1],h2⟩
  ·rintro (h1|⟨u,h1,h2,h3⟩)
   ·exact .inl (.inl h1)
   ·rcases List.mem_cons.1 h1 with rfl|h1
    ·exact .inl (.inr ⟨j,h2,by omega,h3⟩)
    ·exact .inr ⟨u,h1,h2,h3⟩
theorem xR{k:Nat}{T:List (List Int)}{j:Nat}{x:Int}(hj:j<k):x∈(eX k T).getD j []↔∃t∈T,j<t.length/\t.getD j 0=x:=by unfold eX;rw[nP T (by simpa using hj)];simp[bj,hj]
def jT(ws:List (List Int)):Prop:=∀l∈ws,l.Nodup
theorem tF{ws:List (List Int)}(h:jT ws)(k:Nat)(n:Int):jT (O6 ws k n):=by
 unfold O6;split
 ·exact h
 ·rename_i hn;intro l hl;rcases Nat.lt_or_ge k ws.length with hk|hk
  ·rcases bw hl with h1|h1
   ·exact h l h1
   ·subst h1;have hm:ws.getD k []=ws[k]:=by rw[bj,bk hk];rfl
    rw[hm]at hn|-;rw[List.nodup_append];refine⟨h _ (bc hk),by simp,fun a ha b hb=>?_⟩;simp only[bx]at hb;subst hb;exact fun e=>hn (e▸ha)
  ·rw[List.set_eq_of_length_le hk]at hl;exact h l hl
theorem XO:∀(k:Nat) (l:List Int),l.Nodup->(∀x∈l,0<=x/\x<k)->l.length<=k
 |0,l,_,hx=>by
  cases l with
  |nil=>simp
  |cons x l=>have:=hx x (by simp);omega
 |k+1,l,hn,hx=>by
  have h1:(l.erase (k:Int)).length<=k:=XO k _ (hn.erase _) fun x hm=>by have hm1:=(hn.mem_erase_iff.1 hm);have:=hx x hm1.2;have:=hm1.1;omega
  rw[List.length_erase]at h1;split at h1<;>omega
structure DM(ws:List (List Int)):Prop where
 nd:jT ws
 lo:∀l∈ws,∀x∈l,0<=x/\x<=3
theorem DM.len{ws:List (List Int)}(h:DM ws):∀l∈ws,l.length<=4:=fun l hl=>XO 4 l (h.nd l hl) fun x hx=>by have:=h.lo l hl x hx;omega
theorem DM.add{ws:List (List Int)}(h:DM ws)(k:Nat)(n:Int)(hn:0<=n/\n<=3):DM (O6 ws k n):=by
 refine⟨tF h.nd k n,fun l hl x hx=>?_⟩;unfold O6 at hl;split at hl
 ·exact h.lo l hl x hx
 ·rcases bw hl with h1|h1
  ·exact h.lo l h1 x hx
  ·subst h1;rcases List.mem_append.1 hx with hx|hx
   ·rcases Nat.lt_or_ge k ws.length with hk|hk
    ·have hm:ws.getD k []=ws[k]:=by rw[bj,bk hk];rfl
     rw[hm]at hx;exact h.lo _ (bc hk) x hx
    ·rw[bj,List.getElem?_eq_none hk]at hx;simp at hx
   ·rw[bx.1 hx];exact hn
theorem DM.adds:∀(t:List Int) {ws:List (List Int)} (_:DM ws) (k:Nat) (_:∀n∈t,0<=n/\n<=3),DM (KG ws k t)
 |[],_,h,_,_=>h
 |n::t,_,h,k,hn=>DM.adds t (h.add k n (hn n (by simp))) (k+1) fun x hx=>hn x (by simp[hx])
theorem DM.fold:∀(T:List (List Int)) {ws:List (List Int)} (_:DM ws) (_:∀t∈T,∀n∈t,0<=n/\n<=3),DM (T.foldl (fun ws t=>KG ws 0 t) ws)
 |[],_,h,_=>h
 |t::T,_,h,hT=>DM.fold T (h.adds t 0 (hT t (by simp))) fun u hu=>hT u (by simp[hu])
theorem DM.ask(k:Nat)(T:List (List Int))(hT:∀t∈T,∀n∈t,0<=n/\n<=3):DM (eX k T):=DM.fold T ⟨fun l hl=>by rw[bb hl];simp,fun l hl x hx=>by rw[bb hl]at hx;cases hx⟩ hT
theorem K9{b:AL}(hb:Valid b){t:List Int}(ht:A4 t b.winds=true):∀n∈t,0<=n/\n<=3:=fun n hn=>by obtain⟨j,hj,rfl⟩:=List.getElem_of_mem hn;have:=R4 hb ht hj;rw[bj,bk hj,C6]at this;exact this
theorem AUS{b:AL}(hb:Valid b){T:List (List Int)}(hT:∀t,t∈T↔DD b t=true)(hne:T≠[]){j:Nat}(hj:j<b.winds.length)(x:Int):x∈(eX b.winds.length T).getD j []↔x∈(aw b)[j]'(by rw[GQ];exact hj):=by
 rw[xR hj];constructor
 ·rintro ⟨t,ht,h1,rfl⟩;have:=F3 ((FE hb).1 ((hT t).1 ht)) j h1 (by rw[GQ];exact hj);rwa [bj,bk h1]
 ·intro hx;obtain⟨t0,ht0⟩:=bq _ hne;have h0:=(FE hb).1 ((hT t0).1 ht0);have hl:=C3 h0;have hjt:j<t0.length:=by rw[hl,GQ];exact hj
  refine⟨t0.set j x,(hT _).2 ((FE hb).2 (MK (by simpa using hl) fun k h1 h2=>?_)),by simpa using hjt,by simp[bj,hjt]⟩;rw[List.getElem_set];by_cases e:j=k
  ·subst e;rw[if_pos rfl];exact hx
  ·rw[if_neg e];exact F3 h0 k (by simpa using h1) h2
def EY(f:Nat->Int):Nat->Int
 |0=>0
 |n+1=>EY f n+f n
theorem FD{f g:Nat->Int}:∀{n:Nat},(∀i,i<n->f i=g i)->EY f n=EY g n
 |0,_=>rfl
 |n+1,h=>by simp only[EY];rw[FD (n:=n) fun i hi=>h i (by omega),h n (by omega)]
theorem M9{f:Nat->Int}{c:Int}:∀{n:Nat},(∀i,i<n->0<=f i/\f i<=c)->0<=EY f n/\EY f n<=n*c
 |0,_=>by simp[EY]
 |n+1,h=>by
  have h1:=M9 (n:=n) fun i hi=>h i (by omega);have h2:=h n (by omega);simp only[EY];have e:((n+1:Nat):Int)*c=(n:Int)*c+c:=by rw[Int.natCast_succ,Int.add_mul,Int.one_mul]
  omega
theorem WC(f:Nat->Int):∀(n h:Nat),WD f h n=EY (fun i=>f (h+i)) n
 |0,_=>rfl
 |n+1,h=>by
  have e:∀(g:Nat->Int) (n:Nat),EY g (n+1)=g 0+EY (fun i=>g (i+1)) n:=by
   intro g n;induction n with
   |zero=>simp[EY]
   |succ n ih=>
    have:EY g (n+1+1)=EY g (n+1)+g (n+1):=rfl
    rw[this,ih]
    simp only[EY]
    omega
  rw[e];show f h+WD f (h+1) n=_;rw[WC f n (h+1)];congr 1;exact FD fun i _=>by congr 1;omega
theorem AF7(g:Nat->Int->Int):∀(t:List Int) (h:Nat),O9 g h t=WD (fun i=>g i (t.getD (i-h) 0)) h t.length
 |[],_=>rfl
 |x::t,h=>by show g h x+O9 g (h+1) t=g h ((x::t).getD (h-h) 0)+WD (fun i=>g i ((x::t).getD (i-h) 0)) (h+1) t.length;rw[Nat.sub_self,AF7 g t (h+1)];congr 1;rw[WC,WC];refine FD fun i _=>?_;rw[show h+1+i-(h+1)=i by omega,show h+1+i-h=i+1 by omega];rfl
theorem AMO(g:Nat->Int->Int)(t:List Int):O9 g 0 t=EY (fun h=>g h (t.getD h 0)) t.length:=by rw[AF7,WC];exact FD fun i _=>by simp
def DN(z:Int×Int)(l:List Int):Int×Int:=l.foldl (fun r n=>(min r.1 n,max r.2 n)) z
theorem YY:∀(l:List Int) (z:Int×Int),DN z l=(eZ z.1 l,fA z.2 l)
 |[],_=>rfl
 |n::l,z=>YY l (min z.1 n,max z.2 n)
theorem xS:∀(l:List Int) (z:Int×Int) (lo hi:Int),(∀x∈l,lo<=x/\x<=hi)->lo<=z.1->z.2<=hi->lo<=(DN z l).1/\(DN z l).1<=z.1/\z.2<=(DN z l).2/\(DN z l).2<=hi
 |[],z,lo,hi,_,h1,h2=>⟨h1,Int.le_refl _,Int.le_refl _,h2⟩
 |n::l,z,lo,hi,h,h1,h2=>by have hn:=h n (by simp);have:=xS l (min z.1 n,max z.2 n) lo hi (fun x hx=>h x (by simp[hx])) (by simp only;omega) (by simp only;omega);have e:DN z (n::l)=DN (min z.1 n,max z.2 n) l:=rfl;rw[e];simp only at this;omega
theorem I4.congr{α:Type}{l m:List α}{f:α->Int}{v:Int}(h:∀x,x∈l↔x∈m)(hm:I4 l f v):I4 m f v :=
 ⟨fun x hx=>hm.le x ((h x).2 hx),by obtain⟨x,h1,h2⟩:=hm.at';exact⟨x,(h x).1 h1,h2⟩⟩
theorem JV.congr{α:Type}{l m:List α}{f:α->Int}{v:Int}(h:∀x,x∈l↔x∈m)(hm:JV l f v):JV m f v :=
 ⟨fun x hx=>hm.le x ((h x).2 hx),by obtain⟨x,h1,h2⟩:=hm.at';exact⟨x,(h x).1 h1,h2⟩⟩
theorem I4.fun_congr{α:Type}{l:List α}{f g:α->Int}{v:Int}(h:∀x∈l,f x=g x)(hm:I4 l f v):I4 l g v :=
 ⟨fun x hx=>by rw[<-h x hx];exact hm.le x hx,by obtain⟨x,h1,h2⟩:=hm.at';exact⟨x,h1,by rw[<-h x h1];exact h2⟩⟩
theorem JV.fun_congr{α:Type}{l:List α}{f g:α->Int}{v:Int}(h:∀x∈l,f x=g x)(hm:JV l f v):JV l g v :=
 ⟨fun x hx=>by rw[<-h x hx];exact hm.le x hx,by obtain⟨x,h1,h2⟩:=hm.at';exact⟨x,h1,by rw[<-h x h1];exact h2⟩⟩
def AMP(z:Int×Int)(ws:List (List Int))(g:Nat->Int->Int)(n:Nat):Int×Int:=(EY (fun h=>(DN z ((ws.getD h []).map (g h))).1) n,EY (fun h=>(DN z ((ws.getD h []).map (g h))).2) n)
structure UH(b:AL)(ws:List (List Int)):Prop where
 len:ws.length=b.winds.length
 ok:DM ws
 mem:∀j (hj:j<b.winds.length) (x:Int),x∈ws.getD j []↔x∈(aw b)[j]'(by rw[GQ];exact hj)
 ne:∀l∈aw b,l≠[]
theorem AF8{b:AL}(hb:Valid b){T:List (List Int)}(hT:∀t,t∈T↔DD b t=true)(hne:T≠[]):UH b (eX b.winds.length T):=by
 refine⟨nN _ _,DM.ask _ _ fun t ht=>?_,fun j hj x=>AUS hb hT hne hj x,?_⟩
 ·have:=(hT t).1 ht;simp only[DD,Bool.and_eq_true]at this;exact K9 hb this.1
 ·refine(ABG hb).1 ?_;obtain⟨t,ht⟩:=bq _ hne;exact bz (EZ.2 ((hT t).1 ht))
theorem UH.row{b:AL}{ws:List (List Int)}(h:UH b ws){j:Nat}(hj:j<b.winds.length):ws.getD j []≠[]:=by have h1:=h.ne _ (bc (by rw[GQ];exact hj:j<(aw b).length));obtain⟨x,hx⟩:=bq _ h1;exact bz ((h.mem j hj x).2 hx)
theorem AF9{b:AL}(hb:Valid b){ws:List (List Int)}(ha:UH b ws)(z:Int×Int)(g:Nat->Int->Int)(hz:∀h n,g h n<=z.1):I4 (BS b) (O9 g 0) (AMP z ws g b.winds.length).1:=by
 have:=AMS hb g (fun h=>(DN z ((ws.getD h []).map (g h))).1) fun j hj=>by rw[GQ]at hj;rw[YY];exact(yC (fun x _=>hz j x) (ha.row hj)).congr fun x=>ha.mem j hj x
 rw[WC]at this;simp only[Nat.zero_add]at this;exact this
theorem AGA{b:AL}(hb:Valid b){ws:List (List Int)}(ha:UH b ws)(z:Int×Int)(g:Nat->Int->Int)(hz:∀h n,z.2<=g h n):JV (BS b) (O9 g 0) (AMP z ws g b.winds.length).2:=by
 have:=AMT hb g (fun h=>(DN z ((ws.getD h []).map (g h))).2) fun j hj=>by rw[GQ]at hj;rw[YY];exact(yD (fun x _=>hz j x) (ha.row hj)).congr fun x=>ha.mem j hj x
 rw[WC]at this;simp only[Nat.zero_add]at this;exact this
def aP(b:Bool):Int:=if b=true then 1 else 0
theorem aQ(b:Bool):0<=aP b/\aP b<=1:=by cases b<;>simp[aP]
theorem AQX(f:Nat->Bool):∀n,((mE f n:Nat):Int)=EY (fun h=>aP (f h)) n
 |0=>rfl
 |n+1=>by have ih:=AQX f n;simp only[mE,EY];rw[<-ih];unfold aP;split<;>simp
def xT(b:AL)(s:Int×Int)(h:Nat)(f w:Int):Int:=aP (decide (b.sun.getD h 0=f)&&UL b s f w)
def A6T(b:AL)(s:Int×Int)(f w:Int):Int:=aP (UL b s f w)
theorem XP(b:AL)(plan:List (List Int))(t:List Int)(r p:Nat):(CG b plan t r p).good=O9 (fun h w=>xT b (r,p) h (DA plan h r) w) 0 t:=by
 rw[AMO];refine(AQX _ _).trans (FD fun h _=>?_);have:NA b plan r h=decide (b.sun.getD h 0=DA plan h r):=by unfold NA;congr 1;exact propext eq_comm
 rw[this];rfl
def nQ(b:AL)(h:Nat)(f:Nat->Int)(w:Int):Int:=EY (fun r=>EY (fun p=>xT b (r,p) h (f r) w) b.places.toNat) b.rows.toNat
def gM(b:AL)(ws:List (List Int))(h:Nat)(f:Nat->Int):Int×Int:=DN (b.rows*b.places,0) ((ws.getD h []).map (nQ b h f))
def AUT(b:AL)(ws plan:List (List Int)):Int×Int:=(EY (fun h=>(gM b ws h (DA plan h)).1) plan.length,EY (fun h=>(gM b ws h (DA plan h)).2) plan.length)
def aR(ws:List (List Int))(g:Nat->Int->Int):Int×Int:=AMP (1,0) ws g ws.length
theorem ABF{b:AL}(hb:Valid b){ws:List (List Int)}(ha:UH b ws)(g:Nat->Int->Int)(hg:∀h n,0<=g h n/\g h n<=1):I4 (BS b) (O9 g 0) (aR ws g).1/\JV (BS b) (O9 g 0) (aR ws g).2:=by unfold aR;rw[ha.len];exact⟨AF9 hb ha (1,0) g fun h n=>(hg h n).2,AGA hb ha (1,0) g fun h n=>(hg h n).1⟩
def DO:Int×Int:=(1099511627776,-1)
def xU(b:AL)(plan:List (List Int))(r p:Nat):Int×Int:=DN DO ((BS b).map fun t=>(CG b plan t r p).good)
theorem UI{b:AL}{t:List Int}(h:t∈BS b):A4 t b.winds=true:=by have:=EZ.1 h;simp only[DD,Bool.and_eq_true]at this;exact this.1
theorem gN{b:AL}(hb:Valid b){t:List Int}(h:t∈BS b):t.length<=5:=by have:=C3 (UI h);have:=hb.hl;omega
theorem gO(b:AL)(plan:List (List Int))(t:List Int)(r p:Nat):0<=(CG b plan t r p).sun/\(CG b plan t r p).sun<=t.length/\0<=(CG b plan t r p).calm/\(CG b plan t r p).calm<=t.length/\0<=(CG b plan t r p).good/\(CG b plan t r p).good<=t.length:=by have h1:=O8 (NA b plan r) t.length;have h2:=O8 (aU b plan t r p) t.length;have h3:=O8 (fun h=>NA b plan r h&&aU b plan t r p h) t.length;simp only[CG,IJ];omega
theorem AUU{α:Type}{l:List α}{f:α->Int}{m n:Int}(h1:I4 l f m)(h2:JV l f n)(hf:∀x∈l,0<=f x/\f x<=1000):DN DO (l.map f)=(m,n):=by
 have hne:l≠[]:=by obtain⟨x,hx,_⟩:=h1.at';exact bz hx
 rw[YY];have e1:=(yC (z:=DO.1) (fun x hx=>by have:=hf x hx;simp only[DO];omega) hne).uniq h1;have e2:=(yD (z:=DO.2) (fun x hx=>by have:=hf x hx;simp only[DO];omega) hne).uniq h2;rw[e1,e2]
def nR(b:AL)(ws plan:List (List Int))(r p:Nat):Int×Int:=aR ws fun h w=>A6T b (r,p) (DA plan h r) w
def XQ(b:AL)(ws plan:List (List Int))(r p:Nat):Int×Int:=aR ws fun h w=>xT b (r,p) h (DA plan h r) w
theorem nS{b:AL}(hb:Valid b){ws:List (List Int)}(ha:UH b ws)(plan:List (List Int))(r p:Nat):I4 (BS b) (fun t=>(CG b plan t r p).good) (XQ b ws plan r p).1/\JV (BS b) (fun t=>(CG b plan t r p).good) (XQ b ws plan r p).2:=by obtain⟨h1,h2⟩:=ABF hb ha (fun h w=>xT b (r,p) h (DA plan h r) w) fun h n=>aQ _;exact⟨h1.fun_congr fun t _=>(XP b plan t r p).symm,h2.fun_congr fun t _=>(XP b plan t r p).symm⟩
theorem RZ{b:AL}(hb:Valid b){ws:List (List Int)}(ha:UH b ws)(plan:List (List Int))(r p:Nat):xU b plan r p=XQ b ws plan r p:=by obtain⟨h1,h2⟩:=nS hb ha plan r p;exact AUU h1 h2 fun t ht=>by have:=gO b plan t r p;have:=gN hb ht;omega
def MJ(b:AL)(plan:List (List Int))(r n:Nat):Int:=((mE (NA b plan r) n:Nat):Int)
def A6U(g:List Int):Nat->Int:=fun r=>g.getD r 0
def AGB(b:AL)(ws:List (List Int))(h:Nat)(g:List Int):Int:=(gM b ws h (A6U g)).1
def AMQ(b:AL)(ws:List (List Int)):Nat->List (List Int)->Int
 |_,[]=>0
 |h,g::gs=>AGB b ws h g+AMQ b ws (h+1) gs
theorem aS(g:Nat->Int):∀n,EY g (n+1)=g 0+EY (fun i=>g (i+1)) n
 |0=>by simp[EY]
 |n+1=>by have:EY g (n+1+1)=EY g (n+1)+g (n+1):=rfl;rw[this,aS g n];simp only[EY];omega
theorem AGC(b:AL)(ws:List (List Int)):∀(gs:List (List Int)) (h:Nat),AMQ b ws h gs=EY (fun i=>AGB b ws (h+i) (gs.getD i [])) gs.length
 |[],_=>rfl
 |g::gs,h=>by rw[List.length_cons,aS];show AGB b ws h g+AMQ b ws (h+1) gs=_;rw[AGC b ws gs (h+1)];congr 1;exact FD fun i _=>by rw[show h+1+i=h+(i+1) by omega];rfl
theorem nT{b:AL}{h:Nat}{f g:Nat->Int}(hfg:∀r,r<b.rows.toNat->f r=g r)(w:Int):nQ b h f w=nQ b h g w :=
 FD fun r hr=>by rw[hfg r hr]
theorem nU{b:AL}{ws:List (List Int)}{h:Nat}{f g:Nat->Int}(hfg:∀r,r<b.rows.toNat->f r=g r):gM b ws h f=gM b ws h g:=by unfold gM;rw[show nQ b h f=nQ b h g from funext fun w=>nT hfg w]
def A6V(b:AL)(plan gs:List (List Int)):Prop:=plan.length=gs.length/\∀h,h<plan.length->∀r,r<b.rows.toNat->DA plan h r=A6U (gs.getD h []) r
theorem fV{b:AL}{ws plan gs:List (List Int)}(h:A6V b plan gs):(AUT b ws plan).1=AMQ b ws 0 gs:=by rw[AGC,<-h.1];refine FD fun i hi=>?_;rw[Nat.zero_add];exact congrArg Prod.fst (nU fun r hr=>h.2 i hi r hr)
end Go.Wind
