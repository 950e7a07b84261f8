/- The winds that the truths of a beach have, hour by hour. No condition; no program in sight. -/
import Derived.Test.YthhdhbalenanjaaGreatL
namespace Go.Wind
def PS(ws:List (List Int))(h:Nat)(n:Int):List (List Int):=if n∈ws.getD h [] then ws else ws.set h (ws.getD h []++[n])
def KU:List (List Int)→Nat→List Int→List (List Int)
 |ws,_,[]=>ws
 |ws,h,n::t=>KU (PS ws h n) (h+1) t
def gJ(k:Nat)(T:List (List Int)):List (List Int):=T.foldl (fun ws t=>KU ws 0 t) (List.replicate k [])
theorem oV(ws:List (List Int))(h:Nat)(n:Int):(PS ws h n).length=ws.length:=by unfold PS;split<;>simp
theorem bT:∀(t:List Int) (ws:List (List Int)) (h:Nat),(KU ws h t).length=ws.length
 |[],_,_=>rfl
 |n::t,ws,h=>(bT t (PS ws h n) (h+1)).trans (oV ws h n)
theorem oW:∀(T:List (List Int)) (ws:List (List Int)),(T.foldl (fun ws t=>KU ws 0 t) ws).length=ws.length
 |[],_=>rfl
 |t::T,ws=>(oW T (KU ws 0 t)).trans (bT t ws 0)
theorem oX(k:Nat)(T:List (List Int)):(gJ k T).length=k:=by unfold gJ;rw[oW];simp
theorem AHS(ws:List (List Int))(h:Nat)(l:List Int)(j:Nat)(hj:j<ws.length):(ws.set h l).getD j []=if h=j then l else ws.getD j []:=by
 simp only[List.getD_eq_getElem?_getD,List.getElem?_set];by_cases e:h=j
 ·subst e;simp[hj]
 ·simp[e]
theorem AHT{ws:List (List Int)}{h:Nat}{n x:Int}{j:Nat}(hj:j<ws.length):x∈(PS ws h n).getD j []↔x∈ws.getD j []∨(h=j∧n=x):=by
 unfold PS;split
 ·rename_i hn;refine⟨.inl,fun h'=>?_⟩;rcases h' with h'|⟨rfl,rfl⟩
  ·exact h'
  ·exact hn
 ·rw[AHS _ _ _ _ hj];by_cases e:h=j
  ·subst e;rw[if_pos rfl,List.mem_append,List.mem_singleton];simp[eq_comm]
  ·rw[if_neg e];simp[e]
theorem oY:∀(t:List Int) {ws:List (List Int)} {h j:Nat} {x:Int} (_:j<ws.length),x∈(KU ws h t).getD j []↔x∈ws.getD j []∨∃i,i<t.length∧h+i=j∧t.getD i 0=x
 |[],ws,h,j,x,hj=>by simp[KU]
 |n::t,ws,h,j,x,hj=>by
  show x∈(KU (PS ws h n) (h+1) t).getD j []↔_;rw[oY t (by rw[oV];exact hj),AHT hj];constructor
  ·rintro ((h1|⟨h1,h2⟩)|⟨i,h1,h2,h3⟩)
   ·exact .inl h1
   ·exact .inr ⟨0,by simp,by omega,by simpa using h2⟩
   ·exact .inr ⟨i+1,by simpa using h1,by omega,by simpa using h3⟩
  ·rintro (h1|⟨i,h1,h2,h3⟩)
   ·exact .inl (.inl h1)
   ·cases i with
    |zero=>exact .inl (.inr ⟨by omega,by simpa using h3⟩)
    |succ i=>exact .inr ⟨i,by simpa using h1,by omega,by simpa using h3⟩
theorem oZ:∀(T:List (List Int)) {ws:List (List Int)} {j:Nat} {x:Int} (_:j<ws.length),x∈(T.foldl (fun ws t=>KU ws 0 t) ws).getD j []↔x∈ws.getD j []∨∃t∈T,j<t.length∧t.getD j 0=x
 |[],ws,j,x,hj=>by simp
 |t::T,ws,j,x,hj=>by
  rw[List.foldl_cons,oZ T (by rw[bT];exact hj),oY t hj];constructor
  ·rintro ((h1|⟨i,h1,h2,h3⟩)|⟨u,h1,h2⟩)
   ·exact .inl h1
   ·have:i=j:=by omega
    subst this;exact .inr ⟨t,by simp,h1,h3⟩
   ·exact .inr ⟨u,by simp[h1],h2⟩
  ·rintro (h1|⟨u,h1,h2,h3⟩)
   ·exact .inl (.inl h1)
   ·rcases List.mem_cons.1 h1 with rfl|h1
    ·exact .inl (.inr ⟨j,h2,by omega,h3⟩)
    ·exact .inr ⟨u,h1,h2,h3⟩
theorem zS{k:Nat}{T:List (List Int)}{j:Nat}{x:Int}(hj:j<k):x∈(gJ k T).getD j []↔∃t∈T,j<t.length∧t.getD j 0=x:=by unfold gJ;rw[oZ T (by simpa using hj)];simp[List.getD_eq_getElem?_getD,hj]
def lI(ws:List (List Int)):Prop:=∀l∈ws,l.Nodup
theorem uY{ws:List (List Int)}(h:lI ws)(k:Nat)(n:Int):lI (PS ws k n):=by
 unfold PS;split
 ·exact h
 ·rename_i hn;intro l hl;rcases Nat.lt_or_ge k ws.length with hk|hk
  ·rcases List.mem_or_eq_of_mem_set hl with h1|h1
   ·exact h l h1
   ·subst h1;have hm:ws.getD k []=ws[k]:=by rw[List.getD_eq_getElem?_getD,List.getElem?_eq_getElem hk];rfl
    rw[hm]at hn⊢;rw[List.nodup_append];refine⟨h _ (List.getElem_mem hk),by simp,fun a ha b hb=>?_⟩;simp only[List.mem_singleton]at hb;subst hb;exact fun e=>hn (e▸ha)
  ·rw[List.set_eq_of_length_le hk]at hl;exact h l hl
theorem YJ:∀(k:Nat) (l:List Int),l.Nodup→(∀x∈l,0≤x∧x<k)→l.length≤k
 |0,l,_,hx=>by
  cases l with
  |nil=>simp
  |cons x l=>have:=hx x (by simp);omega
 |k+1,l,hn,hx=>by
  have h1:(l.erase (k:Int)).length≤k:=YJ k _ (hn.erase _) fun x hm=>by have hm1:=(hn.mem_erase_iff.1 hm);have:=hx x hm1.2;have:=hm1.1;omega
  rw[List.length_erase]at h1;split at h1<;>omega
structure D1(ws:List (List Int)):Prop where
 nd:lI ws
 lo:∀l∈ws,∀x∈l,0≤x∧x≤3
theorem D1.len{ws:List (List Int)}(h:D1 ws):∀l∈ws,l.length≤4:=fun l hl=>YJ 4 l (h.nd l hl) fun x hx=>by have:=h.lo l hl x hx;omega
theorem D1.add{ws:List (List Int)}(h:D1 ws)(k:Nat)(n:Int)(hn:0≤n∧n≤3):D1 (PS ws k n):=by
 refine⟨uY h.nd k n,fun l hl x hx=>?_⟩;unfold PS at hl;split at hl
 ·exact h.lo l hl x hx
 ·rcases List.mem_or_eq_of_mem_set hl with h1|h1
  ·exact h.lo l h1 x hx
  ·subst h1;rcases List.mem_append.1 hx with hx|hx
   ·rcases Nat.lt_or_ge k ws.length with hk|hk
    ·have hm:ws.getD k []=ws[k]:=by rw[List.getD_eq_getElem?_getD,List.getElem?_eq_getElem hk];rfl
     rw[hm]at hx;exact h.lo _ (List.getElem_mem hk) x hx
    ·rw[List.getD_eq_getElem?_getD,List.getElem?_eq_none hk]at hx;simp at hx
   ·rw[List.mem_singleton.1 hx];exact hn
theorem D1.adds:∀(t:List Int) {ws:List (List Int)} (_:D1 ws) (k:Nat) (_:∀n∈t,0≤n∧n≤3),D1 (KU ws k t)
 |[],_,h,_,_=>h
 |n::t,_,h,k,hn=>D1.adds t (h.add k n (hn n (by simp))) (k+1) fun x hx=>hn x (by simp[hx])
theorem D1.fold:∀(T:List (List Int)) {ws:List (List Int)} (_:D1 ws) (_:∀t∈T,∀n∈t,0≤n∧n≤3),D1 (T.foldl (fun ws t=>KU ws 0 t) ws)
 |[],_,h,_=>h
 |t::T,_,h,hT=>D1.fold T (h.adds t 0 (hT t (by simp))) fun u hu=>hT u (by simp[hu])
theorem D1.ask(k:Nat)(T:List (List Int))(hT:∀t∈T,∀n∈t,0≤n∧n≤3):D1 (gJ k T):=D1.fold T ⟨fun l hl=>by rw[List.eq_of_mem_replicate hl];simp,fun l hl x hx=>by rw[List.eq_of_mem_replicate hl]at hx;cases hx⟩ hT
theorem L6{b:AK}(hb:Valid b){t:List Int}(ht:A5 t b.winds=true):∀n∈t,0≤n∧n≤3:=fun n hn=>by obtain⟨j,hj,rfl⟩:=List.getElem_of_mem hn;have:=SZ hb ht hj;rw[List.getD_eq_getElem?_getD,List.getElem?_eq_getElem hj,DC]at this;exact this
theorem AXK{b:AK}(hb:Valid b){T:List (List Int)}(hT:∀t,t∈T↔DA b t=true)(hne:T≠[]){j:Nat}(hj:j<b.winds.length)(x:Int):x∈(gJ b.winds.length T).getD j []↔x∈(aw b)[j]'(by rw[HA];exact hj):=by
 rw[zS hj];constructor
 ·rintro ⟨t,ht,h1,rfl⟩;have:=GK ((FQ hb).1 ((hT t).1 ht)) j h1 (by rw[HA];exact hj);rwa [List.getD_eq_getElem?_getD,List.getElem?_eq_getElem h1]
 ·intro hx;obtain⟨t0,ht0⟩:=List.exists_mem_of_ne_nil _ hne;have h0:=(FQ hb).1 ((hT t0).1 ht0);have hl:=CS h0;have hjt:j<t0.length:=by rw[hl,HA];exact hj
  refine⟨t0.set j x,(hT _).2 ((FQ hb).2 (M1 (by simpa using hl) fun k h1 h2=>?_)),by simpa using hjt,by simp[List.getD_eq_getElem?_getD,hjt]⟩;rw[List.getElem_set];by_cases e:j=k
  ·subst e;rw[if_pos rfl];exact hx
  ·rw[if_neg e];exact GK h0 k (by simpa using h1) h2
def DJ(f:Nat→Int):Nat→Int
 |0=>0
 |n+1=>DJ f n+f n
theorem FP{f g:Nat→Int}:∀{n:Nat},(∀i,i<n→f i=g i)→DJ f n=DJ g n
 |0,_=>rfl
 |n+1,h=>by simp only[DJ];rw[FP (n:=n) fun i hi=>h i (by omega),h n (by omega)]
theorem NO{f:Nat→Int}{c:Int}:∀{n:Nat},(∀i,i<n→0≤f i∧f i≤c)→0≤DJ f n∧DJ f n≤n*c
 |0,_=>by simp[DJ]
 |n+1,h=>by
  have h1:=NO (n:=n) fun i hi=>h i (by omega);have h2:=h n (by omega);simp only[DJ];have e:((n+1:Nat):Int)*c=(n:Int)*c+c:=by rw[Int.natCast_succ,Int.add_mul,Int.one_mul]
  omega
theorem WY(f:Nat→Int):∀(n h:Nat),W0 f h n=DJ (fun i=>f (h+i)) n
 |0,_=>rfl
 |n+1,h=>by
  have e:∀(g:Nat→Int) (n:Nat),DJ g (n+1)=g 0+DJ (fun i=>g (i+1)) n:=by
   intro g n;induction n with
   |zero=>simp[DJ]
   |succ n ih=>
    have:DJ g (n+1+1)=DJ g (n+1)+g (n+1):=rfl
    rw[this,ih]
    simp only[DJ]
    omega
  rw[e];show f h+W0 f (h+1) n=_;rw[WY f n (h+1)];congr 1;exact FP fun i _=>by congr 1;omega
theorem AHU(g:Nat→Int→Int):∀(t:List Int) (h:Nat),PV g h t=W0 (fun i=>g i (t.getD (i-h) 0)) h t.length
 |[],_=>rfl
 |x::t,h=>by show g h x+PV g (h+1) t=g h ((x::t).getD (h-h) 0)+W0 (fun i=>g i ((x::t).getD (i-h) 0)) (h+1) t.length;rw[Nat.sub_self,AHU g t (h+1)];congr 1;rw[WY,WY];refine FP fun i _=>?_;rw[show h+1+i-(h+1)=i by omega,show h+1+i-h=i+1 by omega];rfl
theorem AOD(g:Nat→Int→Int)(t:List Int):PV g 0 t=DJ (fun h=>g h (t.getD h 0)) t.length:=by rw[AHU,WY];exact FP fun i _=>by simp
def DS(z:Int×Int)(l:List Int):Int×Int:=l.foldl (fun r n=>(min r.1 n,max r.2 n)) z
theorem ZM:∀(l:List Int) (z:Int×Int),DS z l=(gK z.1 l,gL z.2 l)
 |[],_=>rfl
 |n::l,z=>ZM l (min z.1 n,max z.2 n)
theorem zT:∀(l:List Int) (z:Int×Int) (lo hi:Int),(∀x∈l,lo≤x∧x≤hi)→lo≤z.1→z.2≤hi→lo≤(DS z l).1∧(DS z l).1≤z.1∧z.2≤(DS z l).2∧(DS z l).2≤hi
 |[],z,lo,hi,_,h1,h2=>⟨h1,Int.le_refl _,Int.le_refl _,h2⟩
 |n::l,z,lo,hi,h,h1,h2=>by have hn:=h n (by simp);have:=zT l (min z.1 n,max z.2 n) lo hi (fun x hx=>h x (by simp[hx])) (by simp only;omega) (by simp only;omega);have e:DS z (n::l)=DS (min z.1 n,max z.2 n) l:=rfl;rw[e];simp only at this;omega
theorem HG.congr{α:Type}{l m:List α}{f:α→Int}{v:Int}(h:∀x,x∈l↔x∈m)(hm:HG l f v):HG m f v :=
 ⟨fun x hx=>hm.le x ((h x).2 hx),by obtain⟨x,h1,h2⟩:=hm.at';exact⟨x,(h x).1 h1,h2⟩⟩
theorem HX.congr{α:Type}{l m:List α}{f:α→Int}{v:Int}(h:∀x,x∈l↔x∈m)(hm:HX l f v):HX m f v :=
 ⟨fun x hx=>hm.le x ((h x).2 hx),by obtain⟨x,h1,h2⟩:=hm.at';exact⟨x,(h x).1 h1,h2⟩⟩
theorem HG.fun_congr{α:Type}{l:List α}{f g:α→Int}{v:Int}(h:∀x∈l,f x=g x)(hm:HG l f v):HG l g v :=
 ⟨fun x hx=>by rw[←h x hx];exact hm.le x hx,by obtain⟨x,h1,h2⟩:=hm.at';exact⟨x,h1,by rw[←h x h1];exact h2⟩⟩
theorem HX.fun_congr{α:Type}{l:List α}{f g:α→Int}{v:Int}(h:∀x∈l,f x=g x)(hm:HX l f v):HX l g v :=
 ⟨fun x hx=>by rw[←h x hx];exact hm.le x hx,by obtain⟨x,h1,h2⟩:=hm.at';exact⟨x,h1,by rw[←h x h1];exact h2⟩⟩
def AOE(z:Int×Int)(ws:List (List Int))(g:Nat→Int→Int)(n:Nat):Int×Int:=(DJ (fun h=>(DS z ((ws.getD h []).map (g h))).1) n,DJ (fun h=>(DS z ((ws.getD h []).map (g h))).2) n)
structure U7(b:AK)(ws:List (List Int)):Prop where
 len:ws.length=b.winds.length
 ok:D1 ws
 mem:∀j (hj:j<b.winds.length) (x:Int),x∈ws.getD j []↔x∈(aw b)[j]'(by rw[HA];exact hj)
 ne:∀l∈aw b,l≠[]
theorem AHV{b:AK}(hb:Valid b){T:List (List Int)}(hT:∀t,t∈T↔DA b t=true)(hne:T≠[]):U7 b (gJ b.winds.length T):=by
 refine⟨oX _ _,D1.ask _ _ fun t ht=>?_,fun j hj x=>AXK hb hT hne hj x,?_⟩
 ·have:=(hT t).1 ht;simp only[DA,Bool.and_eq_true]at this;exact L6 hb this.1
 ·refine(AC3 hb).1 ?_;obtain⟨t,ht⟩:=List.exists_mem_of_ne_nil _ hne;exact List.ne_nil_of_mem (EU.2 ((hT t).1 ht))
theorem U7.row{b:AK}{ws:List (List Int)}(h:U7 b ws){j:Nat}(hj:j<b.winds.length):ws.getD j []≠[]:=by have h1:=h.ne _ (List.getElem_mem (by rw[HA];exact hj:j<(aw b).length));obtain⟨x,hx⟩:=List.exists_mem_of_ne_nil _ h1;exact List.ne_nil_of_mem ((h.mem j hj x).2 hx)
theorem AHW{b:AK}(hb:Valid b){ws:List (List Int)}(ha:U7 b ws)(z:Int×Int)(g:Nat→Int→Int)(hz:∀h n,g h n≤z.1):HG (BO b) (PV g 0) (AOE z ws g b.winds.length).1:=by
 have:=AOJ hb g (fun h=>(DS z ((ws.getD h []).map (g h))).1) fun j hj=>by rw[HA]at hj;rw[ZM];exact(AAG (fun x _=>hz j x) (ha.row hj)).congr fun x=>ha.mem j hj x
 rw[WY]at this;simp only[Nat.zero_add]at this;exact this
theorem AHX{b:AK}(hb:Valid b){ws:List (List Int)}(ha:U7 b ws)(z:Int×Int)(g:Nat→Int→Int)(hz:∀h n,z.2≤g h n):HX (BO b) (PV g 0) (AOE z ws g b.winds.length).2:=by
 have:=AOK hb g (fun h=>(DS z ((ws.getD h []).map (g h))).2) fun j hj=>by rw[HA]at hj;rw[ZM];exact(AAH (fun x _=>hz j x) (ha.row hj)).congr fun x=>ha.mem j hj x
 rw[WY]at this;simp only[Nat.zero_add]at this;exact this
def bU(b:Bool):Int:=if b=true then 1 else 0
theorem bV(b:Bool):0≤bU b∧bU b≤1:=by cases b<;>simp[bU]
theorem AS4(f:Nat→Bool):∀n,((nQ f n:Nat):Int)=DJ (fun h=>bU (f h)) n
 |0=>rfl
 |n+1=>by have ih:=AS4 f n;simp only[nQ,DJ];rw[←ih];unfold bU;split<;>simp
def pA(b:AK)(s:Int×Int)(h:Nat)(f w:Int):Int:=bU (decide (b.sun.getD h 0=f)&&VB b s f w)
def BAZ(b:AK)(s:Int×Int)(f w:Int):Int:=bU (VB b s f w)
theorem YK(b:AK)(plan:List (List Int))(t:List Int)(r p:Nat):(B8 b plan t r p).good=PV (fun h w=>pA b (r,p) h (CP plan h r) w) 0 t:=by
 rw[AOD];refine(AS4 _ _).trans (FP fun h _=>?_);have:MK b plan r h=decide (b.sun.getD h 0=CP plan h r):=by unfold MK;congr 1;exact propext eq_comm
 rw[this];rfl
def pB(b:AK)(h:Nat)(f:Nat→Int)(w:Int):Int:=DJ (fun r=>DJ (fun p=>pA b (r,p) h (f r) w) b.places.toNat) b.rows.toNat
def BMU(b:AK)(plan:List (List Int))(t:List Int):Int:=DJ (fun r=>DJ (fun p=>(B8 b plan t r p).good) b.places.toNat) b.rows.toNat
def YL(b:AK)(ws:List (List Int))(h:Nat)(f:Nat→Int):Int×Int:=DS (b.rows*b.places,0) ((ws.getD h []).map (pB b h f))
def AHY(b:AK)(ws plan:List (List Int)):Int×Int:=(DJ (fun h=>(YL b ws h (CP plan h)).1) plan.length,DJ (fun h=>(YL b ws h (CP plan h)).2) plan.length)
def bW(ws:List (List Int))(g:Nat→Int→Int):Int×Int:=AOE (1,0) ws g ws.length
theorem AC2{b:AK}(hb:Valid b){ws:List (List Int)}(ha:U7 b ws)(g:Nat→Int→Int)(hg:∀h n,0≤g h n∧g h n≤1):HG (BO b) (PV g 0) (bW ws g).1∧HX (BO b) (PV g 0) (bW ws g).2:=by unfold bW;rw[ha.len];exact⟨AHW hb ha (1,0) g fun h n=>(hg h n).2,AHX hb ha (1,0) g fun h n=>(hg h n).1⟩
def BW6{α:Type}(l:List α)(q:α→Bool):Int:=if l.countP q=l.length then 1 else if l.countP q=0 then 2 else 3
def BA0(a b:Int):Int:=min (max (a-b) (b-a)) (4-max (a-b) (b-a))
def BA1(a b:Int):Int:=min ((b-a+4) % 4) ((a-b+4) % 4)
def zU(b:AK)(f g:Nat→Int):Int:=DJ (fun r=>BA0 (f r) (g r)*b.places) b.rows.toNat
def zV(b:AK)(plan:List (List Int))(h:Nat):Nat→Int:=if h=0 then fun r=>b.face.getD r 0 else CP plan (h-1)
def BA2(b:AK)(plan:List (List Int))(n:Nat):Int:=DJ (fun h=>zU b (zV b plan h) (CP plan h)) n
def BA3(b:AK)(plan:List (List Int)):Int:=BA2 b plan plan.length
def BRY(b:AK)(plan:List (List Int)):Int:=DJ (fun h=>DJ (fun r=>BA1 (zV b plan h r) (CP plan h r)*b.places) b.rows.toNat) plan.length
def DM:Int×Int:=(1099511627776,-1)
def BA4(b:AK)(plan:List (List Int)):Int×Int:=DS DM ((BO b).map (BMU b plan))
def BHB(b:AK)(plan:List (List Int))(r p:Nat):Int×Int:=DS DM ((BO b).map fun t=>(B8 b plan t r p).calm)
def zW(b:AK)(plan:List (List Int))(r p:Nat):Int×Int:=DS DM ((BO b).map fun t=>(B8 b plan t r p).good)
theorem NP{b:AK}{t:List Int}(h:t∈BO b):A5 t b.winds=true:=by have:=EU.1 h;simp only[DA,Bool.and_eq_true]at this;exact this.1
theorem iS{b:AK}(hb:Valid b){t:List Int}(h:t∈BO b):t.length≤5:=by have:=CS (NP h);have:=hb.hl;omega
theorem iT(b:AK)(plan:List (List Int))(t:List Int)(r p:Nat):0≤(B8 b plan t r p).sun∧(B8 b plan t r p).sun≤t.length∧0≤(B8 b plan t r p).calm∧(B8 b plan t r p).calm≤t.length∧0≤(B8 b plan t r p).good∧(B8 b plan t r p).good≤t.length:=by have h1:=PU (MK b plan r) t.length;have h2:=PU (WZ b plan t r p) t.length;have h3:=PU (fun h=>MK b plan r h&&WZ b plan t r p h) t.length;simp only[B8,HY];omega
theorem AXL{α:Type}{l:List α}{f:α→Int}{m n:Int}(h1:HG l f m)(h2:HX l f n)(hf:∀x∈l,0≤f x∧f x≤1000):DS DM (l.map f)=(m,n):=by
 have hne:l≠[]:=by obtain⟨x,hx,_⟩:=h1.at';exact List.ne_nil_of_mem hx
 rw[ZM];have e1:=(AAG (z:=DM.1) (fun x hx=>by have:=hf x hx;simp only[DM];omega) hne).uniq h1;have e2:=(AAH (z:=DM.2) (fun x hx=>by have:=hf x hx;simp only[DM];omega) hne).uniq h2;rw[e1,e2]
def pC(b:AK)(ws plan:List (List Int))(r p:Nat):Int×Int:=bW ws fun h w=>BAZ b (r,p) (CP plan h r) w
def YM(b:AK)(ws plan:List (List Int))(r p:Nat):Int×Int:=bW ws fun h w=>pA b (r,p) h (CP plan h r) w
theorem pD{b:AK}(hb:Valid b){ws:List (List Int)}(ha:U7 b ws)(plan:List (List Int))(r p:Nat):HG (BO b) (fun t=>(B8 b plan t r p).good) (YM b ws plan r p).1∧HX (BO b) (fun t=>(B8 b plan t r p).good) (YM b ws plan r p).2:=by obtain⟨h1,h2⟩:=AC2 hb ha (fun h w=>pA b (r,p) h (CP plan h r) w) fun h n=>bV _;exact⟨h1.fun_congr fun t _=>(YK b plan t r p).symm,h2.fun_congr fun t _=>(YK b plan t r p).symm⟩
theorem SW{b:AK}(hb:Valid b){ws:List (List Int)}(ha:U7 b ws)(plan:List (List Int))(r p:Nat):zW b plan r p=YM b ws plan r p:=by obtain⟨h1,h2⟩:=pD hb ha plan r p;exact AXL h1 h2 fun t ht=>by have:=iT b plan t r p;have:=iS hb ht;omega
def M0(b:AK)(plan:List (List Int))(r n:Nat):Int:=((nQ (MK b plan r) n:Nat):Int)
def AOF(g:List Int):Nat→Int:=fun r=>g.getD r 0
def BMV:List Int:=[0,1,2,3]
def BMW(R:Nat):List (List Int):=(U9 (List.replicate R BMV)).map (· ++ List.replicate (3-R) 0)
def AOG(l:List Int):List Int:=l++List.replicate (3-l.length) 0
def zX(b:AK)(ws:List (List Int))(h:Nat)(g:List Int):Int:=(YL b ws h (AOF g)).1
def zY(b:AK)(f g:List Int):Int:=zU b (AOF f) (AOF g)
def AS5(work sure:List Int→Int)(left:Int)(acc:Int×List Int)(g:List Int):Int×List Int:=if left<work g then acc else if acc.1<sure g then(sure g,g) else acc
def pE(b:AK)(ws:List (List Int)):Nat→Nat→Int→List Int→Int×List Int
 |0,_,_,_=>(0,[0,0,0])
 |d+1,h,left,f=>(BMW b.rows.toNat).foldl (AS5 (zY b f) (fun g=>zX b ws h g+(pE b ws d (h+1) (left-zY b f g) g).1) left) (-1,[0,0,0])
def BMX(b:AK):List Int→List (List Int)→Int
 |_,[]=>0
 |f,g::gs=>zY b f g+BMX b g gs
def AOH(b:AK)(ws:List (List Int)):Nat→List (List Int)→Int
 |_,[]=>0
 |h,g::gs=>zX b ws h g+AOH b ws (h+1) gs
def AS6(b:AK)(ws:List (List Int)):Nat→Nat→Int→List Int→List (List Int)
 |0,_,_,_=>[]
 |d+1,h,left,f=>(pE b ws (d+1) h left f).2::AS6 b ws d (h+1) (left-zY b f (pE b ws (d+1) h left f).2) (pE b ws (d+1) h left f).2
theorem bX(g:Nat→Int):∀n,DJ g (n+1)=g 0+DJ (fun i=>g (i+1)) n
 |0=>by simp[DJ]
 |n+1=>by have:DJ g (n+1+1)=DJ g (n+1)+g (n+1):=rfl;rw[this,bX g n];simp only[DJ];omega
theorem AHZ(b:AK)(ws:List (List Int)):∀(gs:List (List Int)) (h:Nat),AOH b ws h gs=DJ (fun i=>zX b ws (h+i) (gs.getD i [])) gs.length
 |[],_=>rfl
 |g::gs,h=>by rw[List.length_cons,bX];show zX b ws h g+AOH b ws (h+1) gs=_;rw[AHZ b ws gs (h+1)];congr 1;exact FP fun i _=>by rw[show h+1+i=h+(i+1) by omega];rfl
theorem pF{b:AK}{h:Nat}{f g:Nat→Int}(hfg:∀r,r<b.rows.toNat→f r=g r)(w:Int):pB b h f w=pB b h g w :=
 FP fun r hr=>by rw[hfg r hr]
theorem pG{b:AK}{ws:List (List Int)}{h:Nat}{f g:Nat→Int}(hfg:∀r,r<b.rows.toNat→f r=g r):YL b ws h f=YL b ws h g:=by unfold YL;rw[show pB b h f=pB b h g from funext fun w=>pF hfg w]
def BA5(b:AK)(plan gs:List (List Int)):Prop:=plan.length=gs.length∧∀h,h<plan.length→∀r,r<b.rows.toNat→CP plan h r=AOF (gs.getD h []) r
theorem iG{b:AK}{ws plan gs:List (List Int)}(h:BA5 b plan gs):(AHY b ws plan).1=AOH b ws 0 gs:=by rw[AHZ,←h.1];refine FP fun i hi=>?_;rw[Nat.zero_add];exact congrArg Prod.fst (pG fun r hr=>h.2 i hi r hr)
def BRZ(b:AK)(ws:List (List Int))(most:Int):Int:=(pE b ws b.winds.length 0 most (AOG b.face)).1
def BMY(b:AK)(ws:List (List Int))(most:Int):List (List Int):=(AS6 b ws b.winds.length 0 most (AOG b.face)).map (List.take b.rows.toNat)
theorem HG.sub{α:Type}{l m:List α}{f g:α→Int}{v w:Int}(hl:HG l f v)(hm:HG m g w)(hsub:∀x∈m,x∈l)(hfg:∀x∈m,f x≤g x):v≤w:=by obtain⟨x,h1,h2⟩:=hm.at';have:=hl.le x (hsub x h1);have:=hfg x h1;omega
theorem HX.sub{α:Type}{l m:List α}{f g:α→Int}{v w:Int}(hl:HX l f v)(hm:HX m g w)(hsub:∀x∈m,x∈l)(hfg:∀x∈m,g x≤f x):w≤v:=by obtain⟨x,h1,h2⟩:=hm.at';have:=hl.le x (hsub x h1);have:=hfg x h1;omega
def BHC(b:AK):AK:={ b with notes:=[] }
def BR0(b:AK)(h:Nat):AK:={ b with last:=0,sun:=[b.sun.getD h 0],winds:=[b.winds.getD h []],notes:=[] }
end Go.Wind
