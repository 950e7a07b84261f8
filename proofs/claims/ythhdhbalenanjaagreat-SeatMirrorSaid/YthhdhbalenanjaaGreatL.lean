/- Beaches, their truths and what is so in them, plainly. No condition; no program in sight. -/
open Bool renaming and_eq_true->bj,not_eq_false->bh,or_eq_true->bm,not_eq_true'->cq
open List renaming getD_eq_getElem?_getD->bk,getElem?_eq_getElem->bq,all_eq_true->bw,exists_mem_of_ne_nil->bx,mem_map_of_mem->bz,getElem_mem->bb,length_cons->bc,mem_filter->bf,mem_cons->bg,mem_map->bn,getElem_of_mem->bp,ne_nil_of_mem->ck
open Nat renaming add_zero->cw,le_refl->cx
namespace Go.Wind
structure AL where
 last:Int
 rows:Int
 places:Int
 reach:Int
 face:List Int
 sun:List Int
 winds:List (List Int)
 breaks:List (Int×Int)
 notes:List (Int×Int)
def HH(n lo hi:Int):Bool:=decide (lo<=n)&&decide (n<=hi)
theorem BU{n lo hi:Int}:HH n lo hi=true↔lo<=n/\n<=hi:=by simp[HH]
def E2(b:AL)(s:Int×Int):Bool:=HH s.1 0 (b.rows-1)&&HH s.2 0 (b.places-1)
def DF(l:List Int)(lo:Int):Bool:=l.all fun n=>HH n lo 3
def H7:List Int->Bool
 |[]=>true
 |[_]=>true
 |x::y::r=>decide (x<y)&&H7 (y::r)
def DB(l:List Int):Bool:=!l.isEmpty&&DF l 0&&H7 l
def HI(b:AL)(x:Int×Int):Bool:=HH x.1 0 b.last&&HH x.2 0 3
def DH(b:AL):Int :=
 if (decide (4<b.last)||decide (3<b.rows)||decide (5<b.places)||decide (4<b.breaks.length)||decide (5<b.notes.length))=true then 3
 else if (decide (b.last<0)||decide (b.rows<1)||decide (b.places<1)||!HH b.reach 0 4||!decide ((b.face.length:Int)=b.rows)||!decide ((b.sun.length:Int)=b.last+1)||!decide ((b.winds.length:Int)=b.last+1)||!DF b.face 0||!DF b.sun (-1))=true then 1
 else if b.winds.all DB=false then 1 else if b.breaks.all (E2 b)=false then 1 else if b.notes.all (HI b)=false then 1 else 0
structure Valid(b:AL):Prop where
 la:0<=b.last/\b.last<=4
 ro:1<=b.rows/\b.rows<=3
 pl:1<=b.places/\b.places<=5
 re:0<=b.reach/\b.reach<=4
 br:b.breaks.length<=4
 no:b.notes.length<=5
 fa:(b.face.length:Int)=b.rows
 su:(b.sun.length:Int)=b.last+1
 wi:(b.winds.length:Int)=b.last+1
 fd:DF b.face 0=true
 sd:DF b.sun (-1)=true
 wo:b.winds.all DB=true
 bo:b.breaks.all (E2 b)=true
 nok:b.notes.all (HI b)=true
theorem TQ{b:AL}(h:DH b=0):Valid b:=by
 unfold DH at h;split at h
 ·cases h
 split at h
 ·cases h
 split at h
 ·cases h
 split at h
 ·cases h
 split at h
 ·cases h
 rename_i h1 h2 h3 h4 h5;simp only[bm,decide_eq_true_eq,cq,decide_eq_false_iff_not,not_or,bh]at h1 h2;obtain⟨⟨⟨⟨a1,a2⟩,a3⟩,a4⟩,a5⟩:=h1;obtain⟨⟨⟨⟨⟨⟨⟨⟨c1,c2⟩,c3⟩,c4⟩,c5⟩,c6⟩,c7⟩,c8⟩,c9⟩:=h2;have:=BU.1 c4;simp only[bh]at h3 h4 h5;exact⟨⟨by omega,by omega⟩,⟨by omega,by omega⟩,⟨by omega,by omega⟩,this,by omega,by omega,Classical.not_not.1 c5,Classical.not_not.1 c6,Classical.not_not.1 c7,c8,c9,h3,h4,h5⟩
theorem I0{b:AL}(h:Valid b):DH b=0:=by
 obtain⟨la,ro,pl,re,br,no,fa,su,wi,fd,sd,wo,bo,nok⟩:=h;unfold DH;rw[if_neg,if_neg,if_neg,if_neg,if_neg]
 ·simp[nok]
 ·simp[bo]
 ·simp[wo]
 ·simp only[bm,decide_eq_true_eq,cq,decide_eq_false_iff_not,not_or,bh];exact⟨⟨⟨⟨⟨⟨⟨⟨by omega,by omega⟩,by omega⟩,BU.2 re⟩,by simpa using fa⟩,by simpa using su⟩,by simpa using wi⟩,fd⟩,sd⟩
 ·simp only[bm,decide_eq_true_eq,not_or];exact⟨⟨⟨⟨by omega,by omega⟩,by omega⟩,by omega⟩,by omega⟩
def E7:List (List Int)->Nat
 |[]=>1
 |l::r=>l.length*E7 r
def D0:List (List Int)->Nat->List Int
 |[],_=>[]
 |l::r,n=>l.getD (n % l.length) 0::D0 r (n / l.length)
def WW:List (List Int)->List (List Int)
 |[]=>[[]]
 |l::r=>l.flatMap fun x=>(WW r).map (x::·)
def AZ:List Int->List (List Int)->Bool
 |[],[]=>true
 |x::t,l::r=>decide (x∈l)&&AZ t r
 |_,_=>false
theorem C6:∀{t:List Int} {ws:List (List Int)},AZ t ws=true->t.length=ws.length
 |[],[],_=>rfl
 |x::t,l::r,h=>by simp only[AZ,bj]at h;simp[C6 h.2]
theorem FA:∀{t:List Int} {ws:List (List Int)},AZ t ws=true->∀h (h1:h<t.length) (h2:h<ws.length),t[h]∈ws[h]
 |x::t,l::r,hh,0,_,_=>by simp only[AZ,bj,decide_eq_true_eq]at hh;exact hh.1
 |x::t,l::r,hh,h+1,h1,h2=>by simp only[AZ,bj]at hh;simpa using FA hh.2 h (by simpa using h1) (by simpa using h2)
theorem LW:∀{t:List Int} {ws:List (List Int)},t.length=ws.length->(∀h (h1:h<t.length) (h2:h<ws.length),t[h]∈ws[h])->AZ t ws=true
 |[],[],_,_=>rfl
 |x::t,l::r,hl,h=>by simp only[AZ,bj,decide_eq_true_eq];exact⟨h 0 (by simp) (by simp),LW (by simpa using hl) fun j h1 h2=>h (j+1) (by simpa using h1) (by simpa using h2)⟩
theorem PR:∀{ws:List (List Int)} {t:List Int},t∈WW ws↔AZ t ws=true
 |[],t=>by cases t<;>simp[WW,AZ]
 |l::r,t=>by
  cases t with
  |nil=>simp[WW,AZ]
  |cons x t=>
   simp only[WW,List.mem_flatMap,bn,AZ,bj,decide_eq_true_eq]
   constructor
   ·rintro ⟨y,hy,z,hz,e⟩;cases e;exact⟨hy,PR.1 hz⟩
   ·rintro ⟨h1,h2⟩;exact⟨x,h1,t,PR.2 h2,rfl⟩
theorem RA:∀{ws:List (List Int)} (_:∀l∈ws,l≠[]) (n:Nat),AZ (D0 ws n) ws=true
 |[],_,_=>rfl
 |l::r,h,n=>by have hl:0<l.length:=List.length_pos_iff.2 (h l (by simp));simp only[D0,AZ,bj,decide_eq_true_eq];have hm:n % l.length<l.length:=Nat.mod_lt _ hl;refine⟨?_,RA (fun l hl=>h l (by simp[hl])) _⟩;rw[bk,bq hm];exact bb hm
theorem vR:∀{ws:List (List Int)} {t:List Int},AZ t ws=true->∃n,n<E7 ws/\D0 ws n=t
 |[],[],_=>⟨0,by simp[E7],rfl⟩
 |l::r,x::t,h=>by
  simp only[AZ,bj,decide_eq_true_eq]at h;obtain⟨m,h1,h2⟩:=vR h.2;obtain⟨j,hj,hx⟩:=bp h.1;refine⟨j+l.length*m,?_,?_⟩
  ·simp only[E7];have:l.length*m+l.length<=l.length*E7 r:=by rw[<-Nat.mul_succ];exact Nat.mul_le_mul_left _ h1
   omega
  ·have hl:0<l.length:=by omega
   simp only[D0,Nat.add_mul_mod_self_left,Nat.mod_eq_of_lt hj,Nat.add_mul_div_left _ _ hl,Nat.div_eq_of_lt hj,Nat.zero_add,h2];rw[bk,bq hj];simp[hx]
def atI(l:List Int)(h:Int):Int:=l.getD h.toNat 0
def HJ(t:List Int)(x:Int×Int):Bool:=decide (atI t x.1=x.2)
def CZ(b:AL)(t:List Int):Bool:=AZ t b.winds&&b.notes.all (HJ t)
def BQ(b:AL):List (List Int):=((List.range (E7 b.winds)).map (D0 b.winds)).filter (CZ b)
theorem Valid.ne{b:AL}(h:Valid b):∀l∈b.winds,l≠[]:=fun l hl e=>by have:=bw.1 h.wo l hl;subst e;simp[DB]at this
theorem DT{b:AL}{t:List Int}:t∈BQ b↔CZ b t=true:=by
 unfold BQ;rw[bf,bn];constructor
 ·exact fun h=>h.2
 ·intro ht;refine⟨?_,ht⟩;simp only[CZ,bj]at ht;obtain⟨n,h1,h2⟩:=vR ht.1;exact⟨n,List.mem_range.2 h1,h2⟩
def EF(p:List (List Int))(h r:Nat):Int:=(p.getD h []).getD r 0
def rC(s k:Int×Int)(wind:Int):Int:=if wind=0/\k.2=s.2 then s.1-k.1 else if wind=2/\k.2=s.2 then k.1-s.1 else if wind=3/\k.1=s.1 then s.2-k.2 else if wind=1/\k.1=s.1 then k.2-s.2 else 0
def PS(b:AL)(s:Int×Int)(wind:Int):Bool:=b.breaks.any fun k=>HH (rC s k wind) 1 b.reach
def QR(b:AL)(s:Int×Int)(face wind:Int):Bool:=decide (face=(wind+2) % 4)||PS b s wind
def rD(f:Nat->Bool):Nat->Nat
 |0=>0
 |n+1=>rD f n+(if f n=true then 1 else 0)
theorem ZK(f:Nat->Bool):∀n,rD f n<=n
 |0=>cx _
 |n+1=>by have:=ZK f n;simp only[rD];split<;>omega
theorem ZL{f g:Nat->Bool}:∀{n:Nat},(∀h,h<n->f h=true->g h=true)->rD f n<=rD g n
 |0,_=>cx _
 |n+1,h=>by have:=ZL (n:=n) fun j hj=>h j (by omega);have:=h n (by omega);simp only[rD];split<;>split<;>simp_all;all_goals omega
theorem eN{f g:Nat->Bool}{n:Nat}(h:∀j,j<n->f j=g j):rD f n=rD g n :=
 Nat.le_antisymm (ZL fun j hj e=>by rw[<-h j hj];exact e) (ZL fun j hj e=>by rw[h j hj];exact e)
def OM(b:AL)(plan:List (List Int))(r h:Nat):Bool:=decide (EF plan h r=b.sun.getD h 0)
structure zE where
 sun:Int
 calm:Int
 good:Int
deriving DecidableEq
def rF(calm:Nat->Bool)(lit:Nat->Bool)(n:Nat):zE:=⟨rD lit n,rD calm n,rD (fun h=>lit h&&calm h) n⟩
def RB(b:AL)(plan:List (List Int))(t:List Int)(r p h:Nat):Bool:=QR b (r,p) (EF plan h r) (t.getD h 0)
def E3(b:AL)(plan:List (List Int))(t:List Int)(r p:Nat):zE:=rF (RB b plan t r p) (OM b plan r) t.length
def CP(b:AL)(plan:List (List Int)):Bool:=(plan.all fun l=>decide ((l.length:Int)=b.rows)&&DF l 0)&&decide ((plan.length:Int)=b.last+1)
structure ON(b:AL)(plan:List (List Int)):Prop where
 len:(plan.length:Int)=b.last+1
 row:∀h,h<plan.length->((plan.getD h []).length:Int)=b.rows
 dir:∀h r,h<plan.length->r<(plan.getD h []).length->HH (EF plan h r) 0 3=true
theorem AKX{b:AL}{plan:List (List Int)}(h:CP b plan=true):ON b plan:=by
 simp only[CP,bj,bw,decide_eq_true_eq]at h;obtain⟨h1,h2⟩:=h;refine⟨h2,fun j hj=>?_,fun j r hj hr=>?_⟩
 ·rw[bk,bq hj];exact(h1 _ (bb hj)).1
 ·have:=(h1 _ (bb hj)).2;have e:plan.getD j []=plan[j]:=by rw[bk,bq hj];rfl
  unfold EF;rw[e]at hr|-;rw[bk,bq hr];exact bw.1 this _ (bb hr)
theorem AE2{b:AL}(h:Valid b){j:Nat}(hj:j<b.winds.length){n:Int}(hn:n∈b.winds[j]):HH n 0 3=true:=by have:=bw.1 h.wo _ (bb hj);simp only[DB,bj]at this;exact bw.1 this.1.2 n hn
theorem rG{b:AL}(h:Valid b){t:List Int}(ht:AZ t b.winds=true){j:Nat}(hj:j<t.length):HH (t.getD j 0) 0 3=true:=by have hl:=C6 ht;rw[bk,bq hj];exact AE2 h (by omega) (FA ht j hj (by omega))
def AE3(b:AL)(h:Nat)(l:List Int):List Int:=l.filter fun n=>b.notes.all fun x=>!decide (x.1=h)||decide (x.2=n)
def lL(b:AL):Nat->List (List Int)->List (List Int)
 |_,[]=>[]
 |h,l::r=>AE3 b h l::lL b (h+1) r
def aw(b:AL):List (List Int):=lL b 0 b.winds
theorem lM(b:AL):∀(h:Nat) (ws:List (List Int)),(lL b h ws).length=ws.length
 |_,[]=>rfl
 |h,l::r=>by simp[lL,lM b (h+1) r]
theorem lN(b:AL):∀(h:Nat) (ws:List (List Int)) (j:Nat) (h1:j<(lL b h ws).length) (h2:j<ws.length),(lL b h ws)[j]=AE3 b (h+j) ws[j]
 |h,l::r,0,_,_=>rfl
 |h,l::r,j+1,h1,h2=>by have:=lN b (h+1) r j (by simpa [lL]using h1) (by simpa using h2);simp only[lL,List.getElem_cons_succ,this];rw[show h+1+j=h+(j+1) by omega]
theorem GP(b:AL):(aw b).length=b.winds.length:=lM b 0 _
theorem rH(b:AL)(j:Nat)(h1:j<(aw b).length)(h2:j<b.winds.length):(aw b)[j]=AE3 b j b.winds[j]:=by have:=lN b 0 b.winds j h1 h2;rwa [Nat.zero_add]at this
theorem E4{b:AL}(h:Valid b){t:List Int}:CZ b t=true↔AZ t (aw b)=true:=by
 unfold CZ;rw[bj,bw];have wi:=h.wi;constructor
 ·rintro ⟨h1,h2⟩;have hl:=C6 h1;refine LW (by rw[GP,hl]) fun j j1 j2=>?_;rw[rH b j j2 (by omega)];refine bf.2 ⟨FA h1 j j1 (by omega),bw.2 fun x hx=>?_⟩;by_cases e:x.1=(j:Int)
  ·have:=h2 x hx;simp only[HJ,atI,e,Int.toNat_natCast,bk,bq j1,Option.getD_some,decide_eq_true_eq]at this;simp[this]
  ·simp[e]
 ·intro h1;have hl:=C6 h1;rw[GP]at hl;refine⟨LW hl fun j j1 j2=>?_,fun x hx=>?_⟩
  ·have:=FA h1 j j1 (by rw[GP];exact j2);rw[rH b j _ j2]at this;exact(bf.1 this).1
  ·have hn:=bw.1 h.nok x hx;simp only[HI,bj,BU]at hn;obtain⟨⟨n1,n2⟩,_⟩:=hn;have hj:x.1.toNat<t.length:=by omega
   have:=FA h1 x.1.toNat hj (by rw[GP];omega);rw[rH b _ _ (by omega)]at this;have:=bw.1 (bf.1 this).2 x hx;have e:x.1=((x.1.toNat:Nat):Int):=by omega
   simp only[<-e,decide_true,Bool.not_true,Bool.false_or,decide_eq_true_eq]at this;simp only[HJ,atI,bk,bq hj,Option.getD_some,decide_eq_true_eq];exact this.symm
theorem zF{b:AL}(h:Valid b):BQ b≠[]↔∀l∈aw b,l≠[]:=by
 constructor
 ·intro he l hl;obtain⟨t,ht⟩:=bx _ he;have:=(E4 h).1 (DT.1 ht);obtain⟨j,hj,rfl⟩:=bp hl;have:=FA this j (by rw[C6 this];exact hj) hj;exact ck this
 ·intro ha;have:=RA ha 0;exact ck (DT.2 ((E4 h).2 this))
def OP(g:Nat->Int->Int):Nat->List Int->Int
 |_,[]=>0
 |h,x::t=>g h x+OP g (h+1) t
def VJ(g:Nat->Int):Nat->Nat->Int
 |_,0=>0
 |h,n+1=>g h+VJ g (h+1) n
theorem vS{g:Nat->Int->Int}{lo:Nat->Int}:∀(A:List (List Int)) (h:Nat),(∀j (hj:j<A.length),∀n∈A[j],lo (h+j)<=g (h+j) n)->∀t,AZ t A=true->VJ lo h A.length<=OP g h t
 |[],h,_,[],_=>Int.le_refl _
 |l::r,h,hA,x::t,ht=>by simp only[AZ,bj,decide_eq_true_eq]at ht;have h1:=hA 0 (by simp) x ht.1;have h2:=vS r (h+1) (fun j hj n hn=>by have:=hA (j+1) (by simpa using hj) n hn;rwa [show h+(j+1)=h+1+j by omega]at this) t ht.2;simp only[bc,VJ,OP];simp only[cw]at h1;omega
theorem lO{g:Nat->Int->Int}{hi:Nat->Int}:∀(A:List (List Int)) (h:Nat),(∀j (hj:j<A.length),∀n∈A[j],g (h+j) n<=hi (h+j))->∀t,AZ t A=true->OP g h t<=VJ hi h A.length
 |[],h,_,[],_=>Int.le_refl _
 |l::r,h,hA,x::t,ht=>by simp only[AZ,bj,decide_eq_true_eq]at ht;have h1:=hA 0 (by simp) x ht.1;have h2:=lO r (h+1) (fun j hj n hn=>by have:=hA (j+1) (by simpa using hj) n hn;rwa [show h+(j+1)=h+1+j by omega]at this) t ht.2;simp only[bc,VJ,OP];simp only[cw]at h1;omega
theorem rI{g:Nat->Int->Int}{z:Nat->Int}:∀(A:List (List Int)) (h:Nat),(∀j (hj:j<A.length),∃n∈A[j],g (h+j) n=z (h+j))->∃t,AZ t A=true/\OP g h t=VJ z h A.length
 |[],h,_=>⟨[],rfl,rfl⟩
 |l::r,h,hA=>by
  obtain⟨n,hn,he⟩:=hA 0 (by simp);obtain⟨t,ht,hs⟩:=rI r (h+1) fun j hj=>by obtain⟨n,h1,h2⟩:=hA (j+1) (by simpa using hj);exact⟨n,h1,by rwa [show h+(j+1)=h+1+j by omega]at h2⟩
  refine⟨n::t,?_,?_⟩
  ·simp only[AZ,bj,decide_eq_true_eq];exact⟨hn,ht⟩
  ·simp only[cw]at he;simp only[bc,VJ,OP,he,hs]
def cZ(z:Int)(l:List Int):Int:=l.foldl min z
def dA(z:Int)(l:List Int):Int:=l.foldl max z
theorem vT:∀(l:List Int) (z:Int),cZ z l<=z/\∀x∈l,cZ z l<=x
 |[],z=>⟨Int.le_refl _,by simp⟩
 |y::l,z=>by
  obtain⟨h1,h2⟩:=vT l (min z y);have:cZ z (y::l)=cZ (min z y) l:=rfl;rw[this];refine⟨by omega,fun x hx=>?_⟩;rcases bg.1 hx with rfl|hx
  ·omega
  ·exact h2 x hx
theorem lP:∀(l:List Int) (z:Int),cZ z l=z\/cZ z l∈l
 |[],z=>.inl rfl
 |y::l,z=>by
  have e:cZ z (y::l)=cZ (min z y) l:=rfl;rw[e];rcases lP l (min z y)with h|h
  ·rw[h];rcases Int.le_total z y with h|h
   ·left;omega
   ·right;rw[show min z y=y by omega];simp
  ·exact .inr (bg.2 (.inr h))
theorem vU:∀(l:List Int) (z:Int),z<=dA z l/\∀x∈l,x<=dA z l
 |[],z=>⟨Int.le_refl _,by simp⟩
 |y::l,z=>by
  obtain⟨h1,h2⟩:=vU l (max z y);have:dA z (y::l)=dA (max z y) l:=rfl;rw[this];refine⟨by omega,fun x hx=>?_⟩;rcases bg.1 hx with rfl|hx
  ·omega
  ·exact h2 x hx
theorem lS:∀(l:List Int) (z:Int),dA z l=z\/dA z l∈l
 |[],z=>.inl rfl
 |y::l,z=>by
  have e:dA z (y::l)=dA (max z y) l:=rfl;rw[e];rcases lS l (max z y)with h|h
  ·rw[h];rcases Int.le_total z y with h|h
   ·right;rw[show max z y=y by omega];simp
   ·left;omega
  ·exact .inr (bg.2 (.inr h))
structure IZ{α:Type}(l:List α)(f:α->Int)(m:Int):Prop where
 le:∀x∈l,m<=f x
 at':∃x∈l,f x=m
structure JN{α:Type}(l:List α)(f:α->Int)(m:Int):Prop where
 le:∀x∈l,f x<=m
 at':∃x∈l,f x=m
theorem IZ.uniq{α:Type}{l:List α}{f:α->Int}{m n:Int}(h:IZ l f m)(h':IZ l f n):m=n:=by obtain⟨x,hx,ex⟩:=h.at';obtain⟨y,hy,ey⟩:=h'.at';have:=h.le y hy;have:=h'.le x hx;omega
theorem JN.uniq{α:Type}{l:List α}{f:α->Int}{m n:Int}(h:JN l f m)(h':JN l f n):m=n:=by obtain⟨x,hx,ex⟩:=h.at';obtain⟨y,hy,ey⟩:=h'.at';have:=h.le y hy;have:=h'.le x hx;omega
theorem vV{α:Type}{l:List α}{f:α->Int}{z:Int}(hz:∀x∈l,f x<=z)(hn:l≠[]):IZ l f (cZ z (l.map f)):=by
 obtain⟨h1,h2⟩:=vT (l.map f) z;refine⟨fun x hx=>h2 _ (bz hx),?_⟩;rcases lP (l.map f) z with h|h
 ·obtain⟨y,hy⟩:=bx _ hn;have:=h2 _ (bz hy);have:=hz y hy;exact⟨y,hy,by omega⟩
 ·obtain⟨x,hx,e⟩:=bn.1 h;exact⟨x,hx,e⟩
theorem vW{α:Type}{l:List α}{f:α->Int}{z:Int}(hz:∀x∈l,z<=f x)(hn:l≠[]):JN l f (dA z (l.map f)):=by
 obtain⟨h1,h2⟩:=vU (l.map f) z;refine⟨fun x hx=>h2 _ (bz hx),?_⟩;rcases lS (l.map f) z with h|h
 ·obtain⟨y,hy⟩:=bx _ hn;have:=h2 _ (bz hy);have:=hz y hy;exact⟨y,hy,by omega⟩
 ·obtain⟨x,hx,e⟩:=bn.1 h;exact⟨x,hx,e⟩
theorem AKY{b:AL}(h:Valid b)(g:Nat->Int->Int)(lo:Nat->Int)(hlo:∀j (hj:j<(aw b).length),IZ (aw b)[j] (g j) (lo j)):IZ (BQ b) (OP g 0) (VJ lo 0 b.winds.length):=by
 refine⟨fun t ht=>?_,?_⟩
 ·have:=vS (g:=g) (lo:=lo) (aw b) 0 (fun j hj n hn=>by simpa using(hlo j hj).le n hn) t ((E4 h).1 (DT.1 ht));rwa [GP]at this
 ·obtain⟨t,h1,h2⟩:=rI (g:=g) (z:=lo) (aw b) 0 fun j hj=>by simpa using(hlo j hj).at'
  rw[GP]at h2;exact⟨t,DT.2 ((E4 h).2 h1),h2⟩
theorem AKZ{b:AL}(h:Valid b)(g:Nat->Int->Int)(hi:Nat->Int)(hhi:∀j (hj:j<(aw b).length),JN (aw b)[j] (g j) (hi j)):JN (BQ b) (OP g 0) (VJ hi 0 b.winds.length):=by
 refine⟨fun t ht=>?_,?_⟩
 ·have:=lO (g:=g) (hi:=hi) (aw b) 0 (fun j hj n hn=>by simpa using(hhi j hj).le n hn) t ((E4 h).1 (DT.1 ht));rwa [GP]at this
 ·obtain⟨t,h1,h2⟩:=rI (g:=g) (z:=hi) (aw b) 0 fun j hj=>by simpa using(hhi j hj).at'
  rw[GP]at h2;exact⟨t,DT.2 ((E4 h).2 h1),h2⟩
theorem vX:∀{l:List Int} {lo:Int},H7 l=true->(∀x∈l,lo<=x/\x<=3)->lo<=4->(l.length:Int)<=4-lo
 |[],lo,_,_,h=>by simp;omega
 |[x],lo,_,h,_=>by have:=h x (by simp);simp;omega
 |x::y::r,lo,h,ha,hl=>by
  simp only[H7,bj,decide_eq_true_eq]at h;have hx:=ha x (by simp);have:∀z∈y::r,lo+1<=z/\z<=3:=by
   have key:∀(l:List Int) (y:Int),H7 (y::l)=true->∀z∈y::l,y<=z:=by
    intro l;induction l with
    |nil=>intro y _ z hz;simp at hz;omega
    |cons w l ih=>
     intro y hi z hz
     simp only[H7,bj,decide_eq_true_eq]at hi
     rcases bg.1 hz with rfl|hz
     ·omega
     ·have:=ih w hi.2 z hz;omega
   intro z hz;have h1:=key r y h.2 z hz;have h2:=ha z (List.mem_cons_of_mem _ hz);omega
  have h3:=vX h.2 this (by omega);simp only[bc]at h3|-;omega
theorem AE4{l:List Int}(h:DB l=true):1<=l.length/\l.length<=4:=by
 simp only[DB,bj]at h;obtain⟨⟨h1,h2⟩,h3⟩:=h;have:=vX (lo:=0) h3 (fun x hx=>BU.1 (bw.1 h2 x hx)) (by omega);refine⟨?_,by omega⟩;cases l with
 |nil=>simp at h1
 |cons x l=>simp
theorem Valid.wl{b:AL}(h:Valid b):∀l∈b.winds,1<=l.length/\l.length<=4:=fun l hl=>AE4 (bw.1 h.wo l hl)
theorem Valid.hl{b:AL}(h:Valid b):b.winds.length<=5:=by have:=h.la;have:=h.wi;omega
theorem vY:∀{ws:List (List Int)},(∀l∈ws,l.length<=4)->E7 ws<=4 ^ ws.length
 |[],_=>cx _
 |l::r,h=>by have h1:=vY (ws:=r) fun l hl=>h l (by simp[hl]);have h2:=h l (by simp);simp only[E7,bc,Nat.pow_succ];rw[Nat.mul_comm (4 ^ r.length)];exact Nat.mul_le_mul h2 h1
theorem Valid.many{b:AL}(h:Valid b):E7 b.winds<=1024:=by have h1:=vY fun l hl=>(h.wl l hl).2;have h2:4 ^ b.winds.length<=4 ^ 5:=Nat.pow_le_pow_right (by omega) h.hl;omega
def E8(x j:Nat):List Int:=List.map (fun i:Nat=>(i:Int)) ((List.range j).filter fun i=>x.testBit i)
theorem IG(x j:Nat):E8 x (j+1)=if x.testBit j=true then E8 x j++[(j:Int)] else E8 x j:=by unfold E8;rw[List.range_succ,List.filter_append,List.map_append];cases hb:x.testBit j<;>simp[hb]
end Go.Wind
