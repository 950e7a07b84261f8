/- Beaches, their truths and what is so in them, plainly. No condition; no program in sight. -/
open Bool renaming and_eq_true->bj,not_eq_false->bh,or_eq_true->bm,not_eq_true'->cq
open List renaming getD_eq_getElem?_getD->bk,getElem?_eq_getElem->bq,all_eq_true->bw,exists_mem_of_ne_nil->bx,mem_map_of_mem->bz,getElem_mem->bb,length_cons->bc,mem_filter->bf,mem_cons->bg,mem_map->bn,getElem_of_mem->bp,ne_nil_of_mem->ck
open Nat renaming add_zero->cw,le_refl->cx
namespace Go.Wind
structure AK where
 last:Int
 rows:Int
 places:Int
 reach:Int
 face:List Int
 sun:List Int
 winds:List (List Int)
 breaks:List (Int×Int)
 notes:List (Int×Int)
def HW(n lo hi:Int):Bool:=decide (lo<=n)&&decide (n<=hi)
theorem DT{n lo hi:Int}:HW n lo hi=true↔lo<=n/\n<=hi:=by simp[HW]
def DU(b:AK)(s:Int×Int):Bool:=HW s.1 0 (b.rows-1)&&HW s.2 0 (b.places-1)
def EE(l:List Int)(lo:Int):Bool:=l.all fun n=>HW n lo 3
def JV:List Int->Bool
 |[]=>true
 |[_]=>true
 |x::y::r=>decide (x<y)&&JV (y::r)
def FY(l:List Int):Bool:=!l.isEmpty&&EE l 0&&JV l
def I3(b:AK)(x:Int×Int):Bool:=HW x.1 0 b.last&&HW x.2 0 3
def DJ(b:AK):Int :=
 if (decide (4<b.last)||decide (3<b.rows)||decide (5<b.places)||decide (4<b.breaks.length)||decide (5<b.notes.length))=true then 3
 else if (decide (b.last<0)||decide (b.rows<1)||decide (b.places<1)||!HW b.reach 0 4||!decide ((b.face.length:Int)=b.rows)||!decide ((b.sun.length:Int)=b.last+1)||!decide ((b.winds.length:Int)=b.last+1)||!EE b.face 0||!EE b.sun (-1))=true then 1
 else if b.winds.all FY=false then 1 else if b.breaks.all (DU b)=false then 1 else if b.notes.all (I3 b)=false then 1 else 0
structure Valid(b:AK):Prop where
 la:0<=b.last/\b.last<=4
 ro:1<=b.rows/\b.rows<=3
 pl:1<=b.places/\b.places<=5
 re:0<=b.reach/\b.reach<=4
 br:b.breaks.length<=4
 no:b.notes.length<=5
 fa:(b.face.length:Int)=b.rows
 su:(b.sun.length:Int)=b.last+1
 wi:(b.winds.length:Int)=b.last+1
 fd:EE b.face 0=true
 sd:EE b.sun (-1)=true
 wo:b.winds.all FY=true
 bo:b.breaks.all (DU b)=true
 nok:b.notes.all (I3 b)=true
theorem SV{b:AK}(h:DJ b=0):Valid b:=by
 unfold DJ at h;split at h
 ·cases h
 split at h
 ·cases h
 split at h
 ·cases h
 split at h
 ·cases h
 split at h
 ·cases h
 rename_i h1 h2 h3 h4 h5;simp only[bm,decide_eq_true_eq,cq,decide_eq_false_iff_not,not_or,bh]at h1 h2;obtain⟨⟨⟨⟨a1,a2⟩,a3⟩,a4⟩,a5⟩:=h1;obtain⟨⟨⟨⟨⟨⟨⟨⟨c1,c2⟩,c3⟩,c4⟩,c5⟩,c6⟩,c7⟩,c8⟩,c9⟩:=h2;have:=DT.1 c4;simp only[bh]at h3 h4 h5;exact⟨⟨by omega,by omega⟩,⟨by omega,by omega⟩,⟨by omega,by omega⟩,this,by omega,by omega,Classical.not_not.1 c5,Classical.not_not.1 c6,Classical.not_not.1 c7,c8,c9,h3,h4,h5⟩
theorem JW{b:AK}(h:Valid b):DJ b=0:=by
 obtain⟨la,ro,pl,re,br,no,fa,su,wi,fd,sd,wo,bo,nok⟩:=h;unfold DJ;rw[if_neg,if_neg,if_neg,if_neg,if_neg]
 ·simp[nok]
 ·simp[bo]
 ·simp[wo]
 ·simp only[bm,decide_eq_true_eq,cq,decide_eq_false_iff_not,not_or,bh];exact⟨⟨⟨⟨⟨⟨⟨⟨by omega,by omega⟩,by omega⟩,DT.2 re⟩,by simpa using fa⟩,by simpa using su⟩,by simpa using wi⟩,fd⟩,sd⟩
 ·simp only[bm,decide_eq_true_eq,not_or];exact⟨⟨⟨⟨by omega,by omega⟩,by omega⟩,by omega⟩,by omega⟩
def F3:List (List Int)->Nat
 |[]=>1
 |l::r=>l.length*F3 r
def DZ:List (List Int)->Nat->List Int
 |[],_=>[]
 |l::r,n=>l.getD (n % l.length) 0::DZ r (n / l.length)
def V9:List (List Int)->List (List Int)
 |[]=>[[]]
 |l::r=>l.flatMap fun x=>(V9 r).map (x::·)
def A5:List Int->List (List Int)->Bool
 |[],[]=>true
 |x::t,l::r=>decide (x∈l)&&A5 t r
 |_,_=>false
theorem DD:∀{t:List Int} {ws:List (List Int)},A5 t ws=true->t.length=ws.length
 |[],[],_=>rfl
 |x::t,l::r,h=>by simp only[A5,bj]at h;simp[DD h.2]
theorem FK:∀{t:List Int} {ws:List (List Int)},A5 t ws=true->∀h (h1:h<t.length) (h2:h<ws.length),t[h]∈ws[h]
 |x::t,l::r,hh,0,_,_=>by simp only[A5,bj,decide_eq_true_eq]at hh;exact hh.1
 |x::t,l::r,hh,h+1,h1,h2=>by simp only[A5,bj]at hh;simpa using FK hh.2 h (by simpa using h1) (by simpa using h2)
theorem LJ:∀{t:List Int} {ws:List (List Int)},t.length=ws.length->(∀h (h1:h<t.length) (h2:h<ws.length),t[h]∈ws[h])->A5 t ws=true
 |[],[],_,_=>rfl
 |x::t,l::r,hl,h=>by simp only[A5,bj,decide_eq_true_eq];exact⟨h 0 (by simp) (by simp),LJ (by simpa using hl) fun j h1 h2=>h (j+1) (by simpa using h1) (by simpa using h2)⟩
theorem O6:∀{ws:List (List Int)} {t:List Int},t∈V9 ws↔A5 t ws=true
 |[],t=>by cases t<;>simp[V9,A5]
 |l::r,t=>by
  cases t with
  |nil=>simp[V9,A5]
  |cons x t=>
   simp only[V9,List.mem_flatMap,bn,A5,bj,decide_eq_true_eq]
   constructor
   ·rintro ⟨y,hy,z,hz,e⟩;cases e;exact⟨hy,O6.1 hz⟩
   ·rintro ⟨h1,h2⟩;exact⟨x,h1,t,O6.2 h2,rfl⟩
theorem QQ:∀{ws:List (List Int)} (_:∀l∈ws,l≠[]) (n:Nat),A5 (DZ ws n) ws=true
 |[],_,_=>rfl
 |l::r,h,n=>by have hl:0<l.length:=List.length_pos_iff.2 (h l (by simp));simp only[DZ,A5,bj,decide_eq_true_eq];have hm:n % l.length<l.length:=Nat.mod_lt _ hl;refine⟨?_,QQ (fun l hl=>h l (by simp[hl])) _⟩;rw[bk,bq hm];exact bb hm
theorem tS:∀{ws:List (List Int)} {t:List Int},A5 t ws=true->∃n,n<F3 ws/\DZ ws n=t
 |[],[],_=>⟨0,by simp[F3],rfl⟩
 |l::r,x::t,h=>by
  simp only[A5,bj,decide_eq_true_eq]at h;obtain⟨m,h1,h2⟩:=tS h.2;obtain⟨j,hj,hx⟩:=bp h.1;refine⟨j+l.length*m,?_,?_⟩
  ·simp only[F3];have:l.length*m+l.length<=l.length*F3 r:=by rw[<-Nat.mul_succ];exact Nat.mul_le_mul_left _ h1
   omega
  ·have hl:0<l.length:=by omega
   simp only[DZ,Nat.add_mul_mod_self_left,Nat.mod_eq_of_lt hj,Nat.add_mul_div_left _ _ hl,Nat.div_eq_of_lt hj,Nat.zero_add,h2];rw[bk,bq hj];simp[hx]
def atI(l:List Int)(h:Int):Int:=l.getD h.toNat 0
def JX(t:List Int)(x:Int×Int):Bool:=decide (atI t x.1=x.2)
def C3(b:AK)(t:List Int):Bool:=A5 t b.winds&&b.notes.all (JX t)
def CE(b:AK):List (List Int):=((List.range (F3 b.winds)).map (DZ b.winds)).filter (C3 b)
theorem Valid.ne{b:AK}(h:Valid b):∀l∈b.winds,l≠[]:=fun l hl e=>by have:=bw.1 h.wo l hl;subst e;simp[FY]at this
theorem EJ{b:AK}{t:List Int}:t∈CE b↔C3 b t=true:=by
 unfold CE;rw[bf,bn];constructor
 ·exact fun h=>h.2
 ·intro ht;refine⟨?_,ht⟩;simp only[C3,bj]at ht;obtain⟨n,h1,h2⟩:=tS ht.1;exact⟨n,List.mem_range.2 h1,h2⟩
def E0(p:List (List Int))(h r:Nat):Int:=(p.getD h []).getD r 0
def AI3(s k:Int×Int)(wind:Int):Int:=if wind=0/\k.2=s.2 then s.1-k.1 else if wind=2/\k.2=s.2 then k.1-s.1 else if wind=3/\k.1=s.1 then s.2-k.2 else if wind=1/\k.1=s.1 then k.2-s.2 else 0
def XH(b:AK)(s:Int×Int)(wind:Int):Bool:=b.breaks.any fun k=>HW (AI3 s k wind) 1 b.reach
def P6(b:AK)(s:Int×Int)(face wind:Int):Bool:=decide (face=(wind+2) % 4)||XH b s wind
def jV(f:Nat->Bool):Nat->Nat
 |0=>0
 |n+1=>jV f n+(if f n=true then 1 else 0)
theorem Y1(f:Nat->Bool):∀n,jV f n<=n
 |0=>cx _
 |n+1=>by have:=Y1 f n;simp only[jV];split<;>omega
theorem Y2{f g:Nat->Bool}:∀{n:Nat},(∀h,h<n->f h=true->g h=true)->jV f n<=jV g n
 |0,_=>cx _
 |n+1,h=>by have:=Y2 (n:=n) fun j hj=>h j (by omega);have:=h n (by omega);simp only[jV];split<;>split<;>simp_all;all_goals omega
def QR(b:AK)(plan:List (List Int))(r h:Nat):Bool:=decide (E0 plan h r=b.sun.getD h 0)
structure xA where
 sun:Int
 calm:Int
 good:Int
deriving DecidableEq
def AC5(calm:Nat->Bool)(lit:Nat->Bool)(n:Nat):xA:=⟨jV lit n,jV calm n,jV (fun h=>lit h&&calm h) n⟩
def JY(b:AK)(plan:List (List Int))(t:List Int)(r p h:Nat):Bool:=P6 b (r,p) (E0 plan h r) (t.getD h 0)
def D5(b:AK)(plan:List (List Int))(t:List Int)(r p:Nat):xA:=AC5 (JY b plan t r p) (QR b plan r) t.length
def DV(b:AK)(plan:List (List Int)):Bool:=(plan.all fun l=>decide ((l.length:Int)=b.rows)&&EE l 0)&&decide ((plan.length:Int)=b.last+1)
structure N3(b:AK)(plan:List (List Int)):Prop where
 len:(plan.length:Int)=b.last+1
 row:∀h,h<plan.length->((plan.getD h []).length:Int)=b.rows
 dir:∀h r,h<plan.length->r<(plan.getD h []).length->HW (E0 plan h r) 0 3=true
theorem AI4{b:AK}{plan:List (List Int)}(h:DV b plan=true):N3 b plan:=by
 simp only[DV,bj,bw,decide_eq_true_eq]at h;obtain⟨h1,h2⟩:=h;refine⟨h2,fun j hj=>?_,fun j r hj hr=>?_⟩
 ·rw[bk,bq hj];exact(h1 _ (bb hj)).1
 ·have:=(h1 _ (bb hj)).2;have e:plan.getD j []=plan[j]:=by rw[bk,bq hj];rfl
  unfold E0;rw[e]at hr|-;rw[bk,bq hr];exact bw.1 this _ (bb hr)
theorem AC6{b:AK}(h:Valid b){j:Nat}(hj:j<b.winds.length){n:Int}(hn:n∈b.winds[j]):HW n 0 3=true:=by have:=bw.1 h.wo _ (bb hj);simp only[FY,bj]at this;exact bw.1 this.1.2 n hn
theorem oX{b:AK}(h:Valid b){t:List Int}(ht:A5 t b.winds=true){j:Nat}(hj:j<t.length):HW (t.getD j 0) 0 3=true:=by have hl:=DD ht;rw[bk,bq hj];exact AC6 h (by omega) (FK ht j hj (by omega))
def AC7(b:AK)(h:Nat)(l:List Int):List Int:=l.filter fun n=>b.notes.all fun x=>!decide (x.1=h)||decide (x.2=n)
def jW(b:AK):Nat->List (List Int)->List (List Int)
 |_,[]=>[]
 |h,l::r=>AC7 b h l::jW b (h+1) r
def aw(b:AK):List (List Int):=jW b 0 b.winds
theorem jX(b:AK):∀(h:Nat) (ws:List (List Int)),(jW b h ws).length=ws.length
 |_,[]=>rfl
 |h,l::r=>by simp[jW,jX b (h+1) r]
theorem jY(b:AK):∀(h:Nat) (ws:List (List Int)) (j:Nat) (h1:j<(jW b h ws).length) (h2:j<ws.length),(jW b h ws)[j]=AC7 b (h+j) ws[j]
 |h,l::r,0,_,_=>rfl
 |h,l::r,j+1,h1,h2=>by have:=jY b (h+1) r j (by simpa [jW]using h1) (by simpa using h2);simp only[jW,List.getElem_cons_succ,this];rw[show h+1+j=h+(j+1) by omega]
theorem GK(b:AK):(aw b).length=b.winds.length:=jX b 0 _
theorem oY(b:AK)(j:Nat)(h1:j<(aw b).length)(h2:j<b.winds.length):(aw b)[j]=AC7 b j b.winds[j]:=by have:=jY b 0 b.winds j h1 h2;rwa [Nat.zero_add]at this
theorem E1{b:AK}(h:Valid b){t:List Int}:C3 b t=true↔A5 t (aw b)=true:=by
 unfold C3;rw[bj,bw];have wi:=h.wi;constructor
 ·rintro ⟨h1,h2⟩;have hl:=DD h1;refine LJ (by rw[GK,hl]) fun j j1 j2=>?_;rw[oY b j j2 (by omega)];refine bf.2 ⟨FK h1 j j1 (by omega),bw.2 fun x hx=>?_⟩;by_cases e:x.1=(j:Int)
  ·have:=h2 x hx;simp only[JX,atI,e,Int.toNat_natCast,bk,bq j1,Option.getD_some,decide_eq_true_eq]at this;simp[this]
  ·simp[e]
 ·intro h1;have hl:=DD h1;rw[GK]at hl;refine⟨LJ hl fun j j1 j2=>?_,fun x hx=>?_⟩
  ·have:=FK h1 j j1 (by rw[GK];exact j2);rw[oY b j _ j2]at this;exact(bf.1 this).1
  ·have hn:=bw.1 h.nok x hx;simp only[I3,bj,DT]at hn;obtain⟨⟨n1,n2⟩,_⟩:=hn;have hj:x.1.toNat<t.length:=by omega
   have:=FK h1 x.1.toNat hj (by rw[GK];omega);rw[oY b _ _ (by omega)]at this;have:=bw.1 (bf.1 this).2 x hx;have e:x.1=((x.1.toNat:Nat):Int):=by omega
   simp only[<-e,decide_true,Bool.not_true,Bool.false_or,decide_eq_true_eq]at this;simp only[JX,atI,bk,bq hj,Option.getD_some,decide_eq_true_eq];exact this.symm
theorem xB{b:AK}(h:Valid b):CE b≠[]↔∀l∈aw b,l≠[]:=by
 constructor
 ·intro he l hl;obtain⟨t,ht⟩:=bx _ he;have:=(E1 h).1 (EJ.1 ht);obtain⟨j,hj,rfl⟩:=bp hl;have:=FK this j (by rw[DD this];exact hj) hj;exact ck this
 ·intro ha;have:=QQ ha 0;exact ck (EJ.2 ((E1 h).2 this))
def N4(g:Nat->Int->Int):Nat->List Int->Int
 |_,[]=>0
 |h,x::t=>g h x+N4 g (h+1) t
def UU(g:Nat->Int):Nat->Nat->Int
 |_,0=>0
 |h,n+1=>g h+UU g (h+1) n
theorem tT{g:Nat->Int->Int}{lo:Nat->Int}:∀(A:List (List Int)) (h:Nat),(∀j (hj:j<A.length),∀n∈A[j],lo (h+j)<=g (h+j) n)->∀t,A5 t A=true->UU lo h A.length<=N4 g h t
 |[],h,_,[],_=>Int.le_refl _
 |l::r,h,hA,x::t,ht=>by simp only[A5,bj,decide_eq_true_eq]at ht;have h1:=hA 0 (by simp) x ht.1;have h2:=tT r (h+1) (fun j hj n hn=>by have:=hA (j+1) (by simpa using hj) n hn;rwa [show h+(j+1)=h+1+j by omega]at this) t ht.2;simp only[bc,UU,N4];simp only[cw]at h1;omega
theorem jZ{g:Nat->Int->Int}{hi:Nat->Int}:∀(A:List (List Int)) (h:Nat),(∀j (hj:j<A.length),∀n∈A[j],g (h+j) n<=hi (h+j))->∀t,A5 t A=true->N4 g h t<=UU hi h A.length
 |[],h,_,[],_=>Int.le_refl _
 |l::r,h,hA,x::t,ht=>by simp only[A5,bj,decide_eq_true_eq]at ht;have h1:=hA 0 (by simp) x ht.1;have h2:=jZ r (h+1) (fun j hj n hn=>by have:=hA (j+1) (by simpa using hj) n hn;rwa [show h+(j+1)=h+1+j by omega]at this) t ht.2;simp only[bc,UU,N4];simp only[cw]at h1;omega
theorem oZ{g:Nat->Int->Int}{z:Nat->Int}:∀(A:List (List Int)) (h:Nat),(∀j (hj:j<A.length),∃n∈A[j],g (h+j) n=z (h+j))->∃t,A5 t A=true/\N4 g h t=UU z h A.length
 |[],h,_=>⟨[],rfl,rfl⟩
 |l::r,h,hA=>by
  obtain⟨n,hn,he⟩:=hA 0 (by simp);obtain⟨t,ht,hs⟩:=oZ r (h+1) fun j hj=>by obtain⟨n,h1,h2⟩:=hA (j+1) (by simpa using hj);exact⟨n,h1,by rwa [show h+(j+1)=h+1+j by omega]at h2⟩
  refine⟨n::t,?_,?_⟩
  ·simp only[A5,bj,decide_eq_true_eq];exact⟨hn,ht⟩
  ·simp only[cw]at he;simp only[bc,UU,N4,he,hs]
def bY(z:Int)(l:List Int):Int:=l.foldl min z
def bZ(z:Int)(l:List Int):Int:=l.foldl max z
theorem tU:∀(l:List Int) (z:Int),bY z l<=z/\∀x∈l,bY z l<=x
 |[],z=>⟨Int.le_refl _,by simp⟩
 |y::l,z=>by
  obtain⟨h1,h2⟩:=tU l (min z y);have:bY z (y::l)=bY (min z y) l:=rfl;rw[this];refine⟨by omega,fun x hx=>?_⟩;rcases bg.1 hx with rfl|hx
  ·omega
  ·exact h2 x hx
theorem kB:∀(l:List Int) (z:Int),bY z l=z\/bY z l∈l
 |[],z=>.inl rfl
 |y::l,z=>by
  have e:bY z (y::l)=bY (min z y) l:=rfl;rw[e];rcases kB l (min z y)with h|h
  ·rw[h];rcases Int.le_total z y with h|h
   ·left;omega
   ·right;rw[show min z y=y by omega];simp
  ·exact .inr (bg.2 (.inr h))
theorem tV:∀(l:List Int) (z:Int),z<=bZ z l/\∀x∈l,x<=bZ z l
 |[],z=>⟨Int.le_refl _,by simp⟩
 |y::l,z=>by
  obtain⟨h1,h2⟩:=tV l (max z y);have:bZ z (y::l)=bZ (max z y) l:=rfl;rw[this];refine⟨by omega,fun x hx=>?_⟩;rcases bg.1 hx with rfl|hx
  ·omega
  ·exact h2 x hx
theorem kD:∀(l:List Int) (z:Int),bZ z l=z\/bZ z l∈l
 |[],z=>.inl rfl
 |y::l,z=>by
  have e:bZ z (y::l)=bZ (max z y) l:=rfl;rw[e];rcases kD l (max z y)with h|h
  ·rw[h];rcases Int.le_total z y with h|h
   ·right;rw[show max z y=y by omega];simp
   ·left;omega
  ·exact .inr (bg.2 (.inr h))
structure IL{α:Type}(l:List α)(f:α->Int)(m:Int):Prop where
 le:∀x∈l,m<=f x
 at':∃x∈l,f x=m
structure JD{α:Type}(l:List α)(f:α->Int)(m:Int):Prop where
 le:∀x∈l,f x<=m
 at':∃x∈l,f x=m
theorem IL.uniq{α:Type}{l:List α}{f:α->Int}{m n:Int}(h:IL l f m)(h':IL l f n):m=n:=by obtain⟨x,hx,ex⟩:=h.at';obtain⟨y,hy,ey⟩:=h'.at';have:=h.le y hy;have:=h'.le x hx;omega
theorem JD.uniq{α:Type}{l:List α}{f:α->Int}{m n:Int}(h:JD l f m)(h':JD l f n):m=n:=by obtain⟨x,hx,ex⟩:=h.at';obtain⟨y,hy,ey⟩:=h'.at';have:=h.le y hy;have:=h'.le x hx;omega
theorem tW{α:Type}{l:List α}{f:α->Int}{z:Int}(hz:∀x∈l,f x<=z)(hn:l≠[]):IL l f (bY z (l.map f)):=by
 obtain⟨h1,h2⟩:=tU (l.map f) z;refine⟨fun x hx=>h2 _ (bz hx),?_⟩;rcases kB (l.map f) z with h|h
 ·obtain⟨y,hy⟩:=bx _ hn;have:=h2 _ (bz hy);have:=hz y hy;exact⟨y,hy,by omega⟩
 ·obtain⟨x,hx,e⟩:=bn.1 h;exact⟨x,hx,e⟩
theorem tX{α:Type}{l:List α}{f:α->Int}{z:Int}(hz:∀x∈l,z<=f x)(hn:l≠[]):JD l f (bZ z (l.map f)):=by
 obtain⟨h1,h2⟩:=tV (l.map f) z;refine⟨fun x hx=>h2 _ (bz hx),?_⟩;rcases kD (l.map f) z with h|h
 ·obtain⟨y,hy⟩:=bx _ hn;have:=h2 _ (bz hy);have:=hz y hy;exact⟨y,hy,by omega⟩
 ·obtain⟨x,hx,e⟩:=bn.1 h;exact⟨x,hx,e⟩
theorem AI5{b:AK}(h:Valid b)(g:Nat->Int->Int)(lo:Nat->Int)(hlo:∀j (hj:j<(aw b).length),IL (aw b)[j] (g j) (lo j)):IL (CE b) (N4 g 0) (UU lo 0 b.winds.length):=by
 refine⟨fun t ht=>?_,?_⟩
 ·have:=tT (g:=g) (lo:=lo) (aw b) 0 (fun j hj n hn=>by simpa using(hlo j hj).le n hn) t ((E1 h).1 (EJ.1 ht));rwa [GK]at this
 ·obtain⟨t,h1,h2⟩:=oZ (g:=g) (z:=lo) (aw b) 0 fun j hj=>by simpa using(hlo j hj).at'
  rw[GK]at h2;exact⟨t,EJ.2 ((E1 h).2 h1),h2⟩
theorem AI6{b:AK}(h:Valid b)(g:Nat->Int->Int)(hi:Nat->Int)(hhi:∀j (hj:j<(aw b).length),JD (aw b)[j] (g j) (hi j)):JD (CE b) (N4 g 0) (UU hi 0 b.winds.length):=by
 refine⟨fun t ht=>?_,?_⟩
 ·have:=jZ (g:=g) (hi:=hi) (aw b) 0 (fun j hj n hn=>by simpa using(hhi j hj).le n hn) t ((E1 h).1 (EJ.1 ht));rwa [GK]at this
 ·obtain⟨t,h1,h2⟩:=oZ (g:=g) (z:=hi) (aw b) 0 fun j hj=>by simpa using(hhi j hj).at'
  rw[GK]at h2;exact⟨t,EJ.2 ((E1 h).2 h1),h2⟩
theorem tY:∀{l:List Int} {lo:Int},JV l=true->(∀x∈l,lo<=x/\x<=3)->lo<=4->(l.length:Int)<=4-lo
 |[],lo,_,_,h=>by simp;omega
 |[x],lo,_,h,_=>by have:=h x (by simp);simp;omega
 |x::y::r,lo,h,ha,hl=>by
  simp only[JV,bj,decide_eq_true_eq]at h;have hx:=ha x (by simp);have:∀z∈y::r,lo+1<=z/\z<=3:=by
   have key:∀(l:List Int) (y:Int),JV (y::l)=true->∀z∈y::l,y<=z:=by
    intro l;induction l with
    |nil=>intro y _ z hz;simp at hz;omega
    |cons w l ih=>
     intro y hi z hz
     simp only[JV,bj,decide_eq_true_eq]at hi
     rcases bg.1 hz with rfl|hz
     ·omega
     ·have:=ih w hi.2 z hz;omega
   intro z hz;have h1:=key r y h.2 z hz;have h2:=ha z (List.mem_cons_of_mem _ hz);omega
  have h3:=tY h.2 this (by omega);simp only[bc]at h3|-;omega
theorem AC8{l:List Int}(h:FY l=true):1<=l.length/\l.length<=4:=by
 simp only[FY,bj]at h;obtain⟨⟨h1,h2⟩,h3⟩:=h;have:=tY (lo:=0) h3 (fun x hx=>DT.1 (bw.1 h2 x hx)) (by omega);refine⟨?_,by omega⟩;cases l with
 |nil=>simp at h1
 |cons x l=>simp
theorem Valid.wl{b:AK}(h:Valid b):∀l∈b.winds,1<=l.length/\l.length<=4:=fun l hl=>AC8 (bw.1 h.wo l hl)
theorem Valid.hl{b:AK}(h:Valid b):b.winds.length<=5:=by have:=h.la;have:=h.wi;omega
theorem tZ:∀{ws:List (List Int)},(∀l∈ws,l.length<=4)->F3 ws<=4 ^ ws.length
 |[],_=>cx _
 |l::r,h=>by have h1:=tZ (ws:=r) fun l hl=>h l (by simp[hl]);have h2:=h l (by simp);simp only[F3,bc,Nat.pow_succ];rw[Nat.mul_comm (4 ^ r.length)];exact Nat.mul_le_mul h2 h1
theorem Valid.many{b:AK}(h:Valid b):F3 b.winds<=1024:=by have h1:=tZ fun l hl=>(h.wl l hl).2;have h2:4 ^ b.winds.length<=4 ^ 5:=Nat.pow_le_pow_right (by omega) h.hl;omega
def FB(x j:Nat):List Int:=List.map (fun i:Nat=>(i:Int)) ((List.range j).filter fun i=>x.testBit i)
theorem H6(x j:Nat):FB x (j+1)=if x.testBit j=true then FB x j++[(j:Int)] else FB x j:=by unfold FB;rw[List.range_succ,List.filter_append,List.map_append];cases hb:x.testBit j<;>simp[hb]
end Go.Wind
