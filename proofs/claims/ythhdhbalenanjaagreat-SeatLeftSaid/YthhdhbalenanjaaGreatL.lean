/- Beaches, their truths and what is so in them, plainly. No condition; no program in sight. -/
open Bool renaming and_eq_true->bj,not_eq_false->bh,or_eq_true->bn,not_eq_true'->cw
open List renaming getD_eq_getElem?_getD->bk,getElem?_eq_getElem->bq,all_eq_true->bw,exists_mem_of_ne_nil->bx,mem_map_of_mem->bz,getElem_mem->bb,length_cons->bc,mem_filter->bf,mem_cons->bg,mem_map->bp,getElem_of_mem->cj,ne_nil_of_mem->cq,range->cd
open Nat renaming pow_le_pow_right->bm,add_zero->cx
namespace Go.Wind
structure AN where
 last:Int
 rows:Int
 places:Int
 reach:Int
 face:List Int
 sun:List Int
 winds:List (List Int)
 breaks:List (Int×Int)
 notes:List (Int×Int)
def HU(n lo hi:Int):Bool:=decide (lo<=n)&&decide (n<=hi)
theorem EL{n lo hi:Int}:HU n lo hi=true↔lo<=n/\n<=hi:=by simp[HU]
def FM(b:AN)(s:Int×Int):Bool:=HU s.1 0 (b.rows-1)&&HU s.2 0 (b.places-1)
def EB(l:List Int)(lo:Int):Bool:=l.all fun n=>HU n lo 3
def JZ:List Int->Bool
 |[]=>true
 |[_]=>true
 |x::y::r=>decide (x<y)&&JZ (y::r)
def F2(l:List Int):Bool:=!l.isEmpty&&EB l 0&&JZ l
def I2(b:AN)(x:Int×Int):Bool:=HU x.1 0 b.last&&HU x.2 0 3
def DK(b:AN):Int :=
 if (decide (4<b.last)||decide (3<b.rows)||decide (5<b.places)||decide (4<b.breaks.length)||decide (5<b.notes.length))=true then 3
 else if (decide (b.last<0)||decide (b.rows<1)||decide (b.places<1)||!HU b.reach 0 4||!decide ((b.face.length:Int)=b.rows)||!decide ((b.sun.length:Int)=b.last+1)||!decide ((b.winds.length:Int)=b.last+1)||!EB b.face 0||!EB b.sun (-1))=true then 1
 else if b.winds.all F2=false then 1 else if b.breaks.all (FM b)=false then 1 else if b.notes.all (I2 b)=false then 1 else 0
structure Valid(b:AN):Prop where
 la:0<=b.last/\b.last<=4
 ro:1<=b.rows/\b.rows<=3
 pl:1<=b.places/\b.places<=5
 re:0<=b.reach/\b.reach<=4
 br:b.breaks.length<=4
 no:b.notes.length<=5
 fa:(b.face.length:Int)=b.rows
 su:(b.sun.length:Int)=b.last+1
 wi:(b.winds.length:Int)=b.last+1
 fd:EB b.face 0=true
 sd:EB b.sun (-1)=true
 wo:b.winds.all F2=true
 bo:b.breaks.all (FM b)=true
 nok:b.notes.all (I2 b)=true
theorem SZ{b:AN}(h:DK b=0):Valid b:=by
 unfold DK at h;split at h
 ·cases h
 split at h
 ·cases h
 split at h
 ·cases h
 split at h
 ·cases h
 split at h
 ·cases h
 rename_i h1 h2 h3 h4 h5;simp only[bn,decide_eq_true_eq,cw,decide_eq_false_iff_not,not_or,bh]at h1 h2;obtain⟨⟨⟨⟨a1,a2⟩,a3⟩,a4⟩,a5⟩:=h1;obtain⟨⟨⟨⟨⟨⟨⟨⟨c1,c2⟩,c3⟩,c4⟩,c5⟩,c6⟩,c7⟩,c8⟩,c9⟩:=h2;have:=EL.1 c4;simp only[bh]at h3 h4 h5;exact⟨⟨by omega,by omega⟩,⟨by omega,by omega⟩,⟨by omega,by omega⟩,this,by omega,by omega,Classical.not_not.1 c5,Classical.not_not.1 c6,Classical.not_not.1 c7,c8,c9,h3,h4,h5⟩
theorem LI{b:AN}(h:Valid b):DK b=0:=by
 obtain⟨la,ro,pl,re,br,no,fa,su,wi,fd,sd,wo,bo,nok⟩:=h;unfold DK;rw[if_neg,if_neg,if_neg,if_neg,if_neg]
 ·simp[nok]
 ·simp[bo]
 ·simp[wo]
 ·simp only[bn,decide_eq_true_eq,cw,decide_eq_false_iff_not,not_or,bh];exact⟨⟨⟨⟨⟨⟨⟨⟨by omega,by omega⟩,by omega⟩,EL.2 re⟩,by simpa using fa⟩,by simpa using su⟩,by simpa using wi⟩,fd⟩,sd⟩
 ·simp only[bn,decide_eq_true_eq,not_or];exact⟨⟨⟨⟨by omega,by omega⟩,by omega⟩,by omega⟩,by omega⟩
def F8:List (List Int)->Nat
 |[]=>1
 |l::r=>l.length*F8 r
def DX:List (List Int)->Nat->List Int
 |[],_=>[]
 |l::r,n=>l.getD (n % l.length) 0::DX r (n / l.length)
def V7:List (List Int)->List (List Int)
 |[]=>[[]]
 |l::r=>l.flatMap fun x=>(V7 r).map (x::·)
def A7:List Int->List (List Int)->Bool
 |[],[]=>true
 |x::t,l::r=>decide (x∈l)&&A7 t r
 |_,_=>false
theorem DE:∀{t:List Int} {ws:List (List Int)},A7 t ws=true->t.length=ws.length
 |[],[],_=>rfl
 |x::t,l::r,h=>by simp only[A7,bj]at h;simp[DE h.2]
theorem FN:∀{t:List Int} {ws:List (List Int)},A7 t ws=true->∀h (h1:h<t.length) (h2:h<ws.length),t[h]∈ws[h]
 |x::t,l::r,hh,0,_,_=>by simp only[A7,bj,decide_eq_true_eq]at hh;exact hh.1
 |x::t,l::r,hh,h+1,h1,h2=>by simp only[A7,bj]at hh;simpa using FN hh.2 h (by simpa using h1) (by simpa using h2)
theorem LJ:∀{t:List Int} {ws:List (List Int)},t.length=ws.length->(∀h (h1:h<t.length) (h2:h<ws.length),t[h]∈ws[h])->A7 t ws=true
 |[],[],_,_=>rfl
 |x::t,l::r,hl,h=>by simp only[A7,bj,decide_eq_true_eq];exact⟨h 0 (by simp) (by simp),LJ (by simpa using hl) fun j h1 h2=>h (j+1) (by simpa using h1) (by simpa using h2)⟩
theorem PB:∀{ws:List (List Int)} {t:List Int},t∈V7 ws↔A7 t ws=true
 |[],t=>by cases t<;>simp[V7,A7]
 |l::r,t=>by
  cases t with
  |nil=>simp[V7,A7]
  |cons x t=>
   simp only[V7,List.mem_flatMap,bp,A7,bj,decide_eq_true_eq]
   constructor
   ·rintro ⟨y,hy,z,hz,e⟩;cases e;exact⟨hy,PB.1 hz⟩
   ·rintro ⟨h1,h2⟩;exact⟨x,h1,t,PB.2 h2,rfl⟩
theorem QU:∀{ws:List (List Int)} (_:∀l∈ws,l≠[]) (n:Nat),A7 (DX ws n) ws=true
 |[],_,_=>rfl
 |l::r,h,n=>by have hl:0<l.length:=List.length_pos_iff.2 (h l (by simp));simp only[DX,A7,bj,decide_eq_true_eq];have hm:n % l.length<l.length:=Nat.mod_lt _ hl;refine⟨?_,QU (fun l hl=>h l (by simp[hl])) _⟩;rw[bk,bq hm];exact bb hm
theorem tF:∀{ws:List (List Int)} {t:List Int},A7 t ws=true->∃n,n<F8 ws/\DX ws n=t
 |[],[],_=>⟨0,by simp[F8],rfl⟩
 |l::r,x::t,h=>by
  simp only[A7,bj,decide_eq_true_eq]at h;obtain⟨m,h1,h2⟩:=tF h.2;obtain⟨j,hj,hx⟩:=cj h.1;refine⟨j+l.length*m,?_,?_⟩
  ·simp only[F8];have:l.length*m+l.length<=l.length*F8 r:=by rw[<-Nat.mul_succ];exact Nat.mul_le_mul_left _ h1
   omega
  ·have hl:0<l.length:=by omega
   simp only[DX,Nat.add_mul_mod_self_left,Nat.mod_eq_of_lt hj,Nat.add_mul_div_left _ _ hl,Nat.div_eq_of_lt hj,Nat.zero_add,h2];rw[bk,bq hj];simp[hx]
def atI(l:List Int)(h:Int):Int:=l.getD h.toNat 0
def J0(t:List Int)(x:Int×Int):Bool:=decide (atI t x.1=x.2)
def C4(b:AN)(t:List Int):Bool:=A7 t b.winds&&b.notes.all (J0 t)
def B9(b:AN):List (List Int):=((cd (F8 b.winds)).map (DX b.winds)).filter (C4 b)
theorem Valid.ne{b:AN}(h:Valid b):∀l∈b.winds,l≠[]:=fun l hl e=>by have:=bw.1 h.wo l hl;subst e;simp[F2]at this
theorem EH{b:AN}{t:List Int}:t∈B9 b↔C4 b t=true:=by
 unfold B9;rw[bf,bp];constructor
 ·exact fun h=>h.2
 ·intro ht;refine⟨?_,ht⟩;simp only[C4,bj]at ht;obtain⟨n,h1,h2⟩:=tF ht.1;exact⟨n,List.mem_range.2 h1,h2⟩
def EW(p:List (List Int))(h r:Nat):Int:=(p.getD h []).getD r 0
def AIT(s k:Int×Int)(wind:Int):Int:=if wind=0/\k.2=s.2 then s.1-k.1 else if wind=2/\k.2=s.2 then k.1-s.1 else if wind=3/\k.1=s.1 then s.2-k.2 else if wind=1/\k.1=s.1 then k.2-s.2 else 0
def fO(b:AN)(s:Int×Int)(wind:Int):Bool:=b.breaks.any fun k=>HU (AIT s k wind) 1 b.reach
def YK(b:AN)(s:Int×Int)(face wind:Int):Bool:=decide (face=(wind+2) % 4)||fO b s wind
def cnt(f:Nat->Bool):Nat->Nat
 |0=>0
 |n+1=>cnt f n+(if f n=true then 1 else 0)
theorem YL(f:Nat->Bool):∀n,cnt f n<=n
 |0=>Nat.le_refl _
 |n+1=>by have:=YL f n;simp only[cnt];split<;>omega
def YM(b:AN)(plan:List (List Int))(r h:Nat):Bool:=decide (EW plan h r=b.sun.getD h 0)
structure wP where
 sun:Int
 calm:Int
 good:Int
deriving DecidableEq
def ACZ(calm:Nat->Bool)(lit:Nat->Bool)(n:Nat):wP:=⟨cnt lit n,cnt calm n,cnt (fun h=>lit h&&calm h) n⟩
def oJ(b:AN)(plan:List (List Int))(t:List Int)(r p h:Nat):Bool:=YK b (r,p) (EW plan h r) (t.getD h 0)
def I3(b:AN)(plan:List (List Int))(t:List Int)(r p:Nat):wP:=ACZ (oJ b plan t r p) (YM b plan r) t.length
def DV(b:AN)(plan:List (List Int)):Bool:=(plan.all fun l=>decide ((l.length:Int)=b.rows)&&EB l 0)&&decide ((plan.length:Int)=b.last+1)
structure N6(b:AN)(plan:List (List Int)):Prop where
 len:(plan.length:Int)=b.last+1
 row:∀h,h<plan.length->((plan.getD h []).length:Int)=b.rows
 dir:∀h r,h<plan.length->r<(plan.getD h []).length->HU (EW plan h r) 0 3=true
theorem AIU{b:AN}{plan:List (List Int)}(h:DV b plan=true):N6 b plan:=by
 simp only[DV,bj,bw,decide_eq_true_eq]at h;obtain⟨h1,h2⟩:=h;refine⟨h2,fun j hj=>?_,fun j r hj hr=>?_⟩
 ·rw[bk,bq hj];exact(h1 _ (bb hj)).1
 ·have:=(h1 _ (bb hj)).2;have e:plan.getD j []=plan[j]:=by rw[bk,bq hj];rfl
  unfold EW;rw[e]at hr|-;rw[bk,bq hr];exact bw.1 this _ (bb hr)
theorem AC0{b:AN}(h:Valid b){j:Nat}(hj:j<b.winds.length){n:Int}(hn:n∈b.winds[j]):HU n 0 3=true:=by have:=bw.1 h.wo _ (bb hj);simp only[F2,bj]at this;exact bw.1 this.1.2 n hn
theorem oK{b:AN}(h:Valid b){t:List Int}(ht:A7 t b.winds=true){j:Nat}(hj:j<t.length):HU (t.getD j 0) 0 3=true:=by have hl:=DE ht;rw[bk,bq hj];exact AC0 h (by omega) (FN ht j hj (by omega))
def AC1(b:AN)(h:Nat)(l:List Int):List Int:=l.filter fun n=>b.notes.all fun x=>!decide (x.1=h)||decide (x.2=n)
def jQ(b:AN):Nat->List (List Int)->List (List Int)
 |_,[]=>[]
 |h,l::r=>AC1 b h l::jQ b (h+1) r
def aw(b:AN):List (List Int):=jQ b 0 b.winds
theorem jR(b:AN):∀(h:Nat) (ws:List (List Int)),(jQ b h ws).length=ws.length
 |_,[]=>rfl
 |h,l::r=>by simp[jQ,jR b (h+1) r]
theorem jS(b:AN):∀(h:Nat) (ws:List (List Int)) (j:Nat) (h1:j<(jQ b h ws).length) (h2:j<ws.length),(jQ b h ws)[j]=AC1 b (h+j) ws[j]
 |h,l::r,0,_,_=>rfl
 |h,l::r,j+1,h1,h2=>by have:=jS b (h+1) r j (by simpa [jQ]using h1) (by simpa using h2);simp only[jQ,List.getElem_cons_succ,this];rw[show h+1+j=h+(j+1) by omega]
theorem GN(b:AN):(aw b).length=b.winds.length:=jR b 0 _
theorem oL(b:AN)(j:Nat)(h1:j<(aw b).length)(h2:j<b.winds.length):(aw b)[j]=AC1 b j b.winds[j]:=by have:=jS b 0 b.winds j h1 h2;rwa [Nat.zero_add]at this
theorem EX{b:AN}(h:Valid b){t:List Int}:C4 b t=true↔A7 t (aw b)=true:=by
 unfold C4;rw[bj,bw];have wi:=h.wi;constructor
 ·rintro ⟨h1,h2⟩;have hl:=DE h1;refine LJ (by rw[GN,hl]) fun j j1 j2=>?_;rw[oL b j j2 (by omega)];refine bf.2 ⟨FN h1 j j1 (by omega),bw.2 fun x hx=>?_⟩;by_cases e:x.1=(j:Int)
  ·have:=h2 x hx;simp only[J0,atI,e,Int.toNat_natCast,bk,bq j1,Option.getD_some,decide_eq_true_eq]at this;simp[this]
  ·simp[e]
 ·intro h1;have hl:=DE h1;rw[GN]at hl;refine⟨LJ hl fun j j1 j2=>?_,fun x hx=>?_⟩
  ·have:=FN h1 j j1 (by rw[GN];exact j2);rw[oL b j _ j2]at this;exact(bf.1 this).1
  ·have hn:=bw.1 h.nok x hx;simp only[I2,bj,EL]at hn;obtain⟨⟨n1,n2⟩,_⟩:=hn;have hj:x.1.toNat<t.length:=by omega
   have:=FN h1 x.1.toNat hj (by rw[GN];omega);rw[oL b _ _ (by omega)]at this;have:=bw.1 (bf.1 this).2 x hx;have e:x.1=((x.1.toNat:Nat):Int):=by omega
   simp only[<-e,decide_true,Bool.not_true,Bool.false_or,decide_eq_true_eq]at this;simp only[J0,atI,bk,bq hj,Option.getD_some,decide_eq_true_eq];exact this.symm
theorem wQ{b:AN}(h:Valid b):B9 b≠[]↔∀l∈aw b,l≠[]:=by
 constructor
 ·intro he l hl;obtain⟨t,ht⟩:=bx _ he;have:=(EX h).1 (EH.1 ht);obtain⟨j,hj,rfl⟩:=cj hl;have:=FN this j (by rw[DE this];exact hj) hj;exact cq this
 ·intro ha;have:=QU ha 0;exact cq (EH.2 ((EX h).2 this))
def N7(g:Nat->Int->Int):Nat->List Int->Int
 |_,[]=>0
 |h,x::t=>g h x+N7 g (h+1) t
def UR(g:Nat->Int):Nat->Nat->Int
 |_,0=>0
 |h,n+1=>g h+UR g (h+1) n
theorem tG{g:Nat->Int->Int}{lo:Nat->Int}:∀(A:List (List Int)) (h:Nat),(∀j (hj:j<A.length),∀n∈A[j],lo (h+j)<=g (h+j) n)->∀t,A7 t A=true->UR lo h A.length<=N7 g h t
 |[],h,_,[],_=>Int.le_refl _
 |l::r,h,hA,x::t,ht=>by simp only[A7,bj,decide_eq_true_eq]at ht;have h1:=hA 0 (by simp) x ht.1;have h2:=tG r (h+1) (fun j hj n hn=>by have:=hA (j+1) (by simpa using hj) n hn;rwa [show h+(j+1)=h+1+j by omega]at this) t ht.2;simp only[bc,UR,N7];simp only[cx]at h1;omega
theorem jT{g:Nat->Int->Int}{hi:Nat->Int}:∀(A:List (List Int)) (h:Nat),(∀j (hj:j<A.length),∀n∈A[j],g (h+j) n<=hi (h+j))->∀t,A7 t A=true->N7 g h t<=UR hi h A.length
 |[],h,_,[],_=>Int.le_refl _
 |l::r,h,hA,x::t,ht=>by simp only[A7,bj,decide_eq_true_eq]at ht;have h1:=hA 0 (by simp) x ht.1;have h2:=jT r (h+1) (fun j hj n hn=>by have:=hA (j+1) (by simpa using hj) n hn;rwa [show h+(j+1)=h+1+j by omega]at this) t ht.2;simp only[bc,UR,N7];simp only[cx]at h1;omega
theorem oM{g:Nat->Int->Int}{z:Nat->Int}:∀(A:List (List Int)) (h:Nat),(∀j (hj:j<A.length),∃n∈A[j],g (h+j) n=z (h+j))->∃t,A7 t A=true/\N7 g h t=UR z h A.length
 |[],h,_=>⟨[],rfl,rfl⟩
 |l::r,h,hA=>by
  obtain⟨n,hn,he⟩:=hA 0 (by simp);obtain⟨t,ht,hs⟩:=oM r (h+1) fun j hj=>by obtain⟨n,h1,h2⟩:=hA (j+1) (by simpa using hj);exact⟨n,h1,by rwa [show h+(j+1)=h+1+j by omega]at h2⟩
  refine⟨n::t,?_,?_⟩
  ·simp only[A7,bj,decide_eq_true_eq];exact⟨hn,ht⟩
  ·simp only[cx]at he;simp only[bc,UR,N7,he,hs]
def bV(z:Int)(l:List Int):Int:=l.foldl min z
def bW(z:Int)(l:List Int):Int:=l.foldl max z
theorem tH:∀(l:List Int) (z:Int),bV z l<=z/\∀x∈l,bV z l<=x
 |[],z=>⟨Int.le_refl _,by simp⟩
 |y::l,z=>by
  obtain⟨h1,h2⟩:=tH l (min z y);have:bV z (y::l)=bV (min z y) l:=rfl;rw[this];refine⟨by omega,fun x hx=>?_⟩;rcases bg.1 hx with rfl|hx
  ·omega
  ·exact h2 x hx
theorem jU:∀(l:List Int) (z:Int),bV z l=z\/bV z l∈l
 |[],z=>.inl rfl
 |y::l,z=>by
  have e:bV z (y::l)=bV (min z y) l:=rfl;rw[e];rcases jU l (min z y)with h|h
  ·rw[h];rcases Int.le_total z y with h|h
   ·left;omega
   ·right;rw[show min z y=y by omega];simp
  ·exact .inr (bg.2 (.inr h))
theorem tI:∀(l:List Int) (z:Int),z<=bW z l/\∀x∈l,x<=bW z l
 |[],z=>⟨Int.le_refl _,by simp⟩
 |y::l,z=>by
  obtain⟨h1,h2⟩:=tI l (max z y);have:bW z (y::l)=bW (max z y) l:=rfl;rw[this];refine⟨by omega,fun x hx=>?_⟩;rcases bg.1 hx with rfl|hx
  ·omega
  ·exact h2 x hx
theorem jV:∀(l:List Int) (z:Int),bW z l=z\/bW z l∈l
 |[],z=>.inl rfl
 |y::l,z=>by
  have e:bW z (y::l)=bW (max z y) l:=rfl;rw[e];rcases jV l (max z y)with h|h
  ·rw[h];rcases Int.le_total z y with h|h
   ·right;rw[show max z y=y by omega];simp
   ·left;omega
  ·exact .inr (bg.2 (.inr h))
structure IJ{α:Type}(l:List α)(f:α->Int)(m:Int):Prop where
 le:∀x∈l,m<=f x
 at':∃x∈l,f x=m
structure JD{α:Type}(l:List α)(f:α->Int)(m:Int):Prop where
 le:∀x∈l,f x<=m
 at':∃x∈l,f x=m
theorem IJ.uniq{α:Type}{l:List α}{f:α->Int}{m n:Int}(h:IJ l f m)(h':IJ l f n):m=n:=by obtain⟨x,hx,ex⟩:=h.at';obtain⟨y,hy,ey⟩:=h'.at';have:=h.le y hy;have:=h'.le x hx;omega
theorem JD.uniq{α:Type}{l:List α}{f:α->Int}{m n:Int}(h:JD l f m)(h':JD l f n):m=n:=by obtain⟨x,hx,ex⟩:=h.at';obtain⟨y,hy,ey⟩:=h'.at';have:=h.le y hy;have:=h'.le x hx;omega
theorem tJ{α:Type}{l:List α}{f:α->Int}{z:Int}(hz:∀x∈l,f x<=z)(hn:l≠[]):IJ l f (bV z (l.map f)):=by
 obtain⟨h1,h2⟩:=tH (l.map f) z;refine⟨fun x hx=>h2 _ (bz hx),?_⟩;rcases jU (l.map f) z with h|h
 ·obtain⟨y,hy⟩:=bx _ hn;have:=h2 _ (bz hy);have:=hz y hy;exact⟨y,hy,by omega⟩
 ·obtain⟨x,hx,e⟩:=bp.1 h;exact⟨x,hx,e⟩
theorem tK{α:Type}{l:List α}{f:α->Int}{z:Int}(hz:∀x∈l,z<=f x)(hn:l≠[]):JD l f (bW z (l.map f)):=by
 obtain⟨h1,h2⟩:=tI (l.map f) z;refine⟨fun x hx=>h2 _ (bz hx),?_⟩;rcases jV (l.map f) z with h|h
 ·obtain⟨y,hy⟩:=bx _ hn;have:=h2 _ (bz hy);have:=hz y hy;exact⟨y,hy,by omega⟩
 ·obtain⟨x,hx,e⟩:=bp.1 h;exact⟨x,hx,e⟩
theorem AIV{b:AN}(h:Valid b)(g:Nat->Int->Int)(lo:Nat->Int)(hlo:∀j (hj:j<(aw b).length),IJ (aw b)[j] (g j) (lo j)):IJ (B9 b) (N7 g 0) (UR lo 0 b.winds.length):=by
 refine⟨fun t ht=>?_,?_⟩
 ·have:=tG (g:=g) (lo:=lo) (aw b) 0 (fun j hj n hn=>by simpa using(hlo j hj).le n hn) t ((EX h).1 (EH.1 ht));rwa [GN]at this
 ·obtain⟨t,h1,h2⟩:=oM (g:=g) (z:=lo) (aw b) 0 fun j hj=>by simpa using(hlo j hj).at'
  rw[GN]at h2;exact⟨t,EH.2 ((EX h).2 h1),h2⟩
theorem AIW{b:AN}(h:Valid b)(g:Nat->Int->Int)(hi:Nat->Int)(hhi:∀j (hj:j<(aw b).length),JD (aw b)[j] (g j) (hi j)):JD (B9 b) (N7 g 0) (UR hi 0 b.winds.length):=by
 refine⟨fun t ht=>?_,?_⟩
 ·have:=jT (g:=g) (hi:=hi) (aw b) 0 (fun j hj n hn=>by simpa using(hhi j hj).le n hn) t ((EX h).1 (EH.1 ht));rwa [GN]at this
 ·obtain⟨t,h1,h2⟩:=oM (g:=g) (z:=hi) (aw b) 0 fun j hj=>by simpa using(hhi j hj).at'
  rw[GN]at h2;exact⟨t,EH.2 ((EX h).2 h1),h2⟩
theorem tL:∀{l:List Int} {lo:Int},JZ l=true->(∀x∈l,lo<=x/\x<=3)->lo<=4->(l.length:Int)<=4-lo
 |[],lo,_,_,h=>by simp;omega
 |[x],lo,_,h,_=>by have:=h x (by simp);simp;omega
 |x::y::r,lo,h,ha,hl=>by
  simp only[JZ,bj,decide_eq_true_eq]at h;have hx:=ha x (by simp);have:∀z∈y::r,lo+1<=z/\z<=3:=by
   have key:∀(l:List Int) (y:Int),JZ (y::l)=true->∀z∈y::l,y<=z:=by
    intro l;induction l with
    |nil=>intro y _ z hz;simp at hz;omega
    |cons w l ih=>
     intro y hi z hz
     simp only[JZ,bj,decide_eq_true_eq]at hi
     rcases bg.1 hz with rfl|hz
     ·omega
     ·have:=ih w hi.2 z hz;omega
   intro z hz;have h1:=key r y h.2 z hz;have h2:=ha z (List.mem_cons_of_mem _ hz);omega
  have h3:=tL h.2 this (by omega);simp only[bc]at h3|-;omega
theorem AC2{l:List Int}(h:F2 l=true):1<=l.length/\l.length<=4:=by
 simp only[F2,bj]at h;obtain⟨⟨h1,h2⟩,h3⟩:=h;have:=tL (lo:=0) h3 (fun x hx=>EL.1 (bw.1 h2 x hx)) (by omega);refine⟨?_,by omega⟩;cases l with
 |nil=>simp at h1
 |cons x l=>simp
theorem Valid.wl{b:AN}(h:Valid b):∀l∈b.winds,1<=l.length/\l.length<=4:=fun l hl=>AC2 (bw.1 h.wo l hl)
theorem Valid.hl{b:AN}(h:Valid b):b.winds.length<=5:=by have:=h.la;have:=h.wi;omega
theorem tM:∀{ws:List (List Int)},(∀l∈ws,l.length<=4)->F8 ws<=4 ^ ws.length
 |[],_=>Nat.le_refl _
 |l::r,h=>by have h1:=tM (ws:=r) fun l hl=>h l (by simp[hl]);have h2:=h l (by simp);simp only[F8,bc,Nat.pow_succ];rw[Nat.mul_comm (4 ^ r.length)];exact Nat.mul_le_mul h2 h1
theorem Valid.many{b:AN}(h:Valid b):F8 b.winds<=1024:=by have h1:=tM fun l hl=>(h.wl l hl).2;have h2:4 ^ b.winds.length<=4 ^ 5:=bm (by omega) h.hl;omega
def BF(x j:Nat):List Int:=List.map (fun i:Nat=>(i:Int)) ((cd j).filter fun i=>x.testBit i)
theorem E9(x j:Nat):BF x (j+1)=if x.testBit j=true then BF x j++[(j:Int)] else BF x j:=by unfold BF;rw[List.range_succ,List.filter_append,List.map_append];cases hb:x.testBit j<;>simp[hb]
theorem YN{x j:Nat}(h:x<2 ^ j):∀d,BF x (j+d)=BF x j
 |0=>rfl
 |d+1=>by rw[<-Nat.add_assoc,E9,YN h d];have:x.testBit (j+d)=false:=Nat.testBit_lt_two_pow (Nat.lt_of_lt_of_le h (bm (by decide) (by omega)));rw[this];rfl
theorem wR(x j:Nat):(BF x j).length<=j:=by unfold BF;have:=List.length_filter_le (fun i=>x.testBit i) (cd j);simp at this|-;omega
theorem div_pos_iff{x j:Nat}:((0:Int)<((x / 2 ^ j:Nat):Int))↔¬x<2 ^ j:=by have h2:0<2 ^ j:=Nat.two_pow_pos j;rw[Int.natCast_pos,Nat.div_pos_iff];omega
theorem tN(x j:Nat):decide ((((x / 2 ^ j:Nat):Int).tmod 2)=1)=x.testBit j:=by rw[show((x / 2 ^ j:Nat):Int).tmod 2=((x / 2 ^ j % 2:Nat):Int) from(Int.ofNat_tmod _ 2).symm,Nat.testBit_eq_decide_div_mod_eq];congr 1;exact propext ⟨fun h=>by omega,fun h=>by omega⟩
end Go.Wind
