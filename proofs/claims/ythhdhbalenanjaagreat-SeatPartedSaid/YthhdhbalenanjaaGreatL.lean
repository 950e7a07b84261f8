/- Beaches, their truths and what is so in them, plainly. No condition; no program in sight. -/
open Bool renaming and_eq_true->bj,not_eq_false->bh,or_eq_true->bm,not_eq_true'->cq
open List renaming getD_eq_getElem?_getD->bk,getElem?_eq_getElem->bq,all_eq_true->bw,exists_mem_of_ne_nil->bx,mem_map_of_mem->bz,getElem_mem->bb,length_cons->bc,mem_filter->bf,mem_cons->bg,mem_map->bn,getElem_of_mem->bp,ne_nil_of_mem->ck
namespace Go.Wind
structure AN where
 last:Int
 rows:Int
 places:Int
 reach:Int
 face:List Int
 sun:List Int
 winds:List (List Int)
 breaks:List (Int×Int)
 notes:List (Int×Int)
def HQ(n lo hi:Int):Bool:=decide (lo<=n)&&decide (n<=hi)
theorem EH{n lo hi:Int}:HQ n lo hi=true↔lo<=n/\n<=hi:=by simp[HQ]
def FG(b:AN)(s:Int×Int):Bool:=HQ s.1 0 (b.rows-1)&&HQ s.2 0 (b.places-1)
def D9(l:List Int)(lo:Int):Bool:=l.all fun n=>HQ n lo 3
def JS:List Int->Bool
 |[]=>true
 |[_]=>true
 |x::y::r=>decide (x<y)&&JS (y::r)
def FU(l:List Int):Bool:=!l.isEmpty&&D9 l 0&&JS l
def IY(b:AN)(x:Int×Int):Bool:=HQ x.1 0 b.last&&HQ x.2 0 3
def DJ(b:AN):Int :=
 if (decide (4<b.last)||decide (3<b.rows)||decide (5<b.places)||decide (4<b.breaks.length)||decide (5<b.notes.length))=true then 3
 else if (decide (b.last<0)||decide (b.rows<1)||decide (b.places<1)||!HQ b.reach 0 4||!decide ((b.face.length:Int)=b.rows)||!decide ((b.sun.length:Int)=b.last+1)||!decide ((b.winds.length:Int)=b.last+1)||!D9 b.face 0||!D9 b.sun (-1))=true then 1
 else if b.winds.all FU=false then 1 else if b.breaks.all (FG b)=false then 1 else if b.notes.all (IY b)=false then 1 else 0
structure Valid(b:AN):Prop where
 la:0<=b.last/\b.last<=4
 ro:1<=b.rows/\b.rows<=3
 pl:1<=b.places/\b.places<=5
 re:0<=b.reach/\b.reach<=4
 br:b.breaks.length<=4
 no:b.notes.length<=5
 fa:(b.face.length:Int)=b.rows
 su:(b.sun.length:Int)=b.last+1
 wi:(b.winds.length:Int)=b.last+1
 fd:D9 b.face 0=true
 sd:D9 b.sun (-1)=true
 wo:b.winds.all FU=true
 bo:b.breaks.all (FG b)=true
 nok:b.notes.all (IY b)=true
theorem SG{b:AN}(h:DJ b=0):Valid b:=by
 unfold DJ at h;split at h
 ·cases h
 split at h
 ·cases h
 split at h
 ·cases h
 split at h
 ·cases h
 split at h
 ·cases h
 rename_i h1 h2 h3 h4 h5;simp only[bm,decide_eq_true_eq,cq,decide_eq_false_iff_not,not_or,bh]at h1 h2;obtain⟨⟨⟨⟨a1,a2⟩,a3⟩,a4⟩,a5⟩:=h1;obtain⟨⟨⟨⟨⟨⟨⟨⟨c1,c2⟩,c3⟩,c4⟩,c5⟩,c6⟩,c7⟩,c8⟩,c9⟩:=h2;have:=EH.1 c4;simp only[bh]at h3 h4 h5;exact⟨⟨by omega,by omega⟩,⟨by omega,by omega⟩,⟨by omega,by omega⟩,this,by omega,by omega,Classical.not_not.1 c5,Classical.not_not.1 c6,Classical.not_not.1 c7,c8,c9,h3,h4,h5⟩
theorem LB{b:AN}(h:Valid b):DJ b=0:=by
 obtain⟨la,ro,pl,re,br,no,fa,su,wi,fd,sd,wo,bo,nok⟩:=h;unfold DJ;rw[if_neg,if_neg,if_neg,if_neg,if_neg]
 ·simp[nok]
 ·simp[bo]
 ·simp[wo]
 ·simp only[bm,decide_eq_true_eq,cq,decide_eq_false_iff_not,not_or,bh];exact⟨⟨⟨⟨⟨⟨⟨⟨by omega,by omega⟩,by omega⟩,EH.2 re⟩,by simpa using fa⟩,by simpa using su⟩,by simpa using wi⟩,fd⟩,sd⟩
 ·simp only[bm,decide_eq_true_eq,not_or];exact⟨⟨⟨⟨by omega,by omega⟩,by omega⟩,by omega⟩,by omega⟩
def FZ:List (List Int)->Nat
 |[]=>1
 |l::r=>l.length*FZ r
def DT:List (List Int)->Nat->List Int
 |[],_=>[]
 |l::r,n=>l.getD (n % l.length) 0::DT r (n / l.length)
def VP:List (List Int)->List (List Int)
 |[]=>[[]]
 |l::r=>l.flatMap fun x=>(VP r).map (x::·)
def A6:List Int->List (List Int)->Bool
 |[],[]=>true
 |x::t,l::r=>decide (x∈l)&&A6 t r
 |_,_=>false
theorem DE:∀{t:List Int} {ws:List (List Int)},A6 t ws=true->t.length=ws.length
 |[],[],_=>rfl
 |x::t,l::r,h=>by simp only[A6,bj]at h;simp[DE h.2]
theorem FH:∀{t:List Int} {ws:List (List Int)},A6 t ws=true->∀h (h1:h<t.length) (h2:h<ws.length),t[h]∈ws[h]
 |x::t,l::r,hh,0,_,_=>by simp only[A6,bj,decide_eq_true_eq]at hh;exact hh.1
 |x::t,l::r,hh,h+1,h1,h2=>by simp only[A6,bj]at hh;simpa using FH hh.2 h (by simpa using h1) (by simpa using h2)
theorem LC:∀{t:List Int} {ws:List (List Int)},t.length=ws.length->(∀h (h1:h<t.length) (h2:h<ws.length),t[h]∈ws[h])->A6 t ws=true
 |[],[],_,_=>rfl
 |x::t,l::r,hl,h=>by simp only[A6,bj,decide_eq_true_eq];exact⟨h 0 (by simp) (by simp),LC (by simpa using hl) fun j h1 h2=>h (j+1) (by simpa using h1) (by simpa using h2)⟩
theorem O2:∀{ws:List (List Int)} {t:List Int},t∈VP ws↔A6 t ws=true
 |[],t=>by cases t<;>simp[VP,A6]
 |l::r,t=>by
  cases t with
  |nil=>simp[VP,A6]
  |cons x t=>
   simp only[VP,List.mem_flatMap,bn,A6,bj,decide_eq_true_eq]
   constructor
   ·rintro ⟨y,hy,z,hz,e⟩;cases e;exact⟨hy,O2.1 hz⟩
   ·rintro ⟨h1,h2⟩;exact⟨x,h1,t,O2.2 h2,rfl⟩
theorem QB:∀{ws:List (List Int)} (_:∀l∈ws,l≠[]) (n:Nat),A6 (DT ws n) ws=true
 |[],_,_=>rfl
 |l::r,h,n=>by have hl:0<l.length:=List.length_pos_iff.2 (h l (by simp));simp only[DT,A6,bj,decide_eq_true_eq];have hm:n % l.length<l.length:=Nat.mod_lt _ hl;refine⟨?_,QB (fun l hl=>h l (by simp[hl])) _⟩;rw[bk,bq hm];exact bb hm
theorem sD:∀{ws:List (List Int)} {t:List Int},A6 t ws=true->∃n,n<FZ ws/\DT ws n=t
 |[],[],_=>⟨0,by simp[FZ],rfl⟩
 |l::r,x::t,h=>by
  simp only[A6,bj,decide_eq_true_eq]at h;obtain⟨m,h1,h2⟩:=sD h.2;obtain⟨j,hj,hx⟩:=bp h.1;refine⟨j+l.length*m,?_,?_⟩
  ·simp only[FZ];have:l.length*m+l.length<=l.length*FZ r:=by rw[<-Nat.mul_succ];exact Nat.mul_le_mul_left _ h1
   omega
  ·have hl:0<l.length:=by omega
   simp only[DT,Nat.add_mul_mod_self_left,Nat.mod_eq_of_lt hj,Nat.add_mul_div_left _ _ hl,Nat.div_eq_of_lt hj,Nat.zero_add,h2];rw[bk,bq hj];simp[hx]
def atI(l:List Int)(h:Int):Int:=l.getD h.toNat 0
def JT(t:List Int)(x:Int×Int):Bool:=decide (atI t x.1=x.2)
def C6(b:AN)(t:List Int):Bool:=A6 t b.winds&&b.notes.all (JT t)
def CA(b:AN):List (List Int):=((List.range (FZ b.winds)).map (DT b.winds)).filter (C6 b)
theorem Valid.ne{b:AN}(h:Valid b):∀l∈b.winds,l≠[]:=fun l hl e=>by have:=bw.1 h.wo l hl;subst e;simp[FU]at this
theorem ED{b:AN}{t:List Int}:t∈CA b↔C6 b t=true:=by
 unfold CA;rw[bf,bn];constructor
 ·exact fun h=>h.2
 ·intro ht;refine⟨?_,ht⟩;simp only[C6,bj]at ht;obtain⟨n,h1,h2⟩:=sD ht.1;exact⟨n,List.mem_range.2 h1,h2⟩
def ER(p:List (List Int))(h r:Nat):Int:=(p.getD h []).getD r 0
def AHO(s k:Int×Int)(wind:Int):Int:=if wind=0/\k.2=s.2 then s.1-k.1 else if wind=2/\k.2=s.2 then k.1-s.1 else if wind=3/\k.1=s.1 then s.2-k.2 else if wind=1/\k.1=s.1 then k.2-s.2 else 0
def eK(b:AN)(s:Int×Int)(wind:Int):Bool:=b.breaks.any fun k=>HQ (AHO s k wind) 1 b.reach
def XZ(b:AN)(s:Int×Int)(face wind:Int):Bool:=decide (face=(wind+2) % 4)||eK b s wind
def cnt(f:Nat->Bool):Nat->Nat
 |0=>0
 |n+1=>cnt f n+(if f n=true then 1 else 0)
theorem X0(f:Nat->Bool):∀n,cnt f n<=n
 |0=>Nat.le_refl _
 |n+1=>by have:=X0 f n;simp only[cnt];split<;>omega
def X3(b:AN)(plan:List (List Int))(r h:Nat):Bool:=decide (ER plan h r=b.sun.getD h 0)
structure vL where
 sun:Int
 calm:Int
 good:Int
deriving DecidableEq
def ABY(calm:Nat->Bool)(lit:Nat->Bool)(n:Nat):vL:=⟨cnt lit n,cnt calm n,cnt (fun h=>lit h&&calm h) n⟩
def nQ(b:AN)(plan:List (List Int))(t:List Int)(r p h:Nat):Bool:=XZ b (r,p) (ER plan h r) (t.getD h 0)
def IZ(b:AN)(plan:List (List Int))(t:List Int)(r p:Nat):vL:=ABY (nQ b plan t r p) (X3 b plan r) t.length
def DR(b:AN)(plan:List (List Int)):Bool:=(plan.all fun l=>decide ((l.length:Int)=b.rows)&&D9 l 0)&&decide ((plan.length:Int)=b.last+1)
structure NU(b:AN)(plan:List (List Int)):Prop where
 len:(plan.length:Int)=b.last+1
 row:∀h,h<plan.length->((plan.getD h []).length:Int)=b.rows
 dir:∀h r,h<plan.length->r<(plan.getD h []).length->HQ (ER plan h r) 0 3=true
theorem AHP{b:AN}{plan:List (List Int)}(h:DR b plan=true):NU b plan:=by
 simp only[DR,bj,bw,decide_eq_true_eq]at h;obtain⟨h1,h2⟩:=h;refine⟨h2,fun j hj=>?_,fun j r hj hr=>?_⟩
 ·rw[bk,bq hj];exact(h1 _ (bb hj)).1
 ·have:=(h1 _ (bb hj)).2;have e:plan.getD j []=plan[j]:=by rw[bk,bq hj];rfl
  unfold ER;rw[e]at hr|-;rw[bk,bq hr];exact bw.1 this _ (bb hr)
theorem ABZ{b:AN}(h:Valid b){j:Nat}(hj:j<b.winds.length){n:Int}(hn:n∈b.winds[j]):HQ n 0 3=true:=by have:=bw.1 h.wo _ (bb hj);simp only[FU,bj]at this;exact bw.1 this.1.2 n hn
theorem nR{b:AN}(h:Valid b){t:List Int}(ht:A6 t b.winds=true){j:Nat}(hj:j<t.length):HQ (t.getD j 0) 0 3=true:=by have hl:=DE ht;rw[bk,bq hj];exact ABZ h (by omega) (FH ht j hj (by omega))
def AB0(b:AN)(h:Nat)(l:List Int):List Int:=l.filter fun n=>b.notes.all fun x=>!decide (x.1=h)||decide (x.2=n)
def iR(b:AN):Nat->List (List Int)->List (List Int)
 |_,[]=>[]
 |h,l::r=>AB0 b h l::iR b (h+1) r
def aw(b:AN):List (List Int):=iR b 0 b.winds
theorem iS(b:AN):∀(h:Nat) (ws:List (List Int)),(iR b h ws).length=ws.length
 |_,[]=>rfl
 |h,l::r=>by simp[iR,iS b (h+1) r]
theorem iT(b:AN):∀(h:Nat) (ws:List (List Int)) (j:Nat) (h1:j<(iR b h ws).length) (h2:j<ws.length),(iR b h ws)[j]=AB0 b (h+j) ws[j]
 |h,l::r,0,_,_=>rfl
 |h,l::r,j+1,h1,h2=>by have:=iT b (h+1) r j (by simpa [iR]using h1) (by simpa using h2);simp only[iR,List.getElem_cons_succ,this];rw[show h+1+j=h+(j+1) by omega]
theorem GD(b:AN):(aw b).length=b.winds.length:=iS b 0 _
theorem nS(b:AN)(j:Nat)(h1:j<(aw b).length)(h2:j<b.winds.length):(aw b)[j]=AB0 b j b.winds[j]:=by have:=iT b 0 b.winds j h1 h2;rwa [Nat.zero_add]at this
theorem ES{b:AN}(h:Valid b){t:List Int}:C6 b t=true↔A6 t (aw b)=true:=by
 unfold C6;rw[bj,bw];have wi:=h.wi;constructor
 ·rintro ⟨h1,h2⟩;have hl:=DE h1;refine LC (by rw[GD,hl]) fun j j1 j2=>?_;rw[nS b j j2 (by omega)];refine bf.2 ⟨FH h1 j j1 (by omega),bw.2 fun x hx=>?_⟩;by_cases e:x.1=(j:Int)
  ·have:=h2 x hx;simp only[JT,atI,e,Int.toNat_natCast,bk,bq j1,Option.getD_some,decide_eq_true_eq]at this;simp[this]
  ·simp[e]
 ·intro h1;have hl:=DE h1;rw[GD]at hl;refine⟨LC hl fun j j1 j2=>?_,fun x hx=>?_⟩
  ·have:=FH h1 j j1 (by rw[GD];exact j2);rw[nS b j _ j2]at this;exact(bf.1 this).1
  ·have hn:=bw.1 h.nok x hx;simp only[IY,bj,EH]at hn;obtain⟨⟨n1,n2⟩,_⟩:=hn;have hj:x.1.toNat<t.length:=by omega
   have:=FH h1 x.1.toNat hj (by rw[GD];omega);rw[nS b _ _ (by omega)]at this;have:=bw.1 (bf.1 this).2 x hx;have e:x.1=((x.1.toNat:Nat):Int):=by omega
   simp only[<-e,decide_true,Bool.not_true,Bool.false_or,decide_eq_true_eq]at this;simp only[JT,atI,bk,bq hj,Option.getD_some,decide_eq_true_eq];exact this.symm
theorem vM{b:AN}(h:Valid b):CA b≠[]↔∀l∈aw b,l≠[]:=by
 constructor
 ·intro he l hl;obtain⟨t,ht⟩:=bx _ he;have:=(ES h).1 (ED.1 ht);obtain⟨j,hj,rfl⟩:=bp hl;have:=FH this j (by rw[DE this];exact hj) hj;exact ck this
 ·intro ha;have:=QB ha 0;exact ck (ED.2 ((ES h).2 this))
def NV(g:Nat->Int->Int):Nat->List Int->Int
 |_,[]=>0
 |h,x::t=>g h x+NV g (h+1) t
def UC(g:Nat->Int):Nat->Nat->Int
 |_,0=>0
 |h,n+1=>g h+UC g (h+1) n
theorem sE{g:Nat->Int->Int}{lo:Nat->Int}:∀(A:List (List Int)) (h:Nat),(∀j (hj:j<A.length),∀n∈A[j],lo (h+j)<=g (h+j) n)->∀t,A6 t A=true->UC lo h A.length<=NV g h t
 |[],h,_,[],_=>Int.le_refl _
 |l::r,h,hA,x::t,ht=>by simp only[A6,bj,decide_eq_true_eq]at ht;have h1:=hA 0 (by simp) x ht.1;have h2:=sE r (h+1) (fun j hj n hn=>by have:=hA (j+1) (by simpa using hj) n hn;rwa [show h+(j+1)=h+1+j by omega]at this) t ht.2;simp only[bc,UC,NV];simp only[Nat.add_zero]at h1;omega
theorem iU{g:Nat->Int->Int}{hi:Nat->Int}:∀(A:List (List Int)) (h:Nat),(∀j (hj:j<A.length),∀n∈A[j],g (h+j) n<=hi (h+j))->∀t,A6 t A=true->NV g h t<=UC hi h A.length
 |[],h,_,[],_=>Int.le_refl _
 |l::r,h,hA,x::t,ht=>by simp only[A6,bj,decide_eq_true_eq]at ht;have h1:=hA 0 (by simp) x ht.1;have h2:=iU r (h+1) (fun j hj n hn=>by have:=hA (j+1) (by simpa using hj) n hn;rwa [show h+(j+1)=h+1+j by omega]at this) t ht.2;simp only[bc,UC,NV];simp only[Nat.add_zero]at h1;omega
theorem nT{g:Nat->Int->Int}{z:Nat->Int}:∀(A:List (List Int)) (h:Nat),(∀j (hj:j<A.length),∃n∈A[j],g (h+j) n=z (h+j))->∃t,A6 t A=true/\NV g h t=UC z h A.length
 |[],h,_=>⟨[],rfl,rfl⟩
 |l::r,h,hA=>by
  obtain⟨n,hn,he⟩:=hA 0 (by simp);obtain⟨t,ht,hs⟩:=nT r (h+1) fun j hj=>by obtain⟨n,h1,h2⟩:=hA (j+1) (by simpa using hj);exact⟨n,h1,by rwa [show h+(j+1)=h+1+j by omega]at h2⟩
  refine⟨n::t,?_,?_⟩
  ·simp only[A6,bj,decide_eq_true_eq];exact⟨hn,ht⟩
  ·simp only[Nat.add_zero]at he;simp only[bc,UC,NV,he,hs]
def aV(z:Int)(l:List Int):Int:=l.foldl min z
def aW(z:Int)(l:List Int):Int:=l.foldl max z
theorem sF:∀(l:List Int) (z:Int),aV z l<=z/\∀x∈l,aV z l<=x
 |[],z=>⟨Int.le_refl _,by simp⟩
 |y::l,z=>by
  obtain⟨h1,h2⟩:=sF l (min z y);have:aV z (y::l)=aV (min z y) l:=rfl;rw[this];refine⟨by omega,fun x hx=>?_⟩;rcases bg.1 hx with rfl|hx
  ·omega
  ·exact h2 x hx
theorem iV:∀(l:List Int) (z:Int),aV z l=z\/aV z l∈l
 |[],z=>.inl rfl
 |y::l,z=>by
  have e:aV z (y::l)=aV (min z y) l:=rfl;rw[e];rcases iV l (min z y)with h|h
  ·rw[h];rcases Int.le_total z y with h|h
   ·left;omega
   ·right;rw[show min z y=y by omega];simp
  ·exact .inr (bg.2 (.inr h))
theorem sG:∀(l:List Int) (z:Int),z<=aW z l/\∀x∈l,x<=aW z l
 |[],z=>⟨Int.le_refl _,by simp⟩
 |y::l,z=>by
  obtain⟨h1,h2⟩:=sG l (max z y);have:aW z (y::l)=aW (max z y) l:=rfl;rw[this];refine⟨by omega,fun x hx=>?_⟩;rcases bg.1 hx with rfl|hx
  ·omega
  ·exact h2 x hx
theorem iW:∀(l:List Int) (z:Int),aW z l=z\/aW z l∈l
 |[],z=>.inl rfl
 |y::l,z=>by
  have e:aW z (y::l)=aW (max z y) l:=rfl;rw[e];rcases iW l (max z y)with h|h
  ·rw[h];rcases Int.le_total z y with h|h
   ·right;rw[show max z y=y by omega];simp
   ·left;omega
  ·exact .inr (bg.2 (.inr h))
structure IE{α:Type}(l:List α)(f:α->Int)(m:Int):Prop where
 le:∀x∈l,m<=f x
 at':∃x∈l,f x=m
structure I8{α:Type}(l:List α)(f:α->Int)(m:Int):Prop where
 le:∀x∈l,f x<=m
 at':∃x∈l,f x=m
theorem IE.uniq{α:Type}{l:List α}{f:α->Int}{m n:Int}(h:IE l f m)(h':IE l f n):m=n:=by obtain⟨x,hx,ex⟩:=h.at';obtain⟨y,hy,ey⟩:=h'.at';have:=h.le y hy;have:=h'.le x hx;omega
theorem I8.uniq{α:Type}{l:List α}{f:α->Int}{m n:Int}(h:I8 l f m)(h':I8 l f n):m=n:=by obtain⟨x,hx,ex⟩:=h.at';obtain⟨y,hy,ey⟩:=h'.at';have:=h.le y hy;have:=h'.le x hx;omega
theorem sH{α:Type}{l:List α}{f:α->Int}{z:Int}(hz:∀x∈l,f x<=z)(hn:l≠[]):IE l f (aV z (l.map f)):=by
 obtain⟨h1,h2⟩:=sF (l.map f) z;refine⟨fun x hx=>h2 _ (bz hx),?_⟩;rcases iV (l.map f) z with h|h
 ·obtain⟨y,hy⟩:=bx _ hn;have:=h2 _ (bz hy);have:=hz y hy;exact⟨y,hy,by omega⟩
 ·obtain⟨x,hx,e⟩:=bn.1 h;exact⟨x,hx,e⟩
theorem sI{α:Type}{l:List α}{f:α->Int}{z:Int}(hz:∀x∈l,z<=f x)(hn:l≠[]):I8 l f (aW z (l.map f)):=by
 obtain⟨h1,h2⟩:=sG (l.map f) z;refine⟨fun x hx=>h2 _ (bz hx),?_⟩;rcases iW (l.map f) z with h|h
 ·obtain⟨y,hy⟩:=bx _ hn;have:=h2 _ (bz hy);have:=hz y hy;exact⟨y,hy,by omega⟩
 ·obtain⟨x,hx,e⟩:=bn.1 h;exact⟨x,hx,e⟩
theorem AHQ{b:AN}(h:Valid b)(g:Nat->Int->Int)(lo:Nat->Int)(hlo:∀j (hj:j<(aw b).length),IE (aw b)[j] (g j) (lo j)):IE (CA b) (NV g 0) (UC lo 0 b.winds.length):=by
 refine⟨fun t ht=>?_,?_⟩
 ·have:=sE (g:=g) (lo:=lo) (aw b) 0 (fun j hj n hn=>by simpa using(hlo j hj).le n hn) t ((ES h).1 (ED.1 ht));rwa [GD]at this
 ·obtain⟨t,h1,h2⟩:=nT (g:=g) (z:=lo) (aw b) 0 fun j hj=>by simpa using(hlo j hj).at'
  rw[GD]at h2;exact⟨t,ED.2 ((ES h).2 h1),h2⟩
theorem AHR{b:AN}(h:Valid b)(g:Nat->Int->Int)(hi:Nat->Int)(hhi:∀j (hj:j<(aw b).length),I8 (aw b)[j] (g j) (hi j)):I8 (CA b) (NV g 0) (UC hi 0 b.winds.length):=by
 refine⟨fun t ht=>?_,?_⟩
 ·have:=iU (g:=g) (hi:=hi) (aw b) 0 (fun j hj n hn=>by simpa using(hhi j hj).le n hn) t ((ES h).1 (ED.1 ht));rwa [GD]at this
 ·obtain⟨t,h1,h2⟩:=nT (g:=g) (z:=hi) (aw b) 0 fun j hj=>by simpa using(hhi j hj).at'
  rw[GD]at h2;exact⟨t,ED.2 ((ES h).2 h1),h2⟩
theorem sJ:∀{l:List Int} {lo:Int},JS l=true->(∀x∈l,lo<=x/\x<=3)->lo<=4->(l.length:Int)<=4-lo
 |[],lo,_,_,h=>by simp;omega
 |[x],lo,_,h,_=>by have:=h x (by simp);simp;omega
 |x::y::r,lo,h,ha,hl=>by
  simp only[JS,bj,decide_eq_true_eq]at h;have hx:=ha x (by simp);have:∀z∈y::r,lo+1<=z/\z<=3:=by
   have key:∀(l:List Int) (y:Int),JS (y::l)=true->∀z∈y::l,y<=z:=by
    intro l;induction l with
    |nil=>intro y _ z hz;simp at hz;omega
    |cons w l ih=>
     intro y hi z hz
     simp only[JS,bj,decide_eq_true_eq]at hi
     rcases bg.1 hz with rfl|hz
     ·omega
     ·have:=ih w hi.2 z hz;omega
   intro z hz;have h1:=key r y h.2 z hz;have h2:=ha z (List.mem_cons_of_mem _ hz);omega
  have h3:=sJ h.2 this (by omega);simp only[bc]at h3|-;omega
theorem AB1{l:List Int}(h:FU l=true):1<=l.length/\l.length<=4:=by
 simp only[FU,bj]at h;obtain⟨⟨h1,h2⟩,h3⟩:=h;have:=sJ (lo:=0) h3 (fun x hx=>EH.1 (bw.1 h2 x hx)) (by omega);refine⟨?_,by omega⟩;cases l with
 |nil=>simp at h1
 |cons x l=>simp
theorem Valid.wl{b:AN}(h:Valid b):∀l∈b.winds,1<=l.length/\l.length<=4:=fun l hl=>AB1 (bw.1 h.wo l hl)
theorem Valid.hl{b:AN}(h:Valid b):b.winds.length<=5:=by have:=h.la;have:=h.wi;omega
theorem sK:∀{ws:List (List Int)},(∀l∈ws,l.length<=4)->FZ ws<=4 ^ ws.length
 |[],_=>Nat.le_refl _
 |l::r,h=>by have h1:=sK (ws:=r) fun l hl=>h l (by simp[hl]);have h2:=h l (by simp);simp only[FZ,bc,Nat.pow_succ];rw[Nat.mul_comm (4 ^ r.length)];exact Nat.mul_le_mul h2 h1
theorem Valid.many{b:AN}(h:Valid b):FZ b.winds<=1024:=by have h1:=sK fun l hl=>(h.wl l hl).2;have h2:4 ^ b.winds.length<=4 ^ 5:=Nat.pow_le_pow_right (by omega) h.hl;omega
def F0(x j:Nat):List Int:=List.map (fun i:Nat=>(i:Int)) ((List.range j).filter fun i=>x.testBit i)
theorem nU(x j:Nat):F0 x (j+1)=if x.testBit j=true then F0 x j++[(j:Int)] else F0 x j:=by unfold F0;rw[List.range_succ,List.filter_append,List.map_append];cases hb:x.testBit j<;>simp[hb]
theorem AHS(x j:Nat):decide ((((x / 2 ^ j:Nat):Int).tmod 2)=1)=x.testBit j:=by rw[show((x / 2 ^ j:Nat):Int).tmod 2=((x / 2 ^ j % 2:Nat):Int) from(Int.ofNat_tmod _ 2).symm,Nat.testBit_eq_decide_div_mod_eq];congr 1;exact propext ⟨fun h=>by omega,fun h=>by omega⟩
end Go.Wind
