/- Beaches, their truths and what is so in them, plainly. No condition; no program in sight. -/
open Bool renaming and_eq_true->bj,not_eq_false->bm,or_eq_true->bn,not_eq_true'->cx
open List renaming getD_eq_getElem?_getD->bk,getElem?_eq_getElem->bq,all_eq_true->bw,getElem_mem->bx,exists_mem_of_ne_nil->bz,mem_map_of_mem->bb,length_cons->bc,any_eq_true->bf,mem_filter->bg,mem_cons->bh,mem_map->bp,getElem_of_mem->cj,mem_range->cq,ne_nil_of_mem->cw,range->cm
open Nat renaming add_zero->cz,le_refl->cd
namespace Go.Wind
structure AN where
 last:Int
 rows:Int
 places:Int
 reach:Int
 face:List Int
 sun:List Int
 winds:List (List Int)
 breaks:List (Int×Int)
 notes:List (Int×Int)
def F7(n lo hi:Int):Bool:=decide (lo<=n)&&decide (n<=hi)
theorem C5{n lo hi:Int}:F7 n lo hi=true↔lo<=n/\n<=hi:=by simp[F7]
def F8(b:AN)(s:Int×Int):Bool:=F7 s.1 0 (b.rows-1)&&F7 s.2 0 (b.places-1)
def EU(l:List Int)(lo:Int):Bool:=l.all fun n=>F7 n lo 3
def KL:List Int->Bool
 |[]=>true
 |[_]=>true
 |x::y::r=>decide (x<y)&&KL (y::r)
def GJ(l:List Int):Bool:=!l.isEmpty&&EU l 0&&KL l
def JP(b:AN)(x:Int×Int):Bool:=F7 x.1 0 b.last&&F7 x.2 0 3
def D4(b:AN):Int :=
 if (decide (4<b.last)||decide (3<b.rows)||decide (5<b.places)||decide (4<b.breaks.length)||decide (5<b.notes.length))=true then 3
 else if (decide (b.last<0)||decide (b.rows<1)||decide (b.places<1)||!F7 b.reach 0 4||!decide ((b.face.length:Int)=b.rows)||!decide ((b.sun.length:Int)=b.last+1)||!decide ((b.winds.length:Int)=b.last+1)||!EU b.face 0||!EU b.sun (-1))=true then 1
 else if b.winds.all GJ=false then 1 else if b.breaks.all (F8 b)=false then 1 else if b.notes.all (JP b)=false then 1 else 0
structure Valid(b:AN):Prop where
 la:0<=b.last/\b.last<=4
 ro:1<=b.rows/\b.rows<=3
 pl:1<=b.places/\b.places<=5
 re:0<=b.reach/\b.reach<=4
 br:b.breaks.length<=4
 no:b.notes.length<=5
 fa:(b.face.length:Int)=b.rows
 su:(b.sun.length:Int)=b.last+1
 wi:(b.winds.length:Int)=b.last+1
 fd:EU b.face 0=true
 sd:EU b.sun (-1)=true
 wo:b.winds.all GJ=true
 bo:b.breaks.all (F8 b)=true
 nok:b.notes.all (JP b)=true
theorem UL{b:AN}(h:D4 b=0):Valid b:=by
 unfold D4 at h;split at h
 ·cases h
 split at h
 ·cases h
 split at h
 ·cases h
 split at h
 ·cases h
 split at h
 ·cases h
 rename_i h1 h2 h3 h4 h5;simp only[bn,decide_eq_true_eq,cx,decide_eq_false_iff_not,not_or,bm]at h1 h2;obtain⟨⟨⟨⟨a1,a2⟩,a3⟩,a4⟩,a5⟩:=h1;obtain⟨⟨⟨⟨⟨⟨⟨⟨c1,c2⟩,c3⟩,c4⟩,c5⟩,c6⟩,c7⟩,c8⟩,c9⟩:=h2;have:=C5.1 c4;simp only[bm]at h3 h4 h5;exact⟨⟨by omega,by omega⟩,⟨by omega,by omega⟩,⟨by omega,by omega⟩,this,by omega,by omega,Classical.not_not.1 c5,Classical.not_not.1 c6,Classical.not_not.1 c7,c8,c9,h3,h4,h5⟩
theorem O6{b:AN}(h:Valid b):D4 b=0:=by
 obtain⟨la,ro,pl,re,br,no,fa,su,wi,fd,sd,wo,bo,nok⟩:=h;unfold D4;rw[if_neg,if_neg,if_neg,if_neg,if_neg]
 ·simp[nok]
 ·simp[bo]
 ·simp[wo]
 ·simp only[bn,decide_eq_true_eq,cx,decide_eq_false_iff_not,not_or,bm];exact⟨⟨⟨⟨⟨⟨⟨⟨by omega,by omega⟩,by omega⟩,C5.2 re⟩,by simpa using fa⟩,by simpa using su⟩,by simpa using wi⟩,fd⟩,sd⟩
 ·simp only[bn,decide_eq_true_eq,not_or];exact⟨⟨⟨⟨by omega,by omega⟩,by omega⟩,by omega⟩,by omega⟩
def GI:List (List Int)->Nat
 |[]=>1
 |l::r=>l.length*GI r
def EA:List (List Int)->Nat->List Int
 |[],_=>[]
 |l::r,n=>l.getD (n % l.length) 0::EA r (n / l.length)
def XQ:List (List Int)->List (List Int)
 |[]=>[[]]
 |l::r=>l.flatMap fun x=>(XQ r).map (x::·)
def A6:List Int->List (List Int)->Bool
 |[],[]=>true
 |x::t,l::r=>decide (x∈l)&&A6 t r
 |_,_=>false
theorem CZ:∀{t:List Int} {ws:List (List Int)},A6 t ws=true->t.length=ws.length
 |[],[],_=>rfl
 |x::t,l::r,h=>by simp only[A6,bj]at h;simp[CZ h.2]
theorem F9:∀{t:List Int} {ws:List (List Int)},A6 t ws=true->∀h (h1:h<t.length) (h2:h<ws.length),t[h]∈ws[h]
 |x::t,l::r,hh,0,_,_=>by simp only[A6,bj,decide_eq_true_eq]at hh;exact hh.1
 |x::t,l::r,hh,h+1,h1,h2=>by simp only[A6,bj]at hh;simpa using F9 hh.2 h (by simpa using h1) (by simpa using h2)
theorem MN:∀{t:List Int} {ws:List (List Int)},t.length=ws.length->(∀h (h1:h<t.length) (h2:h<ws.length),t[h]∈ws[h])->A6 t ws=true
 |[],[],_,_=>rfl
 |x::t,l::r,hl,h=>by simp only[A6,bj,decide_eq_true_eq];exact⟨h 0 (by simp) (by simp),MN (by simpa using hl) fun j h1 h2=>h (j+1) (by simpa using h1) (by simpa using h2)⟩
theorem QC:∀{ws:List (List Int)} {t:List Int},t∈XQ ws↔A6 t ws=true
 |[],t=>by cases t<;>simp[XQ,A6]
 |l::r,t=>by
  cases t with
  |nil=>simp[XQ,A6]
  |cons x t=>
   simp only[XQ,List.mem_flatMap,bp,A6,bj,decide_eq_true_eq]
   constructor
   ·rintro ⟨y,hy,z,hz,e⟩;cases e;exact⟨hy,QC.1 hz⟩
   ·rintro ⟨h1,h2⟩;exact⟨x,h1,t,QC.2 h2,rfl⟩
theorem R5:∀{ws:List (List Int)} (_:∀l∈ws,l≠[]) (n:Nat),A6 (EA ws n) ws=true
 |[],_,_=>rfl
 |l::r,h,n=>by have hl:0<l.length:=List.length_pos_iff.2 (h l (by simp));simp only[EA,A6,bj,decide_eq_true_eq];have hm:n % l.length<l.length:=Nat.mod_lt _ hl;refine⟨?_,R5 (fun l hl=>h l (by simp[hl])) _⟩;rw[bk,bq hm];exact bx hm
theorem xR:∀{ws:List (List Int)} {t:List Int},A6 t ws=true->∃n,n<GI ws/\EA ws n=t
 |[],[],_=>⟨0,by simp[GI],rfl⟩
 |l::r,x::t,h=>by
  simp only[A6,bj,decide_eq_true_eq]at h;obtain⟨m,h1,h2⟩:=xR h.2;obtain⟨j,hj,hx⟩:=cj h.1;refine⟨j+l.length*m,?_,?_⟩
  ·simp only[GI];have:l.length*m+l.length<=l.length*GI r:=by rw[<-Nat.mul_succ];exact Nat.mul_le_mul_left _ h1
   omega
  ·have hl:0<l.length:=by omega
   simp only[EA,Nat.add_mul_mod_self_left,Nat.mod_eq_of_lt hj,Nat.add_mul_div_left _ _ hl,Nat.div_eq_of_lt hj,Nat.zero_add,h2];rw[bk,bq hj];simp[hx]
def atI(l:List Int)(h:Int):Int:=l.getD h.toNat 0
def KM(t:List Int)(x:Int×Int):Bool:=decide (atI t x.1=x.2)
def DF(b:AN)(t:List Int):Bool:=A6 t b.winds&&b.notes.all (KM t)
def BU(b:AN):List (List Int):=((cm (GI b.winds)).map (EA b.winds)).filter (DF b)
theorem Valid.ne{b:AN}(h:Valid b):∀l∈b.winds,l≠[]:=fun l hl e=>by have:=bw.1 h.wo l hl;subst e;simp[GJ]at this
theorem E1{b:AN}{t:List Int}:t∈BU b↔DF b t=true:=by
 unfold BU;rw[bg,bp];constructor
 ·exact fun h=>h.2
 ·intro ht;refine⟨?_,ht⟩;simp only[DF,bj]at ht;obtain⟨n,h1,h2⟩:=xR ht.1;exact⟨n,cq.2 h1,h2⟩
def DC(p:List (List Int))(h r:Nat):Int:=(p.getD h []).getD r 0
def DT(s:Int×Int)(wind:Int)(j:Int):Int×Int:=if wind=0 then(s.1-j,s.2) else if wind=1 then(s.1,s.2+j) else if wind=2 then(s.1+j,s.2) else if wind=3 then(s.1,s.2-j) else s
def xS(b:AN)(s:Int×Int)(face wind:Int):Bool:=decide ((face+2) % 4=wind)||(cm b.reach.toNat).any fun i=>b.breaks.any fun k=>decide (k=DT s wind (i+1))
def jS(s k:Int×Int)(wind:Int):Int:=if wind=0/\k.2=s.2 then s.1-k.1 else if wind=2/\k.2=s.2 then k.1-s.1 else if wind=3/\k.1=s.1 then s.2-k.2 else if wind=1/\k.1=s.1 then k.2-s.2 else 0
def UM(b:AN)(s:Int×Int)(wind:Int):Bool:=b.breaks.any fun k=>F7 (jS s k wind) 1 b.reach
def UN(b:AN)(s:Int×Int)(face wind:Int):Bool:=decide (face=(wind+2) % 4)||UM b s wind
theorem xT{s k:Int×Int}{wind R:Int}(hw:F7 wind 0 3=true):F7 (jS s k wind) 1 R=true↔∃i:Nat,(i:Int)<R/\k=DT s wind (i+1):=by
 obtain⟨s1,s2⟩:=s;obtain⟨k1,k2⟩:=k;rw[C5]at hw|-;have:wind=0\/wind=1\/wind=2\/wind=3:=by omega
 rcases this with rfl|rfl|rfl|rfl
 ·simp only[jS,DT,true_and,if_true,Prod.mk.injEq];constructor
  ·intro h;split at h
   ·exact⟨(s1-k1-1).toNat,by omega,by omega,by omega⟩
   ·simp at h
  ·rintro ⟨i,h1,h2,h3⟩;rw[if_pos h3];omega
 ·simp only[jS,DT,true_and,if_true,Prod.mk.injEq,show ¬((1:Int)=0) by decide,show ¬((1:Int)=2) by decide,show ¬((1:Int)=3) by decide,false_and,if_false];constructor
  ·intro h;split at h
   ·exact⟨(k2-s2-1).toNat,by omega,by omega,by omega⟩
   ·omega
  ·rintro ⟨i,h1,h2,h3⟩;rw[if_pos h2];omega
 ·simp only[jS,DT,true_and,if_true,Prod.mk.injEq,show ¬((2:Int)=0) by decide,show ¬((2:Int)=1) by decide,show ¬((2:Int)=3) by decide,false_and,if_false];constructor
  ·intro h;split at h
   ·exact⟨(k1-s1-1).toNat,by omega,by omega,by omega⟩
   ·omega
  ·rintro ⟨i,h1,h2,h3⟩;rw[if_pos h3];omega
 ·simp only[jS,DT,true_and,if_true,Prod.mk.injEq,show ¬((3:Int)=0) by decide,show ¬((3:Int)=1) by decide,show ¬((3:Int)=2) by decide,false_and,if_false];constructor
  ·intro h;split at h
   ·exact⟨(s2-k2-1).toNat,by omega,by omega,by omega⟩
   ·omega
  ·rintro ⟨i,h1,h2,h3⟩;rw[if_pos h2];omega
theorem tE{b:AN}{s:Int×Int}{wind:Int}(hw:F7 wind 0 3=true):UM b s wind=true↔∃i:Nat,(i:Int)<b.reach/\DT s wind (i+1)∈b.breaks:=by
 unfold UM;rw[bf];constructor
 ·rintro ⟨k,hk,h⟩;obtain⟨i,h1,rfl⟩:=(xT hw).1 h;exact⟨i,h1,hk⟩
 ·rintro ⟨i,h1,h2⟩;exact⟨_,h2,(xT hw).2 ⟨i,h1,rfl⟩⟩
theorem AMM{f w:Int}(hf:F7 f 0 3=true)(hw:F7 w 0 3=true):((f+2) % 4=w)=(f=(w+2) % 4):=by rw[C5]at hf hw;apply propext;omega
theorem A8F{b:AN}{s:Int×Int}{f w:Int}(hf:F7 f 0 3=true)(hw:F7 w 0 3=true):xS b s f w=UN b s f w:=by
 unfold xS UN;simp only[AMM hf hw];congr 1;rw[Bool.eq_iff_iff,tE hw,bf];constructor
 ·rintro ⟨i,hi,h⟩;simp only[bf,decide_eq_true_eq]at h;obtain⟨k,hk,rfl⟩:=h;exact⟨i,by have:=cq.1 hi;omega,hk⟩
 ·rintro ⟨i,h1,h2⟩;exact⟨i,cq.2 (by omega),bf.2 ⟨_,h2,by simp⟩⟩
def mD(f:Nat->Bool):Nat->Nat
 |0=>0
 |n+1=>mD f n+(if f n=true then 1 else 0)
theorem O7(f:Nat->Bool):∀n,mD f n<=n
 |0=>cd _
 |n+1=>by have:=O7 f n;simp only[mD];split<;>omega
theorem aN{f g:Nat->Bool}:∀{n:Nat},(∀h,h<n->f h=true->g h=true)->mD f n<=mD g n
 |0,_=>cd _
 |n+1,h=>by have:=aN (n:=n) fun j hj=>h j (by omega);have:=h n (by omega);simp only[mD];split<;>split<;>simp_all;all_goals omega
theorem gM{f g:Nat->Bool}{n:Nat}(h:∀j,j<n->f j=g j):mD f n=mD g n :=
 Nat.le_antisymm (aN fun j hj e=>by rw[<-h j hj];exact e) (aN fun j hj e=>by rw[h j hj];exact e)
def M9(b:AN)(plan:List (List Int))(r h:Nat):Bool:=decide (DC plan h r=b.sun.getD h 0)
structure eY where
 sun:Int
 calm:Int
 good:Int
deriving DecidableEq
def IY(calm:Nat->Bool)(lit:Nat->Bool)(n:Nat):eY:=⟨mD lit n,mD calm n,mD (fun h=>lit h&&calm h) n⟩
def aO(b:AN)(plan:List (List Int))(t:List Int)(r p h:Nat):Bool:=UN b (r,p) (DC plan h r) (t.getD h 0)
def CJ(b:AN)(plan:List (List Int))(t:List Int)(r p:Nat):eY:=IY (aO b plan t r p) (M9 b plan r) t.length
def AF7(b:AN)(plan:List (List Int))(t:List Int)(r p:Nat):eY:=IY (fun h=>xS b (r,p) (DC plan h r) (t.getD h 0)) (M9 b plan r) t.length
def EV(b:AN)(plan:List (List Int)):Bool:=(plan.all fun l=>decide ((l.length:Int)=b.rows)&&EU l 0)&&decide ((plan.length:Int)=b.last+1)
structure FP(b:AN)(plan:List (List Int)):Prop where
 len:(plan.length:Int)=b.last+1
 row:∀h,h<plan.length->((plan.getD h []).length:Int)=b.rows
 dir:∀h r,h<plan.length->r<(plan.getD h []).length->F7 (DC plan h r) 0 3=true
theorem xU{b:AN}{plan:List (List Int)}(h:EV b plan=true):FP b plan:=by
 simp only[EV,bj,bw,decide_eq_true_eq]at h;obtain⟨h1,h2⟩:=h;refine⟨h2,fun j hj=>?_,fun j r hj hr=>?_⟩
 ·rw[bk,bq hj];exact(h1 _ (bx hj)).1
 ·have:=(h1 _ (bx hj)).2;have e:plan.getD j []=plan[j]:=by rw[bk,bq hj];rfl
  unfold DC;rw[e]at hr|-;rw[bk,bq hr];exact bw.1 this _ (bx hr)
theorem AF8{b:AN}(h:Valid b){j:Nat}(hj:j<b.winds.length){n:Int}(hn:n∈b.winds[j]):F7 n 0 3=true:=by have:=bw.1 h.wo _ (bx hj);simp only[GJ,bj]at this;exact bw.1 this.1.2 n hn
theorem R6{b:AN}(h:Valid b){t:List Int}(ht:A6 t b.winds=true){j:Nat}(hj:j<t.length):F7 (t.getD j 0) 0 3=true:=by have hl:=CZ ht;rw[bk,bq hj];exact AF8 h (by omega) (F9 ht j hj (by omega))
theorem AF9{b:AN}{plan:List (List Int)}{t:List Int}(h:Valid b)(hp:FP b plan)(ht:A6 t b.winds=true){r:Nat}(hr:(r:Int)<b.rows)(p:Nat):CJ b plan t r p=AF7 b plan t r p:=by
 have hl:=CZ ht;have h1:=hp.len;have h2:=h.wi;have key:∀j,j<t.length->aO b plan t r p j=xS b (r,p) (DC plan j r) (t.getD j 0):=fun j hj=>by unfold aO;have:=hp.row j (by omega);rw[A8F (hp.dir j r (by omega) (by omega)) (R6 h ht hj)]
 unfold CJ AF7 IY;congr 1
 ·rw[gM key]
 ·rw[gM fun j hj=>by rw[key j hj]]
def AGA(b:AN)(h:Nat)(l:List Int):List Int:=l.filter fun n=>b.notes.all fun x=>!decide (x.1=h)||decide (x.2=n)
def nU(b:AN):Nat->List (List Int)->List (List Int)
 |_,[]=>[]
 |h,l::r=>AGA b h l::nU b (h+1) r
def aw(b:AN):List (List Int):=nU b 0 b.winds
theorem nV(b:AN):∀(h:Nat) (ws:List (List Int)),(nU b h ws).length=ws.length
 |_,[]=>rfl
 |h,l::r=>by simp[nU,nV b (h+1) r]
theorem nW(b:AN):∀(h:Nat) (ws:List (List Int)) (j:Nat) (h1:j<(nU b h ws).length) (h2:j<ws.length),(nU b h ws)[j]=AGA b (h+j) ws[j]
 |h,l::r,0,_,_=>rfl
 |h,l::r,j+1,h1,h2=>by have:=nW b (h+1) r j (by simpa [nU]using h1) (by simpa using h2);simp only[nU,List.getElem_cons_succ,this];rw[show h+1+j=h+(j+1) by omega]
theorem GZ(b:AN):(aw b).length=b.winds.length:=nV b 0 _
theorem tF(b:AN)(j:Nat)(h1:j<(aw b).length)(h2:j<b.winds.length):(aw b)[j]=AGA b j b.winds[j]:=by have:=nW b 0 b.winds j h1 h2;rwa [Nat.zero_add]at this
theorem FJ{b:AN}(h:Valid b){t:List Int}:DF b t=true↔A6 t (aw b)=true:=by
 unfold DF;rw[bj,bw];have wi:=h.wi;constructor
 ·rintro ⟨h1,h2⟩;have hl:=CZ h1;refine MN (by rw[GZ,hl]) fun j j1 j2=>?_;rw[tF b j j2 (by omega)];refine bg.2 ⟨F9 h1 j j1 (by omega),bw.2 fun x hx=>?_⟩;by_cases e:x.1=(j:Int)
  ·have:=h2 x hx;simp only[KM,atI,e,Int.toNat_natCast,bk,bq j1,Option.getD_some,decide_eq_true_eq]at this;simp[this]
  ·simp[e]
 ·intro h1;have hl:=CZ h1;rw[GZ]at hl;refine⟨MN hl fun j j1 j2=>?_,fun x hx=>?_⟩
  ·have:=F9 h1 j j1 (by rw[GZ];exact j2);rw[tF b j _ j2]at this;exact(bg.1 this).1
  ·have hn:=bw.1 h.nok x hx;simp only[JP,bj,C5]at hn;obtain⟨⟨n1,n2⟩,_⟩:=hn;have hj:x.1.toNat<t.length:=by omega
   have:=F9 h1 x.1.toNat hj (by rw[GZ];omega);rw[tF b _ _ (by omega)]at this;have:=bw.1 (bg.1 this).2 x hx;have e:x.1=((x.1.toNat:Nat):Int):=by omega
   simp only[<-e,decide_true,Bool.not_true,Bool.false_or,decide_eq_true_eq]at this;simp only[KM,atI,bk,bq hj,Option.getD_some,decide_eq_true_eq];exact this.symm
theorem ABD{b:AN}(h:Valid b):BU b≠[]↔∀l∈aw b,l≠[]:=by
 constructor
 ·intro he l hl;obtain⟨t,ht⟩:=bz _ he;have:=(FJ h).1 (E1.1 ht);obtain⟨j,hj,rfl⟩:=cj hl;have:=F9 this j (by rw[CZ this];exact hj) hj;exact cw this
 ·intro ha;have:=R5 ha 0;exact cw (E1.2 ((FJ h).2 this))
def O8(g:Nat->Int->Int):Nat->List Int->Int
 |_,[]=>0
 |h,x::t=>g h x+O8 g (h+1) t
def WC(g:Nat->Int):Nat->Nat->Int
 |_,0=>0
 |h,n+1=>g h+WC g (h+1) n
theorem xV{g:Nat->Int->Int}{lo:Nat->Int}:∀(A:List (List Int)) (h:Nat),(∀j (hj:j<A.length),∀n∈A[j],lo (h+j)<=g (h+j) n)->∀t,A6 t A=true->WC lo h A.length<=O8 g h t
 |[],h,_,[],_=>Int.le_refl _
 |l::r,h,hA,x::t,ht=>by simp only[A6,bj,decide_eq_true_eq]at ht;have h1:=hA 0 (by simp) x ht.1;have h2:=xV r (h+1) (fun j hj n hn=>by have:=hA (j+1) (by simpa using hj) n hn;rwa [show h+(j+1)=h+1+j by omega]at this) t ht.2;simp only[bc,WC,O8];simp only[cz]at h1;omega
theorem nX{g:Nat->Int->Int}{hi:Nat->Int}:∀(A:List (List Int)) (h:Nat),(∀j (hj:j<A.length),∀n∈A[j],g (h+j) n<=hi (h+j))->∀t,A6 t A=true->O8 g h t<=WC hi h A.length
 |[],h,_,[],_=>Int.le_refl _
 |l::r,h,hA,x::t,ht=>by simp only[A6,bj,decide_eq_true_eq]at ht;have h1:=hA 0 (by simp) x ht.1;have h2:=nX r (h+1) (fun j hj n hn=>by have:=hA (j+1) (by simpa using hj) n hn;rwa [show h+(j+1)=h+1+j by omega]at this) t ht.2;simp only[bc,WC,O8];simp only[cz]at h1;omega
theorem tG{g:Nat->Int->Int}{z:Nat->Int}:∀(A:List (List Int)) (h:Nat),(∀j (hj:j<A.length),∃n∈A[j],g (h+j) n=z (h+j))->∃t,A6 t A=true/\O8 g h t=WC z h A.length
 |[],h,_=>⟨[],rfl,rfl⟩
 |l::r,h,hA=>by
  obtain⟨n,hn,he⟩:=hA 0 (by simp);obtain⟨t,ht,hs⟩:=tG r (h+1) fun j hj=>by obtain⟨n,h1,h2⟩:=hA (j+1) (by simpa using hj);exact⟨n,h1,by rwa [show h+(j+1)=h+1+j by omega]at h2⟩
  refine⟨n::t,?_,?_⟩
  ·simp only[A6,bj,decide_eq_true_eq];exact⟨hn,ht⟩
  ·simp only[cz]at he;simp only[bc,WC,O8,he,hs]
def eZ(z:Int)(l:List Int):Int:=l.foldl min z
def fA(z:Int)(l:List Int):Int:=l.foldl max z
theorem xW:∀(l:List Int) (z:Int),eZ z l<=z/\∀x∈l,eZ z l<=x
 |[],z=>⟨Int.le_refl _,by simp⟩
 |y::l,z=>by
  obtain⟨h1,h2⟩:=xW l (min z y);have:eZ z (y::l)=eZ (min z y) l:=rfl;rw[this];refine⟨by omega,fun x hx=>?_⟩;rcases bh.1 hx with rfl|hx
  ·omega
  ·exact h2 x hx
theorem nY:∀(l:List Int) (z:Int),eZ z l=z\/eZ z l∈l
 |[],z=>.inl rfl
 |y::l,z=>by
  have e:eZ z (y::l)=eZ (min z y) l:=rfl;rw[e];rcases nY l (min z y)with h|h
  ·rw[h];rcases Int.le_total z y with h|h
   ·left;omega
   ·right;rw[show min z y=y by omega];simp
  ·exact .inr (bh.2 (.inr h))
theorem xX:∀(l:List Int) (z:Int),z<=fA z l/\∀x∈l,x<=fA z l
 |[],z=>⟨Int.le_refl _,by simp⟩
 |y::l,z=>by
  obtain⟨h1,h2⟩:=xX l (max z y);have:fA z (y::l)=fA (max z y) l:=rfl;rw[this];refine⟨by omega,fun x hx=>?_⟩;rcases bh.1 hx with rfl|hx
  ·omega
  ·exact h2 x hx
theorem nZ:∀(l:List Int) (z:Int),fA z l=z\/fA z l∈l
 |[],z=>.inl rfl
 |y::l,z=>by
  have e:fA z (y::l)=fA (max z y) l:=rfl;rw[e];rcases nZ l (max z y)with h|h
  ·rw[h];rcases Int.le_total z y with h|h
   ·right;rw[show max z y=y by omega];simp
   ·left;omega
  ·exact .inr (bh.2 (.inr h))
structure JD{α:Type}(l:List α)(f:α->Int)(m:Int):Prop where
 le:∀x∈l,m<=f x
 at':∃x∈l,f x=m
structure J1{α:Type}(l:List α)(f:α->Int)(m:Int):Prop where
 le:∀x∈l,f x<=m
 at':∃x∈l,f x=m
theorem JD.uniq{α:Type}{l:List α}{f:α->Int}{m n:Int}(h:JD l f m)(h':JD l f n):m=n:=by obtain⟨x,hx,ex⟩:=h.at';obtain⟨y,hy,ey⟩:=h'.at';have:=h.le y hy;have:=h'.le x hx;omega
theorem J1.uniq{α:Type}{l:List α}{f:α->Int}{m n:Int}(h:J1 l f m)(h':J1 l f n):m=n:=by obtain⟨x,hx,ex⟩:=h.at';obtain⟨y,hy,ey⟩:=h'.at';have:=h.le y hy;have:=h'.le x hx;omega
theorem xY{α:Type}{l:List α}{f:α->Int}{z:Int}(hz:∀x∈l,f x<=z)(hn:l≠[]):JD l f (eZ z (l.map f)):=by
 obtain⟨h1,h2⟩:=xW (l.map f) z;refine⟨fun x hx=>h2 _ (bb hx),?_⟩;rcases nY (l.map f) z with h|h
 ·obtain⟨y,hy⟩:=bz _ hn;have:=h2 _ (bb hy);have:=hz y hy;exact⟨y,hy,by omega⟩
 ·obtain⟨x,hx,e⟩:=bp.1 h;exact⟨x,hx,e⟩
theorem xZ{α:Type}{l:List α}{f:α->Int}{z:Int}(hz:∀x∈l,z<=f x)(hn:l≠[]):J1 l f (fA z (l.map f)):=by
 obtain⟨h1,h2⟩:=xX (l.map f) z;refine⟨fun x hx=>h2 _ (bb hx),?_⟩;rcases nZ (l.map f) z with h|h
 ·obtain⟨y,hy⟩:=bz _ hn;have:=h2 _ (bb hy);have:=hz y hy;exact⟨y,hy,by omega⟩
 ·obtain⟨x,hx,e⟩:=bp.1 h;exact⟨x,hx,e⟩
theorem AMN{b:AN}(h:Valid b)(g:Nat->Int->Int)(lo:Nat->Int)(hlo:∀j (hj:j<(aw b).length),JD (aw b)[j] (g j) (lo j)):JD (BU b) (O8 g 0) (WC lo 0 b.winds.length):=by
 refine⟨fun t ht=>?_,?_⟩
 ·have:=xV (g:=g) (lo:=lo) (aw b) 0 (fun j hj n hn=>by simpa using(hlo j hj).le n hn) t ((FJ h).1 (E1.1 ht));rwa [GZ]at this
 ·obtain⟨t,h1,h2⟩:=tG (g:=g) (z:=lo) (aw b) 0 fun j hj=>by simpa using(hlo j hj).at'
  rw[GZ]at h2;exact⟨t,E1.2 ((FJ h).2 h1),h2⟩
theorem AMO{b:AN}(h:Valid b)(g:Nat->Int->Int)(hi:Nat->Int)(hhi:∀j (hj:j<(aw b).length),J1 (aw b)[j] (g j) (hi j)):J1 (BU b) (O8 g 0) (WC hi 0 b.winds.length):=by
 refine⟨fun t ht=>?_,?_⟩
 ·have:=nX (g:=g) (hi:=hi) (aw b) 0 (fun j hj n hn=>by simpa using(hhi j hj).le n hn) t ((FJ h).1 (E1.1 ht));rwa [GZ]at this
 ·obtain⟨t,h1,h2⟩:=tG (g:=g) (z:=hi) (aw b) 0 fun j hj=>by simpa using(hhi j hj).at'
  rw[GZ]at h2;exact⟨t,E1.2 ((FJ h).2 h1),h2⟩
theorem yA:∀{l:List Int} {lo:Int},KL l=true->(∀x∈l,lo<=x/\x<=3)->lo<=4->(l.length:Int)<=4-lo
 |[],lo,_,_,h=>by simp;omega
 |[x],lo,_,h,_=>by have:=h x (by simp);simp;omega
 |x::y::r,lo,h,ha,hl=>by
  simp only[KL,bj,decide_eq_true_eq]at h;have hx:=ha x (by simp);have:∀z∈y::r,lo+1<=z/\z<=3:=by
   have key:∀(l:List Int) (y:Int),KL (y::l)=true->∀z∈y::l,y<=z:=by
    intro l;induction l with
    |nil=>intro y _ z hz;simp at hz;omega
    |cons w l ih=>
     intro y hi z hz
     simp only[KL,bj,decide_eq_true_eq]at hi
     rcases bh.1 hz with rfl|hz
     ·omega
     ·have:=ih w hi.2 z hz;omega
   intro z hz;have h1:=key r y h.2 z hz;have h2:=ha z (List.mem_cons_of_mem _ hz);omega
  have h3:=yA h.2 this (by omega);simp only[bc]at h3|-;omega
theorem AGB{l:List Int}(h:GJ l=true):1<=l.length/\l.length<=4:=by
 simp only[GJ,bj]at h;obtain⟨⟨h1,h2⟩,h3⟩:=h;have:=yA (lo:=0) h3 (fun x hx=>C5.1 (bw.1 h2 x hx)) (by omega);refine⟨?_,by omega⟩;cases l with
 |nil=>simp at h1
 |cons x l=>simp
theorem Valid.wl{b:AN}(h:Valid b):∀l∈b.winds,1<=l.length/\l.length<=4:=fun l hl=>AGB (bw.1 h.wo l hl)
theorem Valid.hl{b:AN}(h:Valid b):b.winds.length<=5:=by have:=h.la;have:=h.wi;omega
theorem yB:∀{ws:List (List Int)},(∀l∈ws,l.length<=4)->GI ws<=4 ^ ws.length
 |[],_=>cd _
 |l::r,h=>by have h1:=yB (ws:=r) fun l hl=>h l (by simp[hl]);have h2:=h l (by simp);simp only[GI,bc,Nat.pow_succ];rw[Nat.mul_comm (4 ^ r.length)];exact Nat.mul_le_mul h2 h1
theorem Valid.many{b:AN}(h:Valid b):GI b.winds<=1024:=by have h1:=yB fun l hl=>(h.wl l hl).2;have h2:4 ^ b.winds.length<=4 ^ 5:=Nat.pow_le_pow_right (by omega) h.hl;omega
def FY(ws:List Nat)(k:Nat):Nat:=if ws.length=0 then 0 else ws.getD (k % ws.length) 0
theorem AMP{ws:List Nat}(h:∀w∈ws,w<=65535)(k:Nat):FY ws k<=65535:=by
 unfold FY;split
 ·omega
 ·rename_i hz;have:k % ws.length<ws.length:=Nat.mod_lt _ (by omega);rw[bk,bq this];exact h _ (bx this)
def G9(x j:Nat):List Int:=List.map (fun i:Nat=>(i:Int)) ((cm j).filter fun i=>x.testBit i)
theorem AMQ(x j:Nat):decide ((((x / 2 ^ j:Nat):Int).tmod 2)=1)=x.testBit j:=by rw[show((x / 2 ^ j:Nat):Int).tmod 2=((x / 2 ^ j % 2:Nat):Int) from(Int.ofNat_tmod _ 2).symm,Nat.testBit_eq_decide_div_mod_eq];congr 1;exact propext ⟨fun h=>by omega,fun h=>by omega⟩
end Go.Wind
