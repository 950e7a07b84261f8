/- Beaches, their truths and what is so in them, plainly. No condition; no program in sight. -/
open Bool renaming and_eq_true->bj,not_eq_false->bm,or_eq_true->bn,not_eq_true'->cx
open List renaming getD_eq_getElem?_getD->bk,getElem?_eq_getElem->bq,all_eq_true->bw,exists_mem_of_ne_nil->bx,mem_map_of_mem->bz,getElem_mem->bb,length_cons->bc,any_eq_true->bf,mem_filter->bg,mem_cons->bh,mem_map->bp,getElem_of_mem->cj,mem_range->cq,ne_nil_of_mem->cw,range->cm
open Nat renaming add_zero->cz,le_refl->cd
namespace Go.Wind
structure AK where
 last:Int
 rows:Int
 places:Int
 reach:Int
 face:List Int
 sun:List Int
 winds:List (List Int)
 breaks:List (Int×Int)
 notes:List (Int×Int)
def GF(n lo hi:Int):Bool:=decide (lo<=n)&&decide (n<=hi)
theorem C6{n lo hi:Int}:GF n lo hi=true↔lo<=n/\n<=hi:=by simp[GF]
def D5(b:AK)(s:Int×Int):Bool:=GF s.1 0 (b.rows-1)&&GF s.2 0 (b.places-1)
def ER(l:List Int)(lo:Int):Bool:=l.all fun n=>GF n lo 3
def KF:List Int->Bool
 |[]=>true
 |[_]=>true
 |x::y::r=>decide (x<y)&&KF (y::r)
def GH(l:List Int):Bool:=!l.isEmpty&&ER l 0&&KF l
def JL(b:AK)(x:Int×Int):Bool:=GF x.1 0 b.last&&GF x.2 0 3
def DU(b:AK):Int :=
 if (decide (4<b.last)||decide (3<b.rows)||decide (5<b.places)||decide (4<b.breaks.length)||decide (5<b.notes.length))=true then 3
 else if (decide (b.last<0)||decide (b.rows<1)||decide (b.places<1)||!GF b.reach 0 4||!decide ((b.face.length:Int)=b.rows)||!decide ((b.sun.length:Int)=b.last+1)||!decide ((b.winds.length:Int)=b.last+1)||!ER b.face 0||!ER b.sun (-1))=true then 1
 else if b.winds.all GH=false then 1 else if b.breaks.all (D5 b)=false then 1 else if b.notes.all (JL b)=false then 1 else 0
structure Valid(b:AK):Prop where
 la:0<=b.last/\b.last<=4
 ro:1<=b.rows/\b.rows<=3
 pl:1<=b.places/\b.places<=5
 re:0<=b.reach/\b.reach<=4
 br:b.breaks.length<=4
 no:b.notes.length<=5
 fa:(b.face.length:Int)=b.rows
 su:(b.sun.length:Int)=b.last+1
 wi:(b.winds.length:Int)=b.last+1
 fd:ER b.face 0=true
 sd:ER b.sun (-1)=true
 wo:b.winds.all GH=true
 bo:b.breaks.all (D5 b)=true
 nok:b.notes.all (JL b)=true
theorem UL{b:AK}(h:DU b=0):Valid b:=by
 unfold DU at h;split at h
 ·cases h
 split at h
 ·cases h
 split at h
 ·cases h
 split at h
 ·cases h
 split at h
 ·cases h
 rename_i h1 h2 h3 h4 h5;simp only[bn,decide_eq_true_eq,cx,decide_eq_false_iff_not,not_or,bm]at h1 h2;obtain⟨⟨⟨⟨a1,a2⟩,a3⟩,a4⟩,a5⟩:=h1;obtain⟨⟨⟨⟨⟨⟨⟨⟨c1,c2⟩,c3⟩,c4⟩,c5⟩,c6⟩,c7⟩,c8⟩,c9⟩:=h2;have:=C6.1 c4;simp only[bm]at h3 h4 h5;exact⟨⟨by omega,by omega⟩,⟨by omega,by omega⟩,⟨by omega,by omega⟩,this,by omega,by omega,Classical.not_not.1 c5,Classical.not_not.1 c6,Classical.not_not.1 c7,c8,c9,h3,h4,h5⟩
theorem MK{b:AK}(h:Valid b):DU b=0:=by
 obtain⟨la,ro,pl,re,br,no,fa,su,wi,fd,sd,wo,bo,nok⟩:=h;unfold DU;rw[if_neg,if_neg,if_neg,if_neg,if_neg]
 ·simp[nok]
 ·simp[bo]
 ·simp[wo]
 ·simp only[bn,decide_eq_true_eq,cx,decide_eq_false_iff_not,not_or,bm];exact⟨⟨⟨⟨⟨⟨⟨⟨by omega,by omega⟩,by omega⟩,C6.2 re⟩,by simpa using fa⟩,by simpa using su⟩,by simpa using wi⟩,fd⟩,sd⟩
 ·simp only[bn,decide_eq_true_eq,not_or];exact⟨⟨⟨⟨by omega,by omega⟩,by omega⟩,by omega⟩,by omega⟩
def GB:List (List Int)->Nat
 |[]=>1
 |l::r=>l.length*GB r
def D4:List (List Int)->Nat->List Int
 |[],_=>[]
 |l::r,n=>l.getD (n % l.length) 0::D4 r (n / l.length)
def XZ:List (List Int)->List (List Int)
 |[]=>[[]]
 |l::r=>l.flatMap fun x=>(XZ r).map (x::·)
def A2:List Int->List (List Int)->Bool
 |[],[]=>true
 |x::t,l::r=>decide (x∈l)&&A2 t r
 |_,_=>false
theorem CX:∀{t:List Int} {ws:List (List Int)},A2 t ws=true->t.length=ws.length
 |[],[],_=>rfl
 |x::t,l::r,h=>by simp only[A2,bj]at h;simp[CX h.2]
theorem F2:∀{t:List Int} {ws:List (List Int)},A2 t ws=true->∀h (h1:h<t.length) (h2:h<ws.length),t[h]∈ws[h]
 |x::t,l::r,hh,0,_,_=>by simp only[A2,bj,decide_eq_true_eq]at hh;exact hh.1
 |x::t,l::r,hh,h+1,h1,h2=>by simp only[A2,bj]at hh;simpa using F2 hh.2 h (by simpa using h1) (by simpa using h2)
theorem ML:∀{t:List Int} {ws:List (List Int)},t.length=ws.length->(∀h (h1:h<t.length) (h2:h<ws.length),t[h]∈ws[h])->A2 t ws=true
 |[],[],_,_=>rfl
 |x::t,l::r,hl,h=>by simp only[A2,bj,decide_eq_true_eq];exact⟨h 0 (by simp) (by simp),ML (by simpa using hl) fun j h1 h2=>h (j+1) (by simpa using h1) (by simpa using h2)⟩
theorem QD:∀{ws:List (List Int)} {t:List Int},t∈XZ ws↔A2 t ws=true
 |[],t=>by cases t<;>simp[XZ,A2]
 |l::r,t=>by
  cases t with
  |nil=>simp[XZ,A2]
  |cons x t=>
   simp only[XZ,List.mem_flatMap,bp,A2,bj,decide_eq_true_eq]
   constructor
   ·rintro ⟨y,hy,z,hz,e⟩;cases e;exact⟨hy,QD.1 hz⟩
   ·rintro ⟨h1,h2⟩;exact⟨x,h1,t,QD.2 h2,rfl⟩
theorem RZ:∀{ws:List (List Int)} (_:∀l∈ws,l≠[]) (n:Nat),A2 (D4 ws n) ws=true
 |[],_,_=>rfl
 |l::r,h,n=>by have hl:0<l.length:=List.length_pos_iff.2 (h l (by simp));simp only[D4,A2,bj,decide_eq_true_eq];have hm:n % l.length<l.length:=Nat.mod_lt _ hl;refine⟨?_,RZ (fun l hl=>h l (by simp[hl])) _⟩;rw[bk,bq hm];exact bb hm
theorem yA:∀{ws:List (List Int)} {t:List Int},A2 t ws=true->∃n,n<GB ws/\D4 ws n=t
 |[],[],_=>⟨0,by simp[GB],rfl⟩
 |l::r,x::t,h=>by
  simp only[A2,bj,decide_eq_true_eq]at h;obtain⟨m,h1,h2⟩:=yA h.2;obtain⟨j,hj,hx⟩:=cj h.1;refine⟨j+l.length*m,?_,?_⟩
  ·simp only[GB];have:l.length*m+l.length<=l.length*GB r:=by rw[<-Nat.mul_succ];exact Nat.mul_le_mul_left _ h1
   omega
  ·have hl:0<l.length:=by omega
   simp only[D4,Nat.add_mul_mod_self_left,Nat.mod_eq_of_lt hj,Nat.add_mul_div_left _ _ hl,Nat.div_eq_of_lt hj,Nat.zero_add,h2];rw[bk,bq hj];simp[hx]
def atI(l:List Int)(h:Int):Int:=l.getD h.toNat 0
def KG(t:List Int)(x:Int×Int):Bool:=decide (atI t x.1=x.2)
def DA(b:AK)(t:List Int):Bool:=A2 t b.winds&&b.notes.all (KG t)
def BK(b:AK):List (List Int):=((cm (GB b.winds)).map (D4 b.winds)).filter (DA b)
theorem Valid.ne{b:AK}(h:Valid b):∀l∈b.winds,l≠[]:=fun l hl e=>by have:=bw.1 h.wo l hl;subst e;simp[GH]at this
theorem EY{b:AK}{t:List Int}:t∈BK b↔DA b t=true:=by
 unfold BK;rw[bg,bp];constructor
 ·exact fun h=>h.2
 ·intro ht;refine⟨?_,ht⟩;simp only[DA,bj]at ht;obtain⟨n,h1,h2⟩:=yA ht.1;exact⟨n,cq.2 h1,h2⟩
def C7(p:List (List Int))(h r:Nat):Int:=(p.getD h []).getD r 0
def DQ(s:Int×Int)(wind:Int)(j:Int):Int×Int:=if wind=0 then(s.1-j,s.2) else if wind=1 then(s.1,s.2+j) else if wind=2 then(s.1+j,s.2) else if wind=3 then(s.1,s.2-j) else s
def yB(b:AK)(s:Int×Int)(face wind:Int):Bool:=decide ((face+2) % 4=wind)||(cm b.reach.toNat).any fun i=>b.breaks.any fun k=>decide (k=DQ s wind (i+1))
def kF(s k:Int×Int)(wind:Int):Int:=if wind=0/\k.2=s.2 then s.1-k.1 else if wind=2/\k.2=s.2 then k.1-s.1 else if wind=3/\k.1=s.1 then s.2-k.2 else if wind=1/\k.1=s.1 then k.2-s.2 else 0
def UM(b:AK)(s:Int×Int)(wind:Int):Bool:=b.breaks.any fun k=>GF (kF s k wind) 1 b.reach
def UN(b:AK)(s:Int×Int)(face wind:Int):Bool:=decide (face=(wind+2) % 4)||UM b s wind
theorem yC{s k:Int×Int}{wind R:Int}(hw:GF wind 0 3=true):GF (kF s k wind) 1 R=true↔∃i:Nat,(i:Int)<R/\k=DQ s wind (i+1):=by
 obtain⟨s1,s2⟩:=s;obtain⟨k1,k2⟩:=k;rw[C6]at hw|-;have:wind=0\/wind=1\/wind=2\/wind=3:=by omega
 rcases this with rfl|rfl|rfl|rfl
 ·simp only[kF,DQ,true_and,if_true,Prod.mk.injEq];constructor
  ·intro h;split at h
   ·exact⟨(s1-k1-1).toNat,by omega,by omega,by omega⟩
   ·simp at h
  ·rintro ⟨i,h1,h2,h3⟩;rw[if_pos h3];omega
 ·simp only[kF,DQ,true_and,if_true,Prod.mk.injEq,show ¬((1:Int)=0) by decide,show ¬((1:Int)=2) by decide,show ¬((1:Int)=3) by decide,false_and,if_false];constructor
  ·intro h;split at h
   ·exact⟨(k2-s2-1).toNat,by omega,by omega,by omega⟩
   ·omega
  ·rintro ⟨i,h1,h2,h3⟩;rw[if_pos h2];omega
 ·simp only[kF,DQ,true_and,if_true,Prod.mk.injEq,show ¬((2:Int)=0) by decide,show ¬((2:Int)=1) by decide,show ¬((2:Int)=3) by decide,false_and,if_false];constructor
  ·intro h;split at h
   ·exact⟨(k1-s1-1).toNat,by omega,by omega,by omega⟩
   ·omega
  ·rintro ⟨i,h1,h2,h3⟩;rw[if_pos h3];omega
 ·simp only[kF,DQ,true_and,if_true,Prod.mk.injEq,show ¬((3:Int)=0) by decide,show ¬((3:Int)=1) by decide,show ¬((3:Int)=2) by decide,false_and,if_false];constructor
  ·intro h;split at h
   ·exact⟨(s2-k2-1).toNat,by omega,by omega,by omega⟩
   ·omega
  ·rintro ⟨i,h1,h2,h3⟩;rw[if_pos h2];omega
theorem tP{b:AK}{s:Int×Int}{wind:Int}(hw:GF wind 0 3=true):UM b s wind=true↔∃i:Nat,(i:Int)<b.reach/\DQ s wind (i+1)∈b.breaks:=by
 unfold UM;rw[bf];constructor
 ·rintro ⟨k,hk,h⟩;obtain⟨i,h1,rfl⟩:=(yC hw).1 h;exact⟨i,h1,hk⟩
 ·rintro ⟨i,h1,h2⟩;exact⟨_,h2,(yC hw).2 ⟨i,h1,rfl⟩⟩
theorem AM5{f w:Int}(hf:GF f 0 3=true)(hw:GF w 0 3=true):((f+2) % 4=w)=(f=(w+2) % 4):=by rw[C6]at hf hw;apply propext;omega
theorem A60{b:AK}{s:Int×Int}{f w:Int}(hf:GF f 0 3=true)(hw:GF w 0 3=true):yB b s f w=UN b s f w:=by
 unfold yB UN;simp only[AM5 hf hw];congr 1;rw[Bool.eq_iff_iff,tP hw,bf];constructor
 ·rintro ⟨i,hi,h⟩;simp only[bf,decide_eq_true_eq]at h;obtain⟨k,hk,rfl⟩:=h;exact⟨i,by have:=cq.1 hi;omega,hk⟩
 ·rintro ⟨i,h1,h2⟩;exact⟨i,cq.2 (by omega),bf.2 ⟨_,h2,by simp⟩⟩
def mP(f:Nat->Bool):Nat->Nat
 |0=>0
 |n+1=>mP f n+(if f n=true then 1 else 0)
theorem O7(f:Nat->Bool):∀n,mP f n<=n
 |0=>cd _
 |n+1=>by have:=O7 f n;simp only[mP];split<;>omega
theorem bG{f g:Nat->Bool}:∀{n:Nat},(∀h,h<n->f h=true->g h=true)->mP f n<=mP g n
 |0,_=>cd _
 |n+1,h=>by have:=bG (n:=n) fun j hj=>h j (by omega);have:=h n (by omega);simp only[mP];split<;>split<;>simp_all;all_goals omega
theorem gX{f g:Nat->Bool}{n:Nat}(h:∀j,j<n->f j=g j):mP f n=mP g n :=
 Nat.le_antisymm (bG fun j hj e=>by rw[<-h j hj];exact e) (bG fun j hj e=>by rw[h j hj];exact e)
def M8(b:AK)(plan:List (List Int))(r h:Nat):Bool:=decide (C7 plan h r=b.sun.getD h 0)
structure fD where
 sun:Int
 calm:Int
 good:Int
deriving DecidableEq
def IM(calm:Nat->Bool)(lit:Nat->Bool)(n:Nat):fD:=⟨mP lit n,mP calm n,mP (fun h=>lit h&&calm h) n⟩
def bH(b:AK)(plan:List (List Int))(t:List Int)(r p h:Nat):Bool:=UN b (r,p) (C7 plan h r) (t.getD h 0)
def CG(b:AK)(plan:List (List Int))(t:List Int)(r p:Nat):fD:=IM (bH b plan t r p) (M8 b plan r) t.length
def AGN(b:AK)(plan:List (List Int))(t:List Int)(r p:Nat):fD:=IM (fun h=>yB b (r,p) (C7 plan h r) (t.getD h 0)) (M8 b plan r) t.length
def D6(b:AK)(plan:List (List Int)):Bool:=(plan.all fun l=>decide ((l.length:Int)=b.rows)&&ER l 0)&&decide ((plan.length:Int)=b.last+1)
structure FL(b:AK)(plan:List (List Int)):Prop where
 len:(plan.length:Int)=b.last+1
 row:∀h,h<plan.length->((plan.getD h []).length:Int)=b.rows
 dir:∀h r,h<plan.length->r<(plan.getD h []).length->GF (C7 plan h r) 0 3=true
theorem yD{b:AK}{plan:List (List Int)}(h:D6 b plan=true):FL b plan:=by
 simp only[D6,bj,bw,decide_eq_true_eq]at h;obtain⟨h1,h2⟩:=h;refine⟨h2,fun j hj=>?_,fun j r hj hr=>?_⟩
 ·rw[bk,bq hj];exact(h1 _ (bb hj)).1
 ·have:=(h1 _ (bb hj)).2;have e:plan.getD j []=plan[j]:=by rw[bk,bq hj];rfl
  unfold C7;rw[e]at hr|-;rw[bk,bq hr];exact bw.1 this _ (bb hr)
theorem AGO{b:AK}(h:Valid b){j:Nat}(hj:j<b.winds.length){n:Int}(hn:n∈b.winds[j]):GF n 0 3=true:=by have:=bw.1 h.wo _ (bb hj);simp only[GH,bj]at this;exact bw.1 this.1.2 n hn
theorem R3{b:AK}(h:Valid b){t:List Int}(ht:A2 t b.winds=true){j:Nat}(hj:j<t.length):GF (t.getD j 0) 0 3=true:=by have hl:=CX ht;rw[bk,bq hj];exact AGO h (by omega) (F2 ht j hj (by omega))
theorem AGP{b:AK}{plan:List (List Int)}{t:List Int}(h:Valid b)(hp:FL b plan)(ht:A2 t b.winds=true){r:Nat}(hr:(r:Int)<b.rows)(p:Nat):CG b plan t r p=AGN b plan t r p:=by
 have hl:=CX ht;have h1:=hp.len;have h2:=h.wi;have key:∀j,j<t.length->bH b plan t r p j=yB b (r,p) (C7 plan j r) (t.getD j 0):=fun j hj=>by unfold bH;have:=hp.row j (by omega);rw[A60 (hp.dir j r (by omega) (by omega)) (R3 h ht hj)]
 unfold CG AGN IM;congr 1
 ·rw[gX key]
 ·rw[gX fun j hj=>by rw[key j hj]]
def AGQ(b:AK)(h:Nat)(l:List Int):List Int:=l.filter fun n=>b.notes.all fun x=>!decide (x.1=h)||decide (x.2=n)
def oB(b:AK):Nat->List (List Int)->List (List Int)
 |_,[]=>[]
 |h,l::r=>AGQ b h l::oB b (h+1) r
def aw(b:AK):List (List Int):=oB b 0 b.winds
theorem oC(b:AK):∀(h:Nat) (ws:List (List Int)),(oB b h ws).length=ws.length
 |_,[]=>rfl
 |h,l::r=>by simp[oB,oC b (h+1) r]
theorem oD(b:AK):∀(h:Nat) (ws:List (List Int)) (j:Nat) (h1:j<(oB b h ws).length) (h2:j<ws.length),(oB b h ws)[j]=AGQ b (h+j) ws[j]
 |h,l::r,0,_,_=>rfl
 |h,l::r,j+1,h1,h2=>by have:=oD b (h+1) r j (by simpa [oB]using h1) (by simpa using h2);simp only[oB,List.getElem_cons_succ,this];rw[show h+1+j=h+(j+1) by omega]
theorem GV(b:AK):(aw b).length=b.winds.length:=oC b 0 _
theorem tQ(b:AK)(j:Nat)(h1:j<(aw b).length)(h2:j<b.winds.length):(aw b)[j]=AGQ b j b.winds[j]:=by have:=oD b 0 b.winds j h1 h2;rwa [Nat.zero_add]at this
theorem FC{b:AK}(h:Valid b){t:List Int}:DA b t=true↔A2 t (aw b)=true:=by
 unfold DA;rw[bj,bw];have wi:=h.wi;constructor
 ·rintro ⟨h1,h2⟩;have hl:=CX h1;refine ML (by rw[GV,hl]) fun j j1 j2=>?_;rw[tQ b j j2 (by omega)];refine bg.2 ⟨F2 h1 j j1 (by omega),bw.2 fun x hx=>?_⟩;by_cases e:x.1=(j:Int)
  ·have:=h2 x hx;simp only[KG,atI,e,Int.toNat_natCast,bk,bq j1,Option.getD_some,decide_eq_true_eq]at this;simp[this]
  ·simp[e]
 ·intro h1;have hl:=CX h1;rw[GV]at hl;refine⟨ML hl fun j j1 j2=>?_,fun x hx=>?_⟩
  ·have:=F2 h1 j j1 (by rw[GV];exact j2);rw[tQ b j _ j2]at this;exact(bg.1 this).1
  ·have hn:=bw.1 h.nok x hx;simp only[JL,bj,C6]at hn;obtain⟨⟨n1,n2⟩,_⟩:=hn;have hj:x.1.toNat<t.length:=by omega
   have:=F2 h1 x.1.toNat hj (by rw[GV];omega);rw[tQ b _ _ (by omega)]at this;have:=bw.1 (bg.1 this).2 x hx;have e:x.1=((x.1.toNat:Nat):Int):=by omega
   simp only[<-e,decide_true,Bool.not_true,Bool.false_or,decide_eq_true_eq]at this;simp only[KG,atI,bk,bq hj,Option.getD_some,decide_eq_true_eq];exact this.symm
theorem ABM{b:AK}(h:Valid b):BK b≠[]↔∀l∈aw b,l≠[]:=by
 constructor
 ·intro he l hl;obtain⟨t,ht⟩:=bx _ he;have:=(FC h).1 (EY.1 ht);obtain⟨j,hj,rfl⟩:=cj hl;have:=F2 this j (by rw[CX this];exact hj) hj;exact cw this
 ·intro ha;have:=RZ ha 0;exact cw (EY.2 ((FC h).2 this))
def O8(g:Nat->Int->Int):Nat->List Int->Int
 |_,[]=>0
 |h,x::t=>g h x+O8 g (h+1) t
def WK(g:Nat->Int):Nat->Nat->Int
 |_,0=>0
 |h,n+1=>g h+WK g (h+1) n
theorem yE{g:Nat->Int->Int}{lo:Nat->Int}:∀(A:List (List Int)) (h:Nat),(∀j (hj:j<A.length),∀n∈A[j],lo (h+j)<=g (h+j) n)->∀t,A2 t A=true->WK lo h A.length<=O8 g h t
 |[],h,_,[],_=>Int.le_refl _
 |l::r,h,hA,x::t,ht=>by simp only[A2,bj,decide_eq_true_eq]at ht;have h1:=hA 0 (by simp) x ht.1;have h2:=yE r (h+1) (fun j hj n hn=>by have:=hA (j+1) (by simpa using hj) n hn;rwa [show h+(j+1)=h+1+j by omega]at this) t ht.2;simp only[bc,WK,O8];simp only[cz]at h1;omega
theorem oE{g:Nat->Int->Int}{hi:Nat->Int}:∀(A:List (List Int)) (h:Nat),(∀j (hj:j<A.length),∀n∈A[j],g (h+j) n<=hi (h+j))->∀t,A2 t A=true->O8 g h t<=WK hi h A.length
 |[],h,_,[],_=>Int.le_refl _
 |l::r,h,hA,x::t,ht=>by simp only[A2,bj,decide_eq_true_eq]at ht;have h1:=hA 0 (by simp) x ht.1;have h2:=oE r (h+1) (fun j hj n hn=>by have:=hA (j+1) (by simpa using hj) n hn;rwa [show h+(j+1)=h+1+j by omega]at this) t ht.2;simp only[bc,WK,O8];simp only[cz]at h1;omega
theorem tR{g:Nat->Int->Int}{z:Nat->Int}:∀(A:List (List Int)) (h:Nat),(∀j (hj:j<A.length),∃n∈A[j],g (h+j) n=z (h+j))->∃t,A2 t A=true/\O8 g h t=WK z h A.length
 |[],h,_=>⟨[],rfl,rfl⟩
 |l::r,h,hA=>by
  obtain⟨n,hn,he⟩:=hA 0 (by simp);obtain⟨t,ht,hs⟩:=tR r (h+1) fun j hj=>by obtain⟨n,h1,h2⟩:=hA (j+1) (by simpa using hj);exact⟨n,h1,by rwa [show h+(j+1)=h+1+j by omega]at h2⟩
  refine⟨n::t,?_,?_⟩
  ·simp only[A2,bj,decide_eq_true_eq];exact⟨hn,ht⟩
  ·simp only[cz]at he;simp only[bc,WK,O8,he,hs]
def fE(z:Int)(l:List Int):Int:=l.foldl min z
def fF(z:Int)(l:List Int):Int:=l.foldl max z
theorem yF:∀(l:List Int) (z:Int),fE z l<=z/\∀x∈l,fE z l<=x
 |[],z=>⟨Int.le_refl _,by simp⟩
 |y::l,z=>by
  obtain⟨h1,h2⟩:=yF l (min z y);have:fE z (y::l)=fE (min z y) l:=rfl;rw[this];refine⟨by omega,fun x hx=>?_⟩;rcases bh.1 hx with rfl|hx
  ·omega
  ·exact h2 x hx
theorem oF:∀(l:List Int) (z:Int),fE z l=z\/fE z l∈l
 |[],z=>.inl rfl
 |y::l,z=>by
  have e:fE z (y::l)=fE (min z y) l:=rfl;rw[e];rcases oF l (min z y)with h|h
  ·rw[h];rcases Int.le_total z y with h|h
   ·left;omega
   ·right;rw[show min z y=y by omega];simp
  ·exact .inr (bh.2 (.inr h))
theorem yG:∀(l:List Int) (z:Int),z<=fF z l/\∀x∈l,x<=fF z l
 |[],z=>⟨Int.le_refl _,by simp⟩
 |y::l,z=>by
  obtain⟨h1,h2⟩:=yG l (max z y);have:fF z (y::l)=fF (max z y) l:=rfl;rw[this];refine⟨by omega,fun x hx=>?_⟩;rcases bh.1 hx with rfl|hx
  ·omega
  ·exact h2 x hx
theorem oG:∀(l:List Int) (z:Int),fF z l=z\/fF z l∈l
 |[],z=>.inl rfl
 |y::l,z=>by
  have e:fF z (y::l)=fF (max z y) l:=rfl;rw[e];rcases oG l (max z y)with h|h
  ·rw[h];rcases Int.le_total z y with h|h
   ·right;rw[show max z y=y by omega];simp
   ·left;omega
  ·exact .inr (bh.2 (.inr h))
structure I8{α:Type}(l:List α)(f:α->Int)(m:Int):Prop where
 le:∀x∈l,m<=f x
 at':∃x∈l,f x=m
structure JW{α:Type}(l:List α)(f:α->Int)(m:Int):Prop where
 le:∀x∈l,f x<=m
 at':∃x∈l,f x=m
theorem I8.uniq{α:Type}{l:List α}{f:α->Int}{m n:Int}(h:I8 l f m)(h':I8 l f n):m=n:=by obtain⟨x,hx,ex⟩:=h.at';obtain⟨y,hy,ey⟩:=h'.at';have:=h.le y hy;have:=h'.le x hx;omega
theorem JW.uniq{α:Type}{l:List α}{f:α->Int}{m n:Int}(h:JW l f m)(h':JW l f n):m=n:=by obtain⟨x,hx,ex⟩:=h.at';obtain⟨y,hy,ey⟩:=h'.at';have:=h.le y hy;have:=h'.le x hx;omega
theorem yH{α:Type}{l:List α}{f:α->Int}{z:Int}(hz:∀x∈l,f x<=z)(hn:l≠[]):I8 l f (fE z (l.map f)):=by
 obtain⟨h1,h2⟩:=yF (l.map f) z;refine⟨fun x hx=>h2 _ (bz hx),?_⟩;rcases oF (l.map f) z with h|h
 ·obtain⟨y,hy⟩:=bx _ hn;have:=h2 _ (bz hy);have:=hz y hy;exact⟨y,hy,by omega⟩
 ·obtain⟨x,hx,e⟩:=bp.1 h;exact⟨x,hx,e⟩
theorem yI{α:Type}{l:List α}{f:α->Int}{z:Int}(hz:∀x∈l,z<=f x)(hn:l≠[]):JW l f (fF z (l.map f)):=by
 obtain⟨h1,h2⟩:=yG (l.map f) z;refine⟨fun x hx=>h2 _ (bz hx),?_⟩;rcases oG (l.map f) z with h|h
 ·obtain⟨y,hy⟩:=bx _ hn;have:=h2 _ (bz hy);have:=hz y hy;exact⟨y,hy,by omega⟩
 ·obtain⟨x,hx,e⟩:=bp.1 h;exact⟨x,hx,e⟩
theorem AM6{b:AK}(h:Valid b)(g:Nat->Int->Int)(lo:Nat->Int)(hlo:∀j (hj:j<(aw b).length),I8 (aw b)[j] (g j) (lo j)):I8 (BK b) (O8 g 0) (WK lo 0 b.winds.length):=by
 refine⟨fun t ht=>?_,?_⟩
 ·have:=yE (g:=g) (lo:=lo) (aw b) 0 (fun j hj n hn=>by simpa using(hlo j hj).le n hn) t ((FC h).1 (EY.1 ht));rwa [GV]at this
 ·obtain⟨t,h1,h2⟩:=tR (g:=g) (z:=lo) (aw b) 0 fun j hj=>by simpa using(hlo j hj).at'
  rw[GV]at h2;exact⟨t,EY.2 ((FC h).2 h1),h2⟩
theorem AM7{b:AK}(h:Valid b)(g:Nat->Int->Int)(hi:Nat->Int)(hhi:∀j (hj:j<(aw b).length),JW (aw b)[j] (g j) (hi j)):JW (BK b) (O8 g 0) (WK hi 0 b.winds.length):=by
 refine⟨fun t ht=>?_,?_⟩
 ·have:=oE (g:=g) (hi:=hi) (aw b) 0 (fun j hj n hn=>by simpa using(hhi j hj).le n hn) t ((FC h).1 (EY.1 ht));rwa [GV]at this
 ·obtain⟨t,h1,h2⟩:=tR (g:=g) (z:=hi) (aw b) 0 fun j hj=>by simpa using(hhi j hj).at'
  rw[GV]at h2;exact⟨t,EY.2 ((FC h).2 h1),h2⟩
theorem yJ:∀{l:List Int} {lo:Int},KF l=true->(∀x∈l,lo<=x/\x<=3)->lo<=4->(l.length:Int)<=4-lo
 |[],lo,_,_,h=>by simp;omega
 |[x],lo,_,h,_=>by have:=h x (by simp);simp;omega
 |x::y::r,lo,h,ha,hl=>by
  simp only[KF,bj,decide_eq_true_eq]at h;have hx:=ha x (by simp);have:∀z∈y::r,lo+1<=z/\z<=3:=by
   have key:∀(l:List Int) (y:Int),KF (y::l)=true->∀z∈y::l,y<=z:=by
    intro l;induction l with
    |nil=>intro y _ z hz;simp at hz;omega
    |cons w l ih=>
     intro y hi z hz
     simp only[KF,bj,decide_eq_true_eq]at hi
     rcases bh.1 hz with rfl|hz
     ·omega
     ·have:=ih w hi.2 z hz;omega
   intro z hz;have h1:=key r y h.2 z hz;have h2:=ha z (List.mem_cons_of_mem _ hz);omega
  have h3:=yJ h.2 this (by omega);simp only[bc]at h3|-;omega
theorem AGR{l:List Int}(h:GH l=true):1<=l.length/\l.length<=4:=by
 simp only[GH,bj]at h;obtain⟨⟨h1,h2⟩,h3⟩:=h;have:=yJ (lo:=0) h3 (fun x hx=>C6.1 (bw.1 h2 x hx)) (by omega);refine⟨?_,by omega⟩;cases l with
 |nil=>simp at h1
 |cons x l=>simp
theorem Valid.wl{b:AK}(h:Valid b):∀l∈b.winds,1<=l.length/\l.length<=4:=fun l hl=>AGR (bw.1 h.wo l hl)
theorem Valid.hl{b:AK}(h:Valid b):b.winds.length<=5:=by have:=h.la;have:=h.wi;omega
theorem yK:∀{ws:List (List Int)},(∀l∈ws,l.length<=4)->GB ws<=4 ^ ws.length
 |[],_=>cd _
 |l::r,h=>by have h1:=yK (ws:=r) fun l hl=>h l (by simp[hl]);have h2:=h l (by simp);simp only[GB,bc,Nat.pow_succ];rw[Nat.mul_comm (4 ^ r.length)];exact Nat.mul_le_mul h2 h1
theorem Valid.many{b:AK}(h:Valid b):GB b.winds<=1024:=by have h1:=yK fun l hl=>(h.wl l hl).2;have h2:4 ^ b.winds.length<=4 ^ 5:=Nat.pow_le_pow_right (by omega) h.hl;omega
def G4(x j:Nat):List Int:=List.map (fun i:Nat=>(i:Int)) ((cm j).filter fun i=>x.testBit i)
theorem AM8(x j:Nat):decide ((((x / 2 ^ j:Nat):Int).tmod 2)=1)=x.testBit j:=by rw[show((x / 2 ^ j:Nat):Int).tmod 2=((x / 2 ^ j % 2:Nat):Int) from(Int.ofNat_tmod _ 2).symm,Nat.testBit_eq_decide_div_mod_eq];congr 1;exact propext ⟨fun h=>by omega,fun h=>by omega⟩
end Go.Wind
