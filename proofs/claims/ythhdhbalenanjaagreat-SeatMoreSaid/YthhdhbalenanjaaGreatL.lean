/- Beaches, their truths and what is so in them, plainly. No condition; no program in sight. -/
open Bool renaming and_eq_true->bj,not_eq_false->bm,or_eq_true->bn,not_eq_true'->cx
open List renaming getD_eq_getElem?_getD->bk,getElem?_eq_getElem->bq,all_eq_true->bw,exists_mem_of_ne_nil->bx,mem_map_of_mem->bz,getElem_mem->bb,length_cons->bc,any_eq_true->bf,mem_filter->bg,mem_cons->bh,mem_map->bp,getElem_of_mem->cj,mem_range->cq,ne_nil_of_mem->cw,range->cm
open Nat renaming add_zero->cz,le_refl->cd
namespace Go.Wind
structure AM where
 last:Int
 rows:Int
 places:Int
 reach:Int
 face:List Int
 sun:List Int
 winds:List (List Int)
 breaks:List (Int×Int)
 notes:List (Int×Int)
def GR(n lo hi:Int):Bool:=decide (lo<=n)&&decide (n<=hi)
theorem DU{n lo hi:Int}:GR n lo hi=true↔lo<=n/\n<=hi:=by simp[GR]
def GI(b:AM)(s:Int×Int):Bool:=GR s.1 0 (b.rows-1)&&GR s.2 0 (b.places-1)
def EW(l:List Int)(lo:Int):Bool:=l.all fun n=>GR n lo 3
def KP:List Int->Bool
 |[]=>true
 |[_]=>true
 |x::y::r=>decide (x<y)&&KP (y::r)
def GS(l:List Int):Bool:=!l.isEmpty&&EW l 0&&KP l
def JV(b:AM)(x:Int×Int):Bool:=GR x.1 0 b.last&&GR x.2 0 3
def D7(b:AM):Int :=
 if (decide (4<b.last)||decide (3<b.rows)||decide (5<b.places)||decide (4<b.breaks.length)||decide (5<b.notes.length))=true then 3
 else if (decide (b.last<0)||decide (b.rows<1)||decide (b.places<1)||!GR b.reach 0 4||!decide ((b.face.length:Int)=b.rows)||!decide ((b.sun.length:Int)=b.last+1)||!decide ((b.winds.length:Int)=b.last+1)||!EW b.face 0||!EW b.sun (-1))=true then 1
 else if b.winds.all GS=false then 1 else if b.breaks.all (GI b)=false then 1 else if b.notes.all (JV b)=false then 1 else 0
structure Valid(b:AM):Prop where
 la:0<=b.last/\b.last<=4
 ro:1<=b.rows/\b.rows<=3
 pl:1<=b.places/\b.places<=5
 re:0<=b.reach/\b.reach<=4
 br:b.breaks.length<=4
 no:b.notes.length<=5
 fa:(b.face.length:Int)=b.rows
 su:(b.sun.length:Int)=b.last+1
 wi:(b.winds.length:Int)=b.last+1
 fd:EW b.face 0=true
 sd:EW b.sun (-1)=true
 wo:b.winds.all GS=true
 bo:b.breaks.all (GI b)=true
 nok:b.notes.all (JV b)=true
theorem U1{b:AM}(h:D7 b=0):Valid b:=by
 unfold D7 at h;split at h
 ·cases h
 split at h
 ·cases h
 split at h
 ·cases h
 split at h
 ·cases h
 split at h
 ·cases h
 rename_i h1 h2 h3 h4 h5;simp only[bn,decide_eq_true_eq,cx,decide_eq_false_iff_not,not_or,bm]at h1 h2;obtain⟨⟨⟨⟨a1,a2⟩,a3⟩,a4⟩,a5⟩:=h1;obtain⟨⟨⟨⟨⟨⟨⟨⟨c1,c2⟩,c3⟩,c4⟩,c5⟩,c6⟩,c7⟩,c8⟩,c9⟩:=h2;have:=DU.1 c4;simp only[bm]at h3 h4 h5;exact⟨⟨by omega,by omega⟩,⟨by omega,by omega⟩,⟨by omega,by omega⟩,this,by omega,by omega,Classical.not_not.1 c5,Classical.not_not.1 c6,Classical.not_not.1 c7,c8,c9,h3,h4,h5⟩
theorem PB{b:AM}(h:Valid b):D7 b=0:=by
 obtain⟨la,ro,pl,re,br,no,fa,su,wi,fd,sd,wo,bo,nok⟩:=h;unfold D7;rw[if_neg,if_neg,if_neg,if_neg,if_neg]
 ·simp[nok]
 ·simp[bo]
 ·simp[wo]
 ·simp only[bn,decide_eq_true_eq,cx,decide_eq_false_iff_not,not_or,bm];exact⟨⟨⟨⟨⟨⟨⟨⟨by omega,by omega⟩,by omega⟩,DU.2 re⟩,by simpa using fa⟩,by simpa using su⟩,by simpa using wi⟩,fd⟩,sd⟩
 ·simp only[bn,decide_eq_true_eq,not_or];exact⟨⟨⟨⟨by omega,by omega⟩,by omega⟩,by omega⟩,by omega⟩
def GQ:List (List Int)->Nat
 |[]=>1
 |l::r=>l.length*GQ r
def EB:List (List Int)->Nat->List Int
 |[],_=>[]
 |l::r,n=>l.getD (n % l.length) 0::EB r (n / l.length)
def YB:List (List Int)->List (List Int)
 |[]=>[[]]
 |l::r=>l.flatMap fun x=>(YB r).map (x::·)
def A2:List Int->List (List Int)->Bool
 |[],[]=>true
 |x::t,l::r=>decide (x∈l)&&A2 t r
 |_,_=>false
theorem C0:∀{t:List Int} {ws:List (List Int)},A2 t ws=true->t.length=ws.length
 |[],[],_=>rfl
 |x::t,l::r,h=>by simp only[A2,bj]at h;simp[C0 h.2]
theorem GJ:∀{t:List Int} {ws:List (List Int)},A2 t ws=true->∀h (h1:h<t.length) (h2:h<ws.length),t[h]∈ws[h]
 |x::t,l::r,hh,0,_,_=>by simp only[A2,bj,decide_eq_true_eq]at hh;exact hh.1
 |x::t,l::r,hh,h+1,h1,h2=>by simp only[A2,bj]at hh;simpa using GJ hh.2 h (by simpa using h1) (by simpa using h2)
theorem MS:∀{t:List Int} {ws:List (List Int)},t.length=ws.length->(∀h (h1:h<t.length) (h2:h<ws.length),t[h]∈ws[h])->A2 t ws=true
 |[],[],_,_=>rfl
 |x::t,l::r,hl,h=>by simp only[A2,bj,decide_eq_true_eq];exact⟨h 0 (by simp) (by simp),MS (by simpa using hl) fun j h1 h2=>h (j+1) (by simpa using h1) (by simpa using h2)⟩
theorem QK:∀{ws:List (List Int)} {t:List Int},t∈YB ws↔A2 t ws=true
 |[],t=>by cases t<;>simp[YB,A2]
 |l::r,t=>by
  cases t with
  |nil=>simp[YB,A2]
  |cons x t=>
   simp only[YB,List.mem_flatMap,bp,A2,bj,decide_eq_true_eq]
   constructor
   ·rintro ⟨y,hy,z,hz,e⟩;cases e;exact⟨hy,QK.1 hz⟩
   ·rintro ⟨h1,h2⟩;exact⟨x,h1,t,QK.2 h2,rfl⟩
theorem SI:∀{ws:List (List Int)} (_:∀l∈ws,l≠[]) (n:Nat),A2 (EB ws n) ws=true
 |[],_,_=>rfl
 |l::r,h,n=>by have hl:0<l.length:=List.length_pos_iff.2 (h l (by simp));simp only[EB,A2,bj,decide_eq_true_eq];have hm:n % l.length<l.length:=Nat.mod_lt _ hl;refine⟨?_,SI (fun l hl=>h l (by simp[hl])) _⟩;rw[bk,bq hm];exact bb hm
theorem yF:∀{ws:List (List Int)} {t:List Int},A2 t ws=true->∃n,n<GQ ws/\EB ws n=t
 |[],[],_=>⟨0,by simp[GQ],rfl⟩
 |l::r,x::t,h=>by
  simp only[A2,bj,decide_eq_true_eq]at h;obtain⟨m,h1,h2⟩:=yF h.2;obtain⟨j,hj,hx⟩:=cj h.1;refine⟨j+l.length*m,?_,?_⟩
  ·simp only[GQ];have:l.length*m+l.length<=l.length*GQ r:=by rw[<-Nat.mul_succ];exact Nat.mul_le_mul_left _ h1
   omega
  ·have hl:0<l.length:=by omega
   simp only[EB,Nat.add_mul_mod_self_left,Nat.mod_eq_of_lt hj,Nat.add_mul_div_left _ _ hl,Nat.div_eq_of_lt hj,Nat.zero_add,h2];rw[bk,bq hj];simp[hx]
def atI(l:List Int)(h:Int):Int:=l.getD h.toNat 0
def KQ(t:List Int)(x:Int×Int):Bool:=decide (atI t x.1=x.2)
def DF(b:AM)(t:List Int):Bool:=A2 t b.winds&&b.notes.all (KQ t)
def BR(b:AM):List (List Int):=((cm (GQ b.winds)).map (EB b.winds)).filter (DF b)
theorem Valid.ne{b:AM}(h:Valid b):∀l∈b.winds,l≠[]:=fun l hl e=>by have:=bw.1 h.wo l hl;subst e;simp[GS]at this
theorem E4{b:AM}{t:List Int}:t∈BR b↔DF b t=true:=by
 unfold BR;rw[bg,bp];constructor
 ·exact fun h=>h.2
 ·intro ht;refine⟨?_,ht⟩;simp only[DF,bj]at ht;obtain⟨n,h1,h2⟩:=yF ht.1;exact⟨n,cq.2 h1,h2⟩
def C8(p:List (List Int))(h r:Nat):Int:=(p.getD h []).getD r 0
def DT(s:Int×Int)(wind:Int)(j:Int):Int×Int:=if wind=0 then(s.1-j,s.2) else if wind=1 then(s.1,s.2+j) else if wind=2 then(s.1+j,s.2) else if wind=3 then(s.1,s.2-j) else s
def yG(b:AM)(s:Int×Int)(face wind:Int):Bool:=decide ((face+2) % 4=wind)||(cm b.reach.toNat).any fun i=>b.breaks.any fun k=>decide (k=DT s wind (i+1))
def kJ(s k:Int×Int)(wind:Int):Int:=if wind=0/\k.2=s.2 then s.1-k.1 else if wind=2/\k.2=s.2 then k.1-s.1 else if wind=3/\k.1=s.1 then s.2-k.2 else if wind=1/\k.1=s.1 then k.2-s.2 else 0
def U2(b:AM)(s:Int×Int)(wind:Int):Bool:=b.breaks.any fun k=>GR (kJ s k wind) 1 b.reach
def U3(b:AM)(s:Int×Int)(face wind:Int):Bool:=decide (face=(wind+2) % 4)||U2 b s wind
theorem yH{s k:Int×Int}{wind R:Int}(hw:GR wind 0 3=true):GR (kJ s k wind) 1 R=true↔∃i:Nat,(i:Int)<R/\k=DT s wind (i+1):=by
 obtain⟨s1,s2⟩:=s;obtain⟨k1,k2⟩:=k;rw[DU]at hw|-;have:wind=0\/wind=1\/wind=2\/wind=3:=by omega
 rcases this with rfl|rfl|rfl|rfl
 ·simp only[kJ,DT,true_and,if_true,Prod.mk.injEq];constructor
  ·intro h;split at h
   ·exact⟨(s1-k1-1).toNat,by omega,by omega,by omega⟩
   ·simp at h
  ·rintro ⟨i,h1,h2,h3⟩;rw[if_pos h3];omega
 ·simp only[kJ,DT,true_and,if_true,Prod.mk.injEq,show ¬((1:Int)=0) by decide,show ¬((1:Int)=2) by decide,show ¬((1:Int)=3) by decide,false_and,if_false];constructor
  ·intro h;split at h
   ·exact⟨(k2-s2-1).toNat,by omega,by omega,by omega⟩
   ·omega
  ·rintro ⟨i,h1,h2,h3⟩;rw[if_pos h2];omega
 ·simp only[kJ,DT,true_and,if_true,Prod.mk.injEq,show ¬((2:Int)=0) by decide,show ¬((2:Int)=1) by decide,show ¬((2:Int)=3) by decide,false_and,if_false];constructor
  ·intro h;split at h
   ·exact⟨(k1-s1-1).toNat,by omega,by omega,by omega⟩
   ·omega
  ·rintro ⟨i,h1,h2,h3⟩;rw[if_pos h3];omega
 ·simp only[kJ,DT,true_and,if_true,Prod.mk.injEq,show ¬((3:Int)=0) by decide,show ¬((3:Int)=1) by decide,show ¬((3:Int)=2) by decide,false_and,if_false];constructor
  ·intro h;split at h
   ·exact⟨(s2-k2-1).toNat,by omega,by omega,by omega⟩
   ·omega
  ·rintro ⟨i,h1,h2,h3⟩;rw[if_pos h2];omega
theorem tU{b:AM}{s:Int×Int}{wind:Int}(hw:GR wind 0 3=true):U2 b s wind=true↔∃i:Nat,(i:Int)<b.reach/\DT s wind (i+1)∈b.breaks:=by
 unfold U2;rw[bf];constructor
 ·rintro ⟨k,hk,h⟩;obtain⟨i,h1,rfl⟩:=(yH hw).1 h;exact⟨i,h1,hk⟩
 ·rintro ⟨i,h1,h2⟩;exact⟨_,h2,(yH hw).2 ⟨i,h1,rfl⟩⟩
theorem ANC{f w:Int}(hf:GR f 0 3=true)(hw:GR w 0 3=true):((f+2) % 4=w)=(f=(w+2) % 4):=by rw[DU]at hf hw;apply propext;omega
theorem A81{b:AM}{s:Int×Int}{f w:Int}(hf:GR f 0 3=true)(hw:GR w 0 3=true):yG b s f w=U3 b s f w:=by
 unfold yG U3;simp only[ANC hf hw];congr 1;rw[Bool.eq_iff_iff,tU hw,bf];constructor
 ·rintro ⟨i,hi,h⟩;simp only[bf,decide_eq_true_eq]at h;obtain⟨k,hk,rfl⟩:=h;exact⟨i,by have:=cq.1 hi;omega,hk⟩
 ·rintro ⟨i,h1,h2⟩;exact⟨i,cq.2 (by omega),bf.2 ⟨_,h2,by simp⟩⟩
def mS(f:Nat->Bool):Nat->Nat
 |0=>0
 |n+1=>mS f n+(if f n=true then 1 else 0)
theorem PC(f:Nat->Bool):∀n,mS f n<=n
 |0=>cd _
 |n+1=>by have:=PC f n;simp only[mS];split<;>omega
theorem bI{f g:Nat->Bool}:∀{n:Nat},(∀h,h<n->f h=true->g h=true)->mS f n<=mS g n
 |0,_=>cd _
 |n+1,h=>by have:=bI (n:=n) fun j hj=>h j (by omega);have:=h n (by omega);simp only[mS];split<;>split<;>simp_all;all_goals omega
theorem iB{f g:Nat->Bool}{n:Nat}(h:∀j,j<n->f j=g j):mS f n=mS g n :=
 Nat.le_antisymm (bI fun j hj e=>by rw[<-h j hj];exact e) (bI fun j hj e=>by rw[h j hj];exact e)
def NC(b:AM)(plan:List (List Int))(r h:Nat):Bool:=decide (C8 plan h r=b.sun.getD h 0)
structure fN where
 sun:Int
 calm:Int
 good:Int
deriving DecidableEq
def I2(calm:Nat->Bool)(lit:Nat->Bool)(n:Nat):fN:=⟨mS lit n,mS calm n,mS (fun h=>lit h&&calm h) n⟩
def bJ(b:AM)(plan:List (List Int))(t:List Int)(r p h:Nat):Bool:=U3 b (r,p) (C8 plan h r) (t.getD h 0)
def CL(b:AM)(plan:List (List Int))(t:List Int)(r p:Nat):fN:=I2 (bJ b plan t r p) (NC b plan r) t.length
def AHA(b:AM)(plan:List (List Int))(t:List Int)(r p:Nat):fN:=I2 (fun h=>yG b (r,p) (C8 plan h r) (t.getD h 0)) (NC b plan r) t.length
def EX(b:AM)(plan:List (List Int)):Bool:=(plan.all fun l=>decide ((l.length:Int)=b.rows)&&EW l 0)&&decide ((plan.length:Int)=b.last+1)
structure FV(b:AM)(plan:List (List Int)):Prop where
 len:(plan.length:Int)=b.last+1
 row:∀h,h<plan.length->((plan.getD h []).length:Int)=b.rows
 dir:∀h r,h<plan.length->r<(plan.getD h []).length->GR (C8 plan h r) 0 3=true
theorem yI{b:AM}{plan:List (List Int)}(h:EX b plan=true):FV b plan:=by
 simp only[EX,bj,bw,decide_eq_true_eq]at h;obtain⟨h1,h2⟩:=h;refine⟨h2,fun j hj=>?_,fun j r hj hr=>?_⟩
 ·rw[bk,bq hj];exact(h1 _ (bb hj)).1
 ·have:=(h1 _ (bb hj)).2;have e:plan.getD j []=plan[j]:=by rw[bk,bq hj];rfl
  unfold C8;rw[e]at hr|-;rw[bk,bq hr];exact bw.1 this _ (bb hr)
theorem AHB{b:AM}(h:Valid b){j:Nat}(hj:j<b.winds.length){n:Int}(hn:n∈b.winds[j]):GR n 0 3=true:=by have:=bw.1 h.wo _ (bb hj);simp only[GS,bj]at this;exact bw.1 this.1.2 n hn
theorem SJ{b:AM}(h:Valid b){t:List Int}(ht:A2 t b.winds=true){j:Nat}(hj:j<t.length):GR (t.getD j 0) 0 3=true:=by have hl:=C0 ht;rw[bk,bq hj];exact AHB h (by omega) (GJ ht j hj (by omega))
theorem AHC{b:AM}{plan:List (List Int)}{t:List Int}(h:Valid b)(hp:FV b plan)(ht:A2 t b.winds=true){r:Nat}(hr:(r:Int)<b.rows)(p:Nat):CL b plan t r p=AHA b plan t r p:=by
 have hl:=C0 ht;have h1:=hp.len;have h2:=h.wi;have key:∀j,j<t.length->bJ b plan t r p j=yG b (r,p) (C8 plan j r) (t.getD j 0):=fun j hj=>by unfold bJ;have:=hp.row j (by omega);rw[A81 (hp.dir j r (by omega) (by omega)) (SJ h ht hj)]
 unfold CL AHA I2;congr 1
 ·rw[iB key]
 ·rw[iB fun j hj=>by rw[key j hj]]
def AHD(b:AM)(h:Nat)(l:List Int):List Int:=l.filter fun n=>b.notes.all fun x=>!decide (x.1=h)||decide (x.2=n)
def oD(b:AM):Nat->List (List Int)->List (List Int)
 |_,[]=>[]
 |h,l::r=>AHD b h l::oD b (h+1) r
def aw(b:AM):List (List Int):=oD b 0 b.winds
theorem oE(b:AM):∀(h:Nat) (ws:List (List Int)),(oD b h ws).length=ws.length
 |_,[]=>rfl
 |h,l::r=>by simp[oD,oE b (h+1) r]
theorem oF(b:AM):∀(h:Nat) (ws:List (List Int)) (j:Nat) (h1:j<(oD b h ws).length) (h2:j<ws.length),(oD b h ws)[j]=AHD b (h+j) ws[j]
 |h,l::r,0,_,_=>rfl
 |h,l::r,j+1,h1,h2=>by have:=oF b (h+1) r j (by simpa [oD]using h1) (by simpa using h2);simp only[oD,List.getElem_cons_succ,this];rw[show h+1+j=h+(j+1) by omega]
theorem HG(b:AM):(aw b).length=b.winds.length:=oE b 0 _
theorem tV(b:AM)(j:Nat)(h1:j<(aw b).length)(h2:j<b.winds.length):(aw b)[j]=AHD b j b.winds[j]:=by have:=oF b 0 b.winds j h1 h2;rwa [Nat.zero_add]at this
theorem FN{b:AM}(h:Valid b){t:List Int}:DF b t=true↔A2 t (aw b)=true:=by
 unfold DF;rw[bj,bw];have wi:=h.wi;constructor
 ·rintro ⟨h1,h2⟩;have hl:=C0 h1;refine MS (by rw[HG,hl]) fun j j1 j2=>?_;rw[tV b j j2 (by omega)];refine bg.2 ⟨GJ h1 j j1 (by omega),bw.2 fun x hx=>?_⟩;by_cases e:x.1=(j:Int)
  ·have:=h2 x hx;simp only[KQ,atI,e,Int.toNat_natCast,bk,bq j1,Option.getD_some,decide_eq_true_eq]at this;simp[this]
  ·simp[e]
 ·intro h1;have hl:=C0 h1;rw[HG]at hl;refine⟨MS hl fun j j1 j2=>?_,fun x hx=>?_⟩
  ·have:=GJ h1 j j1 (by rw[HG];exact j2);rw[tV b j _ j2]at this;exact(bg.1 this).1
  ·have hn:=bw.1 h.nok x hx;simp only[JV,bj,DU]at hn;obtain⟨⟨n1,n2⟩,_⟩:=hn;have hj:x.1.toNat<t.length:=by omega
   have:=GJ h1 x.1.toNat hj (by rw[HG];omega);rw[tV b _ _ (by omega)]at this;have:=bw.1 (bg.1 this).2 x hx;have e:x.1=((x.1.toNat:Nat):Int):=by omega
   simp only[<-e,decide_true,Bool.not_true,Bool.false_or,decide_eq_true_eq]at this;simp only[KQ,atI,bk,bq hj,Option.getD_some,decide_eq_true_eq];exact this.symm
theorem ABY{b:AM}(h:Valid b):BR b≠[]↔∀l∈aw b,l≠[]:=by
 constructor
 ·intro he l hl;obtain⟨t,ht⟩:=bx _ he;have:=(FN h).1 (E4.1 ht);obtain⟨j,hj,rfl⟩:=cj hl;have:=GJ this j (by rw[C0 this];exact hj) hj;exact cw this
 ·intro ha;have:=SI ha 0;exact cw (E4.2 ((FN h).2 this))
def PD(g:Nat->Int->Int):Nat->List Int->Int
 |_,[]=>0
 |h,x::t=>g h x+PD g (h+1) t
def WQ(g:Nat->Int):Nat->Nat->Int
 |_,0=>0
 |h,n+1=>g h+WQ g (h+1) n
theorem yJ{g:Nat->Int->Int}{lo:Nat->Int}:∀(A:List (List Int)) (h:Nat),(∀j (hj:j<A.length),∀n∈A[j],lo (h+j)<=g (h+j) n)->∀t,A2 t A=true->WQ lo h A.length<=PD g h t
 |[],h,_,[],_=>Int.le_refl _
 |l::r,h,hA,x::t,ht=>by simp only[A2,bj,decide_eq_true_eq]at ht;have h1:=hA 0 (by simp) x ht.1;have h2:=yJ r (h+1) (fun j hj n hn=>by have:=hA (j+1) (by simpa using hj) n hn;rwa [show h+(j+1)=h+1+j by omega]at this) t ht.2;simp only[bc,WQ,PD];simp only[cz]at h1;omega
theorem oG{g:Nat->Int->Int}{hi:Nat->Int}:∀(A:List (List Int)) (h:Nat),(∀j (hj:j<A.length),∀n∈A[j],g (h+j) n<=hi (h+j))->∀t,A2 t A=true->PD g h t<=WQ hi h A.length
 |[],h,_,[],_=>Int.le_refl _
 |l::r,h,hA,x::t,ht=>by simp only[A2,bj,decide_eq_true_eq]at ht;have h1:=hA 0 (by simp) x ht.1;have h2:=oG r (h+1) (fun j hj n hn=>by have:=hA (j+1) (by simpa using hj) n hn;rwa [show h+(j+1)=h+1+j by omega]at this) t ht.2;simp only[bc,WQ,PD];simp only[cz]at h1;omega
theorem tW{g:Nat->Int->Int}{z:Nat->Int}:∀(A:List (List Int)) (h:Nat),(∀j (hj:j<A.length),∃n∈A[j],g (h+j) n=z (h+j))->∃t,A2 t A=true/\PD g h t=WQ z h A.length
 |[],h,_=>⟨[],rfl,rfl⟩
 |l::r,h,hA=>by
  obtain⟨n,hn,he⟩:=hA 0 (by simp);obtain⟨t,ht,hs⟩:=tW r (h+1) fun j hj=>by obtain⟨n,h1,h2⟩:=hA (j+1) (by simpa using hj);exact⟨n,h1,by rwa [show h+(j+1)=h+1+j by omega]at h2⟩
  refine⟨n::t,?_,?_⟩
  ·simp only[A2,bj,decide_eq_true_eq];exact⟨hn,ht⟩
  ·simp only[cz]at he;simp only[bc,WQ,PD,he,hs]
def fO(z:Int)(l:List Int):Int:=l.foldl min z
def fP(z:Int)(l:List Int):Int:=l.foldl max z
theorem yK:∀(l:List Int) (z:Int),fO z l<=z/\∀x∈l,fO z l<=x
 |[],z=>⟨Int.le_refl _,by simp⟩
 |y::l,z=>by
  obtain⟨h1,h2⟩:=yK l (min z y);have:fO z (y::l)=fO (min z y) l:=rfl;rw[this];refine⟨by omega,fun x hx=>?_⟩;rcases bh.1 hx with rfl|hx
  ·omega
  ·exact h2 x hx
theorem oH:∀(l:List Int) (z:Int),fO z l=z\/fO z l∈l
 |[],z=>.inl rfl
 |y::l,z=>by
  have e:fO z (y::l)=fO (min z y) l:=rfl;rw[e];rcases oH l (min z y)with h|h
  ·rw[h];rcases Int.le_total z y with h|h
   ·left;omega
   ·right;rw[show min z y=y by omega];simp
  ·exact .inr (bh.2 (.inr h))
theorem yL:∀(l:List Int) (z:Int),z<=fP z l/\∀x∈l,x<=fP z l
 |[],z=>⟨Int.le_refl _,by simp⟩
 |y::l,z=>by
  obtain⟨h1,h2⟩:=yL l (max z y);have:fP z (y::l)=fP (max z y) l:=rfl;rw[this];refine⟨by omega,fun x hx=>?_⟩;rcases bh.1 hx with rfl|hx
  ·omega
  ·exact h2 x hx
theorem oI:∀(l:List Int) (z:Int),fP z l=z\/fP z l∈l
 |[],z=>.inl rfl
 |y::l,z=>by
  have e:fP z (y::l)=fP (max z y) l:=rfl;rw[e];rcases oI l (max z y)with h|h
  ·rw[h];rcases Int.le_total z y with h|h
   ·right;rw[show max z y=y by omega];simp
   ·left;omega
  ·exact .inr (bh.2 (.inr h))
structure JJ{α:Type}(l:List α)(f:α->Int)(m:Int):Prop where
 le:∀x∈l,m<=f x
 at':∃x∈l,f x=m
structure J3{α:Type}(l:List α)(f:α->Int)(m:Int):Prop where
 le:∀x∈l,f x<=m
 at':∃x∈l,f x=m
theorem JJ.uniq{α:Type}{l:List α}{f:α->Int}{m n:Int}(h:JJ l f m)(h':JJ l f n):m=n:=by obtain⟨x,hx,ex⟩:=h.at';obtain⟨y,hy,ey⟩:=h'.at';have:=h.le y hy;have:=h'.le x hx;omega
theorem J3.uniq{α:Type}{l:List α}{f:α->Int}{m n:Int}(h:J3 l f m)(h':J3 l f n):m=n:=by obtain⟨x,hx,ex⟩:=h.at';obtain⟨y,hy,ey⟩:=h'.at';have:=h.le y hy;have:=h'.le x hx;omega
theorem yM{α:Type}{l:List α}{f:α->Int}{z:Int}(hz:∀x∈l,f x<=z)(hn:l≠[]):JJ l f (fO z (l.map f)):=by
 obtain⟨h1,h2⟩:=yK (l.map f) z;refine⟨fun x hx=>h2 _ (bz hx),?_⟩;rcases oH (l.map f) z with h|h
 ·obtain⟨y,hy⟩:=bx _ hn;have:=h2 _ (bz hy);have:=hz y hy;exact⟨y,hy,by omega⟩
 ·obtain⟨x,hx,e⟩:=bp.1 h;exact⟨x,hx,e⟩
theorem yN{α:Type}{l:List α}{f:α->Int}{z:Int}(hz:∀x∈l,z<=f x)(hn:l≠[]):J3 l f (fP z (l.map f)):=by
 obtain⟨h1,h2⟩:=yL (l.map f) z;refine⟨fun x hx=>h2 _ (bz hx),?_⟩;rcases oI (l.map f) z with h|h
 ·obtain⟨y,hy⟩:=bx _ hn;have:=h2 _ (bz hy);have:=hz y hy;exact⟨y,hy,by omega⟩
 ·obtain⟨x,hx,e⟩:=bp.1 h;exact⟨x,hx,e⟩
theorem AND{b:AM}(h:Valid b)(g:Nat->Int->Int)(lo:Nat->Int)(hlo:∀j (hj:j<(aw b).length),JJ (aw b)[j] (g j) (lo j)):JJ (BR b) (PD g 0) (WQ lo 0 b.winds.length):=by
 refine⟨fun t ht=>?_,?_⟩
 ·have:=yJ (g:=g) (lo:=lo) (aw b) 0 (fun j hj n hn=>by simpa using(hlo j hj).le n hn) t ((FN h).1 (E4.1 ht));rwa [HG]at this
 ·obtain⟨t,h1,h2⟩:=tW (g:=g) (z:=lo) (aw b) 0 fun j hj=>by simpa using(hlo j hj).at'
  rw[HG]at h2;exact⟨t,E4.2 ((FN h).2 h1),h2⟩
theorem ANE{b:AM}(h:Valid b)(g:Nat->Int->Int)(hi:Nat->Int)(hhi:∀j (hj:j<(aw b).length),J3 (aw b)[j] (g j) (hi j)):J3 (BR b) (PD g 0) (WQ hi 0 b.winds.length):=by
 refine⟨fun t ht=>?_,?_⟩
 ·have:=oG (g:=g) (hi:=hi) (aw b) 0 (fun j hj n hn=>by simpa using(hhi j hj).le n hn) t ((FN h).1 (E4.1 ht));rwa [HG]at this
 ·obtain⟨t,h1,h2⟩:=tW (g:=g) (z:=hi) (aw b) 0 fun j hj=>by simpa using(hhi j hj).at'
  rw[HG]at h2;exact⟨t,E4.2 ((FN h).2 h1),h2⟩
theorem yO:∀{l:List Int} {lo:Int},KP l=true->(∀x∈l,lo<=x/\x<=3)->lo<=4->(l.length:Int)<=4-lo
 |[],lo,_,_,h=>by simp;omega
 |[x],lo,_,h,_=>by have:=h x (by simp);simp;omega
 |x::y::r,lo,h,ha,hl=>by
  simp only[KP,bj,decide_eq_true_eq]at h;have hx:=ha x (by simp);have:∀z∈y::r,lo+1<=z/\z<=3:=by
   have key:∀(l:List Int) (y:Int),KP (y::l)=true->∀z∈y::l,y<=z:=by
    intro l;induction l with
    |nil=>intro y _ z hz;simp at hz;omega
    |cons w l ih=>
     intro y hi z hz
     simp only[KP,bj,decide_eq_true_eq]at hi
     rcases bh.1 hz with rfl|hz
     ·omega
     ·have:=ih w hi.2 z hz;omega
   intro z hz;have h1:=key r y h.2 z hz;have h2:=ha z (List.mem_cons_of_mem _ hz);omega
  have h3:=yO h.2 this (by omega);simp only[bc]at h3|-;omega
theorem AHE{l:List Int}(h:GS l=true):1<=l.length/\l.length<=4:=by
 simp only[GS,bj]at h;obtain⟨⟨h1,h2⟩,h3⟩:=h;have:=yO (lo:=0) h3 (fun x hx=>DU.1 (bw.1 h2 x hx)) (by omega);refine⟨?_,by omega⟩;cases l with
 |nil=>simp at h1
 |cons x l=>simp
theorem Valid.wl{b:AM}(h:Valid b):∀l∈b.winds,1<=l.length/\l.length<=4:=fun l hl=>AHE (bw.1 h.wo l hl)
theorem Valid.hl{b:AM}(h:Valid b):b.winds.length<=5:=by have:=h.la;have:=h.wi;omega
theorem yP:∀{ws:List (List Int)},(∀l∈ws,l.length<=4)->GQ ws<=4 ^ ws.length
 |[],_=>cd _
 |l::r,h=>by have h1:=yP (ws:=r) fun l hl=>h l (by simp[hl]);have h2:=h l (by simp);simp only[GQ,bc,Nat.pow_succ];rw[Nat.mul_comm (4 ^ r.length)];exact Nat.mul_le_mul h2 h1
theorem Valid.many{b:AM}(h:Valid b):GQ b.winds<=1024:=by have h1:=yP fun l hl=>(h.wl l hl).2;have h2:4 ^ b.winds.length<=4 ^ 5:=Nat.pow_le_pow_right (by omega) h.hl;omega
def C9(x j:Nat):List Int:=List.map (fun i:Nat=>(i:Int)) ((cm j).filter fun i=>x.testBit i)
theorem I3(x j:Nat):C9 x (j+1)=if x.testBit j=true then C9 x j++[(j:Int)] else C9 x j:=by unfold C9;rw[List.range_succ,List.filter_append,List.map_append];cases hb:x.testBit j<;>simp[hb]
theorem ANF(x j:Nat):decide ((((x / 2 ^ j:Nat):Int).tmod 2)=1)=x.testBit j:=by rw[show((x / 2 ^ j:Nat):Int).tmod 2=((x / 2 ^ j % 2:Nat):Int) from(Int.ofNat_tmod _ 2).symm,Nat.testBit_eq_decide_div_mod_eq];congr 1;exact propext ⟨fun h=>by omega,fun h=>by omega⟩
end Go.Wind
