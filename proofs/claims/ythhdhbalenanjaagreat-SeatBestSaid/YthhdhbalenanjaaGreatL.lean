/- Beaches, their truths and what is so in them, plainly. No condition; no program in sight. -/
open Bool renaming and_eq_true->bj,not_eq_false->bm,or_eq_true->bn,not_eq_true'->cx
open List renaming getD_eq_getElem?_getD->bk,getElem?_eq_getElem->bq,all_eq_true->bw,exists_mem_of_ne_nil->bx,mem_map_of_mem->bz,getElem_mem->bb,length_cons->bc,any_eq_true->bf,mem_filter->bg,mem_cons->bh,mem_map->bp,getElem_of_mem->cj,mem_range->cq,ne_nil_of_mem->cw,range->cm
open Nat renaming add_zero->cz,le_refl->cd
namespace Go.Wind
structure AL where
 last:Int
 rows:Int
 places:Int
 reach:Int
 face:List Int
 sun:List Int
 winds:List (List Int)
 breaks:List (Int×Int)
 notes:List (Int×Int)
def F1(n lo hi:Int):Bool:=decide (lo<=n)&&decide (n<=hi)
theorem C6{n lo hi:Int}:F1 n lo hi=true↔lo<=n/\n<=hi:=by simp[F1]
def F2(b:AL)(s:Int×Int):Bool:=F1 s.1 0 (b.rows-1)&&F1 s.2 0 (b.places-1)
def ER(l:List Int)(lo:Int):Bool:=l.all fun n=>F1 n lo 3
def KH:List Int->Bool
 |[]=>true
 |[_]=>true
 |x::y::r=>decide (x<y)&&KH (y::r)
def GC(l:List Int):Bool:=!l.isEmpty&&ER l 0&&KH l
def JL(b:AL)(x:Int×Int):Bool:=F1 x.1 0 b.last&&F1 x.2 0 3
def D2(b:AL):Int :=
 if (decide (4<b.last)||decide (3<b.rows)||decide (5<b.places)||decide (4<b.breaks.length)||decide (5<b.notes.length))=true then 3
 else if (decide (b.last<0)||decide (b.rows<1)||decide (b.places<1)||!F1 b.reach 0 4||!decide ((b.face.length:Int)=b.rows)||!decide ((b.sun.length:Int)=b.last+1)||!decide ((b.winds.length:Int)=b.last+1)||!ER b.face 0||!ER b.sun (-1))=true then 1
 else if b.winds.all GC=false then 1 else if b.breaks.all (F2 b)=false then 1 else if b.notes.all (JL b)=false then 1 else 0
structure Valid(b:AL):Prop where
 la:0<=b.last/\b.last<=4
 ro:1<=b.rows/\b.rows<=3
 pl:1<=b.places/\b.places<=5
 re:0<=b.reach/\b.reach<=4
 br:b.breaks.length<=4
 no:b.notes.length<=5
 fa:(b.face.length:Int)=b.rows
 su:(b.sun.length:Int)=b.last+1
 wi:(b.winds.length:Int)=b.last+1
 fd:ER b.face 0=true
 sd:ER b.sun (-1)=true
 wo:b.winds.all GC=true
 bo:b.breaks.all (F2 b)=true
 nok:b.notes.all (JL b)=true
theorem UJ{b:AL}(h:D2 b=0):Valid b:=by
 unfold D2 at h;split at h
 ·cases h
 split at h
 ·cases h
 split at h
 ·cases h
 split at h
 ·cases h
 split at h
 ·cases h
 rename_i h1 h2 h3 h4 h5;simp only[bn,decide_eq_true_eq,cx,decide_eq_false_iff_not,not_or,bm]at h1 h2;obtain⟨⟨⟨⟨a1,a2⟩,a3⟩,a4⟩,a5⟩:=h1;obtain⟨⟨⟨⟨⟨⟨⟨⟨c1,c2⟩,c3⟩,c4⟩,c5⟩,c6⟩,c7⟩,c8⟩,c9⟩:=h2;have:=C6.1 c4;simp only[bm]at h3 h4 h5;exact⟨⟨by omega,by omega⟩,⟨by omega,by omega⟩,⟨by omega,by omega⟩,this,by omega,by omega,Classical.not_not.1 c5,Classical.not_not.1 c6,Classical.not_not.1 c7,c8,c9,h3,h4,h5⟩
theorem O7{b:AL}(h:Valid b):D2 b=0:=by
 obtain⟨la,ro,pl,re,br,no,fa,su,wi,fd,sd,wo,bo,nok⟩:=h;unfold D2;rw[if_neg,if_neg,if_neg,if_neg,if_neg]
 ·simp[nok]
 ·simp[bo]
 ·simp[wo]
 ·simp only[bn,decide_eq_true_eq,cx,decide_eq_false_iff_not,not_or,bm];exact⟨⟨⟨⟨⟨⟨⟨⟨by omega,by omega⟩,by omega⟩,C6.2 re⟩,by simpa using fa⟩,by simpa using su⟩,by simpa using wi⟩,fd⟩,sd⟩
 ·simp only[bn,decide_eq_true_eq,not_or];exact⟨⟨⟨⟨by omega,by omega⟩,by omega⟩,by omega⟩,by omega⟩
def GA:List (List Int)->Nat
 |[]=>1
 |l::r=>l.length*GA r
def D7:List (List Int)->Nat->List Int
 |[],_=>[]
 |l::r,n=>l.getD (n % l.length) 0::D7 r (n / l.length)
def XR:List (List Int)->List (List Int)
 |[]=>[[]]
 |l::r=>l.flatMap fun x=>(XR r).map (x::·)
def A4:List Int->List (List Int)->Bool
 |[],[]=>true
 |x::t,l::r=>decide (x∈l)&&A4 t r
 |_,_=>false
theorem C3:∀{t:List Int} {ws:List (List Int)},A4 t ws=true->t.length=ws.length
 |[],[],_=>rfl
 |x::t,l::r,h=>by simp only[A4,bj]at h;simp[C3 h.2]
theorem F3:∀{t:List Int} {ws:List (List Int)},A4 t ws=true->∀h (h1:h<t.length) (h2:h<ws.length),t[h]∈ws[h]
 |x::t,l::r,hh,0,_,_=>by simp only[A4,bj,decide_eq_true_eq]at hh;exact hh.1
 |x::t,l::r,hh,h+1,h1,h2=>by simp only[A4,bj]at hh;simpa using F3 hh.2 h (by simpa using h1) (by simpa using h2)
theorem MK:∀{t:List Int} {ws:List (List Int)},t.length=ws.length->(∀h (h1:h<t.length) (h2:h<ws.length),t[h]∈ws[h])->A4 t ws=true
 |[],[],_,_=>rfl
 |x::t,l::r,hl,h=>by simp only[A4,bj,decide_eq_true_eq];exact⟨h 0 (by simp) (by simp),MK (by simpa using hl) fun j h1 h2=>h (j+1) (by simpa using h1) (by simpa using h2)⟩
theorem QE:∀{ws:List (List Int)} {t:List Int},t∈XR ws↔A4 t ws=true
 |[],t=>by cases t<;>simp[XR,A4]
 |l::r,t=>by
  cases t with
  |nil=>simp[XR,A4]
  |cons x t=>
   simp only[XR,List.mem_flatMap,bp,A4,bj,decide_eq_true_eq]
   constructor
   ·rintro ⟨y,hy,z,hz,e⟩;cases e;exact⟨hy,QE.1 hz⟩
   ·rintro ⟨h1,h2⟩;exact⟨x,h1,t,QE.2 h2,rfl⟩
theorem R3:∀{ws:List (List Int)} (_:∀l∈ws,l≠[]) (n:Nat),A4 (D7 ws n) ws=true
 |[],_,_=>rfl
 |l::r,h,n=>by have hl:0<l.length:=List.length_pos_iff.2 (h l (by simp));simp only[D7,A4,bj,decide_eq_true_eq];have hm:n % l.length<l.length:=Nat.mod_lt _ hl;refine⟨?_,R3 (fun l hl=>h l (by simp[hl])) _⟩;rw[bk,bq hm];exact bb hm
theorem xV:∀{ws:List (List Int)} {t:List Int},A4 t ws=true->∃n,n<GA ws/\D7 ws n=t
 |[],[],_=>⟨0,by simp[GA],rfl⟩
 |l::r,x::t,h=>by
  simp only[A4,bj,decide_eq_true_eq]at h;obtain⟨m,h1,h2⟩:=xV h.2;obtain⟨j,hj,hx⟩:=cj h.1;refine⟨j+l.length*m,?_,?_⟩
  ·simp only[GA];have:l.length*m+l.length<=l.length*GA r:=by rw[<-Nat.mul_succ];exact Nat.mul_le_mul_left _ h1
   omega
  ·have hl:0<l.length:=by omega
   simp only[D7,Nat.add_mul_mod_self_left,Nat.mod_eq_of_lt hj,Nat.add_mul_div_left _ _ hl,Nat.div_eq_of_lt hj,Nat.zero_add,h2];rw[bk,bq hj];simp[hx]
def atI(l:List Int)(h:Int):Int:=l.getD h.toNat 0
def KI(t:List Int)(x:Int×Int):Bool:=decide (atI t x.1=x.2)
def DD(b:AL)(t:List Int):Bool:=A4 t b.winds&&b.notes.all (KI t)
def BS(b:AL):List (List Int):=((cm (GA b.winds)).map (D7 b.winds)).filter (DD b)
theorem Valid.ne{b:AL}(h:Valid b):∀l∈b.winds,l≠[]:=fun l hl e=>by have:=bw.1 h.wo l hl;subst e;simp[GC]at this
theorem EZ{b:AL}{t:List Int}:t∈BS b↔DD b t=true:=by
 unfold BS;rw[bg,bp];constructor
 ·exact fun h=>h.2
 ·intro ht;refine⟨?_,ht⟩;simp only[DD,bj]at ht;obtain⟨n,h1,h2⟩:=xV ht.1;exact⟨n,cq.2 h1,h2⟩
def DA(p:List (List Int))(h r:Nat):Int:=(p.getD h []).getD r 0
def DQ(s:Int×Int)(wind:Int)(j:Int):Int×Int:=if wind=0 then(s.1-j,s.2) else if wind=1 then(s.1,s.2+j) else if wind=2 then(s.1+j,s.2) else if wind=3 then(s.1,s.2-j) else s
def xW(b:AL)(s:Int×Int)(face wind:Int):Bool:=decide ((face+2) % 4=wind)||(cm b.reach.toNat).any fun i=>b.breaks.any fun k=>decide (k=DQ s wind (i+1))
def jV(s k:Int×Int)(wind:Int):Int:=if wind=0/\k.2=s.2 then s.1-k.1 else if wind=2/\k.2=s.2 then k.1-s.1 else if wind=3/\k.1=s.1 then s.2-k.2 else if wind=1/\k.1=s.1 then k.2-s.2 else 0
def UK(b:AL)(s:Int×Int)(wind:Int):Bool:=b.breaks.any fun k=>F1 (jV s k wind) 1 b.reach
def UL(b:AL)(s:Int×Int)(face wind:Int):Bool:=decide (face=(wind+2) % 4)||UK b s wind
theorem xX{s k:Int×Int}{wind R:Int}(hw:F1 wind 0 3=true):F1 (jV s k wind) 1 R=true↔∃i:Nat,(i:Int)<R/\k=DQ s wind (i+1):=by
 obtain⟨s1,s2⟩:=s;obtain⟨k1,k2⟩:=k;rw[C6]at hw|-;have:wind=0\/wind=1\/wind=2\/wind=3:=by omega
 rcases this with rfl|rfl|rfl|rfl
 ·simp only[jV,DQ,true_and,if_true,Prod.mk.injEq];constructor
  ·intro h;split at h
   ·exact⟨(s1-k1-1).toNat,by omega,by omega,by omega⟩
   ·simp at h
  ·rintro ⟨i,h1,h2,h3⟩;rw[if_pos h3];omega
 ·simp only[jV,DQ,true_and,if_true,Prod.mk.injEq,show ¬((1:Int)=0) by decide,show ¬((1:Int)=2) by decide,show ¬((1:Int)=3) by decide,false_and,if_false];constructor
  ·intro h;split at h
   ·exact⟨(k2-s2-1).toNat,by omega,by omega,by omega⟩
   ·omega
  ·rintro ⟨i,h1,h2,h3⟩;rw[if_pos h2];omega
 ·simp only[jV,DQ,true_and,if_true,Prod.mk.injEq,show ¬((2:Int)=0) by decide,show ¬((2:Int)=1) by decide,show ¬((2:Int)=3) by decide,false_and,if_false];constructor
  ·intro h;split at h
   ·exact⟨(k1-s1-1).toNat,by omega,by omega,by omega⟩
   ·omega
  ·rintro ⟨i,h1,h2,h3⟩;rw[if_pos h3];omega
 ·simp only[jV,DQ,true_and,if_true,Prod.mk.injEq,show ¬((3:Int)=0) by decide,show ¬((3:Int)=1) by decide,show ¬((3:Int)=2) by decide,false_and,if_false];constructor
  ·intro h;split at h
   ·exact⟨(s2-k2-1).toNat,by omega,by omega,by omega⟩
   ·omega
  ·rintro ⟨i,h1,h2,h3⟩;rw[if_pos h2];omega
theorem tG{b:AL}{s:Int×Int}{wind:Int}(hw:F1 wind 0 3=true):UK b s wind=true↔∃i:Nat,(i:Int)<b.reach/\DQ s wind (i+1)∈b.breaks:=by
 unfold UK;rw[bf];constructor
 ·rintro ⟨k,hk,h⟩;obtain⟨i,h1,rfl⟩:=(xX hw).1 h;exact⟨i,h1,hk⟩
 ·rintro ⟨i,h1,h2⟩;exact⟨_,h2,(xX hw).2 ⟨i,h1,rfl⟩⟩
theorem AMR{f w:Int}(hf:F1 f 0 3=true)(hw:F1 w 0 3=true):((f+2) % 4=w)=(f=(w+2) % 4):=by rw[C6]at hf hw;apply propext;omega
theorem A6W{b:AL}{s:Int×Int}{f w:Int}(hf:F1 f 0 3=true)(hw:F1 w 0 3=true):xW b s f w=UL b s f w:=by
 unfold xW UL;simp only[AMR hf hw];congr 1;rw[Bool.eq_iff_iff,tG hw,bf];constructor
 ·rintro ⟨i,hi,h⟩;simp only[bf,decide_eq_true_eq]at h;obtain⟨k,hk,rfl⟩:=h;exact⟨i,by have:=cq.1 hi;omega,hk⟩
 ·rintro ⟨i,h1,h2⟩;exact⟨i,cq.2 (by omega),bf.2 ⟨_,h2,by simp⟩⟩
def mE(f:Nat->Bool):Nat->Nat
 |0=>0
 |n+1=>mE f n+(if f n=true then 1 else 0)
theorem O8(f:Nat->Bool):∀n,mE f n<=n
 |0=>cd _
 |n+1=>by have:=O8 f n;simp only[mE];split<;>omega
theorem aT{f g:Nat->Bool}:∀{n:Nat},(∀h,h<n->f h=true->g h=true)->mE f n<=mE g n
 |0,_=>cd _
 |n+1,h=>by have:=aT (n:=n) fun j hj=>h j (by omega);have:=h n (by omega);simp only[mE];split<;>split<;>simp_all;all_goals omega
theorem gP{f g:Nat->Bool}{n:Nat}(h:∀j,j<n->f j=g j):mE f n=mE g n :=
 Nat.le_antisymm (aT fun j hj e=>by rw[<-h j hj];exact e) (aT fun j hj e=>by rw[h j hj];exact e)
def NA(b:AL)(plan:List (List Int))(r h:Nat):Bool:=decide (DA plan h r=b.sun.getD h 0)
structure eY where
 sun:Int
 calm:Int
 good:Int
deriving DecidableEq
def IJ(calm:Nat->Bool)(lit:Nat->Bool)(n:Nat):eY:=⟨mE lit n,mE calm n,mE (fun h=>lit h&&calm h) n⟩
def aU(b:AL)(plan:List (List Int))(t:List Int)(r p h:Nat):Bool:=UL b (r,p) (DA plan h r) (t.getD h 0)
def CG(b:AL)(plan:List (List Int))(t:List Int)(r p:Nat):eY:=IJ (aU b plan t r p) (NA b plan r) t.length
def AGD(b:AL)(plan:List (List Int))(t:List Int)(r p:Nat):eY:=IJ (fun h=>xW b (r,p) (DA plan h r) (t.getD h 0)) (NA b plan r) t.length
def ES(b:AL)(plan:List (List Int)):Bool:=(plan.all fun l=>decide ((l.length:Int)=b.rows)&&ER l 0)&&decide ((plan.length:Int)=b.last+1)
structure FL(b:AL)(plan:List (List Int)):Prop where
 len:(plan.length:Int)=b.last+1
 row:∀h,h<plan.length->((plan.getD h []).length:Int)=b.rows
 dir:∀h r,h<plan.length->r<(plan.getD h []).length->F1 (DA plan h r) 0 3=true
theorem xY{b:AL}{plan:List (List Int)}(h:ES b plan=true):FL b plan:=by
 simp only[ES,bj,bw,decide_eq_true_eq]at h;obtain⟨h1,h2⟩:=h;refine⟨h2,fun j hj=>?_,fun j r hj hr=>?_⟩
 ·rw[bk,bq hj];exact(h1 _ (bb hj)).1
 ·have:=(h1 _ (bb hj)).2;have e:plan.getD j []=plan[j]:=by rw[bk,bq hj];rfl
  unfold DA;rw[e]at hr|-;rw[bk,bq hr];exact bw.1 this _ (bb hr)
theorem AGE{b:AL}(h:Valid b){j:Nat}(hj:j<b.winds.length){n:Int}(hn:n∈b.winds[j]):F1 n 0 3=true:=by have:=bw.1 h.wo _ (bb hj);simp only[GC,bj]at this;exact bw.1 this.1.2 n hn
theorem R4{b:AL}(h:Valid b){t:List Int}(ht:A4 t b.winds=true){j:Nat}(hj:j<t.length):F1 (t.getD j 0) 0 3=true:=by have hl:=C3 ht;rw[bk,bq hj];exact AGE h (by omega) (F3 ht j hj (by omega))
theorem AGF{b:AL}{plan:List (List Int)}{t:List Int}(h:Valid b)(hp:FL b plan)(ht:A4 t b.winds=true){r:Nat}(hr:(r:Int)<b.rows)(p:Nat):CG b plan t r p=AGD b plan t r p:=by
 have hl:=C3 ht;have h1:=hp.len;have h2:=h.wi;have key:∀j,j<t.length->aU b plan t r p j=xW b (r,p) (DA plan j r) (t.getD j 0):=fun j hj=>by unfold aU;have:=hp.row j (by omega);rw[A6W (hp.dir j r (by omega) (by omega)) (R4 h ht hj)]
 unfold CG AGD IJ;congr 1
 ·rw[gP key]
 ·rw[gP fun j hj=>by rw[key j hj]]
def AGG(b:AL)(h:Nat)(l:List Int):List Int:=l.filter fun n=>b.notes.all fun x=>!decide (x.1=h)||decide (x.2=n)
def nV(b:AL):Nat->List (List Int)->List (List Int)
 |_,[]=>[]
 |h,l::r=>AGG b h l::nV b (h+1) r
def aw(b:AL):List (List Int):=nV b 0 b.winds
theorem nW(b:AL):∀(h:Nat) (ws:List (List Int)),(nV b h ws).length=ws.length
 |_,[]=>rfl
 |h,l::r=>by simp[nV,nW b (h+1) r]
theorem nX(b:AL):∀(h:Nat) (ws:List (List Int)) (j:Nat) (h1:j<(nV b h ws).length) (h2:j<ws.length),(nV b h ws)[j]=AGG b (h+j) ws[j]
 |h,l::r,0,_,_=>rfl
 |h,l::r,j+1,h1,h2=>by have:=nX b (h+1) r j (by simpa [nV]using h1) (by simpa using h2);simp only[nV,List.getElem_cons_succ,this];rw[show h+1+j=h+(j+1) by omega]
theorem GQ(b:AL):(aw b).length=b.winds.length:=nW b 0 _
theorem tH(b:AL)(j:Nat)(h1:j<(aw b).length)(h2:j<b.winds.length):(aw b)[j]=AGG b j b.winds[j]:=by have:=nX b 0 b.winds j h1 h2;rwa [Nat.zero_add]at this
theorem FE{b:AL}(h:Valid b){t:List Int}:DD b t=true↔A4 t (aw b)=true:=by
 unfold DD;rw[bj,bw];have wi:=h.wi;constructor
 ·rintro ⟨h1,h2⟩;have hl:=C3 h1;refine MK (by rw[GQ,hl]) fun j j1 j2=>?_;rw[tH b j j2 (by omega)];refine bg.2 ⟨F3 h1 j j1 (by omega),bw.2 fun x hx=>?_⟩;by_cases e:x.1=(j:Int)
  ·have:=h2 x hx;simp only[KI,atI,e,Int.toNat_natCast,bk,bq j1,Option.getD_some,decide_eq_true_eq]at this;simp[this]
  ·simp[e]
 ·intro h1;have hl:=C3 h1;rw[GQ]at hl;refine⟨MK hl fun j j1 j2=>?_,fun x hx=>?_⟩
  ·have:=F3 h1 j j1 (by rw[GQ];exact j2);rw[tH b j _ j2]at this;exact(bg.1 this).1
  ·have hn:=bw.1 h.nok x hx;simp only[JL,bj,C6]at hn;obtain⟨⟨n1,n2⟩,_⟩:=hn;have hj:x.1.toNat<t.length:=by omega
   have:=F3 h1 x.1.toNat hj (by rw[GQ];omega);rw[tH b _ _ (by omega)]at this;have:=bw.1 (bg.1 this).2 x hx;have e:x.1=((x.1.toNat:Nat):Int):=by omega
   simp only[<-e,decide_true,Bool.not_true,Bool.false_or,decide_eq_true_eq]at this;simp only[KI,atI,bk,bq hj,Option.getD_some,decide_eq_true_eq];exact this.symm
theorem ABG{b:AL}(h:Valid b):BS b≠[]↔∀l∈aw b,l≠[]:=by
 constructor
 ·intro he l hl;obtain⟨t,ht⟩:=bx _ he;have:=(FE h).1 (EZ.1 ht);obtain⟨j,hj,rfl⟩:=cj hl;have:=F3 this j (by rw[C3 this];exact hj) hj;exact cw this
 ·intro ha;have:=R3 ha 0;exact cw (EZ.2 ((FE h).2 this))
def O9(g:Nat->Int->Int):Nat->List Int->Int
 |_,[]=>0
 |h,x::t=>g h x+O9 g (h+1) t
def WD(g:Nat->Int):Nat->Nat->Int
 |_,0=>0
 |h,n+1=>g h+WD g (h+1) n
theorem xZ{g:Nat->Int->Int}{lo:Nat->Int}:∀(A:List (List Int)) (h:Nat),(∀j (hj:j<A.length),∀n∈A[j],lo (h+j)<=g (h+j) n)->∀t,A4 t A=true->WD lo h A.length<=O9 g h t
 |[],h,_,[],_=>Int.le_refl _
 |l::r,h,hA,x::t,ht=>by simp only[A4,bj,decide_eq_true_eq]at ht;have h1:=hA 0 (by simp) x ht.1;have h2:=xZ r (h+1) (fun j hj n hn=>by have:=hA (j+1) (by simpa using hj) n hn;rwa [show h+(j+1)=h+1+j by omega]at this) t ht.2;simp only[bc,WD,O9];simp only[cz]at h1;omega
theorem nY{g:Nat->Int->Int}{hi:Nat->Int}:∀(A:List (List Int)) (h:Nat),(∀j (hj:j<A.length),∀n∈A[j],g (h+j) n<=hi (h+j))->∀t,A4 t A=true->O9 g h t<=WD hi h A.length
 |[],h,_,[],_=>Int.le_refl _
 |l::r,h,hA,x::t,ht=>by simp only[A4,bj,decide_eq_true_eq]at ht;have h1:=hA 0 (by simp) x ht.1;have h2:=nY r (h+1) (fun j hj n hn=>by have:=hA (j+1) (by simpa using hj) n hn;rwa [show h+(j+1)=h+1+j by omega]at this) t ht.2;simp only[bc,WD,O9];simp only[cz]at h1;omega
theorem tI{g:Nat->Int->Int}{z:Nat->Int}:∀(A:List (List Int)) (h:Nat),(∀j (hj:j<A.length),∃n∈A[j],g (h+j) n=z (h+j))->∃t,A4 t A=true/\O9 g h t=WD z h A.length
 |[],h,_=>⟨[],rfl,rfl⟩
 |l::r,h,hA=>by
  obtain⟨n,hn,he⟩:=hA 0 (by simp);obtain⟨t,ht,hs⟩:=tI r (h+1) fun j hj=>by obtain⟨n,h1,h2⟩:=hA (j+1) (by simpa using hj);exact⟨n,h1,by rwa [show h+(j+1)=h+1+j by omega]at h2⟩
  refine⟨n::t,?_,?_⟩
  ·simp only[A4,bj,decide_eq_true_eq];exact⟨hn,ht⟩
  ·simp only[cz]at he;simp only[bc,WD,O9,he,hs]
def eZ(z:Int)(l:List Int):Int:=l.foldl min z
def fA(z:Int)(l:List Int):Int:=l.foldl max z
theorem yA:∀(l:List Int) (z:Int),eZ z l<=z/\∀x∈l,eZ z l<=x
 |[],z=>⟨Int.le_refl _,by simp⟩
 |y::l,z=>by
  obtain⟨h1,h2⟩:=yA l (min z y);have:eZ z (y::l)=eZ (min z y) l:=rfl;rw[this];refine⟨by omega,fun x hx=>?_⟩;rcases bh.1 hx with rfl|hx
  ·omega
  ·exact h2 x hx
theorem nZ:∀(l:List Int) (z:Int),eZ z l=z\/eZ z l∈l
 |[],z=>.inl rfl
 |y::l,z=>by
  have e:eZ z (y::l)=eZ (min z y) l:=rfl;rw[e];rcases nZ l (min z y)with h|h
  ·rw[h];rcases Int.le_total z y with h|h
   ·left;omega
   ·right;rw[show min z y=y by omega];simp
  ·exact .inr (bh.2 (.inr h))
theorem yB:∀(l:List Int) (z:Int),z<=fA z l/\∀x∈l,x<=fA z l
 |[],z=>⟨Int.le_refl _,by simp⟩
 |y::l,z=>by
  obtain⟨h1,h2⟩:=yB l (max z y);have:fA z (y::l)=fA (max z y) l:=rfl;rw[this];refine⟨by omega,fun x hx=>?_⟩;rcases bh.1 hx with rfl|hx
  ·omega
  ·exact h2 x hx
theorem oA:∀(l:List Int) (z:Int),fA z l=z\/fA z l∈l
 |[],z=>.inl rfl
 |y::l,z=>by
  have e:fA z (y::l)=fA (max z y) l:=rfl;rw[e];rcases oA l (max z y)with h|h
  ·rw[h];rcases Int.le_total z y with h|h
   ·right;rw[show max z y=y by omega];simp
   ·left;omega
  ·exact .inr (bh.2 (.inr h))
structure I4{α:Type}(l:List α)(f:α->Int)(m:Int):Prop where
 le:∀x∈l,m<=f x
 at':∃x∈l,f x=m
structure JV{α:Type}(l:List α)(f:α->Int)(m:Int):Prop where
 le:∀x∈l,f x<=m
 at':∃x∈l,f x=m
theorem I4.uniq{α:Type}{l:List α}{f:α->Int}{m n:Int}(h:I4 l f m)(h':I4 l f n):m=n:=by obtain⟨x,hx,ex⟩:=h.at';obtain⟨y,hy,ey⟩:=h'.at';have:=h.le y hy;have:=h'.le x hx;omega
theorem JV.uniq{α:Type}{l:List α}{f:α->Int}{m n:Int}(h:JV l f m)(h':JV l f n):m=n:=by obtain⟨x,hx,ex⟩:=h.at';obtain⟨y,hy,ey⟩:=h'.at';have:=h.le y hy;have:=h'.le x hx;omega
theorem yC{α:Type}{l:List α}{f:α->Int}{z:Int}(hz:∀x∈l,f x<=z)(hn:l≠[]):I4 l f (eZ z (l.map f)):=by
 obtain⟨h1,h2⟩:=yA (l.map f) z;refine⟨fun x hx=>h2 _ (bz hx),?_⟩;rcases nZ (l.map f) z with h|h
 ·obtain⟨y,hy⟩:=bx _ hn;have:=h2 _ (bz hy);have:=hz y hy;exact⟨y,hy,by omega⟩
 ·obtain⟨x,hx,e⟩:=bp.1 h;exact⟨x,hx,e⟩
theorem yD{α:Type}{l:List α}{f:α->Int}{z:Int}(hz:∀x∈l,z<=f x)(hn:l≠[]):JV l f (fA z (l.map f)):=by
 obtain⟨h1,h2⟩:=yB (l.map f) z;refine⟨fun x hx=>h2 _ (bz hx),?_⟩;rcases oA (l.map f) z with h|h
 ·obtain⟨y,hy⟩:=bx _ hn;have:=h2 _ (bz hy);have:=hz y hy;exact⟨y,hy,by omega⟩
 ·obtain⟨x,hx,e⟩:=bp.1 h;exact⟨x,hx,e⟩
theorem AMS{b:AL}(h:Valid b)(g:Nat->Int->Int)(lo:Nat->Int)(hlo:∀j (hj:j<(aw b).length),I4 (aw b)[j] (g j) (lo j)):I4 (BS b) (O9 g 0) (WD lo 0 b.winds.length):=by
 refine⟨fun t ht=>?_,?_⟩
 ·have:=xZ (g:=g) (lo:=lo) (aw b) 0 (fun j hj n hn=>by simpa using(hlo j hj).le n hn) t ((FE h).1 (EZ.1 ht));rwa [GQ]at this
 ·obtain⟨t,h1,h2⟩:=tI (g:=g) (z:=lo) (aw b) 0 fun j hj=>by simpa using(hlo j hj).at'
  rw[GQ]at h2;exact⟨t,EZ.2 ((FE h).2 h1),h2⟩
theorem AMT{b:AL}(h:Valid b)(g:Nat->Int->Int)(hi:Nat->Int)(hhi:∀j (hj:j<(aw b).length),JV (aw b)[j] (g j) (hi j)):JV (BS b) (O9 g 0) (WD hi 0 b.winds.length):=by
 refine⟨fun t ht=>?_,?_⟩
 ·have:=nY (g:=g) (hi:=hi) (aw b) 0 (fun j hj n hn=>by simpa using(hhi j hj).le n hn) t ((FE h).1 (EZ.1 ht));rwa [GQ]at this
 ·obtain⟨t,h1,h2⟩:=tI (g:=g) (z:=hi) (aw b) 0 fun j hj=>by simpa using(hhi j hj).at'
  rw[GQ]at h2;exact⟨t,EZ.2 ((FE h).2 h1),h2⟩
theorem yE:∀{l:List Int} {lo:Int},KH l=true->(∀x∈l,lo<=x/\x<=3)->lo<=4->(l.length:Int)<=4-lo
 |[],lo,_,_,h=>by simp;omega
 |[x],lo,_,h,_=>by have:=h x (by simp);simp;omega
 |x::y::r,lo,h,ha,hl=>by
  simp only[KH,bj,decide_eq_true_eq]at h;have hx:=ha x (by simp);have:∀z∈y::r,lo+1<=z/\z<=3:=by
   have key:∀(l:List Int) (y:Int),KH (y::l)=true->∀z∈y::l,y<=z:=by
    intro l;induction l with
    |nil=>intro y _ z hz;simp at hz;omega
    |cons w l ih=>
     intro y hi z hz
     simp only[KH,bj,decide_eq_true_eq]at hi
     rcases bh.1 hz with rfl|hz
     ·omega
     ·have:=ih w hi.2 z hz;omega
   intro z hz;have h1:=key r y h.2 z hz;have h2:=ha z (List.mem_cons_of_mem _ hz);omega
  have h3:=yE h.2 this (by omega);simp only[bc]at h3|-;omega
theorem AGH{l:List Int}(h:GC l=true):1<=l.length/\l.length<=4:=by
 simp only[GC,bj]at h;obtain⟨⟨h1,h2⟩,h3⟩:=h;have:=yE (lo:=0) h3 (fun x hx=>C6.1 (bw.1 h2 x hx)) (by omega);refine⟨?_,by omega⟩;cases l with
 |nil=>simp at h1
 |cons x l=>simp
theorem Valid.wl{b:AL}(h:Valid b):∀l∈b.winds,1<=l.length/\l.length<=4:=fun l hl=>AGH (bw.1 h.wo l hl)
theorem Valid.hl{b:AL}(h:Valid b):b.winds.length<=5:=by have:=h.la;have:=h.wi;omega
theorem yF:∀{ws:List (List Int)},(∀l∈ws,l.length<=4)->GA ws<=4 ^ ws.length
 |[],_=>cd _
 |l::r,h=>by have h1:=yF (ws:=r) fun l hl=>h l (by simp[hl]);have h2:=h l (by simp);simp only[GA,bc,Nat.pow_succ];rw[Nat.mul_comm (4 ^ r.length)];exact Nat.mul_le_mul h2 h1
theorem Valid.many{b:AL}(h:Valid b):GA b.winds<=1024:=by have h1:=yF fun l hl=>(h.wl l hl).2;have h2:4 ^ b.winds.length<=4 ^ 5:=Nat.pow_le_pow_right (by omega) h.hl;omega
def G4(x j:Nat):List Int:=List.map (fun i:Nat=>(i:Int)) ((cm j).filter fun i=>x.testBit i)
theorem AMU(x j:Nat):decide ((((x / 2 ^ j:Nat):Int).tmod 2)=1)=x.testBit j:=by rw[show((x / 2 ^ j:Nat):Int).tmod 2=((x / 2 ^ j % 2:Nat):Int) from(Int.ofNat_tmod _ 2).symm,Nat.testBit_eq_decide_div_mod_eq];congr 1;exact propext ⟨fun h=>by omega,fun h=>by omega⟩
end Go.Wind
