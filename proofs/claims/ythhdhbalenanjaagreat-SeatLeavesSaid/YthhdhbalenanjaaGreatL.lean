/- Beaches, their truths and what is so in them, plainly. No condition; no program in sight. -/
open Bool renaming and_eq_true->bj,not_eq_false->bm,or_eq_true->bp,not_eq_true'->cx
open List renaming getD_eq_getElem?_getD->bk,getElem?_eq_getElem->bq,all_eq_true->bw,exists_mem_of_ne_nil->bx,mem_map_of_mem->bz,getElem_mem->bb,length_cons->bc,any_eq_true->bf,mem_filter->bg,mem_cons->bh,mem_map->bt,getElem_of_mem->cj,mem_range->cq,ne_nil_of_mem->cw,range->cg
open Nat renaming pow_le_pow_right->bn,add_zero->cz,le_refl->cd
namespace Go.Wind
structure AK where
 last:Int
 rows:Int
 places:Int
 reach:Int
 face:List Int
 sun:List Int
 winds:List (List Int)
 breaks:List (Int×Int)
 notes:List (Int×Int)
def GA(n lo hi:Int):Bool:=decide (lo<=n)&&decide (n<=hi)
theorem DI{n lo hi:Int}:GA n lo hi=true↔lo<=n/\n<=hi:=by simp[GA]
def FY(b:AK)(s:Int×Int):Bool:=GA s.1 0 (b.rows-1)&&GA s.2 0 (b.places-1)
def EF(l:List Int)(lo:Int):Bool:=l.all fun n=>GA n lo 3
def J0:List Int->Bool
 |[]=>true
 |[_]=>true
 |x::y::r=>decide (x<y)&&J0 (y::r)
def GB(l:List Int):Bool:=!l.isEmpty&&EF l 0&&J0 l
def JA(b:AK)(x:Int×Int):Bool:=GA x.1 0 b.last&&GA x.2 0 3
def DU(b:AK):Int :=
 if (decide (4<b.last)||decide (3<b.rows)||decide (5<b.places)||decide (4<b.breaks.length)||decide (5<b.notes.length))=true then 3
 else if (decide (b.last<0)||decide (b.rows<1)||decide (b.places<1)||!GA b.reach 0 4||!decide ((b.face.length:Int)=b.rows)||!decide ((b.sun.length:Int)=b.last+1)||!decide ((b.winds.length:Int)=b.last+1)||!EF b.face 0||!EF b.sun (-1))=true then 1
 else if b.winds.all GB=false then 1 else if b.breaks.all (FY b)=false then 1 else if b.notes.all (JA b)=false then 1 else 0
structure Valid(b:AK):Prop where
 la:0<=b.last/\b.last<=4
 ro:1<=b.rows/\b.rows<=3
 pl:1<=b.places/\b.places<=5
 re:0<=b.reach/\b.reach<=4
 br:b.breaks.length<=4
 no:b.notes.length<=5
 fa:(b.face.length:Int)=b.rows
 su:(b.sun.length:Int)=b.last+1
 wi:(b.winds.length:Int)=b.last+1
 fd:EF b.face 0=true
 sd:EF b.sun (-1)=true
 wo:b.winds.all GB=true
 bo:b.breaks.all (FY b)=true
 nok:b.notes.all (JA b)=true
theorem TO{b:AK}(h:DU b=0):Valid b:=by
 unfold DU at h;split at h
 ·cases h
 split at h
 ·cases h
 split at h
 ·cases h
 split at h
 ·cases h
 split at h
 ·cases h
 rename_i h1 h2 h3 h4 h5;simp only[bp,decide_eq_true_eq,cx,decide_eq_false_iff_not,not_or,bm]at h1 h2;obtain⟨⟨⟨⟨a1,a2⟩,a3⟩,a4⟩,a5⟩:=h1;obtain⟨⟨⟨⟨⟨⟨⟨⟨c1,c2⟩,c3⟩,c4⟩,c5⟩,c6⟩,c7⟩,c8⟩,c9⟩:=h2;have:=DI.1 c4;simp only[bm]at h3 h4 h5;exact⟨⟨by omega,by omega⟩,⟨by omega,by omega⟩,⟨by omega,by omega⟩,this,by omega,by omega,Classical.not_not.1 c5,Classical.not_not.1 c6,Classical.not_not.1 c7,c8,c9,h3,h4,h5⟩
theorem OH{b:AK}(h:Valid b):DU b=0:=by
 obtain⟨la,ro,pl,re,br,no,fa,su,wi,fd,sd,wo,bo,nok⟩:=h;unfold DU;rw[if_neg,if_neg,if_neg,if_neg,if_neg]
 ·simp[nok]
 ·simp[bo]
 ·simp[wo]
 ·simp only[bp,decide_eq_true_eq,cx,decide_eq_false_iff_not,not_or,bm];exact⟨⟨⟨⟨⟨⟨⟨⟨by omega,by omega⟩,by omega⟩,DI.2 re⟩,by simpa using fa⟩,by simpa using su⟩,by simpa using wi⟩,fd⟩,sd⟩
 ·simp only[bp,decide_eq_true_eq,not_or];exact⟨⟨⟨⟨by omega,by omega⟩,by omega⟩,by omega⟩,by omega⟩
def F7:List (List Int)->Nat
 |[]=>1
 |l::r=>l.length*F7 r
def DY:List (List Int)->Nat->List Int
 |[],_=>[]
 |l::r,n=>l.getD (n % l.length) 0::DY r (n / l.length)
def W9:List (List Int)->List (List Int)
 |[]=>[[]]
 |l::r=>l.flatMap fun x=>(W9 r).map (x::·)
def A1:List Int->List (List Int)->Bool
 |[],[]=>true
 |x::t,l::r=>decide (x∈l)&&A1 t r
 |_,_=>false
theorem CP:∀{t:List Int} {ws:List (List Int)},A1 t ws=true->t.length=ws.length
 |[],[],_=>rfl
 |x::t,l::r,h=>by simp only[A1,bj]at h;simp[CP h.2]
theorem FZ:∀{t:List Int} {ws:List (List Int)},A1 t ws=true->∀h (h1:h<t.length) (h2:h<ws.length),t[h]∈ws[h]
 |x::t,l::r,hh,0,_,_=>by simp only[A1,bj,decide_eq_true_eq]at hh;exact hh.1
 |x::t,l::r,hh,h+1,h1,h2=>by simp only[A1,bj]at hh;simpa using FZ hh.2 h (by simpa using h1) (by simpa using h2)
theorem LY:∀{t:List Int} {ws:List (List Int)},t.length=ws.length->(∀h (h1:h<t.length) (h2:h<ws.length),t[h]∈ws[h])->A1 t ws=true
 |[],[],_,_=>rfl
 |x::t,l::r,hl,h=>by simp only[A1,bj,decide_eq_true_eq];exact⟨h 0 (by simp) (by simp),LY (by simpa using hl) fun j h1 h2=>h (j+1) (by simpa using h1) (by simpa using h2)⟩
theorem PK:∀{ws:List (List Int)} {t:List Int},t∈W9 ws↔A1 t ws=true
 |[],t=>by cases t<;>simp[W9,A1]
 |l::r,t=>by
  cases t with
  |nil=>simp[W9,A1]
  |cons x t=>
   simp only[W9,List.mem_flatMap,bt,A1,bj,decide_eq_true_eq]
   constructor
   ·rintro ⟨y,hy,z,hz,e⟩;cases e;exact⟨hy,PK.1 hz⟩
   ·rintro ⟨h1,h2⟩;exact⟨x,h1,t,PK.2 h2,rfl⟩
theorem Q1:∀{ws:List (List Int)} (_:∀l∈ws,l≠[]) (n:Nat),A1 (DY ws n) ws=true
 |[],_,_=>rfl
 |l::r,h,n=>by have hl:0<l.length:=List.length_pos_iff.2 (h l (by simp));simp only[DY,A1,bj,decide_eq_true_eq];have hm:n % l.length<l.length:=Nat.mod_lt _ hl;refine⟨?_,Q1 (fun l hl=>h l (by simp[hl])) _⟩;rw[bk,bq hm];exact bb hm
theorem wM:∀{ws:List (List Int)} {t:List Int},A1 t ws=true->∃n,n<F7 ws/\DY ws n=t
 |[],[],_=>⟨0,by simp[F7],rfl⟩
 |l::r,x::t,h=>by
  simp only[A1,bj,decide_eq_true_eq]at h;obtain⟨m,h1,h2⟩:=wM h.2;obtain⟨j,hj,hx⟩:=cj h.1;refine⟨j+l.length*m,?_,?_⟩
  ·simp only[F7];have:l.length*m+l.length<=l.length*F7 r:=by rw[<-Nat.mul_succ];exact Nat.mul_le_mul_left _ h1
   omega
  ·have hl:0<l.length:=by omega
   simp only[DY,Nat.add_mul_mod_self_left,Nat.mod_eq_of_lt hj,Nat.add_mul_div_left _ _ hl,Nat.div_eq_of_lt hj,Nat.zero_add,h2];rw[bk,bq hj];simp[hx]
def atI(l:List Int)(h:Int):Int:=l.getD h.toNat 0
def J1(t:List Int)(x:Int×Int):Bool:=decide (atI t x.1=x.2)
def C0(b:AK)(t:List Int):Bool:=A1 t b.winds&&b.notes.all (J1 t)
def BL(b:AK):List (List Int):=((cg (F7 b.winds)).map (DY b.winds)).filter (C0 b)
theorem Valid.ne{b:AK}(h:Valid b):∀l∈b.winds,l≠[]:=fun l hl e=>by have:=bw.1 h.wo l hl;subst e;simp[GB]at this
theorem EL{b:AK}{t:List Int}:t∈BL b↔C0 b t=true:=by
 unfold BL;rw[bg,bt];constructor
 ·exact fun h=>h.2
 ·intro ht;refine⟨?_,ht⟩;simp only[C0,bj]at ht;obtain⟨n,h1,h2⟩:=wM ht.1;exact⟨n,cq.2 h1,h2⟩
def CW(p:List (List Int))(h r:Nat):Int:=(p.getD h []).getD r 0
def DG(s:Int×Int)(wind:Int)(j:Int):Int×Int:=if wind=0 then(s.1-j,s.2) else if wind=1 then(s.1,s.2+j) else if wind=2 then(s.1+j,s.2) else if wind=3 then(s.1,s.2-j) else s
def wN(b:AK)(s:Int×Int)(face wind:Int):Bool:=decide ((face+2) % 4=wind)||(cg b.reach.toNat).any fun i=>b.breaks.any fun k=>decide (k=DG s wind (i+1))
def jE(s k:Int×Int)(wind:Int):Int:=if wind=0/\k.2=s.2 then s.1-k.1 else if wind=2/\k.2=s.2 then k.1-s.1 else if wind=3/\k.1=s.1 then s.2-k.2 else if wind=1/\k.1=s.1 then k.2-s.2 else 0
def TP(b:AK)(s:Int×Int)(wind:Int):Bool:=b.breaks.any fun k=>GA (jE s k wind) 1 b.reach
def TQ(b:AK)(s:Int×Int)(face wind:Int):Bool:=decide (face=(wind+2) % 4)||TP b s wind
theorem wO{s k:Int×Int}{wind R:Int}(hw:GA wind 0 3=true):GA (jE s k wind) 1 R=true↔∃i:Nat,(i:Int)<R/\k=DG s wind (i+1):=by
 obtain⟨s1,s2⟩:=s;obtain⟨k1,k2⟩:=k;rw[DI]at hw|-;have:wind=0\/wind=1\/wind=2\/wind=3:=by omega
 rcases this with rfl|rfl|rfl|rfl
 ·simp only[jE,DG,true_and,if_true,Prod.mk.injEq];constructor
  ·intro h;split at h
   ·exact⟨(s1-k1-1).toNat,by omega,by omega,by omega⟩
   ·simp at h
  ·rintro ⟨i,h1,h2,h3⟩;rw[if_pos h3];omega
 ·simp only[jE,DG,true_and,if_true,Prod.mk.injEq,show ¬((1:Int)=0) by decide,show ¬((1:Int)=2) by decide,show ¬((1:Int)=3) by decide,false_and,if_false];constructor
  ·intro h;split at h
   ·exact⟨(k2-s2-1).toNat,by omega,by omega,by omega⟩
   ·omega
  ·rintro ⟨i,h1,h2,h3⟩;rw[if_pos h2];omega
 ·simp only[jE,DG,true_and,if_true,Prod.mk.injEq,show ¬((2:Int)=0) by decide,show ¬((2:Int)=1) by decide,show ¬((2:Int)=3) by decide,false_and,if_false];constructor
  ·intro h;split at h
   ·exact⟨(k1-s1-1).toNat,by omega,by omega,by omega⟩
   ·omega
  ·rintro ⟨i,h1,h2,h3⟩;rw[if_pos h3];omega
 ·simp only[jE,DG,true_and,if_true,Prod.mk.injEq,show ¬((3:Int)=0) by decide,show ¬((3:Int)=1) by decide,show ¬((3:Int)=2) by decide,false_and,if_false];constructor
  ·intro h;split at h
   ·exact⟨(s2-k2-1).toNat,by omega,by omega,by omega⟩
   ·omega
  ·rintro ⟨i,h1,h2,h3⟩;rw[if_pos h2];omega
theorem sJ{b:AK}{s:Int×Int}{wind:Int}(hw:GA wind 0 3=true):TP b s wind=true↔∃i:Nat,(i:Int)<b.reach/\DG s wind (i+1)∈b.breaks:=by
 unfold TP;rw[bf];constructor
 ·rintro ⟨k,hk,h⟩;obtain⟨i,h1,rfl⟩:=(wO hw).1 h;exact⟨i,h1,hk⟩
 ·rintro ⟨i,h1,h2⟩;exact⟨_,h2,(wO hw).2 ⟨i,h1,rfl⟩⟩
theorem AL0{f w:Int}(hf:GA f 0 3=true)(hw:GA w 0 3=true):((f+2) % 4=w)=(f=(w+2) % 4):=by rw[DI]at hf hw;apply propext;omega
theorem A5K{b:AK}{s:Int×Int}{f w:Int}(hf:GA f 0 3=true)(hw:GA w 0 3=true):wN b s f w=TQ b s f w:=by
 unfold wN TQ;simp only[AL0 hf hw];congr 1;rw[Bool.eq_iff_iff,sJ hw,bf];constructor
 ·rintro ⟨i,hi,h⟩;simp only[bf,decide_eq_true_eq]at h;obtain⟨k,hk,rfl⟩:=h;exact⟨i,by have:=cq.1 hi;omega,hk⟩
 ·rintro ⟨i,h1,h2⟩;exact⟨i,cq.2 (by omega),bf.2 ⟨_,h2,by simp⟩⟩
def lN(f:Nat->Bool):Nat->Nat
 |0=>0
 |n+1=>lN f n+(if f n=true then 1 else 0)
theorem OI(f:Nat->Bool):∀n,lN f n<=n
 |0=>cd _
 |n+1=>by have:=OI f n;simp only[lN];split<;>omega
theorem aK{f g:Nat->Bool}:∀{n:Nat},(∀h,h<n->f h=true->g h=true)->lN f n<=lN g n
 |0,_=>cd _
 |n+1,h=>by have:=aK (n:=n) fun j hj=>h j (by omega);have:=h n (by omega);simp only[lN];split<;>split<;>simp_all;all_goals omega
theorem fY{f g:Nat->Bool}{n:Nat}(h:∀j,j<n->f j=g j):lN f n=lN g n :=
 Nat.le_antisymm (aK fun j hj e=>by rw[<-h j hj];exact e) (aK fun j hj e=>by rw[h j hj];exact e)
def MO(b:AK)(plan:List (List Int))(r h:Nat):Bool:=decide (CW plan h r=b.sun.getD h 0)
structure eL where
 sun:Int
 calm:Int
 good:Int
deriving DecidableEq
def H9(calm:Nat->Bool)(lit:Nat->Bool)(n:Nat):eL:=⟨lN lit n,lN calm n,lN (fun h=>lit h&&calm h) n⟩
def aL(b:AK)(plan:List (List Int))(t:List Int)(r p h:Nat):Bool:=TQ b (r,p) (CW plan h r) (t.getD h 0)
def CC(b:AK)(plan:List (List Int))(t:List Int)(r p:Nat):eL:=H9 (aL b plan t r p) (MO b plan r) t.length
def AFL(b:AK)(plan:List (List Int))(t:List Int)(r p:Nat):eL:=H9 (fun h=>wN b (r,p) (CW plan h r) (t.getD h 0)) (MO b plan r) t.length
def EG(b:AK)(plan:List (List Int)):Bool:=(plan.all fun l=>decide ((l.length:Int)=b.rows)&&EF l 0)&&decide ((plan.length:Int)=b.last+1)
structure FC(b:AK)(plan:List (List Int)):Prop where
 len:(plan.length:Int)=b.last+1
 row:∀h,h<plan.length->((plan.getD h []).length:Int)=b.rows
 dir:∀h r,h<plan.length->r<(plan.getD h []).length->GA (CW plan h r) 0 3=true
theorem wP{b:AK}{plan:List (List Int)}(h:EG b plan=true):FC b plan:=by
 simp only[EG,bj,bw,decide_eq_true_eq]at h;obtain⟨h1,h2⟩:=h;refine⟨h2,fun j hj=>?_,fun j r hj hr=>?_⟩
 ·rw[bk,bq hj];exact(h1 _ (bb hj)).1
 ·have:=(h1 _ (bb hj)).2;have e:plan.getD j []=plan[j]:=by rw[bk,bq hj];rfl
  unfold CW;rw[e]at hr|-;rw[bk,bq hr];exact bw.1 this _ (bb hr)
theorem AFM{b:AK}(h:Valid b){j:Nat}(hj:j<b.winds.length){n:Int}(hn:n∈b.winds[j]):GA n 0 3=true:=by have:=bw.1 h.wo _ (bb hj);simp only[GB,bj]at this;exact bw.1 this.1.2 n hn
theorem Q2{b:AK}(h:Valid b){t:List Int}(ht:A1 t b.winds=true){j:Nat}(hj:j<t.length):GA (t.getD j 0) 0 3=true:=by have hl:=CP ht;rw[bk,bq hj];exact AFM h (by omega) (FZ ht j hj (by omega))
theorem AFN{b:AK}{plan:List (List Int)}{t:List Int}(h:Valid b)(hp:FC b plan)(ht:A1 t b.winds=true){r:Nat}(hr:(r:Int)<b.rows)(p:Nat):CC b plan t r p=AFL b plan t r p:=by
 have hl:=CP ht;have h1:=hp.len;have h2:=h.wi;have key:∀j,j<t.length->aL b plan t r p j=wN b (r,p) (CW plan j r) (t.getD j 0):=fun j hj=>by unfold aL;have:=hp.row j (by omega);rw[A5K (hp.dir j r (by omega) (by omega)) (Q2 h ht hj)]
 unfold CC AFL H9;congr 1
 ·rw[fY key]
 ·rw[fY fun j hj=>by rw[key j hj]]
def AFO(b:AK)(h:Nat)(l:List Int):List Int:=l.filter fun n=>b.notes.all fun x=>!decide (x.1=h)||decide (x.2=n)
def mW(b:AK):Nat->List (List Int)->List (List Int)
 |_,[]=>[]
 |h,l::r=>AFO b h l::mW b (h+1) r
def aw(b:AK):List (List Int):=mW b 0 b.winds
theorem mX(b:AK):∀(h:Nat) (ws:List (List Int)),(mW b h ws).length=ws.length
 |_,[]=>rfl
 |h,l::r=>by simp[mW,mX b (h+1) r]
theorem mY(b:AK):∀(h:Nat) (ws:List (List Int)) (j:Nat) (h1:j<(mW b h ws).length) (h2:j<ws.length),(mW b h ws)[j]=AFO b (h+j) ws[j]
 |h,l::r,0,_,_=>rfl
 |h,l::r,j+1,h1,h2=>by have:=mY b (h+1) r j (by simpa [mW]using h1) (by simpa using h2);simp only[mW,List.getElem_cons_succ,this];rw[show h+1+j=h+(j+1) by omega]
theorem GL(b:AK):(aw b).length=b.winds.length:=mX b 0 _
theorem sK(b:AK)(j:Nat)(h1:j<(aw b).length)(h2:j<b.winds.length):(aw b)[j]=AFO b j b.winds[j]:=by have:=mY b 0 b.winds j h1 h2;rwa [Nat.zero_add]at this
theorem E6{b:AK}(h:Valid b){t:List Int}:C0 b t=true↔A1 t (aw b)=true:=by
 unfold C0;rw[bj,bw];have wi:=h.wi;constructor
 ·rintro ⟨h1,h2⟩;have hl:=CP h1;refine LY (by rw[GL,hl]) fun j j1 j2=>?_;rw[sK b j j2 (by omega)];refine bg.2 ⟨FZ h1 j j1 (by omega),bw.2 fun x hx=>?_⟩;by_cases e:x.1=(j:Int)
  ·have:=h2 x hx;simp only[J1,atI,e,Int.toNat_natCast,bk,bq j1,Option.getD_some,decide_eq_true_eq]at this;simp[this]
  ·simp[e]
 ·intro h1;have hl:=CP h1;rw[GL]at hl;refine⟨LY hl fun j j1 j2=>?_,fun x hx=>?_⟩
  ·have:=FZ h1 j j1 (by rw[GL];exact j2);rw[sK b j _ j2]at this;exact(bg.1 this).1
  ·have hn:=bw.1 h.nok x hx;simp only[JA,bj,DI]at hn;obtain⟨⟨n1,n2⟩,_⟩:=hn;have hj:x.1.toNat<t.length:=by omega
   have:=FZ h1 x.1.toNat hj (by rw[GL];omega);rw[sK b _ _ (by omega)]at this;have:=bw.1 (bg.1 this).2 x hx;have e:x.1=((x.1.toNat:Nat):Int):=by omega
   simp only[<-e,decide_true,Bool.not_true,Bool.false_or,decide_eq_true_eq]at this;simp only[J1,atI,bk,bq hj,Option.getD_some,decide_eq_true_eq];exact this.symm
theorem AAF{b:AK}(h:Valid b):BL b≠[]↔∀l∈aw b,l≠[]:=by
 constructor
 ·intro he l hl;obtain⟨t,ht⟩:=bx _ he;have:=(E6 h).1 (EL.1 ht);obtain⟨j,hj,rfl⟩:=cj hl;have:=FZ this j (by rw[CP this];exact hj) hj;exact cw this
 ·intro ha;have:=Q1 ha 0;exact cw (EL.2 ((E6 h).2 this))
def OJ(g:Nat->Int->Int):Nat->List Int->Int
 |_,[]=>0
 |h,x::t=>g h x+OJ g (h+1) t
def VO(g:Nat->Int):Nat->Nat->Int
 |_,0=>0
 |h,n+1=>g h+VO g (h+1) n
theorem wQ{g:Nat->Int->Int}{lo:Nat->Int}:∀(A:List (List Int)) (h:Nat),(∀j (hj:j<A.length),∀n∈A[j],lo (h+j)<=g (h+j) n)->∀t,A1 t A=true->VO lo h A.length<=OJ g h t
 |[],h,_,[],_=>Int.le_refl _
 |l::r,h,hA,x::t,ht=>by simp only[A1,bj,decide_eq_true_eq]at ht;have h1:=hA 0 (by simp) x ht.1;have h2:=wQ r (h+1) (fun j hj n hn=>by have:=hA (j+1) (by simpa using hj) n hn;rwa [show h+(j+1)=h+1+j by omega]at this) t ht.2;simp only[bc,VO,OJ];simp only[cz]at h1;omega
theorem mZ{g:Nat->Int->Int}{hi:Nat->Int}:∀(A:List (List Int)) (h:Nat),(∀j (hj:j<A.length),∀n∈A[j],g (h+j) n<=hi (h+j))->∀t,A1 t A=true->OJ g h t<=VO hi h A.length
 |[],h,_,[],_=>Int.le_refl _
 |l::r,h,hA,x::t,ht=>by simp only[A1,bj,decide_eq_true_eq]at ht;have h1:=hA 0 (by simp) x ht.1;have h2:=mZ r (h+1) (fun j hj n hn=>by have:=hA (j+1) (by simpa using hj) n hn;rwa [show h+(j+1)=h+1+j by omega]at this) t ht.2;simp only[bc,VO,OJ];simp only[cz]at h1;omega
theorem sM{g:Nat->Int->Int}{z:Nat->Int}:∀(A:List (List Int)) (h:Nat),(∀j (hj:j<A.length),∃n∈A[j],g (h+j) n=z (h+j))->∃t,A1 t A=true/\OJ g h t=VO z h A.length
 |[],h,_=>⟨[],rfl,rfl⟩
 |l::r,h,hA=>by
  obtain⟨n,hn,he⟩:=hA 0 (by simp);obtain⟨t,ht,hs⟩:=sM r (h+1) fun j hj=>by obtain⟨n,h1,h2⟩:=hA (j+1) (by simpa using hj);exact⟨n,h1,by rwa [show h+(j+1)=h+1+j by omega]at h2⟩
  refine⟨n::t,?_,?_⟩
  ·simp only[A1,bj,decide_eq_true_eq];exact⟨hn,ht⟩
  ·simp only[cz]at he;simp only[bc,VO,OJ,he,hs]
def eM(z:Int)(l:List Int):Int:=l.foldl min z
def eN(z:Int)(l:List Int):Int:=l.foldl max z
theorem wR:∀(l:List Int) (z:Int),eM z l<=z/\∀x∈l,eM z l<=x
 |[],z=>⟨Int.le_refl _,by simp⟩
 |y::l,z=>by
  obtain⟨h1,h2⟩:=wR l (min z y);have:eM z (y::l)=eM (min z y) l:=rfl;rw[this];refine⟨by omega,fun x hx=>?_⟩;rcases bh.1 hx with rfl|hx
  ·omega
  ·exact h2 x hx
theorem nA:∀(l:List Int) (z:Int),eM z l=z\/eM z l∈l
 |[],z=>.inl rfl
 |y::l,z=>by
  have e:eM z (y::l)=eM (min z y) l:=rfl;rw[e];rcases nA l (min z y)with h|h
  ·rw[h];rcases Int.le_total z y with h|h
   ·left;omega
   ·right;rw[show min z y=y by omega];simp
  ·exact .inr (bh.2 (.inr h))
theorem wS:∀(l:List Int) (z:Int),z<=eN z l/\∀x∈l,x<=eN z l
 |[],z=>⟨Int.le_refl _,by simp⟩
 |y::l,z=>by
  obtain⟨h1,h2⟩:=wS l (max z y);have:eN z (y::l)=eN (max z y) l:=rfl;rw[this];refine⟨by omega,fun x hx=>?_⟩;rcases bh.1 hx with rfl|hx
  ·omega
  ·exact h2 x hx
theorem nB:∀(l:List Int) (z:Int),eN z l=z\/eN z l∈l
 |[],z=>.inl rfl
 |y::l,z=>by
  have e:eN z (y::l)=eN (max z y) l:=rfl;rw[e];rcases nB l (max z y)with h|h
  ·rw[h];rcases Int.le_total z y with h|h
   ·right;rw[show max z y=y by omega];simp
   ·left;omega
  ·exact .inr (bh.2 (.inr h))
structure IY{α:Type}(l:List α)(f:α->Int)(m:Int):Prop where
 le:∀x∈l,m<=f x
 at':∃x∈l,f x=m
structure JJ{α:Type}(l:List α)(f:α->Int)(m:Int):Prop where
 le:∀x∈l,f x<=m
 at':∃x∈l,f x=m
theorem IY.uniq{α:Type}{l:List α}{f:α->Int}{m n:Int}(h:IY l f m)(h':IY l f n):m=n:=by obtain⟨x,hx,ex⟩:=h.at';obtain⟨y,hy,ey⟩:=h'.at';have:=h.le y hy;have:=h'.le x hx;omega
theorem JJ.uniq{α:Type}{l:List α}{f:α->Int}{m n:Int}(h:JJ l f m)(h':JJ l f n):m=n:=by obtain⟨x,hx,ex⟩:=h.at';obtain⟨y,hy,ey⟩:=h'.at';have:=h.le y hy;have:=h'.le x hx;omega
theorem wT{α:Type}{l:List α}{f:α->Int}{z:Int}(hz:∀x∈l,f x<=z)(hn:l≠[]):IY l f (eM z (l.map f)):=by
 obtain⟨h1,h2⟩:=wR (l.map f) z;refine⟨fun x hx=>h2 _ (bz hx),?_⟩;rcases nA (l.map f) z with h|h
 ·obtain⟨y,hy⟩:=bx _ hn;have:=h2 _ (bz hy);have:=hz y hy;exact⟨y,hy,by omega⟩
 ·obtain⟨x,hx,e⟩:=bt.1 h;exact⟨x,hx,e⟩
theorem wU{α:Type}{l:List α}{f:α->Int}{z:Int}(hz:∀x∈l,z<=f x)(hn:l≠[]):JJ l f (eN z (l.map f)):=by
 obtain⟨h1,h2⟩:=wS (l.map f) z;refine⟨fun x hx=>h2 _ (bz hx),?_⟩;rcases nB (l.map f) z with h|h
 ·obtain⟨y,hy⟩:=bx _ hn;have:=h2 _ (bz hy);have:=hz y hy;exact⟨y,hy,by omega⟩
 ·obtain⟨x,hx,e⟩:=bt.1 h;exact⟨x,hx,e⟩
theorem AL1{b:AK}(h:Valid b)(g:Nat->Int->Int)(lo:Nat->Int)(hlo:∀j (hj:j<(aw b).length),IY (aw b)[j] (g j) (lo j)):IY (BL b) (OJ g 0) (VO lo 0 b.winds.length):=by
 refine⟨fun t ht=>?_,?_⟩
 ·have:=wQ (g:=g) (lo:=lo) (aw b) 0 (fun j hj n hn=>by simpa using(hlo j hj).le n hn) t ((E6 h).1 (EL.1 ht));rwa [GL]at this
 ·obtain⟨t,h1,h2⟩:=sM (g:=g) (z:=lo) (aw b) 0 fun j hj=>by simpa using(hlo j hj).at'
  rw[GL]at h2;exact⟨t,EL.2 ((E6 h).2 h1),h2⟩
theorem AL2{b:AK}(h:Valid b)(g:Nat->Int->Int)(hi:Nat->Int)(hhi:∀j (hj:j<(aw b).length),JJ (aw b)[j] (g j) (hi j)):JJ (BL b) (OJ g 0) (VO hi 0 b.winds.length):=by
 refine⟨fun t ht=>?_,?_⟩
 ·have:=mZ (g:=g) (hi:=hi) (aw b) 0 (fun j hj n hn=>by simpa using(hhi j hj).le n hn) t ((E6 h).1 (EL.1 ht));rwa [GL]at this
 ·obtain⟨t,h1,h2⟩:=sM (g:=g) (z:=hi) (aw b) 0 fun j hj=>by simpa using(hhi j hj).at'
  rw[GL]at h2;exact⟨t,EL.2 ((E6 h).2 h1),h2⟩
theorem wV:∀{l:List Int} {lo:Int},J0 l=true->(∀x∈l,lo<=x/\x<=3)->lo<=4->(l.length:Int)<=4-lo
 |[],lo,_,_,h=>by simp;omega
 |[x],lo,_,h,_=>by have:=h x (by simp);simp;omega
 |x::y::r,lo,h,ha,hl=>by
  simp only[J0,bj,decide_eq_true_eq]at h;have hx:=ha x (by simp);have:∀z∈y::r,lo+1<=z/\z<=3:=by
   have key:∀(l:List Int) (y:Int),J0 (y::l)=true->∀z∈y::l,y<=z:=by
    intro l;induction l with
    |nil=>intro y _ z hz;simp at hz;omega
    |cons w l ih=>
     intro y hi z hz
     simp only[J0,bj,decide_eq_true_eq]at hi
     rcases bh.1 hz with rfl|hz
     ·omega
     ·have:=ih w hi.2 z hz;omega
   intro z hz;have h1:=key r y h.2 z hz;have h2:=ha z (List.mem_cons_of_mem _ hz);omega
  have h3:=wV h.2 this (by omega);simp only[bc]at h3|-;omega
theorem AFP{l:List Int}(h:GB l=true):1<=l.length/\l.length<=4:=by
 simp only[GB,bj]at h;obtain⟨⟨h1,h2⟩,h3⟩:=h;have:=wV (lo:=0) h3 (fun x hx=>DI.1 (bw.1 h2 x hx)) (by omega);refine⟨?_,by omega⟩;cases l with
 |nil=>simp at h1
 |cons x l=>simp
theorem Valid.wl{b:AK}(h:Valid b):∀l∈b.winds,1<=l.length/\l.length<=4:=fun l hl=>AFP (bw.1 h.wo l hl)
theorem Valid.hl{b:AK}(h:Valid b):b.winds.length<=5:=by have:=h.la;have:=h.wi;omega
theorem wW:∀{ws:List (List Int)},(∀l∈ws,l.length<=4)->F7 ws<=4 ^ ws.length
 |[],_=>cd _
 |l::r,h=>by have h1:=wW (ws:=r) fun l hl=>h l (by simp[hl]);have h2:=h l (by simp);simp only[F7,bc,Nat.pow_succ];rw[Nat.mul_comm (4 ^ r.length)];exact Nat.mul_le_mul h2 h1
theorem Valid.many{b:AK}(h:Valid b):F7 b.winds<=1024:=by have h1:=wW fun l hl=>(h.wl l hl).2;have h2:4 ^ b.winds.length<=4 ^ 5:=bn (by omega) h.hl;omega
def BR(x j:Nat):List Int:=List.map (fun i:Nat=>(i:Int)) ((cg j).filter fun i=>x.testBit i)
theorem FJ(x j:Nat):BR x (j+1)=if x.testBit j=true then BR x j++[(j:Int)] else BR x j:=by unfold BR;rw[List.range_succ,List.filter_append,List.map_append];cases hb:x.testBit j<;>simp[hb]
theorem aM{x j:Nat}(h:x<2 ^ j):∀d,BR x (j+d)=BR x j
 |0=>rfl
 |d+1=>by rw[<-Nat.add_assoc,FJ,aM h d];have:x.testBit (j+d)=false:=Nat.testBit_lt_two_pow (Nat.lt_of_lt_of_le h (bn (by decide) (by omega)));rw[this];rfl
theorem PL(x j:Nat):(BR x j).length<=j:=by unfold BR;have:=List.length_filter_le (fun i=>x.testBit i) (cg j);simp at this|-;omega
theorem div_pos_iff{x j:Nat}:((0:Int)<((x / 2 ^ j:Nat):Int))↔¬x<2 ^ j:=by have h2:0<2 ^ j:=Nat.two_pow_pos j;rw[Int.natCast_pos,Nat.div_pos_iff];omega
theorem wX(x j:Nat):decide ((((x / 2 ^ j:Nat):Int).tmod 2)=1)=x.testBit j:=by rw[show((x / 2 ^ j:Nat):Int).tmod 2=((x / 2 ^ j % 2:Nat):Int) from(Int.ofNat_tmod _ 2).symm,Nat.testBit_eq_decide_div_mod_eq];congr 1;exact propext ⟨fun h=>by omega,fun h=>by omega⟩
end Go.Wind
