/- Beaches, their truths and what is so in them, plainly. No condition; no program in sight. -/
open Bool renaming and_eq_true->bj,not_eq_false->bm,or_eq_true->bn,not_eq_true'->cw
open List renaming getD_eq_getElem?_getD->bk,getElem?_eq_getElem->bq,all_eq_true->bw,exists_mem_of_ne_nil->bx,mem_map_of_mem->bz,getElem_mem->bc,length_cons->bf,mem_filter->bg,mem_cons->bh,mem_map->bp,getElem_of_mem->cj,ne_nil_of_mem->cq
namespace Go.Wind
structure AN where
 last:Int
 rows:Int
 places:Int
 reach:Int
 face:List Int
 sun:List Int
 winds:List (List Int)
 breaks:List (Int×Int)
 notes:List (Int×Int)
def IJ(n lo hi:Int):Bool:=decide (lo<=n)&&decide (n<=hi)
theorem D7{n lo hi:Int}:IJ n lo hi=true↔lo<=n/\n<=hi:=by simp[IJ]
def F7(b:AN)(s:Int×Int):Bool:=IJ s.1 0 (b.rows-1)&&IJ s.2 0 (b.places-1)
def EO(l:List Int)(lo:Int):Bool:=l.all fun n=>IJ n lo 3
def KM:List Int->Bool
 |[]=>true
 |[_]=>true
 |x::y::r=>decide (x<y)&&KM (y::r)
def GK(l:List Int):Bool:=!l.isEmpty&&EO l 0&&KM l
def JR(b:AN)(x:Int×Int):Bool:=IJ x.1 0 b.last&&IJ x.2 0 3
def DZ(b:AN):Int :=
 if (decide (4<b.last)||decide (3<b.rows)||decide (5<b.places)||decide (4<b.breaks.length)||decide (5<b.notes.length))=true then 3
 else if (decide (b.last<0)||decide (b.rows<1)||decide (b.places<1)||!IJ b.reach 0 4||!decide ((b.face.length:Int)=b.rows)||!decide ((b.sun.length:Int)=b.last+1)||!decide ((b.winds.length:Int)=b.last+1)||!EO b.face 0||!EO b.sun (-1))=true then 1
 else if b.winds.all GK=false then 1 else if b.breaks.all (F7 b)=false then 1 else if b.notes.all (JR b)=false then 1 else 0
structure Valid(b:AN):Prop where
 la:0<=b.last/\b.last<=4
 ro:1<=b.rows/\b.rows<=3
 pl:1<=b.places/\b.places<=5
 re:0<=b.reach/\b.reach<=4
 br:b.breaks.length<=4
 no:b.notes.length<=5
 fa:(b.face.length:Int)=b.rows
 su:(b.sun.length:Int)=b.last+1
 wi:(b.winds.length:Int)=b.last+1
 fd:EO b.face 0=true
 sd:EO b.sun (-1)=true
 wo:b.winds.all GK=true
 bo:b.breaks.all (F7 b)=true
 nok:b.notes.all (JR b)=true
theorem TB{b:AN}(h:DZ b=0):Valid b:=by
 unfold DZ at h;split at h
 ·cases h
 split at h
 ·cases h
 split at h
 ·cases h
 split at h
 ·cases h
 split at h
 ·cases h
 rename_i h1 h2 h3 h4 h5;simp only[bn,decide_eq_true_eq,cw,decide_eq_false_iff_not,not_or,bm]at h1 h2;obtain⟨⟨⟨⟨a1,a2⟩,a3⟩,a4⟩,a5⟩:=h1;obtain⟨⟨⟨⟨⟨⟨⟨⟨c1,c2⟩,c3⟩,c4⟩,c5⟩,c6⟩,c7⟩,c8⟩,c9⟩:=h2;have:=D7.1 c4;simp only[bm]at h3 h4 h5;exact⟨⟨by omega,by omega⟩,⟨by omega,by omega⟩,⟨by omega,by omega⟩,this,by omega,by omega,Classical.not_not.1 c5,Classical.not_not.1 c6,Classical.not_not.1 c7,c8,c9,h3,h4,h5⟩
theorem MB{b:AN}(h:Valid b):DZ b=0:=by
 obtain⟨la,ro,pl,re,br,no,fa,su,wi,fd,sd,wo,bo,nok⟩:=h;unfold DZ;rw[if_neg,if_neg,if_neg,if_neg,if_neg]
 ·simp[nok]
 ·simp[bo]
 ·simp[wo]
 ·simp only[bn,decide_eq_true_eq,cw,decide_eq_false_iff_not,not_or,bm];exact⟨⟨⟨⟨⟨⟨⟨⟨by omega,by omega⟩,by omega⟩,D7.2 re⟩,by simpa using fa⟩,by simpa using su⟩,by simpa using wi⟩,fd⟩,sd⟩
 ·simp only[bn,decide_eq_true_eq,not_or];exact⟨⟨⟨⟨by omega,by omega⟩,by omega⟩,by omega⟩,by omega⟩
def GR:List (List Int)->Nat
 |[]=>1
 |l::r=>l.length*GR r
def EA:List (List Int)->Nat->List Int
 |[],_=>[]
 |l::r,n=>l.getD (n % l.length) 0::EA r (n / l.length)
def WI:List (List Int)->List (List Int)
 |[]=>[[]]
 |l::r=>l.flatMap fun x=>(WI r).map (x::·)
def A9:List Int->List (List Int)->Bool
 |[],[]=>true
 |x::t,l::r=>decide (x∈l)&&A9 t r
 |_,_=>false
theorem DM:∀{t:List Int} {ws:List (List Int)},A9 t ws=true->t.length=ws.length
 |[],[],_=>rfl
 |x::t,l::r,h=>by simp only[A9,bj]at h;simp[DM h.2]
theorem F8:∀{t:List Int} {ws:List (List Int)},A9 t ws=true->∀h (h1:h<t.length) (h2:h<ws.length),t[h]∈ws[h]
 |x::t,l::r,hh,0,_,_=>by simp only[A9,bj,decide_eq_true_eq]at hh;exact hh.1
 |x::t,l::r,hh,h+1,h1,h2=>by simp only[A9,bj]at hh;simpa using F8 hh.2 h (by simpa using h1) (by simpa using h2)
theorem MC:∀{t:List Int} {ws:List (List Int)},t.length=ws.length->(∀h (h1:h<t.length) (h2:h<ws.length),t[h]∈ws[h])->A9 t ws=true
 |[],[],_,_=>rfl
 |x::t,l::r,hl,h=>by simp only[A9,bj,decide_eq_true_eq];exact⟨h 0 (by simp) (by simp),MC (by simpa using hl) fun j h1 h2=>h (j+1) (by simpa using h1) (by simpa using h2)⟩
theorem PM:∀{ws:List (List Int)} {t:List Int},t∈WI ws↔A9 t ws=true
 |[],t=>by cases t<;>simp[WI,A9]
 |l::r,t=>by
  cases t with
  |nil=>simp[WI,A9]
  |cons x t=>
   simp only[WI,List.mem_flatMap,bp,A9,bj,decide_eq_true_eq]
   constructor
   ·rintro ⟨y,hy,z,hz,e⟩;cases e;exact⟨hy,PM.1 hz⟩
   ·rintro ⟨h1,h2⟩;exact⟨x,h1,t,PM.2 h2,rfl⟩
theorem Q7:∀{ws:List (List Int)} (_:∀l∈ws,l≠[]) (n:Nat),A9 (EA ws n) ws=true
 |[],_,_=>rfl
 |l::r,h,n=>by have hl:0<l.length:=List.length_pos_iff.2 (h l (by simp));simp only[EA,A9,bj,decide_eq_true_eq];have hm:n % l.length<l.length:=Nat.mod_lt _ hl;refine⟨?_,Q7 (fun l hl=>h l (by simp[hl])) _⟩;rw[bk,bq hm];exact bc hm
theorem uE:∀{ws:List (List Int)} {t:List Int},A9 t ws=true->∃n,n<GR ws/\EA ws n=t
 |[],[],_=>⟨0,by simp[GR],rfl⟩
 |l::r,x::t,h=>by
  simp only[A9,bj,decide_eq_true_eq]at h;obtain⟨m,h1,h2⟩:=uE h.2;obtain⟨j,hj,hx⟩:=cj h.1;refine⟨j+l.length*m,?_,?_⟩
  ·simp only[GR];have:l.length*m+l.length<=l.length*GR r:=by rw[<-Nat.mul_succ];exact Nat.mul_le_mul_left _ h1
   omega
  ·have hl:0<l.length:=by omega
   simp only[EA,Nat.add_mul_mod_self_left,Nat.mod_eq_of_lt hj,Nat.add_mul_div_left _ _ hl,Nat.div_eq_of_lt hj,Nat.zero_add,h2];rw[bk,bq hj];simp[hx]
def atI(l:List Int)(h:Int):Int:=l.getD h.toNat 0
def KN(t:List Int)(x:Int×Int):Bool:=decide (atI t x.1=x.2)
def DB(b:AN)(t:List Int):Bool:=A9 t b.winds&&b.notes.all (KN t)
def CE(b:AN):List (List Int):=((List.range (GR b.winds)).map (EA b.winds)).filter (DB b)
theorem Valid.ne{b:AN}(h:Valid b):∀l∈b.winds,l≠[]:=fun l hl e=>by have:=bw.1 h.wo l hl;subst e;simp[GK]at this
theorem EW{b:AN}{t:List Int}:t∈CE b↔DB b t=true:=by
 unfold CE;rw[bg,bp];constructor
 ·exact fun h=>h.2
 ·intro ht;refine⟨?_,ht⟩;simp only[DB,bj]at ht;obtain⟨n,h1,h2⟩:=uE ht.1;exact⟨n,List.mem_range.2 h1,h2⟩
def E7(p:List (List Int))(h r:Nat):Int:=(p.getD h []).getD r 0
def AJF(s k:Int×Int)(wind:Int):Int:=if wind=0/\k.2=s.2 then s.1-k.1 else if wind=2/\k.2=s.2 then k.1-s.1 else if wind=3/\k.1=s.1 then s.2-k.2 else if wind=1/\k.1=s.1 then k.2-s.2 else 0
def gG(b:AN)(s:Int×Int)(wind:Int):Bool:=b.breaks.any fun k=>IJ (AJF s k wind) 1 b.reach
def Y0(b:AN)(s:Int×Int)(face wind:Int):Bool:=decide (face=(wind+2) % 4)||gG b s wind
def cnt(f:Nat->Bool):Nat->Nat
 |0=>0
 |n+1=>cnt f n+(if f n=true then 1 else 0)
theorem Y1(f:Nat->Bool):∀n,cnt f n<=n
 |0=>Nat.le_refl _
 |n+1=>by have:=Y1 f n;simp only[cnt];split<;>omega
def Y2(b:AN)(plan:List (List Int))(r h:Nat):Bool:=decide (E7 plan h r=b.sun.getD h 0)
structure xM where
 sun:Int
 calm:Int
 good:Int
deriving DecidableEq
def ADL(calm:Nat->Bool)(lit:Nat->Bool)(n:Nat):xM:=⟨cnt lit n,cnt calm n,cnt (fun h=>lit h&&calm h) n⟩
def pD(b:AN)(plan:List (List Int))(t:List Int)(r p h:Nat):Bool:=Y0 b (r,p) (E7 plan h r) (t.getD h 0)
def JS(b:AN)(plan:List (List Int))(t:List Int)(r p:Nat):xM:=ADL (pD b plan t r p) (Y2 b plan r) t.length
def EP(b:AN)(plan:List (List Int)):Bool:=(plan.all fun l=>decide ((l.length:Int)=b.rows)&&EO l 0)&&decide ((plan.length:Int)=b.last+1)
structure OL(b:AN)(plan:List (List Int)):Prop where
 len:(plan.length:Int)=b.last+1
 row:∀h,h<plan.length->((plan.getD h []).length:Int)=b.rows
 dir:∀h r,h<plan.length->r<(plan.getD h []).length->IJ (E7 plan h r) 0 3=true
theorem AJG{b:AN}{plan:List (List Int)}(h:EP b plan=true):OL b plan:=by
 simp only[EP,bj,bw,decide_eq_true_eq]at h;obtain⟨h1,h2⟩:=h;refine⟨h2,fun j hj=>?_,fun j r hj hr=>?_⟩
 ·rw[bk,bq hj];exact(h1 _ (bc hj)).1
 ·have:=(h1 _ (bc hj)).2;have e:plan.getD j []=plan[j]:=by rw[bk,bq hj];rfl
  unfold E7;rw[e]at hr|-;rw[bk,bq hr];exact bw.1 this _ (bc hr)
theorem ADM{b:AN}(h:Valid b){j:Nat}(hj:j<b.winds.length){n:Int}(hn:n∈b.winds[j]):IJ n 0 3=true:=by have:=bw.1 h.wo _ (bc hj);simp only[GK,bj]at this;exact bw.1 this.1.2 n hn
theorem pE{b:AN}(h:Valid b){t:List Int}(ht:A9 t b.winds=true){j:Nat}(hj:j<t.length):IJ (t.getD j 0) 0 3=true:=by have hl:=DM ht;rw[bk,bq hj];exact ADM h (by omega) (F8 ht j hj (by omega))
def ADN(b:AN)(h:Nat)(l:List Int):List Int:=l.filter fun n=>b.notes.all fun x=>!decide (x.1=h)||decide (x.2=n)
def kJ(b:AN):Nat->List (List Int)->List (List Int)
 |_,[]=>[]
 |h,l::r=>ADN b h l::kJ b (h+1) r
def aw(b:AN):List (List Int):=kJ b 0 b.winds
theorem kK(b:AN):∀(h:Nat) (ws:List (List Int)),(kJ b h ws).length=ws.length
 |_,[]=>rfl
 |h,l::r=>by simp[kJ,kK b (h+1) r]
theorem kL(b:AN):∀(h:Nat) (ws:List (List Int)) (j:Nat) (h1:j<(kJ b h ws).length) (h2:j<ws.length),(kJ b h ws)[j]=ADN b (h+j) ws[j]
 |h,l::r,0,_,_=>rfl
 |h,l::r,j+1,h1,h2=>by have:=kL b (h+1) r j (by simpa [kJ]using h1) (by simpa using h2);simp only[kJ,List.getElem_cons_succ,this];rw[show h+1+j=h+(j+1) by omega]
theorem G9(b:AN):(aw b).length=b.winds.length:=kK b 0 _
theorem pF(b:AN)(j:Nat)(h1:j<(aw b).length)(h2:j<b.winds.length):(aw b)[j]=ADN b j b.winds[j]:=by have:=kL b 0 b.winds j h1 h2;rwa [Nat.zero_add]at this
theorem E8{b:AN}(h:Valid b){t:List Int}:DB b t=true↔A9 t (aw b)=true:=by
 unfold DB;rw[bj,bw];have wi:=h.wi;constructor
 ·rintro ⟨h1,h2⟩;have hl:=DM h1;refine MC (by rw[G9,hl]) fun j j1 j2=>?_;rw[pF b j j2 (by omega)];refine bg.2 ⟨F8 h1 j j1 (by omega),bw.2 fun x hx=>?_⟩;by_cases e:x.1=(j:Int)
  ·have:=h2 x hx;simp only[KN,atI,e,Int.toNat_natCast,bk,bq j1,Option.getD_some,decide_eq_true_eq]at this;simp[this]
  ·simp[e]
 ·intro h1;have hl:=DM h1;rw[G9]at hl;refine⟨MC hl fun j j1 j2=>?_,fun x hx=>?_⟩
  ·have:=F8 h1 j j1 (by rw[G9];exact j2);rw[pF b j _ j2]at this;exact(bg.1 this).1
  ·have hn:=bw.1 h.nok x hx;simp only[JR,bj,D7]at hn;obtain⟨⟨n1,n2⟩,_⟩:=hn;have hj:x.1.toNat<t.length:=by omega
   have:=F8 h1 x.1.toNat hj (by rw[G9];omega);rw[pF b _ _ (by omega)]at this;have:=bw.1 (bg.1 this).2 x hx;have e:x.1=((x.1.toNat:Nat):Int):=by omega
   simp only[<-e,decide_true,Bool.not_true,Bool.false_or,decide_eq_true_eq]at this;simp only[KN,atI,bk,bq hj,Option.getD_some,decide_eq_true_eq];exact this.symm
theorem xN{b:AN}(h:Valid b):CE b≠[]↔∀l∈aw b,l≠[]:=by
 constructor
 ·intro he l hl;obtain⟨t,ht⟩:=bx _ he;have:=(E8 h).1 (EW.1 ht);obtain⟨j,hj,rfl⟩:=cj hl;have:=F8 this j (by rw[DM this];exact hj) hj;exact cq this
 ·intro ha;have:=Q7 ha 0;exact cq (EW.2 ((E8 h).2 this))
def OM(g:Nat->Int->Int):Nat->List Int->Int
 |_,[]=>0
 |h,x::t=>g h x+OM g (h+1) t
def U0(g:Nat->Int):Nat->Nat->Int
 |_,0=>0
 |h,n+1=>g h+U0 g (h+1) n
theorem uF{g:Nat->Int->Int}{lo:Nat->Int}:∀(A:List (List Int)) (h:Nat),(∀j (hj:j<A.length),∀n∈A[j],lo (h+j)<=g (h+j) n)->∀t,A9 t A=true->U0 lo h A.length<=OM g h t
 |[],h,_,[],_=>Int.le_refl _
 |l::r,h,hA,x::t,ht=>by simp only[A9,bj,decide_eq_true_eq]at ht;have h1:=hA 0 (by simp) x ht.1;have h2:=uF r (h+1) (fun j hj n hn=>by have:=hA (j+1) (by simpa using hj) n hn;rwa [show h+(j+1)=h+1+j by omega]at this) t ht.2;simp only[bf,U0,OM];simp only[Nat.add_zero]at h1;omega
theorem kM{g:Nat->Int->Int}{hi:Nat->Int}:∀(A:List (List Int)) (h:Nat),(∀j (hj:j<A.length),∀n∈A[j],g (h+j) n<=hi (h+j))->∀t,A9 t A=true->OM g h t<=U0 hi h A.length
 |[],h,_,[],_=>Int.le_refl _
 |l::r,h,hA,x::t,ht=>by simp only[A9,bj,decide_eq_true_eq]at ht;have h1:=hA 0 (by simp) x ht.1;have h2:=kM r (h+1) (fun j hj n hn=>by have:=hA (j+1) (by simpa using hj) n hn;rwa [show h+(j+1)=h+1+j by omega]at this) t ht.2;simp only[bf,U0,OM];simp only[Nat.add_zero]at h1;omega
theorem pG{g:Nat->Int->Int}{z:Nat->Int}:∀(A:List (List Int)) (h:Nat),(∀j (hj:j<A.length),∃n∈A[j],g (h+j) n=z (h+j))->∃t,A9 t A=true/\OM g h t=U0 z h A.length
 |[],h,_=>⟨[],rfl,rfl⟩
 |l::r,h,hA=>by
  obtain⟨n,hn,he⟩:=hA 0 (by simp);obtain⟨t,ht,hs⟩:=pG r (h+1) fun j hj=>by obtain⟨n,h1,h2⟩:=hA (j+1) (by simpa using hj);exact⟨n,h1,by rwa [show h+(j+1)=h+1+j by omega]at h2⟩
  refine⟨n::t,?_,?_⟩
  ·simp only[A9,bj,decide_eq_true_eq];exact⟨hn,ht⟩
  ·simp only[Nat.add_zero]at he;simp only[bf,U0,OM,he,hs]
def cK(z:Int)(l:List Int):Int:=l.foldl min z
def cL(z:Int)(l:List Int):Int:=l.foldl max z
theorem uG:∀(l:List Int) (z:Int),cK z l<=z/\∀x∈l,cK z l<=x
 |[],z=>⟨Int.le_refl _,by simp⟩
 |y::l,z=>by
  obtain⟨h1,h2⟩:=uG l (min z y);have:cK z (y::l)=cK (min z y) l:=rfl;rw[this];refine⟨by omega,fun x hx=>?_⟩;rcases bh.1 hx with rfl|hx
  ·omega
  ·exact h2 x hx
theorem kN:∀(l:List Int) (z:Int),cK z l=z\/cK z l∈l
 |[],z=>.inl rfl
 |y::l,z=>by
  have e:cK z (y::l)=cK (min z y) l:=rfl;rw[e];rcases kN l (min z y)with h|h
  ·rw[h];rcases Int.le_total z y with h|h
   ·left;omega
   ·right;rw[show min z y=y by omega];simp
  ·exact .inr (bh.2 (.inr h))
theorem uH:∀(l:List Int) (z:Int),z<=cL z l/\∀x∈l,x<=cL z l
 |[],z=>⟨Int.le_refl _,by simp⟩
 |y::l,z=>by
  obtain⟨h1,h2⟩:=uH l (max z y);have:cL z (y::l)=cL (max z y) l:=rfl;rw[this];refine⟨by omega,fun x hx=>?_⟩;rcases bh.1 hx with rfl|hx
  ·omega
  ·exact h2 x hx
theorem kO:∀(l:List Int) (z:Int),cL z l=z\/cL z l∈l
 |[],z=>.inl rfl
 |y::l,z=>by
  have e:cL z (y::l)=cL (max z y) l:=rfl;rw[e];rcases kO l (max z y)with h|h
  ·rw[h];rcases Int.le_total z y with h|h
   ·right;rw[show max z y=y by omega];simp
   ·left;omega
  ·exact .inr (bh.2 (.inr h))
structure JG{α:Type}(l:List α)(f:α->Int)(m:Int):Prop where
 le:∀x∈l,m<=f x
 at':∃x∈l,f x=m
structure JZ{α:Type}(l:List α)(f:α->Int)(m:Int):Prop where
 le:∀x∈l,f x<=m
 at':∃x∈l,f x=m
theorem JG.uniq{α:Type}{l:List α}{f:α->Int}{m n:Int}(h:JG l f m)(h':JG l f n):m=n:=by obtain⟨x,hx,ex⟩:=h.at';obtain⟨y,hy,ey⟩:=h'.at';have:=h.le y hy;have:=h'.le x hx;omega
theorem JZ.uniq{α:Type}{l:List α}{f:α->Int}{m n:Int}(h:JZ l f m)(h':JZ l f n):m=n:=by obtain⟨x,hx,ex⟩:=h.at';obtain⟨y,hy,ey⟩:=h'.at';have:=h.le y hy;have:=h'.le x hx;omega
theorem uI{α:Type}{l:List α}{f:α->Int}{z:Int}(hz:∀x∈l,f x<=z)(hn:l≠[]):JG l f (cK z (l.map f)):=by
 obtain⟨h1,h2⟩:=uG (l.map f) z;refine⟨fun x hx=>h2 _ (bz hx),?_⟩;rcases kN (l.map f) z with h|h
 ·obtain⟨y,hy⟩:=bx _ hn;have:=h2 _ (bz hy);have:=hz y hy;exact⟨y,hy,by omega⟩
 ·obtain⟨x,hx,e⟩:=bp.1 h;exact⟨x,hx,e⟩
theorem uJ{α:Type}{l:List α}{f:α->Int}{z:Int}(hz:∀x∈l,z<=f x)(hn:l≠[]):JZ l f (cL z (l.map f)):=by
 obtain⟨h1,h2⟩:=uH (l.map f) z;refine⟨fun x hx=>h2 _ (bz hx),?_⟩;rcases kO (l.map f) z with h|h
 ·obtain⟨y,hy⟩:=bx _ hn;have:=h2 _ (bz hy);have:=hz y hy;exact⟨y,hy,by omega⟩
 ·obtain⟨x,hx,e⟩:=bp.1 h;exact⟨x,hx,e⟩
theorem AJH{b:AN}(h:Valid b)(g:Nat->Int->Int)(lo:Nat->Int)(hlo:∀j (hj:j<(aw b).length),JG (aw b)[j] (g j) (lo j)):JG (CE b) (OM g 0) (U0 lo 0 b.winds.length):=by
 refine⟨fun t ht=>?_,?_⟩
 ·have:=uF (g:=g) (lo:=lo) (aw b) 0 (fun j hj n hn=>by simpa using(hlo j hj).le n hn) t ((E8 h).1 (EW.1 ht));rwa [G9]at this
 ·obtain⟨t,h1,h2⟩:=pG (g:=g) (z:=lo) (aw b) 0 fun j hj=>by simpa using(hlo j hj).at'
  rw[G9]at h2;exact⟨t,EW.2 ((E8 h).2 h1),h2⟩
theorem AJI{b:AN}(h:Valid b)(g:Nat->Int->Int)(hi:Nat->Int)(hhi:∀j (hj:j<(aw b).length),JZ (aw b)[j] (g j) (hi j)):JZ (CE b) (OM g 0) (U0 hi 0 b.winds.length):=by
 refine⟨fun t ht=>?_,?_⟩
 ·have:=kM (g:=g) (hi:=hi) (aw b) 0 (fun j hj n hn=>by simpa using(hhi j hj).le n hn) t ((E8 h).1 (EW.1 ht));rwa [G9]at this
 ·obtain⟨t,h1,h2⟩:=pG (g:=g) (z:=hi) (aw b) 0 fun j hj=>by simpa using(hhi j hj).at'
  rw[G9]at h2;exact⟨t,EW.2 ((E8 h).2 h1),h2⟩
theorem uK:∀{l:List Int} {lo:Int},KM l=true->(∀x∈l,lo<=x/\x<=3)->lo<=4->(l.length:Int)<=4-lo
 |[],lo,_,_,h=>by simp;omega
 |[x],lo,_,h,_=>by have:=h x (by simp);simp;omega
 |x::y::r,lo,h,ha,hl=>by
  simp only[KM,bj,decide_eq_true_eq]at h;have hx:=ha x (by simp);have:∀z∈y::r,lo+1<=z/\z<=3:=by
   have key:∀(l:List Int) (y:Int),KM (y::l)=true->∀z∈y::l,y<=z:=by
    intro l;induction l with
    |nil=>intro y _ z hz;simp at hz;omega
    |cons w l ih=>
     intro y hi z hz
     simp only[KM,bj,decide_eq_true_eq]at hi
     rcases bh.1 hz with rfl|hz
     ·omega
     ·have:=ih w hi.2 z hz;omega
   intro z hz;have h1:=key r y h.2 z hz;have h2:=ha z (List.mem_cons_of_mem _ hz);omega
  have h3:=uK h.2 this (by omega);simp only[bf]at h3|-;omega
theorem ADO{l:List Int}(h:GK l=true):1<=l.length/\l.length<=4:=by
 simp only[GK,bj]at h;obtain⟨⟨h1,h2⟩,h3⟩:=h;have:=uK (lo:=0) h3 (fun x hx=>D7.1 (bw.1 h2 x hx)) (by omega);refine⟨?_,by omega⟩;cases l with
 |nil=>simp at h1
 |cons x l=>simp
theorem Valid.wl{b:AN}(h:Valid b):∀l∈b.winds,1<=l.length/\l.length<=4:=fun l hl=>ADO (bw.1 h.wo l hl)
theorem Valid.hl{b:AN}(h:Valid b):b.winds.length<=5:=by have:=h.la;have:=h.wi;omega
theorem uL:∀{ws:List (List Int)},(∀l∈ws,l.length<=4)->GR ws<=4 ^ ws.length
 |[],_=>Nat.le_refl _
 |l::r,h=>by have h1:=uL (ws:=r) fun l hl=>h l (by simp[hl]);have h2:=h l (by simp);simp only[GR,bf,Nat.pow_succ];rw[Nat.mul_comm (4 ^ r.length)];exact Nat.mul_le_mul h2 h1
theorem Valid.many{b:AN}(h:Valid b):GR b.winds<=1024:=by have h1:=uL fun l hl=>(h.wl l hl).2;have h2:4 ^ b.winds.length<=4 ^ 5:=Nat.pow_le_pow_right (by omega) h.hl;omega
def FW(x j:Nat):List Int:=List.map (fun i:Nat=>(i:Int)) ((List.range j).filter fun i=>x.testBit i)
theorem I1(x j:Nat):FW x (j+1)=if x.testBit j=true then FW x j++[(j:Int)] else FW x j:=by unfold FW;rw[List.range_succ,List.filter_append,List.map_append];cases hb:x.testBit j<;>simp[hb]
end Go.Wind
