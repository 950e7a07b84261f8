/- Beaches, their truths and what is so in them, plainly. No condition; no program in sight. -/
open Bool renaming and_eq_true->bj,not_eq_false->bh,or_eq_true->bm,not_eq_true'->cq
open List renaming getD_eq_getElem?_getD->bk,getElem?_eq_getElem->bq,all_eq_true->bw,exists_mem_of_ne_nil->bx,mem_map_of_mem->bz,getElem_mem->bb,length_cons->bc,mem_filter->bf,mem_cons->bg,mem_map->bn,getElem_of_mem->bp,ne_nil_of_mem->ck
namespace Go.Wind
structure AL where
 last:Int
 rows:Int
 places:Int
 reach:Int
 face:List Int
 sun:List Int
 winds:List (List Int)
 breaks:List (Int×Int)
 notes:List (Int×Int)
def HB(n lo hi:Int):Bool:=decide (lo<=n)&&decide (n<=hi)
theorem DV{n lo hi:Int}:HB n lo hi=true↔lo<=n/\n<=hi:=by simp[HB]
def FS(b:AL)(s:Int×Int):Bool:=HB s.1 0 (b.rows-1)&&HB s.2 0 (b.places-1)
def EH(l:List Int)(lo:Int):Bool:=l.all fun n=>HB n lo 3
def J1:List Int->Bool
 |[]=>true
 |[_]=>true
 |x::y::r=>decide (x<y)&&J1 (y::r)
def F1(l:List Int):Bool:=!l.isEmpty&&EH l 0&&J1 l
def JB(b:AL)(x:Int×Int):Bool:=HB x.1 0 b.last&&HB x.2 0 3
def C6(b:AL):Int :=
 if (decide (4<b.last)||decide (3<b.rows)||decide (5<b.places)||decide (4<b.breaks.length)||decide (5<b.notes.length))=true then 3
 else if (decide (b.last<0)||decide (b.rows<1)||decide (b.places<1)||!HB b.reach 0 4||!decide ((b.face.length:Int)=b.rows)||!decide ((b.sun.length:Int)=b.last+1)||!decide ((b.winds.length:Int)=b.last+1)||!EH b.face 0||!EH b.sun (-1))=true then 1
 else if b.winds.all F1=false then 1 else if b.breaks.all (FS b)=false then 1 else if b.notes.all (JB b)=false then 1 else 0
structure Valid(b:AL):Prop where
 la:0<=b.last/\b.last<=4
 ro:1<=b.rows/\b.rows<=3
 pl:1<=b.places/\b.places<=5
 re:0<=b.reach/\b.reach<=4
 br:b.breaks.length<=4
 no:b.notes.length<=5
 fa:(b.face.length:Int)=b.rows
 su:(b.sun.length:Int)=b.last+1
 wi:(b.winds.length:Int)=b.last+1
 fd:EH b.face 0=true
 sd:EH b.sun (-1)=true
 wo:b.winds.all F1=true
 bo:b.breaks.all (FS b)=true
 nok:b.notes.all (JB b)=true
theorem LP{b:AL}(h:C6 b=0):Valid b:=by
 unfold C6 at h;split at h
 ·cases h
 split at h
 ·cases h
 split at h
 ·cases h
 split at h
 ·cases h
 split at h
 ·cases h
 rename_i h1 h2 h3 h4 h5;simp only[bm,decide_eq_true_eq,cq,decide_eq_false_iff_not,not_or,bh]at h1 h2;obtain⟨⟨⟨⟨a1,a2⟩,a3⟩,a4⟩,a5⟩:=h1;obtain⟨⟨⟨⟨⟨⟨⟨⟨c1,c2⟩,c3⟩,c4⟩,c5⟩,c6⟩,c7⟩,c8⟩,c9⟩:=h2;have:=DV.1 c4;simp only[bh]at h3 h4 h5;exact⟨⟨by omega,by omega⟩,⟨by omega,by omega⟩,⟨by omega,by omega⟩,this,by omega,by omega,Classical.not_not.1 c5,Classical.not_not.1 c6,Classical.not_not.1 c7,c8,c9,h3,h4,h5⟩
theorem IX{b:AL}(h:Valid b):C6 b=0:=by
 obtain⟨la,ro,pl,re,br,no,fa,su,wi,fd,sd,wo,bo,nok⟩:=h;unfold C6;rw[if_neg,if_neg,if_neg,if_neg,if_neg]
 ·simp[nok]
 ·simp[bo]
 ·simp[wo]
 ·simp only[bm,decide_eq_true_eq,cq,decide_eq_false_iff_not,not_or,bh];exact⟨⟨⟨⟨⟨⟨⟨⟨by omega,by omega⟩,by omega⟩,DV.2 re⟩,by simpa using fa⟩,by simpa using su⟩,by simpa using wi⟩,fd⟩,sd⟩
 ·simp only[bm,decide_eq_true_eq,not_or];exact⟨⟨⟨⟨by omega,by omega⟩,by omega⟩,by omega⟩,by omega⟩
def F6:List (List Int)->Nat
 |[]=>1
 |l::r=>l.length*F6 r
def D5:List (List Int)->Nat->List Int
 |[],_=>[]
 |l::r,n=>l.getD (n % l.length) 0::D5 r (n / l.length)
def VF:List (List Int)->List (List Int)
 |[]=>[[]]
 |l::r=>l.flatMap fun x=>(VF r).map (x::·)
def AV:List Int->List (List Int)->Bool
 |[],[]=>true
 |x::t,l::r=>decide (x∈l)&&AV t r
 |_,_=>false
theorem CK:∀{t:List Int} {ws:List (List Int)},AV t ws=true->t.length=ws.length
 |[],[],_=>rfl
 |x::t,l::r,h=>by simp only[AV,bj]at h;simp[CK h.2]
theorem FT:∀{t:List Int} {ws:List (List Int)},AV t ws=true->∀h (h1:h<t.length) (h2:h<ws.length),t[h]∈ws[h]
 |x::t,l::r,hh,0,_,_=>by simp only[AV,bj,decide_eq_true_eq]at hh;exact hh.1
 |x::t,l::r,hh,h+1,h1,h2=>by simp only[AV,bj]at hh;simpa using FT hh.2 h (by simpa using h1) (by simpa using h2)
theorem LQ:∀{t:List Int} {ws:List (List Int)},t.length=ws.length->(∀h (h1:h<t.length) (h2:h<ws.length),t[h]∈ws[h])->AV t ws=true
 |[],[],_,_=>rfl
 |x::t,l::r,hl,h=>by simp only[AV,bj,decide_eq_true_eq];exact⟨h 0 (by simp) (by simp),LQ (by simpa using hl) fun j h1 h2=>h (j+1) (by simpa using h1) (by simpa using h2)⟩
theorem O6:∀{ws:List (List Int)} {t:List Int},t∈VF ws↔AV t ws=true
 |[],t=>by cases t<;>simp[VF,AV]
 |l::r,t=>by
  cases t with
  |nil=>simp[VF,AV]
  |cons x t=>
   simp only[VF,List.mem_flatMap,bn,AV,bj,decide_eq_true_eq]
   constructor
   ·rintro ⟨y,hy,z,hz,e⟩;cases e;exact⟨hy,O6.1 hz⟩
   ·rintro ⟨h1,h2⟩;exact⟨x,h1,t,O6.2 h2,rfl⟩
theorem QK:∀{ws:List (List Int)} (_:∀l∈ws,l≠[]) (n:Nat),AV (D5 ws n) ws=true
 |[],_,_=>rfl
 |l::r,h,n=>by have hl:0<l.length:=List.length_pos_iff.2 (h l (by simp));simp only[D5,AV,bj,decide_eq_true_eq];have hm:n % l.length<l.length:=Nat.mod_lt _ hl;refine⟨?_,QK (fun l hl=>h l (by simp[hl])) _⟩;rw[bk,bq hm];exact bb hm
theorem uG:∀{ws:List (List Int)} {t:List Int},AV t ws=true->∃n,n<F6 ws/\D5 ws n=t
 |[],[],_=>⟨0,by simp[F6],rfl⟩
 |l::r,x::t,h=>by
  simp only[AV,bj,decide_eq_true_eq]at h;obtain⟨m,h1,h2⟩:=uG h.2;obtain⟨j,hj,hx⟩:=bp h.1;refine⟨j+l.length*m,?_,?_⟩
  ·simp only[F6];have:l.length*m+l.length<=l.length*F6 r:=by rw[<-Nat.mul_succ];exact Nat.mul_le_mul_left _ h1
   omega
  ·have hl:0<l.length:=by omega
   simp only[D5,Nat.add_mul_mod_self_left,Nat.mod_eq_of_lt hj,Nat.add_mul_div_left _ _ hl,Nat.div_eq_of_lt hj,Nat.zero_add,h2];rw[bk,bq hj];simp[hx]
def atI(l:List Int)(h:Int):Int:=l.getD h.toNat 0
def J2(t:List Int)(x:Int×Int):Bool:=decide (atI t x.1=x.2)
def DE(b:AL)(t:List Int):Bool:=AV t b.winds&&b.notes.all (J2 t)
def BC(b:AL):List (List Int):=((List.range (F6 b.winds)).map (D5 b.winds)).filter (DE b)
theorem Valid.ne{b:AL}(h:Valid b):∀l∈b.winds,l≠[]:=fun l hl e=>by have:=bw.1 h.wo l hl;subst e;simp[F1]at this
theorem EM{b:AL}{t:List Int}:t∈BC b↔DE b t=true:=by
 unfold BC;rw[bf,bn];constructor
 ·exact fun h=>h.2
 ·intro ht;refine⟨?_,ht⟩;simp only[DE,bj]at ht;obtain⟨n,h1,h2⟩:=uG ht.1;exact⟨n,List.mem_range.2 h1,h2⟩
def BR(p:List (List Int))(h r:Nat):Int:=(p.getD h []).getD r 0
def AH0(s k:Int×Int)(wind:Int):Int:=if wind=0/\k.2=s.2 then s.1-k.1 else if wind=2/\k.2=s.2 then k.1-s.1 else if wind=3/\k.1=s.1 then s.2-k.2 else if wind=1/\k.1=s.1 then k.2-s.2 else 0
def fR(b:AL)(s:Int×Int)(wind:Int):Bool:=b.breaks.any fun k=>HB (AH0 s k wind) 1 b.reach
def LR(b:AL)(s:Int×Int)(face wind:Int):Bool:=decide (face=(wind+2) % 4)||fR b s wind
def xN(f:Nat->Bool):Nat->Nat
 |0=>0
 |n+1=>xN f n+(if f n=true then 1 else 0)
theorem N4(f:Nat->Bool):∀n,xN f n<=n
 |0=>Nat.le_refl _
 |n+1=>by have:=N4 f n;simp only[xN];split<;>omega
def K3(b:AL)(plan:List (List Int))(r h:Nat):Bool:=decide (BR plan h r=b.sun.getD h 0)
structure IY where
 sun:Int
 calm:Int
 good:Int
deriving DecidableEq
def H9(calm:Nat->Bool)(lit:Nat->Bool)(n:Nat):IY:=⟨xN lit n,xN calm n,xN (fun h=>lit h&&calm h) n⟩
def JC(b:AL)(plan:List (List Int))(t:List Int)(r p h:Nat):Bool:=LR b (r,p) (BR plan h r) (t.getD h 0)
def B7(b:AL)(plan:List (List Int))(t:List Int)(r p:Nat):IY:=H9 (JC b plan t r p) (K3 b plan r) t.length
def C5(b:AL)(plan:List (List Int)):Bool:=(plan.all fun l=>decide ((l.length:Int)=b.rows)&&EH l 0)&&decide ((plan.length:Int)=b.last+1)
structure F2(b:AL)(plan:List (List Int)):Prop where
 len:(plan.length:Int)=b.last+1
 row:∀h,h<plan.length->((plan.getD h []).length:Int)=b.rows
 dir:∀h r,h<plan.length->r<(plan.getD h []).length->HB (BR plan h r) 0 3=true
theorem WF{b:AL}{plan:List (List Int)}(h:C5 b plan=true):F2 b plan:=by
 simp only[C5,bj,bw,decide_eq_true_eq]at h;obtain⟨h1,h2⟩:=h;refine⟨h2,fun j hj=>?_,fun j r hj hr=>?_⟩
 ·rw[bk,bq hj];exact(h1 _ (bb hj)).1
 ·have:=(h1 _ (bb hj)).2;have e:plan.getD j []=plan[j]:=by rw[bk,bq hj];rfl
  unfold BR;rw[e]at hr|-;rw[bk,bq hr];exact bw.1 this _ (bb hr)
theorem ACL{b:AL}(h:Valid b){j:Nat}(hj:j<b.winds.length){n:Int}(hn:n∈b.winds[j]):HB n 0 3=true:=by have:=bw.1 h.wo _ (bb hj);simp only[F1,bj]at this;exact bw.1 this.1.2 n hn
theorem YR{b:AL}(h:Valid b){t:List Int}(ht:AV t b.winds=true){j:Nat}(hj:j<t.length):HB (t.getD j 0) 0 3=true:=by have hl:=CK ht;rw[bk,bq hj];exact ACL h (by omega) (FT ht j hj (by omega))
def ACM(b:AL)(h:Nat)(l:List Int):List Int:=l.filter fun n=>b.notes.all fun x=>!decide (x.1=h)||decide (x.2=n)
def kK(b:AL):Nat->List (List Int)->List (List Int)
 |_,[]=>[]
 |h,l::r=>ACM b h l::kK b (h+1) r
def aw(b:AL):List (List Int):=kK b 0 b.winds
theorem kL(b:AL):∀(h:Nat) (ws:List (List Int)),(kK b h ws).length=ws.length
 |_,[]=>rfl
 |h,l::r=>by simp[kK,kL b (h+1) r]
theorem kM(b:AL):∀(h:Nat) (ws:List (List Int)) (j:Nat) (h1:j<(kK b h ws).length) (h2:j<ws.length),(kK b h ws)[j]=ACM b (h+j) ws[j]
 |h,l::r,0,_,_=>rfl
 |h,l::r,j+1,h1,h2=>by have:=kM b (h+1) r j (by simpa [kK]using h1) (by simpa using h2);simp only[kK,List.getElem_cons_succ,this];rw[show h+1+j=h+(j+1) by omega]
theorem GK(b:AL):(aw b).length=b.winds.length:=kL b 0 _
theorem pF(b:AL)(j:Nat)(h1:j<(aw b).length)(h2:j<b.winds.length):(aw b)[j]=ACM b j b.winds[j]:=by have:=kM b 0 b.winds j h1 h2;rwa [Nat.zero_add]at this
theorem E2{b:AL}(h:Valid b){t:List Int}:DE b t=true↔AV t (aw b)=true:=by
 unfold DE;rw[bj,bw];have wi:=h.wi;constructor
 ·rintro ⟨h1,h2⟩;have hl:=CK h1;refine LQ (by rw[GK,hl]) fun j j1 j2=>?_;rw[pF b j j2 (by omega)];refine bf.2 ⟨FT h1 j j1 (by omega),bw.2 fun x hx=>?_⟩;by_cases e:x.1=(j:Int)
  ·have:=h2 x hx;simp only[J2,atI,e,Int.toNat_natCast,bk,bq j1,Option.getD_some,decide_eq_true_eq]at this;simp[this]
  ·simp[e]
 ·intro h1;have hl:=CK h1;rw[GK]at hl;refine⟨LQ hl fun j j1 j2=>?_,fun x hx=>?_⟩
  ·have:=FT h1 j j1 (by rw[GK];exact j2);rw[pF b j _ j2]at this;exact(bf.1 this).1
  ·have hn:=bw.1 h.nok x hx;simp only[JB,bj,DV]at hn;obtain⟨⟨n1,n2⟩,_⟩:=hn;have hj:x.1.toNat<t.length:=by omega
   have:=FT h1 x.1.toNat hj (by rw[GK];omega);rw[pF b _ _ (by omega)]at this;have:=bw.1 (bf.1 this).2 x hx;have e:x.1=((x.1.toNat:Nat):Int):=by omega
   simp only[<-e,decide_true,Bool.not_true,Bool.false_or,decide_eq_true_eq]at this;simp only[J2,atI,bk,bq hj,Option.getD_some,decide_eq_true_eq];exact this.symm
theorem xO{b:AL}(h:Valid b):BC b≠[]↔∀l∈aw b,l≠[]:=by
 constructor
 ·intro he l hl;obtain⟨t,ht⟩:=bx _ he;have:=(E2 h).1 (EM.1 ht);obtain⟨j,hj,rfl⟩:=bp hl;have:=FT this j (by rw[CK this];exact hj) hj;exact ck this
 ·intro ha;have:=QK ha 0;exact ck (EM.2 ((E2 h).2 this))
def NN(g:Nat->Int->Int):Nat->List Int->Int
 |_,[]=>0
 |h,x::t=>g h x+NN g (h+1) t
def TX(g:Nat->Int):Nat->Nat->Int
 |_,0=>0
 |h,n+1=>g h+TX g (h+1) n
theorem uH{g:Nat->Int->Int}{lo:Nat->Int}:∀(A:List (List Int)) (h:Nat),(∀j (hj:j<A.length),∀n∈A[j],lo (h+j)<=g (h+j) n)->∀t,AV t A=true->TX lo h A.length<=NN g h t
 |[],h,_,[],_=>Int.le_refl _
 |l::r,h,hA,x::t,ht=>by simp only[AV,bj,decide_eq_true_eq]at ht;have h1:=hA 0 (by simp) x ht.1;have h2:=uH r (h+1) (fun j hj n hn=>by have:=hA (j+1) (by simpa using hj) n hn;rwa [show h+(j+1)=h+1+j by omega]at this) t ht.2;simp only[bc,TX,NN];simp only[Nat.add_zero]at h1;omega
theorem kN{g:Nat->Int->Int}{hi:Nat->Int}:∀(A:List (List Int)) (h:Nat),(∀j (hj:j<A.length),∀n∈A[j],g (h+j) n<=hi (h+j))->∀t,AV t A=true->NN g h t<=TX hi h A.length
 |[],h,_,[],_=>Int.le_refl _
 |l::r,h,hA,x::t,ht=>by simp only[AV,bj,decide_eq_true_eq]at ht;have h1:=hA 0 (by simp) x ht.1;have h2:=kN r (h+1) (fun j hj n hn=>by have:=hA (j+1) (by simpa using hj) n hn;rwa [show h+(j+1)=h+1+j by omega]at this) t ht.2;simp only[bc,TX,NN];simp only[Nat.add_zero]at h1;omega
theorem pG{g:Nat->Int->Int}{z:Nat->Int}:∀(A:List (List Int)) (h:Nat),(∀j (hj:j<A.length),∃n∈A[j],g (h+j) n=z (h+j))->∃t,AV t A=true/\NN g h t=TX z h A.length
 |[],h,_=>⟨[],rfl,rfl⟩
 |l::r,h,hA=>by
  obtain⟨n,hn,he⟩:=hA 0 (by simp);obtain⟨t,ht,hs⟩:=pG r (h+1) fun j hj=>by obtain⟨n,h1,h2⟩:=hA (j+1) (by simpa using hj);exact⟨n,h1,by rwa [show h+(j+1)=h+1+j by omega]at h2⟩
  refine⟨n::t,?_,?_⟩
  ·simp only[AV,bj,decide_eq_true_eq];exact⟨hn,ht⟩
  ·simp only[Nat.add_zero]at he;simp only[bc,TX,NN,he,hs]
def bU(z:Int)(l:List Int):Int:=l.foldl min z
def bV(z:Int)(l:List Int):Int:=l.foldl max z
theorem uI:∀(l:List Int) (z:Int),bU z l<=z/\∀x∈l,bU z l<=x
 |[],z=>⟨Int.le_refl _,by simp⟩
 |y::l,z=>by
  obtain⟨h1,h2⟩:=uI l (min z y);have:bU z (y::l)=bU (min z y) l:=rfl;rw[this];refine⟨by omega,fun x hx=>?_⟩;rcases bg.1 hx with rfl|hx
  ·omega
  ·exact h2 x hx
theorem kO:∀(l:List Int) (z:Int),bU z l=z\/bU z l∈l
 |[],z=>.inl rfl
 |y::l,z=>by
  have e:bU z (y::l)=bU (min z y) l:=rfl;rw[e];rcases kO l (min z y)with h|h
  ·rw[h];rcases Int.le_total z y with h|h
   ·left;omega
   ·right;rw[show min z y=y by omega];simp
  ·exact .inr (bg.2 (.inr h))
theorem uJ:∀(l:List Int) (z:Int),z<=bV z l/\∀x∈l,x<=bV z l
 |[],z=>⟨Int.le_refl _,by simp⟩
 |y::l,z=>by
  obtain⟨h1,h2⟩:=uJ l (max z y);have:bV z (y::l)=bV (max z y) l:=rfl;rw[this];refine⟨by omega,fun x hx=>?_⟩;rcases bg.1 hx with rfl|hx
  ·omega
  ·exact h2 x hx
theorem kQ:∀(l:List Int) (z:Int),bV z l=z\/bV z l∈l
 |[],z=>.inl rfl
 |y::l,z=>by
  have e:bV z (y::l)=bV (max z y) l:=rfl;rw[e];rcases kQ l (max z y)with h|h
  ·rw[h];rcases Int.le_total z y with h|h
   ·right;rw[show max z y=y by omega];simp
   ·left;omega
  ·exact .inr (bg.2 (.inr h))
structure HY{α:Type}(l:List α)(f:α->Int)(m:Int):Prop where
 le:∀x∈l,m<=f x
 at':∃x∈l,f x=m
structure IV{α:Type}(l:List α)(f:α->Int)(m:Int):Prop where
 le:∀x∈l,f x<=m
 at':∃x∈l,f x=m
theorem HY.uniq{α:Type}{l:List α}{f:α->Int}{m n:Int}(h:HY l f m)(h':HY l f n):m=n:=by obtain⟨x,hx,ex⟩:=h.at';obtain⟨y,hy,ey⟩:=h'.at';have:=h.le y hy;have:=h'.le x hx;omega
theorem IV.uniq{α:Type}{l:List α}{f:α->Int}{m n:Int}(h:IV l f m)(h':IV l f n):m=n:=by obtain⟨x,hx,ex⟩:=h.at';obtain⟨y,hy,ey⟩:=h'.at';have:=h.le y hy;have:=h'.le x hx;omega
theorem uK{α:Type}{l:List α}{f:α->Int}{z:Int}(hz:∀x∈l,f x<=z)(hn:l≠[]):HY l f (bU z (l.map f)):=by
 obtain⟨h1,h2⟩:=uI (l.map f) z;refine⟨fun x hx=>h2 _ (bz hx),?_⟩;rcases kO (l.map f) z with h|h
 ·obtain⟨y,hy⟩:=bx _ hn;have:=h2 _ (bz hy);have:=hz y hy;exact⟨y,hy,by omega⟩
 ·obtain⟨x,hx,e⟩:=bn.1 h;exact⟨x,hx,e⟩
theorem uL{α:Type}{l:List α}{f:α->Int}{z:Int}(hz:∀x∈l,z<=f x)(hn:l≠[]):IV l f (bV z (l.map f)):=by
 obtain⟨h1,h2⟩:=uJ (l.map f) z;refine⟨fun x hx=>h2 _ (bz hx),?_⟩;rcases kQ (l.map f) z with h|h
 ·obtain⟨y,hy⟩:=bx _ hn;have:=h2 _ (bz hy);have:=hz y hy;exact⟨y,hy,by omega⟩
 ·obtain⟨x,hx,e⟩:=bn.1 h;exact⟨x,hx,e⟩
theorem AH1{b:AL}(h:Valid b)(g:Nat->Int->Int)(lo:Nat->Int)(hlo:∀j (hj:j<(aw b).length),HY (aw b)[j] (g j) (lo j)):HY (BC b) (NN g 0) (TX lo 0 b.winds.length):=by
 refine⟨fun t ht=>?_,?_⟩
 ·have:=uH (g:=g) (lo:=lo) (aw b) 0 (fun j hj n hn=>by simpa using(hlo j hj).le n hn) t ((E2 h).1 (EM.1 ht));rwa [GK]at this
 ·obtain⟨t,h1,h2⟩:=pG (g:=g) (z:=lo) (aw b) 0 fun j hj=>by simpa using(hlo j hj).at'
  rw[GK]at h2;exact⟨t,EM.2 ((E2 h).2 h1),h2⟩
theorem AH2{b:AL}(h:Valid b)(g:Nat->Int->Int)(hi:Nat->Int)(hhi:∀j (hj:j<(aw b).length),IV (aw b)[j] (g j) (hi j)):IV (BC b) (NN g 0) (TX hi 0 b.winds.length):=by
 refine⟨fun t ht=>?_,?_⟩
 ·have:=kN (g:=g) (hi:=hi) (aw b) 0 (fun j hj n hn=>by simpa using(hhi j hj).le n hn) t ((E2 h).1 (EM.1 ht));rwa [GK]at this
 ·obtain⟨t,h1,h2⟩:=pG (g:=g) (z:=hi) (aw b) 0 fun j hj=>by simpa using(hhi j hj).at'
  rw[GK]at h2;exact⟨t,EM.2 ((E2 h).2 h1),h2⟩
theorem uM:∀{l:List Int} {lo:Int},J1 l=true->(∀x∈l,lo<=x/\x<=3)->lo<=4->(l.length:Int)<=4-lo
 |[],lo,_,_,h=>by simp;omega
 |[x],lo,_,h,_=>by have:=h x (by simp);simp;omega
 |x::y::r,lo,h,ha,hl=>by
  simp only[J1,bj,decide_eq_true_eq]at h;have hx:=ha x (by simp);have:∀z∈y::r,lo+1<=z/\z<=3:=by
   have key:∀(l:List Int) (y:Int),J1 (y::l)=true->∀z∈y::l,y<=z:=by
    intro l;induction l with
    |nil=>intro y _ z hz;simp at hz;omega
    |cons w l ih=>
     intro y hi z hz
     simp only[J1,bj,decide_eq_true_eq]at hi
     rcases bg.1 hz with rfl|hz
     ·omega
     ·have:=ih w hi.2 z hz;omega
   intro z hz;have h1:=key r y h.2 z hz;have h2:=ha z (List.mem_cons_of_mem _ hz);omega
  have h3:=uM h.2 this (by omega);simp only[bc]at h3|-;omega
theorem ACN{l:List Int}(h:F1 l=true):1<=l.length/\l.length<=4:=by
 simp only[F1,bj]at h;obtain⟨⟨h1,h2⟩,h3⟩:=h;have:=uM (lo:=0) h3 (fun x hx=>DV.1 (bw.1 h2 x hx)) (by omega);refine⟨?_,by omega⟩;cases l with
 |nil=>simp at h1
 |cons x l=>simp
theorem Valid.wl{b:AL}(h:Valid b):∀l∈b.winds,1<=l.length/\l.length<=4:=fun l hl=>ACN (bw.1 h.wo l hl)
theorem Valid.hl{b:AL}(h:Valid b):b.winds.length<=5:=by have:=h.la;have:=h.wi;omega
theorem uN:∀{ws:List (List Int)},(∀l∈ws,l.length<=4)->F6 ws<=4 ^ ws.length
 |[],_=>Nat.le_refl _
 |l::r,h=>by have h1:=uN (ws:=r) fun l hl=>h l (by simp[hl]);have h2:=h l (by simp);simp only[F6,bc,Nat.pow_succ];rw[Nat.mul_comm (4 ^ r.length)];exact Nat.mul_le_mul h2 h1
theorem Valid.many{b:AL}(h:Valid b):F6 b.winds<=1024:=by have h1:=uN fun l hl=>(h.wl l hl).2;have h2:4 ^ b.winds.length<=4 ^ 5:=Nat.pow_le_pow_right (by omega) h.hl;omega
def ACO(x j:Nat):List Int:=List.map (fun i:Nat=>(i:Int)) ((List.range j).filter fun i=>x.testBit i)
end Go.Wind
