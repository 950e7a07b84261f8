/- Beaches, their truths and what is so in them, plainly. No condition; no program in sight. -/
namespace Go.Wind
structure AK where
 last:Int
 rows:Int
 places:Int
 reach:Int
 face:List Int
 sun:List Int
 winds:List (List Int)
 breaks:List (Int×Int)
 notes:List (Int×Int)
def GI(n lo hi:Int):Bool:=decide (lo≤n)&&decide (n≤hi)
theorem DC{n lo hi:Int}:GI n lo hi=true↔lo≤n∧n≤hi:=by simp[GI]
def GJ(b:AK)(s:Int×Int):Bool:=GI s.1 0 (b.rows-1)&&GI s.2 0 (b.places-1)
def E4(l:List Int)(lo:Int):Bool:=l.all fun n=>GI n lo 3
def KV:List Int→Bool
 |[]=>true
 |[_]=>true
 |x::y::r=>decide (x<y)&&KV (y::r)
def GS(l:List Int):Bool:=!l.isEmpty&&E4 l 0&&KV l
def JY(b:AK)(x:Int×Int):Bool:=GI x.1 0 b.last&&GI x.2 0 3
def CV(b:AK):Int :=
 if (decide (4<b.last)||decide (3<b.rows)||decide (5<b.places)||decide (4<b.breaks.length)||decide (5<b.notes.length))=true then 3
 else if (decide (b.last<0)||decide (b.rows<1)||decide (b.places<1)||!GI b.reach 0 4||!decide ((b.face.length:Int)=b.rows)||!decide ((b.sun.length:Int)=b.last+1)||!decide ((b.winds.length:Int)=b.last+1)||!E4 b.face 0||!E4 b.sun (-1))=true then 1
 else if b.winds.all GS=false then 1 else if b.breaks.all (GJ b)=false then 1 else if b.notes.all (JY b)=false then 1 else 0
structure Valid(b:AK):Prop where
 la:0≤b.last∧b.last≤4
 ro:1≤b.rows∧b.rows≤3
 pl:1≤b.places∧b.places≤5
 re:0≤b.reach∧b.reach≤4
 br:b.breaks.length≤4
 no:b.notes.length≤5
 fa:(b.face.length:Int)=b.rows
 su:(b.sun.length:Int)=b.last+1
 wi:(b.winds.length:Int)=b.last+1
 fd:E4 b.face 0=true
 sd:E4 b.sun (-1)=true
 wo:b.winds.all GS=true
 bo:b.breaks.all (GJ b)=true
 nok:b.notes.all (JY b)=true
theorem U8{b:AK}(h:CV b=0):Valid b:=by
 unfold CV at h;split at h
 ·cases h
 split at h
 ·cases h
 split at h
 ·cases h
 split at h
 ·cases h
 split at h
 ·cases h
 rename_i h1 h2 h3 h4 h5;simp only[Bool.or_eq_true,decide_eq_true_eq,Bool.not_eq_true',decide_eq_false_iff_not,not_or,Bool.not_eq_false]at h1 h2;obtain⟨⟨⟨⟨a1,a2⟩,a3⟩,a4⟩,a5⟩:=h1;obtain⟨⟨⟨⟨⟨⟨⟨⟨c1,c2⟩,c3⟩,c4⟩,c5⟩,c6⟩,c7⟩,c8⟩,c9⟩:=h2;have:=DC.1 c4;simp only[Bool.not_eq_false]at h3 h4 h5;exact⟨⟨by omega,by omega⟩,⟨by omega,by omega⟩,⟨by omega,by omega⟩,this,by omega,by omega,Classical.not_not.1 c5,Classical.not_not.1 c6,Classical.not_not.1 c7,c8,c9,h3,h4,h5⟩
theorem PT{b:AK}(h:Valid b):CV b=0:=by
 obtain⟨la,ro,pl,re,br,no,fa,su,wi,fd,sd,wo,bo,nok⟩:=h;unfold CV;rw[if_neg,if_neg,if_neg,if_neg,if_neg]
 ·simp[nok]
 ·simp[bo]
 ·simp[wo]
 ·simp only[Bool.or_eq_true,decide_eq_true_eq,Bool.not_eq_true',decide_eq_false_iff_not,not_or,Bool.not_eq_false];exact⟨⟨⟨⟨⟨⟨⟨⟨by omega,by omega⟩,by omega⟩,DC.2 re⟩,by simpa using fa⟩,by simpa using su⟩,by simpa using wi⟩,fd⟩,sd⟩
 ·simp only[Bool.or_eq_true,decide_eq_true_eq,not_or];exact⟨⟨⟨⟨by omega,by omega⟩,by omega⟩,by omega⟩,by omega⟩
def GR:List (List Int)→Nat
 |[]=>1
 |l::r=>l.length*GR r
def EJ:List (List Int)→Nat→List Int
 |[],_=>[]
 |l::r,n=>l.getD (n % l.length) 0::EJ r (n / l.length)
def U9:List (List Int)→List (List Int)
 |[]=>[[]]
 |l::r=>l.flatMap fun x=>(U9 r).map (x::·)
def A5:List Int→List (List Int)→Bool
 |[],[]=>true
 |x::t,l::r=>decide (x∈l)&&A5 t r
 |_,_=>false
theorem CS:∀{t:List Int} {ws:List (List Int)},A5 t ws=true→t.length=ws.length
 |[],[],_=>rfl
 |x::t,l::r,h=>by simp only[A5,Bool.and_eq_true]at h;simp[CS h.2]
theorem GK:∀{t:List Int} {ws:List (List Int)},A5 t ws=true→∀h (h1:h<t.length) (h2:h<ws.length),t[h]∈ws[h]
 |x::t,l::r,hh,0,_,_=>by simp only[A5,Bool.and_eq_true,decide_eq_true_eq]at hh;exact hh.1
 |x::t,l::r,hh,h+1,h1,h2=>by simp only[A5,Bool.and_eq_true]at hh;simpa using GK hh.2 h (by simpa using h1) (by simpa using h2)
theorem M1:∀{t:List Int} {ws:List (List Int)},t.length=ws.length→(∀h (h1:h<t.length) (h2:h<ws.length),t[h]∈ws[h])→A5 t ws=true
 |[],[],_,_=>rfl
 |x::t,l::r,hl,h=>by simp only[A5,Bool.and_eq_true,decide_eq_true_eq];exact⟨h 0 (by simp) (by simp),M1 (by simpa using hl) fun j h1 h2=>h (j+1) (by simpa using h1) (by simpa using h2)⟩
theorem QZ:∀{ws:List (List Int)} {t:List Int},t∈U9 ws↔A5 t ws=true
 |[],t=>by cases t<;>simp[U9,A5]
 |l::r,t=>by
  cases t with
  |nil=>simp[U9,A5]
  |cons x t=>
   simp only[U9,List.mem_flatMap,List.mem_map,A5,Bool.and_eq_true,decide_eq_true_eq]
   constructor
   ·rintro ⟨y,hy,z,hz,e⟩;cases e;exact⟨hy,QZ.1 hz⟩
   ·rintro ⟨h1,h2⟩;exact⟨x,h1,t,QZ.2 h2,rfl⟩
theorem SY:∀{ws:List (List Int)} (_:∀l∈ws,l≠[]) (n:Nat),A5 (EJ ws n) ws=true
 |[],_,_=>rfl
 |l::r,h,n=>by have hl:0<l.length:=List.length_pos_iff.2 (h l (by simp));simp only[EJ,A5,Bool.and_eq_true,decide_eq_true_eq];have hm:n % l.length<l.length:=Nat.mod_lt _ hl;refine⟨?_,SY (fun l hl=>h l (by simp[hl])) _⟩;rw[List.getD_eq_getElem?_getD,List.getElem?_eq_getElem hm];exact List.getElem_mem hm
theorem zZ:∀{ws:List (List Int)} {t:List Int},A5 t ws=true→∃n,n<GR ws∧EJ ws n=t
 |[],[],_=>⟨0,by simp[GR],rfl⟩
 |l::r,x::t,h=>by
  simp only[A5,Bool.and_eq_true,decide_eq_true_eq]at h;obtain⟨m,h1,h2⟩:=zZ h.2;obtain⟨j,hj,hx⟩:=List.getElem_of_mem h.1;refine⟨j+l.length*m,?_,?_⟩
  ·simp only[GR];have:l.length*m+l.length≤l.length*GR r:=by rw[←Nat.mul_succ];exact Nat.mul_le_mul_left _ h1
   omega
  ·have hl:0<l.length:=by omega
   simp only[EJ,Nat.add_mul_mod_self_left,Nat.mod_eq_of_lt hj,Nat.add_mul_div_left _ _ hl,Nat.div_eq_of_lt hj,Nat.zero_add,h2];rw[List.getD_eq_getElem?_getD,List.getElem?_eq_getElem hj];simp[hx]
def atI(l:List Int)(h:Int):Int:=l.getD h.toNat 0
def KW(t:List Int)(x:Int×Int):Bool:=decide (atI t x.1=x.2)
def DA(b:AK)(t:List Int):Bool:=A5 t b.winds&&b.notes.all (KW t)
def BO(b:AK):List (List Int):=((List.range (GR b.winds)).map (EJ b.winds)).filter (DA b)
theorem Valid.ne{b:AK}(h:Valid b):∀l∈b.winds,l≠[]:=fun l hl e=>by have:=List.all_eq_true.1 h.wo l hl;subst e;simp[GS]at this
theorem EU{b:AK}{t:List Int}:t∈BO b↔DA b t=true:=by
 unfold BO;rw[List.mem_filter,List.mem_map];constructor
 ·exact fun h=>h.2
 ·intro ht;refine⟨?_,ht⟩;simp only[DA,Bool.and_eq_true]at ht;obtain⟨n,h1,h2⟩:=zZ ht.1;exact⟨n,List.mem_range.2 h1,h2⟩
def CP(p:List (List Int))(h r:Nat):Int:=(p.getD h []).getD r 0
def D4(s:Int×Int)(wind:Int)(j:Int):Int×Int:=if wind=0 then(s.1-j,s.2) else if wind=1 then(s.1,s.2+j) else if wind=2 then(s.1+j,s.2) else if wind=3 then(s.1,s.2-j) else s
def shR(b:AK)(s:Int×Int)(face wind:Int):Bool:=decide ((face+2) % 4=wind)||(List.range b.reach.toNat).any fun i=>b.breaks.any fun k=>decide (k=D4 s wind (i+1))
def lK(s k:Int×Int)(wind:Int):Int:=if wind=0∧k.2=s.2 then s.1-k.1 else if wind=2∧k.2=s.2 then k.1-s.1 else if wind=3∧k.1=s.1 then s.2-k.2 else if wind=1∧k.1=s.1 then k.2-s.2 else 0
def VA(b:AK)(s:Int×Int)(wind:Int):Bool:=b.breaks.any fun k=>GI (lK s k wind) 1 b.reach
def VB(b:AK)(s:Int×Int)(face wind:Int):Bool:=decide (face=(wind+2) % 4)||VA b s wind
theorem AAB{s k:Int×Int}{wind R:Int}(hw:GI wind 0 3=true):GI (lK s k wind) 1 R=true↔∃i:Nat,(i:Int)<R∧k=D4 s wind (i+1):=by
 obtain⟨s1,s2⟩:=s;obtain⟨k1,k2⟩:=k;rw[DC]at hw⊢;have:wind=0∨wind=1∨wind=2∨wind=3:=by omega
 rcases this with rfl|rfl|rfl|rfl
 ·simp only[lK,D4,true_and,if_true,Prod.mk.injEq];constructor
  ·intro h;split at h
   ·exact⟨(s1-k1-1).toNat,by omega,by omega,by omega⟩
   ·simp at h
  ·rintro ⟨i,h1,h2,h3⟩;rw[if_pos h3];omega
 ·simp only[lK,D4,true_and,if_true,Prod.mk.injEq,show ¬((1:Int)=0) by decide,show ¬((1:Int)=2) by decide,show ¬((1:Int)=3) by decide,false_and,if_false];constructor
  ·intro h;split at h
   ·exact⟨(k2-s2-1).toNat,by omega,by omega,by omega⟩
   ·omega
  ·rintro ⟨i,h1,h2,h3⟩;rw[if_pos h2];omega
 ·simp only[lK,D4,true_and,if_true,Prod.mk.injEq,show ¬((2:Int)=0) by decide,show ¬((2:Int)=1) by decide,show ¬((2:Int)=3) by decide,false_and,if_false];constructor
  ·intro h;split at h
   ·exact⟨(k1-s1-1).toNat,by omega,by omega,by omega⟩
   ·omega
  ·rintro ⟨i,h1,h2,h3⟩;rw[if_pos h3];omega
 ·simp only[lK,D4,true_and,if_true,Prod.mk.injEq,show ¬((3:Int)=0) by decide,show ¬((3:Int)=1) by decide,show ¬((3:Int)=2) by decide,false_and,if_false];constructor
  ·intro h;split at h
   ·exact⟨(s2-k2-1).toNat,by omega,by omega,by omega⟩
   ·omega
  ·rintro ⟨i,h1,h2,h3⟩;rw[if_pos h2];omega
theorem uZ{b:AK}{s:Int×Int}{wind:Int}(hw:GI wind 0 3=true):VA b s wind=true↔∃i:Nat,(i:Int)<b.reach∧D4 s wind (i+1)∈b.breaks:=by
 unfold VA;rw[List.any_eq_true];constructor
 ·rintro ⟨k,hk,h⟩;obtain⟨i,h1,rfl⟩:=(AAB hw).1 h;exact⟨i,h1,hk⟩
 ·rintro ⟨i,h1,h2⟩;exact⟨_,h2,(AAB hw).2 ⟨i,h1,rfl⟩⟩
theorem AOI{f w:Int}(hf:GI f 0 3=true)(hw:GI w 0 3=true):((f+2) % 4=w)=(f=(w+2) % 4):=by rw[DC]at hf hw;apply propext;omega
theorem BA6{b:AK}{s:Int×Int}{f w:Int}(hf:GI f 0 3=true)(hw:GI w 0 3=true):shR b s f w=VB b s f w:=by
 unfold shR VB;simp only[AOI hf hw];congr 1;rw[Bool.eq_iff_iff,uZ hw,List.any_eq_true];constructor
 ·rintro ⟨i,hi,h⟩;simp only[List.any_eq_true,decide_eq_true_eq]at h;obtain⟨k,hk,rfl⟩:=h;exact⟨i,by have:=List.mem_range.1 hi;omega,hk⟩
 ·rintro ⟨i,h1,h2⟩;exact⟨i,List.mem_range.2 (by omega),List.any_eq_true.2 ⟨_,h2,by simp⟩⟩
def nQ(f:Nat→Bool):Nat→Nat
 |0=>0
 |n+1=>nQ f n+(if f n=true then 1 else 0)
theorem PU(f:Nat→Bool):∀n,nQ f n≤n
 |0=>Nat.le_refl _
 |n+1=>by have:=PU f n;simp only[nQ];split<;>omega
theorem bY{f g:Nat→Bool}:∀{n:Nat},(∀h,h<n→f h=true→g h=true)→nQ f n≤nQ g n
 |0,_=>Nat.le_refl _
 |n+1,h=>by have:=bY (n:=n) fun j hj=>h j (by omega);have:=h n (by omega);simp only[nQ];split<;>split<;>simp_all;all_goals omega
theorem iU{f g:Nat→Bool}{n:Nat}(h:∀j,j<n→f j=g j):nQ f n=nQ g n :=
 Nat.le_antisymm (bY fun j hj e=>by rw[←h j hj];exact e) (bY fun j hj e=>by rw[h j hj];exact e)
def MK(b:AK)(plan:List (List Int))(r h:Nat):Bool:=decide (CP plan h r=b.sun.getD h 0)
structure JO where
 sun:Int
 calm:Int
 good:Int
deriving DecidableEq
def HY(calm:Nat→Bool)(lit:Nat→Bool)(n:Nat):JO:=⟨nQ lit n,nQ calm n,nQ (fun h=>lit h&&calm h) n⟩
def WZ(b:AK)(plan:List (List Int))(t:List Int)(r p h:Nat):Bool:=VB b (r,p) (CP plan h r) (t.getD h 0)
def B8(b:AK)(plan:List (List Int))(t:List Int)(r p:Nat):JO:=HY (WZ b plan t r p) (MK b plan r) t.length
def AH0(b:AK)(plan:List (List Int))(t:List Int)(r p:Nat):JO:=HY (fun h=>shR b (r,p) (CP plan h r) (t.getD h 0)) (MK b plan r) t.length
def EF(b:AK)(plan:List (List Int)):Bool:=(plan.all fun l=>decide ((l.length:Int)=b.rows)&&E4 l 0)&&decide ((plan.length:Int)=b.last+1)
structure FY(b:AK)(plan:List (List Int)):Prop where
 len:(plan.length:Int)=b.last+1
 row:∀h,h<plan.length→((plan.getD h []).length:Int)=b.rows
 dir:∀h r,h<plan.length→r<(plan.getD h []).length→GI (CP plan h r) 0 3=true
theorem AAC{b:AK}{plan:List (List Int)}(h:EF b plan=true):FY b plan:=by
 simp only[EF,Bool.and_eq_true,List.all_eq_true,decide_eq_true_eq]at h;obtain⟨h1,h2⟩:=h;refine⟨h2,fun j hj=>?_,fun j r hj hr=>?_⟩
 ·rw[List.getD_eq_getElem?_getD,List.getElem?_eq_getElem hj];exact(h1 _ (List.getElem_mem hj)).1
 ·have:=(h1 _ (List.getElem_mem hj)).2;have e:plan.getD j []=plan[j]:=by rw[List.getD_eq_getElem?_getD,List.getElem?_eq_getElem hj];rfl
  unfold CP;rw[e]at hr⊢;rw[List.getD_eq_getElem?_getD,List.getElem?_eq_getElem hr];exact List.all_eq_true.1 this _ (List.getElem_mem hr)
theorem AH1{b:AK}(h:Valid b){j:Nat}(hj:j<b.winds.length){n:Int}(hn:n∈b.winds[j]):GI n 0 3=true:=by have:=List.all_eq_true.1 h.wo _ (List.getElem_mem hj);simp only[GS,Bool.and_eq_true]at this;exact List.all_eq_true.1 this.1.2 n hn
theorem SZ{b:AK}(h:Valid b){t:List Int}(ht:A5 t b.winds=true){j:Nat}(hj:j<t.length):GI (t.getD j 0) 0 3=true:=by have hl:=CS ht;rw[List.getD_eq_getElem?_getD,List.getElem?_eq_getElem hj];exact AH1 h (by omega) (GK ht j hj (by omega))
theorem AH2{b:AK}{plan:List (List Int)}{t:List Int}(h:Valid b)(hp:FY b plan)(ht:A5 t b.winds=true){r:Nat}(hr:(r:Int)<b.rows)(p:Nat):B8 b plan t r p=AH0 b plan t r p:=by
 have hl:=CS ht;have h1:=hp.len;have h2:=h.wi;have key:∀j,j<t.length→WZ b plan t r p j=shR b (r,p) (CP plan j r) (t.getD j 0):=fun j hj=>by unfold WZ;have:=hp.row j (by omega);rw[BA6 (hp.dir j r (by omega) (by omega)) (SZ h ht hj)]
 unfold B8 AH0 HY;congr 1
 ·rw[iU key]
 ·rw[iU fun j hj=>by rw[key j hj]]
def AH3(b:AK)(h:Nat)(l:List Int):List Int:=l.filter fun n=>b.notes.all fun x=>!decide (x.1=h)||decide (x.2=n)
def pH(b:AK):Nat→List (List Int)→List (List Int)
 |_,[]=>[]
 |h,l::r=>AH3 b h l::pH b (h+1) r
def aw(b:AK):List (List Int):=pH b 0 b.winds
theorem pI(b:AK):∀(h:Nat) (ws:List (List Int)),(pH b h ws).length=ws.length
 |_,[]=>rfl
 |h,l::r=>by simp[pH,pI b (h+1) r]
theorem pJ(b:AK):∀(h:Nat) (ws:List (List Int)) (j:Nat) (h1:j<(pH b h ws).length) (h2:j<ws.length),(pH b h ws)[j]=AH3 b (h+j) ws[j]
 |h,l::r,0,_,_=>rfl
 |h,l::r,j+1,h1,h2=>by have:=pJ b (h+1) r j (by simpa [pH]using h1) (by simpa using h2);simp only[pH,List.getElem_cons_succ,this];rw[show h+1+j=h+(j+1) by omega]
theorem HA(b:AK):(aw b).length=b.winds.length:=pI b 0 _
theorem vA(b:AK)(j:Nat)(h1:j<(aw b).length)(h2:j<b.winds.length):(aw b)[j]=AH3 b j b.winds[j]:=by have:=pJ b 0 b.winds j h1 h2;rwa [Nat.zero_add]at this
theorem FQ{b:AK}(h:Valid b){t:List Int}:DA b t=true↔A5 t (aw b)=true:=by
 unfold DA;rw[Bool.and_eq_true,List.all_eq_true];have wi:=h.wi;constructor
 ·rintro ⟨h1,h2⟩;have hl:=CS h1;refine M1 (by rw[HA,hl]) fun j j1 j2=>?_;rw[vA b j j2 (by omega)];refine List.mem_filter.2 ⟨GK h1 j j1 (by omega),List.all_eq_true.2 fun x hx=>?_⟩;by_cases e:x.1=(j:Int)
  ·have:=h2 x hx;simp only[KW,atI,e,Int.toNat_natCast,List.getD_eq_getElem?_getD,List.getElem?_eq_getElem j1,Option.getD_some,decide_eq_true_eq]at this;simp[this]
  ·simp[e]
 ·intro h1;have hl:=CS h1;rw[HA]at hl;refine⟨M1 hl fun j j1 j2=>?_,fun x hx=>?_⟩
  ·have:=GK h1 j j1 (by rw[HA];exact j2);rw[vA b j _ j2]at this;exact(List.mem_filter.1 this).1
  ·have hn:=List.all_eq_true.1 h.nok x hx;simp only[JY,Bool.and_eq_true,DC]at hn;obtain⟨⟨n1,n2⟩,_⟩:=hn;have hj:x.1.toNat<t.length:=by omega
   have:=GK h1 x.1.toNat hj (by rw[HA];omega);rw[vA b _ _ (by omega)]at this;have:=List.all_eq_true.1 (List.mem_filter.1 this).2 x hx;have e:x.1=((x.1.toNat:Nat):Int):=by omega
   simp only[←e,decide_true,Bool.not_true,Bool.false_or,decide_eq_true_eq]at this;simp only[KW,atI,List.getD_eq_getElem?_getD,List.getElem?_eq_getElem hj,Option.getD_some,decide_eq_true_eq];exact this.symm
theorem AC3{b:AK}(h:Valid b):BO b≠[]↔∀l∈aw b,l≠[]:=by
 constructor
 ·intro he l hl;obtain⟨t,ht⟩:=List.exists_mem_of_ne_nil _ he;have:=(FQ h).1 (EU.1 ht);obtain⟨j,hj,rfl⟩:=List.getElem_of_mem hl;have:=GK this j (by rw[CS this];exact hj) hj;exact List.ne_nil_of_mem this
 ·intro ha;have:=SY ha 0;exact List.ne_nil_of_mem (EU.2 ((FQ h).2 this))
def PV(g:Nat→Int→Int):Nat→List Int→Int
 |_,[]=>0
 |h,x::t=>g h x+PV g (h+1) t
def W0(g:Nat→Int):Nat→Nat→Int
 |_,0=>0
 |h,n+1=>g h+W0 g (h+1) n
theorem AAD{g:Nat→Int→Int}{lo:Nat→Int}:∀(A:List (List Int)) (h:Nat),(∀j (hj:j<A.length),∀n∈A[j],lo (h+j)≤g (h+j) n)→∀t,A5 t A=true→W0 lo h A.length≤PV g h t
 |[],h,_,[],_=>Int.le_refl _
 |l::r,h,hA,x::t,ht=>by simp only[A5,Bool.and_eq_true,decide_eq_true_eq]at ht;have h1:=hA 0 (by simp) x ht.1;have h2:=AAD r (h+1) (fun j hj n hn=>by have:=hA (j+1) (by simpa using hj) n hn;rwa [show h+(j+1)=h+1+j by omega]at this) t ht.2;simp only[List.length_cons,W0,PV];simp only[Nat.add_zero]at h1;omega
theorem pK{g:Nat→Int→Int}{hi:Nat→Int}:∀(A:List (List Int)) (h:Nat),(∀j (hj:j<A.length),∀n∈A[j],g (h+j) n≤hi (h+j))→∀t,A5 t A=true→PV g h t≤W0 hi h A.length
 |[],h,_,[],_=>Int.le_refl _
 |l::r,h,hA,x::t,ht=>by simp only[A5,Bool.and_eq_true,decide_eq_true_eq]at ht;have h1:=hA 0 (by simp) x ht.1;have h2:=pK r (h+1) (fun j hj n hn=>by have:=hA (j+1) (by simpa using hj) n hn;rwa [show h+(j+1)=h+1+j by omega]at this) t ht.2;simp only[List.length_cons,W0,PV];simp only[Nat.add_zero]at h1;omega
theorem vB{g:Nat→Int→Int}{z:Nat→Int}:∀(A:List (List Int)) (h:Nat),(∀j (hj:j<A.length),∃n∈A[j],g (h+j) n=z (h+j))→∃t,A5 t A=true∧PV g h t=W0 z h A.length
 |[],h,_=>⟨[],rfl,rfl⟩
 |l::r,h,hA=>by
  obtain⟨n,hn,he⟩:=hA 0 (by simp);obtain⟨t,ht,hs⟩:=vB r (h+1) fun j hj=>by obtain⟨n,h1,h2⟩:=hA (j+1) (by simpa using hj);exact⟨n,h1,by rwa [show h+(j+1)=h+1+j by omega]at h2⟩
  refine⟨n::t,?_,?_⟩
  ·simp only[A5,Bool.and_eq_true,decide_eq_true_eq];exact⟨hn,ht⟩
  ·simp only[Nat.add_zero]at he;simp only[List.length_cons,W0,PV,he,hs]
def gK(z:Int)(l:List Int):Int:=l.foldl min z
def gL(z:Int)(l:List Int):Int:=l.foldl max z
theorem AAE:∀(l:List Int) (z:Int),gK z l≤z∧∀x∈l,gK z l≤x
 |[],z=>⟨Int.le_refl _,by simp⟩
 |y::l,z=>by
  obtain⟨h1,h2⟩:=AAE l (min z y);have:gK z (y::l)=gK (min z y) l:=rfl;rw[this];refine⟨by omega,fun x hx=>?_⟩;rcases List.mem_cons.1 hx with rfl|hx
  ·omega
  ·exact h2 x hx
theorem pL:∀(l:List Int) (z:Int),gK z l=z∨gK z l∈l
 |[],z=>.inl rfl
 |y::l,z=>by
  have e:gK z (y::l)=gK (min z y) l:=rfl;rw[e];rcases pL l (min z y)with h|h
  ·rw[h];rcases Int.le_total z y with h|h
   ·left;omega
   ·right;rw[show min z y=y by omega];simp
  ·exact .inr (List.mem_cons.2 (.inr h))
theorem AAF:∀(l:List Int) (z:Int),z≤gL z l∧∀x∈l,x≤gL z l
 |[],z=>⟨Int.le_refl _,by simp⟩
 |y::l,z=>by
  obtain⟨h1,h2⟩:=AAF l (max z y);have:gL z (y::l)=gL (max z y) l:=rfl;rw[this];refine⟨by omega,fun x hx=>?_⟩;rcases List.mem_cons.1 hx with rfl|hx
  ·omega
  ·exact h2 x hx
theorem pM:∀(l:List Int) (z:Int),gL z l=z∨gL z l∈l
 |[],z=>.inl rfl
 |y::l,z=>by
  have e:gL z (y::l)=gL (max z y) l:=rfl;rw[e];rcases pM l (max z y)with h|h
  ·rw[h];rcases Int.le_total z y with h|h
   ·right;rw[show max z y=y by omega];simp
   ·left;omega
  ·exact .inr (List.mem_cons.2 (.inr h))
structure HG{α:Type}(l:List α)(f:α→Int)(m:Int):Prop where
 le:∀x∈l,m≤f x
 at':∃x∈l,f x=m
structure HX{α:Type}(l:List α)(f:α→Int)(m:Int):Prop where
 le:∀x∈l,f x≤m
 at':∃x∈l,f x=m
theorem HG.uniq{α:Type}{l:List α}{f:α→Int}{m n:Int}(h:HG l f m)(h':HG l f n):m=n:=by obtain⟨x,hx,ex⟩:=h.at';obtain⟨y,hy,ey⟩:=h'.at';have:=h.le y hy;have:=h'.le x hx;omega
theorem HX.uniq{α:Type}{l:List α}{f:α→Int}{m n:Int}(h:HX l f m)(h':HX l f n):m=n:=by obtain⟨x,hx,ex⟩:=h.at';obtain⟨y,hy,ey⟩:=h'.at';have:=h.le y hy;have:=h'.le x hx;omega
theorem AAG{α:Type}{l:List α}{f:α→Int}{z:Int}(hz:∀x∈l,f x≤z)(hn:l≠[]):HG l f (gK z (l.map f)):=by
 obtain⟨h1,h2⟩:=AAE (l.map f) z;refine⟨fun x hx=>h2 _ (List.mem_map_of_mem hx),?_⟩;rcases pL (l.map f) z with h|h
 ·obtain⟨y,hy⟩:=List.exists_mem_of_ne_nil _ hn;have:=h2 _ (List.mem_map_of_mem hy);have:=hz y hy;exact⟨y,hy,by omega⟩
 ·obtain⟨x,hx,e⟩:=List.mem_map.1 h;exact⟨x,hx,e⟩
theorem AAH{α:Type}{l:List α}{f:α→Int}{z:Int}(hz:∀x∈l,z≤f x)(hn:l≠[]):HX l f (gL z (l.map f)):=by
 obtain⟨h1,h2⟩:=AAF (l.map f) z;refine⟨fun x hx=>h2 _ (List.mem_map_of_mem hx),?_⟩;rcases pM (l.map f) z with h|h
 ·obtain⟨y,hy⟩:=List.exists_mem_of_ne_nil _ hn;have:=h2 _ (List.mem_map_of_mem hy);have:=hz y hy;exact⟨y,hy,by omega⟩
 ·obtain⟨x,hx,e⟩:=List.mem_map.1 h;exact⟨x,hx,e⟩
theorem AOJ{b:AK}(h:Valid b)(g:Nat→Int→Int)(lo:Nat→Int)(hlo:∀j (hj:j<(aw b).length),HG (aw b)[j] (g j) (lo j)):HG (BO b) (PV g 0) (W0 lo 0 b.winds.length):=by
 refine⟨fun t ht=>?_,?_⟩
 ·have:=AAD (g:=g) (lo:=lo) (aw b) 0 (fun j hj n hn=>by simpa using(hlo j hj).le n hn) t ((FQ h).1 (EU.1 ht));rwa [HA]at this
 ·obtain⟨t,h1,h2⟩:=vB (g:=g) (z:=lo) (aw b) 0 fun j hj=>by simpa using(hlo j hj).at'
  rw[HA]at h2;exact⟨t,EU.2 ((FQ h).2 h1),h2⟩
theorem AOK{b:AK}(h:Valid b)(g:Nat→Int→Int)(hi:Nat→Int)(hhi:∀j (hj:j<(aw b).length),HX (aw b)[j] (g j) (hi j)):HX (BO b) (PV g 0) (W0 hi 0 b.winds.length):=by
 refine⟨fun t ht=>?_,?_⟩
 ·have:=pK (g:=g) (hi:=hi) (aw b) 0 (fun j hj n hn=>by simpa using(hhi j hj).le n hn) t ((FQ h).1 (EU.1 ht));rwa [HA]at this
 ·obtain⟨t,h1,h2⟩:=vB (g:=g) (z:=hi) (aw b) 0 fun j hj=>by simpa using(hhi j hj).at'
  rw[HA]at h2;exact⟨t,EU.2 ((FQ h).2 h1),h2⟩
theorem AAI:∀{l:List Int} {lo:Int},KV l=true→(∀x∈l,lo≤x∧x≤3)→lo≤4→(l.length:Int)≤4-lo
 |[],lo,_,_,h=>by simp;omega
 |[x],lo,_,h,_=>by have:=h x (by simp);simp;omega
 |x::y::r,lo,h,ha,hl=>by
  simp only[KV,Bool.and_eq_true,decide_eq_true_eq]at h;have hx:=ha x (by simp);have:∀z∈y::r,lo+1≤z∧z≤3:=by
   have key:∀(l:List Int) (y:Int),KV (y::l)=true→∀z∈y::l,y≤z:=by
    intro l;induction l with
    |nil=>intro y _ z hz;simp at hz;omega
    |cons w l ih=>
     intro y hi z hz
     simp only[KV,Bool.and_eq_true,decide_eq_true_eq]at hi
     rcases List.mem_cons.1 hz with rfl|hz
     ·omega
     ·have:=ih w hi.2 z hz;omega
   intro z hz;have h1:=key r y h.2 z hz;have h2:=ha z (List.mem_cons_of_mem _ hz);omega
  have h3:=AAI h.2 this (by omega);simp only[List.length_cons]at h3⊢;omega
theorem AH4{l:List Int}(h:GS l=true):1≤l.length∧l.length≤4:=by
 simp only[GS,Bool.and_eq_true]at h;obtain⟨⟨h1,h2⟩,h3⟩:=h;have:=AAI (lo:=0) h3 (fun x hx=>DC.1 (List.all_eq_true.1 h2 x hx)) (by omega);refine⟨?_,by omega⟩;cases l with
 |nil=>simp at h1
 |cons x l=>simp
theorem Valid.wl{b:AK}(h:Valid b):∀l∈b.winds,1≤l.length∧l.length≤4:=fun l hl=>AH4 (List.all_eq_true.1 h.wo l hl)
theorem Valid.hl{b:AK}(h:Valid b):b.winds.length≤5:=by have:=h.la;have:=h.wi;omega
theorem AAJ:∀{ws:List (List Int)},(∀l∈ws,l.length≤4)→GR ws≤4 ^ ws.length
 |[],_=>Nat.le_refl _
 |l::r,h=>by have h1:=AAJ (ws:=r) fun l hl=>h l (by simp[hl]);have h2:=h l (by simp);simp only[GR,List.length_cons,Nat.pow_succ];rw[Nat.mul_comm (4 ^ r.length)];exact Nat.mul_le_mul h2 h1
theorem Valid.many{b:AK}(h:Valid b):GR b.winds≤1024:=by have h1:=AAJ fun l hl=>(h.wl l hl).2;have h2:4 ^ b.winds.length≤4 ^ 5:=Nat.pow_le_pow_right (by omega) h.hl;omega
def FZ(ws:List Nat)(k:Nat):Nat:=if ws.length=0 then 0 else ws.getD (k % ws.length) 0
theorem AOL{ws:List Nat}(h:∀w∈ws,w≤65535)(k:Nat):FZ ws k≤65535:=by
 unfold FZ;split
 ·omega
 ·rename_i hz;have:k % ws.length<ws.length:=Nat.mod_lt _ (by omega);rw[List.getD_eq_getElem?_getD,List.getElem?_eq_getElem this];exact h _ (List.getElem_mem this)
def BA7(ws:List Nat)(h r:Nat):Int:=((FZ ws h / 2 ^ (2*r) % 4:Nat):Int)
def AOM(ws:List Nat)(h n:Nat):List Int:=(List.range n).map (BA7 ws h)
def BA8(ws:List Nat)(R H:Nat):List (List Int):=(List.range H).map fun h=>AOM ws h R
def BHD(b:AK)(ws:List Nat):List (List Int):=BA8 ws b.rows.toNat (b.last+1).toNat
def AXN(p:List (List Int))(t:List Int)(r h:Nat):Bool:=decide ((CP p h r+2) % 4=t.getD h 0)
def BXE(b:AK)(p:List (List Int))(t:List Int)(r n:Nat):JO:=HY (AXN p t r) (MK b p r) n
def BXF(b:AK):AK:={ b with breaks:=[] }
def BXG(b:AK):AK:={ b with reach:=0 }
def F5(x j:Nat):List Int:=List.map (fun i:Nat=>(i:Int)) ((List.range j).filter fun i=>x.testBit i)
theorem AON(x j:Nat):decide ((((x / 2 ^ j:Nat):Int).tmod 2)=1)=x.testBit j:=by rw[show((x / 2 ^ j:Nat):Int).tmod 2=((x / 2 ^ j % 2:Nat):Int) from(Int.ofNat_tmod _ 2).symm,Nat.testBit_eq_decide_div_mod_eq];congr 1;exact propext ⟨fun h=>by omega,fun h=>by omega⟩
end Go.Wind
