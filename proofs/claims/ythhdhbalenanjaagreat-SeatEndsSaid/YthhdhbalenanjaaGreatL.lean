/- Beaches, their truths and what is so in them, plainly. No condition; no program in sight. -/
namespace Go.Wind
structure AJ where
 last:Int
 rows:Int
 places:Int
 reach:Int
 face:List Int
 sun:List Int
 winds:List (List Int)
 breaks:List (Int×Int)
 notes:List (Int×Int)
def FN(n lo hi:Int):Bool:=decide (lo≤n)&&decide (n≤hi)
theorem DS{n lo hi:Int}:FN n lo hi=true↔lo≤n∧n≤hi:=by simp[FN]
def FO(b:AJ)(s:Int×Int):Bool:=FN s.1 0 (b.rows-1)&&FN s.2 0 (b.places-1)
def EE(l:List Int)(lo:Int):Bool:=l.all fun n=>FN n lo 3
def JT:List Int→Bool
 |[]=>true
 |[_]=>true
 |x::y::r=>decide (x<y)&&JT (y::r)
def FZ(l:List Int):Bool:=!l.isEmpty&&EE l 0&&JT l
def JU(b:AJ)(x:Int×Int):Bool:=FN x.1 0 b.last&&FN x.2 0 3
def CI(b:AJ):Int :=
 if (decide (4<b.last)||decide (3<b.rows)||decide (5<b.places)||decide (4<b.breaks.length)||decide (5<b.notes.length))=true then 3
 else if (decide (b.last<0)||decide (b.rows<1)||decide (b.places<1)||!FN b.reach 0 4||!decide ((b.face.length:Int)=b.rows)||!decide ((b.sun.length:Int)=b.last+1)||!decide ((b.winds.length:Int)=b.last+1)||!EE b.face 0||!EE b.sun (-1))=true then 1
 else if b.winds.all FZ=false then 1 else if b.breaks.all (FO b)=false then 1 else if b.notes.all (JU b)=false then 1 else 0
structure Valid(b:AJ):Prop where
 la:0≤b.last∧b.last≤4
 ro:1≤b.rows∧b.rows≤3
 pl:1≤b.places∧b.places≤5
 re:0≤b.reach∧b.reach≤4
 br:b.breaks.length≤4
 no:b.notes.length≤5
 fa:(b.face.length:Int)=b.rows
 su:(b.sun.length:Int)=b.last+1
 wi:(b.winds.length:Int)=b.last+1
 fd:EE b.face 0=true
 sd:EE b.sun (-1)=true
 wo:b.winds.all FZ=true
 bo:b.breaks.all (FO b)=true
 nok:b.notes.all (JU b)=true
theorem N9{b:AJ}(h:CI b=0):Valid b:=by
 unfold CI at h;split at h
 ·cases h
 split at h
 ·cases h
 split at h
 ·cases h
 split at h
 ·cases h
 split at h
 ·cases h
 rename_i h1 h2 h3 h4 h5;simp only[Bool.or_eq_true,decide_eq_true_eq,Bool.not_eq_true',decide_eq_false_iff_not,not_or,Bool.not_eq_false]at h1 h2;obtain⟨⟨⟨⟨a1,a2⟩,a3⟩,a4⟩,a5⟩:=h1;obtain⟨⟨⟨⟨⟨⟨⟨⟨c1,c2⟩,c3⟩,c4⟩,c5⟩,c6⟩,c7⟩,c8⟩,c9⟩:=h2;have:=DS.1 c4;simp only[Bool.not_eq_false]at h3 h4 h5;exact⟨⟨by omega,by omega⟩,⟨by omega,by omega⟩,⟨by omega,by omega⟩,this,by omega,by omega,Classical.not_not.1 c5,Classical.not_not.1 c6,Classical.not_not.1 c7,c8,c9,h3,h4,h5⟩
theorem JV{b:AJ}(h:Valid b):CI b=0:=by
 obtain⟨la,ro,pl,re,br,no,fa,su,wi,fd,sd,wo,bo,nok⟩:=h;unfold CI;rw[if_neg,if_neg,if_neg,if_neg,if_neg]
 ·simp[nok]
 ·simp[bo]
 ·simp[wo]
 ·simp only[Bool.or_eq_true,decide_eq_true_eq,Bool.not_eq_true',decide_eq_false_iff_not,not_or,Bool.not_eq_false];exact⟨⟨⟨⟨⟨⟨⟨⟨by omega,by omega⟩,by omega⟩,DS.2 re⟩,by simpa using fa⟩,by simpa using su⟩,by simpa using wi⟩,fd⟩,sd⟩
 ·simp only[Bool.or_eq_true,decide_eq_true_eq,not_or];exact⟨⟨⟨⟨by omega,by omega⟩,by omega⟩,by omega⟩,by omega⟩
def FV:List (List Int)→Nat
 |[]=>1
 |l::r=>l.length*FV r
def DW:List (List Int)→Nat→List Int
 |[],_=>[]
 |l::r,n=>l.getD (n % l.length) 0::DW r (n / l.length)
def S4:List (List Int)→List (List Int)
 |[]=>[[]]
 |l::r=>l.flatMap fun x=>(S4 r).map (x::·)
def AV:List Int→List (List Int)→Bool
 |[],[]=>true
 |x::t,l::r=>decide (x∈l)&&AV t r
 |_,_=>false
theorem BZ:∀{t:List Int} {ws:List (List Int)},AV t ws=true→t.length=ws.length
 |[],[],_=>rfl
 |x::t,l::r,h=>by simp only[AV,Bool.and_eq_true]at h;simp[BZ h.2]
theorem UO:∀{t:List Int} {ws:List (List Int)},AV t ws=true→∀h (h1:h<t.length) (h2:h<ws.length),t[h]∈ws[h]
 |x::t,l::r,hh,0,_,_=>by simp only[AV,Bool.and_eq_true,decide_eq_true_eq]at hh;exact hh.1
 |x::t,l::r,hh,h+1,h1,h2=>by simp only[AV,Bool.and_eq_true]at hh;simpa using UO hh.2 h (by simpa using h1) (by simpa using h2)
theorem cS:∀{t:List Int} {ws:List (List Int)},t.length=ws.length→(∀h (h1:h<t.length) (h2:h<ws.length),t[h]∈ws[h])→AV t ws=true
 |[],[],_,_=>rfl
 |x::t,l::r,hl,h=>by simp only[AV,Bool.and_eq_true,decide_eq_true_eq];exact⟨h 0 (by simp) (by simp),cS (by simpa using hl) fun j h1 h2=>h (j+1) (by simpa using h1) (by simpa using h2)⟩
theorem PK:∀{ws:List (List Int)} {t:List Int},t∈S4 ws↔AV t ws=true
 |[],t=>by cases t<;>simp[S4,AV]
 |l::r,t=>by
  cases t with
  |nil=>simp[S4,AV]
  |cons x t=>
   simp only[S4,List.mem_flatMap,List.mem_map,AV,Bool.and_eq_true,decide_eq_true_eq]
   constructor
   ·rintro ⟨y,hy,z,hz,e⟩;cases e;exact⟨hy,PK.1 hz⟩
   ·rintro ⟨h1,h2⟩;exact⟨x,h1,t,PK.2 h2,rfl⟩
theorem YI:∀{ws:List (List Int)} (_:∀l∈ws,l≠[]) (n:Nat),AV (DW ws n) ws=true
 |[],_,_=>rfl
 |l::r,h,n=>by have hl:0<l.length:=List.length_pos_iff.2 (h l (by simp));simp only[DW,AV,Bool.and_eq_true,decide_eq_true_eq];have hm:n % l.length<l.length:=Nat.mod_lt _ hl;refine⟨?_,YI (fun l hl=>h l (by simp[hl])) _⟩;rw[List.getD_eq_getElem?_getD,List.getElem?_eq_getElem hm];exact List.getElem_mem hm
theorem tD:∀{ws:List (List Int)} {t:List Int},AV t ws=true→∃n,n<FV ws∧DW ws n=t
 |[],[],_=>⟨0,by simp[FV],rfl⟩
 |l::r,x::t,h=>by
  simp only[AV,Bool.and_eq_true,decide_eq_true_eq]at h;obtain⟨m,h1,h2⟩:=tD h.2;obtain⟨j,hj,hx⟩:=List.getElem_of_mem h.1;refine⟨j+l.length*m,?_,?_⟩
  ·simp only[FV];have:l.length*m+l.length≤l.length*FV r:=by rw[←Nat.mul_succ];exact Nat.mul_le_mul_left _ h1
   omega
  ·have hl:0<l.length:=by omega
   simp only[DW,Nat.add_mul_mod_self_left,Nat.mod_eq_of_lt hj,Nat.add_mul_div_left _ _ hl,Nat.div_eq_of_lt hj,Nat.zero_add,h2];rw[List.getD_eq_getElem?_getD,List.getElem?_eq_getElem hj];simp[hx]
def atI(l:List Int)(h:Int):Int:=l.getD h.toNat 0
def K4(t:List Int)(x:Int×Int):Bool:=decide (atI t x.1=x.2)
def CS(b:AJ)(t:List Int):Bool:=AV t b.winds&&b.notes.all (K4 t)
def BU(b:AJ):List (List Int):=((List.range (FV b.winds)).map (DW b.winds)).filter (CS b)
theorem Valid.ne{b:AJ}(h:Valid b):∀l∈b.winds,l≠[]:=fun l hl e=>by have:=List.all_eq_true.1 h.wo l hl;subst e;simp[FZ]at this
theorem H1{b:AJ}{t:List Int}:t∈BU b↔CS b t=true:=by
 unfold BU;rw[List.mem_filter,List.mem_map];constructor
 ·exact fun h=>h.2
 ·intro ht;refine⟨?_,ht⟩;simp only[CS,Bool.and_eq_true]at ht;obtain⟨n,h1,h2⟩:=tD ht.1;exact⟨n,List.mem_range.2 h1,h2⟩
def CB(p:List (List Int))(h r:Nat):Int:=(p.getD h []).getD r 0
def DI(s:Int×Int)(wind:Int)(j:Int):Int×Int:=if wind=0 then(s.1-j,s.2) else if wind=1 then(s.1,s.2+j) else if wind=2 then(s.1+j,s.2) else if wind=3 then(s.1,s.2-j) else s
def tE(b:AJ)(s:Int×Int)(face wind:Int):Bool:=decide ((face+2) % 4=wind)||(List.range b.reach.toNat).any fun i=>b.breaks.any fun k=>decide (k=DI s wind (i+1))
def fG(s k:Int×Int)(wind:Int):Int:=if wind=0∧k.2=s.2 then s.1-k.1 else if wind=2∧k.2=s.2 then k.1-s.1 else if wind=3∧k.1=s.1 then s.2-k.2 else if wind=1∧k.1=s.1 then k.2-s.2 else 0
def S5(b:AJ)(s:Int×Int)(wind:Int):Bool:=b.breaks.any fun k=>FN (fG s k wind) 1 b.reach
def OA(b:AJ)(s:Int×Int)(face wind:Int):Bool:=decide (face=(wind+2) % 4)||S5 b s wind
theorem tF{s k:Int×Int}{wind R:Int}(hw:FN wind 0 3=true):FN (fG s k wind) 1 R=true↔∃i:Nat,(i:Int)<R∧k=DI s wind (i+1):=by
 obtain⟨s1,s2⟩:=s;obtain⟨k1,k2⟩:=k;rw[DS]at hw⊢;have:wind=0∨wind=1∨wind=2∨wind=3:=by omega
 rcases this with rfl|rfl|rfl|rfl
 ·simp only[fG,DI,true_and,if_true,Prod.mk.injEq];constructor
  ·intro h;split at h
   ·exact⟨(s1-k1-1).toNat,by omega,by omega,by omega⟩
   ·simp at h
  ·rintro ⟨i,h1,h2,h3⟩;rw[if_pos h3];omega
 ·simp only[fG,DI,true_and,if_true,Prod.mk.injEq,show ¬((1:Int)=0) by decide,show ¬((1:Int)=2) by decide,show ¬((1:Int)=3) by decide,false_and,if_false];constructor
  ·intro h;split at h
   ·exact⟨(k2-s2-1).toNat,by omega,by omega,by omega⟩
   ·omega
  ·rintro ⟨i,h1,h2,h3⟩;rw[if_pos h2];omega
 ·simp only[fG,DI,true_and,if_true,Prod.mk.injEq,show ¬((2:Int)=0) by decide,show ¬((2:Int)=1) by decide,show ¬((2:Int)=3) by decide,false_and,if_false];constructor
  ·intro h;split at h
   ·exact⟨(k1-s1-1).toNat,by omega,by omega,by omega⟩
   ·omega
  ·rintro ⟨i,h1,h2,h3⟩;rw[if_pos h3];omega
 ·simp only[fG,DI,true_and,if_true,Prod.mk.injEq,show ¬((3:Int)=0) by decide,show ¬((3:Int)=1) by decide,show ¬((3:Int)=2) by decide,false_and,if_false];constructor
  ·intro h;split at h
   ·exact⟨(s2-k2-1).toNat,by omega,by omega,by omega⟩
   ·omega
  ·rintro ⟨i,h1,h2,h3⟩;rw[if_pos h2];omega
theorem oN{b:AJ}{s:Int×Int}{wind:Int}(hw:FN wind 0 3=true):S5 b s wind=true↔∃i:Nat,(i:Int)<b.reach∧DI s wind (i+1)∈b.breaks:=by
 unfold S5;rw[List.any_eq_true];constructor
 ·rintro ⟨k,hk,h⟩;obtain⟨i,h1,rfl⟩:=(tF hw).1 h;exact⟨i,h1,hk⟩
 ·rintro ⟨i,h1,h2⟩;exact⟨_,h2,(tF hw).2 ⟨i,h1,rfl⟩⟩
theorem AIF{f w:Int}(hf:FN f 0 3=true)(hw:FN w 0 3=true):((f+2) % 4=w)=(f=(w+2) % 4):=by rw[DS]at hf hw;apply propext;omega
theorem A3M{b:AJ}{s:Int×Int}{f w:Int}(hf:FN f 0 3=true)(hw:FN w 0 3=true):tE b s f w=OA b s f w:=by
 unfold tE OA;simp only[AIF hf hw];congr 1;rw[Bool.eq_iff_iff,oN hw,List.any_eq_true];constructor
 ·rintro ⟨i,hi,h⟩;simp only[List.any_eq_true,decide_eq_true_eq]at h;obtain⟨k,hk,rfl⟩:=h;exact⟨i,by have:=List.mem_range.1 hi;omega,hk⟩
 ·rintro ⟨i,h1,h2⟩;exact⟨i,List.mem_range.2 (by omega),List.any_eq_true.2 ⟨_,h2,by simp⟩⟩
def fH(f:Nat→Bool):Nat→Nat
 |0=>0
 |n+1=>fH f n+(if f n=true then 1 else 0)
theorem YJ(f:Nat→Bool):∀n,fH f n≤n
 |0=>Nat.le_refl _
 |n+1=>by have:=YJ f n;simp only[fH];split<;>omega
theorem YK{f g:Nat→Bool}:∀{n:Nat},(∀h,h<n→f h=true→g h=true)→fH f n≤fH g n
 |0,_=>Nat.le_refl _
 |n+1,h=>by have:=YK (n:=n) fun j hj=>h j (by omega);have:=h n (by omega);simp only[fH];split<;>split<;>simp_all;all_goals omega
theorem cT{f g:Nat→Bool}{n:Nat}(h:∀j,j<n→f j=g j):fH f n=fH g n :=
 Nat.le_antisymm (YK fun j hj e=>by rw[←h j hj];exact e) (YK fun j hj e=>by rw[h j hj];exact e)
def IH(b:AJ)(plan:List (List Int))(r h:Nat):Bool:=decide (CB plan h r=b.sun.getD h 0)
structure FW where
 sun:Int
 calm:Int
 good:Int
deriving DecidableEq
def FD(calm:Nat→Bool)(lit:Nat→Bool)(n:Nat):FW:=⟨fH lit n,fH calm n,fH (fun h=>lit h&&calm h) n⟩
def IY(b:AJ)(plan:List (List Int))(t:List Int)(r p h:Nat):Bool:=OA b (r,p) (CB plan h r) (t.getD h 0)
def DD(b:AJ)(plan:List (List Int))(t:List Int)(r p:Nat):FW:=FD (IY b plan t r p) (IH b plan r) t.length
def AB7(b:AJ)(plan:List (List Int))(t:List Int)(r p:Nat):FW:=FD (fun h=>tE b (r,p) (CB plan h r) (t.getD h 0)) (IH b plan r) t.length
def DK(b:AJ)(plan:List (List Int)):Bool:=(plan.all fun l=>decide ((l.length:Int)=b.rows)&&EE l 0)&&decide ((plan.length:Int)=b.last+1)
structure E6(b:AJ)(plan:List (List Int)):Prop where
 len:(plan.length:Int)=b.last+1
 row:∀h,h<plan.length→((plan.getD h []).length:Int)=b.rows
 dir:∀h r,h<plan.length→r<(plan.getD h []).length→FN (CB plan h r) 0 3=true
theorem fI{b:AJ}{plan:List (List Int)}(h:DK b plan=true):E6 b plan:=by
 simp only[DK,Bool.and_eq_true,List.all_eq_true,decide_eq_true_eq]at h;obtain⟨h1,h2⟩:=h;refine⟨h2,fun j hj=>?_,fun j r hj hr=>?_⟩
 ·rw[List.getD_eq_getElem?_getD,List.getElem?_eq_getElem hj];exact(h1 _ (List.getElem_mem hj)).1
 ·have:=(h1 _ (List.getElem_mem hj)).2;have e:plan.getD j []=plan[j]:=by rw[List.getD_eq_getElem?_getD,List.getElem?_eq_getElem hj];rfl
  unfold CB;rw[e]at hr⊢;rw[List.getD_eq_getElem?_getD,List.getElem?_eq_getElem hr];exact List.all_eq_true.1 this _ (List.getElem_mem hr)
theorem AB8{b:AJ}(h:Valid b){j:Nat}(hj:j<b.winds.length){n:Int}(hn:n∈b.winds[j]):FN n 0 3=true:=by have:=List.all_eq_true.1 h.wo _ (List.getElem_mem hj);simp only[FZ,Bool.and_eq_true]at this;exact List.all_eq_true.1 this.1.2 n hn
theorem MD{b:AJ}(h:Valid b){t:List Int}(ht:AV t b.winds=true){j:Nat}(hj:j<t.length):FN (t.getD j 0) 0 3=true:=by have hl:=BZ ht;rw[List.getD_eq_getElem?_getD,List.getElem?_eq_getElem hj];exact AB8 h (by omega) (UO ht j hj (by omega))
theorem AB9{b:AJ}{plan:List (List Int)}{t:List Int}(h:Valid b)(hp:E6 b plan)(ht:AV t b.winds=true){r:Nat}(hr:(r:Int)<b.rows)(p:Nat):DD b plan t r p=AB7 b plan t r p:=by
 have hl:=BZ ht;have h1:=hp.len;have h2:=h.wi;have key:∀j,j<t.length→IY b plan t r p j=tE b (r,p) (CB plan j r) (t.getD j 0):=fun j hj=>by unfold IY;have:=hp.row j (by omega);rw[A3M (hp.dir j r (by omega) (by omega)) (MD h ht hj)]
 unfold DD AB7 FD;congr 1
 ·rw[cT key]
 ·rw[cT fun j hj=>by rw[key j hj]]
def A3N(b:AJ)(h:Nat)(l:List Int):List Int:=l.filter fun n=>b.notes.all fun x=>!decide (x.1=h)||decide (x.2=n)
def AIG(b:AJ):Nat→List (List Int)→List (List Int)
 |_,[]=>[]
 |h,l::r=>A3N b h l::AIG b (h+1) r
def aw(b:AJ):List (List Int):=AIG b 0 b.winds
theorem jQ(b:AJ):∀(h:Nat) (ws:List (List Int)),(AIG b h ws).length=ws.length
 |_,[]=>rfl
 |h,l::r=>by simp[AIG,jQ b (h+1) r]
theorem ACA(b:AJ):(aw b).length=b.winds.length:=jQ b 0 _
def BE3(g:Nat→Int→Int):Nat→List Int→Int
 |_,[]=>0
 |h,x::t=>g h x+BE3 g (h+1) t
def BE4(g:Nat→Int):Nat→Nat→Int
 |_,0=>0
 |h,n+1=>g h+BE4 g (h+1) n
def bO(z:Int)(l:List Int):Int:=l.foldl min z
def bP(z:Int)(l:List Int):Int:=l.foldl max z
theorem tG:∀(l:List Int) (z:Int),bO z l≤z∧∀x∈l,bO z l≤x
 |[],z=>⟨Int.le_refl _,by simp⟩
 |y::l,z=>by
  obtain⟨h1,h2⟩:=tG l (min z y);have:bO z (y::l)=bO (min z y) l:=rfl;rw[this];refine⟨by omega,fun x hx=>?_⟩;rcases List.mem_cons.1 hx with rfl|hx
  ·omega
  ·exact h2 x hx
theorem jR:∀(l:List Int) (z:Int),bO z l=z∨bO z l∈l
 |[],z=>.inl rfl
 |y::l,z=>by
  have e:bO z (y::l)=bO (min z y) l:=rfl;rw[e];rcases jR l (min z y)with h|h
  ·rw[h];rcases Int.le_total z y with h|h
   ·left;omega
   ·right;rw[show min z y=y by omega];simp
  ·exact .inr (List.mem_cons.2 (.inr h))
theorem tH:∀(l:List Int) (z:Int),z≤bP z l∧∀x∈l,x≤bP z l
 |[],z=>⟨Int.le_refl _,by simp⟩
 |y::l,z=>by
  obtain⟨h1,h2⟩:=tH l (max z y);have:bP z (y::l)=bP (max z y) l:=rfl;rw[this];refine⟨by omega,fun x hx=>?_⟩;rcases List.mem_cons.1 hx with rfl|hx
  ·omega
  ·exact h2 x hx
theorem jS:∀(l:List Int) (z:Int),bP z l=z∨bP z l∈l
 |[],z=>.inl rfl
 |y::l,z=>by
  have e:bP z (y::l)=bP (max z y) l:=rfl;rw[e];rcases jS l (max z y)with h|h
  ·rw[h];rcases Int.le_total z y with h|h
   ·right;rw[show max z y=y by omega];simp
   ·left;omega
  ·exact .inr (List.mem_cons.2 (.inr h))
structure N7{α:Type}(l:List α)(f:α→Int)(m:Int):Prop where
 le:∀x∈l,m≤f x
 at':∃x∈l,f x=m
structure N8{α:Type}(l:List α)(f:α→Int)(m:Int):Prop where
 le:∀x∈l,f x≤m
 at':∃x∈l,f x=m
theorem N7.uniq{α:Type}{l:List α}{f:α→Int}{m n:Int}(h:N7 l f m)(h':N7 l f n):m=n:=by obtain⟨x,hx,ex⟩:=h.at';obtain⟨y,hy,ey⟩:=h'.at';have:=h.le y hy;have:=h'.le x hx;omega
theorem N8.uniq{α:Type}{l:List α}{f:α→Int}{m n:Int}(h:N8 l f m)(h':N8 l f n):m=n:=by obtain⟨x,hx,ex⟩:=h.at';obtain⟨y,hy,ey⟩:=h'.at';have:=h.le y hy;have:=h'.le x hx;omega
theorem tI{α:Type}{l:List α}{f:α→Int}{z:Int}(hz:∀x∈l,f x≤z)(hn:l≠[]):N7 l f (bO z (l.map f)):=by
 obtain⟨h1,h2⟩:=tG (l.map f) z;refine⟨fun x hx=>h2 _ (List.mem_map_of_mem hx),?_⟩;rcases jR (l.map f) z with h|h
 ·obtain⟨y,hy⟩:=List.exists_mem_of_ne_nil _ hn;have:=h2 _ (List.mem_map_of_mem hy);have:=hz y hy;exact⟨y,hy,by omega⟩
 ·obtain⟨x,hx,e⟩:=List.mem_map.1 h;exact⟨x,hx,e⟩
theorem tJ{α:Type}{l:List α}{f:α→Int}{z:Int}(hz:∀x∈l,z≤f x)(hn:l≠[]):N8 l f (bP z (l.map f)):=by
 obtain⟨h1,h2⟩:=tH (l.map f) z;refine⟨fun x hx=>h2 _ (List.mem_map_of_mem hx),?_⟩;rcases jS (l.map f) z with h|h
 ·obtain⟨y,hy⟩:=List.exists_mem_of_ne_nil _ hn;have:=h2 _ (List.mem_map_of_mem hy);have:=hz y hy;exact⟨y,hy,by omega⟩
 ·obtain⟨x,hx,e⟩:=List.mem_map.1 h;exact⟨x,hx,e⟩
theorem tK:∀{l:List Int} {lo:Int},JT l=true→(∀x∈l,lo≤x∧x≤3)→lo≤4→(l.length:Int)≤4-lo
 |[],lo,_,_,h=>by simp;omega
 |[x],lo,_,h,_=>by have:=h x (by simp);simp;omega
 |x::y::r,lo,h,ha,hl=>by
  simp only[JT,Bool.and_eq_true,decide_eq_true_eq]at h;have hx:=ha x (by simp);have:∀z∈y::r,lo+1≤z∧z≤3:=by
   have key:∀(l:List Int) (y:Int),JT (y::l)=true→∀z∈y::l,y≤z:=by
    intro l;induction l with
    |nil=>intro y _ z hz;simp at hz;omega
    |cons w l ih=>
     intro y hi z hz
     simp only[JT,Bool.and_eq_true,decide_eq_true_eq]at hi
     rcases List.mem_cons.1 hz with rfl|hz
     ·omega
     ·have:=ih w hi.2 z hz;omega
   intro z hz;have h1:=key r y h.2 z hz;have h2:=ha z (List.mem_cons_of_mem _ hz);omega
  have h3:=tK h.2 this (by omega);simp only[List.length_cons]at h3⊢;omega
theorem ACB{l:List Int}(h:FZ l=true):1≤l.length∧l.length≤4:=by
 simp only[FZ,Bool.and_eq_true]at h;obtain⟨⟨h1,h2⟩,h3⟩:=h;have:=tK (lo:=0) h3 (fun x hx=>DS.1 (List.all_eq_true.1 h2 x hx)) (by omega);refine⟨?_,by omega⟩;cases l with
 |nil=>simp at h1
 |cons x l=>simp
theorem Valid.wl{b:AJ}(h:Valid b):∀l∈b.winds,1≤l.length∧l.length≤4:=fun l hl=>ACB (List.all_eq_true.1 h.wo l hl)
theorem Valid.hl{b:AJ}(h:Valid b):b.winds.length≤5:=by have:=h.la;have:=h.wi;omega
theorem tL:∀{ws:List (List Int)},(∀l∈ws,l.length≤4)→FV ws≤4 ^ ws.length
 |[],_=>Nat.le_refl _
 |l::r,h=>by have h1:=tL (ws:=r) fun l hl=>h l (by simp[hl]);have h2:=h l (by simp);simp only[FV,List.length_cons,Nat.pow_succ];rw[Nat.mul_comm (4 ^ r.length)];exact Nat.mul_le_mul h2 h1
theorem Valid.many{b:AJ}(h:Valid b):FV b.winds≤1024:=by have h1:=tL fun l hl=>(h.wl l hl).2;have h2:4 ^ b.winds.length≤4 ^ 5:=Nat.pow_le_pow_right (by omega) h.hl;omega
def E8(ws:List Nat)(k:Nat):Nat:=if ws.length=0 then 0 else ws.getD (k % ws.length) 0
theorem AIH{ws:List Nat}(h:∀w∈ws,w≤65535)(k:Nat):E8 ws k≤65535:=by
 unfold E8;split
 ·omega
 ·rename_i hz;have:k % ws.length<ws.length:=Nat.mod_lt _ (by omega);rw[List.getD_eq_getElem?_getD,List.getElem?_eq_getElem this];exact h _ (List.getElem_mem this)
def A3O(ws:List Nat)(h r:Nat):Int:=((E8 ws h / 2 ^ (2*r) % 4:Nat):Int)
def AII(ws:List Nat)(h n:Nat):List Int:=(List.range n).map (A3O ws h)
def A3P(ws:List Nat)(R H:Nat):List (List Int):=(List.range H).map fun h=>AII ws h R
def A9N(b:AJ)(ws:List Nat):List (List Int):=A3P ws b.rows.toNat (b.last+1).toNat
def AQR(p:List (List Int))(t:List Int)(r h:Nat):Bool:=decide ((CB p h r+2) % 4=t.getD h 0)
def BO3(b:AJ)(p:List (List Int))(t:List Int)(r n:Nat):FW:=FD (AQR p t r) (IH b p r) n
def BO4(b:AJ):AJ:={ b with breaks:=[] }
def BO5(b:AJ):AJ:={ b with reach:=0 }
def II(x j:Nat):List Int:=List.map (fun i:Nat=>(i:Int)) ((List.range j).filter fun i=>x.testBit i)
theorem AIJ(x j:Nat):decide ((((x / 2 ^ j:Nat):Int).tmod 2)=1)=x.testBit j:=by rw[show((x / 2 ^ j:Nat):Int).tmod 2=((x / 2 ^ j % 2:Nat):Int) from(Int.ofNat_tmod _ 2).symm,Nat.testBit_eq_decide_div_mod_eq];congr 1;exact propext ⟨fun h=>by omega,fun h=>by omega⟩
end Go.Wind
