/- Beaches, their truths and what is so in them, plainly. No condition; no program in sight. -/
namespace Go.Wind
structure AJ where
 last:Int
 rows:Int
 places:Int
 reach:Int
 face:List Int
 sun:List Int
 winds:List (List Int)
 breaks:List (Int×Int)
 notes:List (Int×Int)
def FB(n lo hi:Int):Bool:=decide (lo≤n)&&decide (n≤hi)
theorem DM{n lo hi:Int}:FB n lo hi=true↔lo≤n∧n≤hi:=by simp[FB]
def FC(b:AJ)(s:Int×Int):Bool:=FB s.1 0 (b.rows-1)&&FB s.2 0 (b.places-1)
def D2(l:List Int)(lo:Int):Bool:=l.all fun n=>FB n lo 3
def JB:List Int→Bool
 | []=>true
 | [_]=>true
 | x :: y :: r=>decide (x<y)&&JB (y :: r)
def FL(l:List Int):Bool:=!l.isEmpty&&D2 l 0&&JB l
def JC(b:AJ)(x:Int×Int):Bool:=FB x.1 0 b.last&&FB x.2 0 3
def CD(b:AJ):Int :=
 if (decide (4<b.last)||decide (3<b.rows)||decide (5<b.places)||decide (4<b.breaks.length)||decide (5<b.notes.length))=true then 3
 else if (decide (b.last<0)||decide (b.rows<1)||decide (b.places<1)||!FB b.reach 0 4||!decide ((b.face.length:Int)=b.rows)||!decide ((b.sun.length:Int)=b.last+1)||!decide ((b.winds.length:Int)=b.last+1)||!D2 b.face 0||!D2 b.sun (-1))=true then 1
 else if b.winds.all FL=false then 1 else if b.breaks.all (FC b)=false then 1 else if b.notes.all (JC b)=false then 1 else 0
structure Valid(b:AJ):Prop where
 la:0≤b.last∧b.last≤4
 ro:1≤b.rows∧b.rows≤3
 pl:1≤b.places∧b.places≤5
 re:0≤b.reach∧b.reach≤4
 br:b.breaks.length≤4
 no:b.notes.length≤5
 fa:(b.face.length:Int)=b.rows
 su:(b.sun.length:Int)=b.last+1
 wi:(b.winds.length:Int)=b.last+1
 fd:D2 b.face 0=true
 sd:D2 b.sun (-1)=true
 wo:b.winds.all FL=true
 bo:b.breaks.all (FC b)=true
 nok:b.notes.all (JC b)=true
theorem NG{b:AJ}(h:CD b=0):Valid b:=by
 unfold CD at h
 split at h
 ·cases h
 split at h
 ·cases h
 split at h
 ·cases h
 split at h
 ·cases h
 split at h
 ·cases h
 rename_i h1 h2 h3 h4 h5
 simp only[Bool.or_eq_true,decide_eq_true_eq,Bool.not_eq_true',decide_eq_false_iff_not,not_or,Bool.not_eq_false]at h1 h2
 obtain⟨⟨⟨⟨a1,a2⟩,a3⟩,a4⟩,a5⟩:=h1
 obtain⟨⟨⟨⟨⟨⟨⟨⟨c1,c2⟩,c3⟩,c4⟩,c5⟩,c6⟩,c7⟩,c8⟩,c9⟩:=h2
 have:=DM.1 c4
 simp only[Bool.not_eq_false]at h3 h4 h5
 exact⟨⟨by omega,by omega⟩,⟨by omega,by omega⟩,⟨by omega,by omega⟩,this,by omega,by omega,Classical.not_not.1 c5,Classical.not_not.1 c6,Classical.not_not.1 c7,c8,c9,h3,h4,h5⟩
theorem KW{b:AJ}(h:Valid b):CD b=0:=by
 obtain⟨la,ro,pl,re,br,no,fa,su,wi,fd,sd,wo,bo,nok⟩:=h
 unfold CD
 rw[if_neg,if_neg,if_neg,if_neg,if_neg]
 ·simp[nok]
 ·simp[bo]
 ·simp[wo]
 ·simp only[Bool.or_eq_true,decide_eq_true_eq,Bool.not_eq_true',decide_eq_false_iff_not,not_or,Bool.not_eq_false]
  exact⟨⟨⟨⟨⟨⟨⟨⟨by omega,by omega⟩,by omega⟩,DM.2 re⟩,by simpa using fa⟩,by simpa using su⟩,by simpa using wi⟩,fd⟩,sd⟩
 ·simp only[Bool.or_eq_true,decide_eq_true_eq,not_or]
  exact⟨⟨⟨⟨by omega,by omega⟩,by omega⟩,by omega⟩,by omega⟩
def FO:List (List Int)→Nat
 | []=>1
 | l :: r=>l.length*FO r
def DR:List (List Int)→Nat→List Int
 | [],_=>[]
 | l :: r,n=>l.getD (n % l.length) 0 :: DR r (n / l.length)
def R6:List (List Int)→List (List Int)
 | []=>[[]]
 | l :: r=>l.flatMap fun x=>(R6 r).map (x :: ·)
def AV:List Int→List (List Int)→Bool
 | [],[]=>true
 | x :: t,l :: r=>decide (x∈l)&&AV t r
 | _,_=>false
theorem CE:∀{t:List Int} {ws:List (List Int)},AV t ws=true→t.length=ws.length
 | [],[],_=>rfl
 | x :: t,l :: r,h=>by
  simp only[AV,Bool.and_eq_true]at h
  simp[CE h.2]
theorem TV:∀{t:List Int} {ws:List (List Int)},AV t ws=true→∀h (h1:h<t.length) (h2:h<ws.length),t[h]∈ws[h]
 | x :: t,l :: r,hh,0,_,_=>by
  simp only[AV,Bool.and_eq_true,decide_eq_true_eq]at hh
  exact hh.1
 | x :: t,l :: r,hh,h+1,h1,h2=>by
  simp only[AV,Bool.and_eq_true]at hh
  simpa using TV hh.2 h (by simpa using h1) (by simpa using h2)
theorem bD:∀{t:List Int} {ws:List (List Int)},t.length=ws.length→(∀h (h1:h<t.length) (h2:h<ws.length),t[h]∈ws[h])→AV t ws=true
 | [],[],_,_=>rfl
 | x :: t,l :: r,hl,h=>by
  simp only[AV,Bool.and_eq_true,decide_eq_true_eq]
  exact⟨h 0 (by simp) (by simp),bD (by simpa using hl) fun j h1 h2=>h (j+1) (by simpa using h1) (by simpa using h2)⟩
theorem OS:∀{ws:List (List Int)} {t:List Int},t∈R6 ws↔AV t ws=true
 | [],t=>by cases t <;> simp[R6,AV]
 | l :: r,t=>by
  cases t with
  | nil=>simp[R6,AV]
  | cons x t =>
   simp only[R6,List.mem_flatMap,List.mem_map,AV,Bool.and_eq_true,decide_eq_true_eq]
   constructor
   ·rintro ⟨y,hy,z,hz,e⟩
    cases e
    exact⟨hy,OS.1 hz⟩
   ·rintro ⟨h1,h2⟩
    exact⟨x,h1,t,OS.2 h2,rfl⟩
theorem XH:∀{ws:List (List Int)} (_:∀l∈ws,l≠[]) (n:Nat),AV (DR ws n) ws=true
 | [],_,_=>rfl
 | l :: r,h,n=>by
  have hl:0<l.length:=List.length_pos_iff.2 (h l (by simp))
  simp only[DR,AV,Bool.and_eq_true,decide_eq_true_eq]
  have hm:n % l.length<l.length:=Nat.mod_lt _ hl
  refine⟨?_,XH (fun l hl=>h l (by simp[hl])) _⟩
  rw[List.getD_eq_getElem?_getD,List.getElem?_eq_getElem hm]
  exact List.getElem_mem hm
theorem qJ:∀{ws:List (List Int)} {t:List Int},AV t ws=true→∃n,n<FO ws∧DR ws n=t
 | [],[],_=>⟨0,by simp[FO],rfl⟩
 | l :: r,x :: t,h=>by
  simp only[AV,Bool.and_eq_true,decide_eq_true_eq]at h
  obtain⟨m,h1,h2⟩:=qJ h.2
  obtain⟨j,hj,hx⟩:=List.getElem_of_mem h.1
  refine⟨j+l.length*m,?_,?_⟩
  ·simp only[FO]
   have:l.length*m+l.length≤l.length*FO r:=by
    rw[← Nat.mul_succ]; exact Nat.mul_le_mul_left _ h1
   omega
  ·have hl:0<l.length:=by omega
   simp only[DR,Nat.add_mul_mod_self_left,Nat.mod_eq_of_lt hj,Nat.add_mul_div_left _ _ hl,Nat.div_eq_of_lt hj,Nat.zero_add,h2]
   rw[List.getD_eq_getElem?_getD,List.getElem?_eq_getElem hj]
   simp[hx]
def atI(l:List Int)(h:Int):Int:=l.getD h.toNat 0
def LH(t:List Int)(x:Int×Int):Bool:=decide (atI t x.1=x.2)
def ED(b:AJ)(t:List Int):Bool:=AV t b.winds&&b.notes.all (LH t)
def DE(b:AJ):List (List Int):=((List.range (FO b.winds)).map (DR b.winds)).filter (ED b)
theorem Valid.ne{b:AJ}(h:Valid b):∀l∈b.winds,l≠[]:=fun l hl e=>by
 have:=List.all_eq_true.1 h.wo l hl
 subst e
 simp[FL]at this
theorem XI{b:AJ}{t:List Int}:t∈DE b↔ED b t=true:=by
 unfold DE
 rw[List.mem_filter,List.mem_map]
 constructor
 ·exact fun h=>h.2
 ·intro ht
  refine⟨?_,ht⟩
  simp only[ED,Bool.and_eq_true]at ht
  obtain⟨n,h1,h2⟩:=qJ ht.1
  exact⟨n,List.mem_range.2 h1,h2⟩
end Go.Wind
namespace Go.Wind
def BW(p:List (List Int))(h r:Nat):Int:=(p.getD h []).getD r 0
def DD(s:Int×Int)(wind:Int)(j:Int):Int×Int:=if wind=0 then(s.1-j,s.2) else if wind=1 then(s.1,s.2+j) else if wind=2 then(s.1+j,s.2) else if wind=3 then(s.1,s.2-j) else s
def qK(b:AJ)(s:Int×Int)(face wind:Int):Bool:=decide ((face+2) % 4=wind)||(List.range b.reach.toNat).any fun i=>b.breaks.any fun k=>decide (k=DD s wind (i+1))
def dL(s k:Int×Int)(wind:Int):Int:=if wind=0∧k.2=s.2 then s.1-k.1 else if wind=2∧k.2=s.2 then k.1-s.1 else if wind=3∧k.1=s.1 then s.2-k.2 else if wind=1∧k.1=s.1 then k.2-s.2 else 0
def R7(b:AJ)(s:Int×Int)(wind:Int):Bool:=b.breaks.any fun k=>FB (dL s k wind) 1 b.reach
def NH(b:AJ)(s:Int×Int)(face wind:Int):Bool:=decide (face=(wind+2) % 4)||R7 b s wind
theorem qM{s k:Int×Int}{wind R:Int}(hw:FB wind 0 3=true):FB (dL s k wind) 1 R=true↔∃i:Nat,(i:Int)<R∧k=DD s wind (i+1):=by
 obtain⟨s1,s2⟩:=s
 obtain⟨k1,k2⟩:=k
 rw[DM]at hw ⊢
 have:wind=0∨wind=1∨wind=2∨wind=3:=by omega
 rcases this with rfl | rfl | rfl | rfl
 ·simp only[dL,DD,true_and,if_true,Prod.mk.injEq]
  constructor
  ·intro h
   split at h
   ·exact⟨(s1-k1-1).toNat,by omega,by omega,by omega⟩
   ·simp at h
  ·rintro ⟨i,h1,h2,h3⟩
   rw[if_pos h3]; omega
 ·simp only[dL,DD,true_and,if_true,Prod.mk.injEq,show ¬((1:Int)=0) by decide,show ¬((1:Int)=2) by decide,show ¬((1:Int)=3) by decide,false_and,if_false]
  constructor
  ·intro h
   split at h
   ·exact⟨(k2-s2-1).toNat,by omega,by omega,by omega⟩
   ·omega
  ·rintro ⟨i,h1,h2,h3⟩
   rw[if_pos h2]; omega
 ·simp only[dL,DD,true_and,if_true,Prod.mk.injEq,show ¬((2:Int)=0) by decide,show ¬((2:Int)=1) by decide,show ¬((2:Int)=3) by decide,false_and,if_false]
  constructor
  ·intro h
   split at h
   ·exact⟨(k1-s1-1).toNat,by omega,by omega,by omega⟩
   ·omega
  ·rintro ⟨i,h1,h2,h3⟩
   rw[if_pos h3]; omega
 ·simp only[dL,DD,true_and,if_true,Prod.mk.injEq,show ¬((3:Int)=0) by decide,show ¬((3:Int)=1) by decide,show ¬((3:Int)=2) by decide,false_and,if_false]
  constructor
  ·intro h
   split at h
   ·exact⟨(s2-k2-1).toNat,by omega,by omega,by omega⟩
   ·omega
  ·rintro ⟨i,h1,h2,h3⟩
   rw[if_pos h2]; omega
theorem mI{b:AJ}{s:Int×Int}{wind:Int}(hw:FB wind 0 3=true):R7 b s wind=true↔∃i:Nat,(i:Int)<b.reach∧DD s wind (i+1)∈b.breaks:=by
 unfold R7
 rw[List.any_eq_true]
 constructor
 ·rintro ⟨k,hk,h⟩
  obtain⟨i,h1,rfl⟩:=(qM hw).1 h
  exact⟨i,h1,hk⟩
 ·rintro ⟨i,h1,h2⟩
  exact⟨_,h2,(qM hw).2 ⟨i,h1,rfl⟩⟩
theorem AF4{f w:Int}(hf:FB f 0 3=true)(hw:FB w 0 3=true):((f+2) % 4=w)=(f=(w+2) % 4):=by
 rw[DM]at hf hw
 apply propext
 omega
theorem A0O{b:AJ}{s:Int×Int}{f w:Int}(hf:FB f 0 3=true)(hw:FB w 0 3=true):qK b s f w=NH b s f w:=by
 unfold qK NH
 simp only[AF4 hf hw]
 congr 1
 rw[Bool.eq_iff_iff,mI hw,List.any_eq_true]
 constructor
 ·rintro ⟨i,hi,h⟩
  simp only[List.any_eq_true,decide_eq_true_eq]at h
  obtain⟨k,hk,rfl⟩:=h
  exact⟨i,by have:=List.mem_range.1 hi; omega,hk⟩
 ·rintro ⟨i,h1,h2⟩
  exact⟨i,List.mem_range.2 (by omega),List.any_eq_true.2 ⟨_,h2,by simp⟩⟩
def dM(f:Nat→Bool):Nat→Nat
 | 0=>0
 | n+1=>dM f n+(if f n=true then 1 else 0)
theorem XJ(f:Nat→Bool):∀n,dM f n≤n
 | 0=>Nat.le_refl _
 | n+1=>by
  have:=XJ f n
  simp only[dM]
  split <;> omega
theorem XK{f g:Nat→Bool}:∀{n:Nat},(∀h,h<n→f h=true→g h=true)→dM f n≤dM g n
 | 0,_=>Nat.le_refl _
 | n+1,h=>by
  have:=XK (n:=n) fun j hj=>h j (by omega)
  have:=h n (by omega)
  simp only[dM]
  split <;> split <;> simp_all
  all_goals omega
theorem bE{f g:Nat→Bool}{n:Nat}(h:∀j,j<n→f j=g j):dM f n=dM g n :=
 Nat.le_antisymm (XK fun j hj e=>by rw[← h j hj]; exact e) (XK fun j hj e=>by rw[h j hj]; exact e)
def H4(b:AJ)(plan:List (List Int))(r h:Nat):Bool:=decide (BW plan h r=b.sun.getD h 0)
structure GD where
 sun:Int
 calm:Int
 good:Int
deriving DecidableEq
def E3(calm:Nat→Bool)(lit:Nat→Bool)(n:Nat):GD:=⟨dM lit n,dM calm n,dM (fun h=>lit h&&calm h) n⟩
def ID(b:AJ)(plan:List (List Int))(t:List Int)(r p h:Nat):Bool:=NH b (r,p) (BW plan h r) (t.getD h 0)
def C7(b:AJ)(plan:List (List Int))(t:List Int)(r p:Nat):GD:=E3 (ID b plan t r p) (H4 b plan r) t.length
def zW(b:AJ)(plan:List (List Int))(t:List Int)(r p:Nat):GD:=E3 (fun h=>qK b (r,p) (BW plan h r) (t.getD h 0)) (H4 b plan r) t.length
def CV(b:AJ)(plan:List (List Int)):Bool:=(plan.all fun l=>decide ((l.length:Int)=b.rows)&&D2 l 0)&&decide ((plan.length:Int)=b.last+1)
structure EV(b:AJ)(plan:List (List Int)):Prop where
 len:(plan.length:Int)=b.last+1
 row:∀h,h<plan.length→((plan.getD h []).length:Int)=b.rows
 dir:∀h r,h<plan.length→r<(plan.getD h []).length→FB (BW plan h r) 0 3=true
theorem dN{b:AJ}{plan:List (List Int)}(h:CV b plan=true):EV b plan:=by
 simp only[CV,Bool.and_eq_true,List.all_eq_true,decide_eq_true_eq]at h
 obtain⟨h1,h2⟩:=h
 refine⟨h2,fun j hj=>?_,fun j r hj hr=>?_⟩
 ·rw[List.getD_eq_getElem?_getD,List.getElem?_eq_getElem hj]
  exact(h1 _ (List.getElem_mem hj)).1
 ·have:=(h1 _ (List.getElem_mem hj)).2
  have e:plan.getD j []=plan[j]:=by rw[List.getD_eq_getElem?_getD,List.getElem?_eq_getElem hj]; rfl
  unfold BW
  rw[e]at hr ⊢
  rw[List.getD_eq_getElem?_getD,List.getElem?_eq_getElem hr]
  exact List.all_eq_true.1 this _ (List.getElem_mem hr)
theorem zX{b:AJ}(h:Valid b){j:Nat}(hj:j<b.winds.length){n:Int}(hn:n∈b.winds[j]):FB n 0 3=true:=by
 have:=List.all_eq_true.1 h.wo _ (List.getElem_mem hj)
 simp only[FL,Bool.and_eq_true]at this
 exact List.all_eq_true.1 this.1.2 n hn
theorem LI{b:AJ}(h:Valid b){t:List Int}(ht:AV t b.winds=true){j:Nat}(hj:j<t.length):FB (t.getD j 0) 0 3=true:=by
 have hl:=CE ht
 rw[List.getD_eq_getElem?_getD,List.getElem?_eq_getElem hj]
 exact zX h (by omega) (TV ht j hj (by omega))
theorem zY{b:AJ}{plan:List (List Int)}{t:List Int}(h:Valid b)(hp:EV b plan)(ht:AV t b.winds=true){r:Nat}(hr:(r:Int)<b.rows)(p:Nat):C7 b plan t r p=zW b plan t r p:=by
 have hl:=CE ht
 have h1:=hp.len
 have h2:=h.wi
 have key:∀j,j<t.length→ID b plan t r p j=qK b (r,p) (BW plan j r) (t.getD j 0):=fun j hj=>by
  unfold ID
  have:=hp.row j (by omega)
  rw[A0O (hp.dir j r (by omega) (by omega)) (LI h ht hj)]
 unfold C7 zW E3
 congr 1
 ·rw[bE key]
 ·rw[bE fun j hj=>by rw[key j hj]]
end Go.Wind
namespace Go.Wind
def A0P(b:AJ)(h:Nat)(l:List Int):List Int:=l.filter fun n=>b.notes.all fun x=>!decide (x.1=h)||decide (x.2=n)
def AF5(b:AJ):Nat→List (List Int)→List (List Int)
 | _,[]=>[]
 | h,l :: r=>A0P b h l :: AF5 b (h+1) r
def aw(b:AJ):List (List Int):=AF5 b 0 b.winds
theorem gO(b:AJ):∀(h:Nat) (ws:List (List Int)),(AF5 b h ws).length=ws.length
 | _,[]=>rfl
 | h,l :: r=>by simp[AF5,gO b (h+1) r]
theorem zZ(b:AJ):(aw b).length=b.winds.length:=gO b 0 _
def BBR(g:Nat→Int→Int):Nat→List Int→Int
 | _,[]=>0
 | h,x :: t=>g h x+BBR g (h+1) t
def BBS(g:Nat→Int):Nat→Nat→Int
 | _,0=>0
 | h,n+1=>g h+BBS g (h+1) n
def BOR(z:Int)(l:List Int):Int:=l.foldl min z
def BOS(z:Int)(l:List Int):Int:=l.foldl max z
structure bB{α:Type}(l:List α)(f:α→Int)(m:Int):Prop where
 le:∀x∈l,m≤f x
 at':∃x∈l,f x=m
structure bC{α:Type}(l:List α)(f:α→Int)(m:Int):Prop where
 le:∀x∈l,f x≤m
 at':∃x∈l,f x=m
end Go.Wind
namespace Go.Wind
theorem qN:∀{l:List Int} {lo:Int},JB l=true→(∀x∈l,lo≤x∧x≤3)→lo≤4→(l.length:Int)≤4-lo
 | [],lo,_,_,h=>by simp; omega
 | [x],lo,_,h,_=>by have:=h x (by simp); simp; omega
 | x :: y :: r,lo,h,ha,hl=>by
  simp only[JB,Bool.and_eq_true,decide_eq_true_eq]at h
  have hx:=ha x (by simp)
  have:∀z∈y :: r,lo+1≤z∧z≤3:=by
   have key:∀(l:List Int) (y:Int),JB (y :: l)=true→∀z∈y :: l,y≤z:=by
    intro l
    induction l with
    | nil=>intro y _ z hz; simp at hz; omega
    | cons w l ih =>
     intro y hi z hz
     simp only[JB,Bool.and_eq_true,decide_eq_true_eq]at hi
     rcases List.mem_cons.1 hz with rfl | hz
     ·omega
     ·have:=ih w hi.2 z hz; omega
   intro z hz
   have h1:=key r y h.2 z hz
   have h2:=ha z (List.mem_cons_of_mem _ hz)
   omega
  have h3:=qN h.2 this (by omega)
  simp only[List.length_cons]at h3 ⊢
  omega
theorem AAA{l:List Int}(h:FL l=true):1≤l.length∧l.length≤4:=by
 simp only[FL,Bool.and_eq_true]at h
 obtain⟨⟨h1,h2⟩,h3⟩:=h
 have:=qN (lo:=0) h3 (fun x hx=>DM.1 (List.all_eq_true.1 h2 x hx)) (by omega)
 refine⟨?_,by omega⟩
 cases l with
 | nil=>simp at h1
 | cons x l=>simp
theorem Valid.wl{b:AJ}(h:Valid b):∀l∈b.winds,1≤l.length∧l.length≤4:=fun l hl=>AAA (List.all_eq_true.1 h.wo l hl)
theorem Valid.hl{b:AJ}(h:Valid b):b.winds.length≤5:=by have:=h.la; have:=h.wi; omega
theorem qO:∀{ws:List (List Int)},(∀l∈ws,l.length≤4)→FO ws≤4 ^ ws.length
 | [],_=>Nat.le_refl _
 | l :: r,h=>by
  have h1:=qO (ws:=r) fun l hl=>h l (by simp[hl])
  have h2:=h l (by simp)
  simp only[FO,List.length_cons,Nat.pow_succ]
  rw[Nat.mul_comm (4 ^ r.length)]
  exact Nat.mul_le_mul h2 h1
theorem Valid.many{b:AJ}(h:Valid b):FO b.winds≤1024:=by
 have h1:=qO fun l hl=>(h.wl l hl).2
 have h2:4 ^ b.winds.length≤4 ^ 5:=Nat.pow_le_pow_right (by omega) h.hl
 omega
end Go.Wind
namespace Go.Wind
def A0Q(ws:List Nat)(k:Nat):Nat:=if ws.length=0 then 0 else ws.getD (k % ws.length) 0
def A0R(ws:List Nat)(h r:Nat):Int:=((A0Q ws h / 2 ^ (2*r) % 4:Nat):Int)
def AF6(ws:List Nat)(h n:Nat):List Int:=(List.range n).map (A0R ws h)
def A0S(ws:List Nat)(R H:Nat):List (List Int):=(List.range H).map fun h=>AF6 ws h R
def A6F(b:AJ)(ws:List Nat):List (List Int):=A0S ws b.rows.toNat (b.last+1).toNat
end Go.Wind
namespace Go.Wind
def ANT(p:List (List Int))(t:List Int)(r h:Nat):Bool:=decide ((BW p h r+2) % 4=t.getD h 0)
def BOT(b:AJ)(p:List (List Int))(t:List Int)(r n:Nat):GD:=E3 (ANT p t r) (H4 b p r) n
def BOU(b:AJ):AJ:={ b with breaks:=[] }
def BOV(b:AJ):AJ:={ b with reach:=0 }
end Go.Wind
namespace Go.Wind
def H5(x j:Nat):List Int:=List.map (fun i:Nat=>(i:Int)) ((List.range j).filter fun i=>x.testBit i)
theorem AF7(x j:Nat):decide ((((x / 2 ^ j:Nat):Int).tmod 2)=1)=x.testBit j:=by
 rw[show((x / 2 ^ j:Nat):Int).tmod 2=((x / 2 ^ j % 2:Nat):Int) from(Int.ofNat_tmod _ 2).symm,Nat.testBit_eq_decide_div_mod_eq]
 congr 1
 exact propext ⟨fun h=>by omega,fun h=>by omega⟩
end Go.Wind
