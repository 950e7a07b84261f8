/- Operations of a region with all that hangs on the region alone worked out; running them one after another. No program in sight. -/
import Derived.Test.YtmnlpgjklibndaaGreatQ2
noncomputable section
open Go renaming TypeId->cx,Operand->cz,Program->cd,Oper->cg,Code->cm,FuncId->cp,IntKind->cr
open Bool renaming and_eq_true->bj
open List renaming length_nil->bq,length_append->bw,getElem?_eq_getElem->bz,mapM_cons->bf,all_cons->bn,replicate->br,mapM_nil->ck
open Nat renaming beq->bx,blt_eq->bc,eq_of_beq_eq_true->bg,blt->bh,le_trans->bp,beq_refl->bt,beq_eq->cj,ble->cq
namespace Go.Pg
variable {P:cd}{E:XE}
inductive IK where
 |mv (x:cz)
 |bin (op:BinOp) (T:cx) (x y:cz)
 |fa (T:cx) (x:cz) (f:Nat)
 |ld (T:cx) (x:cz)
 |ldz (T:cx) (x:cz)
 |pick (c a b:cz)
 |build (T:cx) (ps:List (Nat×cz))
 |buildS (T:cx) (n:Nat) (ps:List (Nat×cz))
 |oth (op:Op)
 |alloc (T:cx)
 |box (x:cz)
 |mkM (r:Option cz)
 |mkS (T:cx) (x y:cz)
 |sto (T:cx) (x y:cz)
 |upd (T:cx) (x i y:cz)
 |call (own:Bool) (tk:Option Tmp) (f:cz) (args:List cz)
 |callM (own:Bool) (t:Tmp) (f:cz) (args:List cz)
 |app (args:List cz) (Ts:List cx)
 |appS (args:List cz) (Ts:List cx)
 |clr (args:List cz) (Ts:List cx)
 |cpy (args:List cz) (Ts:List cx)
def kU (op : Op) : cg := { dst := none, op := op, type := 0, pos := "", after := #[], guard := none }
def J3(all:List cg)(o:cg):IK:=match o.op with
 |.move x=>.mv x
 |.assign x=>.mv x
 |.binOp op T x y _=>.bin op T x y
 |.fieldAddr T x f=>.fa T x f
 |.load T x=>.ld T x
 |.pick c a b=>.pick c a b
 |.build T ps=>.build T ps.toList
 |.buildSlice T n ps=>.buildS T n ps.toList
 |.alloc T=>.alloc T
 |.box _ x=>.box x
 |.makeMap _ r=>.mkM r
 |.makeSlice T x y=>.mkS T x y
 |.store T x y=>.sto T x y
 |.mapUpdate T x i y=>.upd T x i y
 |.call c=>match c.callee with
  |.value f=>match UP all c.args.toList with
   |some t=>.call (C6 all o) (some t) f c.args.toList
   |none=>match ZO all c.args.toList with
    |some t=>.callM (C6 all o) t f c.args.toList
    |none=>.call (C6 all o) none f c.args.toList
  |.builtin .append=>cond (sealD o.dst) (.appS c.args.toList c.argTypes.toList) (.app c.args.toList c.argTypes.toList)
  |.builtin .clear=>.clr c.args.toList c.argTypes.toList
  |.builtin .copy=>.cpy c.args.toList c.argTypes.toList
  |_=>.oth o.op
 |op=>.oth op
structure IC where
 g:Option (Tmp×Bool)
 d:Option Tmp
 k:IK
def comp(all:List cg)(o:cg):IC:=⟨KB all o,o.dst,J3 all o⟩
def ADB:IK->IK
 |.ld T x=>.ldz T x
 |k=>k
def bS(all:List cg)(o:cg):IC:=⟨KB all o,o.dst,cond (zB all o) (ADB (J3 all o)) (J3 all o)⟩
def DA(d:Option Tmp)(st:XS)(r:Option V):Option XS:=match r with
 |some v=>some ⟨st.c,putD st.fr d true v,st.s⟩
 |none=>none
def AKL(tk:Option Tmp)(st:XS):XS:=match tk with
 |none=>st
 | some t=>match(match EX st.fr t with
   |some (true,.vec l q γ n)=>match st.s.get l q with
    |some (γ',.vec _ es)=>Bool.rec none (some ⟨st.c,(t,true,.list false (es.take n))::st.fr,st.s.put l q γ .dead⟩) (bx γ' γ&&cq n es.length&&bh γ st.c)
    |_=>none
   | _=>none:Option XS)with
  |some st1=>st1
  |none=>st
def YD(P:cd)(args:List cz)(Ts:List cx)(fr:Fr):Option V:=match args,Ts with
 | [x,y],[T,U]=>cond (bx T U) (match BT fr x,BT fr y with
  |some xv,some yv=>M4 P T xv yv
  | _,_=>none) none
 |_,_=>none
theorem tD{o:cg}{args:Array cz}{Ts:Array cx}{fr:Fr}(h:sealD o.dst=true):appS P true o args Ts fr=YD P args.toList Ts.toList fr:=by
 unfold appS YD;split
 ·rename_i x y T U hx hT;simp only[hx,hT,h,true_and,<-DG];by_cases e:T=U
  ·subst e;rw[if_pos rfl,bt];cases BT fr x with
   |none=>rfl
   |some xv=>cases BT fr y<;>rfl
  ·rw[if_neg e];cases hb:bx T U with
   |true=>exact absurd (bg hb) e
   |false=>rfl
 ·rename_i hn;split
  ·rename_i x y T U hx hT;exact(hn x y T U hx hT).elim
  ·rfl
def stepK(P:cd)(E:XE)(d:Option Tmp)(k:IK)(st:XS):Option XS:=match k with
 |.mv x=>DA d st (BT st.fr x)
 |.bin op T x y=>DA d st (vQ P st.fr op T x y)
 |.fa T x f=>DA d st (xFA P st.fr T x f)
 |.ld T x=>DA d st (NH P st.fr st.s T x)
 |.ldz T x=>DA d st (NH P st.fr st.s T x)
 |.pick c a b=>DA d st (rY st.fr c a b)
 |.build T ps=>DA d st (SV P st.fr T ps)
 |.buildS T n ps=>DA d st (OK P st.fr T n ps)
 |.oth op=>DA d st (ID P (kU op) st.s (BT st.fr))
 |.alloc T=>NM P d T st
 |.box x=>jS d x st
 |.mkM r=>vY d r st
 |.mkS T x y=>T8 P d T x y st
 |.sto T x y=>IJ P d T x y st
 |.upd T x i y=>vZ P d T x i y st
 |.call own tk f args=>PI E own d f args (AKL tk st)
 |.callM own t f args=>PI E own d f args (KS t st)
 |.app args Ts=>xAppend P d args Ts st
 |.appS args Ts=>DA d st (YD P args Ts st.fr)
 |.clr args Ts=>S7 P d args Ts st
 |.cpy args Ts=>sA P d args Ts st
def opI(P:cd)(E:XE)(i:IC)(st:XS):Option XS:=match gdX st.fr i.g with
 |some true=>stepK P E i.d i.k st
 |some false=>some (HG i.d st)
 |none=>none
def opO(P:cd)(E:XE)(i:IC)(r:Option XS):Option XS:=match r with
 |some st=>opI P E i st
 |none=>none
def NU(P:cd)(E:XE):List IC->Option XS->Option XS
 |[],r=>r
 |i::l,r=>NU P E l (opO P E i r)
theorem YE(all:List cg)(st:XS):∀(xs:List cz),(match NI all st xs with
  |some st1=>st1
  | none=>st)=AKL (UP all xs) st
 |[]=>rfl
 |x::r=>by
  unfold NI UP;cases x with
  |tmp t=>
   simp only
   cases AG2 all t with
   |false=>exact YE all st r
   |true=>rfl
  |_=>exact YE all st r
theorem A1K{o:cg}{st:XS}:ABO P (fun _=>false) o st=none:=by unfold ABO;split<;>rfl
theorem ADC(hl:E.lit=fun _=>false)(all:List cg)(o:cg)(st:XS):opX P E all o st=opI P E (comp all o) st:=by
  unfold opX opI;rw[hl];simp only[A1K];have:(match sC all o st with
      |some st1=>PJ P E (C6 all) o st1
      | none=>PJ P E (C6 all) o st)=stepK P E o.dst (J3 all o) st:=by
    have ht:∀(r:Option XS),(match r with
      |some st1=>PJ P E (C6 all) o st1
      | none=>PJ P E (C6 all) o st)=PJ P E (C6 all) o (match r with
      |some st1=>st1
      | none=>st):=fun r=>by cases r <;> rfl
    rw[ht]
    obtain⟨d,op,T,pos,af,gd⟩:=o
    cases op with
    |call c=>
      obtain⟨cal,args,Ts⟩:=c
      cases cal with
      |value f=>
        have e1:=YE all st args.toList
        show PJ P E _ _ (match(match UP all args.toList with
          |some _=>NI all st args.toList
          |none=>match ZO all args.toList with
            |some t=>some (KS t st)
            | none=>none:Option XS)with | some st1=>st1 | none=>st)=stepK P E d (match UP all args.toList with
          |some t=>.call (C6 all _) (some t) f args.toList
          |none=>match ZO all args.toList with
            |some t=>.callM (C6 all _) t f args.toList
            | none=>.call (C6 all _) none f args.toList) st
        cases ht:UP all args.toList with
        |some t=>
          rw[ht]at e1
          simp only
          rw[e1]
          rfl
        |none=>cases ZO all args.toList<;>rfl
      |builtin b=>
        cases b<;>first
          |rfl
          | (show(Bool.rec (xAppend P d args.toList Ts.toList st) (xVal P _ st) (sealD d):Option XS)=stepK P E d (cond (sealD d) (.appS args.toList Ts.toList) (.app args.toList Ts.toList)) st
             cases hs:sealD d with
             |false=>rfl
             |true=>
               show xVal P _ st=DA d st (YD P args.toList Ts.toList st.fr)
               unfold xVal vR
               simp only
               rw[tD hs]
               rfl)
      |_=>rfl
    |_=>rfl
  show _=(match gdX st.fr (KB all o)with
    |some true=>stepK P E o.dst (J3 all o) st
    |some false=>some (HG o.dst st)
    | none=>none)
  cases gdX st.fr (KB all o)with
  |none=>rfl
  |some b=>
    cases b with
    |false=>rfl
    |true=>exact this
theorem HU:∀(l:List IC),NU P E l none=none
 |[]=>rfl
 |_::l=>HU l
theorem eU(hl:E.lit=fun _=>false)(all:List cg):∀(l:List cg) (st:XS),dT P E all l st=NU P E (l.map (comp all)) (some st)
 |[],st=>rfl
 |o::l,st=>by
  simp only[dT,List.map_cons,NU,opO];rw[ADC hl];cases opI P E (comp all o) st with
  |none=>exact(HU _).symm
  |some st'=>exact eU hl all l st'
def FV(P:cd)(k:IK)(r:cz->Option V):AJ:=match k with
 |.ld T x=>EY (bx (P.cellsOf T) 1) (r x)
 |.app xs _=>HS r xs
 |.appS xs _=>HS r xs
 |.call _ _ f args=>cond (FL f) (P8 r args) []
 |.callM _ _ f args=>cond (FL f) (P8 r args) []
 |.oth op=>DN P (kU op) r
 |_=>[]
def CL(P:cd)(E:XE)(d:Option Tmp)(k:IK)(st:XS):Option (XS×AJ):=match k with
 |.mv x=>noW (DA d st (BT st.fr x))
 |.bin op T x y=>noW (DA d st (vQ P st.fr op T x y))
 |.fa T x f=>noW (DA d st (xFA P st.fr T x f))
 |.ld T x=>noW (DA d st (NH P st.fr st.s T x))
 |.ldz T x=>noW (DA d st (NH P st.fr st.s T x))
 |.pick c a b=>noW (DA d st (rY st.fr c a b))
 |.build T ps=>noW (DA d st (SV P st.fr T ps))
 |.buildS T n ps=>noW (DA d st (OK P st.fr T n ps))
 |.oth op=>noW (DA d st (ID P (kU op) st.s (BT st.fr)))
 |.alloc T=>noW (NM P d T st)
 |.box x=>noW (jS d x st)
 |.mkM r=>noW (vY d r st)
 |.mkS T x y=>noW (T8 P d T x y st)
 |.sto T x y=>ABS P d T x y st
 |.upd ..=>none
 |.call own _ f args=>Bool.rec (noW (cond (FL f) (NJ E.c0 E.co d f args st) (E6 E.c0 d f args st))) (noW (EO E.co d f args st)) own
 |.callM own _ f args=>Bool.rec (noW (cond (FL f) (NJ E.c0 E.co d f args st) (E6 E.c0 d f args st))) (noW (EO E.co d f args st)) own
 |.app args Ts=>xAppD P d args Ts st
 |.appS args Ts=>noW (DA d st (YD P args Ts st.fr))
 |.clr ..=>none
 |.cpy ..=>none
def YF:IK->Bool
 |.sto ..|.app ..=>true
 |_=>false
def TC(P:cd)(E:XE)(i:IC)(st:XS):Option (XS×AJ):=match gdX st.fr i.g with
 |some true=>CL P E i.d i.k st
 |some false=>Bool.rec (some (HG i.d st,[])) none (YF i.k)
 |none=>none
def kV(P:cd)(E:XE)(i:IC)(r:Option (XS×AJ×AJ)):Option (XS×AJ×AJ):=match r with
 |some (st,rd,wr)=>match TC P E i st with
  |some (st',w)=>some (st',FV P i.k (BT st.fr)++rd,w++wr)
  |none=>none
 |none=>none
def TD(P:cd)(E:XE):List IC->Option (XS×AJ×AJ)->Option (XS×AJ×AJ)
 |[],r=>r
 |i::l,r=>TD P E l (kV P E i r)
def YG(r:Option (XS×AJ×AJ)):Option XS:=match r with
 |some (st,rd,wr)=>Bool.rec none (some st) (wr.all fun p=>!(rd.contains p))
 |none=>none
structure kX where
 new:List Tmp
 ph:List IC
 sq:List IC
def eV(new:List Tmp)(st:XS):Bool:=new.all fun d=>(st.s.loc.get d).isNone
def ADD(new:List Tmp)(r:Option XS):Option (XS×AJ×AJ):=match r with
 |some st=>Bool.rec none (some (st,[],[])) (eV new st)
 |none=>none
def TE(P:cd)(E:XE):List kX->Option XS->Option XS
 |[],r=>r
 |p::S,r=>TE P E S (NU P E p.sq (YG (TD P E p.ph (ADD p.new r))))
def bT(l:List cg)(R:List Nat):List IC:=R.filterMap fun i=>(l[i]?).map (comp l)
def bU(l:List cg)(R:List Nat):List IC:=R.filterMap fun i=>(l[i]?).map (bS l)
def tE(l:List cg)(R:List Nat):List Tmp:=R.filterMap fun i=>match l[i]? with
 |some o=>cond (kA (C6 l) o) o.dst none
 |none=>none
def kY(l:List cg)(p:List Nat×List Nat):kX:=⟨tE l p.1,bU l p.1,bT l p.2⟩
def EL(l:List cg)(S:UM):Bool:=S.all fun p=>p.1.all (fun i=>bh i l.length)&&p.2.all (fun i=>bh i l.length)
theorem wS(all:List cg)(o:cg)(st:XS):dW P E (C6 all) o st=CL P E o.dst (J3 all o) st:=by
  obtain⟨d,op,T,pos,af,gd⟩:=o;cases op with
  |call c=>
    obtain⟨cal,args,Ts⟩:=c
    cases cal with
    |builtin b=>
      cases b<;>first
        |rfl
        | (show(Bool.rec (xAppD P d args.toList Ts.toList st) (noW (xVal P _ st)) (sealD d):Option (XS×AJ))=CL P E d (cond (sealD d) (.appS args.toList Ts.toList) (.app args.toList Ts.toList)) st
           cases hs:sealD d with
           |false=>rfl
           |true=>
             show noW (xVal P _ st)=noW (DA d st (YD P args.toList Ts.toList st.fr))
             unfold xVal vR
             simp only
             rw[tD hs]
             rfl)
    |value f=>
      unfold J3
      simp only
      cases UP all args.toList with
      |some t=>rfl
      |none=>cases ZO all args.toList<;>rfl
    |_=>rfl
  |_=>rfl
theorem APN(all:List cg)(o:cg)(r:cz->Option V):DN P o r=FV P (J3 all o) r:=by
  obtain⟨d,op,T,pos,af,gd⟩:=o;cases op with
  |call c=>
    obtain⟨cal,args,Ts⟩:=c
    cases cal with
    |builtin b=>
      cases b<;>first
        |rfl
        | (show HS r args.toList=FV P (cond (sealD d) (.appS args.toList Ts.toList) (.app args.toList Ts.toList)) r
           cases sealD d <;> rfl)
    |value f=>
      unfold J3
      simp only
      cases UP all args.toList with
      |some t=>rfl
      |none=>cases ZO all args.toList<;>rfl
    |_=>rfl
  |_=>rfl
theorem A1L(all:List cg)(o:cg):(kW o||kP o)=YF (J3 all o):=by
  obtain⟨d,op,T,pos,af,gd⟩:=o;cases op with
  |call c=>
    obtain⟨cal,args,Ts⟩:=c
    cases cal with
    |builtin b=>
      cases b<;>first
        |rfl
        | (show(false||!sealD d)=YF (cond (sealD d) (.appS args.toList Ts.toList) (.app args.toList Ts.toList))
           cases sealD d <;> rfl)
    |value f=>
      unfold J3
      simp only
      cases UP all args.toList with
      |some t=>simp[kW,kP,YF]
      |none=>cases ZO all args.toList<;>simp[kW,kP,YF]
    |_=>rfl
  |_=>rfl
theorem AHT(all:List cg)(o:cg)(st:XS):oB P E all o st=TC P E (comp all o) st:=by unfold oB TC;rw[wS,A1L];rfl
theorem pJ(d:Option Tmp)(k:IK)(st:XS):CL P E d (ADB k) st=CL P E d k st:=by cases k<;>rfl
theorem AHU(k:IK):YF (ADB k)=YF k:=by cases k<;>rfl
theorem APO(all:List cg)(o:cg)(st:XS):TC P E (bS all o) st=TC P E (comp all o) st:=by
 unfold bS comp;cases zB all o with
 |false=>rfl
 |true=>
  show TC P E ⟨KB all o,o.dst,ADB (J3 all o)⟩ st=_
  unfold TC
  simp only[pJ,AHU]
theorem APP(all:List cg)(o:cg)(r:cz->Option V):cond (zB all o) [] (DN P o r)=FV P (bS all o).k r:=by
 unfold bS;cases hz:zB all o with
 |false=>exact APN all o r
 |true=>
  obtain⟨T,x,ho⟩:=AJ5 hz
  show[]=FV P (ADB (J3 all o)) r
  unfold J3
  rw[ho]
  rfl
theorem OO:∀(l:List IC),TD P E l none=none
 |[]=>rfl
 |_::l=>OO l
theorem ADE(l:List cg):∀(R:List Nat) (st:XS) (rd wr:AJ),R.all (fun i=>bh i l.length)=true->phX P E l R st rd wr=TD P E (bU l R) (some (st,rd,wr))
 |[],st,rd,wr,_=>rfl
 |i::R,st,rd,wr,h=>by
  simp only[bn,bj,bc]at h;have hi:=bz h.1;have hp:bU l (i::R)=bS l l[i]::bU l R:=by simp[bU,hi]
  rw[hp];simp only[phX,hi,TD,kV,AHT,APO];cases TC P E (comp l l[i]) st with
  |none=>exact(OO _).symm
  |some q=>
   obtain⟨st',w⟩:=q
   simp only
   rw[ADE l R _ _ _ h.2,APP l]
theorem ADF(hl:E.lit=fun _=>false)(l:List cg):∀(R:List Nat) (st:XS),R.all (fun i=>bh i l.length)=true->sqX P E l R st=NU P E (bT l R) (some st)
 |[],st,_=>rfl
 |i::R,st,h=>by
  simp only[bn,bj,bc]at h;have hi:=bz h.1;have hp:bT l (i::R)=comp l l[i]::bT l R:=by simp[bT,hi]
  rw[hp];simp only[sqX,hi,NU,opO,ADC hl];cases opI P E (comp l l[i]) st with
  |none=>exact(HU _).symm
  |some st'=>exact ADF hl l R st' h.2
theorem KT:∀(S:List kX),TE P E S none=none
 |[]=>rfl
 |p::S=>by simp only[TE,ADD,OO,YG,HU];exact KT S
theorem kZ(l:List cg)(st:XS):∀(R:List Nat),XG (C6 l) l R st.s.loc=eV (tE l R) st
 |[]=>rfl
 |i::R=>by
  have ih:=kZ l st R;unfold XG eV tE at *;simp only[bn,List.filterMap_cons,ih];cases hi:l[i]? with
  |none=>simp
  |some o=>
   simp only
   cases hk:kA (C6 l) o with
   |false=>simp
   |true=>
    cases hd:o.dst with
    |none=>simp
    |some d=>simp
theorem eW(hl:E.lit=fun _=>false)(l:List cg):∀(S:UM) (st:XS),EL l S=true->vV P E l S st=TE P E (S.map (kY l)) (some st)
 |[],st,_=>rfl
 |p::S,st,h=>by
  simp only[EL,bn,bj]at h;obtain⟨⟨h1,h2⟩,h3⟩:=h;simp only[vV,List.map_cons,TE,kY,ADD,kZ];cases eV (tE l p.1) st with
  |false=>
   simp only[OO,YG,HU]
   exact(KT _).symm
  |true=>
   simp only[ADE l _ _ _ _ h1]
   cases TD P E (bU l p.1) (some (st,[],[]))with
   |none=>simp only[YG,HU];exact(KT _).symm
   |some q=>
    obtain⟨st1,rd,wr⟩:=q
    simp only[YG]
    cases (wr.all fun p=>!rd.contains p)with
    |false=>simp only[HU];exact(KT _).symm
    |true=>
     simp only[ADF hl l _ _ h2]
     cases NU P E (bT l p.2) (some st1)with
     |none=>exact(KT _).symm
     |some GI=>exact eW hl l S GI h3
inductive IR where
 |str (l:List IC)
 |drw (S:List kX)
 |cls (ks:List (Nat×Nat×Nat))
def bV(P:cd)(ops:List cg)(draw:Bool):IR:=cond draw (cond (O6 P ops) (.cls (G7 ops)) (.drw ((UQ ops).map (kY ops)))) (.str (ops.map (comp ops)))
def okR(P:cd)(ops:List cg)(draw:Bool):Bool:=cond draw (cond (O6 P ops) true (EL ops (UQ ops))) true
def O8(P:cd)(E:XE)(i:IR)(st:XS):Option XS:=match i with
 |.str l=>NU P E l (some st)
 |.drw S=>TE P E S (some st)
 |.cls ks=>O7 P ks (some st)
end Go.Pg
namespace Go.Pg
variable {P:cd}{σ σ':Nat->Nat}{δ:Nat}{pre:List AA}{s:St}{fr:Fr}
abbrev Tr:=Option (List Nat×List Nat)
abbrev Ann:=Nat->Nat->Tr
def CN(a:Tr)(st:XS):XS:=match a with
 |some p=>P7 p.1 p.2 st
 |none=>st
theorem KU{a:Tr}{st:XS}(h:Bd st):HY st (CN a st):=by
 cases a with
 |none=>exact⟨Nat.le_refl _,h,rfl⟩
 |some p=>exact RK h
theorem HZ{a:Tr}{st:XS}:(CN a st).c=st.c:=by cases a<;>rfl
theorem JG{n N:Nat}{ρ:Option Nat}{c:cm}{K:Exit->Fr->St->Prop}{a:Tr}{st:XS}(h:BD P n N ρ c K ((CN a st).fr.ren σ pre.length) ((CN a st).s.emb σ pre)):BD P n N ρ c K (st.fr.ren σ pre.length) (st.s.emb σ pre):=by
 cases a with
 |none=>exact h
 |some p=>exact S1 h
def A1M(P:cd)(E:XE)(a:Tr)(l:List cg)(draw:Bool)(st:XS):Option XS:=Bool.rec (dT P E l l (CN a st)) (Bool.rec (NK P E l (CN a st)) (O7 P (G7 l) (some (CN a st))) (O6 P l)) draw
def isY:List Nat->Bool
 |k::_=>bx k 777
 |[]=>false
def eX(P:cd)(E:XE)(N:Nat)(a:Tr)(l:List cg)(draw:Bool)(us:List Nat)(st:XS):Option XS:=Bool.rec (A1M P (cfU us E) a l draw st) (Bool.rec none (sY P E N l (CN a st)) draw) (isY us)
def BS(rec:T5)(body:cm)(a:Tr)(n:Nat):XS->Option (Exit×XS):=Nat.rec (motive:=fun _=>XS->Option (Exit×XS)) (fun _=>none) (fun _ ih st=>match rec body st with
 |some (.normal,st')=>ih (CN a st')
 | r=>r) n
def QB(id:Nat)(l:List cg):Nat:=id+1000*l.length+1000000*(match l with
 |o::_=>match o.dst with
  |some d=>d
  |none=>0
 | []=>0)
def CP:cm->Nat
 |.region id ops _=>QB id ops.toList
 |.seq a _=>CP a
 |.block _ c=>CP c
 |.loop c=>CP c
 |.scope c=>CP c
 |_=>0
def RW:Tr->List Nat
 |some p=>p.1
 |none=>[]
def HJ:Nat:=1000000000000000
def ZU:Nat:=2000000000000000
def xZ(k:Nat)(st:XS):XS:=Bool.rec (Bool.rec (NO (k % 1000) (k / 1000 % 1000) st) (mvX ((k-1000) % 1000) ((k-1000) / 1000 % 1000) ((k-1000) / 1000000 % 1000) ((k-1000) / 1000000000 % 1000) ((k-1000) / 1000000000000) st) (bh k 1000000000000000)) (EC k st) (bh k 1000)
def gpL(ks:List Nat)(st:XS):XS:=List.rec (motive:=fun _=>XS->XS) (fun st=>st) (fun k _ ih st=>ih (xZ k st)) ks st
def gpO(ks:List Nat):Option XS->Option XS
 |some st=>some (gpL ks st)
 |none=>none
@[simp] theorem A1N(ks:List Nat)(st:XS):gpO ks (some st)=some (gpL ks st):=rfl
@[simp] theorem A6M(st:XS):gpL [] st=st:=rfl
@[simp] theorem A1O(k:Nat)(ks:List Nat)(st:XS):gpL (k::ks) st=gpL ks (xZ k st):=rfl
theorem APQ{k:Nat}(h:1000<=k)(h2:k<1000000000000000)(st:XS):xZ k st=mvX ((k-1000) % 1000) ((k-1000) / 1000 % 1000) ((k-1000) / 1000000 % 1000) ((k-1000) / 1000000000 % 1000) ((k-1000) / 1000000000000) st:=by
 have h1:bh k 1000=false:=by rw[<-Bool.not_eq_true,bc];omega
 have h2:bh k 1000000000000000=true:=by simpa [bc]using h2
 unfold xZ;rw[h1,h2]
theorem APR{k:Nat}{st:XS}(h:Bd st):(xZ k st).c=st.c/\HY st (xZ k st)/\∀(σ:Nat->Nat) (pre:List AA),EV (st.fr.ren σ pre.length) (st.s.emb σ pre) ((xZ k st).fr.ren σ pre.length) ((xZ k st).s.emb σ pre):=by
 unfold xZ;cases bh k 1000 with
 |true=>exact⟨rfl,KR h,fun σ pre=>RO⟩
 |false=>cases bh k 1000000000000000 with
  |true=>exact⟨AKC,sP h,fun σ pre=>ACO⟩
  |false=>exact⟨ACB,X3 h,fun σ pre=>eI⟩
theorem ADG:∀(ks:List Nat) {st:XS},Bd st->(gpL ks st).c=st.c/\HY st (gpL ks st)/\∀(σ:Nat->Nat) (pre:List AA),EV (st.fr.ren σ pre.length) (st.s.emb σ pre) ((gpL ks st).fr.ren σ pre.length) ((gpL ks st).s.emb σ pre)
 |[],st,h=>⟨rfl,⟨Nat.le_refl _,h,rfl⟩,fun _ _ _ _ _ G _ _ hR=>⟨G,hR⟩⟩
 |k::ks,st,h=>by obtain⟨h1,h2,h3⟩:=APR (k:=k) h;obtain⟨q1,q2,q3⟩:=ADG ks h2.bd;exact⟨q1.trans h1,⟨bp h2.c q2.c,q2.bd,q2.n.trans h2.n⟩,fun σ pre=>(h3 σ pre).trans (q3 σ pre)⟩
theorem wT{n N:Nat}{ρ:Option Nat}{c:cm}{K:Exit->Fr->St->Prop}{fr:Fr}{s:St}(h:BD P n N ρ c (fun e fr s=>∃fr2 s2,EV fr s fr2 s2/\K e fr2 s2) fr s):BD P n N ρ c K fr s:=fun G0 G a w hR=>wpIn_mono (h G0 G a w hR) fun e a' w' hq=>by obtain⟨G',fr',s',hR',fr2,s2,hg,hk⟩:=hq;obtain⟨G2,hR2⟩:=hg _ _ _ _ _ _ hR';exact⟨G2,fr2,s2,hR2,hk⟩
theorem AHW:∀o:Option XS,gpO [] o=o
 |some _=>rfl
 |none=>rfl
def lA:Tr->List Nat
 |some p=>p.2
 |none=>[]
def TF(P:cd)(E:XE)(A:Ann)(n N:Nat)(rec:T5):T5:=fun code st=>match code with
 |.region id ops draw=>S2 (gpO (RW (A N (QB id ops.toList+ZU))) (eX P E N (A N (QB id ops.toList)) ops.toList draw (lA (A N (QB id ops.toList+HJ))) (ZB (RW (A N (QB id ops.toList+HJ))) st)))
 |.loop body=>BS rec body (A N (CP body)) n (CN (A N (CP body)) st)
 |c=>XQ P E n N rec c st
def AG(P:cd)(A:Ann)(kn:CF0)(n:Nat):FK:=Nat.rec (motive:=fun _=>FK) (fun _ _ _=>none) (fun n ih N=>TF P (A0H P kn (fun _ _ _=>none) (fun _=>false) ih) A n N (ih N)) n
theorem AHX(hP:DM P){E:XE}(hEE:JB P E){a:Tr}{id:Nat}{ops:Array cg}{draw:Bool}{N:Nat}(hN:EH N (.region id ops draw)=true){st st':XS}(hx:A1M P E a ops.toList draw st=some st')(hbd:Bd st):HY st st' /\
  ∀(n:Nat) (ρ:Option Nat) (σ:Nat->Nat) (pre:List AA) (K:Exit->Fr->St->Prop),(∀σ',AP st.c σ σ'->K .normal (st'.fr.ren σ' pre.length) (st'.s.emb σ' pre))->BD P n N ρ (.region id ops draw) K (st.fr.ren σ pre.length) (st.s.emb σ pre):=by
 obtain⟨l⟩:=ops
 have hT:=KU (a:=a) hbd
 have ext:∀{st'},HY (CN a st) st'->HY st st':=fun h=>⟨by have:=h.c;rwa [HZ]at this,h.bd,h.n.trans hT.n⟩
 cases draw with
 |false=>
  simp only[EH,cond_false,bj]at hN
  have hx:dT P E l l (CN a st)=some st':=hx
  obtain⟨hE,hs⟩:=dU hEE hT.bd hx
  refine⟨ext hE,fun n ρ σ pre K hk=>JG (a:=a) ?_⟩
  exact TY (l.map (KB l)) hN.1 (eC (RL hN.2)) (hs σ pre _ fun σ' ha=>hk σ' (by rwa [HZ]at ha))
 |true=>
  simp only[EH,cond_true]at hN
  cases hc:O6 P l with
  |true=>
   have hx:(Bool.rec (NK P E l (CN a st)) (O7 P (G7 l) (some (CN a st))) (O6 P l):Option XS)=some st':=hx
   rw[hc]at hx
   obtain⟨hE,hs⟩:=AHN (id:=id) hP hN hc hx hT.bd
   exact⟨ext hE,fun n ρ σ pre K hk=>JG (a:=a) (hs n ρ σ pre K fun σ' ha=>hk σ' (by rwa [HZ]at ha))⟩
  |false=>
  have hx:(Bool.rec (NK P E l (CN a st)) (O7 P (G7 l) (some (CN a st))) (O6 P l):Option XS)=some st':=hx
  rw[hc]at hx
  obtain⟨hE,hs⟩:=YB (id:=id) hP hEE hN hx hT.bd
  exact⟨ext hE,fun n ρ σ pre K hk=>JG (a:=a) (hs n ρ σ pre K fun σ' ha=>hk σ' (by rwa [HZ]at ha))⟩
theorem AHY(hP:DM P){E:XE}(hEE:JB P E){a:Tr}{us:List Nat}{id:Nat}{ops:Array cg}{draw:Bool}{N:Nat}(hN:EH N (.region id ops draw)=true){st st':XS}(hx:eX P E N a ops.toList draw us st=some st')(hbd:Bd st):HY st st' /\
  ∀(n:Nat) (ρ:Option Nat) (σ:Nat->Nat) (pre:List AA) (K:Exit->Fr->St->Prop),(∀σ',AP st.c σ σ'->K .normal (st'.fr.ren σ' pre.length) (st'.s.emb σ' pre))->BD P n N ρ (.region id ops draw) K (st.fr.ren σ pre.length) (st.s.emb σ pre):=by
 unfold eX at hx
 cases hy:isY us with
 |false=>rw[hy]at hx;exact AHX hP (AOK hEE _) hN hx hbd
 |true=>
  rw[hy]at hx
  cases draw with
  |false=>cases hx
  |true=>
   have hx:sY P E N ops.toList (CN a st)=some st':=hx
   have hT:=KU (a:=a) hbd
   obtain⟨hE,hs⟩:=AC0 hP hEE (id:=id) hx hT.bd
   refine⟨⟨by have:=hE.c;rwa [HZ]at this,hE.bd,hE.n.trans hT.n⟩,fun n ρ σ pre K hk=>JG (a:=a) ?_⟩
   exact hs n ρ σ pre K fun σ' ha=>hk σ' (by rwa [HZ]at ha)
theorem ADH{N:Nat}{rec:T5}(hrec:XU P N rec){body:cm}{a:Tr}(hN:EH N body=true)(m:Nat){st st':XS}{e:Exit}(hx:BS rec body a m (CN a st)=some (e,st'))(hbd:Bd st):HY st st'/\(∀l,e≠.goto l) /\
  ∀(n:Nat) (ρ:Option Nat) (σ:Nat->Nat) (pre:List AA) (K:Exit->Fr->St->Prop),(ρ=none\/FU body=true)->(∀σ',AP st.c σ σ'->K e (st'.fr.ren σ' pre.length) (st'.s.emb σ' pre))->BD P n N ρ (.loop body) K (st.fr.ren σ pre.length) (st.s.emb σ pre):=by
 have up:∀{st st':XS},Bd st->HY (CN a st) st'->HY st st':=fun hbd h=>⟨by have:=h.c;rwa [HZ]at this,h.bd,h.n.trans (KU hbd).n⟩
 have ext:∀(m:Nat) {st:XS},BS rec body a m (CN a st)=some (e,st')->Bd st->HY st st'/\(∀l,e≠.goto l):=by
  intro m;induction m with
  |zero=>intro st hx _;cases hx
  |succ m ih=>
   intro st hx hbd
   have hx:(match rec body (CN a st)with
    |some (.normal,st')=>BS rec body a m (CN a st')
    | r=>r)=some (e,st'):=hx
   have hT:=KU (a:=a) hbd
   split at hx
   ·rename_i st1 h1;obtain⟨hE,_,_⟩:=hrec _ _ _ _ h1 hT.bd hN;obtain⟨hE',hg⟩:=ih hx hE.bd;exact⟨up hbd ⟨bp hE.c hE'.c,hE'.bd,hE'.n.trans hE.n⟩,hg⟩
   ·obtain⟨hE,hg,_⟩:=hrec _ _ _ _ hx hT.bd hN;exact⟨up hbd ⟨hE.c,hE.bd,hE.n⟩,hg⟩
 obtain⟨hE,hg⟩:=ext m hx hbd
 refine⟨hE,hg,fun n ρ σ pre K hρ hk=>?_⟩
 refine aQ (fun m fr s=>∃(st:XS) (σ:Nat->Nat),fr=st.fr.ren σ pre.length/\s=st.s.emb σ pre/\Bd st/\BS rec body a m (CN a st)=some (e,st')/\∀σ',AP st.c σ σ'->K e (st'.fr.ren σ' pre.length) (st'.s.emb σ' pre)) m ⟨st,σ,rfl,rfl,hbd,hx,hk⟩ ?_
 rintro m fr s ⟨st,σ,rfl,rfl,hbd,hx,hk⟩
 cases m with
 |zero=>cases hx
 |succ m=>
  have hx:(match rec body (CN a st)with
   |some (.normal,st')=>BS rec body a m (CN a st')
   | r=>r)=some (e,st'):=hx
  have hT:=KU (a:=a) hbd
  refine JG (a:=a) ?_
  split at hx
  ·rename_i st1 h1;obtain⟨hE,_,hC⟩:=hrec _ _ _ _ h1 hT.bd hN;refine hC n ρ σ pre _ hρ fun σ' ha=>?_;rw[HZ]at ha;exact⟨m,Nat.lt_succ_self _,st1,σ',rfl,rfl,hE.bd,hx,fun σ'' ha'=>hk σ'' (ha.trans ha' (by have:=hE.c;rwa [HZ]at this))⟩
  ·rename_i hne;obtain⟨hE,hg,hC⟩:=hrec _ _ _ _ hx hT.bd hN;refine hC n ρ σ pre _ hρ fun σ' ha=>?_;rw[HZ]at ha;have:=hk σ' ha;cases e with
   |normal=>exact absurd hx (hne st')
   |_=>exact this
theorem eY(hP:DM P){E:XE}(hEE:JB P E){A:Ann}{N:Nat}{rec:T5}(hrec:XU P N rec)(m:Nat):XU P N (TF P E A m N rec):=by
 intro code st e st' hx hbd hN;unfold TF at hx;split at hx
 ·rename_i id ops draw;obtain⟨rfl,hx2⟩:=kQ hx;have hT:=sT (RW (A N (QB id ops.toList+HJ))) hbd;generalize RW (A N (QB id ops.toList+ZU))=kp at hx2;cases hx3:eX P E N (A N (QB id ops.toList)) ops.toList draw (lA (A N (QB id ops.toList+HJ))) (ZB (RW (A N (QB id ops.toList+HJ))) st)with
  |none=>rw[hx3]at hx2;cases hx2
  |some st1=>
   rw[hx3]at hx2
   cases hx2
   obtain⟨hE,hs⟩:=AHY hP hEE hN hx3 hT.bd
   obtain⟨hc2,hT2,hg2⟩:=ADG kp hE.bd
   exact⟨⟨bp hT.c (bp hE.c hT2.c),hT2.bd,hT2.n.trans (hE.n.trans hT.n)⟩,(by intro l h;cases h),fun n ρ σ pre K _ hk=>kJ _ (wT (hs n ρ σ pre _ fun σ' ha=>⟨_,_,hg2 σ' pre,hk σ' (by rwa [AKD]at ha)⟩))⟩
 ·rename_i body;have hN:EH N body=true:=hN;obtain⟨h1,h2,h3⟩:=ADH hrec hN m hx hbd;exact⟨h1,h2,fun n ρ σ pre K hρ hk=>h3 n ρ σ pre K hρ hk⟩
 ·exact kR hP hEE hrec m _ _ _ _ hx hbd hN
theorem JH(hP:DM P){A:Ann}{kn:CF0}(hkn:EF P kn):∀n,S4 P (AG P A kn n)
 |0=>fun N code st e st' hx=>by cases hx
 |n+1=>fun N=>by have ih:=JH hP (A:=A) hkn n;exact eY hP ⟨jR hP hkn ih,AHQ hP ih,XX hP hkn ih,ABZ hP hkn (ko:=fun _ _ _=>none) (fun _ _ _ _ h=>by cases h) ih⟩ (ih N) n
theorem ADI(hP:DM P){A:Ann}{kn:CF0}(hkn:EF P kn){n:Nat}{f:cp}{args:List V}{r:V}(h:EB P (AG P A kn n) f args=some r)(s:St):DQ P f args s fun r' s'=>r'=r/\s'=s :=
 (KQ hP (JH hP hkn n) f args r h).1 s
section
variable {A:Ann}{kn:CF0}{n N:Nat}{st:XS}
abbrev BR(P:cd)(A:Ann)(kn:CF0)(n:Nat):XE:=A0H P kn (fun _ _ _=>none) (fun _=>false) (AG P A kn n)
theorem ADJ(a b:cm):AG P A kn (n+1) N (.seq a b) st=dX (AG P A kn n N) b (AG P A kn n N a st):=rfl
theorem wU(c:cz)(a b:cm):AG P A kn (n+1) N (.cond c a b) st=jM (AG P A kn n N) a b st (BT st.fr c):=rfl
theorem pK(id:Nat)(b:cm):AG P A kn (n+1) N (.block id b) st=L6 id (AG P A kn n N b st):=rfl
theorem wV(b:cm):AG P A kn (n+1) N (.loop b) st=BS (AG P A kn n N) b (A N (CP b)) n (CN (A N (CP b)) st):=rfl
theorem wW:AG P A kn (n+1) N .skip st=some (.normal,st):=rfl
theorem wX(id:Nat):AG P A kn (n+1) N (.exit id) st=some (.exit id,st):=rfl
theorem ADK:AG P A kn (n+1) N .ret st=some (.ret,st):=rfl
theorem pL(b:cm):AG P A kn (n+1) N (.scope b) st=AG P A kn n N b st:=rfl
theorem MD(g:cz)(ps:Array Tmp)(asg body:cm):AG P A kn (n+1) N (.rangeFunc g ps asg body) st=S3 (BR P A kn n).cf N g ps.toList asg body st:=rfl
theorem ADL(a b:cm):CP (.seq a b)=CP a:=rfl
theorem pM(id:Nat)(b:cm):CP (.block id b)=CP b:=rfl
theorem wY(b:cm):CP (.loop b)=CP b:=rfl
theorem AD(rec:T5)(body:cm)(a:Tr):BS rec body a (n+1) st=match rec body st with
 |some (.normal,st')=>BS rec body a n (CN a st')
 |r=>r:=rfl
theorem lB(rec:T5)(b:cm):dX rec b (some (.normal,st))=rec b st:=rfl
theorem ADM(rec:T5)(b:cm):dX rec b (some (.ret,st))=some (.ret,st):=rfl
theorem wZ(rec:T5)(b:cm)(i:Nat):dX rec b (some (.exit i,st))=some (.exit i,st):=rfl
theorem ADN(rec:T5)(b:cm)(c:Prop)[Decidable c](x y:Option (Exit×XS)):dX rec b (if c then x else y)=if c then dX rec b x else dX rec b y:=by split<;>rfl
theorem ZV(id:Nat):L6 id (some (.normal,st))=some (.normal,st):=rfl
theorem pN(id:Nat):L6 id (some (.ret,st))=some (.ret,st):=rfl
theorem lC(id i:Nat):L6 id (some (.exit i,st))=if i=id then some (.normal,st) else some (.exit i,st):=by
 show(Bool.rec _ _ (bx i id):Option (Exit×XS))=_;by_cases h:i=id
 ·subst h;simp
 ·have:bx i id=false:=by
   cases hb:bx i id with
   |false=>rfl
   |true=>exact absurd (bg hb) h
  simp[h,this]
theorem pO(id:Nat)(c:Prop)[Decidable c](x y:Option (Exit×XS)):L6 id (if c then x else y)=if c then L6 id x else L6 id y:=by split<;>rfl
def bW:cm->Bool
 |.region ..=>true
 |_=>false
def MT:cm->List cg
 |.region _ ops _=>ops.toList
 |_=>[]
def IL:cm->Bool
 |.region _ _ d=>d
 |_=>false
theorem VR(us:List Nat){E:XE}(h:E.lit=fun _=>false):(cfU us E).lit=fun _=>false:=by cases us<;>exact h
theorem bX{r:cm}(hr:bW r=true){i:IR}(hi:bV P (MT r) (IL r)=i)(hok:okR P (MT r) (IL r)=true){a:Tr}(ha:A N (CP r)=a){ks us:List Nat}(ht:RW (A N (CP r+HJ))=ks)(hu:lA (A N (CP r+HJ))=us)(hy:isY us=false:=by rfl)(hp:A N (CP r+ZU)=none:=by kernel_rfl):AG P A kn (n+1) N r st=S2 (O8 P (cfU us (BR P A kn n)) i (CN a (ZB ks st))):=by
 cases r with
 |region id ops draw=>
  subst hi ha ht hu
  show S2 (gpO (RW (A N (CP (.region id ops draw)+ZU))) (eX P _ N (A N (QB id ops.toList)) ops.toList draw (lA (A N (QB id ops.toList+HJ))) (ZB (RW (A N (QB id ops.toList+HJ))) st)))=_
  rw[hp,show RW none=[] from rfl,AHW]
  unfold eX
  rw[show isY (lA (A N (QB id ops.toList+HJ)))=false from hy]
  cases draw with
  |false=>exact congrArg S2 (eU (VR _ rfl) _ _ _)
  |true=>
   show S2 (Bool.rec (NK P _ ops.toList _) (O7 P (G7 ops.toList) (some _)) (O6 P ops.toList))=S2 (O8 P _ (cond (O6 P ops.toList) (.cls (G7 ops.toList)) (.drw ((UQ ops.toList).map (kY ops.toList)))) _)
   have hok:cond (O6 P ops.toList) true (EL ops.toList (UQ ops.toList))=true:=hok
   cases hc:O6 P ops.toList with
   |true=>rfl
   |false=>
    rw[hc]at hok
    exact congrArg S2 (eW (VR _ rfl) _ _ _ hok)
 |_=>cases hr
theorem TG{r:cm}(hr:bW r=true){i:IR}(hi:bV P (MT r) (IL r)=i)(hok:okR P (MT r) (IL r)=true){a:Tr}(ha:A N (CP r)=a){ks:List Nat}(ht:RW (A N (CP r+HJ))=ks)(hu:lA (A N (CP r+HJ))=[]:=by kernel_rfl)(hp:A N (CP r+ZU)=none:=by kernel_rfl):AG P A kn (n+1) N r st=S2 (O8 P (BR P A kn n) i (CN a (ZB ks st))):=bX hr hi hok ha ht hu rfl hp
theorem lD{r:cm}(hr:bW r=true){i:IR}(hi:bV P (MT r) (IL r)=i)(hok:okR P (MT r) (IL r)=true){a:Tr}(ha:A N (CP r)=a)(ht:A N (CP r+HJ)=none:=by kernel_rfl)(hp:A N (CP r+ZU)=none:=by kernel_rfl):AG P A kn (n+1) N r st=S2 (O8 P (BR P A kn n) i (CN a st)):=TG hr hi hok ha (congrArg RW ht) (congrArg lA ht) hp
theorem xA{r:cm}(hr:bW r=true){i:IR}(hi:bV P (MT r) (IL r)=i)(hok:okR P (MT r) (IL r)=true){a:Tr}(ha:A N (CP r)=a){ks:List Nat}(ht:A N (CP r+HJ)=none)(hp:RW (A N (CP r+ZU))=ks):AG P A kn (n+1) N r st=S2 (gpO ks (O8 P (BR P A kn n) i (CN a st))):=by
 cases r with
 |region id ops draw=>
  subst hi ha hp
  show S2 (gpO (RW (A N (CP (.region id ops draw)+ZU))) (eX P _ N (A N (QB id ops.toList)) ops.toList draw (lA (A N (CP (.region id ops draw)+HJ))) (ZB (RW (A N (CP (.region id ops draw)+HJ))) st)))=_
  rw[ht]
  refine congrArg (fun o=>S2 (gpO _ o)) ?_
  show eX P _ N _ ops.toList draw [] _=_
  unfold eX
  cases draw with
  |false=>exact eU (VR _ rfl) _ _ _
  |true=>
   show Bool.rec (NK P _ ops.toList _) (O7 P (G7 ops.toList) (some _)) (O6 P ops.toList)=O8 P _ (cond (O6 P ops.toList) (.cls (G7 ops.toList)) (.drw ((UQ ops.toList).map (kY ops.toList)))) _
   have hok:cond (O6 P ops.toList) true (EL ops.toList (UQ ops.toList))=true:=hok
   cases hc:O6 P ops.toList with
   |true=>rfl
   |false=>
    rw[hc]at hok
    exact eW (VR _ rfl) _ _ _ hok
 |_=>cases hr
def UR(P:cd)(rs:List ResultVar)(r:Option (Exit×XS)):Option V:=match r with
 |some (.ret,st)=>finV st.s (FJ P rs st.fr st.s)
 |some (.normal,st)=>finV st.s (FJ P rs st.fr st.s)
 |_=>none
where finV (s:St) (r:Option V):Option V:=match r with
 |some v=>match AX s 4 v with
  |some r'=>Bool.rec none (some r') (AK 9 r')
  |none=>none
 |none=>none
theorem AR{f:cp}{fn:Func}{c:cm}{args:List V}{rec:FK}(hf:P.funcs[f]? = some fn)(hb:fn.body=some c)(hs:cq args.length fn.ntmps=true)(hcl:args.all (AK 9)=true) :
  EB P rec f args=UR P fn.results.toList (rec fn.ntmps c ⟨0,AH 0 args,⟨[],[]⟩⟩):=by
 unfold EB bA T6 jN
 rw[hcl,hf]
 simp only[hb,hs]
 generalize rec fn.ntmps c ⟨0,AH 0 args,⟨[],[]⟩⟩=q
 have aux:∀st:XS,(match(match FJ P fn.results.toList st.fr st.s with
   |some r=>match AX st.s 4 r with
    |some r'=>some (r',st.c,st.s.up.map (AN st.s))
    |none=>none
   | none=>none:Option (V×Nat×List AA))with
  |some (r,_,_)=>(Bool.rec none (some r) (AK 9 r):Option V)
  | none=>none)=UR.finV st.s (FJ P fn.results.toList st.fr st.s):=fun st=>by
  unfold UR.finV
  cases FJ P fn.results.toList st.fr st.s with
  |none=>rfl
  |some r=>
   cases h:AX st.s 4 r with
   |none=>simp[h]
   |some r'=>simp[h]
 cases q with
 |none=>rfl
 |some q=>
  obtain⟨e,st⟩:=q
  cases e with
  |ret=>exact aux st
  |normal=>exact aux st
  |_=>rfl
theorem ADO(rs:List ResultVar)(c:Prop)[Decidable c](x y:Option (Exit×XS)):UR P rs (if c then x else y)=if c then UR P rs x else UR P rs y:=by split<;>rfl
end
def KD:cm->List Nat->cm
 |c,[]=>c
 |.seq a b,i::p=>bif bx i 0 then KD a p else KD b p
 |.cond _ a b,i::p=>bif bx i 0 then KD a p else KD b p
 |.block _ a,_::p=>KD a p
 |.loop a,_::p=>KD a p
 |.scope a,_::p=>KD a p
 |.rangeFunc _ _ a b,i::p=>bif bx i 0 then KD a p else KD b p
 |c,_=>c
def APS(fn:Func):cm:=match fn.body with
 |some c=>c
 |none=>.skip
end Go.Pg
namespace Go.Pg
variable {P:cd}{E:XE}{st:XS}{fr:Fr}{s:St}
@[simp] theorem A1P(r:Option XS):NU P E [] r=r:=rfl
@[simp] theorem AUF(i:IC)(l:List IC)(r:Option XS):NU P E (i::l) r=NU P E l (opO P E i r):=rfl
@[simp] theorem A1Q(i:IC):opO P E i (some st)=opI P E i st:=rfl
@[simp] theorem A1R(i:IC):opO P E i none=none:=rfl
@[simp] theorem A6N(i:IC)(c:Prop)[Decidable c](x y:Option XS):opO P E i (if c then x else y)=if c then opO P E i x else opO P E i y:=by split<;>rfl
@[simp] theorem A1S(l:List IC)(c:Prop)[Decidable c](x y:Option XS):NU P E l (if c then x else y)=if c then NU P E l x else NU P E l y:=by split<;>rfl
def gI(P:cd)(E:XE)(d:Option Tmp)(k:IK)(st:XS)(w:Bool)(r:Option (Bool×V)):Option XS:=match r with
 |some (c,.bool b)=>Bool.rec (some (HG d st)) (stepK P E d k st) (c&&(b==w))
 |_=>none
@[simp] theorem A1T(d:Option Tmp)(k:IK):opI P E ⟨none,d,k⟩ st=stepK P E d k st:=rfl
@[simp] theorem AUG(t:Tmp)(w:Bool)(d:Option Tmp)(k:IK):opI P E ⟨some (t,w),d,k⟩ st=gI P E d k st w (EX st.fr t):=by
 show(match(match EX st.fr t with | some (c,.bool b)=>some (c&&(b == w)) | _=>none:Option Bool)with
  |some true=>stepK P E d k st
  |some false=>some (HG d st)
  | none=>none)=_
 unfold gI;cases EX st.fr t with
 |none=>rfl
 |some p=>
  obtain⟨c,v⟩:=p
  cases v with
  |bool b=>cases h:(c&&(b==w))<;>simp[h]
  |_=>rfl
@[simp] theorem BEY(d:Option Tmp)(k:IK):gI P E d k st true (some (true,.bool true))=stepK P E d k st:=rfl
@[simp] theorem BEZ(d:Option Tmp)(k:IK):gI P E d k st true (some (true,.bool false))=some (HG d st):=rfl
@[simp] theorem BE0(d:Option Tmp)(k:IK):gI P E d k st false (some (true,.bool true))=some (HG d st):=rfl
@[simp] theorem BE1(d:Option Tmp)(k:IK):gI P E d k st false (some (true,.bool false))=stepK P E d k st:=rfl
@[simp] theorem BE2(d:Option Tmp)(k:IK)(w b:Bool):gI P E d k st w (some (false,.bool b))=some (HG d st):=rfl
@[simp] theorem A1U(d:Tmp)(c:Nat)(fr:Fr)(s:St):HG (some d) ⟨c,fr,s⟩=⟨c,(d,false,.bool false)::fr,s⟩:=rfl
@[simp] theorem A1V(c:Nat)(fr:Fr)(s:St):HG none ⟨c,fr,s⟩=⟨c,fr,s⟩:=rfl
@[simp] theorem A1W(k:Nat):EX [] k=none:=rfl
@[simp] theorem AUH(j:Nat)(x:Bool×V)(fr:Fr)(k:Nat):EX ((j,x)::fr) k=if k=j then some x else EX fr k:=by rw[F0,F0];rfl
@[simp] theorem APT(j:Nat)(x:Nat×AZ)(L:AA)(k:Nat):AA.get ((j,x)::L) k=if k=j then some x else L.get k:=rfl
def rdT:Option (Bool×V)->Option V
 |some (true,v)=>some v
 |_=>none
@[simp] theorem ADP(v:V):rdT (some (true,v))=some v:=rfl
@[simp] theorem AUJ(v:V):rdT (some (false,v))=none:=rfl
@[simp] theorem A1X:rdT none=none:=rfl
@[simp] theorem A6O(t:Tmp):BT fr (.tmp t)=rdT (EX fr t):=by
 show(match EX fr t with
  |some (true,v)=>some v
  | _=>none)=_
 cases EX fr t with
 |none=>rfl
 |some p=>obtain⟨c,v⟩:=p;cases c<;>rfl
@[simp] theorem AUK(v:Value):BT fr (.const v)=CB v:=rfl
@[simp] theorem A1Y(f:cp):BT fr (.func f)=some (.fn f [] []):=rfl
@[simp] theorem A6P(t:Tmp):rdC fr (.tmp t)=EX fr t:=rfl
@[simp] theorem A1Z(b:Bool):rdC fr (.const (.bool b))=some (true,.bool b):=rfl
@[simp] theorem APU(k:cr)(n:Int):CB (.int k n)=some (.int k n):=rfl
@[simp] theorem AKO(b:Bool):CB (.bool b)=some (.bool b):=rfl
@[simp] theorem APV:CB (.slice none 0 0)=some .nil:=rfl
@[simp] theorem AUL(d:Tmp)(c:Nat)(fr:Fr)(s:St)(v:V):DA (some d) ⟨c,fr,s⟩ (some v)=some ⟨c,(d,true,v)::fr,s⟩:=rfl
@[simp] theorem A6Q(c:Nat)(fr:Fr)(s:St)(v:V):DA none ⟨c,fr,s⟩ (some v)=some ⟨c,fr,s⟩:=rfl
@[simp] theorem AUM(d:Option Tmp):DA d st none=none:=rfl
@[simp] theorem A10(d:Option Tmp)(c:Prop)[Decidable c](x y:Option V):DA d st (if c then x else y)=if c then DA d st x else DA d st y:=by split<;>rfl
section
variable (d:Option Tmp)(c:Nat)
@[simp] theorem A11(x:cz):stepK P E d (.mv x) ⟨c,fr,s⟩=DA d ⟨c,fr,s⟩ (BT fr x):=rfl
def APW(P:cd)(op:BinOp)(T:cx):Option V->Option V->Option V
 |some a,some b=>FP P op T a b
 |_,_=>none
@[simp] theorem AUN(op:BinOp)(T:cx)(a b:V):APW P op T (some a) (some b)=FP P op T a b:=rfl
@[simp] theorem AUO(op:BinOp)(T:cx)(x y:cz):stepK P E d (.bin op T x y) ⟨c,fr,s⟩=DA d ⟨c,fr,s⟩ (APW P op T (BT fr x) (BT fr y)):=by show DA d _ (vQ P fr op T x y)=_;unfold vQ APW;cases BT fr x<;>cases BT fr y<;>rfl
def fa1(P:cd)(T:cx)(f:Nat):Option V->Option V
 |some p=>CV P T p f
 |none=>none
@[simp] theorem A12(T:cx)(f:Nat)(p:V):fa1 P T f (some p)=CV P T p f:=rfl
@[simp] theorem A13(T:cx)(x:cz)(f:Nat):stepK P E d (.fa T x f) ⟨c,fr,s⟩=DA d ⟨c,fr,s⟩ (fa1 P T f (BT fr x)):=by show DA d _ (xFA P fr T x f)=_;unfold xFA fa1;cases BT fr x<;>rfl
def wh1(P:cd)(T:cx):Option (List V)->Option V
 |some cs=>BI P T cs
 |none=>none
@[simp] theorem A14(T:cx)(cs:List V):wh1 P T (some cs)=BI P T cs:=rfl
def ld1(P:cd)(s:St)(T:cx):Option V->Option V
 |some p=>wh1 P T (BA s p)
 |none=>none
@[simp] theorem ADQ(T:cx)(p:V):ld1 P s T (some p)=wh1 P T (BA s p):=rfl
@[simp] theorem A15(T:cx)(x:cz):stepK P E d (.ld T x) ⟨c,fr,s⟩=DA d ⟨c,fr,s⟩ (ld1 P s T (BT fr x)):=by
 show DA d _ (NH P fr s T x)=_;unfold NH ld1;cases BT fr x with
 |none=>rfl
 |some p=>unfold wh1;cases BA s p<;>rfl
def pk3:Option V->Option (Bool×V)->Option (Bool×V)->Option V
 |some (.bool c),some (ca,.bool a),some (cb,.bool b)=>Bool.rec (Bool.rec none (some (.bool b)) cb) (Bool.rec none (some (.bool a)) ca) c
 |_,_,_=>none
@[simp] theorem A16(a cb b:Bool):pk3 (some (.bool true)) (some (true,.bool a)) (some (cb,.bool b))=some (.bool a):=rfl
@[simp] theorem AUP(ca a b:Bool):pk3 (some (.bool false)) (some (ca,.bool a)) (some (true,.bool b))=some (.bool b):=rfl
@[simp] theorem A17(c a b:Bool):pk3 (some (.bool c)) (some (true,.bool a)) (some (true,.bool b))=some (.bool (if c then a else b)):=by cases c<;>rfl
@[simp] theorem APX(x y z:cz):stepK P E d (.pick x y z) ⟨c,fr,s⟩=DA d ⟨c,fr,s⟩ (pk3 (BT fr x) (rdC fr y) (rdC fr z)):=rfl
def ba2:Option V->Nat->Option (List (Nat×V))->Option (List (Nat×V))
 |some v,i,some l=>some ((i,v)::l)
 |_,_,_=>none
@[simp] theorem A18(v:V)(i:Nat)(l:List (Nat×V)):ba2 (some v) i (some l)=some ((i,v)::l):=rfl
@[simp] theorem APY(r:cz->Option V):CX r []=some []:=rfl
@[simp] theorem AKP(r:cz->Option V)(i:Nat)(x:cz)(l:List (Nat×cz)):CX r ((i,x)::l)=ba2 (r x) i (CX r l):=by simp only[CX];unfold ba2;cases r x<;>cases CX r l<;>rfl
def bd1(P:cd)(T:cx):Option (List (Nat×V))->Option V
 |some l=>CI P T l
 |none=>none
@[simp] theorem A19(T:cx)(l:List (Nat×V)):bd1 P T (some l)=CI P T l:=rfl
@[simp] theorem AKQ(T:cx)(ps:List (Nat×cz)):stepK P E d (.build T ps) ⟨c,fr,s⟩=DA d ⟨c,fr,s⟩ (bd1 P T (CX (BT fr) ps)):=by show DA d _ (SV P fr T ps)=_;unfold SV bd1;cases CX (BT fr) ps<;>rfl
def bs1(P:cd)(T:cx)(n:Nat):Option (List (Nat×V))->Option V
 |some l=>BW P T n l
 |none=>none
@[simp] theorem A2A(T:cx)(n:Nat)(l:List (Nat×V)):bs1 P T n (some l)=BW P T n l:=rfl
@[simp] theorem AHZ(T:cx)(n:Nat)(ps:List (Nat×cz)):stepK P E d (.buildS T n ps) ⟨c,fr,s⟩=DA d ⟨c,fr,s⟩ (bs1 P T n (CX (BT fr) ps)):=by show DA d _ (OK P fr T n ps)=_;unfold OK bs1;cases CX (BT fr) ps<;>rfl
@[simp] theorem AUQ(op:Op):stepK P E d (.oth op) ⟨c,fr,s⟩=DA d ⟨c,fr,s⟩ (ID P (kU op) s (BT fr)):=rfl
def al1(d:Tmp)(c:Nat)(fr:Fr)(s:St):Option (List V)->Option XS
 |some cs=>some ⟨c+1,(d,true,.ptr s.up.length d c 0)::fr,s.put s.up.length d c (.box cs)⟩
 |none=>none
@[simp] theorem A2B(d:Tmp)(cs:List V):al1 d c fr s (some cs)=some ⟨c+1,(d,true,.ptr s.up.length d c 0)::fr,s.put s.up.length d c (.box cs)⟩:=rfl
@[simp] theorem AKR(d:Tmp)(T:cx):stepK P E (some d) (.alloc T) ⟨c,fr,s⟩=al1 d c fr s (BZ P T):=by show NM P (some d) T _=_;unfold NM al1;cases BZ P T<;>rfl
def bx1(d:Tmp)(c:Nat)(fr:Fr)(s:St):Option V->Option XS
 |some v=>Bool.rec none (some ⟨c+1,(d,true,.ptr s.up.length d c 0)::fr,s.put s.up.length d c (.box (A8 v))⟩) (A9 v)
 |none=>none
@[simp] theorem A6U(d:Tmp)(k:cr)(n:Int):bx1 d c fr s (some (.int k n))=some ⟨c+1,(d,true,.ptr s.up.length d c 0)::fr,s.put s.up.length d c (.box [.int k n])⟩:=rfl
@[simp] theorem A2C(d:Tmp)(b:Bool):bx1 d c fr s (some (.bool b))=some ⟨c+1,(d,true,.ptr s.up.length d c 0)::fr,s.put s.up.length d c (.box [.bool b])⟩:=rfl
@[simp] theorem A6V(d:Tmp)(cs:List V):bx1 d c fr s (some (.agg cs))=some ⟨c+1,(d,true,.ptr s.up.length d c 0)::fr,s.put s.up.length d c (.box cs)⟩:=rfl
@[simp] theorem A2D(d:Tmp)(b:Bool)(es:List (List V)):bx1 d c fr s (some (.list b es))=some ⟨c+1,(d,true,.ptr s.up.length d c 0)::fr,s.put s.up.length d c (.box [.list b es])⟩:=rfl
@[simp] theorem A6W(d:Tmp):bx1 d c fr s (some .nil)=some ⟨c+1,(d,true,.ptr s.up.length d c 0)::fr,s.put s.up.length d c (.box [.nil])⟩:=rfl
@[simp] theorem A6X(d:Tmp)(l k g n:Nat):bx1 d c fr s (some (.vec l k g n))=some ⟨c+1,(d,true,.ptr s.up.length d c 0)::fr,s.put s.up.length d c (.box [.vec l k g n])⟩:=rfl
@[simp] theorem BBM(d:Tmp)(l k g:Nat):bx1 d c fr s (some (.mp l k g))=some ⟨c+1,(d,true,.ptr s.up.length d c 0)::fr,s.put s.up.length d c (.box [.mp l k g])⟩:=rfl
@[simp] theorem AUR(d:Tmp)(x:cz):stepK P E (some d) (.box x) ⟨c,fr,s⟩=bx1 d c fr s (BT fr x):=by show jS (some d) x _=_;unfold jS bx1;cases BT fr x<;>rfl
def st3(γ:Nat)(P:cd)(T:cx)(c:Nat)(fr:Fr)(s:St)(l q off:Nat)(v:V):Option (Nat×AZ)->Option XS
 |some (γ',.box cs)=>if γ'=γ/\A9 v=true/\0<P.cellsOf T/\(A8 v).length=P.cellsOf T/\off+P.cellsOf T<=cs.length/\γ<c then some ⟨c,fr,s.put l q γ (.box (A6 cs off (A8 v)))⟩ else none
 |_=>none
def st4(γ:Nat)(P:cd)(T:cx)(c:Nat)(fr:Fr)(s:St)(l q i off:Nat)(v:V):Option (Nat×AZ)->Option XS
 |some (γ',.vec U es)=>if γ'=γ/\A9 v=true/\0<P.cellsOf T/\(A8 v).length=P.cellsOf T/\i<es.length/\off+P.cellsOf T<=(es.getD i []).length/\γ<c then some ⟨c,fr,s.put l q γ (.vec U (es.set i (A6 (es.getD i []) off (A8 v))))⟩ else none
 |_=>none
def GI(P:cd)(T:cx)(c:Nat)(fr:Fr)(s:St):Option V->Option V->Option XS
 |some (.ptr l q γ off),some v=>st3 γ P T c fr s l q off v (s.get l q)
 |some (.eptr l q γ i off),some v=>st4 γ P T c fr s l q i off v (s.get l q)
 |_,_=>none
@[simp] theorem AH0(T:cx)(l q γ off:Nat)(v:V):GI P T c fr s (some (.ptr l q γ off)) (some v)=st3 γ P T c fr s l q off v (s.get l q):=rfl
@[simp] theorem ADR(T:cx)(l q γ i off:Nat)(v:V):GI P T c fr s (some (.eptr l q γ i off)) (some v)=st4 γ P T c fr s l q i off v (s.get l q):=rfl
@[simp] theorem AH1(γ γ':Nat)(T:cx)(l q off:Nat)(v:V)(cs:List V):st3 γ P T c fr s l q off v (some (γ',.box cs))=if γ'=γ/\A9 v=true/\0<P.cellsOf T/\(A8 v).length=P.cellsOf T/\off+P.cellsOf T<=cs.length/\γ<c then some ⟨c,fr,s.put l q γ (.box (A6 cs off (A8 v)))⟩ else none:=rfl
@[simp] theorem AH2(γ γ':Nat)(T:cx)(l q i off:Nat)(v:V)(U:cx)(es:List (List V)):st4 γ P T c fr s l q i off v (some (γ',.vec U es))=if γ'=γ/\A9 v=true/\0<P.cellsOf T/\(A8 v).length=P.cellsOf T/\i<es.length/\off+P.cellsOf T<=(es.getD i []).length/\γ<c then some ⟨c,fr,s.put l q γ (.vec U (es.set i (A6 (es.getD i []) off (A8 v))))⟩ else none:=rfl
theorem AH3(T:cx)(x y:cz):IJ P none T x y ⟨c,fr,s⟩=GI P T c fr s (BT fr x) (BT fr y):=by
 unfold IJ;simp only;cases BT fr x with
 |none=>rfl
 |some p=>
  cases BT fr y with
  |none=>cases p<;>rfl
  |some v=>
   cases p with
   |ptr l q γ off=>
    simp only[AH0]
    cases s.get l q with
    |none=>rfl
    |some z=>
     obtain⟨γ',r⟩:=z
     cases r with
     |box cs=>
      simp only[AH1,bj,bc,Nat.ble_eq,cj,and_assoc]
     |_=>rfl
   |eptr l q γ i off=>
    simp only[ADR]
    cases s.get l q with
    |none=>rfl
    |some z=>
     obtain⟨γ',r⟩:=z
     cases r with
     |vec U es=>
      simp only[AH2,bj,bc,Nat.ble_eq,cj,and_assoc]
     |_=>rfl
   |_=>rfl
@[simp] theorem AUS(T:cx)(x y:cz):stepK P E none (.sto T x y) ⟨c,fr,s⟩=GI P T c fr s (BT fr x) (BT fr y):=AH3 c T x y
def apW(P:cd)(e:cx)(d c:Nat)(fr:Fr)(s:St)(l q γ n:Nat)(ys:List (List V)):Option (Nat×AZ)->Option XS
 |some (γ',.vec W es)=>if γ'=γ/\W=e/\n=es.length/\es.all (fun y=>y.length==P.cellsOf e)=true/\CH P e es.length ys=true then
   some ⟨c+1,(d,true,.vec l q c (es.length+ys.length))::fr,s.put l q c (.vec e (es++ys))⟩ else none
 |_=>none
@[simp] theorem KV(e:cx)(d:Nat)(l q γ γ' n:Nat)(ys es:List (List V))(W:cx):apW P e d c fr s l q γ n ys (some (γ',.vec W es))=if γ'=γ/\W=e/\n=es.length/\es.all (fun y=>y.length==P.cellsOf e)=true/\CH P e es.length ys=true then
   some ⟨c+1,(d,true,.vec l q c (es.length+ys.length))::fr,s.put l q c (.vec e (es++ys))⟩ else none:=rfl
def mM(P:cd)(e:cx)(d c:Nat)(fr:Fr)(s:St)(xv:V)(ys:List (List V)):Option XS:=match IE xv ys with
 |some es=>if es.all (fun y=>y.length==P.cellsOf e)=true/\CH P e es.length ys=true then some ⟨c+1,(d,true,.vec s.up.length d c (es.length+ys.length))::fr,s.put s.up.length d c (.vec e (es++ys))⟩ else none
 |none=>match xv with
  |.vec l q γ n=>apW P e d c fr s l q γ n ys (PY n ys (s.get l q))
  |_=>none
@[simp] theorem RY(n γ:Nat)(ys es:List (List V))(U:cx):PY n ys (some (γ,.vec U es))=some (γ,.vec U (dI n ys es)):=rfl
@[simp] theorem AUT(n:Nat)(ys:List (List V)):PY n ys none=none:=rfl
attribute [simp] KJ
@[simp] theorem A6Y(e:cx)(d:Nat)(ys:List (List V)):mM P e d c fr s .nil ys=if CH P e 0 ys=true then some ⟨c+1,(d,true,.vec s.up.length d c ys.length)::fr,s.put s.up.length d c (.vec e ys)⟩ else none:=by simp[mM,IE]
@[simp] theorem A6Z(e:cx)(d:Nat)(ys:List (List V)):mM P e d c fr s (.list true []) ys=if CH P e 0 ys=true then some ⟨c+1,(d,true,.vec s.up.length d c ys.length)::fr,s.put s.up.length d c (.vec e ys)⟩ else none:=by simp[mM,IE]
@[simp] theorem ADS(e:cx)(d:Nat)(z y:List V)(es ys:List (List V)):mM P e d c fr s (.list true (z::es)) (y::ys)=if (z::es).all (fun y=>y.length==P.cellsOf e)=true/\CH P e (z::es).length (y::ys)=true then
   some ⟨c+1,(d,true,.vec s.up.length d c ((z::es).length+(y::ys).length))::fr,s.put s.up.length d c (.vec e ((z::es)++(y::ys)))⟩ else none:=rfl
@[simp] theorem eZ(e:cx)(d:Nat)(l q γ n:Nat)(ys:List (List V)):mM P e d c fr s (.vec l q γ n) ys=apW P e d c fr s l q γ n ys (PY n ys (s.get l q)):=by simp[mM,IE]
def ap3(P:cd)(d c:Nat)(fr:Fr)(s:St):Option (Option Nat×cx)->Option V->Option V->Option XS
 |some (none,e),some xv,some yv=>ap4 e xv (elemsOf s yv)
 |_,_,_=>none
where ap4 (e:cx) (xv:V):Option (List (List V))->Option XS
 |some ys=>mM P e d c fr s xv ys
 |none=>none
@[simp] theorem ADT(d:Nat)(e:cx)(xv yv:V):ap3 P d c fr s (some (none,e)) (some xv) (some yv)=ap3.ap4 P d c fr s e xv (elemsOf s yv):=rfl
@[simp] theorem ADU(d:Nat)(e:cx)(xv:V)(ys:List (List V)):ap3.ap4 P d c fr s e xv (some ys)=mM P e d c fr s xv ys:=rfl
@[simp] theorem AH4(b:Bool)(es:List (List V)):elemsOf s (.list b es)=some es:=rfl
@[simp] theorem AKS:elemsOf s .nil=some []:=rfl
theorem ifB{α:Type}{b:Bool}{x y:α}:(Bool.rec y x b:α)=if b=true then x else y:=by cases b<;>rfl
theorem xB{k:Nat}{e:cx}(d:Nat)(x y:Option V):ap3 P d c fr s (some (some k,e)) x y=none:=by cases x<;>cases y<;>rfl
@[simp] theorem AUU(d:Tmp)(x y:cz)(T:cx):stepK P E (some d) (.app [x,y] [T,T]) ⟨c,fr,s⟩=ap3 P d c fr s (BJ P T) (BT fr x) (BT fr y):=by
 show xAppend P (some d) [x,y] [T,T] _=_;unfold xAppend xAppG;simp only[bt];cases hT:BJ P T with
 |none=>cases BT fr x<;>cases BT fr y<;>rfl
 |some p=>
  obtain⟨k,e⟩:=p
  cases k with
  |some k=>rw[xB]
  |none=>
   cases BT fr x with
   |none=>rfl
   |some xv=>
    cases BT fr y with
    |none=>rfl
    |some yv=>
     simp only[ADT]
     cases elemsOf s yv with
     |none=>rfl
     |some ys=>
      simp only[ADU,mM]
      cases IE xv ys with
      |some es=>
       simp only[ifB,bj,bw]
       by_cases hC:es.all (fun y=>y.length==P.cellsOf e)=true/\CH P e es.length ys=true
       ·rw[if_pos hC,if_pos hC]
       ·rw[if_neg hC,if_neg hC]
      |none=>
       simp only
       unfold jF
       cases xv with
       |vec l q γ n=>
        simp only
        cases PY n ys (s.get l q)with
        |none=>rfl
        |some z=>
         obtain⟨γ',r⟩:=z
         cases r with
         |vec W es=>
          simp only[ifB,bj,bw,KV,cj,and_assoc]
          by_cases hC:γ'=γ/\W=e/\n=es.length/\es.all (fun y=>y.length==P.cellsOf e)=true/\CH P e es.length ys=true
          ·rw[if_pos hC,if_pos hC]
          ·rw[if_neg hC,if_neg hC]
         |_=>rfl
       |_=>rfl
def mc2:Option V->Option (List V)->Option (List V)
 |some v,some l=>some (v::l)
 |_,_=>none
@[simp] theorem A2H(v:V)(l:List V):mc2 (some v) (some l)=some (v::l):=rfl
@[simp] theorem A2I(f:cz->Option V):D6 f []=some []:=rfl
@[simp] theorem AUV(f:cz->Option V)(x:cz)(l:List cz):D6 f (x::l)=mc2 (f x) (D6 f l):=by
 simp only[D6];cases f x with
 |none=>rfl
 |some v=>cases D6 f l<;>rfl
def ME(E:XE)(d:Option Tmp)(st:XS)(f:cp)(args:List V):Option XS:=match E.cf f args st with
 |some (r,st')=>some ⟨st'.c,putD st'.fr d true r,st'.s⟩
 |none=>none
def ca1(E:XE)(d:Option Tmp)(st:XS):Option V->Option (List V)->Option XS
 |some (.fn f first cap),some vs=>ME E d st f ((first++vs++cap).map weakV)
 |some (.yld l q γ),some vs=>ca3 (E.cy l q γ vs st)
 |_,_=>none
where ca3:Option (V×XS)->Option XS
 |some (r,st')=>some ⟨st'.c,putD st'.fr d true r,st'.s⟩
 |none=>none
@[simp] theorem AP0(st:XS)(f:cp)(first cap vs:List V):ca1 E d st (some (.fn f first cap)) (some vs)=ME E d st f ((first++vs++cap).map weakV):=rfl
@[simp] theorem AH5(st:XS)(l q γ:Nat)(vs:List V):ca1 E d st (some (.yld l q γ)) (some vs)=ca1.ca3 d (E.cy l q γ vs st):=rfl
@[simp] theorem A2J(d:Tmp)(r:V):ca1.ca3 (some d) (some (r,⟨c,fr,s⟩))=some ⟨c,(d,true,r)::fr,s⟩:=rfl
theorem lE(st:XS)(f:cz)(args:List cz):RI E.cf E.cy d f args st=ca1 E d st (BT st.fr f) (D6 (BT st.fr) args):=by
 unfold RI;cases BT st.fr f with
 |none=>rfl
 |some v=>
  cases v with
  |fn f first cap=>
   simp only
   cases D6 (BT st.fr) args with
   |none=>rfl
   |some vs=>simp only[AP0,ME];cases E.cf f ((first++vs++cap).map weakV) st<;>rfl
  |yld l q γ=>
   simp only[nZ]
   cases D6 (BT st.fr) args with
   |none=>rfl
   |some vs=>simp only[AH5];cases E.cy l q γ vs st<;>rfl
  |_=>rfl
@[simp] theorem AP1(args:List cz)(Ts:List cx):stepK P E d (.appS args Ts) st=DA d st (YD P args Ts st.fr):=rfl
@[simp] theorem AP2(f:cz)(args:List cz):stepK P E d (.call false none f args) ⟨c,fr,s⟩=ca1 E d ⟨c,fr,s⟩ (BT fr f) (D6 (BT fr) args):=lE d ⟨c,fr,s⟩ f args
@[simp] theorem AKU(t:Tmp)(f:cz)(args:List cz):stepK P E d (.callM false t f args) ⟨c,fr,s⟩=ca1 E d (KS t ⟨c,fr,s⟩) (BT (KS t ⟨c,fr,s⟩).fr f) (D6 (BT (KS t ⟨c,fr,s⟩).fr) args):=lE d _ f args
def orK:Bool->Option V->Option V->Option V
 |true,some r,_=>some r
 |_,_,z=>z
@[simp] theorem A2K(r:V)(z:Option V):orK true (some r) z=some r:=rfl
@[simp] theorem A2L(b:Bool)(z:Option V):orK b z z=z:=by cases b<;>cases z<;>rfl
theorem lF{P:cd}{kn:CF0}{rec:FK}{f:cp}{args:List V}:EQ P kn rec f args=orK (args.all (AK 9)) (A5 P kn rec f (args.map weakN)) (A5 P kn rec f args):=by unfold EQ orK;cases A5 P kn rec f (args.map weakN)<;>cases args.all (AK 9)<;>rfl
attribute [simp] lF
@[simp] theorem AUX(k:cr)(n:Int):weakN (.int k n)=.int k n:=rfl
@[simp] theorem AP3(b:Bool):weakN (.bool b)=.bool b:=rfl
@[simp] theorem AUY(v:Value):weakN (.raw v)=.raw v:=rfl
@[simp] theorem AP4(b:Bool)(es:List (List V)):weakN (.list b es)=.list b es:=rfl
@[simp] theorem AUZ(cs:List V):weakN (.agg cs)=.agg (cs.map weakM):=rfl
@[simp] theorem AU0:weakN .nil=.list false []:=rfl
@[simp] theorem A2M(f:cp)(x y:List V):weakN (.fn f x y)=.fn f x y:=rfl
@[simp] theorem AU1(cs:List V):weakN (.ref cs)=.ref cs:=rfl
@[simp] theorem AU2(k:cr)(n:Int):weakM (.int k n)=.int k n:=rfl
@[simp] theorem AP5(b:Bool):weakM (.bool b)=.bool b:=rfl
@[simp] theorem AP6(b:Bool)(es:List (List V)):weakM (.list b es)=.list b es:=rfl
@[simp] theorem AU3:weakM .nil=.list false []:=rfl
@[simp] theorem A2N(f:cp)(x y:List V):weakM (.fn f x y)=.fn f x y:=rfl
@[simp] theorem AU4(cs:List V):weakM (.ref cs)=.ref cs:=rfl
theorem YH{A:Ann}{kn:CF0}{n:Nat}{f:cp}{args:List V}(h:args.all (AK 9)=true)(hh:BF P f=false)(st:XS):ME (BR P A kn n) d st f args=DA d st (orK true (A5 P kn (AG P A kn n) f (args.map weakN)) (A5 P kn (AG P A kn n) f args)):=by
 have e:orK true (A5 P kn (AG P A kn n) f (args.map weakN)) (A5 P kn (AG P A kn n) f args)=EQ P kn (AG P A kn n) f args:=by rw[lF,h]
 rw[e];show(match T7 P kn (AG P A kn n) f args st with
  |some (r,st')=>some (⟨st'.c,putD st'.fr d true r,st'.s⟩:XS)
  | none=>none)=_
 unfold T7;rw[h,hh];cases EQ P kn (AG P A kn n) f args<;>rfl
end
@[simp] theorem A2O(k:cr)(n:Int):weakV (.int k n)=.int k n:=rfl
@[simp] theorem AU5(b:Bool):weakV (.bool b)=.bool b:=rfl
@[simp] theorem AU6(b:Bool)(es:List (List V)):weakV (.list b es)=.list false es:=rfl
@[simp] theorem A2P(cs:List V):weakV (.agg cs)=.agg (cs.map weakC):=rfl
@[simp] theorem AU7(k:cr)(n:Int):weakC (.int k n)=.int k n:=rfl
@[simp] theorem AP7(b:Bool):weakC (.bool b)=.bool b:=rfl
@[simp] theorem AP8(b:Bool)(es:List (List V)):weakC (.list b es)=.list false es:=rfl
@[simp] theorem AU8:weakC .nil=.nil:=rfl
@[simp] theorem A2Q:weakV .nil=.nil:=rfl
@[simp] theorem A60(f:cp)(x y:List V):weakV (.fn f x y)=.fn f x y:=rfl
@[simp] theorem AP9(f:Nat)(k:cr)(n:Int):AK (f+1) (.int k n)=true:=rfl
@[simp] theorem AKV(f:Nat)(b:Bool):AK (f+1) (.bool b)=true:=rfl
@[simp] theorem AQA(f:Nat):AK (f+1) .nil=true:=rfl
@[simp] theorem AQB(f:Nat)(cs:List V):AK (f+1) (.agg cs)=cs.all (AK f):=rfl
@[simp] theorem AQC(f:Nat)(cs:List V):AK (f+1) (.tup cs)=cs.all (AK f):=rfl
@[simp] theorem AQD(f:Nat)(cs:List V):AK (f+1) (.ref cs)=cs.all (AK f):=rfl
@[simp] theorem AKW(f:Nat)(b:Bool)(es:List (List V)):AK (f+1) (.list b es)=es.all fun e=>e.all (AK f):=rfl
@[simp] theorem AU9(f:Nat)(g:cp)(x y:List V):AK (f+1) (.fn g x y)=(x.all (AK f)&&y.all (AK f)):=rfl
section
variable (r:cz->Option V)
def o1(f:V->Option V):Option V->Option V
 |some v=>f v
 |none=>none
@[simp] theorem A61(f:V->Option V)(v:V):o1 f (some v)=f v:=rfl
def o2(f:V->V->Option V):Option V->Option V->Option V
 |some a,some b=>f a b
 |_,_=>none
@[simp] theorem A62(f:V->V->Option V)(a b:V):o2 f (some a) (some b)=f a b:=rfl
theorem VS(f:V->Option V)(x:Option V):x.bind f=o1 f x:=by cases x<;>rfl
theorem VT(f:V->V->Option V)(x y:Option V):(x.bind fun a=>y.bind fun b=>f a b)=o2 f x y:=by cases x<;>cases y<;>rfl
@[simp] theorem BBP(op:UnOp)(T:cx)(x:cz):ID P (kU (.unOp op T x)) s r=o1 (ZF op) (r x):=VS _ _
@[simp] theorem A2R(T U:cx)(x:cz):ID P (kU (.convert T U x)) s r=o1 (LC P T U) (r x):=VS _ _
@[simp] theorem A2S(T:cx)(x i:cz):ID P (kU (.indexAddr T x i)) s r=o2 (BK P s T) (r x) (r i):=VT _ _ _
@[simp] theorem A63(T:cx)(x i:cz):ID P (kU (.index T x i)) s r=o2 (FZ P T) (r x) (r i):=VT _ _ _
@[simp] theorem A64(x:cz)(i:Nat):ID P (kU (.extract x i)) s r=o1 (fun a=>FB a i) (r x):=VS _ _
@[simp] theorem A65(x:cz)(T:cx):ID P (kU (.call ⟨.builtin .len,#[x],#[T]⟩)) s r=o1 (F8 P T) (r x):=VS _ _
end
@[simp] theorem A2T(b:Bool):ZF .not (.bool b)=some (.bool !b):=rfl
@[simp] theorem A2U(k:cr)(n:Int):ZF .neg (.int k n)=some (.int k (k.wrap (0-n))):=rfl
@[simp] theorem AEP(vs:List V)(i:Nat):FB (.tup vs) i=vs[i]?:=rfl
@[simp] theorem BBQ(up:List AA)(loc:AA)(l k g:Nat)(r:AZ):St.put ⟨up,loc⟩ l k g r=if l=up.length then⟨up,(k,g,r)::loc⟩ else⟨up.modify l fun L=>L.put k g r,loc⟩:=rfl
def upG(k:Nat):Option AA->Option (Nat×AZ)
 |some L=>L.get k
 |none=>none
@[simp] theorem A2V(k:Nat)(L:AA):upG k (some L)=L.get k:=rfl
@[simp] theorem fA(up:List AA)(loc:AA)(l k:Nat):St.get ⟨up,loc⟩ l k=if l=up.length then loc.get k else upG k up[l]?:=rfl
def kx(k:Nat)(r:Fr):Option (Bool×V)->Fr
 |some (c,v)=>(k,c,v)::r
 |none=>r
@[simp] theorem A66(k:Nat)(r:Fr)(c:Bool)(v:V):kx k r (some (c,v))=(k,c,v)::r:=rfl
@[simp] theorem A67(k:Nat)(r:Fr):kx k r none=r:=rfl
@[simp] theorem AVA:PK [] fr=[]:=rfl
@[simp] theorem AQE(k:Nat)(ks:List Nat):PK (k::ks) fr=kx k (PK ks fr) (EX fr k):=by show(match EX fr k with|some (c,v)=>(k,c,v)::PK ks fr|none=>PK ks fr)=_;cases EX fr k<;>rfl
def kl(k:Nat)(r:AA):Option (Nat×AZ)->AA
 |some (g,x)=>(k,g,x)::r
 |none=>r
@[simp] theorem A68(k:Nat)(r:AA)(g:Nat)(x:AZ):kl k r (some (g,x))=(k,g,x)::r:=rfl
@[simp] theorem A69(k:Nat)(r:AA):kl k r none=r:=rfl
@[simp] theorem AVB(L:AA):H6 [] L=[]:=rfl
@[simp] theorem AQF(k:Nat)(ks:List Nat)(L:AA):H6 (k::ks) L=kl k (H6 ks L) (L.get k):=by unfold kl;simp only[H6];cases L.get k<;>rfl
@[simp] theorem A2W(ks ls:List Nat)(c:Nat)(fr:Fr)(up:List AA)(loc:AA):CN (some (ks,ls)) ⟨c,fr,⟨up,loc⟩⟩=⟨c,PK ks fr,⟨up,H6 ls loc⟩⟩:=rfl
@[simp] theorem AQG:CN none st=st:=rfl
@[simp] theorem BBR:S2 (some st)=some (.normal,st):=rfl
@[simp] theorem A2X:S2 none=none:=rfl
@[simp] theorem A7A(c:Prop)[Decidable c](x y:Option XS):S2 (if c then x else y)=if c then S2 x else S2 y:=by split<;>rfl
@[simp] theorem A2Y(l:List IC):O8 P E (.str l) st=NU P E l (some st):=rfl
@[simp] theorem A2Z(S:List kX):O8 P E (.drw S) st=TE P E S (some st):=rfl
@[simp] theorem A20(ks:List (Nat×Nat×Nat)):O8 P E (.cls ks) st=O7 P ks (some st):=rfl
@[simp] theorem A21(o:Option XS):O7 P [] o=o:=rfl
@[simp] theorem AVC(T a d:Nat)(r:List (Nat×Nat×Nat))(st:XS):O7 P ((T,a,d)::r) (some st)=O7 P r (if pC (BT st.fr (.tmp a))=true then DA (some d) st (NH P st.fr st.s T (.tmp a)) else none):=by
 show O7 P r (Bool.rec _ _ (pC (BT st.fr (.tmp a))))=_;cases pC (BT st.fr (.tmp a))with
 |false=>rfl
 |true=>
  simp only[if_true]
  congr 1
@[simp] theorem A22(l k g o:Nat):pC (some (.ptr l k g o))=true:=rfl
@[simp] theorem A23(rs:List ResultVar):UR P rs (some (.ret,st))=UR.finV st.s (FJ P rs st.fr st.s):=rfl
@[simp] theorem AKX(rs:List ResultVar):UR P rs (some (.normal,st))=UR.finV st.s (FJ P rs st.fr st.s):=rfl
def AQH:Option V->Option V
 |some r=>if AK 9 r=true then some r else none
 |none=>none
@[simp] theorem AVD(r:V):AQH (some r)=if AK 9 r=true then some r else none:=rfl
@[simp] theorem AVE(v:V):UR.finV s (some v)=AQH (AX s 4 v):=by
 unfold UR.finV AQH;simp only;cases AX s 4 v with
 |none=>rfl
 |some r=>simp only[ifB]
@[simp] theorem AQI(t:Tmp):DE P fr s (.tmp t)=rdT (EX fr t):=by
 rw[F0];show(match fr.get t with
  |some (true,v)=>some v
  | _=>none)=_
 cases fr.get t with
 |none=>rfl
 |some p=>obtain⟨c,v⟩:=p;cases c<;>rfl
@[simp] theorem A24(x:ResultVar):FJ P [x] fr s=DE P fr s x:=by unfold FJ;simp only[bf,ck];cases DE P fr s x<;>rfl
def re2:Option V->Option V->Option V
 |some a,some b=>some (.tup [a,b])
 |_,_=>none
@[simp] theorem A25(a b:V):re2 (some a) (some b)=some (.tup [a,b]):=rfl
@[simp] theorem A26(x y:ResultVar):FJ P [x,y] fr s=re2 (DE P fr s x) (DE P fr s y):=by unfold FJ;simp only[bf,ck];cases DE P fr s x<;>cases DE P fr s y<;>rfl
def re3:Option V->Option V->Option V->Option V
 |some a,some b,some c=>some (.tup [a,b,c])
 |_,_,_=>none
@[simp] theorem A27(a b c:V):re3 (some a) (some b) (some c)=some (.tup [a,b,c]):=rfl
@[simp] theorem AQJ(x y z:ResultVar):FJ P [x,y,z] fr s=re3 (DE P fr s x) (DE P fr s y) (DE P fr s z):=by unfold FJ;simp only[bf,ck];cases DE P fr s x<;>cases DE P fr s y<;>cases DE P fr s z<;>rfl
@[simp] theorem AQK(f:Nat)(k:cr)(n:Int):AX s (f+1) (.int k n)=some (.int k n):=rfl
@[simp] theorem AKY(f:Nat)(b:Bool):AX s (f+1) (.bool b)=some (.bool b):=rfl
@[simp] theorem AQL(f:Nat):AX s (f+1) .nil=some .nil:=rfl
@[simp] theorem AKZ(f:Nat)(b:Bool)(es:List (List V)):AX s (f+1) (.list b es)=some (.list false es):=rfl
def fU(mk:List V->V):Option (List V)->Option V
 |some l=>some (mk l)
 |none=>none
@[simp] theorem A28(mk:List V->V)(l:List V):fU mk (some l)=some (mk l):=rfl
def O9(f:V->Option V):List V->Option (List V)
 |[]=>some []
 |v::l=>mc2 (f v) (O9 f l)
theorem RZ(f:V->Option V):∀(l:List V),l.mapM f=O9 f l
 |[]=>rfl
 |v::l=>by simp only[bf,O9,RZ f l];cases f v<;>cases O9 f l<;>rfl
@[simp] theorem A29(f:V->Option V):O9 f []=some []:=rfl
@[simp] theorem AVF(f:V->Option V)(v:V)(l:List V):O9 f (v::l)=mc2 (f v) (O9 f l):=rfl
@[simp] theorem AQM(f:Nat)(cs:List V):AX s (f+1) (.agg cs)=fU .agg (O9 (AX s f) cs):=by simp only[AX,RZ];cases O9 (AX s f) cs<;>rfl
@[simp] theorem AQN(f:Nat)(cs:List V):AX s (f+1) (.tup cs)=fU .tup (O9 (AX s f) cs):=by simp only[AX,RZ];cases O9 (AX s f) cs<;>rfl
def cv1(g m:Nat):Option (Nat×AZ)->Option V
 |some (g',.vec _ es)=>if g'=g/\m<=es.length then some (.list false (es.take m)) else none
 |_=>none
@[simp] theorem ADV(g m g':Nat)(T:cx)(es:List (List V)):cv1 g m (some (g',.vec T es))=if g'=g/\m<=es.length then some (.list false (es.take m)) else none:=rfl
@[simp] theorem pP(f:Nat)(up:List AA)(loc:AA)(l k g m:Nat):AX ⟨up,loc⟩ (f+1) (.vec l k g m)=if l=up.length then cv1 g m (loc.get k) else some (.vec l k g m):=by
 simp only[AX];split
 ·cases loc.get k with
  |none=>rfl
  |some z=>obtain⟨g',r⟩:=z;cases r<;>rfl
 ·rfl
@[simp] theorem AK0(t:Nat)(T:cx):DE P fr s (.cell t T)=ld1 P s T (rdT (EX fr t)):=by
 rw[F0];show(match fr.get t with
  |some (true,p)=>(BA s p).bind (BI P T)
  | _=>none)=_
 cases fr.get t with
 |none=>rfl
 |some p=>
  obtain⟨c,v⟩:=p
  cases c with
  |false=>rfl
  |true=>
   simp only[ADP,ADQ]
   cases BA s v<;>rfl
section
variable (d:Option Tmp)(c:Nat)
@[simp] theorem A3A(r:Option XS):TE P E [] r=r:=rfl
@[simp] theorem AVG(p:kX)(S:List kX)(r:Option XS):TE P E (p::S) r=TE P E S (NU P E p.sq (YG (TD P E p.ph (ADD p.new r)))):=rfl
@[simp] theorem A3B(r:Option (XS×AJ×AJ)):TD P E [] r=r:=rfl
@[simp] theorem AVH(i:IC)(l:List IC)(r:Option (XS×AJ×AJ)):TD P E (i::l) r=TD P E l (kV P E i r):=rfl
@[simp] theorem A7B(new:List Tmp)(up:List AA)(loc:AA):ADD new (some ⟨c,fr,⟨up,loc⟩⟩)=if (new.all fun d=>(loc.get d).isNone)=true then some (⟨c,fr,⟨up,loc⟩⟩,[],[]) else none:=by show(Bool.rec none _ _:Option _)=_;rw[ifB];rfl
@[simp] theorem AVI(rd wr:AJ):YG (some (st,rd,wr))=if (wr.all fun p=>!(rd.contains p))=true then some st else none:=by show(Bool.rec none _ _:Option _)=_;rw[ifB]
@[simp] theorem AVJ:YG none=none:=rfl
@[simp] theorem A3C(c:Prop)[Decidable c](x y:Option (XS×AJ×AJ)):YG (if c then x else y)=if c then YG x else YG y:=by split<;>rfl
@[simp] theorem AVK(i:IC):kV P E i none=none:=rfl
@[simp] theorem A3D(i:IC)(c:Prop)[Decidable c](x y:Option (XS×AJ×AJ)):kV P E i (if c then x else y)=if c then kV P E i x else kV P E i y:=by split<;>rfl
@[simp] theorem A3E(l:List IC)(c:Prop)[Decidable c](x y:Option (XS×AJ×AJ)):TD P E l (if c then x else y)=if c then TD P E l x else TD P E l y:=by split<;>rfl
@[simp] theorem A3F(l:List kX)(c:Prop)[Decidable c](x y:Option XS):TE P E l (if c then x else y)=if c then TE P E l x else TE P E l y:=by split<;>rfl
def ph3(rds rd wr:AJ):Option (XS×AJ)->Option (XS×AJ×AJ)
 |some (st,w)=>some (st,rds++rd,w++wr)
 |none=>none
@[simp] theorem A3G(rds rd wr w:AJ):ph3 rds rd wr (some (st,w))=some (st,rds++rd,w++wr):=rfl
@[simp] theorem A3H(rds rd wr:AJ):ph3 rds rd wr none=none:=rfl
@[simp] theorem A7C(rds rd wr:AJ)(c:Prop)[Decidable c](x y:Option (XS×AJ)):ph3 rds rd wr (if c then x else y)=if c then ph3 rds rd wr x else ph3 rds rd wr y:=by split<;>rfl
@[simp] theorem AVM(i:IC)(rd wr:AJ):kV P E i (some (st,rd,wr))=ph3 (FV P i.k (BT st.fr)) rd wr (TC P E i st):=by show(match TC P E i st with|some (st',w)=>some (st',FV P i.k (BT st.fr)++rd,w++wr)|none=>none)=_;cases TC P E i st<;>rfl
@[simp] theorem AVN(k:IK):TC P E ⟨none,d,k⟩ st=CL P E d k st:=rfl
def gI0(P:cd)(E:XE)(d:Option Tmp)(k:IK)(st:XS)(w:Bool)(r:Option (Bool×V)):Option (XS×AJ):=match r with
 |some (c,.bool b)=>if (c&&(b==w))=true then CL P E d k st else if YF k=true then none else some (HG d st,[])
 |_=>none
@[simp] theorem AQO(t:Tmp)(w:Bool)(k:IK):TC P E ⟨some (t,w),d,k⟩ st=gI0 P E d k st w (EX st.fr t):=by
 show(match(match EX st.fr t with | some (c,.bool b)=>some (c&&(b == w)) | _=>none:Option Bool)with
  |some true=>CL P E d k st
  |some false=>Bool.rec (some (HG d st,[])) none (YF k)
  | none=>none)=_
 unfold gI0;cases EX st.fr t with
 |none=>rfl
 |some p=>
  obtain⟨c,v⟩:=p
  cases v with
  |bool b=>cases h:(c&&(b==w))<;>simp[h,ifB]
  |_=>rfl
@[simp] theorem A3I(k:IK)(w c b:Bool):gI0 P E d k st w (some (c,.bool b))=if (c&&(b==w))=true then CL P E d k st else if YF k=true then none else some (HG d st,[]):=rfl
@[simp] theorem BBT(T:cx)(x:cz)(f:cz->Option V):FV P (.ld T x) f=EY (bx (P.cellsOf T) 1) (f x):=rfl
@[simp] theorem AQP(x y:cz)(f:cz->Option V):HS f [x,y]=D7 (f y):=rfl
@[simp] theorem AH6(b:Bool)(es:List (List V)):D7 (some (.list b es))=[]:=rfl
@[simp] theorem AK1:D7 (some .nil)=[]:=rfl
@[simp] theorem AK2(l k γ n:Nat):D7 (some (.vec l k γ n))=[(l,k)]:=rfl
@[simp] theorem BBU(x:cz)(f:cz->Option V):FV P (.mv x) f=[]:=rfl
@[simp] theorem A7D(op:BinOp)(T:cx)(x y:cz)(f:cz->Option V):FV P (.bin op T x y) f=[]:=rfl
@[simp] theorem BBV(T:cx)(x:cz)(i:Nat)(f:cz->Option V):FV P (.fa T x i) f=[]:=rfl
@[simp] theorem A3J(x y z:cz)(f:cz->Option V):FV P (.pick x y z) f=[]:=rfl
@[simp] theorem AVO(T:cx)(ps:List (Nat×cz))(f:cz->Option V):FV P (.build T ps) f=[]:=rfl
@[simp] theorem A3K(x y:cz)(Ts:List cx)(f:cz->Option V):FV P (.appS [x,y] Ts) f=D7 (f y):=rfl
@[simp] theorem AQQ(T:cx)(n:Nat)(ps:List (Nat×cz))(f:cz->Option V):FV P (.buildS T n ps) f=[]:=rfl
@[simp] theorem AVP(T:cx)(f:cz->Option V):FV P (.alloc T) f=[]:=rfl
@[simp] theorem A7E(x:cz)(f:cz->Option V):FV P (.box x) f=[]:=rfl
@[simp] theorem A7F(T:cx)(x y:cz)(f:cz->Option V):FV P (.sto T x y) f=[]:=rfl
@[simp] theorem A7G(x:List cz)(y:List cx)(f:cz->Option V):FV P (.app x y) f=HS f x:=rfl
@[simp] theorem A3L(t:Tmp):FL (.tmp t)=false:=rfl
@[simp] theorem AVQ(f:cp):FL (.func f)=AB2.contains f:=rfl
@[simp] theorem AVR(b:Bool)(t:Tmp)(g:cz)(x:List cz)(f:cz->Option V)(h:FL g=false):FV P (.callM b t g x) f=[]:=by show cond (FL g) _ _=_;rw[h];rfl
@[simp] theorem A3M(b:Bool)(t:Option Tmp)(g:cz)(x:List cz)(f:cz->Option V)(h:FL g=false):FV P (.call b t g x) f=[]:=by show cond (FL g) _ _=_;rw[h];rfl
theorem bY(b:Bool)(t:Option Tmp)(g x:cz)(f:cz->Option V)(h:FL g=true):FV P (.call b t g [x]) f=D7 (f x):=by show cond (FL g) _ _=_;rw[h];rfl
@[simp] theorem A3N(T:cx)(x i:cz)(f:cz->Option V):FV P (.oth (.indexAddr T x i)) f=JD (f x):=rfl
@[simp] theorem BBW(op:UnOp)(T:cx)(x:cz)(f:cz->Option V):FV P (.oth (.unOp op T x)) f=[]:=rfl
@[simp] theorem A7H(x:cz)(i:Nat)(f:cz->Option V):FV P (.oth (.extract x i)) f=[]:=rfl
@[simp] theorem A7I(x:cz)(T:cx)(b:Builtin)(f:cz->Option V):FV P (.oth (.call ⟨.builtin b,#[x],#[T]⟩)) f=[]:=by cases b<;>rfl
@[simp] theorem BBX(g:Fn)(x y:Array cz)(f:cz->Option V):FV P (.oth (.makeFunc g x y)) f=[]:=rfl
def nw:Option XS->Option (XS×AJ)
 |some st=>some (st,[])
 |none=>none
@[simp] theorem A7J:nw (some st)=some (st,[]):=rfl
@[simp] theorem A7K:nw none=none:=rfl
@[simp] theorem BBY(c:Prop)[Decidable c](x y:Option XS):nw (if c then x else y)=if c then nw x else nw y:=by split<;>rfl
theorem EZ(r:Option XS):noW r=nw r:=by cases r<;>rfl
@[simp] theorem A3O(x:cz):CL P E d (.mv x) st=nw (stepK P E d (.mv x) st):=EZ _
@[simp] theorem AVS(op:BinOp)(T:cx)(x y:cz):CL P E d (.bin op T x y) st=nw (stepK P E d (.bin op T x y) st):=EZ _
@[simp] theorem A3P(T:cx)(x:cz)(f:Nat):CL P E d (.fa T x f) st=nw (stepK P E d (.fa T x f) st):=EZ _
@[simp] theorem AVT(T:cx)(x:cz):CL P E d (.ldz T x) st=CL P E d (.ld T x) st:=rfl
@[simp] theorem AVU(T:cx)(x:cz):stepK P E d (.ldz T x) st=stepK P E d (.ld T x) st:=rfl
@[simp] theorem A7L(T:cx)(x:cz)(f:cz->Option V):FV P (.ldz T x) f=[]:=rfl
@[simp] theorem A3Q(T:cx)(x:cz):CL P E d (.ld T x) st=nw (stepK P E d (.ld T x) st):=EZ _
@[simp] theorem AQR(x y z:cz):CL P E d (.pick x y z) st=nw (stepK P E d (.pick x y z) st):=EZ _
@[simp] theorem AK3(T:cx)(ps:List (Nat×cz)):CL P E d (.build T ps) st=nw (stepK P E d (.build T ps) st):=EZ _
@[simp] theorem AH7(T:cx)(n:Nat)(ps:List (Nat×cz)):CL P E d (.buildS T n ps) st=nw (stepK P E d (.buildS T n ps) st):=EZ _
@[simp] theorem AVV(op:Op):CL P E d (.oth op) st=nw (stepK P E d (.oth op) st):=EZ _
@[simp] theorem AK4(T:cx):CL P E d (.alloc T) st=nw (stepK P E d (.alloc T) st):=EZ _
@[simp] theorem AVW(x:cz):CL P E d (.box x) st=nw (stepK P E d (.box x) st):=EZ _
@[simp] theorem AVX(x:Option cz):CL P E d (.mkM x) st=nw (stepK P E d (.mkM x) st):=EZ _
@[simp] theorem AVY(T:cx)(x y:cz):CL P E d (.mkS T x y) st=nw (stepK P E d (.mkS T x y) st):=EZ _
def wp(p:AJ):Option XS->Option (XS×AJ)
 |some st=>some (st,p)
 |none=>none
@[simp] theorem A7M(p:AJ):wp p (some st)=some (st,p):=rfl
@[simp] theorem A7N(p:AJ):wp p none=none:=rfl
@[simp] theorem BBZ(p:AJ)(c:Prop)[Decidable c](x y:Option XS):wp p (if c then x else y)=if c then wp p x else wp p y:=by split<;>rfl
@[simp] theorem AVZ(T:cx)(x y:cz):CL P E d (.sto T x y) st=wp (HR (bx (P.cellsOf T) 1) (BT st.fr x)) (stepK P E d (.sto T x y) st):=by show(match IJ P d T x y st with|some st'=>some (st',HR (bx (P.cellsOf T) 1) (BT st.fr x))|none=>none)=wp _ (IJ P d T x y st);cases IJ P d T x y st<;>rfl
@[simp] theorem A3R(x:Option V):EY false x=C5 x:=by cases x<;>rfl
@[simp] theorem AQS(l k g o:Nat):EY true (some (.ptr l k g o))=[(l,k+2000000),(l,k+4000000),(l,6000000+1000*k+o)]:=rfl
@[simp] theorem AK5(l k g i o:Nat):EY true (some (.eptr l k g i o))=[(l,k+2000000),(l,k+4000000),(l,6000000+1000*k+o)]:=rfl
@[simp] theorem AQT(b:Bool)(cs:List V):EY b (some (.ref cs))=[]:=by cases b<;>rfl
@[simp] theorem AQU(l k g o:Nat):HR true (some (.ptr l k g o))=[(l,k),(l,6000000+1000*k+o)]:=rfl
@[simp] theorem AK6(l k g i o:Nat):HR true (some (.eptr l k g i o))=[(l,k),(l,6000000+1000*k+o)]:=rfl
@[simp] theorem AK7(l k g o:Nat):HR false (some (.ptr l k g o))=[(l,k),(l,k+4000000)]:=rfl
@[simp] theorem AH8(l k g i o:Nat):HR false (some (.eptr l k g i o))=[(l,k),(l,k+4000000)]:=rfl
@[simp] theorem AK8(l k g o:Nat):C5 (some (.ptr l k g o))=[(l,k)]:=rfl
@[simp] theorem AH9(l k g i o:Nat):C5 (some (.eptr l k g i o))=[(l,k)]:=rfl
@[simp] theorem AK9(cs:List V):C5 (some (.ref cs))=[]:=rfl
@[simp] theorem AQV(l k g o:Nat):JD (some (.ptr l k g o))=[]:=rfl
@[simp] theorem AQW(l k g n:Nat):JD (some (.vec l k g n))=[(l,k+SA)]:=rfl
@[simp] theorem ALA(b:Bool)(es:List (List V)):JD (some (.list b es))=[]:=rfl
@[simp] theorem AQX(cs:List V):JD (some (.ref cs))=[]:=rfl
def c01(E:XE)(d:Option Tmp)(st:XS):Option V->Option (List V)->Option XS
 |some (.fn f first cap),some vs=>DA d st (E.c0 f ((first++vs++cap).map weakV))
 |_,_=>none
@[simp] theorem ADW(f:cp)(first cap vs:List V):c01 E d st (some (.fn f first cap)) (some vs)=DA d st (E.c0 f ((first++vs++cap).map weakV)):=rfl
@[simp] theorem AQY(t:Option Tmp)(f:cz)(args:List cz)(hr:FL f=false):CL P E d (.call false t f args) ⟨c,fr,s⟩=nw (c01 E d ⟨c,fr,s⟩ (BT fr f) (D6 (BT fr) args)):=by
 show noW (cond (FL f) _ (E6 E.c0 d f args ⟨c,fr,s⟩))=_;rw[hr,EZ,cond_false];congr 1;unfold E6;cases hf:BT fr f with
 |none=>simp only[c01]
 |some v=>
  cases v with
  |fn g first cap=>
   simp only
   cases hm:D6 (BT fr) args with
   |none=>simp only[c01]
   |some vs=>
    simp only[ADW]
    cases E.c0 g ((first++vs++cap).map weakV)<;>rfl
  |_=>simp only[c01]
@[simp] theorem ALB(t:Tmp)(f:cz)(args:List cz)(hr:FL f=false):CL P E d (.callM false t f args) ⟨c,fr,s⟩=nw (c01 E d ⟨c,fr,s⟩ (BT fr f) (D6 (BT fr) args)):=by
 show noW (cond (FL f) _ (E6 E.c0 d f args ⟨c,fr,s⟩))=_;rw[hr,EZ,cond_false];congr 1;unfold E6;cases hf:BT fr f with
 |none=>simp only[c01]
 |some v=>
  cases v with
  |fn g first cap=>
   simp only
   cases hm:D6 (BT fr) args with
   |none=>simp only[c01]
   |some vs=>
    simp only[ADW]
    cases E.c0 g ((first++vs++cap).map weakV)<;>rfl
  |_=>simp only[c01]
@[simp] theorem BB0{A:Ann}{kn:CF0}{n:Nat}:(BR P A kn n).c0=EQ P kn (AG P A kn n):=rfl
end
theorem pQ{A:Ann}{kn:CF0}{n N:Nat}(a b:cm):jM (AG P A kn n N) a b st (some (.bool true))=AG P A kn n N a st:=rfl
theorem lG{A:Ann}{kn:CF0}{n N:Nat}(a b:cm):jM (AG P A kn n N) a b st (some (.bool false))=AG P A kn n N b st:=rfl
attribute [simp] ADL pM wY ADJ wU pK wV wW wX ADK pL lB ADM wZ ADN ZV pN lC pO pQ lG ADO
end Go.Pg
namespace Go.Pg
variable {P:cd}{E:XE}{st:XS}{fr:Fr}{s:St}
@[simp] theorem AQZ(k:cr)(n:Int):A8 (.int k n)=[.int k n]:=rfl
@[simp] theorem ALC(b:Bool):A8 (.bool b)=[.bool b]:=rfl
@[simp] theorem AQ0(cs:List V):A8 (.agg cs)=cs:=rfl
@[simp] theorem ALD(b:Bool)(es:List (List V)):A8 (.list b es)=[.list b es]:=rfl
@[simp] theorem AQ1:A8 .nil=[.nil]:=rfl
@[simp] theorem AQ2(l k g n:Nat):A8 (.vec l k g n)=[.vec l k g n]:=rfl
@[simp] theorem AV0(l k g:Nat):A8 (.mp l k g)=[.mp l k g]:=rfl
@[simp] theorem AV1(f:cp)(x y:List V):A8 (.fn f x y)=[.fn f x y]:=rfl
@[simp] theorem AQ3(l k g n:Nat):A8 (.ptr l k g n)=[.ptr l k g n]:=rfl
@[simp] theorem AQ4(cs:List V):A8 (.ref cs)=[.ref cs]:=rfl
@[simp] theorem AQ5(k:cr)(n:Int):A9 (.int k n)=true:=rfl
@[simp] theorem ALE(b:Bool):A9 (.bool b)=true:=rfl
@[simp] theorem AQ6(cs:List V):A9 (.agg cs)=true:=rfl
@[simp] theorem ALF(b:Bool)(es:List (List V)):A9 (.list b es)=true:=rfl
@[simp] theorem AQ7:A9 .nil=true:=rfl
@[simp] theorem AQ8(l k g n:Nat):A9 (.vec l k g n)=true:=rfl
@[simp] theorem AV2(l k g:Nat):A9 (.mp l k g)=true:=rfl
@[simp] theorem AV3(f:cp)(x y:List V):A9 (.fn f x y)=true:=rfl
@[simp] theorem AQ9(l k g n:Nat):A9 (.ptr l k g n)=true:=rfl
@[simp] theorem ARA(cs:List V):A9 (.ref cs)=true:=rfl
@[simp] theorem AV4(op:BinOp)(T:cx)(k j:cr)(a b:Int):FP P op T (.int k a) (.int j b)=if k=j then ED op k a b else ZE op k a b:=rfl
@[simp] theorem A3S(k:cr)(a b:Int):ZE .shl k a b=if b<0 then none else some (.int k (k.wrap (a*2 ^ (min b.toNat k.bits)))):=rfl
@[simp] theorem A3T(k:cr)(a b:Int):ZE .shr k a b=if b<0 then none else some (.int k (a.fdiv (2 ^ (min b.toNat k.bits)))):=rfl
section
variable (k:cr)(a b:Int)
@[simp] theorem AV5:ED .add k a b=some (.int k (k.wrap (a+b))):=rfl
@[simp] theorem AV6:ED .sub k a b=some (.int k (k.wrap (a-b))):=rfl
@[simp] theorem AV7:ED .mul k a b=some (.int k (k.wrap (a*b))):=rfl
@[simp] theorem AV8:ED .quo k a b=if b=0 then none else some (.int k (k.wrap (a.tdiv b))):=rfl
@[simp] theorem AV9:ED .rem k a b=if b=0 then none else some (.int k (a.tmod b)):=rfl
@[simp] theorem AWA:ED .and k a b=some (.int k (k.wrap (BitVec.ofInt k.bits a &&& BitVec.ofInt k.bits b).toNat)):=rfl
@[simp] theorem A3U:ED .or k a b=some (.int k (k.wrap (BitVec.ofInt k.bits a ||| BitVec.ofInt k.bits b).toNat)):=rfl
@[simp] theorem AIB:ED .andNot k a b=some (.int k (k.wrap (BitVec.ofInt k.bits a &&& ~~~ BitVec.ofInt k.bits b).toNat)):=rfl
@[simp] theorem AWB:ED .shl k a b=if b<0 then none else some (.int k (k.wrap (a*2 ^ (min b.toNat k.bits)))):=rfl
@[simp] theorem AWC:ED .shr k a b=if b<0 then none else some (.int k (a.fdiv (2 ^ (min b.toNat k.bits)))):=rfl
@[simp] theorem AWD:ED .eql k a b=some (.bool (decide (a=b))):=by show some (V.bool (a==b))=_;congr 2
@[simp] theorem AWE:ED .neq k a b=some (.bool (!decide (a=b))):=by show some (V.bool (a != b))=_;congr 2
@[simp] theorem AWF:ED .lss k a b=some (.bool (decide (a<b))):=rfl
@[simp] theorem AWG:ED .leq k a b=some (.bool (decide (a<=b))):=rfl
@[simp] theorem AWH:ED .gtr k a b=some (.bool (decide (b<a))):=rfl
@[simp] theorem AWI:ED .geq k a b=some (.bool (decide (b<=a))):=rfl
end
theorem AV{x:Int}(h1:-9223372036854775808<=x)(h2:x<9223372036854775808):IntKind.i64.wrap x=x:=by simp only[IntKind.wrap,IntKind.bits,IntKind.signed];simp;omega
@[simp] theorem ALG(T:cx)(a b:Bool):FP P .eql T (.bool a) (.bool b)=if gT P T=true then some (.bool (a==b)) else none:=rfl
@[simp] theorem ALH(T:cx)(a b:Bool):FP P .neq T (.bool a) (.bool b)=if gT P T=true then some (.bool (a != b)) else none:=rfl
def bl1(f:Bool->Bool):Option Bool->Option V
 |some b=>some (.bool (f b))
 |none=>none
@[simp] theorem A3V(f:Bool->Bool)(b:Bool):bl1 f (some b)=some (.bool (f b)):=rfl
@[simp] theorem ARB(T:cx)(cs ds:List V):FP P .eql T (.agg cs) (.agg ds)=bl1 (fun b=>b) (PW P T cs ds):=by show(PW P T cs ds).map V.bool=_;cases PW P T cs ds<;>rfl
@[simp] theorem ARC(T:cx)(cs ds:List V):FP P .neq T (.agg cs) (.agg ds)=bl1 (fun b=>!b) (PW P T cs ds):=by show(PW P T cs ds).map (fun b=>V.bool !b)=_;cases PW P T cs ds<;>rfl
def faP(P:cd)(x:V):Option (cx×Nat)->Option V
 |some (U,off)=>if P.cellsOf U=0 then none else match x with
  |.ref cs=>some (.ref (cs.drop off))
  |.ptr l k g o=>some (.ptr l k g (o+off))
  |.eptr l k g i o=>some (.eptr l k g i (o+off))
  |_=>none
 |none=>none
@[simp] theorem A7O(T:cx)(x:V)(f:Nat):CV P T x f=faP P x (BE P T f):=by unfold CV faP;cases BE P T f<;>rfl
@[simp] theorem A7P(U:cx)(off:Nat)(cs:List V):faP P (.ref cs) (some (U,off))=if P.cellsOf U=0 then none else some (.ref (cs.drop off)):=rfl
@[simp] theorem A7Q(U:cx)(off l k g o:Nat):faP P (.ptr l k g o) (some (U,off))=if P.cellsOf U=0 then none else some (.ptr l k g (o+off)):=rfl
@[simp] theorem A3X(U:cx)(off l k g i o:Nat):faP P (.eptr l k g i o) (some (U,off))=if P.cellsOf U=0 then none else some (.eptr l k g i (o+off)):=rfl
def fd1(P:cd)(x:V):Option (cx×Nat)->Option V
 |some (U,off)=>match x with
  |.agg cs=>MN P U cs off
  |_=>none
 |none=>none
@[simp] theorem ARD(T:cx)(x:V)(f:Nat):IY P T x f=fd1 P x (BE P T f):=by unfold IY fd1;cases x<;>cases BE P T f<;>rfl
@[simp] theorem A7R(U:cx)(off:Nat)(cs:List V):fd1 P (.agg cs) (some (U,off))=MN P U cs off:=rfl
def cb(g off:Nat):Option (Nat×AZ)->Option (List V)
 |some (g',.box cs)=>if g'=g then some (cs.drop off) else none
 |_=>none
@[simp] theorem A7S(g g' off:Nat)(cs:List V):cb g off (some (g',.box cs))=if g'=g then some (cs.drop off) else none:=rfl
def ce(g i off:Nat):Option (Nat×AZ)->Option (List V)
 |some (g',.vec _ es)=>if g'=g then(es[i]?).map (·.drop off) else none
 |_=>none
@[simp] theorem A7T(g g' i off:Nat)(T:cx)(es:List (List V)):ce g i off (some (g',.vec T es))=if g'=g then(es[i]?).map (·.drop off) else none:=rfl
@[simp] theorem ALI(cs:List V):BA s (.ref cs)=some cs:=rfl
@[simp] theorem ALJ(l k g off:Nat):BA s (.ptr l k g off)=cb g off (s.get l k):=by
 unfold cb;simp only[BA];cases s.get l k with
 |none=>rfl
 |some z=>obtain⟨g',r⟩:=z;cases r<;>rfl
@[simp] theorem AIC(l k g i off:Nat):BA s (.eptr l k g i off)=ce g i off (s.get l k):=by
 unfold ce;simp only[BA];cases s.get l k with
 |none=>rfl
 |some z=>obtain⟨g',r⟩:=z;cases r<;>rfl
def iv(P:cd)(e:cx)(l k g n:Nat)(j:Int):Option (Nat×AZ)->Option V
 |some (g',.vec _ es)=>if g'=g/\0<=j/\j<n/\n<=es.length/\(es.getD j.toNat []).length=P.cellsOf e/\0<P.cellsOf e then some (.eptr l k g j.toNat 0) else none
 |_=>none
@[simp] theorem A7U(e:cx)(l k g g' n:Nat)(j:Int)(T:cx)(es:List (List V)):iv P e l k g n j (some (g',.vec T es))=if g'=g/\0<=j/\j<n/\n<=es.length/\(es.getD j.toNat []).length=P.cellsOf e/\0<P.cellsOf e then some (.eptr l k g j.toNat 0) else none:=rfl
def ia(P:cd)(s:St)(x i:V):Option (Option Nat×cx)->Option V
 |some (none,e)=>match x,i with
  |.list _ es,.int _ j=>if 0<=j/\j<es.length/\(es.getD j.toNat []).length=P.cellsOf e/\0<P.cellsOf e then some (.ref (es.getD j.toNat [])) else none
  |.vec l k g n,.int _ j=>iv P e l k g n j (s.get l k)
  |_,_=>none
 |some (some n,e)=>match x,i with
  |.ref cs,.int _ j=>if 0<=j/\j<n/\0<P.cellsOf e then some (.ref (cs.drop (j.toNat*P.cellsOf e))) else none
  |.ptr l k g o,.int _ j=>if 0<=j/\j<n/\0<P.cellsOf e then some (.ptr l k g (o+j.toNat*P.cellsOf e)) else none
  |.eptr l k g i' o,.int _ j=>if 0<=j/\j<n/\0<P.cellsOf e then some (.eptr l k g i' (o+j.toNat*P.cellsOf e)) else none
  |_,_=>none
 |none=>none
@[simp] theorem A7V(T:cx)(x i:V):BK P s T x i=ia P s x i (BJ P T):=by
 unfold BK ia;cases BJ P T with
 |none=>rfl
 |some z=>
  obtain⟨n,e⟩:=z
  cases n with
  |some n=>cases x<;>cases i<;>rfl
  |none=>
   cases x with
   |vec l k g n=>
    cases i with
    |int q j=>
     simp only[iv]
     cases s.get l k with
     |none=>rfl
     |some z=>obtain⟨g',r⟩:=z;cases r<;>rfl
    |_=>rfl
   |_=>cases i<;>rfl
@[simp] theorem A7W(e:cx)(b:Bool)(es:List (List V))(k:cr)(j:Int):ia P s (.list b es) (.int k j) (some (none,e))=if 0<=j/\j<es.length/\(es.getD j.toNat []).length=P.cellsOf e/\0<P.cellsOf e then some (.ref (es.getD j.toNat [])) else none:=rfl
@[simp] theorem BB3(e:cx)(l q g n:Nat)(k:cr)(j:Int):ia P s (.vec l q g n) (.int k j) (some (none,e))=iv P e l q g n j (s.get l q):=rfl
@[simp] theorem BB4(n:Nat)(e:cx)(cs:List V)(k:cr)(j:Int):ia P s (.ref cs) (.int k j) (some (some n,e))=if 0<=j/\j<n/\0<P.cellsOf e then some (.ref (cs.drop (j.toNat*P.cellsOf e))) else none:=rfl
@[simp] theorem BB5(n:Nat)(e:cx)(l q g o:Nat)(k:cr)(j:Int):ia P s (.ptr l q g o) (.int k j) (some (some n,e))=if 0<=j/\j<n/\0<P.cellsOf e then some (.ptr l q g (o+j.toNat*P.cellsOf e)) else none:=rfl
@[simp] theorem A7X(n:Nat)(e:cx)(l q g i o:Nat)(k:cr)(j:Int):ia P s (.eptr l q g i o) (.int k j) (some (some n,e))=if 0<=j/\j<n/\0<P.cellsOf e then some (.eptr l q g i (o+j.toNat*P.cellsOf e)) else none:=rfl
def ix(P:cd)(T:cx)(x i:V):Option (Option Nat×cx)->Option V
 |some (some n,e)=>match x,i with
  |.agg cs,.int _ j=>if 0<=j/\j<n/\0<P.cellsOf e then MN P e cs (j.toNat*P.cellsOf e) else none
  |_,_=>none
 |some (none,_)=>none
 |none=>FZ P T x i
@[simp] theorem ARE(T:cx)(x i:V)(h:BJ P T≠none):FZ P T x i=ix P T x i (BJ P T):=by
 unfold ix;cases he:BJ P T with
 |none=>exact absurd he h
 |some z=>obtain⟨n,e⟩:=z;unfold FZ;rw[he];cases n<;>cases x<;>cases i<;>rfl
@[simp] theorem BB6(T:cx)(n:Nat)(e:cx)(cs:List V)(k:cr)(j:Int):ix P T (.agg cs) (.int k j) (some (some n,e))=if 0<=j/\j<n/\0<P.cellsOf e then MN P e cs (j.toNat*P.cellsOf e) else none:=rfl
theorem NV{T:cx}(h:DP P T=true):∃e,P.underlying T=some (.slice e):=by
 unfold DP at h;split at h
 ·rename_i e he;exact⟨e,he⟩
 ·cases h
@[simp] theorem pR{T:cx}(h:DP P T=true)(b:Bool)(es:List (List V)):F8 P T (.list b es)=some (.int .i64 es.length):=by obtain⟨e,he⟩:=NV h;simp[F8,he]
@[simp] theorem AWJ{T:cx}(h:DP P T=true)(l k g n:Nat):F8 P T (.vec l k g n)=some (.int .i64 n):=by obtain⟨e,he⟩:=NV h;simp[F8,he]
@[simp] theorem xC{T:cx}(h:DP P T=true):F8 P T .nil=some (.int .i64 0):=by obtain⟨e,he⟩:=NV h;simp[F8,he]
def fv(place:Nat->Option (Nat×Nat))(cs:List V)(v:V)(rest:List (Nat×V)):Option (Nat×Nat)->Option (List V)
 |none=>none
 |some (off,size)=>if (A8 v).length=size/\off+(A8 v).length<=cs.length then CR place (A6 cs off (A8 v)) rest else none
@[simp] theorem AWK(place:Nat->Option (Nat×Nat))(cs:List V):CR place cs []=some cs:=rfl
@[simp] theorem ARF(place:Nat->Option (Nat×Nat))(cs:List V)(i:Nat)(v:V)(rest:List (Nat×V)):CR place cs ((i,v)::rest)=fv place cs v rest (place i):=by simp only[CR];unfold fv;cases place i<;>rfl
@[simp] theorem A7Y(place:Nat->Option (Nat×Nat))(cs:List V)(v:V)(rest:List (Nat×V))(off size:Nat):fv place cs v rest (some (off,size))=if (A8 v).length=size/\off+(A8 v).length<=cs.length then CR place (A6 cs off (A8 v)) rest else none:=rfl
attribute [simp] A6
@[simp] theorem ALK(size:Nat)(cs:List V):CC size cs 0=[]:=rfl
@[simp] theorem ALL(size:Nat)(cs:List V)(n:Nat):CC size cs (n+1)=cs.take size::CC size (cs.drop size) n:=rfl
def ch1(size len:Nat):Option (List V)->Option V
 |some cs=>some (.list true (CC size cs len))
 |none=>none
@[simp] theorem A3Y(size len:Nat)(cs:List V):ch1 size len (some cs)=some (.list true (CC size cs len)):=rfl
def bsz(P:cd)(e:cx)(len:Nat)(parts:List (Nat×V)):Option (List V)->Option V
 |some z=>if (parts.all fun p=>A9 p.2)=true/\z.length=P.cellsOf e/\0<P.cellsOf e/\len*P.cellsOf e<=2 ^ 24 then
   ch1 (P.cellsOf e) len (CR (fun i=>some (i*P.cellsOf e,P.cellsOf e)) (br len z).flatten parts) else none
 |none=>none
@[simp] theorem A3Z(e:cx)(len:Nat)(parts:List (Nat×V))(z:List V):bsz P e len parts (some z)=if (parts.all fun p=>A9 p.2)=true/\z.length=P.cellsOf e/\0<P.cellsOf e/\len*P.cellsOf e<=2 ^ 24 then
   ch1 (P.cellsOf e) len (CR (fun i=>some (i*P.cellsOf e,P.cellsOf e)) (br len z).flatten parts) else none:=rfl
def bsl(P:cd)(len:Nat)(parts:List (Nat×V)):Option (Option Nat×cx)->Option V
 |some (none,e)=>bsz P e len parts (BZ P e)
 |_=>none
@[simp] theorem A30(e:cx)(len:Nat)(parts:List (Nat×V)):bsl P len parts (some (none,e))=bsz P e len parts (BZ P e):=rfl
@[simp] theorem A70(T:cx)(len:Nat)(parts:List (Nat×V)):BW P T len parts=bsl P len parts (BJ P T):=by
 unfold BW bsl;cases BJ P T with
 |none=>rfl
 |some z=>
  obtain⟨n,e⟩:=z
  cases n with
  |some n=>rfl
  |none=>
   simp only[bsz]
   cases BZ P e with
   |none=>rfl
   |some z=>
    simp only
    split
    ·cases CR (fun i=>some (i*P.cellsOf e,P.cellsOf e)) (br len z).flatten parts<;>rfl
    ·rfl
def fn2(f:cp):Option (List V)->Option (List V)->Option V
 |some a,some b=>some (.fn f a b)
 |_,_=>none
@[simp] theorem A31(f:cp)(a b:List V):fn2 f (some a) (some b)=some (.fn f a b):=rfl
@[simp] theorem BB8(f:cp)(x y:Array cz)(r:cz->Option V):ID P (kU (.makeFunc (.func f) x y)) s r=fn2 f (D6 r x.toList) (D6 r y.toList):=by show((x.toList.mapM r).bind fun a=>(y.toList.mapM r).bind fun b=>some (V.fn f a b))=_;rw[<-JX,<-JX];cases D6 r x.toList<;>cases D6 r y.toList<;>rfl
@[simp] theorem A72(x y:cz)(Ts:Array cx)(r:cz->Option V):ID P (kU (.call ⟨.builtin .max,#[x,y],Ts⟩)) s r=o2 QY (r x) (r y):=VT _ _ _
@[simp] theorem A73(x y:cz)(Ts:Array cx)(r:cz->Option V):ID P (kU (.call ⟨.builtin .min,#[x,y],Ts⟩)) s r=o2 QZ (r x) (r y):=VT _ _ _
@[simp] theorem AWL(k j:cr)(m n:Int):QY (.int k m) (.int j n)=if k=j then some (.int k (if n>m then n else m)) else none:=rfl
@[simp] theorem AWM(k j:cr)(m n:Int):QZ (.int k m) (.int j n)=if k=j then some (.int k (if n<m then n else m)) else none:=rfl
theorem DL{e:cx}{n:Nat}{ys:List (List V)}(hc:0<P.cellsOf e)(hz:dG P e=true):CH P e n ys=true↔(ys.all (fun y=>y.length==P.cellsOf e)=true/\n+ys.length<=maxLen/\(n+ys.length)*P.bytesOf e<=140737488355328):=by simp[CH,hc,hz,and_assoc]
end Go.Pg
namespace Go.Pg
variable {P:cd}{E:XE}{st:XS}{fr:Fr}{s:St}
theorem AQ{P:cd}{kn:CF0}{rec:FK}{f:cp}{args:List V}(h:kn f args=none):A5 P kn rec f args=EB P rec f args:=by unfold A5;rw[h]
def pv(k γ:Nat):List (List V)->V
 |[]=>.nil
 |e::es=>.vec 0 k γ (e::es).length
def pl(k γ:Nat)(T:cx):List (List V)->AA
 |[]=>[]
 |e::es=>[(k,γ,.vec T (e::es))]
def sl:List (List V)->V
 |[]=>.nil
 |e::es=>.list false (e::es)
@[simp] theorem fB(k γ:Nat):pv k γ []=.nil:=rfl
@[simp] theorem NW(k γ:Nat)(T:cx):pl k γ T []=[]:=rfl
@[simp] theorem J4(k γ:Nat)(T:cx)(es:List (List V))(y:List V)(ys:List (List V)):pl k γ T (es++y::ys)=[(k,γ,.vec T (es++y::ys))]:=by cases es<;>rfl
@[simp] theorem tF(k γ:Nat)(T:cx)(y:List V)(ys:List (List V)):pl k γ T (y::ys)=[(k,γ,.vec T (y::ys))]:=rfl
@[simp] theorem BE7(k γ:Nat)(T:cx)(es:List (List V)):kl k [] ((pl k γ T es).get k)=pl k γ T es:=by
 cases es with
 |nil=>rfl
 |cons e es=>simp
@[simp] theorem A32{k j:Nat}(γ:Nat)(T:cx)(es:List (List V))(h:j≠k):(pl k γ T es).get j=none:=by
 cases es with
 |nil=>rfl
 |cons e es=>simp[h]
@[simp] theorem ARG(e k c γ:Nat)(loc:AA)(es:List (List V))(y:List V)(ys:List (List V))(hl:AA.get loc k=(pl k γ e es).get k)(h1:es.all (fun y=>y.length==P.cellsOf e)=true)(h2:CH P e es.length (y::ys)=true) :
  mM P e k c fr ⟨[],loc⟩ (pv k γ es) (y::ys)=some ⟨c+1,(k,true,pv k c (es++y::ys))::fr,⟨[],(k,c,.vec e (es++y::ys))::loc⟩⟩:=by
 cases es with
 |nil=>
  simp only[bq]at h2
  simp[h2,pv]
 |cons z es=>
  have hl:AA.get loc k=some (γ,.vec e (z::es)):=by rw[hl];simp
  simp only[pv,eZ,fA,bq,if_true,hl,RY,KJ,KV,true_and,h1,h2]
  simp[Nat.add_comm,Nat.add_left_comm]
theorem TH{T:cx}(f:Nat)(loc:AA)(k γ:Nat)(es:List (List V))(hl:AA.get loc k=(pl k γ T es).get k):AX ⟨[],loc⟩ (f+1) (pv k γ es)=some (sl es):=by
 cases es with
 |nil=>rfl
 |cons z es=>
  have hl:AA.get loc k=some (γ,.vec T (z::es)):=by rw[hl];simp
  simp only[pv,pP,bq,if_true,hl,ADV,sl]
  simp
@[simp] theorem AWN(f k γ:Nat)(T:cx)(es:List (List V)):AX ⟨[],pl k γ T es⟩ (f+1) (pv k γ es)=some (sl es):=TH (T:=T) f _ k γ es rfl
@[simp] theorem A33{T:cx}(h:DP P T=true)(es:List (List V)):F8 P T (sl es)=some (.int .i64 es.length):=by
 cases es with
 |nil=>exact xC h
 |cons e es=>exact pR h _ _
@[simp] theorem BE8(e:cx)(es:List (List V))(k:cr)(j:Int):ia P s (sl es) (.int k j) (some (none,e))=if 0<=j/\j<es.length/\(es.getD j.toNat []).length=P.cellsOf e/\0<P.cellsOf e then some (.ref (es.getD j.toNat [])) else none:=by
 cases es with
 |nil=>
  rw[if_neg (by simp only[bq];omega)]
  rfl
 |cons z es=>rfl
@[simp] theorem AWO(f:Nat)(es:List (List V)):AK (f+1) (sl es)=es.all fun e=>e.all (AK f):=by cases es<;>rfl
@[simp] theorem A34(es:List (List V)):weakN (sl es)=.list false es:=by cases es<;>rfl
@[simp] theorem A35(es:List (List V)):weakM (sl es)=.list false es:=by cases es<;>rfl
@[simp] theorem A74(es:List (List V)):weakV (sl es)=sl es:=by cases es<;>rfl
@[simp] theorem A36(es:List (List V)):weakC (sl es)=sl es:=by cases es<;>rfl
@[simp] theorem AWP(es:List (List V)):A8 (sl es)=[sl es]:=by cases es<;>rfl
@[simp] theorem AWQ(es:List (List V)):A9 (sl es)=true:=by cases es<;>rfl
@[simp] theorem AWR(k γ:Nat)(es:List (List V)):A8 (pv k γ es)=[pv k γ es]:=by cases es<;>rfl
@[simp] theorem AWS(k γ:Nat)(es:List (List V)):A9 (pv k γ es)=true:=by cases es<;>rfl
@[simp] theorem ARH(es:List (List V)):elemsOf s (sl es)=some es:=by cases es<;>rfl
@[simp] theorem AWT(f:Nat)(es:List (List V)):AX s (f+1) (sl es)=some (sl es):=by cases es<;>rfl
@[simp] theorem AWU(es:List (List V)):D7 (some (sl es))=[]:=by cases es<;>rfl
@[simp] theorem AWV(es:List (List V)):JD (some (sl es))=[]:=by cases es<;>rfl
def adV(P:cd)(e:cx)(d c:Nat)(fr:Fr)(s:St)(xv:V)(ys:List (List V)):Option (XS×AJ):=match IE xv ys with
 |some es=>if es.all (fun y=>y.length==P.cellsOf e)=true/\CH P e es.length ys=true then some (⟨c+1,(d,true,.vec s.up.length d c (es.length+ys.length))::fr,s.put s.up.length d c (.vec e (es++ys))⟩,[(s.up.length,d),(s.up.length,d+SA)]) else none
 |none=>match xv with
  |.vec l q γ n=>wp [(l,q),(l,q+SA)] (apW P e d c fr s l q γ n ys (PY n ys (s.get l q)))
  |_=>none
def ad4(P:cd)(e:cx)(d c:Nat)(fr:Fr)(s:St)(xv:V):Option (List (List V))->Option (XS×AJ)
 |some ys=>adV P e d c fr s xv ys
 |none=>none
@[simp] theorem ADY(e:cx)(d c:Nat)(xv:V)(ys:List (List V)):ad4 P e d c fr s xv (some ys)=adV P e d c fr s xv ys:=rfl
def ad3(P:cd)(d c:Nat)(fr:Fr)(s:St):Option (Option Nat×cx)->Option V->Option V->Option (XS×AJ)
 |some (none,e),some xv,some yv=>ad4 P e d c fr s xv (elemsOf s yv)
 |_,_,_=>none
@[simp] theorem ADZ(d c:Nat)(e:cx)(xv yv:V):ad3 P d c fr s (some (none,e)) (some xv) (some yv)=ad4 P e d c fr s xv (elemsOf s yv):=rfl
@[simp] theorem ALM(b:Bool)(es:List (List V)):nM (.list b es)=some es:=rfl
@[simp] theorem ARI:nM .nil=some []:=rfl
@[simp] theorem AWW(es:List (List V)):nM (sl es)=some es:=by cases es<;>rfl
@[simp] theorem AWX(d:Tmp)(c:Nat)(x y:cz)(T:cx):CL P E (some d) (.app [x,y] [T,T]) ⟨c,fr,s⟩=ad3 P d c fr s (BJ P T) (BT fr x) (BT fr y):=by
 show xAppD P (some d) [x,y] [T,T] _=_;unfold xAppD xAppG;simp only[bt];cases hT:BJ P T with
 |none=>cases BT fr x<;>cases BT fr y<;>rfl
 |some p=>
  obtain⟨k,e⟩:=p
  cases k with
  |some k=>cases BT fr x<;>cases BT fr y<;>rfl
  |none=>
   cases BT fr x with
   |none=>rfl
   |some xv=>
    cases BT fr y with
    |none=>rfl
    |some yv=>
     simp only[ADZ]
     cases elemsOf s yv with
     |none=>rfl
     |some ys=>
      simp only[ADY,adV]
      cases IE xv ys with
      |some es=>
       simp only[ifB,bj,bw]
       by_cases hC:es.all (fun y=>y.length==P.cellsOf e)=true/\CH P e es.length ys=true
       ·rw[if_pos hC,if_pos hC]
       ·rw[if_neg hC,if_neg hC]
      |none=>
       simp only
       unfold jF
       cases xv with
       |vec l q γ n=>
        simp only
        cases PY n ys (s.get l q)with
        |none=>rfl
        |some z=>
         obtain⟨γ',r⟩:=z
         cases r with
         |vec W es=>
          simp only[ifB,bj,bw,KV,cj,and_assoc]
          by_cases hC:γ'=γ/\W=e/\n=es.length/\es.all (fun y=>y.length==P.cellsOf e)=true/\CH P e es.length ys=true
          ·rw[if_pos hC,if_pos hC];rfl
          ·rw[if_neg hC,if_neg hC];rfl
         |_=>rfl
       |_=>rfl
@[simp] theorem BCA(e k c γ:Nat)(loc:AA)(es:List (List V))(y:List V)(ys:List (List V))(hl:AA.get loc k=(pl k γ e es).get k)(h1:es.all (fun y=>y.length==P.cellsOf e)=true)(h2:CH P e es.length (y::ys)=true) :
  adV P e k c fr ⟨[],loc⟩ (pv k γ es) (y::ys)=some (⟨c+1,(k,true,pv k c (es++y::ys))::fr,⟨[],(k,c,.vec e (es++y::ys))::loc⟩⟩,[(0,k),(0,k+SA)]):=by
 cases es with
 |nil=>
  simp only[bq]at h2
  simp[adV,IE,h2,pv]
 |cons z es=>
  have hl:AA.get loc k=some (γ,.vec e (z::es)):=by rw[hl];simp
  simp only[pv,adV,IE,fA,bq,if_true,hl,RY,KJ,KV,true_and,h1,h2]
  simp[Nat.add_comm,Nat.add_left_comm]
end Go.Pg
namespace Go.Pg
variable {P:cd}{E:XE}{st:XS}{fr:Fr}{s:St}
theorem pS{α:Type}(x:α):CM [x]=some ([],x):=rfl
def un1{α:Type}(x:α):Option (List α×α)->Option (List α×α)
 |some (a,b)=>some (x::a,b)
 |none=>none
@[simp] theorem A37{α:Type}(x:α)(a:List α)(b:α):un1 x (some (a,b))=some (x::a,b):=rfl
theorem UC{α:Type}(x y:α)(l:List α):CM (x::y::l)=un1 x (CM (y::l)):=by simp only[CM];unfold un1;cases CM (y::l)<;>rfl
attribute [simp] pS UC
def lH(d:Option Tmp)(fr:Fr)(c:Nat)(r:V):Option (List AA×AA)->Option XS
 |some (u,l)=>some ⟨c,putD fr d true r,⟨u,l⟩⟩
 |none=>none
@[simp] theorem AWY(d:Tmp)(c:Nat)(r:V)(u:List AA)(l:AA):lH (some d) fr c r (some (u,l))=some ⟨c,(d,true,r)::fr,⟨u,l⟩⟩:=rfl
@[simp] theorem A75(c:Nat)(r:V)(u:List AA)(l:AA):lH none fr c r (some (u,l))=some ⟨c,fr,⟨u,l⟩⟩:=rfl
def lI(d:Option Tmp)(fr:Fr)(st:XS):Option V->Option XS
 |some r=>lH d fr st.c r (CM (st.s.up.map (AN st.s)))
 |none=>none
@[simp] theorem AWZ(d:Option Tmp)(c:Nat)(fr':Fr)(up:List AA)(loc:AA)(r:V):lI d fr ⟨c,fr',⟨up,loc⟩⟩ (some r)=lH d fr c r (CM (up.map (AN ⟨up,loc⟩))):=rfl
def clX(s:St):Option V->Option V
 |some r=>AX s 4 r
 |none=>none
@[simp] theorem A38(r:V):clX s (some r)=AX s 4 r:=rfl
def fC(P:cd)(d:Option Tmp)(fr:Fr)(rs:List ResultVar)(r:Option (Exit×XS)):Option XS:=match r with
 |some (.ret,st)=>lI d fr st (clX st.s (FJ P rs st.fr st.s))
 |some (.normal,st)=>lI d fr st (clX st.s (FJ P rs st.fr st.s))
 |_=>none
@[simp] theorem AD0(d:Option Tmp)(rs:List ResultVar):fC P d fr rs (some (.ret,st))=lI d fr st (clX st.s (FJ P rs st.fr st.s)):=rfl
@[simp] theorem lJ(d:Option Tmp)(rs:List ResultVar):fC P d fr rs (some (.normal,st))=lI d fr st (clX st.s (FJ P rs st.fr st.s)):=rfl
theorem lK{A:Ann}{kn:CF0}{n:Nat}{f:cp}{fn:Func}{code:cm}{args:List V}(hf:P.funcs[f]? = some fn)(hb:fn.body=some code)(hs:cq args.length fn.ntmps=true)(hcl:(args.all (AK 9)&&!(BF P f))=false)(d:Option Tmp)(c:Nat)(fr:Fr)(up:List AA)(loc:AA) :
  ME (BR P A kn n) d ⟨c,fr,⟨up,loc⟩⟩ f args=fC P d fr fn.results.toList (AG P A kn n fn.ntmps code ⟨c,AH 0 args,⟨up++[loc],[]⟩⟩):=by
 show(match T7 P kn (AG P A kn n) f args ⟨c,fr,⟨up,loc⟩⟩ with
  |some (r,st')=>some (⟨st'.c,putD st'.fr d true r,st'.s⟩:XS)
  | none=>none)=_
 unfold T7
 rw[hcl]
 unfold bA T6 jN
 rw[hf]
 simp only[hb,hs]
 generalize AG P A kn n fn.ntmps code ⟨c,AH 0 args,⟨up++[loc],[]⟩⟩=q
 have aux:∀st:XS,(match(match(match vW P fn.results.toList st with
   |some (r,c,up)=>match CM up with
    |some (u,l)=>some (r,(⟨c,fr,⟨u,l⟩⟩:XS))
    |none=>none
   | none=>none:Option (V×XS))with
   |some r=>some r
   | none=>none:Option (V×XS))with
  |some (r,st')=>some (⟨st'.c,putD st'.fr d true r,st'.s⟩:XS)
  | none=>none)=lI d fr st (clX st.s (FJ P fn.results.toList st.fr st.s)):=fun st=>by
  unfold vW clX
  cases FJ P fn.results.toList st.fr st.s with
  |none=>rfl
  |some r=>
   cases h:AX st.s 4 r with
   |none=>simp[lI,h]
   |some r'=>
    simp only[h,lI]
    cases CM (st.s.up.map (AN st.s))with
    |none=>rfl
    |some z=>rfl
 cases q with
 |none=>rfl
 |some q=>
  obtain⟨e,st⟩:=q
  have:=aux st
  cases e with
  |ret=>simp only[AD0,<-this];cases vW P fn.results.toList st with
   |none=>rfl
   |some z=>
    obtain⟨r,c,up⟩:=z
    simp only
    cases CM up<;>rfl
  |normal=>simp only[lJ,<-this];cases vW P fn.results.toList st with
   |none=>rfl
   |some z=>
    obtain⟨r,c,up⟩:=z
    simp only
    cases CM up<;>rfl
  |_=>rfl
theorem BP{A:Ann}{kn:CF0}{n:Nat}{f:cp}{fn:Func}{code:cm}{args:List V}(hf:P.funcs[f]? = some fn)(hb:fn.body=some code)(hs:cq args.length fn.ntmps=true)(hcl:args.all (AK 9)=false)(d:Option Tmp)(c:Nat)(fr:Fr)(up:List AA)(loc:AA) :
  ME (BR P A kn n) d ⟨c,fr,⟨up,loc⟩⟩ f args=fC P d fr fn.results.toList (AG P A kn n fn.ntmps code ⟨c,AH 0 args,⟨up++[loc],[]⟩⟩) :=
 lK hf hb hs (by rw[hcl,Bool.false_and]) d c fr up loc
theorem fD{A:Ann}{kn:CF0}{n:Nat}{f:cp}{fn:Func}{code:cm}{args:List V}(hf:P.funcs[f]? = some fn)(hb:fn.body=some code)(hs:cq args.length fn.ntmps=true)(hh:BF P f=true)(d:Option Tmp)(c:Nat)(fr:Fr)(up:List AA)(loc:AA) :
  ME (BR P A kn n) d ⟨c,fr,⟨up,loc⟩⟩ f args=fC P d fr fn.results.toList (AG P A kn n fn.ntmps code ⟨c,AH 0 args,⟨up++[loc],[]⟩⟩) :=
 lK hf hb hs (by rw[hh,Bool.not_true,Bool.and_false]) d c fr up loc
@[simp] theorem ARK(f l k g o:Nat):AK (f+1) (.ptr l k g o)=false:=rfl
@[simp] theorem ARL(f l k g o:Nat):AK (f+1) (.vec l k g o)=false:=rfl
@[simp] theorem AW0(f l k g:Nat):AK (f+1) (.mp l k g)=false:=rfl
@[simp] theorem A39(l k g o:Nat):weakV (.ptr l k g o)=.ptr l k g o:=rfl
@[simp] theorem A4A(l k g o:Nat):weakV (.vec l k g o)=.vec l k g o:=rfl
@[simp] theorem A4B(cs:List V):weakV (.ref cs)=.ref cs:=rfl
@[simp] theorem BCC(d c:Nat)(f:cp)(x y:List V):bx1 d c fr s (some (.fn f x y))=some ⟨c+1,(d,true,.ptr s.up.length d c 0)::fr,s.put s.up.length d c (.box [.fn f x y])⟩:=rfl
@[simp] theorem A76(d c:Nat)(l k g o:Nat):bx1 d c fr s (some (.ptr l k g o))=some ⟨c+1,(d,true,.ptr s.up.length d c 0)::fr,s.put s.up.length d c (.box [.ptr l k g o])⟩:=rfl
@[simp] theorem BCD(d c:Nat)(es:List (List V)):bx1 d c fr s (some (sl es))=some ⟨c+1,(d,true,.ptr s.up.length d c 0)::fr,s.put s.up.length d c (.box [sl es])⟩:=by cases es<;>rfl
@[simp] theorem JI:AN s []=[]:=rfl
@[simp] theorem B5(k g:Nat)(r:AZ)(L:AA):AN s ((k,g,r)::L)=(k,g,BM s r)::AN s L:=rfl
def sr1(r:AZ):Option (List V)->AZ
 |some ds=>.box ds
 |none=>r
@[simp] theorem A4C(r:AZ)(ds:List V):sr1 r (some ds)=.box ds:=rfl
theorem lL(cs:List V):BM s (.box cs)=sr1 (.box cs) (GD (BQ s) cs):=by unfold BM BN sr1;simp only;cases GD (BQ s) cs<;>rfl
attribute [simp] lL
theorem pT(f:V->Option V):GD f []=some []:=rfl
theorem lM(f:V->Option V)(v:V)(l:List V):GD f (v::l)=mc2 (f v) (GD f l):=by
 simp only[GD];cases f v with
 |none=>rfl
 |some x=>cases GD f l<;>rfl
attribute [simp] pT lM
@[simp] theorem ALN(k:cr)(n:Int):BQ s (.int k n)=some (.int k n):=rfl
@[simp] theorem AID(b:Bool):BQ s (.bool b)=some (.bool b):=rfl
@[simp] theorem AIE(b:Bool)(es:List (List V)):BQ s (.list b es)=some (.list b es):=rfl
@[simp] theorem ALO:BQ s .nil=some .nil:=rfl
@[simp] theorem ARM(es:List (List V)):BQ s (sl es)=some (sl es):=by cases es<;>rfl
@[simp] theorem ARN(f:cp)(x y:List V):BQ s (.fn f x y)=AX s 4 (.fn f x y):=rfl
@[simp] theorem ALP(l k g o:Nat):BQ s (.ptr l k g o)=AX s 4 (.ptr l k g o):=rfl
@[simp] theorem ALQ(l k g o:Nat):BQ s (.vec l k g o)=AX s 4 (.vec l k g o):=rfl
@[simp] theorem ALR(cs:List V):BQ s (.agg cs)=AX s 4 (.agg cs):=rfl
@[simp] theorem AW1(f:Nat)(g:cp)(x y:List V):AX s (f+1) (.fn g x y)=fn2 g (O9 (AX s f) x) (O9 (AX s f) y):=by simp only[AX,RZ,fn2];cases O9 (AX s f) x<;>cases O9 (AX s f) y<;>rfl
def cp1(f:List V->Option (List V))(g off:Nat):Option (Nat×AZ)->Option V
 |some (g',.box cs)=>if g'=g then(f cs).map fun ds=>.ref (ds.drop off) else none
 |_=>none
@[simp] theorem ARO(f:Nat)(up:List AA)(loc:AA)(l k g off:Nat):AX ⟨up,loc⟩ (f+1) (.ptr l k g off)=if l=up.length then cp1 (O9 (AX ⟨up,loc⟩ f)) g off (loc.get k) else some (.ptr l k g off):=by
 simp only[AX,RZ];split
 ·cases loc.get k with
  |none=>rfl
  |some z=>obtain⟨g',r⟩:=z;cases r<;>rfl
 ·rfl
def ow3(d c:Nat)(fr:Fr)(s:St):Option V->Option XS
 |some r=>some ⟨c+1,(d,true,r)::fr,s.put s.up.length d c .dead⟩
 |none=>none
@[simp] theorem lN(d c:Nat)(r:V):ow3 d c fr s (some r)=some ⟨c+1,(d,true,r)::fr,s.put s.up.length d c .dead⟩:=rfl
theorem YI{A:Ann}{kn:CF0}{n:Nat}{f:cp}{d c:Nat}{fr:Fr}{s:St}{x:cz}{args:List cz}{first cap vs:List V}{r:V}(hf:BT fr x=some (.fn f first cap))(hv:D6 (BT fr) args=some vs)(hS:II P f=false)(hr:AK 9 r=true)(h:EQ P kn (AG P A kn n) f ((first++vs++cap).map weakV)=some r) :
  stepK P (BR P A kn n) (some d) (.call true none x args) ⟨c,fr,s⟩=ow3 d c fr s (some r):=by
 show PI (BR P A kn n) true (some d) x args ⟨c,fr,s⟩=_
 unfold PI
 show(match EO (BR P A kn n).co (some d) x args ⟨c,fr,s⟩ with|some st'=>some st'|none=>_)=_
 unfold EO
 simp only[hf,hv]
 have:(BR P A kn n).co f ((first++vs++cap).map weakV) d=some ⟨.dead,some r⟩:=by show IA P kn (fun _ _ _=>none) (AG P A kn n) f _ d=_;unfold IA;simp only[hS,h]
 rw[this]
 simp only[Mk.val,BV 9 r hr,lN]
theorem AIF:BM s .dead=.dead:=rfl
attribute [simp] AIF
end Go.Pg
theorem Go.Pg.qNz (m:Nat)(h:0<m):∃k,m=k+1:=⟨m-1,by omega⟩
