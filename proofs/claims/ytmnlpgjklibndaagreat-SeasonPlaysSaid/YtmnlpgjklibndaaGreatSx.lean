/- Operations of a region with all that hangs on the region alone worked out; running them one after another. No program in sight. -/
import Derived.Test.YtmnlpgjklibndaaGreatQ2
noncomputable section
open Go renaming TypeId->cx,Operand->cz,Program->cd,Oper->cg,Code->cm,FuncId->cp,IntKind->cr
open Bool renaming and_eq_true->bj
open List renaming length_nil->bq,length_append->bw,getElem?_eq_getElem->bc,mapM_cons->bg,all_cons->bn,replicate->br,mapM_nil->ck
open Nat renaming beq->bx,blt_eq->bz,blt->bf,eq_of_beq_eq_true->bh,le_trans->bp,beq_refl->bt,beq_eq->cj,ble->cq
namespace Go.Pg
variable {P:cd}{E:XE}
inductive IK where
 |mv (x:cz)
 |bin (op:BinOp) (T:cx) (x y:cz)
 |fa (T:cx) (x:cz) (f:Nat)
 |ld (T:cx) (x:cz)
 |ldz (T:cx) (x:cz)
 |pick (c a b:cz)
 |build (T:cx) (ps:List (Nat×cz))
 |buildS (T:cx) (n:Nat) (ps:List (Nat×cz))
 |oth (op:Op)
 |alloc (T:cx)
 |box (x:cz)
 |mkM (r:Option cz)
 |mkS (T:cx) (x y:cz)
 |sto (T:cx) (x y:cz)
 |upd (T:cx) (x i y:cz)
 |call (own:Bool) (tk:Option Tmp) (f:cz) (args:List cz)
 |callM (own:Bool) (t:Tmp) (f:cz) (args:List cz)
 |app (args:List cz) (Ts:List cx)
 |appS (args:List cz) (Ts:List cx)
 |clr (args:List cz) (Ts:List cx)
 |cpy (args:List cz) (Ts:List cx)
def iU (op : Op) : cg := { dst := none, op := op, type := 0, pos := "", after := #[], guard := none }
def JO(all:List cg)(o:cg):IK:=match o.op with
 |.move x=>.mv x
 |.assign x=>.mv x
 |.binOp op T x y _=>.bin op T x y
 |.fieldAddr T x f=>.fa T x f
 |.load T x=>.ld T x
 |.pick c a b=>.pick c a b
 |.build T ps=>.build T ps.toList
 |.buildSlice T n ps=>.buildS T n ps.toList
 |.alloc T=>.alloc T
 |.box _ x=>.box x
 |.makeMap _ r=>.mkM r
 |.makeSlice T x y=>.mkS T x y
 |.store T x y=>.sto T x y
 |.mapUpdate T x i y=>.upd T x i y
 |.call c=>match c.callee with
  |.value f=>match TC all c.args.toList with
   |some t=>.call (CH all o) (some t) f c.args.toList
   |none=>match XW all c.args.toList with
    |some t=>.callM (CH all o) t f c.args.toList
    |none=>.call (CH all o) none f c.args.toList
  |.builtin .append=>cond (sealD o.dst) (.appS c.args.toList c.argTypes.toList) (.app c.args.toList c.argTypes.toList)
  |.builtin .clear=>.clr c.args.toList c.argTypes.toList
  |.builtin .copy=>.cpy c.args.toList c.argTypes.toList
  |_=>.oth o.op
 |op=>.oth op
structure HS where
 g:Option (Tmp×Bool)
 d:Option Tmp
 k:IK
def comp(all:List cg)(o:cg):HS:=⟨JS all o,o.dst,JO all o⟩
def zU:IK->IK
 |.ld T x=>.ldz T x
 |k=>k
def ZF(all:List cg)(o:cg):HS:=⟨JS all o,o.dst,cond (zB all o) (zU (JO all o)) (JO all o)⟩
def C4(d:Option Tmp)(st:XS)(r:Option V):Option XS:=match r with
 |some v=>some ⟨st.c,putD st.fr d true v,st.s⟩
 |none=>none
def AGS(tk:Option Tmp)(st:XS):XS:=match tk with
 |none=>st
 | some t=>match(match EV st.fr t with
   |some (true,.vec l q γ n)=>match st.s.get l q with
    |some (γ',.vec _ es)=>Bool.rec none (some ⟨st.c,(t,true,.list false (es.take n))::st.fr,st.s.put l q γ .dead⟩) (bx γ' γ&&cq n es.length&&bf γ st.c)
    |_=>none
   | _=>none:Option XS)with
  |some st1=>st1
  |none=>st
def WP(P:cd)(args:List cz)(Ts:List cx)(fr:Fr):Option V:=match args,Ts with
 | [x,y],[T,U]=>cond (bx T U) (match BO fr x,BO fr y with
  |some xv,some yv=>L7 P T xv yv
  | _,_=>none) none
 |_,_=>none
theorem oX{o:cg}{args:Array cz}{Ts:Array cx}{fr:Fr}(h:sealD o.dst=true):appS P true o args Ts fr=WP P args.toList Ts.toList fr:=by
 unfold appS WP;split
 ·rename_i x y T U hx hT;simp only[hx,hT,h,true_and,<-C9];by_cases e:T=U
  ·subst e;rw[if_pos rfl,bt];cases BO fr x with
   |none=>rfl
   |some xv=>cases BO fr y<;>rfl
  ·rw[if_neg e];cases hb:bx T U with
   |true=>exact absurd (bh hb) e
   |false=>rfl
 ·rename_i hn;split
  ·rename_i x y T U hx hT;exact(hn x y T U hx hT).elim
  ·rfl
def stepK(P:cd)(E:XE)(d:Option Tmp)(k:IK)(st:XS):Option XS:=match k with
 |.mv x=>C4 d st (BO st.fr x)
 |.bin op T x y=>C4 d st (rT P st.fr op T x y)
 |.fa T x f=>C4 d st (xFA P st.fr T x f)
 |.ld T x=>C4 d st (MK P st.fr st.s T x)
 |.ldz T x=>C4 d st (MK P st.fr st.s T x)
 |.pick c a b=>C4 d st (nR st.fr c a b)
 |.build T ps=>C4 d st (RS P st.fr T ps)
 |.buildS T n ps=>C4 d st (NO P st.fr T n ps)
 |.oth op=>C4 d st (H1 P (iU op) st.s (BO st.fr))
 |.alloc T=>MP P d T st
 |.box x=>fK d x st
 |.mkM r=>sD d r st
 |.mkS T x y=>SU P d T x y st
 |.sto T x y=>HV P d T x y st
 |.upd T x i y=>sE P d T x i y st
 |.call own tk f args=>OJ E own d f args (AGS tk st)
 |.callM own t f args=>OJ E own d f args (MR t st)
 |.app args Ts=>xAppend P d args Ts st
 |.appS args Ts=>C4 d st (WP P args Ts st.fr)
 |.clr args Ts=>bD P d args Ts st
 |.cpy args Ts=>nT P d args Ts st
def opI(P:cd)(E:XE)(i:HS)(st:XS):Option XS:=match gdX st.fr i.g with
 |some true=>stepK P E i.d i.k st
 |some false=>some (CD i.d st)
 |none=>none
def opO(P:cd)(E:XE)(i:HS)(r:Option XS):Option XS:=match r with
 |some st=>opI P E i st
 |none=>none
def MW(P:cd)(E:XE):List HS->Option XS->Option XS
 |[],r=>r
 |i::l,r=>MW P E l (opO P E i r)
theorem WQ(all:List cg)(st:XS):∀(xs:List cz),(match ML all st xs with
  |some st1=>st1
  | none=>st)=AGS (TC all xs) st
 |[]=>rfl
 |x::r=>by
  unfold ML TC;cases x with
  |tmp t=>
   simp only
   cases ADC all t with
   |false=>exact WQ all st r
   |true=>rfl
  |_=>exact WQ all st r
theorem AWP{o:cg}{st:XS}:xN P (fun _=>false) o st=none:=by unfold xN;split<;>rfl
theorem zV(hl:E.lit=fun _=>false)(all:List cg)(o:cg)(st:XS):opX P E all o st=opI P E (comp all o) st:=by
  unfold opX opI;rw[hl];simp only[AWP];have:(match nU all o st with
      |some st1=>OK P E (CH all) o st1
      | none=>OK P E (CH all) o st)=stepK P E o.dst (JO all o) st:=by
    have ht:∀(r:Option XS),(match r with
      |some st1=>OK P E (CH all) o st1
      | none=>OK P E (CH all) o st)=OK P E (CH all) o (match r with
      |some st1=>st1
      | none=>st):=fun r=>by cases r <;> rfl
    rw[ht]
    obtain⟨d,op,T,pos,af,gd⟩:=o
    cases op with
    |call c=>
      obtain⟨cal,args,Ts⟩:=c
      cases cal with
      |value f=>
        have e1:=WQ all st args.toList
        show OK P E _ _ (match(match TC all args.toList with
          |some _=>ML all st args.toList
          |none=>match XW all args.toList with
            |some t=>some (MR t st)
            | none=>none:Option XS)with | some st1=>st1 | none=>st)=stepK P E d (match TC all args.toList with
          |some t=>.call (CH all _) (some t) f args.toList
          |none=>match XW all args.toList with
            |some t=>.callM (CH all _) t f args.toList
            | none=>.call (CH all _) none f args.toList) st
        cases ht:TC all args.toList with
        |some t=>
          rw[ht]at e1
          simp only
          rw[e1]
          rfl
        |none=>cases XW all args.toList<;>rfl
      |builtin b=>
        cases b<;>first
          |rfl
          | (show(Bool.rec (xAppend P d args.toList Ts.toList st) (xVal P _ st) (sealD d):Option XS)=stepK P E d (cond (sealD d) (.appS args.toList Ts.toList) (.app args.toList Ts.toList)) st
             cases hs:sealD d with
             |false=>rfl
             |true=>
               show xVal P _ st=C4 d st (WP P args.toList Ts.toList st.fr)
               unfold xVal rU
               simp only
               rw[oX hs]
               rfl)
      |_=>rfl
    |_=>rfl
  show _=(match gdX st.fr (JS all o)with
    |some true=>stepK P E o.dst (JO all o) st
    |some false=>some (CD o.dst st)
    | none=>none)
  cases gdX st.fr (JS all o)with
  |none=>rfl
  |some b=>
    cases b with
    |false=>rfl
    |true=>exact this
theorem HA:∀(l:List HS),MW P E l none=none
 |[]=>rfl
 |_::l=>HA l
theorem bX(hl:E.lit=fun _=>false)(all:List cg):∀(l:List cg) (st:XS),aV P E all l st=MW P E (l.map (comp all)) (some st)
 |[],st=>rfl
 |o::l,st=>by
  simp only[aV,List.map_cons,MW,opO];rw[zV hl];cases opI P E (comp all o) st with
  |none=>exact(HA _).symm
  |some st'=>exact bX hl all l st'
def FD(P:cd)(k:IK)(r:cz->Option V):AG:=match k with
 |.ld T x=>EJ (bx (P.cellsOf T) 1) (r x)
 |.app xs _=>G9 r xs
 |.appS xs _=>G9 r xs
 |.call _ _ f args=>cond (E5 f) (O7 r args) []
 |.callM _ _ f args=>cond (E5 f) (O7 r args) []
 |.oth op=>DE P (iU op) r
 |_=>[]
def B9(P:cd)(E:XE)(d:Option Tmp)(k:IK)(st:XS):Option (XS×AG):=match k with
 |.mv x=>noW (C4 d st (BO st.fr x))
 |.bin op T x y=>noW (C4 d st (rT P st.fr op T x y))
 |.fa T x f=>noW (C4 d st (xFA P st.fr T x f))
 |.ld T x=>noW (C4 d st (MK P st.fr st.s T x))
 |.ldz T x=>noW (C4 d st (MK P st.fr st.s T x))
 |.pick c a b=>noW (C4 d st (nR st.fr c a b))
 |.build T ps=>noW (C4 d st (RS P st.fr T ps))
 |.buildS T n ps=>noW (C4 d st (NO P st.fr T n ps))
 |.oth op=>noW (C4 d st (H1 P (iU op) st.s (BO st.fr)))
 |.alloc T=>noW (MP P d T st)
 |.box x=>noW (fK d x st)
 |.mkM r=>noW (sD d r st)
 |.mkS T x y=>noW (SU P d T x y st)
 |.sto T x y=>xQ P d T x y st
 |.upd ..=>none
 |.call own _ f args=>Bool.rec (noW (cond (E5 f) (MM E.c0 E.co d f args st) (EU E.c0 d f args st))) (noW (EA E.co d f args st)) own
 |.callM own _ f args=>Bool.rec (noW (cond (E5 f) (MM E.c0 E.co d f args st) (EU E.c0 d f args st))) (noW (EA E.co d f args st)) own
 |.app args Ts=>xAppD P d args Ts st
 |.appS args Ts=>noW (C4 d st (WP P args Ts st.fr))
 |.clr ..=>none
 |.cpy ..=>none
def gK:IK->Bool
 |.alloc _|.box _|.mkM _|.mkS ..|.sto ..|.app ..=>true
 |.call own ..=>own
 |.callM own ..=>own
 |_=>false
def R6(P:cd)(E:XE)(i:HS)(st:XS):Option (XS×AG):=match gdX st.fr i.g with
 |some true=>B9 P E i.d i.k st
 |some false=>Bool.rec (some (CD i.d st,[])) none (gK i.k)
 |none=>none
def gL(P:cd)(E:XE)(i:HS)(r:Option (XS×AG×AG)):Option (XS×AG×AG):=match r with
 |some (st,rd,wr)=>match R6 P E i st with
  |some (st',w)=>some (st',FD P i.k (BO st.fr)++rd,w++wr)
  |none=>none
 |none=>none
def R7(P:cd)(E:XE):List HS->Option (XS×AG×AG)->Option (XS×AG×AG)
 |[],r=>r
 |i::l,r=>R7 P E l (gL P E i r)
def WR(r:Option (XS×AG×AG)):Option XS:=match r with
 |some (st,rd,wr)=>Bool.rec none (some st) (wr.all fun p=>!(rd.contains p))
 |none=>none
structure gM where
 new:List Tmp
 ph:List HS
 sq:List HS
def bY(new:List Tmp)(st:XS):Bool:=new.all fun d=>(st.s.loc.get d).isNone
def zW(new:List Tmp)(r:Option XS):Option (XS×AG×AG):=match r with
 |some st=>Bool.rec none (some (st,[],[])) (bY new st)
 |none=>none
def R8(P:cd)(E:XE):List gM->Option XS->Option XS
 |[],r=>r
 |p::S,r=>R8 P E S (MW P E p.sq (WR (R7 P E p.ph (zW p.new r))))
def ZG(l:List cg)(R:List Nat):List HS:=R.filterMap fun i=>(l[i]?).map (comp l)
def ZH(l:List cg)(R:List Nat):List HS:=R.filterMap fun i=>(l[i]?).map (ZF l)
def oY(l:List cg)(R:List Nat):List Tmp:=R.filterMap fun i=>match l[i]? with
 |some o=>cond (kA (CH l) o) o.dst none
 |none=>none
def gN(l:List cg)(p:List Nat×List Nat):gM:=⟨oY l p.1,ZH l p.1,ZG l p.2⟩
def EW(l:List cg)(S:S9):Bool:=S.all fun p=>p.1.all (fun i=>bf i l.length)&&p.2.all (fun i=>bf i l.length)
theorem sY(all:List cg)(o:cg)(st:XS):aX P E (CH all) o st=B9 P E o.dst (JO all o) st:=by
  obtain⟨d,op,T,pos,af,gd⟩:=o;cases op with
  |call c=>
    obtain⟨cal,args,Ts⟩:=c
    cases cal with
    |builtin b=>
      cases b<;>first
        |rfl
        | (show(Bool.rec (xAppD P d args.toList Ts.toList st) (noW (xVal P _ st)) (sealD d):Option (XS×AG))=B9 P E d (cond (sealD d) (.appS args.toList Ts.toList) (.app args.toList Ts.toList)) st
           cases hs:sealD d with
           |false=>rfl
           |true=>
             show noW (xVal P _ st)=noW (C4 d st (WP P args.toList Ts.toList st.fr))
             unfold xVal rU
             simp only
             rw[oX hs]
             rfl)
    |value f=>
      unfold JO
      simp only
      cases TC all args.toList with
      |some t=>rfl
      |none=>cases XW all args.toList<;>rfl
    |_=>rfl
  |_=>rfl
theorem ALF(all:List cg)(o:cg)(r:cz->Option V):DE P o r=FD P (JO all o) r:=by
  obtain⟨d,op,T,pos,af,gd⟩:=o;cases op with
  |call c=>
    obtain⟨cal,args,Ts⟩:=c
    cases cal with
    |builtin b=>
      cases b<;>first
        |rfl
        | (show G9 r args.toList=FD P (cond (sealD d) (.appS args.toList Ts.toList) (.app args.toList Ts.toList)) r
           cases sealD d <;> rfl)
    |value f=>
      unfold JO
      simp only
      cases TC all args.toList with
      |some t=>rfl
      |none=>cases XW all args.toList<;>rfl
    |_=>rfl
  |_=>rfl
theorem AWQ(all:List cg)(o:cg):(kA (CH all) o||kW o||kP o)=gK (JO all o):=by
  obtain⟨d,op,T,pos,af,gd⟩:=o;cases op with
  |call c=>
    obtain⟨cal,args,Ts⟩:=c
    cases cal with
    |builtin b=>
      cases b<;>first
        |rfl
        | (show(false||false||!sealD d)=gK (cond (sealD d) (.appS args.toList Ts.toList) (.app args.toList Ts.toList))
           cases sealD d <;> rfl)
    |value f=>
      unfold JO
      simp only
      cases TC all args.toList with
      |some t=>simp[kA,kW,kP,gK]
      |none=>cases XW all args.toList<;>simp[kA,kW,kP,gK]
    |_=>rfl
  |_=>rfl
theorem AD7(all:List cg)(o:cg)(st:XS):kF P E all o st=R6 P E (comp all o) st:=by unfold kF R6;rw[sY,AWQ];rfl
theorem lX(d:Option Tmp)(k:IK)(st:XS):B9 P E d (zU k) st=B9 P E d k st:=by cases k<;>rfl
theorem AD8(k:IK):gK (zU k)=gK k:=by cases k<;>rfl
theorem ALG(all:List cg)(o:cg)(st:XS):R6 P E (ZF all o) st=R6 P E (comp all o) st:=by
 unfold ZF comp;cases zB all o with
 |false=>rfl
 |true=>
  show R6 P E ⟨JS all o,o.dst,zU (JO all o)⟩ st=_
  unfold R6
  simp only[lX,AD8]
theorem ALH(all:List cg)(o:cg)(r:cz->Option V):cond (zB all o) [] (DE P o r)=FD P (ZF all o).k r:=by
 unfold ZF;cases hz:zB all o with
 |false=>exact ALF all o r
 |true=>
  obtain⟨T,x,ho⟩:=AGD hz
  show[]=FD P (zU (JO all o)) r
  unfold JO
  rw[ho]
  rfl
theorem NR:∀(l:List HS),R7 P E l none=none
 |[]=>rfl
 |_::l=>NR l
theorem zX(l:List cg):∀(R:List Nat) (st:XS) (rd wr:AG),R.all (fun i=>bf i l.length)=true->phX P E l R st rd wr=R7 P E (ZH l R) (some (st,rd,wr))
 |[],st,rd,wr,_=>rfl
 |i::R,st,rd,wr,h=>by
  simp only[bn,bj,bz]at h;have hi:=bc h.1;have hp:ZH l (i::R)=ZF l l[i]::ZH l R:=by simp[ZH,hi]
  rw[hp];simp only[phX,hi,R7,gL,AD7,ALG];cases R6 P E (comp l l[i]) st with
  |none=>exact(NR _).symm
  |some q=>
   obtain⟨st',w⟩:=q
   simp only
   rw[zX l R _ _ _ h.2,ALH l]
theorem zY(hl:E.lit=fun _=>false)(l:List cg):∀(R:List Nat) (st:XS),R.all (fun i=>bf i l.length)=true->sqX P E l R st=MW P E (ZG l R) (some st)
 |[],st,_=>rfl
 |i::R,st,h=>by
  simp only[bn,bj,bz]at h;have hi:=bc h.1;have hp:ZG l (i::R)=comp l l[i]::ZG l R:=by simp[ZG,hi]
  rw[hp];simp only[sqX,hi,MW,opO,zV hl];cases opI P E (comp l l[i]) st with
  |none=>exact(HA _).symm
  |some st'=>exact zY hl l R st' h.2
theorem J5:∀(S:List gM),R8 P E S none=none
 |[]=>rfl
 |p::S=>by simp only[R8,zW,NR,WR,HA];exact J5 S
theorem gO(l:List cg)(st:XS):∀(R:List Nat),VU (CH l) l R st.s.loc=bY (oY l R) st
 |[]=>rfl
 |i::R=>by
  have ih:=gO l st R;unfold VU bY oY at *;simp only[bn,List.filterMap_cons,ih];cases hi:l[i]? with
  |none=>simp
  |some o=>
   simp only
   cases hk:kA (CH l) o with
   |false=>simp
   |true=>
    cases hd:o.dst with
    |none=>simp
    |some d=>simp
theorem bZ(hl:E.lit=fun _=>false)(l:List cg):∀(S:S9) (st:XS),EW l S=true->rZ P E l S st=R8 P E (S.map (gN l)) (some st)
 |[],st,_=>rfl
 |p::S,st,h=>by
  simp only[EW,bn,bj]at h;obtain⟨⟨h1,h2⟩,h3⟩:=h;simp only[rZ,List.map_cons,R8,gN,zW,gO];cases bY (oY l p.1) st with
  |false=>
   simp only[NR,WR,HA]
   exact(J5 _).symm
  |true=>
   simp only[zX l _ _ _ _ h1]
   cases R7 P E (ZH l p.1) (some (st,[],[]))with
   |none=>simp only[WR,HA];exact(J5 _).symm
   |some q=>
    obtain⟨st1,rd,wr⟩:=q
    simp only[WR]
    cases (wr.all fun p=>!rd.contains p)with
    |false=>simp only[HA];exact(J5 _).symm
    |true=>
     simp only[zY hl l _ _ h2]
     cases MW P E (ZG l p.2) (some st1)with
     |none=>exact(J5 _).symm
     |some F2=>exact bZ hl l S F2 h3
inductive IR where
 |str (l:List HS)
 |drw (S:List gM)
 |cls (ks:List (Nat×Nat×Nat))
def ZI(P:cd)(ops:List cg)(draw:Bool):IR:=cond draw (cond (OA P ops) (.cls (GK ops)) (.drw ((TF ops).map (gN ops)))) (.str (ops.map (comp ops)))
def okR(P:cd)(ops:List cg)(draw:Bool):Bool:=cond draw (cond (OA P ops) true (EW ops (TF ops))) true
def QR(P:cd)(E:XE)(i:IR)(st:XS):Option XS:=match i with
 |.str l=>MW P E l (some st)
 |.drw S=>R8 P E S (some st)
 |.cls ks=>OB P ks (some st)
end Go.Pg
namespace Go.Pg
variable {P:cd}{σ σ':Nat->Nat}{δ:Nat}{pre:List AB}{s:St}{fr:Fr}
abbrev Tr:=Option (List Nat×List Nat)
abbrev Ann:=Nat->Nat->Tr
def CS(a:Tr)(st:XS):XS:=match a with
 |some p=>O6 p.1 p.2 st
 |none=>st
theorem J6{a:Tr}{st:XS}(h:Bd st):HF st (CS a st):=by
 cases a with
 |none=>exact⟨Nat.le_refl _,h,rfl⟩
 |some p=>exact QI h
theorem HG{a:Tr}{st:XS}:(CS a st).c=st.c:=by cases a<;>rfl
theorem IY{n N:Nat}{ρ:Option Nat}{c:cm}{K:Exit->Fr->St->Prop}{a:Tr}{st:XS}(h:BA P n N ρ c K ((CS a st).fr.ren σ pre.length) ((CS a st).s.emb σ pre)):BA P n N ρ c K (st.fr.ren σ pre.length) (st.s.emb σ pre):=by
 cases a with
 |none=>exact h
 |some p=>exact RW h
def AWR(P:cd)(E:XE)(a:Tr)(l:List cg)(draw:Bool)(st:XS):Option XS:=Bool.rec (aV P E l l (CS a st)) (Bool.rec (MN P E l (CS a st)) (OB P (GK l) (some (CS a st))) (OA P l)) draw
def isY:List Nat->Bool
 |k::_=>bx k 777
 |[]=>false
def cA(P:cd)(E:XE)(N:Nat)(a:Tr)(l:List cg)(draw:Bool)(us:List Nat)(st:XS):Option XS:=Bool.rec (AWR P (cfU us E) a l draw st) (Bool.rec none (oS P E N l (CS a st)) draw) (isY us)
def BQ(rec:SR)(body:cm)(a:Tr)(n:Nat):XS->Option (Exit×XS):=Nat.rec (motive:=fun _=>XS->Option (Exit×XS)) (fun _=>none) (fun _ ih st=>match rec body st with
 |some (.normal,st')=>ih (CS a st')
 | r=>r) n
def PB(id:Nat)(l:List cg):Nat:=id+1000*l.length+1000000*(match l with
 |o::_=>match o.dst with
  |some d=>d
  |none=>0
 | []=>0)
def CO:cm->Nat
 |.region id ops _=>PB id ops.toList
 |.seq a _=>CO a
 |.block _ c=>CO c
 |.loop c=>CO c
 |.scope c=>CO c
 |_=>0
def QS:Tr->List Nat
 |some p=>p.1
 |none=>[]
def GV:Nat:=1000000000000000
def X1:Nat:=2000000000000000
def sZ(k:Nat)(st:XS):XS:=Bool.rec (Bool.rec (LW (k % 1000) (k / 1000 % 1000) st) (mvX ((k-1000) % 1000) ((k-1000) / 1000 % 1000) ((k-1000) / 1000000 % 1000) ((k-1000) / 1000000000 % 1000) ((k-1000) / 1000000000000) st) (bf k 1000000000000000)) (D7 k st) (bf k 1000)
def gpL(ks:List Nat)(st:XS):XS:=List.rec (motive:=fun _=>XS->XS) (fun st=>st) (fun k _ ih st=>ih (sZ k st)) ks st
def gpO(ks:List Nat):Option XS->Option XS
 |some st=>some (gpL ks st)
 |none=>none
@[simp] theorem AWS(ks:List Nat)(st:XS):gpO ks (some st)=some (gpL ks st):=rfl
@[simp] theorem A1L(st:XS):gpL [] st=st:=rfl
@[simp] theorem AWT(k:Nat)(ks:List Nat)(st:XS):gpL (k::ks) st=gpL ks (sZ k st):=rfl
theorem zZ{k:Nat}(h:k<1000)(st:XS):sZ k st=D7 k st:=by
 have h1:bf k 1000=true:=by simpa [bz]using h
 unfold sZ;rw[h1]
theorem AEA{k:Nat}(h:1000000000000000<=k)(st:XS):sZ k st=LW (k % 1000) (k / 1000 % 1000) st:=by
 have h1:bf k 1000=false:=by rw[<-Bool.not_eq_true,bz];omega
 have h2:bf k 1000000000000000=false:=by rw[<-Bool.not_eq_true,bz];omega
 unfold sZ;rw[h1,h2]
theorem ALI{k:Nat}{st:XS}(h:Bd st):(sZ k st).c=st.c/\HF st (sZ k st)/\∀(σ:Nat->Nat) (pre:List AB),EH (st.fr.ren σ pre.length) (st.s.emb σ pre) ((sZ k st).fr.ren σ pre.length) ((sZ k st).s.emb σ pre):=by
 unfold sZ;cases bf k 1000 with
 |true=>exact⟨rfl,J4 h,fun σ pre=>QM⟩
 |false=>cases bf k 1000000000000000 with
  |true=>exact⟨AGK,oJ h,fun σ pre=>yV⟩
  |false=>exact⟨yJ,WH h,fun σ pre=>bJ⟩
theorem AAA:∀(ks:List Nat) {st:XS},Bd st->(gpL ks st).c=st.c/\HF st (gpL ks st)/\∀(σ:Nat->Nat) (pre:List AB),EH (st.fr.ren σ pre.length) (st.s.emb σ pre) ((gpL ks st).fr.ren σ pre.length) ((gpL ks st).s.emb σ pre)
 |[],st,h=>⟨rfl,⟨Nat.le_refl _,h,rfl⟩,fun _ _ _ _ _ G _ _ hR=>⟨G,hR⟩⟩
 |k::ks,st,h=>by obtain⟨h1,h2,h3⟩:=ALI (k:=k) h;obtain⟨q1,q2,q3⟩:=AAA ks h2.bd;exact⟨q1.trans h1,⟨bp h2.c q2.c,q2.bd,q2.n.trans h2.n⟩,fun σ pre=>(h3 σ pre).trans (q3 σ pre)⟩
theorem tA{n N:Nat}{ρ:Option Nat}{c:cm}{K:Exit->Fr->St->Prop}{fr:Fr}{s:St}(h:BA P n N ρ c (fun e fr s=>∃fr2 s2,EH fr s fr2 s2/\K e fr2 s2) fr s):BA P n N ρ c K fr s:=fun G0 G a w hR=>wpIn_mono (h G0 G a w hR) fun e a' w' hq=>by obtain⟨G',fr',s',hR',fr2,s2,hg,hk⟩:=hq;obtain⟨G2,hR2⟩:=hg _ _ _ _ _ _ hR';exact⟨G2,fr2,s2,hR2,hk⟩
theorem AEB:∀o:Option XS,gpO [] o=o
 |some _=>rfl
 |none=>rfl
def gP:Tr->List Nat
 |some p=>p.2
 |none=>[]
def R9(P:cd)(E:XE)(A:Ann)(n N:Nat)(rec:SR):SR:=fun code st=>match code with
 |.region id ops draw=>TD (gpO (QS (A N (PB id ops.toList+X1))) (cA P E N (A N (PB id ops.toList)) ops.toList draw (gP (A N (PB id ops.toList+GV))) (bP (QS (A N (PB id ops.toList+GV))) st)))
 |.loop body=>BQ rec body (A N (CO body)) n (CS (A N (CO body)) st)
 |c=>V4 P E n N rec c st
def AF(P:cd)(A:Ann)(kn:CF0)(n:Nat):FN:=Nat.rec (motive:=fun _=>FN) (fun _ _ _=>none) (fun n ih N=>R9 P (AVI P kn (fun _ _ _=>none) (fun _=>false) ih) A n N (ih N)) n
theorem AEC(hP:DK P){E:XE}(hEE:IJ P E){a:Tr}{id:Nat}{ops:Array cg}{draw:Bool}{N:Nat}(hN:D4 N (.region id ops draw)=true){st st':XS}(hx:AWR P E a ops.toList draw st=some st')(hbd:Bd st):HF st st' /\
  ∀(n:Nat) (ρ:Option Nat) (σ:Nat->Nat) (pre:List AB) (K:Exit->Fr->St->Prop),(∀σ',AO st.c σ σ'->K .normal (st'.fr.ren σ' pre.length) (st'.s.emb σ' pre))->BA P n N ρ (.region id ops draw) K (st.fr.ren σ pre.length) (st.s.emb σ pre):=by
 obtain⟨l⟩:=ops
 have hT:=J6 (a:=a) hbd
 have ext:∀{st'},HF (CS a st) st'->HF st st':=fun h=>⟨by have:=h.c;rwa [HG]at this,h.bd,h.n.trans hT.n⟩
 cases draw with
 |false=>
  simp only[D4,cond_false,bj]at hN
  have hx:aV P E l l (CS a st)=some st':=hx
  obtain⟨hE,hs⟩:=aW hEE hT.bd hx
  refine⟨ext hE,fun n ρ σ pre K hk=>IY (a:=a) ?_⟩
  exact SM (l.map (JS l)) hN.1 (bB (QJ hN.2)) (hs σ pre _ fun σ' ha=>hk σ' (by rwa [HG]at ha))
 |true=>
  simp only[D4,cond_true]at hN
  cases hc:OA P l with
  |true=>
   have hx:(Bool.rec (MN P E l (CS a st)) (OB P (GK l) (some (CS a st))) (OA P l):Option XS)=some st':=hx
   rw[hc]at hx
   obtain⟨hE,hs⟩:=AD1 (id:=id) hP hN hc hx hT.bd
   exact⟨ext hE,fun n ρ σ pre K hk=>IY (a:=a) (hs n ρ σ pre K fun σ' ha=>hk σ' (by rwa [HG]at ha))⟩
  |false=>
  have hx:(Bool.rec (MN P E l (CS a st)) (OB P (GK l) (some (CS a st))) (OA P l):Option XS)=some st':=hx
  rw[hc]at hx
  obtain⟨hE,hs⟩:=WO (id:=id) hP hEE hN hx hT.bd
  exact⟨ext hE,fun n ρ σ pre K hk=>IY (a:=a) (hs n ρ σ pre K fun σ' ha=>hk σ' (by rwa [HG]at ha))⟩
theorem AED(hP:DK P){E:XE}(hEE:IJ P E){a:Tr}{us:List Nat}{id:Nat}{ops:Array cg}{draw:Bool}{N:Nat}(hN:D4 N (.region id ops draw)=true){st st':XS}(hx:cA P E N a ops.toList draw us st=some st')(hbd:Bd st):HF st st' /\
  ∀(n:Nat) (ρ:Option Nat) (σ:Nat->Nat) (pre:List AB) (K:Exit->Fr->St->Prop),(∀σ',AO st.c σ σ'->K .normal (st'.fr.ren σ' pre.length) (st'.s.emb σ' pre))->BA P n N ρ (.region id ops draw) K (st.fr.ren σ pre.length) (st.s.emb σ pre):=by
 unfold cA at hx
 cases hy:isY us with
 |false=>rw[hy]at hx;exact AEC hP (AKD hEE _) hN hx hbd
 |true=>
  rw[hy]at hx
  cases draw with
  |false=>cases hx
  |true=>
   have hx:oS P E N ops.toList (CS a st)=some st':=hx
   have hT:=J6 (a:=a) hbd
   obtain⟨hE,hs⟩:=zH hP hEE (id:=id) hx hT.bd
   refine⟨⟨by have:=hE.c;rwa [HG]at this,hE.bd,hE.n.trans hT.n⟩,fun n ρ σ pre K hk=>IY (a:=a) ?_⟩
   exact hs n ρ σ pre K fun σ' ha=>hk σ' (by rwa [HG]at ha)
theorem AAB{N:Nat}{rec:SR}(hrec:V8 P N rec){body:cm}{a:Tr}(hN:D4 N body=true)(m:Nat){st st':XS}{e:Exit}(hx:BQ rec body a m (CS a st)=some (e,st'))(hbd:Bd st):HF st st'/\(∀l,e≠.goto l) /\
  ∀(n:Nat) (ρ:Option Nat) (σ:Nat->Nat) (pre:List AB) (K:Exit->Fr->St->Prop),(ρ=none\/FB body=true)->(∀σ',AO st.c σ σ'->K e (st'.fr.ren σ' pre.length) (st'.s.emb σ' pre))->BA P n N ρ (.loop body) K (st.fr.ren σ pre.length) (st.s.emb σ pre):=by
 have up:∀{st st':XS},Bd st->HF (CS a st) st'->HF st st':=fun hbd h=>⟨by have:=h.c;rwa [HG]at this,h.bd,h.n.trans (J6 hbd).n⟩
 have ext:∀(m:Nat) {st:XS},BQ rec body a m (CS a st)=some (e,st')->Bd st->HF st st'/\(∀l,e≠.goto l):=by
  intro m;induction m with
  |zero=>intro st hx _;cases hx
  |succ m ih=>
   intro st hx hbd
   have hx:(match rec body (CS a st)with
    |some (.normal,st')=>BQ rec body a m (CS a st')
    | r=>r)=some (e,st'):=hx
   have hT:=J6 (a:=a) hbd
   split at hx
   ·rename_i st1 h1;obtain⟨hE,_,_⟩:=hrec _ _ _ _ h1 hT.bd hN;obtain⟨hE',hg⟩:=ih hx hE.bd;exact⟨up hbd ⟨bp hE.c hE'.c,hE'.bd,hE'.n.trans hE.n⟩,hg⟩
   ·obtain⟨hE,hg,_⟩:=hrec _ _ _ _ hx hT.bd hN;exact⟨up hbd ⟨hE.c,hE.bd,hE.n⟩,hg⟩
 obtain⟨hE,hg⟩:=ext m hx hbd
 refine⟨hE,hg,fun n ρ σ pre K hρ hk=>?_⟩
 refine YQ (fun m fr s=>∃(st:XS) (σ:Nat->Nat),fr=st.fr.ren σ pre.length/\s=st.s.emb σ pre/\Bd st/\BQ rec body a m (CS a st)=some (e,st')/\∀σ',AO st.c σ σ'->K e (st'.fr.ren σ' pre.length) (st'.s.emb σ' pre)) m ⟨st,σ,rfl,rfl,hbd,hx,hk⟩ ?_
 rintro m fr s ⟨st,σ,rfl,rfl,hbd,hx,hk⟩
 cases m with
 |zero=>cases hx
 |succ m=>
  have hx:(match rec body (CS a st)with
   |some (.normal,st')=>BQ rec body a m (CS a st')
   | r=>r)=some (e,st'):=hx
  have hT:=J6 (a:=a) hbd
  refine IY (a:=a) ?_
  split at hx
  ·rename_i st1 h1;obtain⟨hE,_,hC⟩:=hrec _ _ _ _ h1 hT.bd hN;refine hC n ρ σ pre _ hρ fun σ' ha=>?_;rw[HG]at ha;exact⟨m,Nat.lt_succ_self _,st1,σ',rfl,rfl,hE.bd,hx,fun σ'' ha'=>hk σ'' (ha.trans ha' (by have:=hE.c;rwa [HG]at this))⟩
  ·rename_i hne;obtain⟨hE,hg,hC⟩:=hrec _ _ _ _ hx hT.bd hN;refine hC n ρ σ pre _ hρ fun σ' ha=>?_;rw[HG]at ha;have:=hk σ' ha;cases e with
   |normal=>exact absurd hx (hne st')
   |_=>exact this
theorem cB(hP:DK P){E:XE}(hEE:IJ P E){A:Ann}{N:Nat}{rec:SR}(hrec:V8 P N rec)(m:Nat):V8 P N (R9 P E A m N rec):=by
 intro code st e st' hx hbd hN;unfold R9 at hx;split at hx
 ·rename_i id ops draw;obtain⟨rfl,hx2⟩:=gE hx;have hT:=oN (QS (A N (PB id ops.toList+GV))) hbd;generalize QS (A N (PB id ops.toList+X1))=kp at hx2;cases hx3:cA P E N (A N (PB id ops.toList)) ops.toList draw (gP (A N (PB id ops.toList+GV))) (bP (QS (A N (PB id ops.toList+GV))) st)with
  |none=>rw[hx3]at hx2;cases hx2
  |some st1=>
   rw[hx3]at hx2
   cases hx2
   obtain⟨hE,hs⟩:=AED hP hEE hN hx3 hT.bd
   obtain⟨hc2,hT2,hg2⟩:=AAA kp hE.bd
   exact⟨⟨bp hT.c (bp hE.c hT2.c),hT2.bd,hT2.n.trans (hE.n.trans hT.n)⟩,(by intro l h;cases h),fun n ρ σ pre K _ hk=>fY _ (tA (hs n ρ σ pre _ fun σ' ha=>⟨_,_,hg2 σ' pre,hk σ' (by rwa [AGL]at ha)⟩))⟩
 ·rename_i body;have hN:D4 N body=true:=hN;obtain⟨h1,h2,h3⟩:=AAB hrec hN m hx hbd;exact⟨h1,h2,fun n ρ σ pre K hρ hk=>h3 n ρ σ pre K hρ hk⟩
 ·exact gF hP hEE hrec m _ _ _ _ hx hbd hN
theorem J7(hP:DK P){A:Ann}{kn:CF0}(hkn:DZ P kn):∀n,TE P (AF P A kn n)
 |0=>fun N code st e st' hx=>by cases hx
 |n+1=>fun N=>by have ih:=J7 hP (A:=A) hkn n;exact cB hP ⟨fJ hP hkn ih,AD4 hP ih,WB hP hkn ih,xW hP hkn (ko:=fun _ _ _=>none) (fun _ _ _ _ h=>by cases h) ih⟩ (ih N) n
theorem AAC(hP:DK P){A:Ann}{kn:CF0}(hkn:DZ P kn){n:Nat}{f:cp}{args:List V}{r:V}(h:DW P (AF P A kn n) f args=some r)(s:St):DG P f args s fun r' s'=>r'=r/\s'=s :=
 (J3 hP (J7 hP hkn n) f args r h).1 s
section
variable {A:Ann}{kn:CF0}{n N:Nat}{st:XS}
abbrev BU(P:cd)(A:Ann)(kn:CF0)(n:Nat):XE:=AVI P kn (fun _ _ _=>none) (fun _=>false) (AF P A kn n)
theorem AAD(a b:cm):AF P A kn (n+1) N (.seq a b) st=aY (AF P A kn n N) b (AF P A kn n N a st):=rfl
theorem tB(c:cz)(a b:cm):AF P A kn (n+1) N (.cond c a b) st=fG (AF P A kn n N) a b st (BO st.fr c):=rfl
theorem lY(id:Nat)(b:cm):AF P A kn (n+1) N (.block id b) st=K4 id (AF P A kn n N b st):=rfl
theorem tC(b:cm):AF P A kn (n+1) N (.loop b) st=BQ (AF P A kn n N) b (A N (CO b)) n (CS (A N (CO b)) st):=rfl
theorem tD:AF P A kn (n+1) N .skip st=some (.normal,st):=rfl
theorem tE(id:Nat):AF P A kn (n+1) N (.exit id) st=some (.exit id,st):=rfl
theorem AAE:AF P A kn (n+1) N .ret st=some (.ret,st):=rfl
theorem lZ(b:cm):AF P A kn (n+1) N (.scope b) st=AF P A kn n N b st:=rfl
theorem mA(g:cz)(ps:Array Tmp)(asg body:cm):AF P A kn (n+1) N (.rangeFunc g ps asg body) st=RY (BU P A kn n).cf N g ps.toList asg body st:=rfl
theorem AAF(a b:cm):CO (.seq a b)=CO a:=rfl
theorem mB(id:Nat)(b:cm):CO (.block id b)=CO b:=rfl
theorem tF(b:cm):CO (.loop b)=CO b:=rfl
theorem AE(rec:SR)(body:cm)(a:Tr):BQ rec body a (n+1) st=match rec body st with
 |some (.normal,st')=>BQ rec body a n (CS a st')
 |r=>r:=rfl
theorem gQ(rec:SR)(b:cm):aY rec b (some (.normal,st))=rec b st:=rfl
theorem AAG(rec:SR)(b:cm):aY rec b (some (.ret,st))=some (.ret,st):=rfl
theorem tG(rec:SR)(b:cm)(i:Nat):aY rec b (some (.exit i,st))=some (.exit i,st):=rfl
theorem AAH(rec:SR)(b:cm)(c:Prop)[Decidable c](x y:Option (Exit×XS)):aY rec b (if c then x else y)=if c then aY rec b x else aY rec b y:=by split<;>rfl
theorem X2(id:Nat):K4 id (some (.normal,st))=some (.normal,st):=rfl
theorem mC(id:Nat):K4 id (some (.ret,st))=some (.ret,st):=rfl
theorem gR(id i:Nat):K4 id (some (.exit i,st))=if i=id then some (.normal,st) else some (.exit i,st):=by
 show(Bool.rec _ _ (bx i id):Option (Exit×XS))=_;by_cases h:i=id
 ·subst h;simp
 ·have:bx i id=false:=by
   cases hb:bx i id with
   |false=>rfl
   |true=>exact absurd (bh hb) h
  simp[h,this]
theorem mD(id:Nat)(c:Prop)[Decidable c](x y:Option (Exit×XS)):K4 id (if c then x else y)=if c then K4 id x else K4 id y:=by split<;>rfl
def ZJ:cm->Bool
 |.region ..=>true
 |_=>false
def LP:cm->List cg
 |.region _ ops _=>ops.toList
 |_=>[]
def HW:cm->Bool
 |.region _ _ d=>d
 |_=>false
theorem UF(us:List Nat){E:XE}(h:E.lit=fun _=>false):(cfU us E).lit=fun _=>false:=by cases us<;>exact h
theorem tH{r:cm}(hr:ZJ r=true){i:IR}(hi:ZI P (LP r) (HW r)=i)(hok:okR P (LP r) (HW r)=true){a:Tr}(ha:A N (CO r)=a){ks us:List Nat}(ht:QS (A N (CO r+GV))=ks)(hu:gP (A N (CO r+GV))=us)(hy:isY us=false:=by rfl)(hp:A N (CO r+X1)=none:=by kernel_rfl):AF P A kn (n+1) N r st=TD (QR P (cfU us (BU P A kn n)) i (CS a (bP ks st))):=by
 cases r with
 |region id ops draw=>
  subst hi ha ht hu
  show TD (gpO (QS (A N (CO (.region id ops draw)+X1))) (cA P _ N (A N (PB id ops.toList)) ops.toList draw (gP (A N (PB id ops.toList+GV))) (bP (QS (A N (PB id ops.toList+GV))) st)))=_
  rw[hp,show QS none=[] from rfl,AEB]
  unfold cA
  rw[show isY (gP (A N (PB id ops.toList+GV)))=false from hy]
  cases draw with
  |false=>exact congrArg TD (bX (UF _ rfl) _ _ _)
  |true=>
   show TD (Bool.rec (MN P _ ops.toList _) (OB P (GK ops.toList) (some _)) (OA P ops.toList))=TD (QR P _ (cond (OA P ops.toList) (.cls (GK ops.toList)) (.drw ((TF ops.toList).map (gN ops.toList)))) _)
   have hok:cond (OA P ops.toList) true (EW ops.toList (TF ops.toList))=true:=hok
   cases hc:OA P ops.toList with
   |true=>rfl
   |false=>
    rw[hc]at hok
    exact congrArg TD (bZ (UF _ rfl) _ _ _ hok)
 |_=>cases hr
theorem ZK{r:cm}(hr:ZJ r=true){i:IR}(hi:ZI P (LP r) (HW r)=i)(hok:okR P (LP r) (HW r)=true){a:Tr}(ha:A N (CO r)=a){ks:List Nat}(ht:QS (A N (CO r+GV))=ks)(hu:gP (A N (CO r+GV))=[]:=by kernel_rfl)(hp:A N (CO r+X1)=none:=by kernel_rfl):AF P A kn (n+1) N r st=TD (QR P (BU P A kn n) i (CS a (bP ks st))):=tH hr hi hok ha ht hu rfl hp
theorem gS{r:cm}(hr:ZJ r=true){i:IR}(hi:ZI P (LP r) (HW r)=i)(hok:okR P (LP r) (HW r)=true){a:Tr}(ha:A N (CO r)=a)(ht:A N (CO r+GV)=none:=by kernel_rfl)(hp:A N (CO r+X1)=none:=by kernel_rfl):AF P A kn (n+1) N r st=TD (QR P (BU P A kn n) i (CS a st)):=ZK hr hi hok ha (congrArg QS ht) (congrArg gP ht) hp
theorem tI{r:cm}(hr:ZJ r=true){i:IR}(hi:ZI P (LP r) (HW r)=i)(hok:okR P (LP r) (HW r)=true){a:Tr}(ha:A N (CO r)=a){ks:List Nat}(ht:A N (CO r+GV)=none)(hp:QS (A N (CO r+X1))=ks):AF P A kn (n+1) N r st=TD (gpO ks (QR P (BU P A kn n) i (CS a st))):=by
 cases r with
 |region id ops draw=>
  subst hi ha hp
  show TD (gpO (QS (A N (CO (.region id ops draw)+X1))) (cA P _ N (A N (PB id ops.toList)) ops.toList draw (gP (A N (CO (.region id ops draw)+GV))) (bP (QS (A N (CO (.region id ops draw)+GV))) st)))=_
  rw[ht]
  refine congrArg (fun o=>TD (gpO _ o)) ?_
  show cA P _ N _ ops.toList draw [] _=_
  unfold cA
  cases draw with
  |false=>exact bX (UF _ rfl) _ _ _
  |true=>
   show Bool.rec (MN P _ ops.toList _) (OB P (GK ops.toList) (some _)) (OA P ops.toList)=QR P _ (cond (OA P ops.toList) (.cls (GK ops.toList)) (.drw ((TF ops.toList).map (gN ops.toList)))) _
   have hok:cond (OA P ops.toList) true (EW ops.toList (TF ops.toList))=true:=hok
   cases hc:OA P ops.toList with
   |true=>rfl
   |false=>
    rw[hc]at hok
    exact bZ (UF _ rfl) _ _ _ hok
 |_=>cases hr
def TH(P:cd)(rs:List ResultVar)(r:Option (Exit×XS)):Option V:=match r with
 |some (.ret,st)=>finV st.s (E8 P rs st.fr st.s)
 |some (.normal,st)=>finV st.s (E8 P rs st.fr st.s)
 |_=>none
where finV (s:St) (r:Option V):Option V:=match r with
 |some v=>match AV s 4 v with
  |some r'=>Bool.rec none (some r') (AL 9 r')
  |none=>none
 |none=>none
theorem AQ{f:cp}{fn:Func}{c:cm}{args:List V}{rec:FN}(hf:P.funcs[f]? = some fn)(hb:fn.body=some c)(hs:cq args.length fn.ntmps=true)(hcl:args.all (AL 9)=true) :
  DW P rec f args=TH P fn.results.toList (rec fn.ntmps c ⟨0,AJ 0 args,⟨[],[]⟩⟩):=by
 unfold DW Y0 V5 nV
 rw[hcl,hf]
 simp only[hb,hs]
 generalize rec fn.ntmps c ⟨0,AJ 0 args,⟨[],[]⟩⟩=q
 have aux:∀st:XS,(match(match E8 P fn.results.toList st.fr st.s with
   |some r=>match AV st.s 4 r with
    |some r'=>some (r',st.c,st.s.up.map (A6 st.s))
    |none=>none
   | none=>none:Option (V×Nat×List AB))with
  |some (r,_,_)=>(Bool.rec none (some r) (AL 9 r):Option V)
  | none=>none)=TH.finV st.s (E8 P fn.results.toList st.fr st.s):=fun st=>by
  unfold TH.finV
  cases E8 P fn.results.toList st.fr st.s with
  |none=>rfl
  |some r=>
   cases h:AV st.s 4 r with
   |none=>simp[h]
   |some r'=>simp[h]
 cases q with
 |none=>rfl
 |some q=>
  obtain⟨e,st⟩:=q
  cases e with
  |ret=>exact aux st
  |normal=>exact aux st
  |_=>rfl
theorem AAI(rs:List ResultVar)(c:Prop)[Decidable c](x y:Option (Exit×XS)):TH P rs (if c then x else y)=if c then TH P rs x else TH P rs y:=by split<;>rfl
end
def JT:cm->List Nat->cm
 |c,[]=>c
 |.seq a b,i::p=>bif bx i 0 then JT a p else JT b p
 |.cond _ a b,i::p=>bif bx i 0 then JT a p else JT b p
 |.block _ a,_::p=>JT a p
 |.loop a,_::p=>JT a p
 |.scope a,_::p=>JT a p
 |.rangeFunc _ _ a b,i::p=>bif bx i 0 then JT a p else JT b p
 |c,_=>c
def ALJ(fn:Func):cm:=match fn.body with
 |some c=>c
 |none=>.skip
end Go.Pg
namespace Go.Pg
variable {P:cd}{E:XE}{st:XS}{fr:Fr}{s:St}
@[simp] theorem AWU(r:Option XS):MW P E [] r=r:=rfl
@[simp] theorem APU(i:HS)(l:List HS)(r:Option XS):MW P E (i::l) r=MW P E l (opO P E i r):=rfl
@[simp] theorem AWV(i:HS):opO P E i (some st)=opI P E i st:=rfl
@[simp] theorem AWW(i:HS):opO P E i none=none:=rfl
@[simp] theorem A1M(i:HS)(c:Prop)[Decidable c](x y:Option XS):opO P E i (if c then x else y)=if c then opO P E i x else opO P E i y:=by split<;>rfl
@[simp] theorem AWX(l:List HS)(c:Prop)[Decidable c](x y:Option XS):MW P E l (if c then x else y)=if c then MW P E l x else MW P E l y:=by split<;>rfl
def gI(P:cd)(E:XE)(d:Option Tmp)(k:IK)(st:XS)(w:Bool)(r:Option (Bool×V)):Option XS:=match r with
 |some (c,.bool b)=>Bool.rec (some (CD d st)) (stepK P E d k st) (c&&(b==w))
 |_=>none
@[simp] theorem AWY(d:Option Tmp)(k:IK):opI P E ⟨none,d,k⟩ st=stepK P E d k st:=rfl
@[simp] theorem APV(t:Tmp)(w:Bool)(d:Option Tmp)(k:IK):opI P E ⟨some (t,w),d,k⟩ st=gI P E d k st w (EV st.fr t):=by
 show(match(match EV st.fr t with | some (c,.bool b)=>some (c&&(b == w)) | _=>none:Option Bool)with
  |some true=>stepK P E d k st
  |some false=>some (CD d st)
  | none=>none)=_
 unfold gI;cases EV st.fr t with
 |none=>rfl
 |some p=>
  obtain⟨c,v⟩:=p
  cases v with
  |bool b=>cases h:(c&&(b==w))<;>simp[h]
  |_=>rfl
@[simp] theorem A9L(d:Option Tmp)(k:IK):gI P E d k st true (some (true,.bool true))=stepK P E d k st:=rfl
@[simp] theorem A9M(d:Option Tmp)(k:IK):gI P E d k st true (some (true,.bool false))=some (CD d st):=rfl
@[simp] theorem A9N(d:Option Tmp)(k:IK):gI P E d k st false (some (true,.bool true))=some (CD d st):=rfl
@[simp] theorem A9O(d:Option Tmp)(k:IK):gI P E d k st false (some (true,.bool false))=stepK P E d k st:=rfl
@[simp] theorem A9P(d:Option Tmp)(k:IK)(w b:Bool):gI P E d k st w (some (false,.bool b))=some (CD d st):=rfl
@[simp] theorem AWZ(d:Tmp)(c:Nat)(fr:Fr)(s:St):CD (some d) ⟨c,fr,s⟩=⟨c,(d,false,.bool false)::fr,s⟩:=rfl
@[simp] theorem AW0(c:Nat)(fr:Fr)(s:St):CD none ⟨c,fr,s⟩=⟨c,fr,s⟩:=rfl
@[simp] theorem AW1(k:Nat):EV [] k=none:=rfl
@[simp] theorem APW(j:Nat)(x:Bool×V)(fr:Fr)(k:Nat):EV ((j,x)::fr) k=if k=j then some x else EV fr k:=by rw[FI,FI];rfl
@[simp] theorem ALK(j:Nat)(x:Nat×AY)(L:AB)(k:Nat):AB.get ((j,x)::L) k=if k=j then some x else L.get k:=rfl
def rdT:Option (Bool×V)->Option V
 |some (true,v)=>some v
 |_=>none
@[simp] theorem AAJ(v:V):rdT (some (true,v))=some v:=rfl
@[simp] theorem APY(v:V):rdT (some (false,v))=none:=rfl
@[simp] theorem AW2:rdT none=none:=rfl
@[simp] theorem A1N(t:Tmp):BO fr (.tmp t)=rdT (EV fr t):=by
 show(match EV fr t with
  |some (true,v)=>some v
  | _=>none)=_
 cases EV fr t with
 |none=>rfl
 |some p=>obtain⟨c,v⟩:=p;cases c<;>rfl
@[simp] theorem APZ(v:Value):BO fr (.const v)=B4 v:=rfl
@[simp] theorem AW3(f:cp):BO fr (.func f)=some (.fn f [] []):=rfl
@[simp] theorem A1O(t:Tmp):rdC fr (.tmp t)=EV fr t:=rfl
@[simp] theorem AW4(b:Bool):rdC fr (.const (.bool b))=some (true,.bool b):=rfl
@[simp] theorem ALL(k:cr)(n:Int):B4 (.int k n)=some (.int k n):=rfl
@[simp] theorem AGV(b:Bool):B4 (.bool b)=some (.bool b):=rfl
@[simp] theorem ALM:B4 (.slice none 0 0)=some .nil:=rfl
@[simp] theorem AP0(d:Tmp)(c:Nat)(fr:Fr)(s:St)(v:V):C4 (some d) ⟨c,fr,s⟩ (some v)=some ⟨c,(d,true,v)::fr,s⟩:=rfl
@[simp] theorem A1P(c:Nat)(fr:Fr)(s:St)(v:V):C4 none ⟨c,fr,s⟩ (some v)=some ⟨c,fr,s⟩:=rfl
@[simp] theorem AP1(d:Option Tmp):C4 d st none=none:=rfl
@[simp] theorem AW5(d:Option Tmp)(c:Prop)[Decidable c](x y:Option V):C4 d st (if c then x else y)=if c then C4 d st x else C4 d st y:=by split<;>rfl
section
variable (d:Option Tmp)(c:Nat)
@[simp] theorem AW6(x:cz):stepK P E d (.mv x) ⟨c,fr,s⟩=C4 d ⟨c,fr,s⟩ (BO fr x):=rfl
def ALN(P:cd)(op:BinOp)(T:cx):Option V->Option V->Option V
 |some a,some b=>FQ P op T a b
 |_,_=>none
@[simp] theorem AP2(op:BinOp)(T:cx)(a b:V):ALN P op T (some a) (some b)=FQ P op T a b:=rfl
@[simp] theorem AP3(op:BinOp)(T:cx)(x y:cz):stepK P E d (.bin op T x y) ⟨c,fr,s⟩=C4 d ⟨c,fr,s⟩ (ALN P op T (BO fr x) (BO fr y)):=by show C4 d _ (rT P fr op T x y)=_;unfold rT ALN;cases BO fr x<;>cases BO fr y<;>rfl
def fa1(P:cd)(T:cx)(f:Nat):Option V->Option V
 |some p=>CQ P T p f
 |none=>none
@[simp] theorem AW7(T:cx)(f:Nat)(p:V):fa1 P T f (some p)=CQ P T p f:=rfl
@[simp] theorem AW8(T:cx)(x:cz)(f:Nat):stepK P E d (.fa T x f) ⟨c,fr,s⟩=C4 d ⟨c,fr,s⟩ (fa1 P T f (BO fr x)):=by show C4 d _ (xFA P fr T x f)=_;unfold xFA fa1;cases BO fr x<;>rfl
def wh1(P:cd)(T:cx):Option (List V)->Option V
 |some cs=>BJ P T cs
 |none=>none
@[simp] theorem AW9(T:cx)(cs:List V):wh1 P T (some cs)=BJ P T cs:=rfl
def ld1(P:cd)(s:St)(T:cx):Option V->Option V
 |some p=>wh1 P T (A8 s p)
 |none=>none
@[simp] theorem AAK(T:cx)(p:V):ld1 P s T (some p)=wh1 P T (A8 s p):=rfl
@[simp] theorem AXA(T:cx)(x:cz):stepK P E d (.ld T x) ⟨c,fr,s⟩=C4 d ⟨c,fr,s⟩ (ld1 P s T (BO fr x)):=by
 show C4 d _ (MK P fr s T x)=_;unfold MK ld1;cases BO fr x with
 |none=>rfl
 |some p=>unfold wh1;cases A8 s p<;>rfl
def pk3:Option V->Option (Bool×V)->Option (Bool×V)->Option V
 |some (.bool c),some (ca,.bool a),some (cb,.bool b)=>Bool.rec (Bool.rec none (some (.bool b)) cb) (Bool.rec none (some (.bool a)) ca) c
 |_,_,_=>none
@[simp] theorem AXB(a cb b:Bool):pk3 (some (.bool true)) (some (true,.bool a)) (some (cb,.bool b))=some (.bool a):=rfl
@[simp] theorem AP4(ca a b:Bool):pk3 (some (.bool false)) (some (ca,.bool a)) (some (true,.bool b))=some (.bool b):=rfl
@[simp] theorem AXC(c a b:Bool):pk3 (some (.bool c)) (some (true,.bool a)) (some (true,.bool b))=some (.bool (if c then a else b)):=by cases c<;>rfl
@[simp] theorem ALO(x y z:cz):stepK P E d (.pick x y z) ⟨c,fr,s⟩=C4 d ⟨c,fr,s⟩ (pk3 (BO fr x) (rdC fr y) (rdC fr z)):=rfl
def ba2:Option V->Nat->Option (List (Nat×V))->Option (List (Nat×V))
 |some v,i,some l=>some ((i,v)::l)
 |_,_,_=>none
@[simp] theorem AXD(v:V)(i:Nat)(l:List (Nat×V)):ba2 (some v) i (some l)=some ((i,v)::l):=rfl
@[simp] theorem ALP(r:cz->Option V):CT r []=some []:=rfl
@[simp] theorem AGW(r:cz->Option V)(i:Nat)(x:cz)(l:List (Nat×cz)):CT r ((i,x)::l)=ba2 (r x) i (CT r l):=by simp only[CT];unfold ba2;cases r x<;>cases CT r l<;>rfl
def bd1(P:cd)(T:cx):Option (List (Nat×V))->Option V
 |some l=>CJ P T l
 |none=>none
@[simp] theorem AXE(T:cx)(l:List (Nat×V)):bd1 P T (some l)=CJ P T l:=rfl
@[simp] theorem AGX(T:cx)(ps:List (Nat×cz)):stepK P E d (.build T ps) ⟨c,fr,s⟩=C4 d ⟨c,fr,s⟩ (bd1 P T (CT (BO fr) ps)):=by show C4 d _ (RS P fr T ps)=_;unfold RS bd1;cases CT (BO fr) ps<;>rfl
def bs1(P:cd)(T:cx)(n:Nat):Option (List (Nat×V))->Option V
 |some l=>BR P T n l
 |none=>none
@[simp] theorem AXF(T:cx)(n:Nat)(l:List (Nat×V)):bs1 P T n (some l)=BR P T n l:=rfl
@[simp] theorem AEE(T:cx)(n:Nat)(ps:List (Nat×cz)):stepK P E d (.buildS T n ps) ⟨c,fr,s⟩=C4 d ⟨c,fr,s⟩ (bs1 P T n (CT (BO fr) ps)):=by show C4 d _ (NO P fr T n ps)=_;unfold NO bs1;cases CT (BO fr) ps<;>rfl
@[simp] theorem AP5(op:Op):stepK P E d (.oth op) ⟨c,fr,s⟩=C4 d ⟨c,fr,s⟩ (H1 P (iU op) s (BO fr)):=rfl
def al1(d:Tmp)(c:Nat)(fr:Fr)(s:St):Option (List V)->Option XS
 |some cs=>some ⟨c+1,(d,true,.ptr s.up.length d c 0)::fr,s.put s.up.length d c (.box cs)⟩
 |none=>none
@[simp] theorem AXG(d:Tmp)(cs:List V):al1 d c fr s (some cs)=some ⟨c+1,(d,true,.ptr s.up.length d c 0)::fr,s.put s.up.length d c (.box cs)⟩:=rfl
@[simp] theorem AGY(d:Tmp)(T:cx):stepK P E (some d) (.alloc T) ⟨c,fr,s⟩=al1 d c fr s (B8 P T):=by show MP P (some d) T _=_;unfold MP al1;cases B8 P T<;>rfl
def bx1(d:Tmp)(c:Nat)(fr:Fr)(s:St):Option V->Option XS
 |some v=>Bool.rec none (some ⟨c+1,(d,true,.ptr s.up.length d c 0)::fr,s.put s.up.length d c (.box (A7 v))⟩) (BC v)
 |none=>none
@[simp] theorem A1T(d:Tmp)(k:cr)(n:Int):bx1 d c fr s (some (.int k n))=some ⟨c+1,(d,true,.ptr s.up.length d c 0)::fr,s.put s.up.length d c (.box [.int k n])⟩:=rfl
@[simp] theorem AXH(d:Tmp)(b:Bool):bx1 d c fr s (some (.bool b))=some ⟨c+1,(d,true,.ptr s.up.length d c 0)::fr,s.put s.up.length d c (.box [.bool b])⟩:=rfl
@[simp] theorem A1U(d:Tmp)(cs:List V):bx1 d c fr s (some (.agg cs))=some ⟨c+1,(d,true,.ptr s.up.length d c 0)::fr,s.put s.up.length d c (.box cs)⟩:=rfl
@[simp] theorem AXI(d:Tmp)(b:Bool)(es:List (List V)):bx1 d c fr s (some (.list b es))=some ⟨c+1,(d,true,.ptr s.up.length d c 0)::fr,s.put s.up.length d c (.box [.list b es])⟩:=rfl
@[simp] theorem A1V(d:Tmp):bx1 d c fr s (some .nil)=some ⟨c+1,(d,true,.ptr s.up.length d c 0)::fr,s.put s.up.length d c (.box [.nil])⟩:=rfl
@[simp] theorem A1W(d:Tmp)(l k g n:Nat):bx1 d c fr s (some (.vec l k g n))=some ⟨c+1,(d,true,.ptr s.up.length d c 0)::fr,s.put s.up.length d c (.box [.vec l k g n])⟩:=rfl
@[simp] theorem A6F(d:Tmp)(l k g:Nat):bx1 d c fr s (some (.mp l k g))=some ⟨c+1,(d,true,.ptr s.up.length d c 0)::fr,s.put s.up.length d c (.box [.mp l k g])⟩:=rfl
@[simp] theorem AP6(d:Tmp)(x:cz):stepK P E (some d) (.box x) ⟨c,fr,s⟩=bx1 d c fr s (BO fr x):=by show fK (some d) x _=_;unfold fK bx1;cases BO fr x<;>rfl
def st3(γ:Nat)(P:cd)(T:cx)(c:Nat)(fr:Fr)(s:St)(l q off:Nat)(v:V):Option (Nat×AY)->Option XS
 |some (γ',.box cs)=>if γ'=γ/\BC v=true/\0<P.cellsOf T/\(A7 v).length=P.cellsOf T/\off+P.cellsOf T<=cs.length/\γ<c then some ⟨c,fr,s.put l q γ (.box (AZ cs off (A7 v)))⟩ else none
 |_=>none
def st4(γ:Nat)(P:cd)(T:cx)(c:Nat)(fr:Fr)(s:St)(l q i off:Nat)(v:V):Option (Nat×AY)->Option XS
 |some (γ',.vec U es)=>if γ'=γ/\BC v=true/\0<P.cellsOf T/\(A7 v).length=P.cellsOf T/\i<es.length/\off+P.cellsOf T<=(es.getD i []).length/\γ<c then some ⟨c,fr,s.put l q γ (.vec U (es.set i (AZ (es.getD i []) off (A7 v))))⟩ else none
 |_=>none
def F2(P:cd)(T:cx)(c:Nat)(fr:Fr)(s:St):Option V->Option V->Option XS
 |some (.ptr l q γ off),some v=>st3 γ P T c fr s l q off v (s.get l q)
 |some (.eptr l q γ i off),some v=>st4 γ P T c fr s l q i off v (s.get l q)
 |_,_=>none
@[simp] theorem AEF(T:cx)(l q γ off:Nat)(v:V):F2 P T c fr s (some (.ptr l q γ off)) (some v)=st3 γ P T c fr s l q off v (s.get l q):=rfl
@[simp] theorem AAL(T:cx)(l q γ i off:Nat)(v:V):F2 P T c fr s (some (.eptr l q γ i off)) (some v)=st4 γ P T c fr s l q i off v (s.get l q):=rfl
@[simp] theorem AEG(γ γ':Nat)(T:cx)(l q off:Nat)(v:V)(cs:List V):st3 γ P T c fr s l q off v (some (γ',.box cs))=if γ'=γ/\BC v=true/\0<P.cellsOf T/\(A7 v).length=P.cellsOf T/\off+P.cellsOf T<=cs.length/\γ<c then some ⟨c,fr,s.put l q γ (.box (AZ cs off (A7 v)))⟩ else none:=rfl
@[simp] theorem AEH(γ γ':Nat)(T:cx)(l q i off:Nat)(v:V)(U:cx)(es:List (List V)):st4 γ P T c fr s l q i off v (some (γ',.vec U es))=if γ'=γ/\BC v=true/\0<P.cellsOf T/\(A7 v).length=P.cellsOf T/\i<es.length/\off+P.cellsOf T<=(es.getD i []).length/\γ<c then some ⟨c,fr,s.put l q γ (.vec U (es.set i (AZ (es.getD i []) off (A7 v))))⟩ else none:=rfl
theorem AEI(T:cx)(x y:cz):HV P none T x y ⟨c,fr,s⟩=F2 P T c fr s (BO fr x) (BO fr y):=by
 unfold HV;simp only;cases BO fr x with
 |none=>rfl
 |some p=>
  cases BO fr y with
  |none=>cases p<;>rfl
  |some v=>
   cases p with
   |ptr l q γ off=>
    simp only[AEF]
    cases s.get l q with
    |none=>rfl
    |some z=>
     obtain⟨γ',r⟩:=z
     cases r with
     |box cs=>
      simp only[AEG,bj,bz,Nat.ble_eq,cj,and_assoc]
     |_=>rfl
   |eptr l q γ i off=>
    simp only[AAL]
    cases s.get l q with
    |none=>rfl
    |some z=>
     obtain⟨γ',r⟩:=z
     cases r with
     |vec U es=>
      simp only[AEH,bj,bz,Nat.ble_eq,cj,and_assoc]
     |_=>rfl
   |_=>rfl
@[simp] theorem AP7(T:cx)(x y:cz):stepK P E none (.sto T x y) ⟨c,fr,s⟩=F2 P T c fr s (BO fr x) (BO fr y):=AEI c T x y
def apW(P:cd)(e:cx)(d c:Nat)(fr:Fr)(s:St)(l q γ n:Nat)(ys:List (List V)):Option (Nat×AY)->Option XS
 |some (γ',.vec W es)=>if γ'=γ/\W=e/\n=es.length/\es.all (fun y=>y.length==P.cellsOf e)=true/\CL P e es.length ys=true then
   some ⟨c+1,(d,true,.vec l q c (es.length+ys.length))::fr,s.put l q c (.vec e (es++ys))⟩ else none
 |_=>none
@[simp] theorem QT(e:cx)(d:Nat)(l q γ γ' n:Nat)(ys es:List (List V))(W:cx):apW P e d c fr s l q γ n ys (some (γ',.vec W es))=if γ'=γ/\W=e/\n=es.length/\es.all (fun y=>y.length==P.cellsOf e)=true/\CL P e es.length ys=true then
   some ⟨c+1,(d,true,.vec l q c (es.length+ys.length))::fr,s.put l q c (.vec e (es++ys))⟩ else none:=rfl
def uG(P:cd)(e:cx)(d c:Nat)(fr:Fr)(s:St)(xv:V)(ys:List (List V)):Option XS:=match H4 xv ys with
 |some es=>if es.all (fun y=>y.length==P.cellsOf e)=true/\CL P e es.length ys=true then some ⟨c+1,(d,true,.vec s.up.length d c (es.length+ys.length))::fr,s.put s.up.length d c (.vec e (es++ys))⟩ else none
 |none=>match xv with
  |.vec l q γ n=>apW P e d c fr s l q γ n ys (OY n ys (s.get l q))
  |_=>none
@[simp] theorem gT(n γ:Nat)(ys es:List (List V))(U:cx):OY n ys (some (γ,.vec U es))=some (γ,.vec U (aJ n ys es)):=rfl
@[simp] theorem AP8(n:Nat)(ys:List (List V)):OY n ys none=none:=rfl
attribute [simp] RD
@[simp] theorem A1X(e:cx)(d:Nat)(ys:List (List V)):uG P e d c fr s .nil ys=if CL P e 0 ys=true then some ⟨c+1,(d,true,.vec s.up.length d c ys.length)::fr,s.put s.up.length d c (.vec e ys)⟩ else none:=by simp[uG,H4]
@[simp] theorem A1Y(e:cx)(d:Nat)(ys:List (List V)):uG P e d c fr s (.list true []) ys=if CL P e 0 ys=true then some ⟨c+1,(d,true,.vec s.up.length d c ys.length)::fr,s.put s.up.length d c (.vec e ys)⟩ else none:=by simp[uG,H4]
@[simp] theorem AAM(e:cx)(d:Nat)(z y:List V)(es ys:List (List V)):uG P e d c fr s (.list true (z::es)) (y::ys)=if (z::es).all (fun y=>y.length==P.cellsOf e)=true/\CL P e (z::es).length (y::ys)=true then
   some ⟨c+1,(d,true,.vec s.up.length d c ((z::es).length+(y::ys).length))::fr,s.put s.up.length d c (.vec e ((z::es)++(y::ys)))⟩ else none:=rfl
@[simp] theorem AEJ(e:cx)(d:Nat)(l q γ n:Nat)(ys:List (List V)):uG P e d c fr s (.vec l q γ n) ys=apW P e d c fr s l q γ n ys (OY n ys (s.get l q)):=by simp[uG,H4]
def ap3(P:cd)(d c:Nat)(fr:Fr)(s:St):Option (Option Nat×cx)->Option V->Option V->Option XS
 |some (none,e),some xv,some yv=>ap4 e xv (elemsOf s yv)
 |_,_,_=>none
where ap4 (e:cx) (xv:V):Option (List (List V))->Option XS
 |some ys=>uG P e d c fr s xv ys
 |none=>none
@[simp] theorem AAN(d:Nat)(e:cx)(xv yv:V):ap3 P d c fr s (some (none,e)) (some xv) (some yv)=ap3.ap4 P d c fr s e xv (elemsOf s yv):=rfl
@[simp] theorem AAO(d:Nat)(e:cx)(xv:V)(ys:List (List V)):ap3.ap4 P d c fr s e xv (some ys)=uG P e d c fr s xv ys:=rfl
@[simp] theorem AEK(b:Bool)(es:List (List V)):elemsOf s (.list b es)=some es:=rfl
@[simp] theorem AGZ:elemsOf s .nil=some []:=rfl
theorem ifB{α:Type}{b:Bool}{x y:α}:(Bool.rec y x b:α)=if b=true then x else y:=by cases b<;>rfl
theorem tJ{k:Nat}{e:cx}(d:Nat)(x y:Option V):ap3 P d c fr s (some (some k,e)) x y=none:=by cases x<;>cases y<;>rfl
@[simp] theorem AP9(d:Tmp)(x y:cz)(T:cx):stepK P E (some d) (.app [x,y] [T,T]) ⟨c,fr,s⟩=ap3 P d c fr s (BK P T) (BO fr x) (BO fr y):=by
 show xAppend P (some d) [x,y] [T,T] _=_;unfold xAppend xAppG;simp only[bt];cases hT:BK P T with
 |none=>cases BO fr x<;>cases BO fr y<;>rfl
 |some p=>
  obtain⟨k,e⟩:=p
  cases k with
  |some k=>rw[tJ]
  |none=>
   cases BO fr x with
   |none=>rfl
   |some xv=>
    cases BO fr y with
    |none=>rfl
    |some yv=>
     simp only[AAN]
     cases elemsOf s yv with
     |none=>rfl
     |some ys=>
      simp only[AAO,uG]
      cases H4 xv ys with
      |some es=>
       simp only[ifB,bj,bw]
       by_cases hC:es.all (fun y=>y.length==P.cellsOf e)=true/\CL P e es.length ys=true
       ·rw[if_pos hC,if_pos hC]
       ·rw[if_neg hC,if_neg hC]
      |none=>
       simp only
       unfold eZ
       cases xv with
       |vec l q γ n=>
        simp only
        cases OY n ys (s.get l q)with
        |none=>rfl
        |some z=>
         obtain⟨γ',r⟩:=z
         cases r with
         |vec W es=>
          simp only[ifB,bj,bw,QT,cj,and_assoc]
          by_cases hC:γ'=γ/\W=e/\n=es.length/\es.all (fun y=>y.length==P.cellsOf e)=true/\CL P e es.length ys=true
          ·rw[if_pos hC,if_pos hC]
          ·rw[if_neg hC,if_neg hC]
         |_=>rfl
       |_=>rfl
def mc2:Option V->Option (List V)->Option (List V)
 |some v,some l=>some (v::l)
 |_,_=>none
@[simp] theorem AXM(v:V)(l:List V):mc2 (some v) (some l)=some (v::l):=rfl
@[simp] theorem AXN(f:cz->Option V):DU f []=some []:=rfl
@[simp] theorem AQA(f:cz->Option V)(x:cz)(l:List cz):DU f (x::l)=mc2 (f x) (DU f l):=by
 simp only[DU];cases f x with
 |none=>rfl
 |some v=>cases DU f l<;>rfl
def NS(E:XE)(d:Option Tmp)(st:XS)(f:cp)(args:List V):Option XS:=match E.cf f args st with
 |some (r,st')=>some ⟨st'.c,putD st'.fr d true r,st'.s⟩
 |none=>none
def ca1(E:XE)(d:Option Tmp)(st:XS):Option V->Option (List V)->Option XS
 |some (.fn f first cap),some vs=>NS E d st f ((first++vs++cap).map weakV)
 |some (.yld l q γ),some vs=>ca3 (E.cy l q γ vs st)
 |_,_=>none
where ca3:Option (V×XS)->Option XS
 |some (r,st')=>some ⟨st'.c,putD st'.fr d true r,st'.s⟩
 |none=>none
@[simp] theorem ALR(st:XS)(f:cp)(first cap vs:List V):ca1 E d st (some (.fn f first cap)) (some vs)=NS E d st f ((first++vs++cap).map weakV):=rfl
@[simp] theorem AEL(st:XS)(l q γ:Nat)(vs:List V):ca1 E d st (some (.yld l q γ)) (some vs)=ca1.ca3 d (E.cy l q γ vs st):=rfl
@[simp] theorem AXO(d:Tmp)(r:V):ca1.ca3 (some d) (some (r,⟨c,fr,s⟩))=some ⟨c,(d,true,r)::fr,s⟩:=rfl
theorem gU(st:XS)(f:cz)(args:List cz):QG E.cf E.cy d f args st=ca1 E d st (BO st.fr f) (DU (BO st.fr) args):=by
 unfold QG;cases BO st.fr f with
 |none=>rfl
 |some v=>
  cases v with
  |fn f first cap=>
   simp only
   cases DU (BO st.fr) args with
   |none=>rfl
   |some vs=>simp only[ALR,NS];cases E.cf f ((first++vs++cap).map weakV) st<;>rfl
  |yld l q γ=>
   simp only[kB]
   cases DU (BO st.fr) args with
   |none=>rfl
   |some vs=>simp only[AEL];cases E.cy l q γ vs st<;>rfl
  |_=>rfl
@[simp] theorem ALS(args:List cz)(Ts:List cx):stepK P E d (.appS args Ts) st=C4 d st (WP P args Ts st.fr):=rfl
@[simp] theorem ALT(f:cz)(args:List cz):stepK P E d (.call false none f args) ⟨c,fr,s⟩=ca1 E d ⟨c,fr,s⟩ (BO fr f) (DU (BO fr) args):=gU d ⟨c,fr,s⟩ f args
@[simp] theorem AG1(t:Tmp)(f:cz)(args:List cz):stepK P E d (.callM false t f args) ⟨c,fr,s⟩=ca1 E d (MR t ⟨c,fr,s⟩) (BO (MR t ⟨c,fr,s⟩).fr f) (DU (BO (MR t ⟨c,fr,s⟩).fr) args):=gU d _ f args
def orK:Bool->Option V->Option V->Option V
 |true,some r,_=>some r
 |_,_,z=>z
@[simp] theorem AXP(r:V)(z:Option V):orK true (some r) z=some r:=rfl
@[simp] theorem AXQ(b:Bool)(z:Option V):orK b z z=z:=by cases b<;>cases z<;>rfl
theorem gV{P:cd}{kn:CF0}{rec:FN}{f:cp}{args:List V}:EC P kn rec f args=orK (args.all (AL 9)) (A4 P kn rec f (args.map weakN)) (A4 P kn rec f args):=by unfold EC orK;cases A4 P kn rec f (args.map weakN)<;>cases args.all (AL 9)<;>rfl
attribute [simp] gV
@[simp] theorem AQC(k:cr)(n:Int):weakN (.int k n)=.int k n:=rfl
@[simp] theorem ALU(b:Bool):weakN (.bool b)=.bool b:=rfl
@[simp] theorem AQD(v:Value):weakN (.raw v)=.raw v:=rfl
@[simp] theorem ALV(b:Bool)(es:List (List V)):weakN (.list b es)=.list b es:=rfl
@[simp] theorem AQE(cs:List V):weakN (.agg cs)=.agg (cs.map weakM):=rfl
@[simp] theorem AQF:weakN .nil=.list false []:=rfl
@[simp] theorem AXR(f:cp)(x y:List V):weakN (.fn f x y)=.fn f x y:=rfl
@[simp] theorem AQG(cs:List V):weakN (.ref cs)=.ref cs:=rfl
@[simp] theorem AQH(k:cr)(n:Int):weakM (.int k n)=.int k n:=rfl
@[simp] theorem ALW(b:Bool):weakM (.bool b)=.bool b:=rfl
@[simp] theorem ALX(b:Bool)(es:List (List V)):weakM (.list b es)=.list b es:=rfl
@[simp] theorem AQI:weakM .nil=.list false []:=rfl
@[simp] theorem AXS(f:cp)(x y:List V):weakM (.fn f x y)=.fn f x y:=rfl
@[simp] theorem AQJ(cs:List V):weakM (.ref cs)=.ref cs:=rfl
theorem WS{A:Ann}{kn:CF0}{n:Nat}{f:cp}{args:List V}(h:args.all (AL 9)=true)(hh:BF P f=false)(st:XS):NS (BU P A kn n) d st f args=C4 d st (orK true (A4 P kn (AF P A kn n) f (args.map weakN)) (A4 P kn (AF P A kn n) f args)):=by
 have e:orK true (A4 P kn (AF P A kn n) f (args.map weakN)) (A4 P kn (AF P A kn n) f args)=EC P kn (AF P A kn n) f args:=by rw[gV,h]
 rw[e];show(match SS P kn (AF P A kn n) f args st with
  |some (r,st')=>some (⟨st'.c,putD st'.fr d true r,st'.s⟩:XS)
  | none=>none)=_
 unfold SS;rw[h,hh];cases EC P kn (AF P A kn n) f args<;>rfl
end
@[simp] theorem AXT(k:cr)(n:Int):weakV (.int k n)=.int k n:=rfl
@[simp] theorem AQK(b:Bool):weakV (.bool b)=.bool b:=rfl
@[simp] theorem AQL(b:Bool)(es:List (List V)):weakV (.list b es)=.list false es:=rfl
@[simp] theorem AXU(cs:List V):weakV (.agg cs)=.agg (cs.map weakC):=rfl
@[simp] theorem AQM(k:cr)(n:Int):weakC (.int k n)=.int k n:=rfl
@[simp] theorem ALY(b:Bool):weakC (.bool b)=.bool b:=rfl
@[simp] theorem ALZ(b:Bool)(es:List (List V)):weakC (.list b es)=.list false es:=rfl
@[simp] theorem AQN:weakC .nil=.nil:=rfl
@[simp] theorem AXV:weakV .nil=.nil:=rfl
@[simp] theorem A1Z(f:cp)(x y:List V):weakV (.fn f x y)=.fn f x y:=rfl
@[simp] theorem AL0(f:Nat)(k:cr)(n:Int):AL (f+1) (.int k n)=true:=rfl
@[simp] theorem AG2(f:Nat)(b:Bool):AL (f+1) (.bool b)=true:=rfl
@[simp] theorem AL1(f:Nat):AL (f+1) .nil=true:=rfl
@[simp] theorem AL2(f:Nat)(cs:List V):AL (f+1) (.agg cs)=cs.all (AL f):=rfl
@[simp] theorem AL3(f:Nat)(cs:List V):AL (f+1) (.tup cs)=cs.all (AL f):=rfl
@[simp] theorem AL4(f:Nat)(cs:List V):AL (f+1) (.ref cs)=cs.all (AL f):=rfl
@[simp] theorem AG3(f:Nat)(b:Bool)(es:List (List V)):AL (f+1) (.list b es)=es.all fun e=>e.all (AL f):=rfl
@[simp] theorem AQO(f:Nat)(g:cp)(x y:List V):AL (f+1) (.fn g x y)=(x.all (AL f)&&y.all (AL f)):=rfl
section
variable (r:cz->Option V)
def o1(f:V->Option V):Option V->Option V
 |some v=>f v
 |none=>none
@[simp] theorem A10(f:V->Option V)(v:V):o1 f (some v)=f v:=rfl
def o2(f:V->V->Option V):Option V->Option V->Option V
 |some a,some b=>f a b
 |_,_=>none
@[simp] theorem A11(f:V->V->Option V)(a b:V):o2 f (some a) (some b)=f a b:=rfl
theorem cC(f:V->Option V)(x:Option V):x.bind f=o1 f x:=by cases x<;>rfl
theorem UG(f:V->V->Option V)(x y:Option V):(x.bind fun a=>y.bind fun b=>f a b)=o2 f x y:=by cases x<;>cases y<;>rfl
@[simp] theorem A6I(op:UnOp)(T:cx)(x:cz):H1 P (iU (.unOp op T x)) s r=o1 (XM op) (r x):=cC _ _
@[simp] theorem AXW(T:cx)(x i:cz):H1 P (iU (.indexAddr T x i)) s r=o2 (BG P s T) (r x) (r i):=UG _ _ _
@[simp] theorem A12(T:cx)(x i:cz):H1 P (iU (.index T x i)) s r=o2 (FH P T) (r x) (r i):=UG _ _ _
@[simp] theorem A13(x:cz)(i:Nat):H1 P (iU (.extract x i)) s r=o1 (fun a=>E0 a i) (r x):=cC _ _
@[simp] theorem A14(x:cz)(T:cx):H1 P (iU (.call ⟨.builtin .len,#[x],#[T]⟩)) s r=o1 (GQ P T) (r x):=cC _ _
end
@[simp] theorem AXX(b:Bool):XM .not (.bool b)=some (.bool !b):=rfl
@[simp] theorem AXY(k:cr)(n:Int):XM .neg (.int k n)=some (.int k (k.wrap (0-n))):=rfl
@[simp] theorem ABH(vs:List V)(i:Nat):E0 (.tup vs) i=vs[i]?:=rfl
@[simp] theorem A6J(up:List AB)(loc:AB)(l k g:Nat)(r:AY):St.put ⟨up,loc⟩ l k g r=if l=up.length then⟨up,(k,g,r)::loc⟩ else⟨up.modify l fun L=>L.put k g r,loc⟩:=rfl
def upG(k:Nat):Option AB->Option (Nat×AY)
 |some L=>L.get k
 |none=>none
@[simp] theorem AXZ(k:Nat)(L:AB):upG k (some L)=L.get k:=rfl
@[simp] theorem AAP(up:List AB)(loc:AB)(l k:Nat):St.get ⟨up,loc⟩ l k=if l=up.length then loc.get k else upG k up[l]?:=rfl
def kx(k:Nat)(r:Fr):Option (Bool×V)->Fr
 |some (c,v)=>(k,c,v)::r
 |none=>r
@[simp] theorem A15(k:Nat)(r:Fr)(c:Bool)(v:V):kx k r (some (c,v))=(k,c,v)::r:=rfl
@[simp] theorem A16(k:Nat)(r:Fr):kx k r none=r:=rfl
@[simp] theorem AQP:OL [] fr=[]:=rfl
@[simp] theorem AL5(k:Nat)(ks:List Nat):OL (k::ks) fr=kx k (OL ks fr) (EV fr k):=by show(match EV fr k with|some (c,v)=>(k,c,v)::OL ks fr|none=>OL ks fr)=_;cases EV fr k<;>rfl
def kl(k:Nat)(r:AB):Option (Nat×AY)->AB
 |some (g,x)=>(k,g,x)::r
 |none=>r
@[simp] theorem A17(k:Nat)(r:AB)(g:Nat)(x:AY):kl k r (some (g,x))=(k,g,x)::r:=rfl
@[simp] theorem A18(k:Nat)(r:AB):kl k r none=r:=rfl
@[simp] theorem AQQ(L:AB):HM [] L=[]:=rfl
@[simp] theorem AL6(k:Nat)(ks:List Nat)(L:AB):HM (k::ks) L=kl k (HM ks L) (L.get k):=by unfold kl;simp only[HM];cases L.get k<;>rfl
@[simp] theorem AX0(ks ls:List Nat)(c:Nat)(fr:Fr)(up:List AB)(loc:AB):CS (some (ks,ls)) ⟨c,fr,⟨up,loc⟩⟩=⟨c,OL ks fr,⟨up,HM ls loc⟩⟩:=rfl
@[simp] theorem AL7:CS none st=st:=rfl
@[simp] theorem A6K:TD (some st)=some (.normal,st):=rfl
@[simp] theorem AX1:TD none=none:=rfl
@[simp] theorem A19(c:Prop)[Decidable c](x y:Option XS):TD (if c then x else y)=if c then TD x else TD y:=by split<;>rfl
@[simp] theorem AX2(l:List HS):QR P E (.str l) st=MW P E l (some st):=rfl
@[simp] theorem AX3(S:List gM):QR P E (.drw S) st=R8 P E S (some st):=rfl
@[simp] theorem AX4(ks:List (Nat×Nat×Nat)):QR P E (.cls ks) st=OB P ks (some st):=rfl
@[simp] theorem AX5(o:Option XS):OB P [] o=o:=rfl
@[simp] theorem AQR(T a d:Nat)(r:List (Nat×Nat×Nat))(st:XS):OB P ((T,a,d)::r) (some st)=OB P r (if lM (BO st.fr (.tmp a))=true then C4 (some d) st (MK P st.fr st.s T (.tmp a)) else none):=by
 show OB P r (Bool.rec _ _ (lM (BO st.fr (.tmp a))))=_;cases lM (BO st.fr (.tmp a))with
 |false=>rfl
 |true=>
  simp only[if_true]
  congr 1
@[simp] theorem AX6(l k g o:Nat):lM (some (.ptr l k g o))=true:=rfl
@[simp] theorem AX7(rs:List ResultVar):TH P rs (some (.ret,st))=TH.finV st.s (E8 P rs st.fr st.s):=rfl
@[simp] theorem AG4(rs:List ResultVar):TH P rs (some (.normal,st))=TH.finV st.s (E8 P rs st.fr st.s):=rfl
def AL8:Option V->Option V
 |some r=>if AL 9 r=true then some r else none
 |none=>none
@[simp] theorem AQS(r:V):AL8 (some r)=if AL 9 r=true then some r else none:=rfl
@[simp] theorem AQT(v:V):TH.finV s (some v)=AL8 (AV s 4 v):=by
 unfold TH.finV AL8;simp only;cases AV s 4 v with
 |none=>rfl
 |some r=>simp only[ifB]
@[simp] theorem AL9(t:Tmp):C7 P fr s (.tmp t)=rdT (EV fr t):=by
 rw[FI];show(match fr.get t with
  |some (true,v)=>some v
  | _=>none)=_
 cases fr.get t with
 |none=>rfl
 |some p=>obtain⟨c,v⟩:=p;cases c<;>rfl
@[simp] theorem AX8(x:ResultVar):E8 P [x] fr s=C7 P fr s x:=by unfold E8;simp only[bg,ck];cases C7 P fr s x<;>rfl
def re2:Option V->Option V->Option V
 |some a,some b=>some (.tup [a,b])
 |_,_=>none
@[simp] theorem AX9(a b:V):re2 (some a) (some b)=some (.tup [a,b]):=rfl
@[simp] theorem AYA(x y:ResultVar):E8 P [x,y] fr s=re2 (C7 P fr s x) (C7 P fr s y):=by unfold E8;simp only[bg,ck];cases C7 P fr s x<;>cases C7 P fr s y<;>rfl
def re3:Option V->Option V->Option V->Option V
 |some a,some b,some c=>some (.tup [a,b,c])
 |_,_,_=>none
@[simp] theorem AYB(a b c:V):re3 (some a) (some b) (some c)=some (.tup [a,b,c]):=rfl
@[simp] theorem AMA(x y z:ResultVar):E8 P [x,y,z] fr s=re3 (C7 P fr s x) (C7 P fr s y) (C7 P fr s z):=by unfold E8;simp only[bg,ck];cases C7 P fr s x<;>cases C7 P fr s y<;>cases C7 P fr s z<;>rfl
@[simp] theorem AMB(f:Nat)(k:cr)(n:Int):AV s (f+1) (.int k n)=some (.int k n):=rfl
@[simp] theorem AG5(f:Nat)(b:Bool):AV s (f+1) (.bool b)=some (.bool b):=rfl
@[simp] theorem AMC(f:Nat):AV s (f+1) .nil=some .nil:=rfl
@[simp] theorem AG6(f:Nat)(b:Bool)(es:List (List V)):AV s (f+1) (.list b es)=some (.list false es):=rfl
def iV(mk:List V->V):Option (List V)->Option V
 |some l=>some (mk l)
 |none=>none
@[simp] theorem AYC(mk:List V->V)(l:List V):iV mk (some l)=some (mk l):=rfl
def OC(f:V->Option V):List V->Option (List V)
 |[]=>some []
 |v::l=>mc2 (f v) (OC f l)
theorem QU(f:V->Option V):∀(l:List V),l.mapM f=OC f l
 |[]=>rfl
 |v::l=>by simp only[bg,OC,QU f l];cases f v<;>cases OC f l<;>rfl
@[simp] theorem AYD(f:V->Option V):OC f []=some []:=rfl
@[simp] theorem AQU(f:V->Option V)(v:V)(l:List V):OC f (v::l)=mc2 (f v) (OC f l):=rfl
@[simp] theorem AMD(f:Nat)(cs:List V):AV s (f+1) (.agg cs)=iV .agg (OC (AV s f) cs):=by simp only[AV,QU];cases OC (AV s f) cs<;>rfl
@[simp] theorem AME(f:Nat)(cs:List V):AV s (f+1) (.tup cs)=iV .tup (OC (AV s f) cs):=by simp only[AV,QU];cases OC (AV s f) cs<;>rfl
def cv1(g m:Nat):Option (Nat×AY)->Option V
 |some (g',.vec _ es)=>if g'=g/\m<=es.length then some (.list false (es.take m)) else none
 |_=>none
@[simp] theorem AAQ(g m g':Nat)(T:cx)(es:List (List V)):cv1 g m (some (g',.vec T es))=if g'=g/\m<=es.length then some (.list false (es.take m)) else none:=rfl
@[simp] theorem mE(f:Nat)(up:List AB)(loc:AB)(l k g m:Nat):AV ⟨up,loc⟩ (f+1) (.vec l k g m)=if l=up.length then cv1 g m (loc.get k) else some (.vec l k g m):=by
 simp only[AV];split
 ·cases loc.get k with
  |none=>rfl
  |some z=>obtain⟨g',r⟩:=z;cases r<;>rfl
 ·rfl
@[simp] theorem AG7(t:Nat)(T:cx):C7 P fr s (.cell t T)=ld1 P s T (rdT (EV fr t)):=by
 rw[FI];show(match fr.get t with
  |some (true,p)=>(A8 s p).bind (BJ P T)
  | _=>none)=_
 cases fr.get t with
 |none=>rfl
 |some p=>
  obtain⟨c,v⟩:=p
  cases c with
  |false=>rfl
  |true=>
   simp only[AAJ,AAK]
   cases A8 s v<;>rfl
section
variable (d:Option Tmp)(c:Nat)
@[simp] theorem AYE(r:Option XS):R8 P E [] r=r:=rfl
@[simp] theorem AQV(p:gM)(S:List gM)(r:Option XS):R8 P E (p::S) r=R8 P E S (MW P E p.sq (WR (R7 P E p.ph (zW p.new r)))):=rfl
@[simp] theorem AYF(r:Option (XS×AG×AG)):R7 P E [] r=r:=rfl
@[simp] theorem AQW(i:HS)(l:List HS)(r:Option (XS×AG×AG)):R7 P E (i::l) r=R7 P E l (gL P E i r):=rfl
@[simp] theorem A2A(new:List Tmp)(up:List AB)(loc:AB):zW new (some ⟨c,fr,⟨up,loc⟩⟩)=if (new.all fun d=>(loc.get d).isNone)=true then some (⟨c,fr,⟨up,loc⟩⟩,[],[]) else none:=by show(Bool.rec none _ _:Option _)=_;rw[ifB];rfl
@[simp] theorem AQX(rd wr:AG):WR (some (st,rd,wr))=if (wr.all fun p=>!(rd.contains p))=true then some st else none:=by show(Bool.rec none _ _:Option _)=_;rw[ifB]
@[simp] theorem AQY:WR none=none:=rfl
@[simp] theorem AYG(c:Prop)[Decidable c](x y:Option (XS×AG×AG)):WR (if c then x else y)=if c then WR x else WR y:=by split<;>rfl
@[simp] theorem AQZ(i:HS):gL P E i none=none:=rfl
@[simp] theorem AYH(i:HS)(c:Prop)[Decidable c](x y:Option (XS×AG×AG)):gL P E i (if c then x else y)=if c then gL P E i x else gL P E i y:=by split<;>rfl
@[simp] theorem AYI(l:List HS)(c:Prop)[Decidable c](x y:Option (XS×AG×AG)):R7 P E l (if c then x else y)=if c then R7 P E l x else R7 P E l y:=by split<;>rfl
@[simp] theorem AYJ(l:List gM)(c:Prop)[Decidable c](x y:Option XS):R8 P E l (if c then x else y)=if c then R8 P E l x else R8 P E l y:=by split<;>rfl
def ph3(rds rd wr:AG):Option (XS×AG)->Option (XS×AG×AG)
 |some (st,w)=>some (st,rds++rd,w++wr)
 |none=>none
@[simp] theorem AYK(rds rd wr w:AG):ph3 rds rd wr (some (st,w))=some (st,rds++rd,w++wr):=rfl
@[simp] theorem AYL(rds rd wr:AG):ph3 rds rd wr none=none:=rfl
@[simp] theorem A2B(rds rd wr:AG)(c:Prop)[Decidable c](x y:Option (XS×AG)):ph3 rds rd wr (if c then x else y)=if c then ph3 rds rd wr x else ph3 rds rd wr y:=by split<;>rfl
@[simp] theorem AQ1(i:HS)(rd wr:AG):gL P E i (some (st,rd,wr))=ph3 (FD P i.k (BO st.fr)) rd wr (R6 P E i st):=by show(match R6 P E i st with|some (st',w)=>some (st',FD P i.k (BO st.fr)++rd,w++wr)|none=>none)=_;cases R6 P E i st<;>rfl
@[simp] theorem AQ2(k:IK):R6 P E ⟨none,d,k⟩ st=B9 P E d k st:=rfl
def QV(P:cd)(E:XE)(d:Option Tmp)(k:IK)(st:XS)(w:Bool)(r:Option (Bool×V)):Option (XS×AG):=match r with
 |some (c,.bool b)=>if (c&&(b==w))=true then B9 P E d k st else if gK k=true then none else some (CD d st,[])
 |_=>none
@[simp] theorem AMF(t:Tmp)(w:Bool)(k:IK):R6 P E ⟨some (t,w),d,k⟩ st=QV P E d k st w (EV st.fr t):=by
 show(match(match EV st.fr t with | some (c,.bool b)=>some (c&&(b == w)) | _=>none:Option Bool)with
  |some true=>B9 P E d k st
  |some false=>Bool.rec (some (CD d st,[])) none (gK k)
  | none=>none)=_
 unfold QV;cases EV st.fr t with
 |none=>rfl
 |some p=>
  obtain⟨c,v⟩:=p
  cases v with
  |bool b=>cases h:(c&&(b==w))<;>simp[h,ifB]
  |_=>rfl
@[simp] theorem MX(k:IK)(w c b:Bool):QV P E d k st w (some (c,.bool b))=if (c&&(b==w))=true then B9 P E d k st else if gK k=true then none else some (CD d st,[]):=rfl
@[simp] theorem A6L(T:cx)(x:cz)(f:cz->Option V):FD P (.ld T x) f=EJ (bx (P.cellsOf T) 1) (f x):=rfl
@[simp] theorem AMG(x y:cz)(f:cz->Option V):G9 f [x,y]=DV (f y):=rfl
@[simp] theorem AEM(b:Bool)(es:List (List V)):DV (some (.list b es))=[]:=rfl
@[simp] theorem AG8:DV (some .nil)=[]:=rfl
@[simp] theorem AG9(l k γ n:Nat):DV (some (.vec l k γ n))=[(l,k)]:=rfl
@[simp] theorem A6M(x:cz)(f:cz->Option V):FD P (.mv x) f=[]:=rfl
@[simp] theorem A2C(op:BinOp)(T:cx)(x y:cz)(f:cz->Option V):FD P (.bin op T x y) f=[]:=rfl
@[simp] theorem A6N(T:cx)(x:cz)(i:Nat)(f:cz->Option V):FD P (.fa T x i) f=[]:=rfl
@[simp] theorem AYM(x y z:cz)(f:cz->Option V):FD P (.pick x y z) f=[]:=rfl
@[simp] theorem AQ3(T:cx)(ps:List (Nat×cz))(f:cz->Option V):FD P (.build T ps) f=[]:=rfl
@[simp] theorem AYN(x y:cz)(Ts:List cx)(f:cz->Option V):FD P (.appS [x,y] Ts) f=DV (f y):=rfl
@[simp] theorem AMH(T:cx)(n:Nat)(ps:List (Nat×cz))(f:cz->Option V):FD P (.buildS T n ps) f=[]:=rfl
@[simp] theorem AQ4(T:cx)(f:cz->Option V):FD P (.alloc T) f=[]:=rfl
@[simp] theorem A2D(x:cz)(f:cz->Option V):FD P (.box x) f=[]:=rfl
@[simp] theorem A2E(T:cx)(x y:cz)(f:cz->Option V):FD P (.sto T x y) f=[]:=rfl
@[simp] theorem A2F(x:List cz)(y:List cx)(f:cz->Option V):FD P (.app x y) f=G9 f x:=rfl
@[simp] theorem AYO(t:Tmp):E5 (.tmp t)=false:=rfl
@[simp] theorem AQ5(f:cp):E5 (.func f)=yA.contains f:=rfl
@[simp] theorem AQ6(b:Bool)(t:Tmp)(g:cz)(x:List cz)(f:cz->Option V)(h:E5 g=false):FD P (.callM b t g x) f=[]:=by show cond (E5 g) _ _=_;rw[h];rfl
@[simp] theorem AYP(b:Bool)(t:Option Tmp)(g:cz)(x:List cz)(f:cz->Option V)(h:E5 g=false):FD P (.call b t g x) f=[]:=by show cond (E5 g) _ _=_;rw[h];rfl
theorem tK(b:Bool)(t:Option Tmp)(g x:cz)(f:cz->Option V)(h:E5 g=true):FD P (.call b t g [x]) f=DV (f x):=by show cond (E5 g) _ _=_;rw[h];rfl
@[simp] theorem AYQ(T:cx)(x i:cz)(f:cz->Option V):FD P (.oth (.indexAddr T x i)) f=IQ (f x):=rfl
@[simp] theorem A6O(op:UnOp)(T:cx)(x:cz)(f:cz->Option V):FD P (.oth (.unOp op T x)) f=[]:=rfl
@[simp] theorem A2G(x:cz)(i:Nat)(f:cz->Option V):FD P (.oth (.extract x i)) f=[]:=rfl
@[simp] theorem A2H(x:cz)(T:cx)(b:Builtin)(f:cz->Option V):FD P (.oth (.call ⟨.builtin b,#[x],#[T]⟩)) f=[]:=by cases b<;>rfl
@[simp] theorem A6P(g:Fn)(x y:Array cz)(f:cz->Option V):FD P (.oth (.makeFunc g x y)) f=[]:=rfl
def nw:Option XS->Option (XS×AG)
 |some st=>some (st,[])
 |none=>none
@[simp] theorem A2I:nw (some st)=some (st,[]):=rfl
@[simp] theorem A2J:nw none=none:=rfl
@[simp] theorem A6Q(c:Prop)[Decidable c](x y:Option XS):nw (if c then x else y)=if c then nw x else nw y:=by split<;>rfl
theorem EK(r:Option XS):noW r=nw r:=by cases r<;>rfl
@[simp] theorem AYR(x:cz):B9 P E d (.mv x) st=nw (stepK P E d (.mv x) st):=EK _
@[simp] theorem AQ7(op:BinOp)(T:cx)(x y:cz):B9 P E d (.bin op T x y) st=nw (stepK P E d (.bin op T x y) st):=EK _
@[simp] theorem AYS(T:cx)(x:cz)(f:Nat):B9 P E d (.fa T x f) st=nw (stepK P E d (.fa T x f) st):=EK _
@[simp] theorem AQ8(T:cx)(x:cz):B9 P E d (.ldz T x) st=B9 P E d (.ld T x) st:=rfl
@[simp] theorem AQ9(T:cx)(x:cz):stepK P E d (.ldz T x) st=stepK P E d (.ld T x) st:=rfl
@[simp] theorem A2K(T:cx)(x:cz)(f:cz->Option V):FD P (.ldz T x) f=[]:=rfl
@[simp] theorem AYT(T:cx)(x:cz):B9 P E d (.ld T x) st=nw (stepK P E d (.ld T x) st):=EK _
@[simp] theorem AMI(x y z:cz):B9 P E d (.pick x y z) st=nw (stepK P E d (.pick x y z) st):=EK _
@[simp] theorem AHA(T:cx)(ps:List (Nat×cz)):B9 P E d (.build T ps) st=nw (stepK P E d (.build T ps) st):=EK _
@[simp] theorem AEN(T:cx)(n:Nat)(ps:List (Nat×cz)):B9 P E d (.buildS T n ps) st=nw (stepK P E d (.buildS T n ps) st):=EK _
@[simp] theorem ARA(op:Op):B9 P E d (.oth op) st=nw (stepK P E d (.oth op) st):=EK _
@[simp] theorem AHB(T:cx):B9 P E d (.alloc T) st=nw (stepK P E d (.alloc T) st):=EK _
@[simp] theorem ARB(x:cz):B9 P E d (.box x) st=nw (stepK P E d (.box x) st):=EK _
@[simp] theorem ARC(x:Option cz):B9 P E d (.mkM x) st=nw (stepK P E d (.mkM x) st):=EK _
@[simp] theorem ARD(T:cx)(x y:cz):B9 P E d (.mkS T x y) st=nw (stepK P E d (.mkS T x y) st):=EK _
def wp(p:AG):Option XS->Option (XS×AG)
 |some st=>some (st,p)
 |none=>none
@[simp] theorem A2L(p:AG):wp p (some st)=some (st,p):=rfl
@[simp] theorem A2M(p:AG):wp p none=none:=rfl
@[simp] theorem A6R(p:AG)(c:Prop)[Decidable c](x y:Option XS):wp p (if c then x else y)=if c then wp p x else wp p y:=by split<;>rfl
@[simp] theorem ARE(T:cx)(x y:cz):B9 P E d (.sto T x y) st=wp (G8 (bx (P.cellsOf T) 1) (BO st.fr x)) (stepK P E d (.sto T x y) st):=by show(match HV P d T x y st with|some st'=>some (st',G8 (bx (P.cellsOf T) 1) (BO st.fr x))|none=>none)=wp _ (HV P d T x y st);cases HV P d T x y st<;>rfl
@[simp] theorem AYU(x:Option V):EJ false x=C6 x:=by cases x<;>rfl
@[simp] theorem AMJ(l k g o:Nat):EJ true (some (.ptr l k g o))=[(l,k+2000000),(l,k+4000000),(l,6000000+1000*k+o)]:=rfl
@[simp] theorem AHC(l k g i o:Nat):EJ true (some (.eptr l k g i o))=[(l,k+2000000),(l,k+4000000),(l,6000000+1000*k+o)]:=rfl
@[simp] theorem AMK(b:Bool)(cs:List V):EJ b (some (.ref cs))=[]:=by cases b<;>rfl
@[simp] theorem AML(l k g o:Nat):G8 true (some (.ptr l k g o))=[(l,k),(l,6000000+1000*k+o)]:=rfl
@[simp] theorem AHD(l k g i o:Nat):G8 true (some (.eptr l k g i o))=[(l,k),(l,6000000+1000*k+o)]:=rfl
@[simp] theorem AHE(l k g o:Nat):G8 false (some (.ptr l k g o))=[(l,k),(l,k+4000000)]:=rfl
@[simp] theorem AEO(l k g i o:Nat):G8 false (some (.eptr l k g i o))=[(l,k),(l,k+4000000)]:=rfl
@[simp] theorem AHF(l k g o:Nat):C6 (some (.ptr l k g o))=[(l,k)]:=rfl
@[simp] theorem AEP(l k g i o:Nat):C6 (some (.eptr l k g i o))=[(l,k)]:=rfl
@[simp] theorem AHG(cs:List V):C6 (some (.ref cs))=[]:=rfl
@[simp] theorem AMM(l k g o:Nat):IQ (some (.ptr l k g o))=[]:=rfl
@[simp] theorem AMN(l k g n:Nat):IQ (some (.vec l k g n))=[(l,k+RK)]:=rfl
@[simp] theorem AHH(b:Bool)(es:List (List V)):IQ (some (.list b es))=[]:=rfl
@[simp] theorem AMO(cs:List V):IQ (some (.ref cs))=[]:=rfl
def c01(E:XE)(d:Option Tmp)(st:XS):Option V->Option (List V)->Option XS
 |some (.fn f first cap),some vs=>C4 d st (E.c0 f ((first++vs++cap).map weakV))
 |_,_=>none
@[simp] theorem AAR(f:cp)(first cap vs:List V):c01 E d st (some (.fn f first cap)) (some vs)=C4 d st (E.c0 f ((first++vs++cap).map weakV)):=rfl
@[simp] theorem AMP(t:Option Tmp)(f:cz)(args:List cz)(hr:E5 f=false):B9 P E d (.call false t f args) ⟨c,fr,s⟩=nw (c01 E d ⟨c,fr,s⟩ (BO fr f) (DU (BO fr) args)):=by
 show noW (cond (E5 f) _ (EU E.c0 d f args ⟨c,fr,s⟩))=_;rw[hr,EK,cond_false];congr 1;unfold EU;cases hf:BO fr f with
 |none=>simp only[c01]
 |some v=>
  cases v with
  |fn g first cap=>
   simp only
   cases hm:DU (BO fr) args with
   |none=>simp only[c01]
   |some vs=>
    simp only[AAR]
    cases E.c0 g ((first++vs++cap).map weakV)<;>rfl
  |_=>simp only[c01]
@[simp] theorem AHI(t:Tmp)(f:cz)(args:List cz)(hr:E5 f=false):B9 P E d (.callM false t f args) ⟨c,fr,s⟩=nw (c01 E d ⟨c,fr,s⟩ (BO fr f) (DU (BO fr) args)):=by
 show noW (cond (E5 f) _ (EU E.c0 d f args ⟨c,fr,s⟩))=_;rw[hr,EK,cond_false];congr 1;unfold EU;cases hf:BO fr f with
 |none=>simp only[c01]
 |some v=>
  cases v with
  |fn g first cap=>
   simp only
   cases hm:DU (BO fr) args with
   |none=>simp only[c01]
   |some vs=>
    simp only[AAR]
    cases E.c0 g ((first++vs++cap).map weakV)<;>rfl
  |_=>simp only[c01]
@[simp] theorem A6S{A:Ann}{kn:CF0}{n:Nat}:(BU P A kn n).c0=EC P kn (AF P A kn n):=rfl
end
theorem mF{A:Ann}{kn:CF0}{n N:Nat}(a b:cm):fG (AF P A kn n N) a b st (some (.bool true))=AF P A kn n N a st:=rfl
theorem gW{A:Ann}{kn:CF0}{n N:Nat}(a b:cm):fG (AF P A kn n N) a b st (some (.bool false))=AF P A kn n N b st:=rfl
attribute [simp] AAF mB tF AAD tB lY tC tD tE AAE lZ gQ AAG tG AAH X2 mC gR mD mF gW AAI
end Go.Pg
namespace Go.Pg
variable {P:cd}{E:XE}{st:XS}{fr:Fr}{s:St}
@[simp] theorem AMQ(k:cr)(n:Int):A7 (.int k n)=[.int k n]:=rfl
@[simp] theorem AHJ(b:Bool):A7 (.bool b)=[.bool b]:=rfl
@[simp] theorem AMR(cs:List V):A7 (.agg cs)=cs:=rfl
@[simp] theorem AHK(b:Bool)(es:List (List V)):A7 (.list b es)=[.list b es]:=rfl
@[simp] theorem AMS:A7 .nil=[.nil]:=rfl
@[simp] theorem AMT(l k g n:Nat):A7 (.vec l k g n)=[.vec l k g n]:=rfl
@[simp] theorem ARF(l k g:Nat):A7 (.mp l k g)=[.mp l k g]:=rfl
@[simp] theorem ARG(f:cp)(x y:List V):A7 (.fn f x y)=[.fn f x y]:=rfl
@[simp] theorem AMU(l k g n:Nat):A7 (.ptr l k g n)=[.ptr l k g n]:=rfl
@[simp] theorem AMV(cs:List V):A7 (.ref cs)=[.ref cs]:=rfl
@[simp] theorem AMW(k:cr)(n:Int):BC (.int k n)=true:=rfl
@[simp] theorem AHL(b:Bool):BC (.bool b)=true:=rfl
@[simp] theorem AMX(cs:List V):BC (.agg cs)=true:=rfl
@[simp] theorem AHM(b:Bool)(es:List (List V)):BC (.list b es)=true:=rfl
@[simp] theorem AMY:BC .nil=true:=rfl
@[simp] theorem AMZ(l k g n:Nat):BC (.vec l k g n)=true:=rfl
@[simp] theorem ARH(l k g:Nat):BC (.mp l k g)=true:=rfl
@[simp] theorem ARI(f:cp)(x y:List V):BC (.fn f x y)=true:=rfl
@[simp] theorem AM0(l k g n:Nat):BC (.ptr l k g n)=true:=rfl
@[simp] theorem AM1(cs:List V):BC (.ref cs)=true:=rfl
@[simp] theorem ARJ(op:BinOp)(T:cx)(k j:cr)(a b:Int):FQ P op T (.int k a) (.int j b)=if k=j then DX op k a b else XL op k a b:=rfl
@[simp] theorem AYV(k:cr)(a b:Int):XL .shl k a b=if b<0 then none else some (.int k (k.wrap (a*2 ^ (min b.toNat k.bits)))):=rfl
@[simp] theorem AYW(k:cr)(a b:Int):XL .shr k a b=if b<0 then none else some (.int k (a.fdiv (2 ^ (min b.toNat k.bits)))):=rfl
section
variable (k:cr)(a b:Int)
@[simp] theorem ARK:DX .add k a b=some (.int k (k.wrap (a+b))):=rfl
@[simp] theorem ARL:DX .sub k a b=some (.int k (k.wrap (a-b))):=rfl
@[simp] theorem ARM:DX .mul k a b=some (.int k (k.wrap (a*b))):=rfl
@[simp] theorem ARN:DX .quo k a b=if b=0 then none else some (.int k (k.wrap (a.tdiv b))):=rfl
@[simp] theorem ARO:DX .rem k a b=if b=0 then none else some (.int k (a.tmod b)):=rfl
@[simp] theorem ARP:DX .and k a b=some (.int k (k.wrap (BitVec.ofInt k.bits a &&& BitVec.ofInt k.bits b).toNat)):=rfl
@[simp] theorem AYX:DX .or k a b=some (.int k (k.wrap (BitVec.ofInt k.bits a ||| BitVec.ofInt k.bits b).toNat)):=rfl
@[simp] theorem AER:DX .andNot k a b=some (.int k (k.wrap (BitVec.ofInt k.bits a &&& ~~~ BitVec.ofInt k.bits b).toNat)):=rfl
@[simp] theorem ARQ:DX .shl k a b=if b<0 then none else some (.int k (k.wrap (a*2 ^ (min b.toNat k.bits)))):=rfl
@[simp] theorem ARR:DX .shr k a b=if b<0 then none else some (.int k (a.fdiv (2 ^ (min b.toNat k.bits)))):=rfl
@[simp] theorem ARS:DX .eql k a b=some (.bool (decide (a=b))):=by show some (V.bool (a==b))=_;congr 2
@[simp] theorem ART:DX .neq k a b=some (.bool (!decide (a=b))):=by show some (V.bool (a != b))=_;congr 2
@[simp] theorem ARU:DX .lss k a b=some (.bool (decide (a<b))):=rfl
@[simp] theorem ARV:DX .leq k a b=some (.bool (decide (a<=b))):=rfl
@[simp] theorem ARW:DX .gtr k a b=some (.bool (decide (b<a))):=rfl
@[simp] theorem ARX:DX .geq k a b=some (.bool (decide (b<=a))):=rfl
end
theorem AW{x:Int}(h1:-9223372036854775808<=x)(h2:x<9223372036854775808):IntKind.i64.wrap x=x:=by simp only[IntKind.wrap,IntKind.bits,IntKind.signed];simp;omega
@[simp] theorem AHN(T:cx)(a b:Bool):FQ P .eql T (.bool a) (.bool b)=if dK P T=true then some (.bool (a==b)) else none:=rfl
@[simp] theorem AHO(T:cx)(a b:Bool):FQ P .neq T (.bool a) (.bool b)=if dK P T=true then some (.bool (a != b)) else none:=rfl
def bl1(f:Bool->Bool):Option Bool->Option V
 |some b=>some (.bool (f b))
 |none=>none
@[simp] theorem AYY(f:Bool->Bool)(b:Bool):bl1 f (some b)=some (.bool (f b)):=rfl
@[simp] theorem AM2(T:cx)(cs ds:List V):FQ P .eql T (.agg cs) (.agg ds)=bl1 (fun b=>b) (OV P T cs ds):=by show(OV P T cs ds).map V.bool=_;cases OV P T cs ds<;>rfl
@[simp] theorem AM3(T:cx)(cs ds:List V):FQ P .neq T (.agg cs) (.agg ds)=bl1 (fun b=>!b) (OV P T cs ds):=by show(OV P T cs ds).map (fun b=>V.bool !b)=_;cases OV P T cs ds<;>rfl
def faP(P:cd)(x:V):Option (cx×Nat)->Option V
 |some (U,off)=>if P.cellsOf U=0 then none else match x with
  |.ref cs=>some (.ref (cs.drop off))
  |.ptr l k g o=>some (.ptr l k g (o+off))
  |.eptr l k g i o=>some (.eptr l k g i (o+off))
  |_=>none
 |none=>none
@[simp] theorem A2N(T:cx)(x:V)(f:Nat):CQ P T x f=faP P x (BD P T f):=by unfold CQ faP;cases BD P T f<;>rfl
@[simp] theorem A2O(U:cx)(off:Nat)(cs:List V):faP P (.ref cs) (some (U,off))=if P.cellsOf U=0 then none else some (.ref (cs.drop off)):=rfl
@[simp] theorem A2P(U:cx)(off l k g o:Nat):faP P (.ptr l k g o) (some (U,off))=if P.cellsOf U=0 then none else some (.ptr l k g (o+off)):=rfl
@[simp] theorem AY0(U:cx)(off l k g i o:Nat):faP P (.eptr l k g i o) (some (U,off))=if P.cellsOf U=0 then none else some (.eptr l k g i (o+off)):=rfl
def fd1(P:cd)(x:V):Option (cx×Nat)->Option V
 |some (U,off)=>match x with
  |.agg cs=>LI P U cs off
  |_=>none
 |none=>none
@[simp] theorem AM4(T:cx)(x:V)(f:Nat):H3 P T x f=fd1 P x (BD P T f):=by unfold H3 fd1;cases x<;>cases BD P T f<;>rfl
@[simp] theorem A2Q(U:cx)(off:Nat)(cs:List V):fd1 P (.agg cs) (some (U,off))=LI P U cs off:=rfl
def cb(g off:Nat):Option (Nat×AY)->Option (List V)
 |some (g',.box cs)=>if g'=g then some (cs.drop off) else none
 |_=>none
@[simp] theorem A2R(g g' off:Nat)(cs:List V):cb g off (some (g',.box cs))=if g'=g then some (cs.drop off) else none:=rfl
def ce(g i off:Nat):Option (Nat×AY)->Option (List V)
 |some (g',.vec _ es)=>if g'=g then(es[i]?).map (·.drop off) else none
 |_=>none
@[simp] theorem A2S(g g' i off:Nat)(T:cx)(es:List (List V)):ce g i off (some (g',.vec T es))=if g'=g then(es[i]?).map (·.drop off) else none:=rfl
@[simp] theorem AHP(cs:List V):A8 s (.ref cs)=some cs:=rfl
@[simp] theorem AHQ(l k g off:Nat):A8 s (.ptr l k g off)=cb g off (s.get l k):=by
 unfold cb;simp only[A8];cases s.get l k with
 |none=>rfl
 |some z=>obtain⟨g',r⟩:=z;cases r<;>rfl
@[simp] theorem AES(l k g i off:Nat):A8 s (.eptr l k g i off)=ce g i off (s.get l k):=by
 unfold ce;simp only[A8];cases s.get l k with
 |none=>rfl
 |some z=>obtain⟨g',r⟩:=z;cases r<;>rfl
def iv(P:cd)(e:cx)(l k g n:Nat)(j:Int):Option (Nat×AY)->Option V
 |some (g',.vec _ es)=>if g'=g/\0<=j/\j<n/\n<=es.length/\(es.getD j.toNat []).length=P.cellsOf e/\0<P.cellsOf e then some (.eptr l k g j.toNat 0) else none
 |_=>none
@[simp] theorem A2T(e:cx)(l k g g' n:Nat)(j:Int)(T:cx)(es:List (List V)):iv P e l k g n j (some (g',.vec T es))=if g'=g/\0<=j/\j<n/\n<=es.length/\(es.getD j.toNat []).length=P.cellsOf e/\0<P.cellsOf e then some (.eptr l k g j.toNat 0) else none:=rfl
def ia(P:cd)(s:St)(x i:V):Option (Option Nat×cx)->Option V
 |some (none,e)=>match x,i with
  |.list _ es,.int _ j=>if 0<=j/\j<es.length/\(es.getD j.toNat []).length=P.cellsOf e/\0<P.cellsOf e then some (.ref (es.getD j.toNat [])) else none
  |.vec l k g n,.int _ j=>iv P e l k g n j (s.get l k)
  |_,_=>none
 |some (some n,e)=>match x,i with
  |.ref cs,.int _ j=>if 0<=j/\j<n/\0<P.cellsOf e then some (.ref (cs.drop (j.toNat*P.cellsOf e))) else none
  |.ptr l k g o,.int _ j=>if 0<=j/\j<n/\0<P.cellsOf e then some (.ptr l k g (o+j.toNat*P.cellsOf e)) else none
  |.eptr l k g i' o,.int _ j=>if 0<=j/\j<n/\0<P.cellsOf e then some (.eptr l k g i' (o+j.toNat*P.cellsOf e)) else none
  |_,_=>none
 |none=>none
@[simp] theorem A2U(T:cx)(x i:V):BG P s T x i=ia P s x i (BK P T):=by
 unfold BG ia;cases BK P T with
 |none=>rfl
 |some z=>
  obtain⟨n,e⟩:=z
  cases n with
  |some n=>cases x<;>cases i<;>rfl
  |none=>
   cases x with
   |vec l k g n=>
    cases i with
    |int q j=>
     simp only[iv]
     cases s.get l k with
     |none=>rfl
     |some z=>obtain⟨g',r⟩:=z;cases r<;>rfl
    |_=>rfl
   |_=>cases i<;>rfl
@[simp] theorem A2V(e:cx)(b:Bool)(es:List (List V))(k:cr)(j:Int):ia P s (.list b es) (.int k j) (some (none,e))=if 0<=j/\j<es.length/\(es.getD j.toNat []).length=P.cellsOf e/\0<P.cellsOf e then some (.ref (es.getD j.toNat [])) else none:=rfl
@[simp] theorem A6V(e:cx)(l q g n:Nat)(k:cr)(j:Int):ia P s (.vec l q g n) (.int k j) (some (none,e))=iv P e l q g n j (s.get l q):=rfl
@[simp] theorem A6W(n:Nat)(e:cx)(cs:List V)(k:cr)(j:Int):ia P s (.ref cs) (.int k j) (some (some n,e))=if 0<=j/\j<n/\0<P.cellsOf e then some (.ref (cs.drop (j.toNat*P.cellsOf e))) else none:=rfl
@[simp] theorem A6X(n:Nat)(e:cx)(l q g o:Nat)(k:cr)(j:Int):ia P s (.ptr l q g o) (.int k j) (some (some n,e))=if 0<=j/\j<n/\0<P.cellsOf e then some (.ptr l q g (o+j.toNat*P.cellsOf e)) else none:=rfl
@[simp] theorem A2W(n:Nat)(e:cx)(l q g i o:Nat)(k:cr)(j:Int):ia P s (.eptr l q g i o) (.int k j) (some (some n,e))=if 0<=j/\j<n/\0<P.cellsOf e then some (.eptr l q g i (o+j.toNat*P.cellsOf e)) else none:=rfl
def ix(P:cd)(T:cx)(x i:V):Option (Option Nat×cx)->Option V
 |some (some n,e)=>match x,i with
  |.agg cs,.int _ j=>if 0<=j/\j<n/\0<P.cellsOf e then LI P e cs (j.toNat*P.cellsOf e) else none
  |_,_=>none
 |some (none,_)=>none
 |none=>FH P T x i
@[simp] theorem AM5(T:cx)(x i:V)(h:BK P T≠none):FH P T x i=ix P T x i (BK P T):=by
 unfold ix;cases he:BK P T with
 |none=>exact absurd he h
 |some z=>obtain⟨n,e⟩:=z;unfold FH;rw[he];cases n<;>cases x<;>cases i<;>rfl
@[simp] theorem A6Y(T:cx)(n:Nat)(e:cx)(cs:List V)(k:cr)(j:Int):ix P T (.agg cs) (.int k j) (some (some n,e))=if 0<=j/\j<n/\0<P.cellsOf e then LI P e cs (j.toNat*P.cellsOf e) else none:=rfl
theorem MY{T:cx}(h:DP P T=true):∃e,P.underlying T=some (.slice e):=by
 unfold DP at h;split at h
 ·rename_i e he;exact⟨e,he⟩
 ·cases h
@[simp] theorem mG{T:cx}(h:DP P T=true)(b:Bool)(es:List (List V)):GQ P T (.list b es)=some (.int .i64 es.length):=by obtain⟨e,he⟩:=MY h;simp[GQ,he]
@[simp] theorem ARY{T:cx}(h:DP P T=true)(l k g n:Nat):GQ P T (.vec l k g n)=some (.int .i64 n):=by obtain⟨e,he⟩:=MY h;simp[GQ,he]
@[simp] theorem tL{T:cx}(h:DP P T=true):GQ P T .nil=some (.int .i64 0):=by obtain⟨e,he⟩:=MY h;simp[GQ,he]
def fv(place:Nat->Option (Nat×Nat))(cs:List V)(v:V)(rest:List (Nat×V)):Option (Nat×Nat)->Option (List V)
 |none=>none
 |some (off,size)=>if (A7 v).length=size/\off+(A7 v).length<=cs.length then CW place (AZ cs off (A7 v)) rest else none
@[simp] theorem ARZ(place:Nat->Option (Nat×Nat))(cs:List V):CW place cs []=some cs:=rfl
@[simp] theorem AM6(place:Nat->Option (Nat×Nat))(cs:List V)(i:Nat)(v:V)(rest:List (Nat×V)):CW place cs ((i,v)::rest)=fv place cs v rest (place i):=by simp only[CW];unfold fv;cases place i<;>rfl
@[simp] theorem A2X(place:Nat->Option (Nat×Nat))(cs:List V)(v:V)(rest:List (Nat×V))(off size:Nat):fv place cs v rest (some (off,size))=if (A7 v).length=size/\off+(A7 v).length<=cs.length then CW place (AZ cs off (A7 v)) rest else none:=rfl
attribute [simp] AZ
@[simp] theorem AHR(size:Nat)(cs:List V):B5 size cs 0=[]:=rfl
@[simp] theorem AHS(size:Nat)(cs:List V)(n:Nat):B5 size cs (n+1)=cs.take size::B5 size (cs.drop size) n:=rfl
def ch1(size len:Nat):Option (List V)->Option V
 |some cs=>some (.list true (B5 size cs len))
 |none=>none
@[simp] theorem AY1(size len:Nat)(cs:List V):ch1 size len (some cs)=some (.list true (B5 size cs len)):=rfl
def bsz(P:cd)(e:cx)(len:Nat)(parts:List (Nat×V)):Option (List V)->Option V
 |some z=>if (parts.all fun p=>BC p.2)=true/\z.length=P.cellsOf e/\0<P.cellsOf e/\len*P.cellsOf e<=2 ^ 24 then
   ch1 (P.cellsOf e) len (CW (fun i=>some (i*P.cellsOf e,P.cellsOf e)) (br len z).flatten parts) else none
 |none=>none
@[simp] theorem AY2(e:cx)(len:Nat)(parts:List (Nat×V))(z:List V):bsz P e len parts (some z)=if (parts.all fun p=>BC p.2)=true/\z.length=P.cellsOf e/\0<P.cellsOf e/\len*P.cellsOf e<=2 ^ 24 then
   ch1 (P.cellsOf e) len (CW (fun i=>some (i*P.cellsOf e,P.cellsOf e)) (br len z).flatten parts) else none:=rfl
def bsl(P:cd)(len:Nat)(parts:List (Nat×V)):Option (Option Nat×cx)->Option V
 |some (none,e)=>bsz P e len parts (B8 P e)
 |_=>none
@[simp] theorem AY3(e:cx)(len:Nat)(parts:List (Nat×V)):bsl P len parts (some (none,e))=bsz P e len parts (B8 P e):=rfl
@[simp] theorem A2Z(T:cx)(len:Nat)(parts:List (Nat×V)):BR P T len parts=bsl P len parts (BK P T):=by
 unfold BR bsl;cases BK P T with
 |none=>rfl
 |some z=>
  obtain⟨n,e⟩:=z
  cases n with
  |some n=>rfl
  |none=>
   simp only[bsz]
   cases B8 P e with
   |none=>rfl
   |some z=>
    simp only
    split
    ·cases CW (fun i=>some (i*P.cellsOf e,P.cellsOf e)) (br len z).flatten parts<;>rfl
    ·rfl
def fn2(f:cp):Option (List V)->Option (List V)->Option V
 |some a,some b=>some (.fn f a b)
 |_,_=>none
@[simp] theorem AY4(f:cp)(a b:List V):fn2 f (some a) (some b)=some (.fn f a b):=rfl
@[simp] theorem A60(f:cp)(x y:Array cz)(r:cz->Option V):H1 P (iU (.makeFunc (.func f) x y)) s r=fn2 f (DU r x.toList) (DU r y.toList):=by show((x.toList.mapM r).bind fun a=>(y.toList.mapM r).bind fun b=>some (V.fn f a b))=_;rw[<-JJ,<-JJ];cases DU r x.toList<;>cases DU r y.toList<;>rfl
@[simp] theorem A21(x y:cz)(Ts:Array cx)(r:cz->Option V):H1 P (iU (.call ⟨.builtin .max,#[x,y],Ts⟩)) s r=o2 PW (r x) (r y):=UG _ _ _
@[simp] theorem A22(x y:cz)(Ts:Array cx)(r:cz->Option V):H1 P (iU (.call ⟨.builtin .min,#[x,y],Ts⟩)) s r=o2 PX (r x) (r y):=UG _ _ _
@[simp] theorem AR0(k j:cr)(m n:Int):PW (.int k m) (.int j n)=if k=j then some (.int k (if n>m then n else m)) else none:=rfl
@[simp] theorem AR1(k j:cr)(m n:Int):PX (.int k m) (.int j n)=if k=j then some (.int k (if n<m then n else m)) else none:=rfl
theorem D5{e:cx}{n:Nat}{ys:List (List V)}(hc:0<P.cellsOf e)(hz:cU P e=true):CL P e n ys=true↔(ys.all (fun y=>y.length==P.cellsOf e)=true/\n+ys.length<=maxLen/\(n+ys.length)*P.bytesOf e<=140737488355328):=by simp[CL,hc,hz,and_assoc]
end Go.Pg
namespace Go.Pg
variable {P:cd}{E:XE}{st:XS}{fr:Fr}{s:St}
theorem AP{P:cd}{kn:CF0}{rec:FN}{f:cp}{args:List V}(h:kn f args=none):A4 P kn rec f args=DW P rec f args:=by unfold A4;rw[h]
def pv(k γ:Nat):List (List V)->V
 |[]=>.nil
 |e::es=>.vec 0 k γ (e::es).length
def pl(k γ:Nat)(T:cx):List (List V)->AB
 |[]=>[]
 |e::es=>[(k,γ,.vec T (e::es))]
def sl:List (List V)->V
 |[]=>.nil
 |e::es=>.list false (e::es)
@[simp] theorem cD(k γ:Nat):pv k γ []=.nil:=rfl
@[simp] theorem cE(k γ:Nat)(T:cx):pl k γ T []=[]:=rfl
@[simp] theorem H8(k γ:Nat)(T:cx)(es:List (List V))(y:List V)(ys:List (List V)):pl k γ T (es++y::ys)=[(k,γ,.vec T (es++y::ys))]:=by cases es<;>rfl
@[simp] theorem A23(k γ:Nat)(T:cx)(y:List V)(ys:List (List V)):pl k γ T (y::ys)=[(k,γ,.vec T (y::ys))]:=rfl
@[simp] theorem A9U(k γ:Nat)(T:cx)(es:List (List V)):kl k [] ((pl k γ T es).get k)=pl k γ T es:=by
 cases es with
 |nil=>rfl
 |cons e es=>simp
@[simp] theorem AY5{k j:Nat}(γ:Nat)(T:cx)(es:List (List V))(h:j≠k):(pl k γ T es).get j=none:=by
 cases es with
 |nil=>rfl
 |cons e es=>simp[h]
@[simp] theorem AM7(e k c γ:Nat)(loc:AB)(es:List (List V))(y:List V)(ys:List (List V))(hl:AB.get loc k=(pl k γ e es).get k)(h1:es.all (fun y=>y.length==P.cellsOf e)=true)(h2:CL P e es.length (y::ys)=true) :
  uG P e k c fr ⟨[],loc⟩ (pv k γ es) (y::ys)=some ⟨c+1,(k,true,pv k c (es++y::ys))::fr,⟨[],(k,c,.vec e (es++y::ys))::loc⟩⟩:=by
 cases es with
 |nil=>
  simp only[bq]at h2
  simp[h2,pv]
 |cons z es=>
  have hl:AB.get loc k=some (γ,.vec e (z::es)):=by rw[hl];simp
  simp only[pv,AEJ,AAP,bq,if_true,hl,gT,RD,QT,true_and,h1,h2]
  simp[Nat.add_comm,Nat.add_left_comm]
theorem J8{T:cx}(f:Nat)(loc:AB)(k γ:Nat)(es:List (List V))(hl:AB.get loc k=(pl k γ T es).get k):AV ⟨[],loc⟩ (f+1) (pv k γ es)=some (sl es):=by
 cases es with
 |nil=>rfl
 |cons z es=>
  have hl:AB.get loc k=some (γ,.vec T (z::es)):=by rw[hl];simp
  simp only[pv,mE,bq,if_true,hl,AAQ,sl]
  simp
@[simp] theorem AR2(f k γ:Nat)(T:cx)(es:List (List V)):AV ⟨[],pl k γ T es⟩ (f+1) (pv k γ es)=some (sl es):=J8 (T:=T) f _ k γ es rfl
@[simp] theorem AY6{T:cx}(h:DP P T=true)(es:List (List V)):GQ P T (sl es)=some (.int .i64 es.length):=by
 cases es with
 |nil=>exact tL h
 |cons e es=>exact mG h _ _
@[simp] theorem A9V(e:cx)(es:List (List V))(k:cr)(j:Int):ia P s (sl es) (.int k j) (some (none,e))=if 0<=j/\j<es.length/\(es.getD j.toNat []).length=P.cellsOf e/\0<P.cellsOf e then some (.ref (es.getD j.toNat [])) else none:=by
 cases es with
 |nil=>
  rw[if_neg (by simp only[bq];omega)]
  rfl
 |cons z es=>rfl
@[simp] theorem AR3(f:Nat)(es:List (List V)):AL (f+1) (sl es)=es.all fun e=>e.all (AL f):=by cases es<;>rfl
@[simp] theorem AY7(es:List (List V)):weakN (sl es)=.list false es:=by cases es<;>rfl
@[simp] theorem AY8(es:List (List V)):weakM (sl es)=.list false es:=by cases es<;>rfl
@[simp] theorem A24(es:List (List V)):weakV (sl es)=sl es:=by cases es<;>rfl
@[simp] theorem AY9(es:List (List V)):weakC (sl es)=sl es:=by cases es<;>rfl
@[simp] theorem AR4(es:List (List V)):A7 (sl es)=[sl es]:=by cases es<;>rfl
@[simp] theorem AR5(es:List (List V)):BC (sl es)=true:=by cases es<;>rfl
@[simp] theorem AR6(k γ:Nat)(es:List (List V)):A7 (pv k γ es)=[pv k γ es]:=by cases es<;>rfl
@[simp] theorem AR7(k γ:Nat)(es:List (List V)):BC (pv k γ es)=true:=by cases es<;>rfl
@[simp] theorem AM8(es:List (List V)):elemsOf s (sl es)=some es:=by cases es<;>rfl
@[simp] theorem AR8(f:Nat)(es:List (List V)):AV s (f+1) (sl es)=some (sl es):=by cases es<;>rfl
@[simp] theorem AR9(es:List (List V)):DV (some (sl es))=[]:=by cases es<;>rfl
@[simp] theorem ASA(es:List (List V)):IQ (some (sl es))=[]:=by cases es<;>rfl
def adV(P:cd)(e:cx)(d c:Nat)(fr:Fr)(s:St)(xv:V)(ys:List (List V)):Option (XS×AG):=match H4 xv ys with
 |some es=>if es.all (fun y=>y.length==P.cellsOf e)=true/\CL P e es.length ys=true then some (⟨c+1,(d,true,.vec s.up.length d c (es.length+ys.length))::fr,s.put s.up.length d c (.vec e (es++ys))⟩,[(s.up.length,d),(s.up.length,d+RK)]) else none
 |none=>match xv with
  |.vec l q γ n=>wp [(l,q),(l,q+RK)] (apW P e d c fr s l q γ n ys (OY n ys (s.get l q)))
  |_=>none
def ad4(P:cd)(e:cx)(d c:Nat)(fr:Fr)(s:St)(xv:V):Option (List (List V))->Option (XS×AG)
 |some ys=>adV P e d c fr s xv ys
 |none=>none
@[simp] theorem AAS(e:cx)(d c:Nat)(xv:V)(ys:List (List V)):ad4 P e d c fr s xv (some ys)=adV P e d c fr s xv ys:=rfl
def ad3(P:cd)(d c:Nat)(fr:Fr)(s:St):Option (Option Nat×cx)->Option V->Option V->Option (XS×AG)
 |some (none,e),some xv,some yv=>ad4 P e d c fr s xv (elemsOf s yv)
 |_,_,_=>none
@[simp] theorem AAT(d c:Nat)(e:cx)(xv yv:V):ad3 P d c fr s (some (none,e)) (some xv) (some yv)=ad4 P e d c fr s xv (elemsOf s yv):=rfl
@[simp] theorem AHT(b:Bool)(es:List (List V)):jN (.list b es)=some es:=rfl
@[simp] theorem AM9:jN .nil=some []:=rfl
@[simp] theorem ASB(es:List (List V)):jN (sl es)=some es:=by cases es<;>rfl
@[simp] theorem ASC(d:Tmp)(c:Nat)(x y:cz)(T:cx):B9 P E (some d) (.app [x,y] [T,T]) ⟨c,fr,s⟩=ad3 P d c fr s (BK P T) (BO fr x) (BO fr y):=by
 show xAppD P (some d) [x,y] [T,T] _=_;unfold xAppD xAppG;simp only[bt];cases hT:BK P T with
 |none=>cases BO fr x<;>cases BO fr y<;>rfl
 |some p=>
  obtain⟨k,e⟩:=p
  cases k with
  |some k=>cases BO fr x<;>cases BO fr y<;>rfl
  |none=>
   cases BO fr x with
   |none=>rfl
   |some xv=>
    cases BO fr y with
    |none=>rfl
    |some yv=>
     simp only[AAT]
     cases elemsOf s yv with
     |none=>rfl
     |some ys=>
      simp only[AAS,adV]
      cases H4 xv ys with
      |some es=>
       simp only[ifB,bj,bw]
       by_cases hC:es.all (fun y=>y.length==P.cellsOf e)=true/\CL P e es.length ys=true
       ·rw[if_pos hC,if_pos hC]
       ·rw[if_neg hC,if_neg hC]
      |none=>
       simp only
       unfold eZ
       cases xv with
       |vec l q γ n=>
        simp only
        cases OY n ys (s.get l q)with
        |none=>rfl
        |some z=>
         obtain⟨γ',r⟩:=z
         cases r with
         |vec W es=>
          simp only[ifB,bj,bw,QT,cj,and_assoc]
          by_cases hC:γ'=γ/\W=e/\n=es.length/\es.all (fun y=>y.length==P.cellsOf e)=true/\CL P e es.length ys=true
          ·rw[if_pos hC,if_pos hC];rfl
          ·rw[if_neg hC,if_neg hC];rfl
         |_=>rfl
       |_=>rfl
@[simp] theorem A62(e k c γ:Nat)(loc:AB)(es:List (List V))(y:List V)(ys:List (List V))(hl:AB.get loc k=(pl k γ e es).get k)(h1:es.all (fun y=>y.length==P.cellsOf e)=true)(h2:CL P e es.length (y::ys)=true) :
  adV P e k c fr ⟨[],loc⟩ (pv k γ es) (y::ys)=some (⟨c+1,(k,true,pv k c (es++y::ys))::fr,⟨[],(k,c,.vec e (es++y::ys))::loc⟩⟩,[(0,k),(0,k+RK)]):=by
 cases es with
 |nil=>
  simp only[bq]at h2
  simp[adV,H4,h2,pv]
 |cons z es=>
  have hl:AB.get loc k=some (γ,.vec e (z::es)):=by rw[hl];simp
  simp only[pv,adV,H4,AAP,bq,if_true,hl,gT,RD,QT,true_and,h1,h2]
  simp[Nat.add_comm,Nat.add_left_comm]
end Go.Pg
namespace Go.Pg
variable {P:cd}{E:XE}{st:XS}{fr:Fr}{s:St}
theorem mH{α:Type}(x:α):DJ [x]=some ([],x):=rfl
def un1{α:Type}(x:α):Option (List α×α)->Option (List α×α)
 |some (a,b)=>some (x::a,b)
 |none=>none
@[simp] theorem AZA{α:Type}(x:α)(a:List α)(b:α):un1 x (some (a,b))=some (x::a,b):=rfl
theorem SZ{α:Type}(x y:α)(l:List α):DJ (x::y::l)=un1 x (DJ (y::l)):=by simp only[DJ];unfold un1;cases DJ (y::l)<;>rfl
attribute [simp] mH SZ
def tM(d:Option Tmp)(fr:Fr)(c:Nat)(r:V):Option (List AB×AB)->Option XS
 |some (u,l)=>some ⟨c,putD fr d true r,⟨u,l⟩⟩
 |none=>none
@[simp] theorem ASD(d:Tmp)(c:Nat)(r:V)(u:List AB)(l:AB):tM (some d) fr c r (some (u,l))=some ⟨c,(d,true,r)::fr,⟨u,l⟩⟩:=rfl
@[simp] theorem A25(c:Nat)(r:V)(u:List AB)(l:AB):tM none fr c r (some (u,l))=some ⟨c,fr,⟨u,l⟩⟩:=rfl
def gX(d:Option Tmp)(fr:Fr)(st:XS):Option V->Option XS
 |some r=>tM d fr st.c r (DJ (st.s.up.map (A6 st.s)))
 |none=>none
@[simp] theorem ASE(d:Option Tmp)(c:Nat)(fr':Fr)(up:List AB)(loc:AB)(r:V):gX d fr ⟨c,fr',⟨up,loc⟩⟩ (some r)=tM d fr c r (DJ (up.map (A6 ⟨up,loc⟩))):=rfl
def clX(s:St):Option V->Option V
 |some r=>AV s 4 r
 |none=>none
@[simp] theorem AZB(r:V):clX s (some r)=AV s 4 r:=rfl
def mI(P:cd)(d:Option Tmp)(fr:Fr)(rs:List ResultVar)(r:Option (Exit×XS)):Option XS:=match r with
 |some (.ret,st)=>gX d fr st (clX st.s (E8 P rs st.fr st.s))
 |some (.normal,st)=>gX d fr st (clX st.s (E8 P rs st.fr st.s))
 |_=>none
@[simp] theorem AAU(d:Option Tmp)(rs:List ResultVar):mI P d fr rs (some (.ret,st))=gX d fr st (clX st.s (E8 P rs st.fr st.s)):=rfl
@[simp] theorem gY(d:Option Tmp)(rs:List ResultVar):mI P d fr rs (some (.normal,st))=gX d fr st (clX st.s (E8 P rs st.fr st.s)):=rfl
theorem gZ{A:Ann}{kn:CF0}{n:Nat}{f:cp}{fn:Func}{code:cm}{args:List V}(hf:P.funcs[f]? = some fn)(hb:fn.body=some code)(hs:cq args.length fn.ntmps=true)(hcl:(args.all (AL 9)&&!(BF P f))=false)(d:Option Tmp)(c:Nat)(fr:Fr)(up:List AB)(loc:AB) :
  NS (BU P A kn n) d ⟨c,fr,⟨up,loc⟩⟩ f args=mI P d fr fn.results.toList (AF P A kn n fn.ntmps code ⟨c,AJ 0 args,⟨up++[loc],[]⟩⟩):=by
 show(match SS P kn (AF P A kn n) f args ⟨c,fr,⟨up,loc⟩⟩ with
  |some (r,st')=>some (⟨st'.c,putD st'.fr d true r,st'.s⟩:XS)
  | none=>none)=_
 unfold SS
 rw[hcl]
 unfold Y0 V5 nV
 rw[hf]
 simp only[hb,hs]
 generalize AF P A kn n fn.ntmps code ⟨c,AJ 0 args,⟨up++[loc],[]⟩⟩=q
 have aux:∀st:XS,(match(match(match sA P fn.results.toList st with
   |some (r,c,up)=>match DJ up with
    |some (u,l)=>some (r,(⟨c,fr,⟨u,l⟩⟩:XS))
    |none=>none
   | none=>none:Option (V×XS))with
   |some r=>some r
   | none=>none:Option (V×XS))with
  |some (r,st')=>some (⟨st'.c,putD st'.fr d true r,st'.s⟩:XS)
  | none=>none)=gX d fr st (clX st.s (E8 P fn.results.toList st.fr st.s)):=fun st=>by
  unfold sA clX
  cases E8 P fn.results.toList st.fr st.s with
  |none=>rfl
  |some r=>
   cases h:AV st.s 4 r with
   |none=>simp[gX,h]
   |some r'=>
    simp only[h,gX]
    cases DJ (st.s.up.map (A6 st.s))with
    |none=>rfl
    |some z=>rfl
 cases q with
 |none=>rfl
 |some q=>
  obtain⟨e,st⟩:=q
  have:=aux st
  cases e with
  |ret=>simp only[AAU,<-this];cases sA P fn.results.toList st with
   |none=>rfl
   |some z=>
    obtain⟨r,c,up⟩:=z
    simp only
    cases DJ up<;>rfl
  |normal=>simp only[gY,<-this];cases sA P fn.results.toList st with
   |none=>rfl
   |some z=>
    obtain⟨r,c,up⟩:=z
    simp only
    cases DJ up<;>rfl
  |_=>rfl
theorem CC{A:Ann}{kn:CF0}{n:Nat}{f:cp}{fn:Func}{code:cm}{args:List V}(hf:P.funcs[f]? = some fn)(hb:fn.body=some code)(hs:cq args.length fn.ntmps=true)(hcl:args.all (AL 9)=false)(d:Option Tmp)(c:Nat)(fr:Fr)(up:List AB)(loc:AB) :
  NS (BU P A kn n) d ⟨c,fr,⟨up,loc⟩⟩ f args=mI P d fr fn.results.toList (AF P A kn n fn.ntmps code ⟨c,AJ 0 args,⟨up++[loc],[]⟩⟩) :=
 gZ hf hb hs (by rw[hcl,Bool.false_and]) d c fr up loc
theorem AEU{A:Ann}{kn:CF0}{n:Nat}{f:cp}{fn:Func}{code:cm}{args:List V}(hf:P.funcs[f]? = some fn)(hb:fn.body=some code)(hs:cq args.length fn.ntmps=true)(hh:BF P f=true)(d:Option Tmp)(c:Nat)(fr:Fr)(up:List AB)(loc:AB) :
  NS (BU P A kn n) d ⟨c,fr,⟨up,loc⟩⟩ f args=mI P d fr fn.results.toList (AF P A kn n fn.ntmps code ⟨c,AJ 0 args,⟨up++[loc],[]⟩⟩) :=
 gZ hf hb hs (by rw[hh,Bool.not_true,Bool.and_false]) d c fr up loc
@[simp] theorem ANB(f l k g o:Nat):AL (f+1) (.ptr l k g o)=false:=rfl
@[simp] theorem ANC(f l k g o:Nat):AL (f+1) (.vec l k g o)=false:=rfl
@[simp] theorem ASF(f l k g:Nat):AL (f+1) (.mp l k g)=false:=rfl
@[simp] theorem AZC(l k g o:Nat):weakV (.ptr l k g o)=.ptr l k g o:=rfl
@[simp] theorem AZD(l k g o:Nat):weakV (.vec l k g o)=.vec l k g o:=rfl
@[simp] theorem AZE(cs:List V):weakV (.ref cs)=.ref cs:=rfl
@[simp] theorem A64(d c:Nat)(f:cp)(x y:List V):bx1 d c fr s (some (.fn f x y))=some ⟨c+1,(d,true,.ptr s.up.length d c 0)::fr,s.put s.up.length d c (.box [.fn f x y])⟩:=rfl
@[simp] theorem A26(d c:Nat)(l k g o:Nat):bx1 d c fr s (some (.ptr l k g o))=some ⟨c+1,(d,true,.ptr s.up.length d c 0)::fr,s.put s.up.length d c (.box [.ptr l k g o])⟩:=rfl
@[simp] theorem A65(d c:Nat)(es:List (List V)):bx1 d c fr s (some (sl es))=some ⟨c+1,(d,true,.ptr s.up.length d c 0)::fr,s.put s.up.length d c (.box [sl es])⟩:=by cases es<;>rfl
@[simp] theorem IZ:A6 s []=[]:=rfl
@[simp] theorem MZ(k g:Nat)(r:AY)(L:AB):A6 s ((k,g,r)::L)=(k,g,BT s r)::A6 s L:=rfl
def sr1(r:AY):Option (List V)->AY
 |some ds=>.box ds
 |none=>r
@[simp] theorem AZF(r:AY)(ds:List V):sr1 r (some ds)=.box ds:=rfl
theorem hH(cs:List V):BT s (.box cs)=sr1 (.box cs) (FW (BM s) cs):=by unfold BT BN sr1;simp only;cases FW (BM s) cs<;>rfl
attribute [simp] hH
theorem mJ(f:V->Option V):FW f []=some []:=rfl
theorem hJ(f:V->Option V)(v:V)(l:List V):FW f (v::l)=mc2 (f v) (FW f l):=by
 simp only[FW];cases f v with
 |none=>rfl
 |some x=>cases FW f l<;>rfl
attribute [simp] mJ hJ
@[simp] theorem AHU(k:cr)(n:Int):BM s (.int k n)=some (.int k n):=rfl
@[simp] theorem AEV(b:Bool):BM s (.bool b)=some (.bool b):=rfl
@[simp] theorem AEW(b:Bool)(es:List (List V)):BM s (.list b es)=some (.list b es):=rfl
@[simp] theorem AHV:BM s .nil=some .nil:=rfl
@[simp] theorem AND(es:List (List V)):BM s (sl es)=some (sl es):=by cases es<;>rfl
@[simp] theorem ANE(f:cp)(x y:List V):BM s (.fn f x y)=AV s 4 (.fn f x y):=rfl
@[simp] theorem AHW(l k g o:Nat):BM s (.ptr l k g o)=AV s 4 (.ptr l k g o):=rfl
@[simp] theorem AHX(l k g o:Nat):BM s (.vec l k g o)=AV s 4 (.vec l k g o):=rfl
@[simp] theorem AHY(cs:List V):BM s (.agg cs)=AV s 4 (.agg cs):=rfl
@[simp] theorem ASG(f:Nat)(g:cp)(x y:List V):AV s (f+1) (.fn g x y)=fn2 g (OC (AV s f) x) (OC (AV s f) y):=by simp only[AV,QU,fn2];cases OC (AV s f) x<;>cases OC (AV s f) y<;>rfl
def cp1(f:List V->Option (List V))(g off:Nat):Option (Nat×AY)->Option V
 |some (g',.box cs)=>if g'=g then(f cs).map fun ds=>.ref (ds.drop off) else none
 |_=>none
@[simp] theorem ANF(f:Nat)(up:List AB)(loc:AB)(l k g off:Nat):AV ⟨up,loc⟩ (f+1) (.ptr l k g off)=if l=up.length then cp1 (OC (AV ⟨up,loc⟩ f)) g off (loc.get k) else some (.ptr l k g off):=by
 simp only[AV,QU];split
 ·cases loc.get k with
  |none=>rfl
  |some z=>obtain⟨g',r⟩:=z;cases r<;>rfl
 ·rfl
def ow3(d c:Nat)(fr:Fr)(s:St):Option V->Option XS
 |some r=>some ⟨c+1,(d,true,r)::fr,s.put s.up.length d c .dead⟩
 |none=>none
@[simp] theorem hO(d c:Nat)(r:V):ow3 d c fr s (some r)=some ⟨c+1,(d,true,r)::fr,s.put s.up.length d c .dead⟩:=rfl
theorem WT{A:Ann}{kn:CF0}{n:Nat}{f:cp}{d c:Nat}{fr:Fr}{s:St}{x:cz}{args:List cz}{first cap vs:List V}{r:V}(hf:BO fr x=some (.fn f first cap))(hv:DU (BO fr) args=some vs)(hS:K5 P f=false)(hr:AL 9 r=true)(h:EC P kn (AF P A kn n) f ((first++vs++cap).map weakV)=some r) :
  stepK P (BU P A kn n) (some d) (.call true none x args) ⟨c,fr,s⟩=ow3 d c fr s (some r):=by
 show OJ (BU P A kn n) true (some d) x args ⟨c,fr,s⟩=_
 unfold OJ
 show(match EA (BU P A kn n).co (some d) x args ⟨c,fr,s⟩ with|some st'=>some st'|none=>_)=_
 unfold EA
 simp only[hf,hv]
 have:(BU P A kn n).co f ((first++vs++cap).map weakV) d=some ⟨.dead,some r⟩:=by show IM P kn (fun _ _ _=>none) (AF P A kn n) f _ d=_;unfold IM;simp only[hS,h]
 rw[this]
 simp only[Mk.val,BP 9 r hr,hO]
theorem AEX:BT s .dead=.dead:=rfl
attribute [simp] AEX
end Go.Pg
theorem Go.Pg.qNz (m:Nat)(h:0<m):∃k,m=k+1:=⟨m-1,by omega⟩
