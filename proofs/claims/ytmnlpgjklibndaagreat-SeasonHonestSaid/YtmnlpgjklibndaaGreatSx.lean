/- Operations of a region with all that hangs on the region alone worked out; running them one after another. No program in sight. -/
import Derived.Test.YtmnlpgjklibndaaGreatQ2
noncomputable section
open Go renaming TypeId->cx,Operand->cz,Program->cd,Oper->cg,Code->cm,FuncId->cp,IntKind->cr
open Bool renaming and_eq_true->bj
open List renaming length_nil->bq,length_append->bw,getElem?_eq_getElem->bz,mapM_cons->bf,all_cons->bn,replicate->br,mapM_nil->ck
open Nat renaming beq->bx,blt_eq->bc,eq_of_beq_eq_true->bg,blt->bh,le_trans->bp,beq_refl->bt,beq_eq->cj,ble->cq
namespace Go.Pg
variable {P:cd}{E:XE}
inductive IK where
 |mv (x:cz)
 |bin (op:BinOp) (T:cx) (x y:cz)
 |fa (T:cx) (x:cz) (f:Nat)
 |ld (T:cx) (x:cz)
 |ldz (T:cx) (x:cz)
 |pick (c a b:cz)
 |build (T:cx) (ps:List (Nat×cz))
 |buildS (T:cx) (n:Nat) (ps:List (Nat×cz))
 |oth (op:Op)
 |alloc (T:cx)
 |box (x:cz)
 |mkM (r:Option cz)
 |mkS (T:cx) (x y:cz)
 |sto (T:cx) (x y:cz)
 |upd (T:cx) (x i y:cz)
 |call (own:Bool) (tk:Option Tmp) (f:cz) (args:List cz)
 |callM (own:Bool) (t:Tmp) (f:cz) (args:List cz)
 |app (args:List cz) (Ts:List cx)
 |appS (args:List cz) (Ts:List cx)
 |clr (args:List cz) (Ts:List cx)
 |cpy (args:List cz) (Ts:List cx)
def mL (op : Op) : cg := { dst := none, op := op, type := 0, pos := "", after := #[], guard := none }
def KH(all:List cg)(o:cg):IK:=match o.op with
 |.move x=>.mv x
 |.assign x=>.mv x
 |.binOp op T x y _=>.bin op T x y
 |.fieldAddr T x f=>.fa T x f
 |.load T x=>.ld T x
 |.pick c a b=>.pick c a b
 |.build T ps=>.build T ps.toList
 |.buildSlice T n ps=>.buildS T n ps.toList
 |.alloc T=>.alloc T
 |.box _ x=>.box x
 |.makeMap _ r=>.mkM r
 |.makeSlice T x y=>.mkS T x y
 |.store T x y=>.sto T x y
 |.mapUpdate T x i y=>.upd T x i y
 |.call c=>match c.callee with
  |.value f=>match VJ all c.args.toList with
   |some t=>.call (DD all o) (some t) f c.args.toList
   |none=>match aO all c.args.toList with
    |some t=>.callM (DD all o) t f c.args.toList
    |none=>.call (DD all o) none f c.args.toList
  |.builtin .append=>cond (sealD o.dst) (.appS c.args.toList c.argTypes.toList) (.app c.args.toList c.argTypes.toList)
  |.builtin .clear=>.clr c.args.toList c.argTypes.toList
  |.builtin .copy=>.cpy c.args.toList c.argTypes.toList
  |_=>.oth o.op
 |op=>.oth op
structure IQ where
 g:Option (Tmp×Bool)
 d:Option Tmp
 k:IK
def comp(all:List cg)(o:cg):IQ:=⟨KR all o,o.dst,KH all o⟩
def AES:IK->IK
 |.ld T x=>.ldz T x
 |k=>k
def cZ(all:List cg)(o:cg):IQ:=⟨KR all o,o.dst,cond (zB all o) (AES (KH all o)) (KH all o)⟩
def DH(d:Option Tmp)(st:XS)(r:Option V):Option XS:=match r with
 |some v=>some ⟨st.c,putD st.fr d true v,st.s⟩
 |none=>none
def AL6(tk:Option Tmp)(st:XS):XS:=match tk with
 |none=>st
 | some t=>match(match E5 st.fr t with
   |some (true,.vec l q γ n)=>match st.s.get l q with
    |some (γ',.vec _ es)=>Bool.rec none (some ⟨st.c,(t,true,.list false (es.take n))::st.fr,st.s.put l q γ .dead⟩) (bx γ' γ&&cq n es.length&&bh γ st.c)
    |_=>none
   | _=>none:Option XS)with
  |some st1=>st1
  |none=>st
def Y9(P:cd)(args:List cz)(Ts:List cx)(fr:Fr):Option V:=match args,Ts with
 | [x,y],[T,U]=>cond (bx T U) (match BV fr x,BV fr y with
  |some xv,some yv=>NN P T xv yv
  | _,_=>none) none
 |_,_=>none
theorem vB{o:cg}{args:Array cz}{Ts:Array cx}{fr:Fr}(h:sealD o.dst=true):appS P true o args Ts fr=Y9 P args.toList Ts.toList fr:=by
 unfold appS Y9;split
 ·rename_i x y T U hx hT;simp only[hx,hT,h,true_and,<-DM];by_cases e:T=U
  ·subst e;rw[if_pos rfl,bt];cases BV fr x with
   |none=>rfl
   |some xv=>cases BV fr y<;>rfl
  ·rw[if_neg e];cases hb:bx T U with
   |true=>exact absurd (bg hb) e
   |false=>rfl
 ·rename_i hn;split
  ·rename_i x y T U hx hT;exact(hn x y T U hx hT).elim
  ·rfl
def stepK(P:cd)(E:XE)(d:Option Tmp)(k:IK)(st:XS):Option XS:=match k with
 |.mv x=>DH d st (BV st.fr x)
 |.bin op T x y=>DH d st (xT P st.fr op T x y)
 |.fa T x f=>DH d st (xFA P st.fr T x f)
 |.ld T x=>DH d st (N5 P st.fr st.s T x)
 |.ldz T x=>DH d st (N5 P st.fr st.s T x)
 |.pick c a b=>DH d st (tS st.fr c a b)
 |.build T ps=>DH d st (TQ P st.fr T ps)
 |.buildS T n ps=>DH d st (O6 P st.fr T n ps)
 |.oth op=>DH d st (IU P (mL op) st.s (BV st.fr))
 |.alloc T=>OA P d T st
 |.box x=>lN d x st
 |.mkM r=>yB d r st
 |.mkS T x y=>U1 P d T x y st
 |.sto T x y=>I0 P d T x y st
 |.upd T x i y=>yC P d T x i y st
 |.call own tk f args=>P4 E own d f args (AL6 tk st)
 |.callM own t f args=>P4 E own d f args (K9 t st)
 |.app args Ts=>xAppend P d args Ts st
 |.appS args Ts=>DH d st (Y9 P args Ts st.fr)
 |.clr args Ts=>TZ P d args Ts st
 |.cpy args Ts=>tU P d args Ts st
def opI(P:cd)(E:XE)(i:IQ)(st:XS):Option XS:=match gdX st.fr i.g with
 |some true=>stepK P E i.d i.k st
 |some false=>some (HR i.d st)
 |none=>none
def opO(P:cd)(E:XE)(i:IQ)(r:Option XS):Option XS:=match r with
 |some st=>opI P E i st
 |none=>none
def OJ(P:cd)(E:XE):List IQ->Option XS->Option XS
 |[],r=>r
 |i::l,r=>OJ P E l (opO P E i r)
theorem ZA(all:List cg)(st:XS):∀(xs:List cz),(match N6 all st xs with
  |some st1=>st1
  | none=>st)=AL6 (VJ all xs) st
 |[]=>rfl
 |x::r=>by
  unfold N6 VJ;cases x with
  |tmp t=>
   simp only
   cases AIF all t with
   |false=>exact ZA all st r
   |true=>rfl
  |_=>exact ZA all st r
theorem A3C{o:cg}{st:XS}:AC5 P (fun _=>false) o st=none:=by unfold AC5;split<;>rfl
theorem AET(hl:E.lit=fun _=>false)(all:List cg)(o:cg)(st:XS):opX P E all o st=opI P E (comp all o) st:=by
  unfold opX opI;rw[hl];simp only[A3C];have:(match tW all o st with
      |some st1=>P5 P E (DD all) o st1
      | none=>P5 P E (DD all) o st)=stepK P E o.dst (KH all o) st:=by
    have ht:∀(r:Option XS),(match r with
      |some st1=>P5 P E (DD all) o st1
      | none=>P5 P E (DD all) o st)=P5 P E (DD all) o (match r with
      |some st1=>st1
      | none=>st):=fun r=>by cases r <;> rfl
    rw[ht]
    obtain⟨d,op,T,pos,af,gd⟩:=o
    cases op with
    |call c=>
      obtain⟨cal,args,Ts⟩:=c
      cases cal with
      |value f=>
        have e1:=ZA all st args.toList
        show P5 P E _ _ (match(match VJ all args.toList with
          |some _=>N6 all st args.toList
          |none=>match aO all args.toList with
            |some t=>some (K9 t st)
            | none=>none:Option XS)with | some st1=>st1 | none=>st)=stepK P E d (match VJ all args.toList with
          |some t=>.call (DD all _) (some t) f args.toList
          |none=>match aO all args.toList with
            |some t=>.callM (DD all _) t f args.toList
            | none=>.call (DD all _) none f args.toList) st
        cases ht:VJ all args.toList with
        |some t=>
          rw[ht]at e1
          simp only
          rw[e1]
          rfl
        |none=>cases aO all args.toList<;>rfl
      |builtin b=>
        cases b<;>first
          |rfl
          | (show(Bool.rec (xAppend P d args.toList Ts.toList st) (xVal P _ st) (sealD d):Option XS)=stepK P E d (cond (sealD d) (.appS args.toList Ts.toList) (.app args.toList Ts.toList)) st
             cases hs:sealD d with
             |false=>rfl
             |true=>
               show xVal P _ st=DH d st (Y9 P args.toList Ts.toList st.fr)
               unfold xVal xU
               simp only
               rw[vB hs]
               rfl)
      |_=>rfl
    |_=>rfl
  show _=(match gdX st.fr (KR all o)with
    |some true=>stepK P E o.dst (KH all o) st
    |some false=>some (HR o.dst st)
    | none=>none)
  cases gdX st.fr (KR all o)with
  |none=>rfl
  |some b=>
    cases b with
    |false=>rfl
    |true=>exact this
theorem H5:∀(l:List IQ),OJ P E l none=none
 |[]=>rfl
 |_::l=>H5 l
theorem gC(hl:E.lit=fun _=>false)(all:List cg):∀(l:List cg) (st:XS),fB P E all l st=OJ P E (l.map (comp all)) (some st)
 |[],st=>rfl
 |o::l,st=>by
  simp only[fB,List.map_cons,OJ,opO];rw[AET hl];cases opI P E (comp all o) st with
  |none=>exact(H5 _).symm
  |some st'=>exact gC hl all l st'
def F5(P:cd)(k:IK)(r:cz->Option V):AL:=match k with
 |.ld T x=>C5 (bx (P.cellsOf T) 1) (r x)
 |.app xs _=>H3 r xs
 |.appS xs _=>H3 r xs
 |.call _ _ f args=>cond (FV f) (QW r args) []
 |.callM _ _ f args=>cond (FV f) (QW r args) []
 |.oth op=>DT P (mL op) r
 |_=>[]
def CT(P:cd)(E:XE)(d:Option Tmp)(k:IK)(st:XS):Option (XS×AL):=match k with
 |.mv x=>noW (DH d st (BV st.fr x))
 |.bin op T x y=>noW (DH d st (xT P st.fr op T x y))
 |.fa T x f=>noW (DH d st (xFA P st.fr T x f))
 |.ld T x=>noW (DH d st (N5 P st.fr st.s T x))
 |.ldz T x=>noW (DH d st (N5 P st.fr st.s T x))
 |.pick c a b=>noW (DH d st (tS st.fr c a b))
 |.build T ps=>noW (DH d st (TQ P st.fr T ps))
 |.buildS T n ps=>noW (DH d st (O6 P st.fr T n ps))
 |.oth op=>noW (DH d st (IU P (mL op) st.s (BV st.fr)))
 |.alloc T=>noW (OA P d T st)
 |.box x=>noW (lN d x st)
 |.mkM r=>noW (yB d r st)
 |.mkS T x y=>noW (U1 P d T x y st)
 |.sto T x y=>AC9 P d T x y st
 |.upd ..=>none
 |.call own _ f args=>Bool.rec (noW (cond (FV f) (N7 E.c0 E.co d f args st) (FF E.c0 d f args st))) (noW (EV E.co d f args st)) own
 |.callM own _ f args=>Bool.rec (noW (cond (FV f) (N7 E.c0 E.co d f args st) (FF E.c0 d f args st))) (noW (EV E.co d f args st)) own
 |.app args Ts=>xAppD P d args Ts st
 |.appS args Ts=>noW (DH d st (Y9 P args Ts st.fr))
 |.clr ..=>none
 |.cpy ..=>none
def PV:IK->Bool
 |.sto ..|.app ..=>true
 |_=>false
def T7(P:cd)(E:XE)(i:IQ)(st:XS):Option (XS×AL):=match gdX st.fr i.g with
 |some true=>CT P E i.d i.k st
 |some false=>Bool.rec (some (HR i.d st,[])) none (PV i.k)
 |none=>none
def mM(P:cd)(E:XE)(i:IQ)(r:Option (XS×AL×AL)):Option (XS×AL×AL):=match r with
 |some (st,rd,wr)=>match T7 P E i st with
  |some (st',w)=>some (st',F5 P i.k (BV st.fr)++rd,w++wr)
  |none=>none
 |none=>none
def T8(P:cd)(E:XE):List IQ->Option (XS×AL×AL)->Option (XS×AL×AL)
 |[],r=>r
 |i::l,r=>T8 P E l (mM P E i r)
def ZB(r:Option (XS×AL×AL)):Option XS:=match r with
 |some (st,rd,wr)=>Bool.rec none (some st) (wr.all fun p=>!(rd.contains p))
 |none=>none
structure mN where
 new:List Tmp
 ph:List IQ
 sq:List IQ
def gD(new:List Tmp)(st:XS):Bool:=new.all fun d=>(st.s.loc.get d).isNone
def AEU(new:List Tmp)(r:Option XS):Option (XS×AL×AL):=match r with
 |some st=>Bool.rec none (some (st,[],[])) (gD new st)
 |none=>none
def T9(P:cd)(E:XE):List mN->Option XS->Option XS
 |[],r=>r
 |p::S,r=>T9 P E S (OJ P E p.sq (ZB (T8 P E p.ph (AEU p.new r))))
def dA(l:List cg)(R:List Nat):List IQ:=R.filterMap fun i=>(l[i]?).map (comp l)
def dB(l:List cg)(R:List Nat):List IQ:=R.filterMap fun i=>(l[i]?).map (cZ l)
def vC(l:List cg)(R:List Nat):List Tmp:=R.filterMap fun i=>match l[i]? with
 |some o=>cond (kA (DD l) o) o.dst none
 |none=>none
def mO(l:List cg)(p:List Nat×List Nat):mN:=⟨vC l p.1,dB l p.1,dA l p.2⟩
def EW(l:List cg)(S:VG):Bool:=S.all fun p=>p.1.all (fun i=>bh i l.length)&&p.2.all (fun i=>bh i l.length)
theorem yV(all:List cg)(o:cg)(st:XS):fE P E (DD all) o st=CT P E o.dst (KH all o) st:=by
  obtain⟨d,op,T,pos,af,gd⟩:=o;cases op with
  |call c=>
    obtain⟨cal,args,Ts⟩:=c
    cases cal with
    |builtin b=>
      cases b<;>first
        |rfl
        | (show(Bool.rec (xAppD P d args.toList Ts.toList st) (noW (xVal P _ st)) (sealD d):Option (XS×AL))=CT P E d (cond (sealD d) (.appS args.toList Ts.toList) (.app args.toList Ts.toList)) st
           cases hs:sealD d with
           |false=>rfl
           |true=>
             show noW (xVal P _ st)=noW (DH d st (Y9 P args.toList Ts.toList st.fr))
             unfold xVal xU
             simp only
             rw[vB hs]
             rfl)
    |value f=>
      unfold KH
      simp only
      cases VJ all args.toList with
      |some t=>rfl
      |none=>cases aO all args.toList<;>rfl
    |_=>rfl
  |_=>rfl
theorem AQ9(all:List cg)(o:cg)(r:cz->Option V):DT P o r=F5 P (KH all o) r:=by
  obtain⟨d,op,T,pos,af,gd⟩:=o;cases op with
  |call c=>
    obtain⟨cal,args,Ts⟩:=c
    cases cal with
    |builtin b=>
      cases b<;>first
        |rfl
        | (show H3 r args.toList=F5 P (cond (sealD d) (.appS args.toList Ts.toList) (.app args.toList Ts.toList)) r
           cases sealD d <;> rfl)
    |value f=>
      unfold KH
      simp only
      cases VJ all args.toList with
      |some t=>rfl
      |none=>cases aO all args.toList<;>rfl
    |_=>rfl
  |_=>rfl
theorem A3D(all:List cg)(o:cg):(kW o||kP o)=PV (KH all o):=by
  obtain⟨d,op,T,pos,af,gd⟩:=o;cases op with
  |call c=>
    obtain⟨cal,args,Ts⟩:=c
    cases cal with
    |builtin b=>
      cases b<;>first
        |rfl
        | (show(false||!sealD d)=PV (cond (sealD d) (.appS args.toList Ts.toList) (.app args.toList Ts.toList))
           cases sealD d <;> rfl)
    |value f=>
      unfold KH
      simp only
      cases VJ all args.toList with
      |some t=>simp[kW,kP,PV]
      |none=>cases aO all args.toList<;>simp[kW,kP,PV]
    |_=>rfl
  |_=>rfl
theorem AI6(all:List cg)(o:cg)(st:XS):pS P E all o st=T7 P E (comp all o) st:=by unfold pS T7;rw[yV,A3D];rfl
theorem rU(d:Option Tmp)(k:IK)(st:XS):CT P E d (AES k) st=CT P E d k st:=by cases k<;>rfl
theorem AI7(k:IK):PV (AES k)=PV k:=by cases k<;>rfl
theorem ARA(all:List cg)(o:cg)(st:XS):T7 P E (cZ all o) st=T7 P E (comp all o) st:=by
 unfold cZ comp;cases zB all o with
 |false=>rfl
 |true=>
  show T7 P E ⟨KR all o,o.dst,AES (KH all o)⟩ st=_
  unfold T7
  simp only[rU,AI7]
theorem ARB(all:List cg)(o:cg)(r:cz->Option V):cond (zB all o) [] (DT P o r)=F5 P (cZ all o).k r:=by
 unfold cZ;cases hz:zB all o with
 |false=>exact AQ9 all o r
 |true=>
  obtain⟨T,x,ho⟩:=ALQ hz
  show[]=F5 P (AES (KH all o)) r
  unfold KH
  rw[ho]
  rfl
theorem PA:∀(l:List IQ),T8 P E l none=none
 |[]=>rfl
 |_::l=>PA l
theorem AEV(l:List cg):∀(R:List Nat) (st:XS) (rd wr:AL),R.all (fun i=>bh i l.length)=true->phX P E l R st rd wr=T8 P E (dB l R) (some (st,rd,wr))
 |[],st,rd,wr,_=>rfl
 |i::R,st,rd,wr,h=>by
  simp only[bn,bj,bc]at h;have hi:=bz h.1;have hp:dB l (i::R)=cZ l l[i]::dB l R:=by simp[dB,hi]
  rw[hp];simp only[phX,hi,T8,mM,AI6,ARA];cases T7 P E (comp l l[i]) st with
  |none=>exact(PA _).symm
  |some q=>
   obtain⟨st',w⟩:=q
   simp only
   rw[AEV l R _ _ _ h.2,ARB l]
theorem AEW(hl:E.lit=fun _=>false)(l:List cg):∀(R:List Nat) (st:XS),R.all (fun i=>bh i l.length)=true->sqX P E l R st=OJ P E (dA l R) (some st)
 |[],st,_=>rfl
 |i::R,st,h=>by
  simp only[bn,bj,bc]at h;have hi:=bz h.1;have hp:dA l (i::R)=comp l l[i]::dA l R:=by simp[dA,hi]
  rw[hp];simp only[sqX,hi,OJ,opO,AET hl];cases opI P E (comp l l[i]) st with
  |none=>exact(H5 _).symm
  |some st'=>exact AEW hl l R st' h.2
theorem LA:∀(S:List mN),T9 P E S none=none
 |[]=>rfl
 |p::S=>by simp only[T9,AEU,PA,ZB,H5];exact LA S
theorem mP(l:List cg)(st:XS):∀(R:List Nat),YD (DD l) l R st.s.loc=gD (vC l R) st
 |[]=>rfl
 |i::R=>by
  have ih:=mP l st R;unfold YD gD vC at *;simp only[bn,List.filterMap_cons,ih];cases hi:l[i]? with
  |none=>simp
  |some o=>
   simp only
   cases hk:kA (DD l) o with
   |false=>simp
   |true=>
    cases hd:o.dst with
    |none=>simp
    |some d=>simp
theorem gE(hl:E.lit=fun _=>false)(l:List cg):∀(S:VG) (st:XS),EW l S=true->xY P E l S st=T9 P E (S.map (mO l)) (some st)
 |[],st,_=>rfl
 |p::S,st,h=>by
  simp only[EW,bn,bj]at h;obtain⟨⟨h1,h2⟩,h3⟩:=h;simp only[xY,List.map_cons,T9,mO,AEU,mP];cases gD (vC l p.1) st with
  |false=>
   simp only[PA,ZB,H5]
   exact(LA _).symm
  |true=>
   simp only[AEV l _ _ _ _ h1]
   cases T8 P E (dB l p.1) (some (st,[],[]))with
   |none=>simp only[ZB,H5];exact(LA _).symm
   |some q=>
    obtain⟨st1,rd,wr⟩:=q
    simp only[ZB]
    cases (wr.all fun p=>!rd.contains p)with
    |false=>simp only[H5];exact(LA _).symm
    |true=>
     simp only[AEW hl l _ _ h2]
     cases OJ P E (dA l p.2) (some st1)with
     |none=>exact(LA _).symm
     |some GU=>exact gE hl l S GU h3
inductive IR where
 |str (l:List IQ)
 |drw (S:List mN)
 |cls (ks:List (Nat×Nat×Nat))
def dC(P:cd)(ops:List cg)(draw:Bool):IR:=cond draw (cond (PT P ops) (.cls (HJ ops)) (.drw ((VK ops).map (mO ops)))) (.str (ops.map (comp ops)))
def okR(P:cd)(ops:List cg)(draw:Bool):Bool:=cond draw (cond (PT P ops) true (EW ops (VK ops))) true
def NF(P:cd)(E:XE)(i:IR)(st:XS):Option XS:=match i with
 |.str l=>OJ P E l (some st)
 |.drw S=>T9 P E S (some st)
 |.cls ks=>PU P ks (some st)
end Go.Pg
namespace Go.Pg
variable {P:cd}{σ σ':Nat->Nat}{δ:Nat}{pre:List AA}{s:St}{fr:Fr}
abbrev Tr:=Option (List Nat×List Nat)
abbrev Ann:=Nat->Nat->Tr
def CR(a:Tr)(st:XS):XS:=match a with
 |some p=>QV p.1 p.2 st
 |none=>st
theorem LB{a:Tr}{st:XS}(h:Bd st):H8 st (CR a st):=by
 cases a with
 |none=>exact⟨Nat.le_refl _,h,rfl⟩
 |some p=>exact SE h
theorem H9{a:Tr}{st:XS}:(CR a st).c=st.c:=by cases a<;>rfl
theorem JU{n N:Nat}{ρ:Option Nat}{c:cm}{K:Exit->Fr->St->Prop}{a:Tr}{st:XS}(h:BD P n N ρ c K ((CR a st).fr.ren σ pre.length) ((CR a st).s.emb σ pre)):BD P n N ρ c K (st.fr.ren σ pre.length) (st.s.emb σ pre):=by
 cases a with
 |none=>exact h
 |some p=>exact TU h
def A3E(P:cd)(E:XE)(a:Tr)(l:List cg)(draw:Bool)(st:XS):Option XS:=Bool.rec (fB P E l l (CR a st)) (Bool.rec (N8 P E l (CR a st)) (PU P (HJ l) (some (CR a st))) (PT P l)) draw
def isY:List Nat->Bool
 |k::_=>bx k 777
 |[]=>false
def gF(P:cd)(E:XE)(N:Nat)(a:Tr)(l:List cg)(draw:Bool)(us:List Nat)(st:XS):Option XS:=Bool.rec (A3E P (cfU us E) a l draw st) (Bool.rec none (uW P E N l (CR a st)) draw) (isY us)
def BR(rec:UY)(body:cm)(a:Tr)(n:Nat):XS->Option (Exit×XS):=Nat.rec (motive:=fun _=>XS->Option (Exit×XS)) (fun _=>none) (fun _ ih st=>match rec body st with
 |some (.normal,st')=>ih (CR a st')
 | r=>r) n
def QZ(id:Nat)(l:List cg):Nat:=id+1000*l.length+1000000*(match l with
 |o::_=>match o.dst with
  |some d=>d
  |none=>0
 | []=>0)
def CU:cm->Nat
 |.region id ops _=>QZ id ops.toList
 |.seq a _=>CU a
 |.block _ c=>CU c
 |.loop c=>CU c
 |.scope c=>CU c
 |_=>0
def SR:Tr->List Nat
 |some p=>p.1
 |none=>[]
def HU:Nat:=1000000000000000
def aU:Nat:=2000000000000000
def gp1(k:Nat)(st:XS):XS:=Bool.rec (Bool.rec (OC (k % 1000) (k / 1000 % 1000) st) (mvX ((k-1000) % 1000) ((k-1000) / 1000 % 1000) ((k-1000) / 1000000 % 1000) ((k-1000) / 1000000000 % 1000) ((k-1000) / 1000000000000) st) (bh k 1000000000000000)) (EK k st) (bh k 1000)
def gpL(ks:List Nat)(st:XS):XS:=List.rec (motive:=fun _=>XS->XS) (fun st=>st) (fun k _ ih st=>ih (gp1 k st)) ks st
def gpO(ks:List Nat):Option XS->Option XS
 |some st=>some (gpL ks st)
 |none=>none
@[simp] theorem A3F(ks:List Nat)(st:XS):gpO ks (some st)=some (gpL ks st):=rfl
@[simp] theorem A8D(st:XS):gpL [] st=st:=rfl
@[simp] theorem A3G(k:Nat)(ks:List Nat)(st:XS):gpL (k::ks) st=gpL ks (gp1 k st):=rfl
theorem ARC{k:Nat}(h:1000<=k)(h2:k<1000000000000000)(st:XS):gp1 k st=mvX ((k-1000) % 1000) ((k-1000) / 1000 % 1000) ((k-1000) / 1000000 % 1000) ((k-1000) / 1000000000 % 1000) ((k-1000) / 1000000000000) st:=by
 have h1:bh k 1000=false:=by rw[<-Bool.not_eq_true,bc];omega
 have h2:bh k 1000000000000000=true:=by simpa [bc]using h2
 unfold gp1;rw[h1,h2]
theorem ARD{k:Nat}{st:XS}(h:Bd st):(gp1 k st).c=st.c/\H8 st (gp1 k st)/\∀(σ:Nat->Nat) (pre:List AA),E3 (st.fr.ren σ pre.length) (st.s.emb σ pre) ((gp1 k st).fr.ren σ pre.length) ((gp1 k st).s.emb σ pre):=by
 unfold gp1;cases bh k 1000 with
 |true=>exact⟨rfl,K8 h,fun σ pre=>SJ⟩
 |false=>cases bh k 1000000000000000 with
  |true=>exact⟨ALX,uN h,fun σ pre=>AD5⟩
  |false=>exact⟨ADS,YZ h,fun σ pre=>fQ⟩
theorem AEX:∀(ks:List Nat) {st:XS},Bd st->(gpL ks st).c=st.c/\H8 st (gpL ks st)/\∀(σ:Nat->Nat) (pre:List AA),E3 (st.fr.ren σ pre.length) (st.s.emb σ pre) ((gpL ks st).fr.ren σ pre.length) ((gpL ks st).s.emb σ pre)
 |[],st,h=>⟨rfl,⟨Nat.le_refl _,h,rfl⟩,fun _ _ _ _ _ G _ _ hR=>⟨G,hR⟩⟩
 |k::ks,st,h=>by obtain⟨h1,h2,h3⟩:=ARD (k:=k) h;obtain⟨q1,q2,q3⟩:=AEX ks h2.bd;exact⟨q1.trans h1,⟨bp h2.c q2.c,q2.bd,q2.n.trans h2.n⟩,fun σ pre=>(h3 σ pre).trans (q3 σ pre)⟩
theorem yW{n N:Nat}{ρ:Option Nat}{c:cm}{K:Exit->Fr->St->Prop}{fr:Fr}{s:St}(h:BD P n N ρ c (fun e fr s=>∃fr2 s2,E3 fr s fr2 s2/\K e fr2 s2) fr s):BD P n N ρ c K fr s:=fun G0 G a w hR=>wpIn_mono (h G0 G a w hR) fun e a' w' hq=>by obtain⟨G',fr',s',hR',fr2,s2,hg,hk⟩:=hq;obtain⟨G2,hR2⟩:=hg _ _ _ _ _ _ hR';exact⟨G2,fr2,s2,hR2,hk⟩
theorem AI9:∀o:Option XS,gpO [] o=o
 |some _=>rfl
 |none=>rfl
def mQ:Tr->List Nat
 |some p=>p.2
 |none=>[]
def UA(P:cd)(E:XE)(A:Ann)(n N:Nat)(rec:UY):UY:=fun code st=>match code with
 |.region id ops draw=>SF (gpO (SR (A N (QZ id ops.toList+aU))) (gF P E N (A N (QZ id ops.toList)) ops.toList draw (mQ (A N (QZ id ops.toList+HU))) (T5 (SR (A N (QZ id ops.toList+HU))) st)))
 |.loop body=>BR rec body (A N (CU body)) n (CR (A N (CU body)) st)
 |c=>YN P E n N rec c st
def AG(P:cd)(A:Ann)(kn:CF0)(n:Nat):FU:=Nat.rec (motive:=fun _=>FU) (fun _ _ _=>none) (fun n ih N=>UA P (A19 P kn (fun _ _ _=>none) (fun _=>false) ih) A n N (ih N)) n
theorem AJA(hP:DR P){E:XE}(hEE:JQ P E){a:Tr}{id:Nat}{ops:Array cg}{draw:Bool}{N:Nat}(hN:EP N (.region id ops draw)=true){st st':XS}(hx:A3E P E a ops.toList draw st=some st')(hbd:Bd st):H8 st st' /\
  ∀(n:Nat) (ρ:Option Nat) (σ:Nat->Nat) (pre:List AA) (K:Exit->Fr->St->Prop),(∀σ',AR st.c σ σ'->K .normal (st'.fr.ren σ' pre.length) (st'.s.emb σ' pre))->BD P n N ρ (.region id ops draw) K (st.fr.ren σ pre.length) (st.s.emb σ pre):=by
 obtain⟨l⟩:=ops
 have hT:=LB (a:=a) hbd
 have ext:∀{st'},H8 (CR a st) st'->H8 st st':=fun h=>⟨by have:=h.c;rwa [H9]at this,h.bd,h.n.trans hT.n⟩
 cases draw with
 |false=>
  simp only[EP,cond_false,bj]at hN
  have hx:fB P E l l (CR a st)=some st':=hx
  obtain⟨hE,hs⟩:=fC hEE hT.bd hx
  refine⟨ext hE,fun n ρ σ pre K hk=>JU (a:=a) ?_⟩
  exact US (l.map (KR l)) hN.1 (fK (SG hN.2)) (hs σ pre _ fun σ' ha=>hk σ' (by rwa [H9]at ha))
 |true=>
  simp only[EP,cond_true]at hN
  cases hc:PT P l with
  |true=>
   have hx:(Bool.rec (N8 P E l (CR a st)) (PU P (HJ l) (some (CR a st))) (PT P l):Option XS)=some st':=hx
   rw[hc]at hx
   obtain⟨hE,hs⟩:=AI0 (id:=id) hP hN hc hx hT.bd
   exact⟨ext hE,fun n ρ σ pre K hk=>JU (a:=a) (hs n ρ σ pre K fun σ' ha=>hk σ' (by rwa [H9]at ha))⟩
  |false=>
  have hx:(Bool.rec (N8 P E l (CR a st)) (PU P (HJ l) (some (CR a st))) (PT P l):Option XS)=some st':=hx
  rw[hc]at hx
  obtain⟨hE,hs⟩:=Y7 (id:=id) hP hEE hN hx hT.bd
  exact⟨ext hE,fun n ρ σ pre K hk=>JU (a:=a) (hs n ρ σ pre K fun σ' ha=>hk σ' (by rwa [H9]at ha))⟩
theorem AJB(hP:DR P){E:XE}(hEE:JQ P E){a:Tr}{us:List Nat}{id:Nat}{ops:Array cg}{draw:Bool}{N:Nat}(hN:EP N (.region id ops draw)=true){st st':XS}(hx:gF P E N a ops.toList draw us st=some st')(hbd:Bd st):H8 st st' /\
  ∀(n:Nat) (ρ:Option Nat) (σ:Nat->Nat) (pre:List AA) (K:Exit->Fr->St->Prop),(∀σ',AR st.c σ σ'->K .normal (st'.fr.ren σ' pre.length) (st'.s.emb σ' pre))->BD P n N ρ (.region id ops draw) K (st.fr.ren σ pre.length) (st.s.emb σ pre):=by
 unfold gF at hx
 cases hy:isY us with
 |false=>rw[hy]at hx;exact AJA hP (AP6 hEE _) hN hx hbd
 |true=>
  rw[hy]at hx
  cases draw with
  |false=>cases hx
  |true=>
   have hx:uW P E N ops.toList (CR a st)=some st':=hx
   have hT:=LB (a:=a) hbd
   obtain⟨hE,hs⟩:=AEH hP hEE (id:=id) hx hT.bd
   refine⟨⟨by have:=hE.c;rwa [H9]at this,hE.bd,hE.n.trans hT.n⟩,fun n ρ σ pre K hk=>JU (a:=a) ?_⟩
   exact hs n ρ σ pre K fun σ' ha=>hk σ' (by rwa [H9]at ha)
theorem AEY{N:Nat}{rec:UY}(hrec:YQ P N rec){body:cm}{a:Tr}(hN:EP N body=true)(m:Nat){st st':XS}{e:Exit}(hx:BR rec body a m (CR a st)=some (e,st'))(hbd:Bd st):H8 st st'/\(∀l,e≠.goto l) /\
  ∀(n:Nat) (ρ:Option Nat) (σ:Nat->Nat) (pre:List AA) (K:Exit->Fr->St->Prop),(ρ=none\/F4 body=true)->(∀σ',AR st.c σ σ'->K e (st'.fr.ren σ' pre.length) (st'.s.emb σ' pre))->BD P n N ρ (.loop body) K (st.fr.ren σ pre.length) (st.s.emb σ pre):=by
 have up:∀{st st':XS},Bd st->H8 (CR a st) st'->H8 st st':=fun hbd h=>⟨by have:=h.c;rwa [H9]at this,h.bd,h.n.trans (LB hbd).n⟩
 have ext:∀(m:Nat) {st:XS},BR rec body a m (CR a st)=some (e,st')->Bd st->H8 st st'/\(∀l,e≠.goto l):=by
  intro m;induction m with
  |zero=>intro st hx _;cases hx
  |succ m ih=>
   intro st hx hbd
   have hx:(match rec body (CR a st)with
    |some (.normal,st')=>BR rec body a m (CR a st')
    | r=>r)=some (e,st'):=hx
   have hT:=LB (a:=a) hbd
   split at hx
   ·rename_i st1 h1;obtain⟨hE,_,_⟩:=hrec _ _ _ _ h1 hT.bd hN;obtain⟨hE',hg⟩:=ih hx hE.bd;exact⟨up hbd ⟨bp hE.c hE'.c,hE'.bd,hE'.n.trans hE.n⟩,hg⟩
   ·obtain⟨hE,hg,_⟩:=hrec _ _ _ _ hx hT.bd hN;exact⟨up hbd ⟨hE.c,hE.bd,hE.n⟩,hg⟩
 obtain⟨hE,hg⟩:=ext m hx hbd
 refine⟨hE,hg,fun n ρ σ pre K hρ hk=>?_⟩
 refine bW (fun m fr s=>∃(st:XS) (σ:Nat->Nat),fr=st.fr.ren σ pre.length/\s=st.s.emb σ pre/\Bd st/\BR rec body a m (CR a st)=some (e,st')/\∀σ',AR st.c σ σ'->K e (st'.fr.ren σ' pre.length) (st'.s.emb σ' pre)) m ⟨st,σ,rfl,rfl,hbd,hx,hk⟩ ?_
 rintro m fr s ⟨st,σ,rfl,rfl,hbd,hx,hk⟩
 cases m with
 |zero=>cases hx
 |succ m=>
  have hx:(match rec body (CR a st)with
   |some (.normal,st')=>BR rec body a m (CR a st')
   | r=>r)=some (e,st'):=hx
  have hT:=LB (a:=a) hbd
  refine JU (a:=a) ?_
  split at hx
  ·rename_i st1 h1;obtain⟨hE,_,hC⟩:=hrec _ _ _ _ h1 hT.bd hN;refine hC n ρ σ pre _ hρ fun σ' ha=>?_;rw[H9]at ha;exact⟨m,Nat.lt_succ_self _,st1,σ',rfl,rfl,hE.bd,hx,fun σ'' ha'=>hk σ'' (ha.trans ha' (by have:=hE.c;rwa [H9]at this))⟩
  ·rename_i hne;obtain⟨hE,hg,hC⟩:=hrec _ _ _ _ hx hT.bd hN;refine hC n ρ σ pre _ hρ fun σ' ha=>?_;rw[H9]at ha;have:=hk σ' ha;cases e with
   |normal=>exact absurd hx (hne st')
   |_=>exact this
theorem gG(hP:DR P){E:XE}(hEE:JQ P E){A:Ann}{N:Nat}{rec:UY}(hrec:YQ P N rec)(m:Nat):YQ P N (UA P E A m N rec):=by
 intro code st e st' hx hbd hN;unfold UA at hx;split at hx
 ·rename_i id ops draw;obtain⟨rfl,hx2⟩:=mI hx;have hT:=uR (SR (A N (QZ id ops.toList+HU))) hbd;generalize SR (A N (QZ id ops.toList+aU))=kp at hx2;cases hx3:gF P E N (A N (QZ id ops.toList)) ops.toList draw (mQ (A N (QZ id ops.toList+HU))) (T5 (SR (A N (QZ id ops.toList+HU))) st)with
  |none=>rw[hx3]at hx2;cases hx2
  |some st1=>
   rw[hx3]at hx2
   cases hx2
   obtain⟨hE,hs⟩:=AJB hP hEE hN hx3 hT.bd
   obtain⟨hc2,hT2,hg2⟩:=AEX kp hE.bd
   exact⟨⟨bp hT.c (bp hE.c hT2.c),hT2.bd,hT2.n.trans (hE.n.trans hT.n)⟩,(by intro l h;cases h),fun n ρ σ pre K _ hk=>mC _ (yW (hs n ρ σ pre _ fun σ' ha=>⟨_,_,hg2 σ' pre,hk σ' (by rwa [ALY]at ha)⟩))⟩
 ·rename_i body;have hN:EP N body=true:=hN;obtain⟨h1,h2,h3⟩:=AEY hrec hN m hx hbd;exact⟨h1,h2,fun n ρ σ pre K hρ hk=>h3 n ρ σ pre K hρ hk⟩
 ·exact mJ hP hEE hrec m _ _ _ _ hx hbd hN
theorem JV(hP:DR P){A:Ann}{kn:CF0}(hkn:EN P kn):∀n,TW P (AG P A kn n)
 |0=>fun N code st e st' hx=>by cases hx
 |n+1=>fun N=>by have ih:=JV hP (A:=A) hkn n;exact gG hP ⟨lM hP hkn ih,AI3 hP ih,YT hP hkn ih,ADG hP hkn (ko:=fun _ _ _=>none) (fun _ _ _ _ h=>by cases h) ih⟩ (ih N) n
theorem AEZ(hP:DR P){A:Ann}{kn:CF0}(hkn:EN P kn){n:Nat}{f:cp}{args:List V}{r:V}(h:EJ P (AG P A kn n) f args=some r)(s:St):DX P f args s fun r' s'=>r'=r/\s'=s :=
 (K7 hP (JV hP hkn n) f args r h).1 s
section
variable {A:Ann}{kn:CF0}{n N:Nat}{st:XS}
abbrev BS(P:cd)(A:Ann)(kn:CF0)(n:Nat):XE:=A19 P kn (fun _ _ _=>none) (fun _=>false) (AG P A kn n)
theorem AE0(a b:cm):AG P A kn (n+1) N (.seq a b) st=fF (AG P A kn n N) b (AG P A kn n N a st):=rfl
theorem yX(c:cz)(a b:cm):AG P A kn (n+1) N (.cond c a b) st=lH (AG P A kn n N) a b st (BV st.fr c):=rfl
theorem rV(id:Nat)(b:cm):AG P A kn (n+1) N (.block id b) st=MM id (AG P A kn n N b st):=rfl
theorem yY(b:cm):AG P A kn (n+1) N (.loop b) st=BR (AG P A kn n N) b (A N (CU b)) n (CR (A N (CU b)) st):=rfl
theorem yZ:AG P A kn (n+1) N .skip st=some (.normal,st):=rfl
theorem zA(id:Nat):AG P A kn (n+1) N (.exit id) st=some (.exit id,st):=rfl
theorem AE1:AG P A kn (n+1) N .ret st=some (.ret,st):=rfl
theorem rW(b:cm):AG P A kn (n+1) N (.scope b) st=AG P A kn n N b st:=rfl
theorem MT(g:cz)(ps:Array Tmp)(asg body:cm):AG P A kn (n+1) N (.rangeFunc g ps asg body) st=TV (BS P A kn n).cf N g ps.toList asg body st:=rfl
theorem AE2(a b:cm):CU (.seq a b)=CU a:=rfl
theorem rX(id:Nat)(b:cm):CU (.block id b)=CU b:=rfl
theorem zC(b:cm):CU (.loop b)=CU b:=rfl
theorem AE(rec:UY)(body:cm)(a:Tr):BR rec body a (n+1) st=match rec body st with
 |some (.normal,st')=>BR rec body a n (CR a st')
 |r=>r:=rfl
theorem mR(rec:UY)(b:cm):fF rec b (some (.normal,st))=rec b st:=rfl
theorem AE3(rec:UY)(b:cm):fF rec b (some (.ret,st))=some (.ret,st):=rfl
theorem zD(rec:UY)(b:cm)(i:Nat):fF rec b (some (.exit i,st))=some (.exit i,st):=rfl
theorem AE4(rec:UY)(b:cm)(c:Prop)[Decidable c](x y:Option (Exit×XS)):fF rec b (if c then x else y)=if c then fF rec b x else fF rec b y:=by split<;>rfl
theorem aV(id:Nat):MM id (some (.normal,st))=some (.normal,st):=rfl
theorem rY(id:Nat):MM id (some (.ret,st))=some (.ret,st):=rfl
theorem mS(id i:Nat):MM id (some (.exit i,st))=if i=id then some (.normal,st) else some (.exit i,st):=by
 show(Bool.rec _ _ (bx i id):Option (Exit×XS))=_;by_cases h:i=id
 ·subst h;simp
 ·have:bx i id=false:=by
   cases hb:bx i id with
   |false=>rfl
   |true=>exact absurd (bg hb) h
  simp[h,this]
theorem rZ(id:Nat)(c:Prop)[Decidable c](x y:Option (Exit×XS)):MM id (if c then x else y)=if c then MM id x else MM id y:=by split<;>rfl
def dD:cm->Bool
 |.region ..=>true
 |_=>false
def NB:cm->List cg
 |.region _ ops _=>ops.toList
 |_=>[]
def I1:cm->Bool
 |.region _ _ d=>d
 |_=>false
theorem WK(us:List Nat){E:XE}(h:E.lit=fun _=>false):(cfU us E).lit=fun _=>false:=by cases us<;>exact h
theorem dE{r:cm}(hr:dD r=true){i:IR}(hi:dC P (NB r) (I1 r)=i)(hok:okR P (NB r) (I1 r)=true){a:Tr}(ha:A N (CU r)=a){ks us:List Nat}(ht:SR (A N (CU r+HU))=ks)(hu:mQ (A N (CU r+HU))=us)(hy:isY us=false:=by rfl)(hp:A N (CU r+aU)=none:=by kernel_rfl):AG P A kn (n+1) N r st=SF (NF P (cfU us (BS P A kn n)) i (CR a (T5 ks st))):=by
 cases r with
 |region id ops draw=>
  subst hi ha ht hu
  show SF (gpO (SR (A N (CU (.region id ops draw)+aU))) (gF P _ N (A N (QZ id ops.toList)) ops.toList draw (mQ (A N (QZ id ops.toList+HU))) (T5 (SR (A N (QZ id ops.toList+HU))) st)))=_
  rw[hp,show SR none=[] from rfl,AI9]
  unfold gF
  rw[show isY (mQ (A N (QZ id ops.toList+HU)))=false from hy]
  cases draw with
  |false=>exact congrArg SF (gC (WK _ rfl) _ _ _)
  |true=>
   show SF (Bool.rec (N8 P _ ops.toList _) (PU P (HJ ops.toList) (some _)) (PT P ops.toList))=SF (NF P _ (cond (PT P ops.toList) (.cls (HJ ops.toList)) (.drw ((VK ops.toList).map (mO ops.toList)))) _)
   have hok:cond (PT P ops.toList) true (EW ops.toList (VK ops.toList))=true:=hok
   cases hc:PT P ops.toList with
   |true=>rfl
   |false=>
    rw[hc]at hok
    exact congrArg SF (gE (WK _ rfl) _ _ _ hok)
 |_=>cases hr
theorem LC{r:cm}(hr:dD r=true){i:IR}(hi:dC P (NB r) (I1 r)=i)(hok:okR P (NB r) (I1 r)=true){a:Tr}(ha:A N (CU r)=a){ks:List Nat}(ht:SR (A N (CU r+HU))=ks)(hu:mQ (A N (CU r+HU))=[]:=by kernel_rfl)(hp:A N (CU r+aU)=none:=by kernel_rfl):AG P A kn (n+1) N r st=SF (NF P (BS P A kn n) i (CR a (T5 ks st))):=dE hr hi hok ha ht hu rfl hp
theorem mT{r:cm}(hr:dD r=true){i:IR}(hi:dC P (NB r) (I1 r)=i)(hok:okR P (NB r) (I1 r)=true){a:Tr}(ha:A N (CU r)=a)(ht:A N (CU r+HU)=none:=by kernel_rfl)(hp:A N (CU r+aU)=none:=by kernel_rfl):AG P A kn (n+1) N r st=SF (NF P (BS P A kn n) i (CR a st)):=LC hr hi hok ha (congrArg SR ht) (congrArg mQ ht) hp
theorem zE{r:cm}(hr:dD r=true){i:IR}(hi:dC P (NB r) (I1 r)=i)(hok:okR P (NB r) (I1 r)=true){a:Tr}(ha:A N (CU r)=a){ks:List Nat}(ht:A N (CU r+HU)=none)(hp:SR (A N (CU r+aU))=ks):AG P A kn (n+1) N r st=SF (gpO ks (NF P (BS P A kn n) i (CR a st))):=by
 cases r with
 |region id ops draw=>
  subst hi ha hp
  show SF (gpO (SR (A N (CU (.region id ops draw)+aU))) (gF P _ N (A N (QZ id ops.toList)) ops.toList draw (mQ (A N (CU (.region id ops draw)+HU))) (T5 (SR (A N (CU (.region id ops draw)+HU))) st)))=_
  rw[ht]
  refine congrArg (fun o=>SF (gpO _ o)) ?_
  show gF P _ N _ ops.toList draw [] _=_
  unfold gF
  cases draw with
  |false=>exact gC (WK _ rfl) _ _ _
  |true=>
   show Bool.rec (N8 P _ ops.toList _) (PU P (HJ ops.toList) (some _)) (PT P ops.toList)=NF P _ (cond (PT P ops.toList) (.cls (HJ ops.toList)) (.drw ((VK ops.toList).map (mO ops.toList)))) _
   have hok:cond (PT P ops.toList) true (EW ops.toList (VK ops.toList))=true:=hok
   cases hc:PT P ops.toList with
   |true=>rfl
   |false=>
    rw[hc]at hok
    exact gE (WK _ rfl) _ _ _ hok
 |_=>cases hr
def VL(P:cd)(rs:List ResultVar)(r:Option (Exit×XS)):Option V:=match r with
 |some (.ret,st)=>finV st.s (FT P rs st.fr st.s)
 |some (.normal,st)=>finV st.s (FT P rs st.fr st.s)
 |_=>none
where finV (s:St) (r:Option V):Option V:=match r with
 |some v=>match AX s 4 v with
  |some r'=>Bool.rec none (some r') (AK 9 r')
  |none=>none
 |none=>none
theorem AQ{f:cp}{fn:Func}{c:cm}{args:List V}{rec:FU}(hf:P.funcs[f]? = some fn)(hb:fn.body=some c)(hs:cq args.length fn.ntmps=true)(hcl:args.all (AK 9)=true) :
  EJ P rec f args=VL P fn.results.toList (rec fn.ntmps c ⟨0,AH 0 args,⟨[],[]⟩⟩):=by
 unfold EJ cG UZ lI
 rw[hcl,hf]
 simp only[hb,hs]
 generalize rec fn.ntmps c ⟨0,AH 0 args,⟨[],[]⟩⟩=q
 have aux:∀st:XS,(match(match FT P fn.results.toList st.fr st.s with
   |some r=>match AX st.s 4 r with
    |some r'=>some (r',st.c,st.s.up.map (AO st.s))
    |none=>none
   | none=>none:Option (V×Nat×List AA))with
  |some (r,_,_)=>(Bool.rec none (some r) (AK 9 r):Option V)
  | none=>none)=VL.finV st.s (FT P fn.results.toList st.fr st.s):=fun st=>by
  unfold VL.finV
  cases FT P fn.results.toList st.fr st.s with
  |none=>rfl
  |some r=>
   cases h:AX st.s 4 r with
   |none=>simp[h]
   |some r'=>simp[h]
 cases q with
 |none=>rfl
 |some q=>
  obtain⟨e,st⟩:=q
  cases e with
  |ret=>exact aux st
  |normal=>exact aux st
  |_=>rfl
theorem AE5(rs:List ResultVar)(c:Prop)[Decidable c](x y:Option (Exit×XS)):VL P rs (if c then x else y)=if c then VL P rs x else VL P rs y:=by split<;>rfl
end
def KT:cm->List Nat->cm
 |c,[]=>c
 |.seq a b,i::p=>bif bx i 0 then KT a p else KT b p
 |.cond _ a b,i::p=>bif bx i 0 then KT a p else KT b p
 |.block _ a,_::p=>KT a p
 |.loop a,_::p=>KT a p
 |.scope a,_::p=>KT a p
 |.rangeFunc _ _ a b,i::p=>bif bx i 0 then KT a p else KT b p
 |c,_=>c
def ARE(fn:Func):cm:=match fn.body with
 |some c=>c
 |none=>.skip
end Go.Pg
namespace Go.Pg
variable {P:cd}{E:XE}{st:XS}{fr:Fr}{s:St}
@[simp] theorem A3H(r:Option XS):OJ P E [] r=r:=rfl
@[simp] theorem AV5(i:IQ)(l:List IQ)(r:Option XS):OJ P E (i::l) r=OJ P E l (opO P E i r):=rfl
@[simp] theorem A3I(i:IQ):opO P E i (some st)=opI P E i st:=rfl
@[simp] theorem A3J(i:IQ):opO P E i none=none:=rfl
@[simp] theorem A8E(i:IQ)(c:Prop)[Decidable c](x y:Option XS):opO P E i (if c then x else y)=if c then opO P E i x else opO P E i y:=by split<;>rfl
@[simp] theorem A3K(l:List IQ)(c:Prop)[Decidable c](x y:Option XS):OJ P E l (if c then x else y)=if c then OJ P E l x else OJ P E l y:=by split<;>rfl
def gI(P:cd)(E:XE)(d:Option Tmp)(k:IK)(st:XS)(w:Bool)(r:Option (Bool×V)):Option XS:=match r with
 |some (c,.bool b)=>Bool.rec (some (HR d st)) (stepK P E d k st) (c&&(b==w))
 |_=>none
@[simp] theorem A3L(d:Option Tmp)(k:IK):opI P E ⟨none,d,k⟩ st=stepK P E d k st:=rfl
@[simp] theorem AV6(t:Tmp)(w:Bool)(d:Option Tmp)(k:IK):opI P E ⟨some (t,w),d,k⟩ st=gI P E d k st w (E5 st.fr t):=by
 show(match(match E5 st.fr t with | some (c,.bool b)=>some (c&&(b == w)) | _=>none:Option Bool)with
  |some true=>stepK P E d k st
  |some false=>some (HR d st)
  | none=>none)=_
 unfold gI;cases E5 st.fr t with
 |none=>rfl
 |some p=>
  obtain⟨c,v⟩:=p
  cases v with
  |bool b=>cases h:(c&&(b==w))<;>simp[h]
  |_=>rfl
@[simp] theorem BGT(d:Option Tmp)(k:IK):gI P E d k st true (some (true,.bool true))=stepK P E d k st:=rfl
@[simp] theorem BGU(d:Option Tmp)(k:IK):gI P E d k st true (some (true,.bool false))=some (HR d st):=rfl
@[simp] theorem BGV(d:Option Tmp)(k:IK):gI P E d k st false (some (true,.bool true))=some (HR d st):=rfl
@[simp] theorem BGW(d:Option Tmp)(k:IK):gI P E d k st false (some (true,.bool false))=stepK P E d k st:=rfl
@[simp] theorem BGX(d:Option Tmp)(k:IK)(w b:Bool):gI P E d k st w (some (false,.bool b))=some (HR d st):=rfl
@[simp] theorem A3M(d:Tmp)(c:Nat)(fr:Fr)(s:St):HR (some d) ⟨c,fr,s⟩=⟨c,(d,false,.bool false)::fr,s⟩:=rfl
@[simp] theorem A3N(c:Nat)(fr:Fr)(s:St):HR none ⟨c,fr,s⟩=⟨c,fr,s⟩:=rfl
@[simp] theorem A3O(k:Nat):E5 [] k=none:=rfl
@[simp] theorem AV7(j:Nat)(x:Bool×V)(fr:Fr)(k:Nat):E5 ((j,x)::fr) k=if k=j then some x else E5 fr k:=by rw[F9,F9];rfl
@[simp] theorem ARF(j:Nat)(x:Nat×AZ)(L:AA)(k:Nat):AA.get ((j,x)::L) k=if k=j then some x else L.get k:=rfl
def rdT:Option (Bool×V)->Option V
 |some (true,v)=>some v
 |_=>none
@[simp] theorem AE6(v:V):rdT (some (true,v))=some v:=rfl
@[simp] theorem AV9(v:V):rdT (some (false,v))=none:=rfl
@[simp] theorem A3P:rdT none=none:=rfl
@[simp] theorem A8F(t:Tmp):BV fr (.tmp t)=rdT (E5 fr t):=by
 show(match E5 fr t with
  |some (true,v)=>some v
  | _=>none)=_
 cases E5 fr t with
 |none=>rfl
 |some p=>obtain⟨c,v⟩:=p;cases c<;>rfl
@[simp] theorem AWA(v:Value):BV fr (.const v)=CH v:=rfl
@[simp] theorem A3Q(f:cp):BV fr (.func f)=some (.fn f [] []):=rfl
@[simp] theorem A8G(t:Tmp):rdC fr (.tmp t)=E5 fr t:=rfl
@[simp] theorem A3R(b:Bool):rdC fr (.const (.bool b))=some (true,.bool b):=rfl
@[simp] theorem ARG(k:cr)(n:Int):CH (.int k n)=some (.int k n):=rfl
@[simp] theorem AL9(b:Bool):CH (.bool b)=some (.bool b):=rfl
@[simp] theorem ARH:CH (.slice none 0 0)=some .nil:=rfl
@[simp] theorem AWB(d:Tmp)(c:Nat)(fr:Fr)(s:St)(v:V):DH (some d) ⟨c,fr,s⟩ (some v)=some ⟨c,(d,true,v)::fr,s⟩:=rfl
@[simp] theorem A8H(c:Nat)(fr:Fr)(s:St)(v:V):DH none ⟨c,fr,s⟩ (some v)=some ⟨c,fr,s⟩:=rfl
@[simp] theorem AWC(d:Option Tmp):DH d st none=none:=rfl
@[simp] theorem A3S(d:Option Tmp)(c:Prop)[Decidable c](x y:Option V):DH d st (if c then x else y)=if c then DH d st x else DH d st y:=by split<;>rfl
section
variable (d:Option Tmp)(c:Nat)
@[simp] theorem A3T(x:cz):stepK P E d (.mv x) ⟨c,fr,s⟩=DH d ⟨c,fr,s⟩ (BV fr x):=rfl
def ARI(P:cd)(op:BinOp)(T:cx):Option V->Option V->Option V
 |some a,some b=>FZ P op T a b
 |_,_=>none
@[simp] theorem AWD(op:BinOp)(T:cx)(a b:V):ARI P op T (some a) (some b)=FZ P op T a b:=rfl
@[simp] theorem AWE(op:BinOp)(T:cx)(x y:cz):stepK P E d (.bin op T x y) ⟨c,fr,s⟩=DH d ⟨c,fr,s⟩ (ARI P op T (BV fr x) (BV fr y)):=by show DH d _ (xT P fr op T x y)=_;unfold xT ARI;cases BV fr x<;>cases BV fr y<;>rfl
def fa1(P:cd)(T:cx)(f:Nat):Option V->Option V
 |some p=>C8 P T p f
 |none=>none
@[simp] theorem A3U(T:cx)(f:Nat)(p:V):fa1 P T f (some p)=C8 P T p f:=rfl
@[simp] theorem A3V(T:cx)(x:cz)(f:Nat):stepK P E d (.fa T x f) ⟨c,fr,s⟩=DH d ⟨c,fr,s⟩ (fa1 P T f (BV fr x)):=by show DH d _ (xFA P fr T x f)=_;unfold xFA fa1;cases BV fr x<;>rfl
def wh1(P:cd)(T:cx):Option (List V)->Option V
 |some cs=>BJ P T cs
 |none=>none
@[simp] theorem A3W(T:cx)(cs:List V):wh1 P T (some cs)=BJ P T cs:=rfl
def ld1(P:cd)(s:St)(T:cx):Option V->Option V
 |some p=>wh1 P T (BA s p)
 |none=>none
@[simp] theorem AE7(T:cx)(p:V):ld1 P s T (some p)=wh1 P T (BA s p):=rfl
@[simp] theorem A3X(T:cx)(x:cz):stepK P E d (.ld T x) ⟨c,fr,s⟩=DH d ⟨c,fr,s⟩ (ld1 P s T (BV fr x)):=by
 show DH d _ (N5 P fr s T x)=_;unfold N5 ld1;cases BV fr x with
 |none=>rfl
 |some p=>unfold wh1;cases BA s p<;>rfl
def pk3:Option V->Option (Bool×V)->Option (Bool×V)->Option V
 |some (.bool c),some (ca,.bool a),some (cb,.bool b)=>Bool.rec (Bool.rec none (some (.bool b)) cb) (Bool.rec none (some (.bool a)) ca) c
 |_,_,_=>none
@[simp] theorem A3Y(a cb b:Bool):pk3 (some (.bool true)) (some (true,.bool a)) (some (cb,.bool b))=some (.bool a):=rfl
@[simp] theorem AWF(ca a b:Bool):pk3 (some (.bool false)) (some (ca,.bool a)) (some (true,.bool b))=some (.bool b):=rfl
@[simp] theorem A3Z(c a b:Bool):pk3 (some (.bool c)) (some (true,.bool a)) (some (true,.bool b))=some (.bool (if c then a else b)):=by cases c<;>rfl
@[simp] theorem ARJ(x y z:cz):stepK P E d (.pick x y z) ⟨c,fr,s⟩=DH d ⟨c,fr,s⟩ (pk3 (BV fr x) (rdC fr y) (rdC fr z)):=rfl
def ba2:Option V->Nat->Option (List (Nat×V))->Option (List (Nat×V))
 |some v,i,some l=>some ((i,v)::l)
 |_,_,_=>none
@[simp] theorem A30(v:V)(i:Nat)(l:List (Nat×V)):ba2 (some v) i (some l)=some ((i,v)::l):=rfl
@[simp] theorem ARK(r:cz->Option V):DA r []=some []:=rfl
@[simp] theorem AMA(r:cz->Option V)(i:Nat)(x:cz)(l:List (Nat×cz)):DA r ((i,x)::l)=ba2 (r x) i (DA r l):=by simp only[DA];unfold ba2;cases r x<;>cases DA r l<;>rfl
def bd1(P:cd)(T:cx):Option (List (Nat×V))->Option V
 |some l=>CO P T l
 |none=>none
@[simp] theorem A31(T:cx)(l:List (Nat×V)):bd1 P T (some l)=CO P T l:=rfl
@[simp] theorem AMB(T:cx)(ps:List (Nat×cz)):stepK P E d (.build T ps) ⟨c,fr,s⟩=DH d ⟨c,fr,s⟩ (bd1 P T (DA (BV fr) ps)):=by show DH d _ (TQ P fr T ps)=_;unfold TQ bd1;cases DA (BV fr) ps<;>rfl
def bs1(P:cd)(T:cx)(n:Nat):Option (List (Nat×V))->Option V
 |some l=>B5 P T n l
 |none=>none
@[simp] theorem A32(T:cx)(n:Nat)(l:List (Nat×V)):bs1 P T n (some l)=B5 P T n l:=rfl
@[simp] theorem AJC(T:cx)(n:Nat)(ps:List (Nat×cz)):stepK P E d (.buildS T n ps) ⟨c,fr,s⟩=DH d ⟨c,fr,s⟩ (bs1 P T n (DA (BV fr) ps)):=by show DH d _ (O6 P fr T n ps)=_;unfold O6 bs1;cases DA (BV fr) ps<;>rfl
@[simp] theorem AWG(op:Op):stepK P E d (.oth op) ⟨c,fr,s⟩=DH d ⟨c,fr,s⟩ (IU P (mL op) s (BV fr)):=rfl
def al1(d:Tmp)(c:Nat)(fr:Fr)(s:St):Option (List V)->Option XS
 |some cs=>some ⟨c+1,(d,true,.ptr s.up.length d c 0)::fr,s.put s.up.length d c (.box cs)⟩
 |none=>none
@[simp] theorem A33(d:Tmp)(cs:List V):al1 d c fr s (some cs)=some ⟨c+1,(d,true,.ptr s.up.length d c 0)::fr,s.put s.up.length d c (.box cs)⟩:=rfl
@[simp] theorem AMC(d:Tmp)(T:cx):stepK P E (some d) (.alloc T) ⟨c,fr,s⟩=al1 d c fr s (BZ P T):=by show OA P (some d) T _=_;unfold OA al1;cases BZ P T<;>rfl
def bx1(d:Tmp)(c:Nat)(fr:Fr)(s:St):Option V->Option XS
 |some v=>Bool.rec none (some ⟨c+1,(d,true,.ptr s.up.length d c 0)::fr,s.put s.up.length d c (.box (A8 v))⟩) (A9 v)
 |none=>none
@[simp] theorem A8L(d:Tmp)(k:cr)(n:Int):bx1 d c fr s (some (.int k n))=some ⟨c+1,(d,true,.ptr s.up.length d c 0)::fr,s.put s.up.length d c (.box [.int k n])⟩:=rfl
@[simp] theorem A34(d:Tmp)(b:Bool):bx1 d c fr s (some (.bool b))=some ⟨c+1,(d,true,.ptr s.up.length d c 0)::fr,s.put s.up.length d c (.box [.bool b])⟩:=rfl
@[simp] theorem A8M(d:Tmp)(cs:List V):bx1 d c fr s (some (.agg cs))=some ⟨c+1,(d,true,.ptr s.up.length d c 0)::fr,s.put s.up.length d c (.box cs)⟩:=rfl
@[simp] theorem A35(d:Tmp)(b:Bool)(es:List (List V)):bx1 d c fr s (some (.list b es))=some ⟨c+1,(d,true,.ptr s.up.length d c 0)::fr,s.put s.up.length d c (.box [.list b es])⟩:=rfl
@[simp] theorem A8N(d:Tmp):bx1 d c fr s (some .nil)=some ⟨c+1,(d,true,.ptr s.up.length d c 0)::fr,s.put s.up.length d c (.box [.nil])⟩:=rfl
@[simp] theorem A8O(d:Tmp)(l k g n:Nat):bx1 d c fr s (some (.vec l k g n))=some ⟨c+1,(d,true,.ptr s.up.length d c 0)::fr,s.put s.up.length d c (.box [.vec l k g n])⟩:=rfl
@[simp] theorem BDG(d:Tmp)(l k g:Nat):bx1 d c fr s (some (.mp l k g))=some ⟨c+1,(d,true,.ptr s.up.length d c 0)::fr,s.put s.up.length d c (.box [.mp l k g])⟩:=rfl
@[simp] theorem AWH(d:Tmp)(x:cz):stepK P E (some d) (.box x) ⟨c,fr,s⟩=bx1 d c fr s (BV fr x):=by show lN (some d) x _=_;unfold lN bx1;cases BV fr x<;>rfl
def st3(γ:Nat)(P:cd)(T:cx)(c:Nat)(fr:Fr)(s:St)(l q off:Nat)(v:V):Option (Nat×AZ)->Option XS
 |some (γ',.box cs)=>if γ'=γ/\A9 v=true/\0<P.cellsOf T/\(A8 v).length=P.cellsOf T/\off+P.cellsOf T<=cs.length/\γ<c then some ⟨c,fr,s.put l q γ (.box (A6 cs off (A8 v)))⟩ else none
 |_=>none
def st4(γ:Nat)(P:cd)(T:cx)(c:Nat)(fr:Fr)(s:St)(l q i off:Nat)(v:V):Option (Nat×AZ)->Option XS
 |some (γ',.vec U es)=>if γ'=γ/\A9 v=true/\0<P.cellsOf T/\(A8 v).length=P.cellsOf T/\i<es.length/\off+P.cellsOf T<=(es.getD i []).length/\γ<c then some ⟨c,fr,s.put l q γ (.vec U (es.set i (A6 (es.getD i []) off (A8 v))))⟩ else none
 |_=>none
def GU(P:cd)(T:cx)(c:Nat)(fr:Fr)(s:St):Option V->Option V->Option XS
 |some (.ptr l q γ off),some v=>st3 γ P T c fr s l q off v (s.get l q)
 |some (.eptr l q γ i off),some v=>st4 γ P T c fr s l q i off v (s.get l q)
 |_,_=>none
@[simp] theorem AJD(T:cx)(l q γ off:Nat)(v:V):GU P T c fr s (some (.ptr l q γ off)) (some v)=st3 γ P T c fr s l q off v (s.get l q):=rfl
@[simp] theorem AE8(T:cx)(l q γ i off:Nat)(v:V):GU P T c fr s (some (.eptr l q γ i off)) (some v)=st4 γ P T c fr s l q i off v (s.get l q):=rfl
@[simp] theorem AJE(γ γ':Nat)(T:cx)(l q off:Nat)(v:V)(cs:List V):st3 γ P T c fr s l q off v (some (γ',.box cs))=if γ'=γ/\A9 v=true/\0<P.cellsOf T/\(A8 v).length=P.cellsOf T/\off+P.cellsOf T<=cs.length/\γ<c then some ⟨c,fr,s.put l q γ (.box (A6 cs off (A8 v)))⟩ else none:=rfl
@[simp] theorem AJF(γ γ':Nat)(T:cx)(l q i off:Nat)(v:V)(U:cx)(es:List (List V)):st4 γ P T c fr s l q i off v (some (γ',.vec U es))=if γ'=γ/\A9 v=true/\0<P.cellsOf T/\(A8 v).length=P.cellsOf T/\i<es.length/\off+P.cellsOf T<=(es.getD i []).length/\γ<c then some ⟨c,fr,s.put l q γ (.vec U (es.set i (A6 (es.getD i []) off (A8 v))))⟩ else none:=rfl
theorem AJG(T:cx)(x y:cz):I0 P none T x y ⟨c,fr,s⟩=GU P T c fr s (BV fr x) (BV fr y):=by
 unfold I0;simp only;cases BV fr x with
 |none=>rfl
 |some p=>
  cases BV fr y with
  |none=>cases p<;>rfl
  |some v=>
   cases p with
   |ptr l q γ off=>
    simp only[AJD]
    cases s.get l q with
    |none=>rfl
    |some z=>
     obtain⟨γ',r⟩:=z
     cases r with
     |box cs=>
      simp only[AJE,bj,bc,Nat.ble_eq,cj,and_assoc]
     |_=>rfl
   |eptr l q γ i off=>
    simp only[AE8]
    cases s.get l q with
    |none=>rfl
    |some z=>
     obtain⟨γ',r⟩:=z
     cases r with
     |vec U es=>
      simp only[AJF,bj,bc,Nat.ble_eq,cj,and_assoc]
     |_=>rfl
   |_=>rfl
@[simp] theorem AWI(T:cx)(x y:cz):stepK P E none (.sto T x y) ⟨c,fr,s⟩=GU P T c fr s (BV fr x) (BV fr y):=AJG c T x y
def apW(P:cd)(e:cx)(d c:Nat)(fr:Fr)(s:St)(l q γ n:Nat)(ys:List (List V)):Option (Nat×AZ)->Option XS
 |some (γ',.vec W es)=>if γ'=γ/\W=e/\n=es.length/\es.all (fun y=>y.length==P.cellsOf e)=true/\B8 P e es.length ys=true then
   some ⟨c+1,(d,true,.vec l q c (es.length+ys.length))::fr,s.put l q c (.vec e (es++ys))⟩ else none
 |_=>none
@[simp] theorem LD(e:cx)(d:Nat)(l q γ γ' n:Nat)(ys es:List (List V))(W:cx):apW P e d c fr s l q γ n ys (some (γ',.vec W es))=if γ'=γ/\W=e/\n=es.length/\es.all (fun y=>y.length==P.cellsOf e)=true/\B8 P e es.length ys=true then
   some ⟨c+1,(d,true,.vec l q c (es.length+ys.length))::fr,s.put l q c (.vec e (es++ys))⟩ else none:=rfl
def oD(P:cd)(e:cx)(d c:Nat)(fr:Fr)(s:St)(xv:V)(ys:List (List V)):Option XS:=match IG xv ys with
 |some es=>if es.all (fun y=>y.length==P.cellsOf e)=true/\B8 P e es.length ys=true then some ⟨c+1,(d,true,.vec s.up.length d c (es.length+ys.length))::fr,s.put s.up.length d c (.vec e (es++ys))⟩ else none
 |none=>match xv with
  |.vec l q γ n=>apW P e d c fr s l q γ n ys (QM n ys (s.get l q))
  |_=>none
@[simp] theorem SS(n γ:Nat)(ys es:List (List V))(U:cx):QM n ys (some (γ,.vec U es))=some (γ,.vec U (eQ n ys es)):=rfl
@[simp] theorem AWJ(n:Nat)(ys:List (List V)):QM n ys none=none:=rfl
attribute [simp] K1
@[simp] theorem A8P(e:cx)(d:Nat)(ys:List (List V)):oD P e d c fr s .nil ys=if B8 P e 0 ys=true then some ⟨c+1,(d,true,.vec s.up.length d c ys.length)::fr,s.put s.up.length d c (.vec e ys)⟩ else none:=by simp[oD,IG]
@[simp] theorem A8Q(e:cx)(d:Nat)(ys:List (List V)):oD P e d c fr s (.list true []) ys=if B8 P e 0 ys=true then some ⟨c+1,(d,true,.vec s.up.length d c ys.length)::fr,s.put s.up.length d c (.vec e ys)⟩ else none:=by simp[oD,IG]
@[simp] theorem AE9(e:cx)(d:Nat)(z y:List V)(es ys:List (List V)):oD P e d c fr s (.list true (z::es)) (y::ys)=if (z::es).all (fun y=>y.length==P.cellsOf e)=true/\B8 P e (z::es).length (y::ys)=true then
   some ⟨c+1,(d,true,.vec s.up.length d c ((z::es).length+(y::ys).length))::fr,s.put s.up.length d c (.vec e ((z::es)++(y::ys)))⟩ else none:=rfl
@[simp] theorem gH(e:cx)(d:Nat)(l q γ n:Nat)(ys:List (List V)):oD P e d c fr s (.vec l q γ n) ys=apW P e d c fr s l q γ n ys (QM n ys (s.get l q)):=by simp[oD,IG]
def ap3(P:cd)(d c:Nat)(fr:Fr)(s:St):Option (Option Nat×cx)->Option V->Option V->Option XS
 |some (none,e),some xv,some yv=>ap4 e xv (elemsOf s yv)
 |_,_,_=>none
where ap4 (e:cx) (xv:V):Option (List (List V))->Option XS
 |some ys=>oD P e d c fr s xv ys
 |none=>none
@[simp] theorem AFA(d:Nat)(e:cx)(xv yv:V):ap3 P d c fr s (some (none,e)) (some xv) (some yv)=ap3.ap4 P d c fr s e xv (elemsOf s yv):=rfl
@[simp] theorem AFB(d:Nat)(e:cx)(xv:V)(ys:List (List V)):ap3.ap4 P d c fr s e xv (some ys)=oD P e d c fr s xv ys:=rfl
@[simp] theorem AJH(b:Bool)(es:List (List V)):elemsOf s (.list b es)=some es:=rfl
@[simp] theorem AMD:elemsOf s .nil=some []:=rfl
theorem ifB{α:Type}{b:Bool}{x y:α}:(Bool.rec y x b:α)=if b=true then x else y:=by cases b<;>rfl
theorem zF{k:Nat}{e:cx}(d:Nat)(x y:Option V):ap3 P d c fr s (some (some k,e)) x y=none:=by cases x<;>cases y<;>rfl
@[simp] theorem AWK(d:Tmp)(x y:cz)(T:cx):stepK P E (some d) (.app [x,y] [T,T]) ⟨c,fr,s⟩=ap3 P d c fr s (BK P T) (BV fr x) (BV fr y):=by
 show xAppend P (some d) [x,y] [T,T] _=_;unfold xAppend xAppG;simp only[bt];cases hT:BK P T with
 |none=>cases BV fr x<;>cases BV fr y<;>rfl
 |some p=>
  obtain⟨k,e⟩:=p
  cases k with
  |some k=>rw[zF]
  |none=>
   cases BV fr x with
   |none=>rfl
   |some xv=>
    cases BV fr y with
    |none=>rfl
    |some yv=>
     simp only[AFA]
     cases elemsOf s yv with
     |none=>rfl
     |some ys=>
      simp only[AFB,oD]
      cases IG xv ys with
      |some es=>
       simp only[ifB,bj,bw]
       by_cases hC:es.all (fun y=>y.length==P.cellsOf e)=true/\B8 P e es.length ys=true
       ·rw[if_pos hC,if_pos hC]
       ·rw[if_neg hC,if_neg hC]
      |none=>
       simp only
       unfold lA
       cases xv with
       |vec l q γ n=>
        simp only
        cases QM n ys (s.get l q)with
        |none=>rfl
        |some z=>
         obtain⟨γ',r⟩:=z
         cases r with
         |vec W es=>
          simp only[ifB,bj,bw,LD,cj,and_assoc]
          by_cases hC:γ'=γ/\W=e/\n=es.length/\es.all (fun y=>y.length==P.cellsOf e)=true/\B8 P e es.length ys=true
          ·rw[if_pos hC,if_pos hC]
          ·rw[if_neg hC,if_neg hC]
         |_=>rfl
       |_=>rfl
def mc2:Option V->Option (List V)->Option (List V)
 |some v,some l=>some (v::l)
 |_,_=>none
@[simp] theorem A39(v:V)(l:List V):mc2 (some v) (some l)=some (v::l):=rfl
@[simp] theorem A4A(f:cz->Option V):EE f []=some []:=rfl
@[simp] theorem AWL(f:cz->Option V)(x:cz)(l:List cz):EE f (x::l)=mc2 (f x) (EE f l):=by
 simp only[EE];cases f x with
 |none=>rfl
 |some v=>cases EE f l<;>rfl
def MU(E:XE)(d:Option Tmp)(st:XS)(f:cp)(args:List V):Option XS:=match E.cf f args st with
 |some (r,st')=>some ⟨st'.c,putD st'.fr d true r,st'.s⟩
 |none=>none
def ca1(E:XE)(d:Option Tmp)(st:XS):Option V->Option (List V)->Option XS
 |some (.fn f first cap),some vs=>MU E d st f ((first++vs++cap).map weakV)
 |some (.yld l q γ),some vs=>ca3 (E.cy l q γ vs st)
 |_,_=>none
where ca3:Option (V×XS)->Option XS
 |some (r,st')=>some ⟨st'.c,putD st'.fr d true r,st'.s⟩
 |none=>none
@[simp] theorem ARM(st:XS)(f:cp)(first cap vs:List V):ca1 E d st (some (.fn f first cap)) (some vs)=MU E d st f ((first++vs++cap).map weakV):=rfl
@[simp] theorem AJI(st:XS)(l q γ:Nat)(vs:List V):ca1 E d st (some (.yld l q γ)) (some vs)=ca1.ca3 d (E.cy l q γ vs st):=rfl
@[simp] theorem A4B(d:Tmp)(r:V):ca1.ca3 (some d) (some (r,⟨c,fr,s⟩))=some ⟨c,(d,true,r)::fr,s⟩:=rfl
theorem mU(st:XS)(f:cz)(args:List cz):SC E.cf E.cy d f args st=ca1 E d st (BV st.fr f) (EE (BV st.fr) args):=by
 unfold SC;cases BV st.fr f with
 |none=>rfl
 |some v=>
  cases v with
  |fn f first cap=>
   simp only
   cases EE (BV st.fr) args with
   |none=>rfl
   |some vs=>simp only[ARM,MU];cases E.cf f ((first++vs++cap).map weakV) st<;>rfl
  |yld l q γ=>
   simp only[pQ]
   cases EE (BV st.fr) args with
   |none=>rfl
   |some vs=>simp only[AJI];cases E.cy l q γ vs st<;>rfl
  |_=>rfl
@[simp] theorem ARN(args:List cz)(Ts:List cx):stepK P E d (.appS args Ts) st=DH d st (Y9 P args Ts st.fr):=rfl
@[simp] theorem ARO(f:cz)(args:List cz):stepK P E d (.call false none f args) ⟨c,fr,s⟩=ca1 E d ⟨c,fr,s⟩ (BV fr f) (EE (BV fr) args):=mU d ⟨c,fr,s⟩ f args
@[simp] theorem AMF(t:Tmp)(f:cz)(args:List cz):stepK P E d (.callM false t f args) ⟨c,fr,s⟩=ca1 E d (K9 t ⟨c,fr,s⟩) (BV (K9 t ⟨c,fr,s⟩).fr f) (EE (BV (K9 t ⟨c,fr,s⟩).fr) args):=mU d _ f args
def orK:Bool->Option V->Option V->Option V
 |true,some r,_=>some r
 |_,_,z=>z
@[simp] theorem A4C(r:V)(z:Option V):orK true (some r) z=some r:=rfl
@[simp] theorem A4D(b:Bool)(z:Option V):orK b z z=z:=by cases b<;>cases z<;>rfl
theorem mV{P:cd}{kn:CF0}{rec:FU}{f:cp}{args:List V}:EY P kn rec f args=orK (args.all (AK 9)) (A4 P kn rec f (args.map weakN)) (A4 P kn rec f args):=by unfold EY orK;cases A4 P kn rec f (args.map weakN)<;>cases args.all (AK 9)<;>rfl
attribute [simp] mV
@[simp] theorem AWN(k:cr)(n:Int):weakN (.int k n)=.int k n:=rfl
@[simp] theorem ARP(b:Bool):weakN (.bool b)=.bool b:=rfl
@[simp] theorem AWO(v:Value):weakN (.raw v)=.raw v:=rfl
@[simp] theorem ARQ(b:Bool)(es:List (List V)):weakN (.list b es)=.list b es:=rfl
@[simp] theorem AWP(cs:List V):weakN (.agg cs)=.agg (cs.map weakM):=rfl
@[simp] theorem AWQ:weakN .nil=.list false []:=rfl
@[simp] theorem A4E(f:cp)(x y:List V):weakN (.fn f x y)=.fn f x y:=rfl
@[simp] theorem AWR(cs:List V):weakN (.ref cs)=.ref cs:=rfl
@[simp] theorem AWS(k:cr)(n:Int):weakM (.int k n)=.int k n:=rfl
@[simp] theorem ARR(b:Bool):weakM (.bool b)=.bool b:=rfl
@[simp] theorem ARS(b:Bool)(es:List (List V)):weakM (.list b es)=.list b es:=rfl
@[simp] theorem AWT:weakM .nil=.list false []:=rfl
@[simp] theorem A4F(f:cp)(x y:List V):weakM (.fn f x y)=.fn f x y:=rfl
@[simp] theorem AWU(cs:List V):weakM (.ref cs)=.ref cs:=rfl
theorem ZC{A:Ann}{kn:CF0}{n:Nat}{f:cp}{args:List V}(h:args.all (AK 9)=true)(hh:BG P f=false)(st:XS):MU (BS P A kn n) d st f args=DH d st (orK true (A4 P kn (AG P A kn n) f (args.map weakN)) (A4 P kn (AG P A kn n) f args)):=by
 have e:orK true (A4 P kn (AG P A kn n) f (args.map weakN)) (A4 P kn (AG P A kn n) f args)=EY P kn (AG P A kn n) f args:=by rw[mV,h]
 rw[e];show(match U0 P kn (AG P A kn n) f args st with
  |some (r,st')=>some (⟨st'.c,putD st'.fr d true r,st'.s⟩:XS)
  | none=>none)=_
 unfold U0;rw[h,hh];cases EY P kn (AG P A kn n) f args<;>rfl
end
@[simp] theorem A4G(k:cr)(n:Int):weakV (.int k n)=.int k n:=rfl
@[simp] theorem AWV(b:Bool):weakV (.bool b)=.bool b:=rfl
@[simp] theorem AWW(b:Bool)(es:List (List V)):weakV (.list b es)=.list false es:=rfl
@[simp] theorem A4H(cs:List V):weakV (.agg cs)=.agg (cs.map weakC):=rfl
@[simp] theorem AWX(k:cr)(n:Int):weakC (.int k n)=.int k n:=rfl
@[simp] theorem ART(b:Bool):weakC (.bool b)=.bool b:=rfl
@[simp] theorem ARU(b:Bool)(es:List (List V)):weakC (.list b es)=.list false es:=rfl
@[simp] theorem AWY:weakC .nil=.nil:=rfl
@[simp] theorem A4I:weakV .nil=.nil:=rfl
@[simp] theorem A8R(f:cp)(x y:List V):weakV (.fn f x y)=.fn f x y:=rfl
@[simp] theorem ARV(f:Nat)(k:cr)(n:Int):AK (f+1) (.int k n)=true:=rfl
@[simp] theorem AMG(f:Nat)(b:Bool):AK (f+1) (.bool b)=true:=rfl
@[simp] theorem ARW(f:Nat):AK (f+1) .nil=true:=rfl
@[simp] theorem ARX(f:Nat)(cs:List V):AK (f+1) (.agg cs)=cs.all (AK f):=rfl
@[simp] theorem ARY(f:Nat)(cs:List V):AK (f+1) (.tup cs)=cs.all (AK f):=rfl
@[simp] theorem ARZ(f:Nat)(cs:List V):AK (f+1) (.ref cs)=cs.all (AK f):=rfl
@[simp] theorem AMH(f:Nat)(b:Bool)(es:List (List V)):AK (f+1) (.list b es)=es.all fun e=>e.all (AK f):=rfl
@[simp] theorem AWZ(f:Nat)(g:cp)(x y:List V):AK (f+1) (.fn g x y)=(x.all (AK f)&&y.all (AK f)):=rfl
section
variable (r:cz->Option V)
def o1(f:V->Option V):Option V->Option V
 |some v=>f v
 |none=>none
@[simp] theorem A8S(f:V->Option V)(v:V):o1 f (some v)=f v:=rfl
def o2(f:V->V->Option V):Option V->Option V->Option V
 |some a,some b=>f a b
 |_,_=>none
@[simp] theorem A8T(f:V->V->Option V)(a b:V):o2 f (some a) (some b)=f a b:=rfl
theorem WL(f:V->Option V)(x:Option V):x.bind f=o1 f x:=by cases x<;>rfl
theorem WM(f:V->V->Option V)(x y:Option V):(x.bind fun a=>y.bind fun b=>f a b)=o2 f x y:=by cases x<;>cases y<;>rfl
@[simp] theorem BDJ(op:UnOp)(T:cx)(x:cz):IU P (mL (.unOp op T x)) s r=o1 (aE op) (r x):=WL _ _
@[simp] theorem A4J(T U:cx)(x:cz):IU P (mL (.convert T U x)) s r=o1 (LW P T U) (r x):=WL _ _
@[simp] theorem A4K(T:cx)(x i:cz):IU P (mL (.indexAddr T x i)) s r=o2 (BL P s T) (r x) (r i):=WM _ _ _
@[simp] theorem A8U(T:cx)(x i:cz):IU P (mL (.index T x i)) s r=o2 (F8 P T) (r x) (r i):=WM _ _ _
@[simp] theorem A8V(x:cz)(i:Nat):IU P (mL (.extract x i)) s r=o1 (fun a=>FL a i) (r x):=WL _ _
@[simp] theorem A8W(x:cz)(T:cx):IU P (mL (.call ⟨.builtin .len,#[x],#[T]⟩)) s r=o1 (GK P T) (r x):=WL _ _
end
@[simp] theorem A4L(b:Bool):aE .not (.bool b)=some (.bool !b):=rfl
@[simp] theorem A4M(k:cr)(n:Int):aE .neg (.int k n)=some (.int k (k.wrap (0-n))):=rfl
@[simp] theorem AF6(vs:List V)(i:Nat):FL (.tup vs) i=vs[i]?:=rfl
@[simp] theorem BDK(up:List AA)(loc:AA)(l k g:Nat)(r:AZ):St.put ⟨up,loc⟩ l k g r=if l=up.length then⟨up,(k,g,r)::loc⟩ else⟨up.modify l fun L=>L.put k g r,loc⟩:=rfl
def upG(k:Nat):Option AA->Option (Nat×AZ)
 |some L=>L.get k
 |none=>none
@[simp] theorem A4N(k:Nat)(L:AA):upG k (some L)=L.get k:=rfl
@[simp] theorem gJ(up:List AA)(loc:AA)(l k:Nat):St.get ⟨up,loc⟩ l k=if l=up.length then loc.get k else upG k up[l]?:=rfl
def kx(k:Nat)(r:Fr):Option (Bool×V)->Fr
 |some (c,v)=>(k,c,v)::r
 |none=>r
@[simp] theorem A8X(k:Nat)(r:Fr)(c:Bool)(v:V):kx k r (some (c,v))=(k,c,v)::r:=rfl
@[simp] theorem A8Y(k:Nat)(r:Fr):kx k r none=r:=rfl
@[simp] theorem AW0:P6 [] fr=[]:=rfl
@[simp] theorem AR0(k:Nat)(ks:List Nat):P6 (k::ks) fr=kx k (P6 ks fr) (E5 fr k):=by show(match E5 fr k with|some (c,v)=>(k,c,v)::P6 ks fr|none=>P6 ks fr)=_;cases E5 fr k<;>rfl
def kl(k:Nat)(r:AA):Option (Nat×AZ)->AA
 |some (g,x)=>(k,g,x)::r
 |none=>r
@[simp] theorem A8Z(k:Nat)(r:AA)(g:Nat)(x:AZ):kl k r (some (g,x))=(k,g,x)::r:=rfl
@[simp] theorem A80(k:Nat)(r:AA):kl k r none=r:=rfl
@[simp] theorem AW1(L:AA):IH [] L=[]:=rfl
@[simp] theorem AR1(k:Nat)(ks:List Nat)(L:AA):IH (k::ks) L=kl k (IH ks L) (L.get k):=by unfold kl;simp only[IH];cases L.get k<;>rfl
@[simp] theorem A4O(ks ls:List Nat)(c:Nat)(fr:Fr)(up:List AA)(loc:AA):CR (some (ks,ls)) ⟨c,fr,⟨up,loc⟩⟩=⟨c,P6 ks fr,⟨up,IH ls loc⟩⟩:=rfl
@[simp] theorem AR2:CR none st=st:=rfl
@[simp] theorem BDL:SF (some st)=some (.normal,st):=rfl
@[simp] theorem A4P:SF none=none:=rfl
@[simp] theorem A81(c:Prop)[Decidable c](x y:Option XS):SF (if c then x else y)=if c then SF x else SF y:=by split<;>rfl
@[simp] theorem A4Q(l:List IQ):NF P E (.str l) st=OJ P E l (some st):=rfl
@[simp] theorem A4R(S:List mN):NF P E (.drw S) st=T9 P E S (some st):=rfl
@[simp] theorem A4S(ks:List (Nat×Nat×Nat)):NF P E (.cls ks) st=PU P ks (some st):=rfl
@[simp] theorem A4T(o:Option XS):PU P [] o=o:=rfl
@[simp] theorem AW2(T a d:Nat)(r:List (Nat×Nat×Nat))(st:XS):PU P ((T,a,d)::r) (some st)=PU P r (if rM (BV st.fr (.tmp a))=true then DH (some d) st (N5 P st.fr st.s T (.tmp a)) else none):=by
 show PU P r (Bool.rec _ _ (rM (BV st.fr (.tmp a))))=_;cases rM (BV st.fr (.tmp a))with
 |false=>rfl
 |true=>
  simp only[if_true]
  congr 1
@[simp] theorem A4U(l k g o:Nat):rM (some (.ptr l k g o))=true:=rfl
@[simp] theorem A4V(rs:List ResultVar):VL P rs (some (.ret,st))=VL.finV st.s (FT P rs st.fr st.s):=rfl
@[simp] theorem AMI(rs:List ResultVar):VL P rs (some (.normal,st))=VL.finV st.s (FT P rs st.fr st.s):=rfl
def AR3:Option V->Option V
 |some r=>if AK 9 r=true then some r else none
 |none=>none
@[simp] theorem AW3(r:V):AR3 (some r)=if AK 9 r=true then some r else none:=rfl
@[simp] theorem AW4(v:V):VL.finV s (some v)=AR3 (AX s 4 v):=by
 unfold VL.finV AR3;simp only;cases AX s 4 v with
 |none=>rfl
 |some r=>simp only[ifB]
@[simp] theorem AR4(t:Tmp):DK P fr s (.tmp t)=rdT (E5 fr t):=by
 rw[F9];show(match fr.get t with
  |some (true,v)=>some v
  | _=>none)=_
 cases fr.get t with
 |none=>rfl
 |some p=>obtain⟨c,v⟩:=p;cases c<;>rfl
@[simp] theorem A4W(x:ResultVar):FT P [x] fr s=DK P fr s x:=by unfold FT;simp only[bf,ck];cases DK P fr s x<;>rfl
def re2:Option V->Option V->Option V
 |some a,some b=>some (.tup [a,b])
 |_,_=>none
@[simp] theorem A4X(a b:V):re2 (some a) (some b)=some (.tup [a,b]):=rfl
@[simp] theorem A4Y(x y:ResultVar):FT P [x,y] fr s=re2 (DK P fr s x) (DK P fr s y):=by unfold FT;simp only[bf,ck];cases DK P fr s x<;>cases DK P fr s y<;>rfl
def re3:Option V->Option V->Option V->Option V
 |some a,some b,some c=>some (.tup [a,b,c])
 |_,_,_=>none
@[simp] theorem A4Z(a b c:V):re3 (some a) (some b) (some c)=some (.tup [a,b,c]):=rfl
@[simp] theorem AR5(x y z:ResultVar):FT P [x,y,z] fr s=re3 (DK P fr s x) (DK P fr s y) (DK P fr s z):=by unfold FT;simp only[bf,ck];cases DK P fr s x<;>cases DK P fr s y<;>cases DK P fr s z<;>rfl
@[simp] theorem AR6(f:Nat)(k:cr)(n:Int):AX s (f+1) (.int k n)=some (.int k n):=rfl
@[simp] theorem AMJ(f:Nat)(b:Bool):AX s (f+1) (.bool b)=some (.bool b):=rfl
@[simp] theorem AR7(f:Nat):AX s (f+1) .nil=some .nil:=rfl
@[simp] theorem AMK(f:Nat)(b:Bool)(es:List (List V)):AX s (f+1) (.list b es)=some (.list false es):=rfl
def hU(mk:List V->V):Option (List V)->Option V
 |some l=>some (mk l)
 |none=>none
@[simp] theorem A40(mk:List V->V)(l:List V):hU mk (some l)=some (mk l):=rfl
def PW(f:V->Option V):List V->Option (List V)
 |[]=>some []
 |v::l=>mc2 (f v) (PW f l)
theorem SU(f:V->Option V):∀(l:List V),l.mapM f=PW f l
 |[]=>rfl
 |v::l=>by simp only[bf,PW,SU f l];cases f v<;>cases PW f l<;>rfl
@[simp] theorem A41(f:V->Option V):PW f []=some []:=rfl
@[simp] theorem AW5(f:V->Option V)(v:V)(l:List V):PW f (v::l)=mc2 (f v) (PW f l):=rfl
@[simp] theorem AR8(f:Nat)(cs:List V):AX s (f+1) (.agg cs)=hU .agg (PW (AX s f) cs):=by simp only[AX,SU];cases PW (AX s f) cs<;>rfl
@[simp] theorem AR9(f:Nat)(cs:List V):AX s (f+1) (.tup cs)=hU .tup (PW (AX s f) cs):=by simp only[AX,SU];cases PW (AX s f) cs<;>rfl
def cv1(g m:Nat):Option (Nat×AZ)->Option V
 |some (g',.vec _ es)=>if g'=g/\m<=es.length then some (.list false (es.take m)) else none
 |_=>none
@[simp] theorem AFC(g m g':Nat)(T:cx)(es:List (List V)):cv1 g m (some (g',.vec T es))=if g'=g/\m<=es.length then some (.list false (es.take m)) else none:=rfl
@[simp] theorem sA(f:Nat)(up:List AA)(loc:AA)(l k g m:Nat):AX ⟨up,loc⟩ (f+1) (.vec l k g m)=if l=up.length then cv1 g m (loc.get k) else some (.vec l k g m):=by
 simp only[AX];split
 ·cases loc.get k with
  |none=>rfl
  |some z=>obtain⟨g',r⟩:=z;cases r<;>rfl
 ·rfl
@[simp] theorem AML(t:Nat)(T:cx):DK P fr s (.cell t T)=ld1 P s T (rdT (E5 fr t)):=by
 rw[F9];show(match fr.get t with
  |some (true,p)=>(BA s p).bind (BJ P T)
  | _=>none)=_
 cases fr.get t with
 |none=>rfl
 |some p=>
  obtain⟨c,v⟩:=p
  cases c with
  |false=>rfl
  |true=>
   simp only[AE6,AE7]
   cases BA s v<;>rfl
section
variable (d:Option Tmp)(c:Nat)
@[simp] theorem A42(r:Option XS):T9 P E [] r=r:=rfl
@[simp] theorem AW6(p:mN)(S:List mN)(r:Option XS):T9 P E (p::S) r=T9 P E S (OJ P E p.sq (ZB (T8 P E p.ph (AEU p.new r)))):=rfl
@[simp] theorem A43(r:Option (XS×AL×AL)):T8 P E [] r=r:=rfl
@[simp] theorem AW7(i:IQ)(l:List IQ)(r:Option (XS×AL×AL)):T8 P E (i::l) r=T8 P E l (mM P E i r):=rfl
@[simp] theorem A82(new:List Tmp)(up:List AA)(loc:AA):AEU new (some ⟨c,fr,⟨up,loc⟩⟩)=if (new.all fun d=>(loc.get d).isNone)=true then some (⟨c,fr,⟨up,loc⟩⟩,[],[]) else none:=by show(Bool.rec none _ _:Option _)=_;rw[ifB];rfl
@[simp] theorem AW8(rd wr:AL):ZB (some (st,rd,wr))=if (wr.all fun p=>!(rd.contains p))=true then some st else none:=by show(Bool.rec none _ _:Option _)=_;rw[ifB]
@[simp] theorem AW9:ZB none=none:=rfl
@[simp] theorem A44(c:Prop)[Decidable c](x y:Option (XS×AL×AL)):ZB (if c then x else y)=if c then ZB x else ZB y:=by split<;>rfl
@[simp] theorem AXA(i:IQ):mM P E i none=none:=rfl
@[simp] theorem A45(i:IQ)(c:Prop)[Decidable c](x y:Option (XS×AL×AL)):mM P E i (if c then x else y)=if c then mM P E i x else mM P E i y:=by split<;>rfl
@[simp] theorem A46(l:List IQ)(c:Prop)[Decidable c](x y:Option (XS×AL×AL)):T8 P E l (if c then x else y)=if c then T8 P E l x else T8 P E l y:=by split<;>rfl
@[simp] theorem A47(l:List mN)(c:Prop)[Decidable c](x y:Option XS):T9 P E l (if c then x else y)=if c then T9 P E l x else T9 P E l y:=by split<;>rfl
def ph3(rds rd wr:AL):Option (XS×AL)->Option (XS×AL×AL)
 |some (st,w)=>some (st,rds++rd,w++wr)
 |none=>none
@[simp] theorem A48(rds rd wr w:AL):ph3 rds rd wr (some (st,w))=some (st,rds++rd,w++wr):=rfl
@[simp] theorem A49(rds rd wr:AL):ph3 rds rd wr none=none:=rfl
@[simp] theorem A83(rds rd wr:AL)(c:Prop)[Decidable c](x y:Option (XS×AL)):ph3 rds rd wr (if c then x else y)=if c then ph3 rds rd wr x else ph3 rds rd wr y:=by split<;>rfl
@[simp] theorem AXC(i:IQ)(rd wr:AL):mM P E i (some (st,rd,wr))=ph3 (F5 P i.k (BV st.fr)) rd wr (T7 P E i st):=by show(match T7 P E i st with|some (st',w)=>some (st',F5 P i.k (BV st.fr)++rd,w++wr)|none=>none)=_;cases T7 P E i st<;>rfl
@[simp] theorem AXD(k:IK):T7 P E ⟨none,d,k⟩ st=CT P E d k st:=rfl
def gI0(P:cd)(E:XE)(d:Option Tmp)(k:IK)(st:XS)(w:Bool)(r:Option (Bool×V)):Option (XS×AL):=match r with
 |some (c,.bool b)=>if (c&&(b==w))=true then CT P E d k st else if PV k=true then none else some (HR d st,[])
 |_=>none
@[simp] theorem ASA(t:Tmp)(w:Bool)(k:IK):T7 P E ⟨some (t,w),d,k⟩ st=gI0 P E d k st w (E5 st.fr t):=by
 show(match(match E5 st.fr t with | some (c,.bool b)=>some (c&&(b == w)) | _=>none:Option Bool)with
  |some true=>CT P E d k st
  |some false=>Bool.rec (some (HR d st,[])) none (PV k)
  | none=>none)=_
 unfold gI0;cases E5 st.fr t with
 |none=>rfl
 |some p=>
  obtain⟨c,v⟩:=p
  cases v with
  |bool b=>cases h:(c&&(b==w))<;>simp[h,ifB]
  |_=>rfl
@[simp] theorem A5A(k:IK)(w c b:Bool):gI0 P E d k st w (some (c,.bool b))=if (c&&(b==w))=true then CT P E d k st else if PV k=true then none else some (HR d st,[]):=rfl
@[simp] theorem BDN(T:cx)(x:cz)(f:cz->Option V):F5 P (.ld T x) f=C5 (bx (P.cellsOf T) 1) (f x):=rfl
@[simp] theorem ASB(x y:cz)(f:cz->Option V):H3 f [x,y]=EF (f y):=rfl
@[simp] theorem AJJ(b:Bool)(es:List (List V)):EF (some (.list b es))=[]:=rfl
@[simp] theorem AMM:EF (some .nil)=[]:=rfl
@[simp] theorem AMN(l k γ n:Nat):EF (some (.vec l k γ n))=[(l,k)]:=rfl
@[simp] theorem BDO(x:cz)(f:cz->Option V):F5 P (.mv x) f=[]:=rfl
@[simp] theorem A84(op:BinOp)(T:cx)(x y:cz)(f:cz->Option V):F5 P (.bin op T x y) f=[]:=rfl
@[simp] theorem BDP(T:cx)(x:cz)(i:Nat)(f:cz->Option V):F5 P (.fa T x i) f=[]:=rfl
@[simp] theorem A5B(x y z:cz)(f:cz->Option V):F5 P (.pick x y z) f=[]:=rfl
@[simp] theorem AXE(T:cx)(ps:List (Nat×cz))(f:cz->Option V):F5 P (.build T ps) f=[]:=rfl
@[simp] theorem A5C(x y:cz)(Ts:List cx)(f:cz->Option V):F5 P (.appS [x,y] Ts) f=EF (f y):=rfl
@[simp] theorem ASC(T:cx)(n:Nat)(ps:List (Nat×cz))(f:cz->Option V):F5 P (.buildS T n ps) f=[]:=rfl
@[simp] theorem AXF(T:cx)(f:cz->Option V):F5 P (.alloc T) f=[]:=rfl
@[simp] theorem A85(x:cz)(f:cz->Option V):F5 P (.box x) f=[]:=rfl
@[simp] theorem A86(T:cx)(x y:cz)(f:cz->Option V):F5 P (.sto T x y) f=[]:=rfl
@[simp] theorem A87(x:List cz)(y:List cx)(f:cz->Option V):F5 P (.app x y) f=H3 f x:=rfl
@[simp] theorem A5D(t:Tmp):FV (.tmp t)=false:=rfl
@[simp] theorem AXG(f:cp):FV (.func f)=ADJ.contains f:=rfl
@[simp] theorem AXH(b:Bool)(t:Tmp)(g:cz)(x:List cz)(f:cz->Option V)(h:FV g=false):F5 P (.callM b t g x) f=[]:=by show cond (FV g) _ _=_;rw[h];rfl
@[simp] theorem A5E(b:Bool)(t:Option Tmp)(g:cz)(x:List cz)(f:cz->Option V)(h:FV g=false):F5 P (.call b t g x) f=[]:=by show cond (FV g) _ _=_;rw[h];rfl
theorem dF(b:Bool)(t:Option Tmp)(g x:cz)(f:cz->Option V)(h:FV g=true):F5 P (.call b t g [x]) f=EF (f x):=by show cond (FV g) _ _=_;rw[h];rfl
@[simp] theorem A5F(T:cx)(x i:cz)(f:cz->Option V):F5 P (.oth (.indexAddr T x i)) f=JS (f x):=rfl
@[simp] theorem BDQ(op:UnOp)(T:cx)(x:cz)(f:cz->Option V):F5 P (.oth (.unOp op T x)) f=[]:=rfl
@[simp] theorem A88(x:cz)(i:Nat)(f:cz->Option V):F5 P (.oth (.extract x i)) f=[]:=rfl
@[simp] theorem A89(x:cz)(T:cx)(b:Builtin)(f:cz->Option V):F5 P (.oth (.call ⟨.builtin b,#[x],#[T]⟩)) f=[]:=by cases b<;>rfl
@[simp] theorem BDR(g:Fn)(x y:Array cz)(f:cz->Option V):F5 P (.oth (.makeFunc g x y)) f=[]:=rfl
def nw:Option XS->Option (XS×AL)
 |some st=>some (st,[])
 |none=>none
@[simp] theorem A9A:nw (some st)=some (st,[]):=rfl
@[simp] theorem A9B:nw none=none:=rfl
@[simp] theorem BDS(c:Prop)[Decidable c](x y:Option XS):nw (if c then x else y)=if c then nw x else nw y:=by split<;>rfl
theorem E6(r:Option XS):noW r=nw r:=by cases r<;>rfl
@[simp] theorem A5G(x:cz):CT P E d (.mv x) st=nw (stepK P E d (.mv x) st):=E6 _
@[simp] theorem AXI(op:BinOp)(T:cx)(x y:cz):CT P E d (.bin op T x y) st=nw (stepK P E d (.bin op T x y) st):=E6 _
@[simp] theorem A5H(T:cx)(x:cz)(f:Nat):CT P E d (.fa T x f) st=nw (stepK P E d (.fa T x f) st):=E6 _
@[simp] theorem AXJ(T:cx)(x:cz):CT P E d (.ldz T x) st=CT P E d (.ld T x) st:=rfl
@[simp] theorem AXK(T:cx)(x:cz):stepK P E d (.ldz T x) st=stepK P E d (.ld T x) st:=rfl
@[simp] theorem A9C(T:cx)(x:cz)(f:cz->Option V):F5 P (.ldz T x) f=[]:=rfl
@[simp] theorem A5I(T:cx)(x:cz):CT P E d (.ld T x) st=nw (stepK P E d (.ld T x) st):=E6 _
@[simp] theorem ASD(x y z:cz):CT P E d (.pick x y z) st=nw (stepK P E d (.pick x y z) st):=E6 _
@[simp] theorem AMO(T:cx)(ps:List (Nat×cz)):CT P E d (.build T ps) st=nw (stepK P E d (.build T ps) st):=E6 _
@[simp] theorem AJK(T:cx)(n:Nat)(ps:List (Nat×cz)):CT P E d (.buildS T n ps) st=nw (stepK P E d (.buildS T n ps) st):=E6 _
@[simp] theorem AXL(op:Op):CT P E d (.oth op) st=nw (stepK P E d (.oth op) st):=E6 _
@[simp] theorem AMP(T:cx):CT P E d (.alloc T) st=nw (stepK P E d (.alloc T) st):=E6 _
@[simp] theorem AXM(x:cz):CT P E d (.box x) st=nw (stepK P E d (.box x) st):=E6 _
@[simp] theorem AXN(x:Option cz):CT P E d (.mkM x) st=nw (stepK P E d (.mkM x) st):=E6 _
@[simp] theorem AXO(T:cx)(x y:cz):CT P E d (.mkS T x y) st=nw (stepK P E d (.mkS T x y) st):=E6 _
def wp(p:AL):Option XS->Option (XS×AL)
 |some st=>some (st,p)
 |none=>none
@[simp] theorem A9D(p:AL):wp p (some st)=some (st,p):=rfl
@[simp] theorem A9E(p:AL):wp p none=none:=rfl
@[simp] theorem BDT(p:AL)(c:Prop)[Decidable c](x y:Option XS):wp p (if c then x else y)=if c then wp p x else wp p y:=by split<;>rfl
@[simp] theorem AXP(T:cx)(x y:cz):CT P E d (.sto T x y) st=wp (DS (bx (P.cellsOf T) 1) (BV st.fr x)) (stepK P E d (.sto T x y) st):=by show(match I0 P d T x y st with|some st'=>some (st',DS (bx (P.cellsOf T) 1) (BV st.fr x))|none=>none)=wp _ (I0 P d T x y st);cases I0 P d T x y st<;>rfl
@[simp] theorem A5J(x:Option V):C5 false x=BU x:=by cases x<;>rfl
@[simp] theorem ASE(l k g o:Nat):C5 true (some (.ptr l k g o))=[(l,k+2000000),(l,k+4000000),(l,6000000+1000*k+o)]:=rfl
@[simp] theorem AMQ(l k g i o:Nat):C5 true (some (.eptr l k g i o))=[(l,k+2000000),(l,k+4000000),(l,6000000+1000*k+o)]:=rfl
@[simp] theorem ASF(b:Bool)(cs:List V):C5 b (some (.ref cs))=[]:=by cases b<;>rfl
@[simp] theorem ASG(l k g o:Nat):DS true (some (.ptr l k g o))=[(l,k),(l,6000000+1000*k+o)]:=rfl
@[simp] theorem AMR(l k g i o:Nat):DS true (some (.eptr l k g i o))=[(l,k),(l,6000000+1000*k+o)]:=rfl
@[simp] theorem AMS(l k g o:Nat):DS false (some (.ptr l k g o))=[(l,k),(l,k+4000000)]:=rfl
@[simp] theorem AJL(l k g i o:Nat):DS false (some (.eptr l k g i o))=[(l,k),(l,k+4000000)]:=rfl
@[simp] theorem AMT(l k g o:Nat):BU (some (.ptr l k g o))=[(l,k)]:=rfl
@[simp] theorem AJM(l k g i o:Nat):BU (some (.eptr l k g i o))=[(l,k)]:=rfl
@[simp] theorem AMU(cs:List V):BU (some (.ref cs))=[]:=rfl
@[simp] theorem ASH(l k g o:Nat):JS (some (.ptr l k g o))=[]:=rfl
@[simp] theorem ASI(l k g n:Nat):JS (some (.vec l k g n))=[(l,k+NT)]:=rfl
@[simp] theorem AMV(b:Bool)(es:List (List V)):JS (some (.list b es))=[]:=rfl
@[simp] theorem ASJ(cs:List V):JS (some (.ref cs))=[]:=rfl
def c01(E:XE)(d:Option Tmp)(st:XS):Option V->Option (List V)->Option XS
 |some (.fn f first cap),some vs=>DH d st (E.c0 f ((first++vs++cap).map weakV))
 |_,_=>none
@[simp] theorem AFD(f:cp)(first cap vs:List V):c01 E d st (some (.fn f first cap)) (some vs)=DH d st (E.c0 f ((first++vs++cap).map weakV)):=rfl
@[simp] theorem ASK(t:Option Tmp)(f:cz)(args:List cz)(hr:FV f=false):CT P E d (.call false t f args) ⟨c,fr,s⟩=nw (c01 E d ⟨c,fr,s⟩ (BV fr f) (EE (BV fr) args)):=by
 show noW (cond (FV f) _ (FF E.c0 d f args ⟨c,fr,s⟩))=_;rw[hr,E6,cond_false];congr 1;unfold FF;cases hf:BV fr f with
 |none=>simp only[c01]
 |some v=>
  cases v with
  |fn g first cap=>
   simp only
   cases hm:EE (BV fr) args with
   |none=>simp only[c01]
   |some vs=>
    simp only[AFD]
    cases E.c0 g ((first++vs++cap).map weakV)<;>rfl
  |_=>simp only[c01]
@[simp] theorem AMW(t:Tmp)(f:cz)(args:List cz)(hr:FV f=false):CT P E d (.callM false t f args) ⟨c,fr,s⟩=nw (c01 E d ⟨c,fr,s⟩ (BV fr f) (EE (BV fr) args)):=by
 show noW (cond (FV f) _ (FF E.c0 d f args ⟨c,fr,s⟩))=_;rw[hr,E6,cond_false];congr 1;unfold FF;cases hf:BV fr f with
 |none=>simp only[c01]
 |some v=>
  cases v with
  |fn g first cap=>
   simp only
   cases hm:EE (BV fr) args with
   |none=>simp only[c01]
   |some vs=>
    simp only[AFD]
    cases E.c0 g ((first++vs++cap).map weakV)<;>rfl
  |_=>simp only[c01]
@[simp] theorem BDU{A:Ann}{kn:CF0}{n:Nat}:(BS P A kn n).c0=EY P kn (AG P A kn n):=rfl
end
theorem sB{A:Ann}{kn:CF0}{n N:Nat}(a b:cm):lH (AG P A kn n N) a b st (some (.bool true))=AG P A kn n N a st:=rfl
theorem mW{A:Ann}{kn:CF0}{n N:Nat}(a b:cm):lH (AG P A kn n N) a b st (some (.bool false))=AG P A kn n N b st:=rfl
attribute [simp] AE2 rX zC AE0 yX rV yY yZ zA AE1 rW mR AE3 zD AE4 aV rY mS rZ sB mW AE5
end Go.Pg
namespace Go.Pg
variable {P:cd}{E:XE}{st:XS}{fr:Fr}{s:St}
@[simp] theorem ASL(k:cr)(n:Int):A8 (.int k n)=[.int k n]:=rfl
@[simp] theorem AMX(b:Bool):A8 (.bool b)=[.bool b]:=rfl
@[simp] theorem ASM(cs:List V):A8 (.agg cs)=cs:=rfl
@[simp] theorem AMY(b:Bool)(es:List (List V)):A8 (.list b es)=[.list b es]:=rfl
@[simp] theorem ASN:A8 .nil=[.nil]:=rfl
@[simp] theorem ASO(l k g n:Nat):A8 (.vec l k g n)=[.vec l k g n]:=rfl
@[simp] theorem AXQ(l k g:Nat):A8 (.mp l k g)=[.mp l k g]:=rfl
@[simp] theorem AXR(f:cp)(x y:List V):A8 (.fn f x y)=[.fn f x y]:=rfl
@[simp] theorem ASP(l k g n:Nat):A8 (.ptr l k g n)=[.ptr l k g n]:=rfl
@[simp] theorem ASQ(cs:List V):A8 (.ref cs)=[.ref cs]:=rfl
@[simp] theorem ASR(k:cr)(n:Int):A9 (.int k n)=true:=rfl
@[simp] theorem AMZ(b:Bool):A9 (.bool b)=true:=rfl
@[simp] theorem ASS(cs:List V):A9 (.agg cs)=true:=rfl
@[simp] theorem AM0(b:Bool)(es:List (List V)):A9 (.list b es)=true:=rfl
@[simp] theorem AST:A9 .nil=true:=rfl
@[simp] theorem ASU(l k g n:Nat):A9 (.vec l k g n)=true:=rfl
@[simp] theorem AXS(l k g:Nat):A9 (.mp l k g)=true:=rfl
@[simp] theorem AXT(f:cp)(x y:List V):A9 (.fn f x y)=true:=rfl
@[simp] theorem ASV(l k g n:Nat):A9 (.ptr l k g n)=true:=rfl
@[simp] theorem ASW(cs:List V):A9 (.ref cs)=true:=rfl
@[simp] theorem AXU(op:BinOp)(T:cx)(k j:cr)(a b:Int):FZ P op T (.int k a) (.int j b)=if k=j then EL op k a b else aD op k a b:=rfl
@[simp] theorem A5K(k:cr)(a b:Int):aD .shl k a b=if b<0 then none else some (.int k (k.wrap (a*2 ^ (min b.toNat k.bits)))):=rfl
@[simp] theorem A5L(k:cr)(a b:Int):aD .shr k a b=if b<0 then none else some (.int k (a.fdiv (2 ^ (min b.toNat k.bits)))):=rfl
section
variable (k:cr)(a b:Int)
@[simp] theorem AXV:EL .add k a b=some (.int k (k.wrap (a+b))):=rfl
@[simp] theorem AXW:EL .sub k a b=some (.int k (k.wrap (a-b))):=rfl
@[simp] theorem AXX:EL .mul k a b=some (.int k (k.wrap (a*b))):=rfl
@[simp] theorem AXY:EL .quo k a b=if b=0 then none else some (.int k (k.wrap (a.tdiv b))):=rfl
@[simp] theorem AXZ:EL .rem k a b=if b=0 then none else some (.int k (a.tmod b)):=rfl
@[simp] theorem AX0:EL .and k a b=some (.int k (k.wrap (BitVec.ofInt k.bits a &&& BitVec.ofInt k.bits b).toNat)):=rfl
@[simp] theorem A5M:EL .or k a b=some (.int k (k.wrap (BitVec.ofInt k.bits a ||| BitVec.ofInt k.bits b).toNat)):=rfl
@[simp] theorem AJO:EL .andNot k a b=some (.int k (k.wrap (BitVec.ofInt k.bits a &&& ~~~ BitVec.ofInt k.bits b).toNat)):=rfl
@[simp] theorem AX1:EL .shl k a b=if b<0 then none else some (.int k (k.wrap (a*2 ^ (min b.toNat k.bits)))):=rfl
@[simp] theorem AX2:EL .shr k a b=if b<0 then none else some (.int k (a.fdiv (2 ^ (min b.toNat k.bits)))):=rfl
@[simp] theorem AX3:EL .eql k a b=some (.bool (decide (a=b))):=by show some (V.bool (a==b))=_;congr 2
@[simp] theorem AX4:EL .neq k a b=some (.bool (!decide (a=b))):=by show some (V.bool (a != b))=_;congr 2
@[simp] theorem AX5:EL .lss k a b=some (.bool (decide (a<b))):=rfl
@[simp] theorem AX6:EL .leq k a b=some (.bool (decide (a<=b))):=rfl
@[simp] theorem AX7:EL .gtr k a b=some (.bool (decide (b<a))):=rfl
@[simp] theorem AX8:EL .geq k a b=some (.bool (decide (b<=a))):=rfl
end
theorem AV{x:Int}(h1:-9223372036854775808<=x)(h2:x<9223372036854775808):IntKind.i64.wrap x=x:=by simp only[IntKind.wrap,IntKind.bits,IntKind.signed];simp;omega
@[simp] theorem AM1(T:cx)(a b:Bool):FZ P .eql T (.bool a) (.bool b)=if jF P T=true then some (.bool (a==b)) else none:=rfl
@[simp] theorem AM2(T:cx)(a b:Bool):FZ P .neq T (.bool a) (.bool b)=if jF P T=true then some (.bool (a != b)) else none:=rfl
def bl1(f:Bool->Bool):Option Bool->Option V
 |some b=>some (.bool (f b))
 |none=>none
@[simp] theorem A5N(f:Bool->Bool)(b:Bool):bl1 f (some b)=some (.bool (f b)):=rfl
@[simp] theorem ASX(T:cx)(cs ds:List V):FZ P .eql T (.agg cs) (.agg ds)=bl1 (fun b=>b) (QK P T cs ds):=by show(QK P T cs ds).map V.bool=_;cases QK P T cs ds<;>rfl
@[simp] theorem ASY(T:cx)(cs ds:List V):FZ P .neq T (.agg cs) (.agg ds)=bl1 (fun b=>!b) (QK P T cs ds):=by show(QK P T cs ds).map (fun b=>V.bool !b)=_;cases QK P T cs ds<;>rfl
def faP(P:cd)(x:V):Option (cx×Nat)->Option V
 |some (U,off)=>if P.cellsOf U=0 then none else match x with
  |.ref cs=>some (.ref (cs.drop off))
  |.ptr l k g o=>some (.ptr l k g (o+off))
  |.eptr l k g i o=>some (.eptr l k g i (o+off))
  |_=>none
 |none=>none
@[simp] theorem A9F(T:cx)(x:V)(f:Nat):C8 P T x f=faP P x (BE P T f):=by unfold C8 faP;cases BE P T f<;>rfl
@[simp] theorem A9G(U:cx)(off:Nat)(cs:List V):faP P (.ref cs) (some (U,off))=if P.cellsOf U=0 then none else some (.ref (cs.drop off)):=rfl
@[simp] theorem A9H(U:cx)(off l k g o:Nat):faP P (.ptr l k g o) (some (U,off))=if P.cellsOf U=0 then none else some (.ptr l k g (o+off)):=rfl
@[simp] theorem A5P(U:cx)(off l k g i o:Nat):faP P (.eptr l k g i o) (some (U,off))=if P.cellsOf U=0 then none else some (.eptr l k g i (o+off)):=rfl
def fd1(P:cd)(x:V):Option (cx×Nat)->Option V
 |some (U,off)=>match x with
  |.agg cs=>M5 P U cs off
  |_=>none
 |none=>none
@[simp] theorem ASZ(T:cx)(x:V)(f:Nat):JA P T x f=fd1 P x (BE P T f):=by unfold JA fd1;cases x<;>cases BE P T f<;>rfl
@[simp] theorem A9I(U:cx)(off:Nat)(cs:List V):fd1 P (.agg cs) (some (U,off))=M5 P U cs off:=rfl
def cb(g off:Nat):Option (Nat×AZ)->Option (List V)
 |some (g',.box cs)=>if g'=g then some (cs.drop off) else none
 |_=>none
@[simp] theorem A9J(g g' off:Nat)(cs:List V):cb g off (some (g',.box cs))=if g'=g then some (cs.drop off) else none:=rfl
def ce(g i off:Nat):Option (Nat×AZ)->Option (List V)
 |some (g',.vec _ es)=>if g'=g then(es[i]?).map (·.drop off) else none
 |_=>none
@[simp] theorem A9K(g g' i off:Nat)(T:cx)(es:List (List V)):ce g i off (some (g',.vec T es))=if g'=g then(es[i]?).map (·.drop off) else none:=rfl
@[simp] theorem AM3(cs:List V):BA s (.ref cs)=some cs:=rfl
@[simp] theorem AM4(l k g off:Nat):BA s (.ptr l k g off)=cb g off (s.get l k):=by
 unfold cb;simp only[BA];cases s.get l k with
 |none=>rfl
 |some z=>obtain⟨g',r⟩:=z;cases r<;>rfl
@[simp] theorem AJP(l k g i off:Nat):BA s (.eptr l k g i off)=ce g i off (s.get l k):=by
 unfold ce;simp only[BA];cases s.get l k with
 |none=>rfl
 |some z=>obtain⟨g',r⟩:=z;cases r<;>rfl
def iv(P:cd)(e:cx)(l k g n:Nat)(j:Int):Option (Nat×AZ)->Option V
 |some (g',.vec _ es)=>if g'=g/\0<=j/\j<n/\n<=es.length/\(es.getD j.toNat []).length=P.cellsOf e/\0<P.cellsOf e then some (.eptr l k g j.toNat 0) else none
 |_=>none
@[simp] theorem A9L(e:cx)(l k g g' n:Nat)(j:Int)(T:cx)(es:List (List V)):iv P e l k g n j (some (g',.vec T es))=if g'=g/\0<=j/\j<n/\n<=es.length/\(es.getD j.toNat []).length=P.cellsOf e/\0<P.cellsOf e then some (.eptr l k g j.toNat 0) else none:=rfl
def ia(P:cd)(s:St)(x i:V):Option (Option Nat×cx)->Option V
 |some (none,e)=>match x,i with
  |.list _ es,.int _ j=>if 0<=j/\j<es.length/\(es.getD j.toNat []).length=P.cellsOf e/\0<P.cellsOf e then some (.ref (es.getD j.toNat [])) else none
  |.vec l k g n,.int _ j=>iv P e l k g n j (s.get l k)
  |_,_=>none
 |some (some n,e)=>match x,i with
  |.ref cs,.int _ j=>if 0<=j/\j<n/\0<P.cellsOf e then some (.ref (cs.drop (j.toNat*P.cellsOf e))) else none
  |.ptr l k g o,.int _ j=>if 0<=j/\j<n/\0<P.cellsOf e then some (.ptr l k g (o+j.toNat*P.cellsOf e)) else none
  |.eptr l k g i' o,.int _ j=>if 0<=j/\j<n/\0<P.cellsOf e then some (.eptr l k g i' (o+j.toNat*P.cellsOf e)) else none
  |_,_=>none
 |none=>none
@[simp] theorem A9M(T:cx)(x i:V):BL P s T x i=ia P s x i (BK P T):=by
 unfold BL ia;cases BK P T with
 |none=>rfl
 |some z=>
  obtain⟨n,e⟩:=z
  cases n with
  |some n=>cases x<;>cases i<;>rfl
  |none=>
   cases x with
   |vec l k g n=>
    cases i with
    |int q j=>
     simp only[iv]
     cases s.get l k with
     |none=>rfl
     |some z=>obtain⟨g',r⟩:=z;cases r<;>rfl
    |_=>rfl
   |_=>cases i<;>rfl
@[simp] theorem A9N(e:cx)(b:Bool)(es:List (List V))(k:cr)(j:Int):ia P s (.list b es) (.int k j) (some (none,e))=if 0<=j/\j<es.length/\(es.getD j.toNat []).length=P.cellsOf e/\0<P.cellsOf e then some (.ref (es.getD j.toNat [])) else none:=rfl
@[simp] theorem BDX(e:cx)(l q g n:Nat)(k:cr)(j:Int):ia P s (.vec l q g n) (.int k j) (some (none,e))=iv P e l q g n j (s.get l q):=rfl
@[simp] theorem BDY(n:Nat)(e:cx)(cs:List V)(k:cr)(j:Int):ia P s (.ref cs) (.int k j) (some (some n,e))=if 0<=j/\j<n/\0<P.cellsOf e then some (.ref (cs.drop (j.toNat*P.cellsOf e))) else none:=rfl
@[simp] theorem BDZ(n:Nat)(e:cx)(l q g o:Nat)(k:cr)(j:Int):ia P s (.ptr l q g o) (.int k j) (some (some n,e))=if 0<=j/\j<n/\0<P.cellsOf e then some (.ptr l q g (o+j.toNat*P.cellsOf e)) else none:=rfl
@[simp] theorem A9O(n:Nat)(e:cx)(l q g i o:Nat)(k:cr)(j:Int):ia P s (.eptr l q g i o) (.int k j) (some (some n,e))=if 0<=j/\j<n/\0<P.cellsOf e then some (.eptr l q g i (o+j.toNat*P.cellsOf e)) else none:=rfl
def ix(P:cd)(T:cx)(x i:V):Option (Option Nat×cx)->Option V
 |some (some n,e)=>match x,i with
  |.agg cs,.int _ j=>if 0<=j/\j<n/\0<P.cellsOf e then M5 P e cs (j.toNat*P.cellsOf e) else none
  |_,_=>none
 |some (none,_)=>none
 |none=>F8 P T x i
@[simp] theorem AS0(T:cx)(x i:V)(h:BK P T≠none):F8 P T x i=ix P T x i (BK P T):=by
 unfold ix;cases he:BK P T with
 |none=>exact absurd he h
 |some z=>obtain⟨n,e⟩:=z;unfold F8;rw[he];cases n<;>cases x<;>cases i<;>rfl
@[simp] theorem BD0(T:cx)(n:Nat)(e:cx)(cs:List V)(k:cr)(j:Int):ix P T (.agg cs) (.int k j) (some (some n,e))=if 0<=j/\j<n/\0<P.cellsOf e then M5 P e cs (j.toNat*P.cellsOf e) else none:=rfl
theorem OK{T:cx}(h:DW P T=true):∃e,P.underlying T=some (.slice e):=by
 unfold DW at h;split at h
 ·rename_i e he;exact⟨e,he⟩
 ·cases h
@[simp] theorem sC{T:cx}(h:DW P T=true)(b:Bool)(es:List (List V)):GK P T (.list b es)=some (.int .i64 es.length):=by obtain⟨e,he⟩:=OK h;simp[GK,he]
@[simp] theorem AX9{T:cx}(h:DW P T=true)(l k g n:Nat):GK P T (.vec l k g n)=some (.int .i64 n):=by obtain⟨e,he⟩:=OK h;simp[GK,he]
@[simp] theorem zG{T:cx}(h:DW P T=true):GK P T .nil=some (.int .i64 0):=by obtain⟨e,he⟩:=OK h;simp[GK,he]
def fv(place:Nat->Option (Nat×Nat))(cs:List V)(v:V)(rest:List (Nat×V)):Option (Nat×Nat)->Option (List V)
 |none=>none
 |some (off,size)=>if (A8 v).length=size/\off+(A8 v).length<=cs.length then CX place (A6 cs off (A8 v)) rest else none
@[simp] theorem AYA(place:Nat->Option (Nat×Nat))(cs:List V):CX place cs []=some cs:=rfl
@[simp] theorem AS1(place:Nat->Option (Nat×Nat))(cs:List V)(i:Nat)(v:V)(rest:List (Nat×V)):CX place cs ((i,v)::rest)=fv place cs v rest (place i):=by simp only[CX];unfold fv;cases place i<;>rfl
@[simp] theorem A9P(place:Nat->Option (Nat×Nat))(cs:List V)(v:V)(rest:List (Nat×V))(off size:Nat):fv place cs v rest (some (off,size))=if (A8 v).length=size/\off+(A8 v).length<=cs.length then CX place (A6 cs off (A8 v)) rest else none:=rfl
attribute [simp] A6
@[simp] theorem AM5(size:Nat)(cs:List V):CI size cs 0=[]:=rfl
@[simp] theorem AM6(size:Nat)(cs:List V)(n:Nat):CI size cs (n+1)=cs.take size::CI size (cs.drop size) n:=rfl
def ch1(size len:Nat):Option (List V)->Option V
 |some cs=>some (.list true (CI size cs len))
 |none=>none
@[simp] theorem A5Q(size len:Nat)(cs:List V):ch1 size len (some cs)=some (.list true (CI size cs len)):=rfl
def bsz(P:cd)(e:cx)(len:Nat)(parts:List (Nat×V)):Option (List V)->Option V
 |some z=>if (parts.all fun p=>A9 p.2)=true/\z.length=P.cellsOf e/\0<P.cellsOf e/\len*P.cellsOf e<=2 ^ 24 then
   ch1 (P.cellsOf e) len (CX (fun i=>some (i*P.cellsOf e,P.cellsOf e)) (br len z).flatten parts) else none
 |none=>none
@[simp] theorem A5R(e:cx)(len:Nat)(parts:List (Nat×V))(z:List V):bsz P e len parts (some z)=if (parts.all fun p=>A9 p.2)=true/\z.length=P.cellsOf e/\0<P.cellsOf e/\len*P.cellsOf e<=2 ^ 24 then
   ch1 (P.cellsOf e) len (CX (fun i=>some (i*P.cellsOf e,P.cellsOf e)) (br len z).flatten parts) else none:=rfl
def bsl(P:cd)(len:Nat)(parts:List (Nat×V)):Option (Option Nat×cx)->Option V
 |some (none,e)=>bsz P e len parts (BZ P e)
 |_=>none
@[simp] theorem A5S(e:cx)(len:Nat)(parts:List (Nat×V)):bsl P len parts (some (none,e))=bsz P e len parts (BZ P e):=rfl
@[simp] theorem A9R(T:cx)(len:Nat)(parts:List (Nat×V)):B5 P T len parts=bsl P len parts (BK P T):=by
 unfold B5 bsl;cases BK P T with
 |none=>rfl
 |some z=>
  obtain⟨n,e⟩:=z
  cases n with
  |some n=>rfl
  |none=>
   simp only[bsz]
   cases BZ P e with
   |none=>rfl
   |some z=>
    simp only
    split
    ·cases CX (fun i=>some (i*P.cellsOf e,P.cellsOf e)) (br len z).flatten parts<;>rfl
    ·rfl
def fn2(f:cp):Option (List V)->Option (List V)->Option V
 |some a,some b=>some (.fn f a b)
 |_,_=>none
@[simp] theorem A5T(f:cp)(a b:List V):fn2 f (some a) (some b)=some (.fn f a b):=rfl
@[simp] theorem BD2(f:cp)(x y:Array cz)(r:cz->Option V):IU P (mL (.makeFunc (.func f) x y)) s r=fn2 f (EE r x.toList) (EE r y.toList):=by show((x.toList.mapM r).bind fun a=>(y.toList.mapM r).bind fun b=>some (V.fn f a b))=_;rw[<-KB,<-KB];cases EE r x.toList<;>cases EE r y.toList<;>rfl
@[simp] theorem A9T(x y:cz)(Ts:Array cx)(r:cz->Option V):IU P (mL (.call ⟨.builtin .max,#[x,y],Ts⟩)) s r=o2 RR (r x) (r y):=WM _ _ _
@[simp] theorem A9U(x y:cz)(Ts:Array cx)(r:cz->Option V):IU P (mL (.call ⟨.builtin .min,#[x,y],Ts⟩)) s r=o2 RS (r x) (r y):=WM _ _ _
@[simp] theorem AYB(k j:cr)(m n:Int):RR (.int k m) (.int j n)=if k=j then some (.int k (if n>m then n else m)) else none:=rfl
@[simp] theorem AYC(k j:cr)(m n:Int):RS (.int k m) (.int j n)=if k=j then some (.int k (if n<m then n else m)) else none:=rfl
theorem CL{e:cx}{n:Nat}{ys:List (List V)}(hc:0<P.cellsOf e)(hz:aH P e=true):B8 P e n ys=true↔(ys.all (fun y=>y.length==P.cellsOf e)=true/\n+ys.length<=maxLen/\(n+ys.length)*P.bytesOf e<=140737488355328):=by simp[B8,hc,hz,and_assoc]
end Go.Pg
namespace Go.Pg
variable {P:cd}{E:XE}{st:XS}{fr:Fr}{s:St}
theorem AP{P:cd}{kn:CF0}{rec:FU}{f:cp}{args:List V}(h:kn f args=none):A4 P kn rec f args=EJ P rec f args:=by unfold A4;rw[h]
def pv(k γ:Nat):List (List V)->V
 |[]=>.nil
 |e::es=>.vec 0 k γ (e::es).length
def pl(k γ:Nat)(T:cx):List (List V)->AA
 |[]=>[]
 |e::es=>[(k,γ,.vec T (e::es))]
def sl:List (List V)->V
 |[]=>.nil
 |e::es=>.list false (e::es)
@[simp] theorem ZD(k γ:Nat):pv k γ []=.nil:=rfl
@[simp] theorem MV(k γ:Nat)(T:cx):pl k γ T []=[]:=rfl
@[simp] theorem JF(k γ:Nat)(T:cx)(es:List (List V))(y:List V)(ys:List (List V)):pl k γ T (es++y::ys)=[(k,γ,.vec T (es++y::ys))]:=by cases es<;>rfl
@[simp] theorem vD(k γ:Nat)(T:cx)(y:List V)(ys:List (List V)):pl k γ T (y::ys)=[(k,γ,.vec T (y::ys))]:=rfl
@[simp] theorem BG2(k γ:Nat)(T:cx)(es:List (List V)):kl k [] ((pl k γ T es).get k)=pl k γ T es:=by
 cases es with
 |nil=>rfl
 |cons e es=>simp
@[simp] theorem A5U{k j:Nat}(γ:Nat)(T:cx)(es:List (List V))(h:j≠k):(pl k γ T es).get j=none:=by
 cases es with
 |nil=>rfl
 |cons e es=>simp[h]
@[simp] theorem AS2(e k c γ:Nat)(loc:AA)(es:List (List V))(y:List V)(ys:List (List V))(hl:AA.get loc k=(pl k γ e es).get k)(h1:es.all (fun y=>y.length==P.cellsOf e)=true)(h2:B8 P e es.length (y::ys)=true) :
  oD P e k c fr ⟨[],loc⟩ (pv k γ es) (y::ys)=some ⟨c+1,(k,true,pv k c (es++y::ys))::fr,⟨[],(k,c,.vec e (es++y::ys))::loc⟩⟩:=by
 cases es with
 |nil=>
  simp only[bq]at h2
  simp[h2,pv]
 |cons z es=>
  have hl:AA.get loc k=some (γ,.vec e (z::es)):=by rw[hl];simp
  simp only[pv,gH,gJ,bq,if_true,hl,SS,K1,LD,true_and,h1,h2]
  simp[Nat.add_comm,Nat.add_left_comm]
theorem UB{T:cx}(f:Nat)(loc:AA)(k γ:Nat)(es:List (List V))(hl:AA.get loc k=(pl k γ T es).get k):AX ⟨[],loc⟩ (f+1) (pv k γ es)=some (sl es):=by
 cases es with
 |nil=>rfl
 |cons z es=>
  have hl:AA.get loc k=some (γ,.vec T (z::es)):=by rw[hl];simp
  simp only[pv,sA,bq,if_true,hl,AFC,sl]
  simp
@[simp] theorem AYD(f k γ:Nat)(T:cx)(es:List (List V)):AX ⟨[],pl k γ T es⟩ (f+1) (pv k γ es)=some (sl es):=UB (T:=T) f _ k γ es rfl
@[simp] theorem A5V{T:cx}(h:DW P T=true)(es:List (List V)):GK P T (sl es)=some (.int .i64 es.length):=by
 cases es with
 |nil=>exact zG h
 |cons e es=>exact sC h _ _
@[simp] theorem BG3(e:cx)(es:List (List V))(k:cr)(j:Int):ia P s (sl es) (.int k j) (some (none,e))=if 0<=j/\j<es.length/\(es.getD j.toNat []).length=P.cellsOf e/\0<P.cellsOf e then some (.ref (es.getD j.toNat [])) else none:=by
 cases es with
 |nil=>
  rw[if_neg (by simp only[bq];omega)]
  rfl
 |cons z es=>rfl
@[simp] theorem AYE(f:Nat)(es:List (List V)):AK (f+1) (sl es)=es.all fun e=>e.all (AK f):=by cases es<;>rfl
@[simp] theorem A5W(es:List (List V)):weakN (sl es)=.list false es:=by cases es<;>rfl
@[simp] theorem A5X(es:List (List V)):weakM (sl es)=.list false es:=by cases es<;>rfl
@[simp] theorem A9V(es:List (List V)):weakV (sl es)=sl es:=by cases es<;>rfl
@[simp] theorem A5Y(es:List (List V)):weakC (sl es)=sl es:=by cases es<;>rfl
@[simp] theorem AYF(es:List (List V)):A8 (sl es)=[sl es]:=by cases es<;>rfl
@[simp] theorem AYG(es:List (List V)):A9 (sl es)=true:=by cases es<;>rfl
@[simp] theorem AYH(k γ:Nat)(es:List (List V)):A8 (pv k γ es)=[pv k γ es]:=by cases es<;>rfl
@[simp] theorem AYI(k γ:Nat)(es:List (List V)):A9 (pv k γ es)=true:=by cases es<;>rfl
@[simp] theorem AS3(es:List (List V)):elemsOf s (sl es)=some es:=by cases es<;>rfl
@[simp] theorem AYJ(f:Nat)(es:List (List V)):AX s (f+1) (sl es)=some (sl es):=by cases es<;>rfl
@[simp] theorem AYK(es:List (List V)):EF (some (sl es))=[]:=by cases es<;>rfl
@[simp] theorem AYL(es:List (List V)):JS (some (sl es))=[]:=by cases es<;>rfl
def zH(P:cd)(e:cx)(d c:Nat)(fr:Fr)(s:St)(xv:V)(ys:List (List V)):Option (XS×AL):=match IG xv ys with
 |some es=>if es.all (fun y=>y.length==P.cellsOf e)=true/\B8 P e es.length ys=true then some (⟨c+1,(d,true,.vec s.up.length d c (es.length+ys.length))::fr,s.put s.up.length d c (.vec e (es++ys))⟩,[(s.up.length,d),(s.up.length,d+NT)]) else none
 |none=>match xv with
  |.vec l q γ n=>wp [(l,q),(l,q+NT)] (apW P e d c fr s l q γ n ys (QM n ys (s.get l q)))
  |_=>none
def ad4(P:cd)(e:cx)(d c:Nat)(fr:Fr)(s:St)(xv:V):Option (List (List V))->Option (XS×AL)
 |some ys=>zH P e d c fr s xv ys
 |none=>none
@[simp] theorem AFE(e:cx)(d c:Nat)(xv:V)(ys:List (List V)):ad4 P e d c fr s xv (some ys)=zH P e d c fr s xv ys:=rfl
def ad3(P:cd)(d c:Nat)(fr:Fr)(s:St):Option (Option Nat×cx)->Option V->Option V->Option (XS×AL)
 |some (none,e),some xv,some yv=>ad4 P e d c fr s xv (elemsOf s yv)
 |_,_,_=>none
@[simp] theorem AFF(d c:Nat)(e:cx)(xv yv:V):ad3 P d c fr s (some (none,e)) (some xv) (some yv)=ad4 P e d c fr s xv (elemsOf s yv):=rfl
@[simp] theorem AM7(b:Bool)(es:List (List V)):pD (.list b es)=some es:=rfl
@[simp] theorem AS4:pD .nil=some []:=rfl
@[simp] theorem AYM(es:List (List V)):pD (sl es)=some es:=by cases es<;>rfl
@[simp] theorem AYN(d:Tmp)(c:Nat)(x y:cz)(T:cx):CT P E (some d) (.app [x,y] [T,T]) ⟨c,fr,s⟩=ad3 P d c fr s (BK P T) (BV fr x) (BV fr y):=by
 show xAppD P (some d) [x,y] [T,T] _=_;unfold xAppD xAppG;simp only[bt];cases hT:BK P T with
 |none=>cases BV fr x<;>cases BV fr y<;>rfl
 |some p=>
  obtain⟨k,e⟩:=p
  cases k with
  |some k=>cases BV fr x<;>cases BV fr y<;>rfl
  |none=>
   cases BV fr x with
   |none=>rfl
   |some xv=>
    cases BV fr y with
    |none=>rfl
    |some yv=>
     simp only[AFF]
     cases elemsOf s yv with
     |none=>rfl
     |some ys=>
      simp only[AFE,zH]
      cases IG xv ys with
      |some es=>
       simp only[ifB,bj,bw]
       by_cases hC:es.all (fun y=>y.length==P.cellsOf e)=true/\B8 P e es.length ys=true
       ·rw[if_pos hC,if_pos hC]
       ·rw[if_neg hC,if_neg hC]
      |none=>
       simp only
       unfold lA
       cases xv with
       |vec l q γ n=>
        simp only
        cases QM n ys (s.get l q)with
        |none=>rfl
        |some z=>
         obtain⟨γ',r⟩:=z
         cases r with
         |vec W es=>
          simp only[ifB,bj,bw,LD,cj,and_assoc]
          by_cases hC:γ'=γ/\W=e/\n=es.length/\es.all (fun y=>y.length==P.cellsOf e)=true/\B8 P e es.length ys=true
          ·rw[if_pos hC,if_pos hC];rfl
          ·rw[if_neg hC,if_neg hC];rfl
         |_=>rfl
       |_=>rfl
@[simp] theorem BD4(e k c γ:Nat)(loc:AA)(es:List (List V))(y:List V)(ys:List (List V))(hl:AA.get loc k=(pl k γ e es).get k)(h1:es.all (fun y=>y.length==P.cellsOf e)=true)(h2:B8 P e es.length (y::ys)=true) :
  zH P e k c fr ⟨[],loc⟩ (pv k γ es) (y::ys)=some (⟨c+1,(k,true,pv k c (es++y::ys))::fr,⟨[],(k,c,.vec e (es++y::ys))::loc⟩⟩,[(0,k),(0,k+NT)]):=by
 cases es with
 |nil=>
  simp only[bq]at h2
  simp[zH,IG,h2,pv]
 |cons z es=>
  have hl:AA.get loc k=some (γ,.vec e (z::es)):=by rw[hl];simp
  simp only[pv,zH,IG,gJ,bq,if_true,hl,SS,K1,LD,true_and,h1,h2]
  simp[Nat.add_comm,Nat.add_left_comm]
end Go.Pg
namespace Go.Pg
variable {P:cd}{E:XE}{st:XS}{fr:Fr}{s:St}
theorem sD{α:Type}(x:α):CV [x]=some ([],x):=rfl
def un1{α:Type}(x:α):Option (List α×α)->Option (List α×α)
 |some (a,b)=>some (x::a,b)
 |none=>none
@[simp] theorem A5Z{α:Type}(x:α)(a:List α)(b:α):un1 x (some (a,b))=some (x::a,b):=rfl
theorem U5{α:Type}(x y:α)(l:List α):CV (x::y::l)=un1 x (CV (y::l)):=by simp only[CV];unfold un1;cases CV (y::l)<;>rfl
attribute [simp] sD U5
def mX(d:Option Tmp)(fr:Fr)(c:Nat)(r:V):Option (List AA×AA)->Option XS
 |some (u,l)=>some ⟨c,putD fr d true r,⟨u,l⟩⟩
 |none=>none
@[simp] theorem AYO(d:Tmp)(c:Nat)(r:V)(u:List AA)(l:AA):mX (some d) fr c r (some (u,l))=some ⟨c,(d,true,r)::fr,⟨u,l⟩⟩:=rfl
@[simp] theorem A9W(c:Nat)(r:V)(u:List AA)(l:AA):mX none fr c r (some (u,l))=some ⟨c,fr,⟨u,l⟩⟩:=rfl
def mY(d:Option Tmp)(fr:Fr)(st:XS):Option V->Option XS
 |some r=>mX d fr st.c r (CV (st.s.up.map (AO st.s)))
 |none=>none
@[simp] theorem AYP(d:Option Tmp)(c:Nat)(fr':Fr)(up:List AA)(loc:AA)(r:V):mY d fr ⟨c,fr',⟨up,loc⟩⟩ (some r)=mX d fr c r (CV (up.map (AO ⟨up,loc⟩))):=rfl
def clX(s:St):Option V->Option V
 |some r=>AX s 4 r
 |none=>none
@[simp] theorem A50(r:V):clX s (some r)=AX s 4 r:=rfl
def gK(P:cd)(d:Option Tmp)(fr:Fr)(rs:List ResultVar)(r:Option (Exit×XS)):Option XS:=match r with
 |some (.ret,st)=>mY d fr st (clX st.s (FT P rs st.fr st.s))
 |some (.normal,st)=>mY d fr st (clX st.s (FT P rs st.fr st.s))
 |_=>none
@[simp] theorem AFG(d:Option Tmp)(rs:List ResultVar):gK P d fr rs (some (.ret,st))=mY d fr st (clX st.s (FT P rs st.fr st.s)):=rfl
@[simp] theorem mZ(d:Option Tmp)(rs:List ResultVar):gK P d fr rs (some (.normal,st))=mY d fr st (clX st.s (FT P rs st.fr st.s)):=rfl
theorem nA{A:Ann}{kn:CF0}{n:Nat}{f:cp}{fn:Func}{code:cm}{args:List V}(hf:P.funcs[f]? = some fn)(hb:fn.body=some code)(hs:cq args.length fn.ntmps=true)(hcl:(args.all (AK 9)&&!(BG P f))=false)(d:Option Tmp)(c:Nat)(fr:Fr)(up:List AA)(loc:AA) :
  MU (BS P A kn n) d ⟨c,fr,⟨up,loc⟩⟩ f args=gK P d fr fn.results.toList (AG P A kn n fn.ntmps code ⟨c,AH 0 args,⟨up++[loc],[]⟩⟩):=by
 show(match U0 P kn (AG P A kn n) f args ⟨c,fr,⟨up,loc⟩⟩ with
  |some (r,st')=>some (⟨st'.c,putD st'.fr d true r,st'.s⟩:XS)
  | none=>none)=_
 unfold U0
 rw[hcl]
 unfold cG UZ lI
 rw[hf]
 simp only[hb,hs]
 generalize AG P A kn n fn.ntmps code ⟨c,AH 0 args,⟨up++[loc],[]⟩⟩=q
 have aux:∀st:XS,(match(match(match xZ P fn.results.toList st with
   |some (r,c,up)=>match CV up with
    |some (u,l)=>some (r,(⟨c,fr,⟨u,l⟩⟩:XS))
    |none=>none
   | none=>none:Option (V×XS))with
   |some r=>some r
   | none=>none:Option (V×XS))with
  |some (r,st')=>some (⟨st'.c,putD st'.fr d true r,st'.s⟩:XS)
  | none=>none)=mY d fr st (clX st.s (FT P fn.results.toList st.fr st.s)):=fun st=>by
  unfold xZ clX
  cases FT P fn.results.toList st.fr st.s with
  |none=>rfl
  |some r=>
   cases h:AX st.s 4 r with
   |none=>simp[mY,h]
   |some r'=>
    simp only[h,mY]
    cases CV (st.s.up.map (AO st.s))with
    |none=>rfl
    |some z=>rfl
 cases q with
 |none=>rfl
 |some q=>
  obtain⟨e,st⟩:=q
  have:=aux st
  cases e with
  |ret=>simp only[AFG,<-this];cases xZ P fn.results.toList st with
   |none=>rfl
   |some z=>
    obtain⟨r,c,up⟩:=z
    simp only
    cases CV up<;>rfl
  |normal=>simp only[mZ,<-this];cases xZ P fn.results.toList st with
   |none=>rfl
   |some z=>
    obtain⟨r,c,up⟩:=z
    simp only
    cases CV up<;>rfl
  |_=>rfl
theorem BQ{A:Ann}{kn:CF0}{n:Nat}{f:cp}{fn:Func}{code:cm}{args:List V}(hf:P.funcs[f]? = some fn)(hb:fn.body=some code)(hs:cq args.length fn.ntmps=true)(hcl:args.all (AK 9)=false)(d:Option Tmp)(c:Nat)(fr:Fr)(up:List AA)(loc:AA) :
  MU (BS P A kn n) d ⟨c,fr,⟨up,loc⟩⟩ f args=gK P d fr fn.results.toList (AG P A kn n fn.ntmps code ⟨c,AH 0 args,⟨up++[loc],[]⟩⟩) :=
 nA hf hb hs (by rw[hcl,Bool.false_and]) d c fr up loc
theorem gL{A:Ann}{kn:CF0}{n:Nat}{f:cp}{fn:Func}{code:cm}{args:List V}(hf:P.funcs[f]? = some fn)(hb:fn.body=some code)(hs:cq args.length fn.ntmps=true)(hh:BG P f=true)(d:Option Tmp)(c:Nat)(fr:Fr)(up:List AA)(loc:AA) :
  MU (BS P A kn n) d ⟨c,fr,⟨up,loc⟩⟩ f args=gK P d fr fn.results.toList (AG P A kn n fn.ntmps code ⟨c,AH 0 args,⟨up++[loc],[]⟩⟩) :=
 nA hf hb hs (by rw[hh,Bool.not_true,Bool.and_false]) d c fr up loc
@[simp] theorem AS6(f l k g o:Nat):AK (f+1) (.ptr l k g o)=false:=rfl
@[simp] theorem AS7(f l k g o:Nat):AK (f+1) (.vec l k g o)=false:=rfl
@[simp] theorem AYQ(f l k g:Nat):AK (f+1) (.mp l k g)=false:=rfl
@[simp] theorem A51(l k g o:Nat):weakV (.ptr l k g o)=.ptr l k g o:=rfl
@[simp] theorem A52(l k g o:Nat):weakV (.vec l k g o)=.vec l k g o:=rfl
@[simp] theorem A53(cs:List V):weakV (.ref cs)=.ref cs:=rfl
@[simp] theorem BD6(d c:Nat)(f:cp)(x y:List V):bx1 d c fr s (some (.fn f x y))=some ⟨c+1,(d,true,.ptr s.up.length d c 0)::fr,s.put s.up.length d c (.box [.fn f x y])⟩:=rfl
@[simp] theorem A9X(d c:Nat)(l k g o:Nat):bx1 d c fr s (some (.ptr l k g o))=some ⟨c+1,(d,true,.ptr s.up.length d c 0)::fr,s.put s.up.length d c (.box [.ptr l k g o])⟩:=rfl
@[simp] theorem BD7(d c:Nat)(es:List (List V)):bx1 d c fr s (some (sl es))=some ⟨c+1,(d,true,.ptr s.up.length d c 0)::fr,s.put s.up.length d c (.box [sl es])⟩:=by cases es<;>rfl
@[simp] theorem JW:AO s []=[]:=rfl
@[simp] theorem CA(k g:Nat)(r:AZ)(L:AA):AO s ((k,g,r)::L)=(k,g,BN s r)::AO s L:=rfl
def sr1(r:AZ):Option (List V)->AZ
 |some ds=>.box ds
 |none=>r
@[simp] theorem A54(r:AZ)(ds:List V):sr1 r (some ds)=.box ds:=rfl
theorem nB(cs:List V):BN s (.box cs)=sr1 (.box cs) (GP (BT s) cs):=by unfold BN BO sr1;simp only;cases GP (BT s) cs<;>rfl
attribute [simp] nB
theorem sE(f:V->Option V):GP f []=some []:=rfl
theorem nC(f:V->Option V)(v:V)(l:List V):GP f (v::l)=mc2 (f v) (GP f l):=by
 simp only[GP];cases f v with
 |none=>rfl
 |some x=>cases GP f l<;>rfl
attribute [simp] sE nC
@[simp] theorem AM8(k:cr)(n:Int):BT s (.int k n)=some (.int k n):=rfl
@[simp] theorem AJQ(b:Bool):BT s (.bool b)=some (.bool b):=rfl
@[simp] theorem AJR(b:Bool)(es:List (List V)):BT s (.list b es)=some (.list b es):=rfl
@[simp] theorem AM9:BT s .nil=some .nil:=rfl
@[simp] theorem AS8(es:List (List V)):BT s (sl es)=some (sl es):=by cases es<;>rfl
@[simp] theorem AS9(f:cp)(x y:List V):BT s (.fn f x y)=AX s 4 (.fn f x y):=rfl
@[simp] theorem ANA(l k g o:Nat):BT s (.ptr l k g o)=AX s 4 (.ptr l k g o):=rfl
@[simp] theorem ANB(l k g o:Nat):BT s (.vec l k g o)=AX s 4 (.vec l k g o):=rfl
@[simp] theorem ANC(cs:List V):BT s (.agg cs)=AX s 4 (.agg cs):=rfl
@[simp] theorem AYR(f:Nat)(g:cp)(x y:List V):AX s (f+1) (.fn g x y)=fn2 g (PW (AX s f) x) (PW (AX s f) y):=by simp only[AX,SU,fn2];cases PW (AX s f) x<;>cases PW (AX s f) y<;>rfl
def cp1(f:List V->Option (List V))(g off:Nat):Option (Nat×AZ)->Option V
 |some (g',.box cs)=>if g'=g then(f cs).map fun ds=>.ref (ds.drop off) else none
 |_=>none
@[simp] theorem ATA(f:Nat)(up:List AA)(loc:AA)(l k g off:Nat):AX ⟨up,loc⟩ (f+1) (.ptr l k g off)=if l=up.length then cp1 (PW (AX ⟨up,loc⟩ f)) g off (loc.get k) else some (.ptr l k g off):=by
 simp only[AX,SU];split
 ·cases loc.get k with
  |none=>rfl
  |some z=>obtain⟨g',r⟩:=z;cases r<;>rfl
 ·rfl
def ow3(d c:Nat)(fr:Fr)(s:St):Option V->Option XS
 |some r=>some ⟨c+1,(d,true,r)::fr,s.put s.up.length d c .dead⟩
 |none=>none
@[simp] theorem nD(d c:Nat)(r:V):ow3 d c fr s (some r)=some ⟨c+1,(d,true,r)::fr,s.put s.up.length d c .dead⟩:=rfl
theorem ZE{A:Ann}{kn:CF0}{n:Nat}{f:cp}{d c:Nat}{fr:Fr}{s:St}{x:cz}{args:List cz}{first cap vs:List V}{r:V}(hf:BV fr x=some (.fn f first cap))(hv:EE (BV fr) args=some vs)(hS:IZ P f=false)(hr:AK 9 r=true)(h:EY P kn (AG P A kn n) f ((first++vs++cap).map weakV)=some r) :
  stepK P (BS P A kn n) (some d) (.call true none x args) ⟨c,fr,s⟩=ow3 d c fr s (some r):=by
 show P4 (BS P A kn n) true (some d) x args ⟨c,fr,s⟩=_
 unfold P4
 show(match EV (BS P A kn n).co (some d) x args ⟨c,fr,s⟩ with|some st'=>some st'|none=>_)=_
 unfold EV
 simp only[hf,hv]
 have:(BS P A kn n).co f ((first++vs++cap).map weakV) d=some ⟨.dead,some r⟩:=by show IM P kn (fun _ _ _=>none) (AG P A kn n) f _ d=_;unfold IM;simp only[hS,h]
 rw[this]
 simp only[Mk.val,BX 9 r hr,nD]
theorem AJS:BN s .dead=.dead:=rfl
attribute [simp] AJS
end Go.Pg
theorem Go.Pg.qNz (m:Nat)(h:0<m):∃k,m=k+1:=⟨m-1,by omega⟩
