/- Operations of a region with all that hangs on the region alone worked out; running them one after another. No program in sight. -/
import Derived.Test.YtmnlpgjklibndaaGreatQ2
noncomputable section
open Go renaming TypeId->cx,Operand->cz,Program->cd,Oper->cg,Code->cm,FuncId->cp,IntKind->cr
open Bool renaming and_eq_true->bj
open List renaming length_nil->bq,length_append->bw,getElem?_eq_getElem->bz,mapM_cons->bf,all_cons->bn,replicate->br,mapM_nil->ck
open Nat renaming beq->bx,blt_eq->bc,eq_of_beq_eq_true->bg,blt->bh,le_trans->bp,beq_refl->bt,beq_eq->cj,ble->cq
namespace Go.Pg
variable {P:cd}{E:XE}
inductive IK where
 |mv (x:cz)
 |bin (op:BinOp) (T:cx) (x y:cz)
 |fa (T:cx) (x:cz) (f:Nat)
 |ld (T:cx) (x:cz)
 |ldz (T:cx) (x:cz)
 |pick (c a b:cz)
 |build (T:cx) (ps:List (Nat×cz))
 |buildS (T:cx) (n:Nat) (ps:List (Nat×cz))
 |oth (op:Op)
 |alloc (T:cx)
 |box (x:cz)
 |mkM (r:Option cz)
 |mkS (T:cx) (x y:cz)
 |sto (T:cx) (x y:cz)
 |upd (T:cx) (x i y:cz)
 |call (own:Bool) (tk:Option Tmp) (f:cz) (args:List cz)
 |callM (own:Bool) (t:Tmp) (f:cz) (args:List cz)
 |app (args:List cz) (Ts:List cx)
 |appS (args:List cz) (Ts:List cx)
 |clr (args:List cz) (Ts:List cx)
 |cpy (args:List cz) (Ts:List cx)
def oO (op : Op) : cg := { dst := none, op := op, type := 0, pos := "", after := #[], guard := none }
def K2(all:List cg)(o:cg):IK:=match o.op with
 |.move x=>.mv x
 |.assign x=>.mv x
 |.binOp op T x y _=>.bin op T x y
 |.fieldAddr T x f=>.fa T x f
 |.load T x=>.ld T x
 |.pick c a b=>.pick c a b
 |.build T ps=>.build T ps.toList
 |.buildSlice T n ps=>.buildS T n ps.toList
 |.alloc T=>.alloc T
 |.box _ x=>.box x
 |.makeMap _ r=>.mkM r
 |.makeSlice T x y=>.mkS T x y
 |.store T x y=>.sto T x y
 |.mapUpdate T x i y=>.upd T x i y
 |.call c=>match c.callee with
  |.value f=>match WC all c.args.toList with
   |some t=>.call (DH all o) (some t) f c.args.toList
   |none=>match cI all c.args.toList with
    |some t=>.callM (DH all o) t f c.args.toList
    |none=>.call (DH all o) none f c.args.toList
  |.builtin .append=>cond (sealD o.dst) (.appS c.args.toList c.argTypes.toList) (.app c.args.toList c.argTypes.toList)
  |.builtin .clear=>.clr c.args.toList c.argTypes.toList
  |.builtin .copy=>.cpy c.args.toList c.argTypes.toList
  |_=>.oth o.op
 |op=>.oth op
structure JF where
 g:Option (Tmp×Bool)
 d:Option Tmp
 k:IK
def comp(all:List cg)(o:cg):JF:=⟨LA all o,o.dst,K2 all o⟩
def AG9:IK->IK
 |.ld T x=>.ldz T x
 |k=>k
def eY(all:List cg)(o:cg):JF:=⟨LA all o,o.dst,cond (zB all o) (AG9 (K2 all o)) (K2 all o)⟩
def DM(d:Option Tmp)(st:XS)(r:Option V):Option XS:=match r with
 |some v=>some ⟨st.c,putD st.fr d true v,st.s⟩
 |none=>none
def AO5(tk:Option Tmp)(st:XS):XS:=match tk with
 |none=>st
 | some t=>match(match FD st.fr t with
   |some (true,.vec l q γ n)=>match st.s.get l q with
    |some (γ',.vec _ es)=>Bool.rec none (some ⟨st.c,(t,true,.list false (es.take n))::st.fr,st.s.put l q γ .dead⟩) (bx γ' γ&&cq n es.length&&bh γ st.c)
    |_=>none
   | _=>none:Option XS)with
  |some st1=>st1
  |none=>st
def aH(P:cd)(args:List cz)(Ts:List cx)(fr:Fr):Option V:=match args,Ts with
 | [x,y],[T,U]=>cond (bx T U) (match B5 fr x,B5 fr y with
  |some xv,some yv=>N9 P T xv yv
  | _,_=>none) none
 |_,_=>none
theorem xO{o:cg}{args:Array cz}{Ts:Array cx}{fr:Fr}(h:sealD o.dst=true):appS P true o args Ts fr=aH P args.toList Ts.toList fr:=by
 unfold appS aH;split
 ·rename_i x y T U hx hT;simp only[hx,hT,h,true_and,<-DT];by_cases e:T=U
  ·subst e;rw[if_pos rfl,bt];cases B5 fr x with
   |none=>rfl
   |some xv=>cases B5 fr y<;>rfl
  ·rw[if_neg e];cases hb:bx T U with
   |true=>exact absurd (bg hb) e
   |false=>rfl
 ·rename_i hn;split
  ·rename_i x y T U hx hT;exact(hn x y T U hx hT).elim
  ·rfl
def stepK(P:cd)(E:XE)(d:Option Tmp)(k:IK)(st:XS):Option XS:=match k with
 |.mv x=>DM d st (B5 st.fr x)
 |.bin op T x y=>DM d st (AAF P st.fr op T x y)
 |.fa T x f=>DM d st (xFA P st.fr T x f)
 |.ld T x=>DM d st (ON P st.fr st.s T x)
 |.ldz T x=>DM d st (ON P st.fr st.s T x)
 |.pick c a b=>DM d st (wK st.fr c a b)
 |.build T ps=>DM d st (UD P st.fr T ps)
 |.buildS T n ps=>DM d st (PM P st.fr T n ps)
 |.oth op=>DM d st (JG P (oO op) st.s (B5 st.fr))
 |.alloc T=>OS P d T st
 |.box x=>nQ d x st
 |.mkM r=>AAN d r st
 |.mkS T x y=>VT P d T x y st
 |.sto T x y=>JM P d T x y st
 |.upd T x i y=>AAO P d T x i y st
 |.call own tk f args=>QM E own d f args (AO5 tk st)
 |.callM own t f args=>QM E own d f args (LY t st)
 |.app args Ts=>xAppend P d args Ts st
 |.appS args Ts=>DM d st (aH P args Ts st.fr)
 |.clr args Ts=>UM P d args Ts st
 |.cpy args Ts=>wM P d args Ts st
def opI(P:cd)(E:XE)(i:JF)(st:XS):Option XS:=match gdX st.fr i.g with
 |some true=>stepK P E i.d i.k st
 |some false=>some (H7 i.d st)
 |none=>none
def opO(P:cd)(E:XE)(i:JF)(r:Option XS):Option XS:=match r with
 |some st=>opI P E i st
 |none=>none
def O0(P:cd)(E:XE):List JF->Option XS->Option XS
 |[],r=>r
 |i::l,r=>O0 P E l (opO P E i r)
theorem aI(all:List cg)(st:XS):∀(xs:List cz),(match OO all st xs with
  |some st1=>st1
  | none=>st)=AO5 (WC all xs) st
 |[]=>rfl
 |x::r=>by
  unfold OO WC;cases x with
  |tmp t=>
   simp only
   cases AK1 all t with
   |false=>exact aI all st r
   |true=>rfl
  |_=>exact aI all st r
theorem A6S{o:cg}{st:XS}:AFL P (fun _=>false) o st=none:=by unfold AFL;split<;>rfl
theorem AHA(hl:E.lit=fun _=>false)(all:List cg)(o:cg)(st:XS):opX P E all o st=opI P E (comp all o) st:=by
  unfold opX opI;rw[hl];simp only[A6S];have:(match wO all o st with
      |some st1=>QN P E (DH all) o st1
      | none=>QN P E (DH all) o st)=stepK P E o.dst (K2 all o) st:=by
    have ht:∀(r:Option XS),(match r with
      |some st1=>QN P E (DH all) o st1
      | none=>QN P E (DH all) o st)=QN P E (DH all) o (match r with
      |some st1=>st1
      | none=>st):=fun r=>by cases r <;> rfl
    rw[ht]
    obtain⟨d,op,T,pos,af,gd⟩:=o
    cases op with
    |call c=>
      obtain⟨cal,args,Ts⟩:=c
      cases cal with
      |value f=>
        have e1:=aI all st args.toList
        show QN P E _ _ (match(match WC all args.toList with
          |some _=>OO all st args.toList
          |none=>match cI all args.toList with
            |some t=>some (LY t st)
            | none=>none:Option XS)with | some st1=>st1 | none=>st)=stepK P E d (match WC all args.toList with
          |some t=>.call (DH all _) (some t) f args.toList
          |none=>match cI all args.toList with
            |some t=>.callM (DH all _) t f args.toList
            | none=>.call (DH all _) none f args.toList) st
        cases ht:WC all args.toList with
        |some t=>
          rw[ht]at e1
          simp only
          rw[e1]
          rfl
        |none=>cases cI all args.toList<;>rfl
      |builtin b=>
        cases b<;>first
          |rfl
          | (show(Bool.rec (xAppend P d args.toList Ts.toList st) (xVal P _ st) (sealD d):Option XS)=stepK P E d (cond (sealD d) (.appS args.toList Ts.toList) (.app args.toList Ts.toList)) st
             cases hs:sealD d with
             |false=>rfl
             |true=>
               show xVal P _ st=DM d st (aH P args.toList Ts.toList st.fr)
               unfold xVal AAG
               simp only
               rw[xO hs]
               rfl)
      |_=>rfl
    |_=>rfl
  show _=(match gdX st.fr (LA all o)with
    |some true=>stepK P E o.dst (K2 all o) st
    |some false=>some (H7 o.dst st)
    | none=>none)
  cases gdX st.fr (LA all o)with
  |none=>rfl
  |some b=>
    cases b with
    |false=>rfl
    |true=>exact this
theorem IQ:∀(l:List JF),O0 P E l none=none
 |[]=>rfl
 |_::l=>IQ l
theorem jB(hl:E.lit=fun _=>false)(all:List cg):∀(l:List cg) (st:XS),hU P E all l st=O0 P E (l.map (comp all)) (some st)
 |[],st=>rfl
 |o::l,st=>by
  simp only[hU,List.map_cons,O0,opO];rw[AHA hl];cases opI P E (comp all o) st with
  |none=>exact(IQ _).symm
  |some st'=>exact jB hl all l st'
def GI(P:cd)(k:IK)(r:cz->Option V):AN:=match k with
 |.ld T x=>FE (bx (P.cellsOf T) 1) (r x)
 |.app xs _=>IL r xs
 |.appS xs _=>IL r xs
 |.call _ _ f args=>cond (F7 f) (RF r args) []
 |.callM _ _ f args=>cond (F7 f) (RF r args) []
 |.oth op=>D9 P (oO op) r
 |_=>[]
def CV(P:cd)(E:XE)(d:Option Tmp)(k:IK)(st:XS):Option (XS×AN):=match k with
 |.mv x=>noW (DM d st (B5 st.fr x))
 |.bin op T x y=>noW (DM d st (AAF P st.fr op T x y))
 |.fa T x f=>noW (DM d st (xFA P st.fr T x f))
 |.ld T x=>noW (DM d st (ON P st.fr st.s T x))
 |.ldz T x=>noW (DM d st (ON P st.fr st.s T x))
 |.pick c a b=>noW (DM d st (wK st.fr c a b))
 |.build T ps=>noW (DM d st (UD P st.fr T ps))
 |.buildS T n ps=>noW (DM d st (PM P st.fr T n ps))
 |.oth op=>noW (DM d st (JG P (oO op) st.s (B5 st.fr)))
 |.alloc T=>noW (OS P d T st)
 |.box x=>noW (nQ d x st)
 |.mkM r=>noW (AAN d r st)
 |.mkS T x y=>noW (VT P d T x y st)
 |.sto T x y=>AFP P d T x y st
 |.upd ..=>none
 |.call own _ f args=>Bool.rec (noW (cond (F7 f) (OP E.c0 E.co d f args st) (FR E.c0 d f args st))) (noW (E3 E.co d f args st)) own
 |.callM own _ f args=>Bool.rec (noW (cond (F7 f) (OP E.c0 E.co d f args st) (FR E.c0 d f args st))) (noW (E3 E.co d f args st)) own
 |.app args Ts=>xAppD P d args Ts st
 |.appS args Ts=>noW (DM d st (aH P args Ts st.fr))
 |.clr ..=>none
 |.cpy ..=>none
def US:IK->Bool
 |.sto ..|.app ..=>true
 |_=>false
def UT(P:cd)(E:XE)(i:JF)(st:XS):Option (XS×AN):=match gdX st.fr i.g with
 |some true=>CV P E i.d i.k st
 |some false=>Bool.rec (some (H7 i.d st,[])) none (US i.k)
 |none=>none
def oP(P:cd)(E:XE)(i:JF)(r:Option (XS×AN×AN)):Option (XS×AN×AN):=match r with
 |some (st,rd,wr)=>match UT P E i st with
  |some (st',w)=>some (st',GI P i.k (B5 st.fr)++rd,w++wr)
  |none=>none
 |none=>none
def UU(P:cd)(E:XE):List JF->Option (XS×AN×AN)->Option (XS×AN×AN)
 |[],r=>r
 |i::l,r=>UU P E l (oP P E i r)
def aJ(r:Option (XS×AN×AN)):Option XS:=match r with
 |some (st,rd,wr)=>Bool.rec none (some st) (wr.all fun p=>!(rd.contains p))
 |none=>none
structure oQ where
 new:List Tmp
 ph:List JF
 sq:List JF
def jC(new:List Tmp)(st:XS):Bool:=new.all fun d=>(st.s.loc.get d).isNone
def AHB(new:List Tmp)(r:Option XS):Option (XS×AN×AN):=match r with
 |some st=>Bool.rec none (some (st,[],[])) (jC new st)
 |none=>none
def UV(P:cd)(E:XE):List oQ->Option XS->Option XS
 |[],r=>r
 |p::S,r=>UV P E S (O0 P E p.sq (aJ (UU P E p.ph (AHB p.new r))))
def eZ(l:List cg)(R:List Nat):List JF:=R.filterMap fun i=>(l[i]?).map (comp l)
def fA(l:List cg)(R:List Nat):List JF:=R.filterMap fun i=>(l[i]?).map (eY l)
def xP(l:List cg)(R:List Nat):List Tmp:=R.filterMap fun i=>match l[i]? with
 |some o=>cond (kA (DH l) o) o.dst none
 |none=>none
def oR(l:List cg)(p:List Nat×List Nat):oQ:=⟨xP l p.1,fA l p.1,eZ l p.2⟩
def D7(l:List cg)(S:V9):Bool:=S.all fun p=>p.1.all (fun i=>bh i l.length)&&p.2.all (fun i=>bh i l.length)
theorem AA4(all:List cg)(o:cg)(st:XS):iC P E (DH all) o st=CV P E o.dst (K2 all o) st:=by
  obtain⟨d,op,T,pos,af,gd⟩:=o;cases op with
  |call c=>
    obtain⟨cal,args,Ts⟩:=c
    cases cal with
    |builtin b=>
      cases b<;>first
        |rfl
        | (show(Bool.rec (xAppD P d args.toList Ts.toList st) (noW (xVal P _ st)) (sealD d):Option (XS×AN))=CV P E d (cond (sealD d) (.appS args.toList Ts.toList) (.app args.toList Ts.toList)) st
           cases hs:sealD d with
           |false=>rfl
           |true=>
             show noW (xVal P _ st)=noW (DM d st (aH P args.toList Ts.toList st.fr))
             unfold xVal AAG
             simp only
             rw[xO hs]
             rfl)
    |value f=>
      unfold K2
      simp only
      cases WC all args.toList with
      |some t=>rfl
      |none=>cases cI all args.toList<;>rfl
    |_=>rfl
  |_=>rfl
theorem AUF(all:List cg)(o:cg)(r:cz->Option V):D9 P o r=GI P (K2 all o) r:=by
  obtain⟨d,op,T,pos,af,gd⟩:=o;cases op with
  |call c=>
    obtain⟨cal,args,Ts⟩:=c
    cases cal with
    |builtin b=>
      cases b<;>first
        |rfl
        | (show IL r args.toList=GI P (cond (sealD d) (.appS args.toList Ts.toList) (.app args.toList Ts.toList)) r
           cases sealD d <;> rfl)
    |value f=>
      unfold K2
      simp only
      cases WC all args.toList with
      |some t=>rfl
      |none=>cases cI all args.toList<;>rfl
    |_=>rfl
  |_=>rfl
theorem A6T(all:List cg)(o:cg):(kW o||kP o)=US (K2 all o):=by
  obtain⟨d,op,T,pos,af,gd⟩:=o;cases op with
  |call c=>
    obtain⟨cal,args,Ts⟩:=c
    cases cal with
    |builtin b=>
      cases b<;>first
        |rfl
        | (show(false||!sealD d)=US (cond (sealD d) (.appS args.toList Ts.toList) (.app args.toList Ts.toList))
           cases sealD d <;> rfl)
    |value f=>
      unfold K2
      simp only
      cases WC all args.toList with
      |some t=>simp[kW,kP,US]
      |none=>cases cI all args.toList<;>simp[kW,kP,US]
    |_=>rfl
  |_=>rfl
theorem ALS(all:List cg)(o:cg)(st:XS):sX P E all o st=UT P E (comp all o) st:=by unfold sX UT;rw[AA4,A6T];rfl
theorem uG(d:Option Tmp)(k:IK)(st:XS):CV P E d (AG9 k) st=CV P E d k st:=by cases k<;>rfl
theorem ALT(k:IK):US (AG9 k)=US k:=by cases k<;>rfl
theorem AUG(all:List cg)(o:cg)(st:XS):UT P E (eY all o) st=UT P E (comp all o) st:=by
 unfold eY comp;cases zB all o with
 |false=>rfl
 |true=>
  show UT P E ⟨LA all o,o.dst,AG9 (K2 all o)⟩ st=_
  unfold UT
  simp only[uG,ALT]
theorem AUH(all:List cg)(o:cg)(r:cz->Option V):cond (zB all o) [] (D9 P o r)=GI P (eY all o).k r:=by
 unfold eY;cases hz:zB all o with
 |false=>exact AUF all o r
 |true=>
  obtain⟨T,x,ho⟩:=AOQ hz
  show[]=GI P (AG9 (K2 all o)) r
  unfold K2
  rw[ho]
  rfl
theorem PQ:∀(l:List JF),UU P E l none=none
 |[]=>rfl
 |_::l=>PQ l
theorem AHC(l:List cg):∀(R:List Nat) (st:XS) (rd wr:AN),R.all (fun i=>bh i l.length)=true->phX P E l R st rd wr=UU P E (fA l R) (some (st,rd,wr))
 |[],st,rd,wr,_=>rfl
 |i::R,st,rd,wr,h=>by
  simp only[bn,bj,bc]at h;have hi:=bz h.1;have hp:fA l (i::R)=eY l l[i]::fA l R:=by simp[fA,hi]
  rw[hp];simp only[phX,hi,UU,oP,ALS,AUG];cases UT P E (comp l l[i]) st with
  |none=>exact(PQ _).symm
  |some q=>
   obtain⟨st',w⟩:=q
   simp only
   rw[AHC l R _ _ _ h.2,AUH l]
theorem AHD(hl:E.lit=fun _=>false)(l:List cg):∀(R:List Nat) (st:XS),R.all (fun i=>bh i l.length)=true->sqX P E l R st=O0 P E (eZ l R) (some st)
 |[],st,_=>rfl
 |i::R,st,h=>by
  simp only[bn,bj,bc]at h;have hi:=bz h.1;have hp:eZ l (i::R)=comp l l[i]::eZ l R:=by simp[eZ,hi]
  rw[hp];simp only[sqX,hi,O0,opO,AHA hl];cases opI P E (comp l l[i]) st with
  |none=>exact(IQ _).symm
  |some st'=>exact AHD hl l R st' h.2
theorem L5:∀(S:List oQ),UV P E S none=none
 |[]=>rfl
 |p::S=>by simp only[UV,AHB,PQ,aJ,IQ];exact L5 S
theorem oS(l:List cg)(st:XS):∀(R:List Nat),ZL (DH l) l R st.s.loc=jC (xP l R) st
 |[]=>rfl
 |i::R=>by
  have ih:=oS l st R;unfold ZL jC xP at *;simp only[bn,List.filterMap_cons,ih];cases hi:l[i]? with
  |none=>simp
  |some o=>
   simp only
   cases hk:kA (DH l) o with
   |false=>simp
   |true=>
    cases hd:o.dst with
    |none=>simp
    |some d=>simp
theorem jD(hl:E.lit=fun _=>false)(l:List cg):∀(S:V9) (st:XS),D7 l S=true->AAK P E l S st=UV P E (S.map (oR l)) (some st)
 |[],st,_=>rfl
 |p::S,st,h=>by
  simp only[D7,bn,bj]at h;obtain⟨⟨h1,h2⟩,h3⟩:=h;simp only[AAK,List.map_cons,UV,oR,AHB,oS];cases jC (xP l p.1) st with
  |false=>
   simp only[PQ,aJ,IQ]
   exact(L5 _).symm
  |true=>
   simp only[AHC l _ _ _ _ h1]
   cases UU P E (fA l p.1) (some (st,[],[]))with
   |none=>simp only[aJ,IQ];exact(L5 _).symm
   |some q=>
    obtain⟨st1,rd,wr⟩:=q
    simp only[aJ]
    cases (wr.all fun p=>!rd.contains p)with
    |false=>simp only[IQ];exact(L5 _).symm
    |true=>
     simp only[AHD hl l _ _ h2]
     cases O0 P E (eZ l p.2) (some st1)with
     |none=>exact(L5 _).symm
     |some HB=>exact jD hl l S HB h3
inductive IR where
 |str (l:List JF)
 |drw (S:List oQ)
 |cls (ks:List (Nat×Nat×Nat))
def fB(P:cd)(ops:List cg)(draw:Bool):IR:=cond draw (cond (QA P ops) (.cls (HY ops)) (.drw ((WD ops).map (oR ops)))) (.str (ops.map (comp ops)))
def okR(P:cd)(ops:List cg)(draw:Bool):Bool:=cond draw (cond (QA P ops) true (D7 ops (WD ops))) true
def NY(P:cd)(E:XE)(i:IR)(st:XS):Option XS:=match i with
 |.str l=>O0 P E l (some st)
 |.drw S=>UV P E S (some st)
 |.cls ks=>QB P ks (some st)
end Go.Pg
namespace Go.Pg
variable {P:cd}{σ σ':Nat->Nat}{δ:Nat}{pre:List AA}{s:St}{fr:Fr}
abbrev Tr:=Option (List Nat×List Nat)
abbrev Ann:=Nat->Nat->Tr
def CT(a:Tr)(st:XS):XS:=match a with
 |some p=>RE p.1 p.2 st
 |none=>st
theorem L6{a:Tr}{st:XS}(h:Bd st):IX st (CT a st):=by
 cases a with
 |none=>exact⟨Nat.le_refl _,h,rfl⟩
 |some p=>exact SZ h
theorem IY{a:Tr}{st:XS}:(CT a st).c=st.c:=by cases a<;>rfl
theorem KH{n N:Nat}{ρ:Option Nat}{c:cm}{K:Exit->Fr->St->Prop}{a:Tr}{st:XS}(h:BH P n N ρ c K ((CT a st).fr.ren σ pre.length) ((CT a st).s.emb σ pre)):BH P n N ρ c K (st.fr.ren σ pre.length) (st.s.emb σ pre):=by
 cases a with
 |none=>exact h
 |some p=>exact UH h
def A6U(P:cd)(E:XE)(a:Tr)(l:List cg)(draw:Bool)(st:XS):Option XS:=Bool.rec (hU P E l l (CT a st)) (Bool.rec (OQ P E l (CT a st)) (QB P (HY l) (some (CT a st))) (QA P l)) draw
def isY:List Nat->Bool
 |k::_=>bx k 777
 |[]=>false
def jE(P:cd)(E:XE)(N:Nat)(a:Tr)(l:List cg)(draw:Bool)(us:List Nat)(st:XS):Option XS:=Bool.rec (A6U P (cfU us E) a l draw st) (Bool.rec none (xK P E N l (CT a st)) draw) (isY us)
def BN(rec:VQ)(body:cm)(a:Tr)(n:Nat):XS->Option (Exit×XS):=Nat.rec (motive:=fun _=>XS->Option (Exit×XS)) (fun _=>none) (fun _ ih st=>match rec body st with
 |some (.normal,st')=>ih (CT a st')
 | r=>r) n
def RI(id:Nat)(l:List cg):Nat:=id+1000*l.length+1000000*(match l with
 |o::_=>match o.dst with
  |some d=>d
  |none=>0
 | []=>0)
def CC:cm->Nat
 |.region id ops _=>RI id ops.toList
 |.seq a _=>CC a
 |.block _ c=>CC c
 |.loop c=>CC c
 |.scope c=>CC c
 |_=>0
def TE:Tr->List Nat
 |some p=>p.1
 |none=>[]
def IA:Nat:=1000000000000000
def cO:Nat:=2000000000000000
def gp1(k:Nat)(st:XS):XS:=Bool.rec (Bool.rec (OU (k % 1000) (k / 1000 % 1000) st) (mvX ((k-1000) % 1000) ((k-1000) / 1000 % 1000) ((k-1000) / 1000000 % 1000) ((k-1000) / 1000000000 % 1000) ((k-1000) / 1000000000000) st) (bh k 1000000000000000)) (ET k st) (bh k 1000)
def gpL(ks:List Nat)(st:XS):XS:=List.rec (motive:=fun _=>XS->XS) (fun st=>st) (fun k _ ih st=>ih (gp1 k st)) ks st
def gpO(ks:List Nat):Option XS->Option XS
 |some st=>some (gpL ks st)
 |none=>none
@[simp] theorem A6V(ks:List Nat)(st:XS):gpO ks (some st)=some (gpL ks st):=rfl
@[simp] theorem BBZ(st:XS):gpL [] st=st:=rfl
@[simp] theorem A6W(k:Nat)(ks:List Nat)(st:XS):gpL (k::ks) st=gpL ks (gp1 k st):=rfl
theorem AUI{k:Nat}(h:1000<=k)(h2:k<1000000000000000)(st:XS):gp1 k st=mvX ((k-1000) % 1000) ((k-1000) / 1000 % 1000) ((k-1000) / 1000000 % 1000) ((k-1000) / 1000000000 % 1000) ((k-1000) / 1000000000000) st:=by
 have h1:bh k 1000=false:=by rw[<-Bool.not_eq_true,bc];omega
 have h2:bh k 1000000000000000=true:=by simpa [bc]using h2
 unfold gp1;rw[h1,h2]
theorem AUJ{k:Nat}{st:XS}(h:Bd st):(gp1 k st).c=st.c/\IX st (gp1 k st)/\∀(σ:Nat->Nat) (pre:List AA),FB (st.fr.ren σ pre.length) (st.s.emb σ pre) ((gp1 k st).fr.ren σ pre.length) ((gp1 k st).s.emb σ pre):=by
 unfold gp1;cases bh k 1000 with
 |true=>exact⟨rfl,LW h,fun σ pre=>S7⟩
 |false=>cases bh k 1000000000000000 with
  |true=>exact⟨AOX,xB h,fun σ pre=>AGL⟩
  |false=>exact⟨AF8,Z7 h,fun σ pre=>iO⟩
theorem AHE:∀(ks:List Nat) {st:XS},Bd st->(gpL ks st).c=st.c/\IX st (gpL ks st)/\∀(σ:Nat->Nat) (pre:List AA),FB (st.fr.ren σ pre.length) (st.s.emb σ pre) ((gpL ks st).fr.ren σ pre.length) ((gpL ks st).s.emb σ pre)
 |[],st,h=>⟨rfl,⟨Nat.le_refl _,h,rfl⟩,fun _ _ _ _ _ G _ _ hR=>⟨G,hR⟩⟩
 |k::ks,st,h=>by obtain⟨h1,h2,h3⟩:=AUJ (k:=k) h;obtain⟨q1,q2,q3⟩:=AHE ks h2.bd;exact⟨q1.trans h1,⟨bp h2.c q2.c,q2.bd,q2.n.trans h2.n⟩,fun σ pre=>(h3 σ pre).trans (q3 σ pre)⟩
theorem AA5{n N:Nat}{ρ:Option Nat}{c:cm}{K:Exit->Fr->St->Prop}{fr:Fr}{s:St}(h:BH P n N ρ c (fun e fr s=>∃fr2 s2,FB fr s fr2 s2/\K e fr2 s2) fr s):BH P n N ρ c K fr s:=fun G0 G a w hR=>wpIn_mono (h G0 G a w hR) fun e a' w' hq=>by obtain⟨G',fr',s',hR',fr2,s2,hg,hk⟩:=hq;obtain⟨G2,hR2⟩:=hg _ _ _ _ _ _ hR';exact⟨G2,fr2,s2,hR2,hk⟩
theorem ALV:∀o:Option XS,gpO [] o=o
 |some _=>rfl
 |none=>rfl
def oT:Tr->List Nat
 |some p=>p.2
 |none=>[]
def UW(P:cd)(E:XE)(A:Ann)(n N:Nat)(rec:VQ):VQ:=fun code st=>match code with
 |.region id ops draw=>S3 (gpO (TE (A N (RI id ops.toList+cO))) (jE P E N (A N (RI id ops.toList)) ops.toList draw (oT (A N (RI id ops.toList+IA))) (XG (TE (A N (RI id ops.toList+IA))) st)))
 |.loop body=>BN rec body (A N (CC body)) n (CT (A N (CC body)) st)
 |c=>ZV P E n N rec c st
def AH(P:cd)(A:Ann)(kn:CF0)(n:Nat):F6:=Nat.rec (motive:=fun _=>F6) (fun _ _ _=>none) (fun n ih N=>UW P (A5P P kn (fun _ _ _=>none) (fun _=>false) ih) A n N (ih N)) n
theorem ALW(hP:D8 P){E:XE}(hEE:KD P E){a:Tr}{id:Nat}{ops:Array cg}{draw:Bool}{N:Nat}(hN:EY N (.region id ops draw)=true){st st':XS}(hx:A6U P E a ops.toList draw st=some st')(hbd:Bd st):IX st st' /\
  ∀(n:Nat) (ρ:Option Nat) (σ:Nat->Nat) (pre:List AA) (K:Exit->Fr->St->Prop),(∀σ',AS st.c σ σ'->K .normal (st'.fr.ren σ' pre.length) (st'.s.emb σ' pre))->BH P n N ρ (.region id ops draw) K (st.fr.ren σ pre.length) (st.s.emb σ pre):=by
 obtain⟨l⟩:=ops
 have hT:=L6 (a:=a) hbd
 have ext:∀{st'},IX (CT a st) st'->IX st st':=fun h=>⟨by have:=h.c;rwa [IY]at this,h.bd,h.n.trans hT.n⟩
 cases draw with
 |false=>
  simp only[EY,cond_false,bj]at hN
  have hx:hU P E l l (CT a st)=some st':=hx
  obtain⟨hE,hs⟩:=iA hEE hT.bd hx
  refine⟨ext hE,fun n ρ σ pre K hk=>KH (a:=a) ?_⟩
  exact VL (l.map (LA l)) hN.1 (iI (S4 hN.2)) (hs σ pre _ fun σ' ha=>hk σ' (by rwa [IY]at ha))
 |true=>
  simp only[EY,cond_true]at hN
  cases hc:QA P l with
  |true=>
   have hx:(Bool.rec (OQ P E l (CT a st)) (QB P (HY l) (some (CT a st))) (QA P l):Option XS)=some st':=hx
   rw[hc]at hx
   obtain⟨hE,hs⟩:=ALM (id:=id) hP hN hc hx hT.bd
   exact⟨ext hE,fun n ρ σ pre K hk=>KH (a:=a) (hs n ρ σ pre K fun σ' ha=>hk σ' (by rwa [IY]at ha))⟩
  |false=>
  have hx:(Bool.rec (OQ P E l (CT a st)) (QB P (HY l) (some (CT a st))) (QA P l):Option XS)=some st':=hx
  rw[hc]at hx
  obtain⟨hE,hs⟩:=aF (id:=id) hP hEE hN hx hT.bd
  exact⟨ext hE,fun n ρ σ pre K hk=>KH (a:=a) (hs n ρ σ pre K fun σ' ha=>hk σ' (by rwa [IY]at ha))⟩
theorem ALX(hP:D8 P){E:XE}(hEE:KD P E){a:Tr}{us:List Nat}{id:Nat}{ops:Array cg}{draw:Bool}{N:Nat}(hN:EY N (.region id ops draw)=true){st st':XS}(hx:jE P E N a ops.toList draw us st=some st')(hbd:Bd st):IX st st' /\
  ∀(n:Nat) (ρ:Option Nat) (σ:Nat->Nat) (pre:List AA) (K:Exit->Fr->St->Prop),(∀σ',AS st.c σ σ'->K .normal (st'.fr.ren σ' pre.length) (st'.s.emb σ' pre))->BH P n N ρ (.region id ops draw) K (st.fr.ren σ pre.length) (st.s.emb σ pre):=by
 unfold jE at hx
 cases hy:isY us with
 |false=>rw[hy]at hx;exact ALW hP (ATC hEE _) hN hx hbd
 |true=>
  rw[hy]at hx
  cases draw with
  |false=>cases hx
  |true=>
   have hx:xK P E N ops.toList (CT a st)=some st':=hx
   have hT:=L6 (a:=a) hbd
   obtain⟨hE,hs⟩:=AGX hP hEE (id:=id) hx hT.bd
   refine⟨⟨by have:=hE.c;rwa [IY]at this,hE.bd,hE.n.trans hT.n⟩,fun n ρ σ pre K hk=>KH (a:=a) ?_⟩
   exact hs n ρ σ pre K fun σ' ha=>hk σ' (by rwa [IY]at ha)
theorem AHF{N:Nat}{rec:VQ}(hrec:ZY P N rec){body:cm}{a:Tr}(hN:EY N body=true)(m:Nat){st st':XS}{e:Exit}(hx:BN rec body a m (CT a st)=some (e,st'))(hbd:Bd st):IX st st'/\(∀l,e≠.goto l) /\
  ∀(n:Nat) (ρ:Option Nat) (σ:Nat->Nat) (pre:List AA) (K:Exit->Fr->St->Prop),(ρ=none\/GH body=true)->(∀σ',AS st.c σ σ'->K e (st'.fr.ren σ' pre.length) (st'.s.emb σ' pre))->BH P n N ρ (.loop body) K (st.fr.ren σ pre.length) (st.s.emb σ pre):=by
 have up:∀{st st':XS},Bd st->IX (CT a st) st'->IX st st':=fun hbd h=>⟨by have:=h.c;rwa [IY]at this,h.bd,h.n.trans (L6 hbd).n⟩
 have ext:∀(m:Nat) {st:XS},BN rec body a m (CT a st)=some (e,st')->Bd st->IX st st'/\(∀l,e≠.goto l):=by
  intro m;induction m with
  |zero=>intro st hx _;cases hx
  |succ m ih=>
   intro st hx hbd
   have hx:(match rec body (CT a st)with
    |some (.normal,st')=>BN rec body a m (CT a st')
    | r=>r)=some (e,st'):=hx
   have hT:=L6 (a:=a) hbd
   split at hx
   ·rename_i st1 h1;obtain⟨hE,_,_⟩:=hrec _ _ _ _ h1 hT.bd hN;obtain⟨hE',hg⟩:=ih hx hE.bd;exact⟨up hbd ⟨bp hE.c hE'.c,hE'.bd,hE'.n.trans hE.n⟩,hg⟩
   ·obtain⟨hE,hg,_⟩:=hrec _ _ _ _ hx hT.bd hN;exact⟨up hbd ⟨hE.c,hE.bd,hE.n⟩,hg⟩
 obtain⟨hE,hg⟩:=ext m hx hbd
 refine⟨hE,hg,fun n ρ σ pre K hρ hk=>?_⟩
 refine dU (fun m fr s=>∃(st:XS) (σ:Nat->Nat),fr=st.fr.ren σ pre.length/\s=st.s.emb σ pre/\Bd st/\BN rec body a m (CT a st)=some (e,st')/\∀σ',AS st.c σ σ'->K e (st'.fr.ren σ' pre.length) (st'.s.emb σ' pre)) m ⟨st,σ,rfl,rfl,hbd,hx,hk⟩ ?_
 rintro m fr s ⟨st,σ,rfl,rfl,hbd,hx,hk⟩
 cases m with
 |zero=>cases hx
 |succ m=>
  have hx:(match rec body (CT a st)with
   |some (.normal,st')=>BN rec body a m (CT a st')
   | r=>r)=some (e,st'):=hx
  have hT:=L6 (a:=a) hbd
  refine KH (a:=a) ?_
  split at hx
  ·rename_i st1 h1;obtain⟨hE,_,hC⟩:=hrec _ _ _ _ h1 hT.bd hN;refine hC n ρ σ pre _ hρ fun σ' ha=>?_;rw[IY]at ha;exact⟨m,Nat.lt_succ_self _,st1,σ',rfl,rfl,hE.bd,hx,fun σ'' ha'=>hk σ'' (ha.trans ha' (by have:=hE.c;rwa [IY]at this))⟩
  ·rename_i hne;obtain⟨hE,hg,hC⟩:=hrec _ _ _ _ hx hT.bd hN;refine hC n ρ σ pre _ hρ fun σ' ha=>?_;rw[IY]at ha;have:=hk σ' ha;cases e with
   |normal=>exact absurd hx (hne st')
   |_=>exact this
theorem jF(hP:D8 P){E:XE}(hEE:KD P E){A:Ann}{N:Nat}{rec:VQ}(hrec:ZY P N rec)(m:Nat):ZY P N (UW P E A m N rec):=by
 intro code st e st' hx hbd hN;unfold UW at hx;split at hx
 ·rename_i id ops draw;obtain⟨rfl,hx2⟩:=oL hx;have hT:=xF (TE (A N (RI id ops.toList+IA))) hbd;generalize TE (A N (RI id ops.toList+cO))=kp at hx2;cases hx3:jE P E N (A N (RI id ops.toList)) ops.toList draw (oT (A N (RI id ops.toList+IA))) (XG (TE (A N (RI id ops.toList+IA))) st)with
  |none=>rw[hx3]at hx2;cases hx2
  |some st1=>
   rw[hx3]at hx2
   cases hx2
   obtain⟨hE,hs⟩:=ALX hP hEE hN hx3 hT.bd
   obtain⟨hc2,hT2,hg2⟩:=AHE kp hE.bd
   exact⟨⟨bp hT.c (bp hE.c hT2.c),hT2.bd,hT2.n.trans (hE.n.trans hT.n)⟩,(by intro l h;cases h),fun n ρ σ pre K _ hk=>oF _ (AA5 (hs n ρ σ pre _ fun σ' ha=>⟨_,_,hg2 σ' pre,hk σ' (by rwa [AOY]at ha)⟩))⟩
 ·rename_i body;have hN:EY N body=true:=hN;obtain⟨h1,h2,h3⟩:=AHF hrec hN m hx hbd;exact⟨h1,h2,fun n ρ σ pre K hρ hk=>h3 n ρ σ pre K hρ hk⟩
 ·exact oM hP hEE hrec m _ _ _ _ hx hbd hN
theorem KI(hP:D8 P){A:Ann}{kn:CF0}(hkn:EX P kn):∀n,UJ P (AH P A kn n)
 |0=>fun N code st e st' hx=>by cases hx
 |n+1=>fun N=>by have ih:=KI hP (A:=A) hkn n;exact jF hP ⟨nP hP hkn ih,ALP hP ih,Z1 hP hkn ih,AFW hP hkn (ko:=fun _ _ _=>none) (fun _ _ _ _ h=>by cases h) ih⟩ (ih N) n
theorem AHG(hP:D8 P){A:Ann}{kn:CF0}(hkn:EX P kn){n:Nat}{f:cp}{args:List V}{r:V}(h:ES P (AH P A kn n) f args=some r)(s:St):EA P f args s fun r' s'=>r'=r/\s'=s :=
 (LV hP (KI hP hkn n) f args r h).1 s
section
variable {A:Ann}{kn:CF0}{n N:Nat}{st:XS}
abbrev BX(P:cd)(A:Ann)(kn:CF0)(n:Nat):XE:=A5P P kn (fun _ _ _=>none) (fun _=>false) (AH P A kn n)
theorem AHH(a b:cm):AH P A kn (n+1) N (.seq a b) st=iD (AH P A kn n N) b (AH P A kn n N a st):=rfl
theorem AA6(c:cz)(a b:cm):AH P A kn (n+1) N (.cond c a b) st=nK (AH P A kn n N) a b st (B5 st.fr c):=rfl
theorem uH(id:Nat)(b:cm):AH P A kn (n+1) N (.block id b) st=M9 id (AH P A kn n N b st):=rfl
theorem AA7(b:cm):AH P A kn (n+1) N (.loop b) st=BN (AH P A kn n N) b (A N (CC b)) n (CT (A N (CC b)) st):=rfl
theorem AA8:AH P A kn (n+1) N .skip st=some (.normal,st):=rfl
theorem AA9(id:Nat):AH P A kn (n+1) N (.exit id) st=some (.exit id,st):=rfl
theorem AHI:AH P A kn (n+1) N .ret st=some (.ret,st):=rfl
theorem uI(b:cm):AH P A kn (n+1) N (.scope b) st=AH P A kn n N b st:=rfl
theorem NG(g:cz)(ps:Array Tmp)(asg body:cm):AH P A kn (n+1) N (.rangeFunc g ps asg body) st=UI (BX P A kn n).cf N g ps.toList asg body st:=rfl
theorem AHJ(a b:cm):CC (.seq a b)=CC a:=rfl
theorem uJ(id:Nat)(b:cm):CC (.block id b)=CC b:=rfl
theorem ABA(b:cm):CC (.loop b)=CC b:=rfl
theorem AD(rec:VQ)(body:cm)(a:Tr):BN rec body a (n+1) st=match rec body st with
 |some (.normal,st')=>BN rec body a n (CT a st')
 |r=>r:=rfl
theorem oU(rec:VQ)(b:cm):iD rec b (some (.normal,st))=rec b st:=rfl
theorem AHK(rec:VQ)(b:cm):iD rec b (some (.ret,st))=some (.ret,st):=rfl
theorem ABB(rec:VQ)(b:cm)(i:Nat):iD rec b (some (.exit i,st))=some (.exit i,st):=rfl
theorem AHL(rec:VQ)(b:cm)(c:Prop)[Decidable c](x y:Option (Exit×XS)):iD rec b (if c then x else y)=if c then iD rec b x else iD rec b y:=by split<;>rfl
theorem cP(id:Nat):M9 id (some (.normal,st))=some (.normal,st):=rfl
theorem uK(id:Nat):M9 id (some (.ret,st))=some (.ret,st):=rfl
theorem oV(id i:Nat):M9 id (some (.exit i,st))=if i=id then some (.normal,st) else some (.exit i,st):=by
 show(Bool.rec _ _ (bx i id):Option (Exit×XS))=_;by_cases h:i=id
 ·subst h;simp
 ·have:bx i id=false:=by
   cases hb:bx i id with
   |false=>rfl
   |true=>exact absurd (bg hb) h
  simp[h,this]
theorem uM(id:Nat)(c:Prop)[Decidable c](x y:Option (Exit×XS)):M9 id (if c then x else y)=if c then M9 id x else M9 id y:=by split<;>rfl
def fC:cm->Bool
 |.region ..=>true
 |_=>false
def NT:cm->List cg
 |.region _ ops _=>ops.toList
 |_=>[]
def JN:cm->Bool
 |.region _ _ d=>d
 |_=>false
theorem XI(us:List Nat){E:XE}(h:E.lit=fun _=>false):(cfU us E).lit=fun _=>false:=by cases us<;>exact h
theorem fD{r:cm}(hr:fC r=true){i:IR}(hi:fB P (NT r) (JN r)=i)(hok:okR P (NT r) (JN r)=true){a:Tr}(ha:A N (CC r)=a){ks us:List Nat}(ht:TE (A N (CC r+IA))=ks)(hu:oT (A N (CC r+IA))=us)(hy:isY us=false:=by rfl)(hp:A N (CC r+cO)=none:=by kernel_rfl):AH P A kn (n+1) N r st=S3 (NY P (cfU us (BX P A kn n)) i (CT a (XG ks st))):=by
 cases r with
 |region id ops draw=>
  subst hi ha ht hu
  show S3 (gpO (TE (A N (CC (.region id ops draw)+cO))) (jE P _ N (A N (RI id ops.toList)) ops.toList draw (oT (A N (RI id ops.toList+IA))) (XG (TE (A N (RI id ops.toList+IA))) st)))=_
  rw[hp,show TE none=[] from rfl,ALV]
  unfold jE
  rw[show isY (oT (A N (RI id ops.toList+IA)))=false from hy]
  cases draw with
  |false=>exact congrArg S3 (jB (XI _ rfl) _ _ _)
  |true=>
   show S3 (Bool.rec (OQ P _ ops.toList _) (QB P (HY ops.toList) (some _)) (QA P ops.toList))=S3 (NY P _ (cond (QA P ops.toList) (.cls (HY ops.toList)) (.drw ((WD ops.toList).map (oR ops.toList)))) _)
   have hok:cond (QA P ops.toList) true (D7 ops.toList (WD ops.toList))=true:=hok
   cases hc:QA P ops.toList with
   |true=>rfl
   |false=>
    rw[hc]at hok
    exact congrArg S3 (jD (XI _ rfl) _ _ _ hok)
 |_=>cases hr
theorem L7{r:cm}(hr:fC r=true){i:IR}(hi:fB P (NT r) (JN r)=i)(hok:okR P (NT r) (JN r)=true){a:Tr}(ha:A N (CC r)=a){ks:List Nat}(ht:TE (A N (CC r+IA))=ks)(hu:oT (A N (CC r+IA))=[]:=by kernel_rfl)(hp:A N (CC r+cO)=none:=by kernel_rfl):AH P A kn (n+1) N r st=S3 (NY P (BX P A kn n) i (CT a (XG ks st))):=fD hr hi hok ha ht hu rfl hp
theorem oW{r:cm}(hr:fC r=true){i:IR}(hi:fB P (NT r) (JN r)=i)(hok:okR P (NT r) (JN r)=true){a:Tr}(ha:A N (CC r)=a)(ht:A N (CC r+IA)=none:=by kernel_rfl)(hp:A N (CC r+cO)=none:=by kernel_rfl):AH P A kn (n+1) N r st=S3 (NY P (BX P A kn n) i (CT a st)):=L7 hr hi hok ha (congrArg TE ht) (congrArg oT ht) hp
theorem ABC{r:cm}(hr:fC r=true){i:IR}(hi:fB P (NT r) (JN r)=i)(hok:okR P (NT r) (JN r)=true){a:Tr}(ha:A N (CC r)=a){ks:List Nat}(ht:A N (CC r+IA)=none)(hp:TE (A N (CC r+cO))=ks):AH P A kn (n+1) N r st=S3 (gpO ks (NY P (BX P A kn n) i (CT a st))):=by
 cases r with
 |region id ops draw=>
  subst hi ha hp
  show S3 (gpO (TE (A N (CC (.region id ops draw)+cO))) (jE P _ N (A N (RI id ops.toList)) ops.toList draw (oT (A N (CC (.region id ops draw)+IA))) (XG (TE (A N (CC (.region id ops draw)+IA))) st)))=_
  rw[ht]
  refine congrArg (fun o=>S3 (gpO _ o)) ?_
  show jE P _ N _ ops.toList draw [] _=_
  unfold jE
  cases draw with
  |false=>exact jB (XI _ rfl) _ _ _
  |true=>
   show Bool.rec (OQ P _ ops.toList _) (QB P (HY ops.toList) (some _)) (QA P ops.toList)=NY P _ (cond (QA P ops.toList) (.cls (HY ops.toList)) (.drw ((WD ops.toList).map (oR ops.toList)))) _
   have hok:cond (QA P ops.toList) true (D7 ops.toList (WD ops.toList))=true:=hok
   cases hc:QA P ops.toList with
   |true=>rfl
   |false=>
    rw[hc]at hok
    exact jD (XI _ rfl) _ _ _ hok
 |_=>cases hr
def WE(P:cd)(rs:List ResultVar)(r:Option (Exit×XS)):Option V:=match r with
 |some (.ret,st)=>finV st.s (F5 P rs st.fr st.s)
 |some (.normal,st)=>finV st.s (F5 P rs st.fr st.s)
 |_=>none
where finV (s:St) (r:Option V):Option V:=match r with
 |some v=>match A4 s 4 v with
  |some r'=>Bool.rec none (some r') (AK 9 r')
  |none=>none
 |none=>none
theorem AP{f:cp}{fn:Func}{c:cm}{args:List V}{rec:F6}(hf:P.funcs[f]? = some fn)(hb:fn.body=some c)(hs:cq args.length fn.ntmps=true)(hcl:args.all (AK 9)=true) :
  ES P rec f args=WE P fn.results.toList (rec fn.ntmps c ⟨0,AJ 0 args,⟨[],[]⟩⟩):=by
 unfold ES eE VR nL
 rw[hcl,hf]
 simp only[hb,hs]
 generalize rec fn.ntmps c ⟨0,AJ 0 args,⟨[],[]⟩⟩=q
 have aux:∀st:XS,(match(match F5 P fn.results.toList st.fr st.s with
   |some r=>match A4 st.s 4 r with
    |some r'=>some (r',st.c,st.s.up.map (AQ st.s))
    |none=>none
   | none=>none:Option (V×Nat×List AA))with
  |some (r,_,_)=>(Bool.rec none (some r) (AK 9 r):Option V)
  | none=>none)=WE.finV st.s (F5 P fn.results.toList st.fr st.s):=fun st=>by
  unfold WE.finV
  cases F5 P fn.results.toList st.fr st.s with
  |none=>rfl
  |some r=>
   cases h:A4 st.s 4 r with
   |none=>simp[h]
   |some r'=>simp[h]
 cases q with
 |none=>rfl
 |some q=>
  obtain⟨e,st⟩:=q
  cases e with
  |ret=>exact aux st
  |normal=>exact aux st
  |_=>rfl
theorem AHM(rs:List ResultVar)(c:Prop)[Decidable c](x y:Option (Exit×XS)):WE P rs (if c then x else y)=if c then WE P rs x else WE P rs y:=by split<;>rfl
end
def LC:cm->List Nat->cm
 |c,[]=>c
 |.seq a b,i::p=>bif bx i 0 then LC a p else LC b p
 |.cond _ a b,i::p=>bif bx i 0 then LC a p else LC b p
 |.block _ a,_::p=>LC a p
 |.loop a,_::p=>LC a p
 |.scope a,_::p=>LC a p
 |.rangeFunc _ _ a b,i::p=>bif bx i 0 then LC a p else LC b p
 |c,_=>c
def AUK(fn:Func):cm:=match fn.body with
 |some c=>c
 |none=>.skip
end Go.Pg
namespace Go.Pg
variable {P:cd}{E:XE}{st:XS}{fr:Fr}{s:St}
@[simp] theorem A6X(r:Option XS):O0 P E [] r=r:=rfl
@[simp] theorem AZA(i:JF)(l:List JF)(r:Option XS):O0 P E (i::l) r=O0 P E l (opO P E i r):=rfl
@[simp] theorem A6Y(i:JF):opO P E i (some st)=opI P E i st:=rfl
@[simp] theorem A6Z(i:JF):opO P E i none=none:=rfl
@[simp] theorem BB0(i:JF)(c:Prop)[Decidable c](x y:Option XS):opO P E i (if c then x else y)=if c then opO P E i x else opO P E i y:=by split<;>rfl
@[simp] theorem A60(l:List JF)(c:Prop)[Decidable c](x y:Option XS):O0 P E l (if c then x else y)=if c then O0 P E l x else O0 P E l y:=by split<;>rfl
def gI(P:cd)(E:XE)(d:Option Tmp)(k:IK)(st:XS)(w:Bool)(r:Option (Bool×V)):Option XS:=match r with
 |some (c,.bool b)=>Bool.rec (some (H7 d st)) (stepK P E d k st) (c&&(b==w))
 |_=>none
@[simp] theorem A61(d:Option Tmp)(k:IK):opI P E ⟨none,d,k⟩ st=stepK P E d k st:=rfl
@[simp] theorem AZB(t:Tmp)(w:Bool)(d:Option Tmp)(k:IK):opI P E ⟨some (t,w),d,k⟩ st=gI P E d k st w (FD st.fr t):=by
 show(match(match FD st.fr t with | some (c,.bool b)=>some (c&&(b == w)) | _=>none:Option Bool)with
  |some true=>stepK P E d k st
  |some false=>some (H7 d st)
  | none=>none)=_
 unfold gI;cases FD st.fr t with
 |none=>rfl
 |some p=>
  obtain⟨c,v⟩:=p
  cases v with
  |bool b=>cases h:(c&&(b==w))<;>simp[h]
  |_=>rfl
@[simp] theorem BKY(d:Option Tmp)(k:IK):gI P E d k st true (some (true,.bool true))=stepK P E d k st:=rfl
@[simp] theorem BKZ(d:Option Tmp)(k:IK):gI P E d k st true (some (true,.bool false))=some (H7 d st):=rfl
@[simp] theorem BK0(d:Option Tmp)(k:IK):gI P E d k st false (some (true,.bool true))=some (H7 d st):=rfl
@[simp] theorem BK1(d:Option Tmp)(k:IK):gI P E d k st false (some (true,.bool false))=stepK P E d k st:=rfl
@[simp] theorem BK2(d:Option Tmp)(k:IK)(w b:Bool):gI P E d k st w (some (false,.bool b))=some (H7 d st):=rfl
@[simp] theorem A62(d:Tmp)(c:Nat)(fr:Fr)(s:St):H7 (some d) ⟨c,fr,s⟩=⟨c,(d,false,.bool false)::fr,s⟩:=rfl
@[simp] theorem A63(c:Nat)(fr:Fr)(s:St):H7 none ⟨c,fr,s⟩=⟨c,fr,s⟩:=rfl
@[simp] theorem A64(k:Nat):FD [] k=none:=rfl
@[simp] theorem AZC(j:Nat)(x:Bool×V)(fr:Fr)(k:Nat):FD ((j,x)::fr) k=if k=j then some x else FD fr k:=by rw[GM,GM];rfl
@[simp] theorem AUL(j:Nat)(x:Nat×A6)(L:AA)(k:Nat):AA.get ((j,x)::L) k=if k=j then some x else L.get k:=rfl
def rdT:Option (Bool×V)->Option V
 |some (true,v)=>some v
 |_=>none
@[simp] theorem AHN(v:V):rdT (some (true,v))=some v:=rfl
@[simp] theorem AZE(v:V):rdT (some (false,v))=none:=rfl
@[simp] theorem A65:rdT none=none:=rfl
@[simp] theorem BB1(t:Tmp):B5 fr (.tmp t)=rdT (FD fr t):=by
 show(match FD fr t with
  |some (true,v)=>some v
  | _=>none)=_
 cases FD fr t with
 |none=>rfl
 |some p=>obtain⟨c,v⟩:=p;cases c<;>rfl
@[simp] theorem AZF(v:Value):B5 fr (.const v)=CK v:=rfl
@[simp] theorem A66(f:cp):B5 fr (.func f)=some (.fn f [] []):=rfl
@[simp] theorem BB2(t:Tmp):rdC fr (.tmp t)=FD fr t:=rfl
@[simp] theorem A67(b:Bool):rdC fr (.const (.bool b))=some (true,.bool b):=rfl
@[simp] theorem AUM(k:cr)(n:Int):CK (.int k n)=some (.int k n):=rfl
@[simp] theorem AO8(b:Bool):CK (.bool b)=some (.bool b):=rfl
@[simp] theorem AUN:CK (.slice none 0 0)=some .nil:=rfl
@[simp] theorem AZG(d:Tmp)(c:Nat)(fr:Fr)(s:St)(v:V):DM (some d) ⟨c,fr,s⟩ (some v)=some ⟨c,(d,true,v)::fr,s⟩:=rfl
@[simp] theorem BB3(c:Nat)(fr:Fr)(s:St)(v:V):DM none ⟨c,fr,s⟩ (some v)=some ⟨c,fr,s⟩:=rfl
@[simp] theorem AZH(d:Option Tmp):DM d st none=none:=rfl
@[simp] theorem A68(d:Option Tmp)(c:Prop)[Decidable c](x y:Option V):DM d st (if c then x else y)=if c then DM d st x else DM d st y:=by split<;>rfl
section
variable (d:Option Tmp)(c:Nat)
@[simp] theorem A69(x:cz):stepK P E d (.mv x) ⟨c,fr,s⟩=DM d ⟨c,fr,s⟩ (B5 fr x):=rfl
def AUO(P:cd)(op:BinOp)(T:cx):Option V->Option V->Option V
 |some a,some b=>F3 P op T a b
 |_,_=>none
@[simp] theorem AZI(op:BinOp)(T:cx)(a b:V):AUO P op T (some a) (some b)=F3 P op T a b:=rfl
@[simp] theorem AZJ(op:BinOp)(T:cx)(x y:cz):stepK P E d (.bin op T x y) ⟨c,fr,s⟩=DM d ⟨c,fr,s⟩ (AUO P op T (B5 fr x) (B5 fr y)):=by show DM d _ (AAF P fr op T x y)=_;unfold AAF AUO;cases B5 fr x<;>cases B5 fr y<;>rfl
def fa1(P:cd)(T:cx)(f:Nat):Option V->Option V
 |some p=>C8 P T p f
 |none=>none
@[simp] theorem A7A(T:cx)(f:Nat)(p:V):fa1 P T f (some p)=C8 P T p f:=rfl
@[simp] theorem A7B(T:cx)(x:cz)(f:Nat):stepK P E d (.fa T x f) ⟨c,fr,s⟩=DM d ⟨c,fr,s⟩ (fa1 P T f (B5 fr x)):=by show DM d _ (xFA P fr T x f)=_;unfold xFA fa1;cases B5 fr x<;>rfl
def wh1(P:cd)(T:cx):Option (List V)->Option V
 |some cs=>BT P T cs
 |none=>none
@[simp] theorem A7C(T:cx)(cs:List V):wh1 P T (some cs)=BT P T cs:=rfl
def ld1(P:cd)(s:St)(T:cx):Option V->Option V
 |some p=>wh1 P T (BF s p)
 |none=>none
@[simp] theorem AHO(T:cx)(p:V):ld1 P s T (some p)=wh1 P T (BF s p):=rfl
@[simp] theorem A7D(T:cx)(x:cz):stepK P E d (.ld T x) ⟨c,fr,s⟩=DM d ⟨c,fr,s⟩ (ld1 P s T (B5 fr x)):=by
 show DM d _ (ON P fr s T x)=_;unfold ON ld1;cases B5 fr x with
 |none=>rfl
 |some p=>unfold wh1;cases BF s p<;>rfl
def pk3:Option V->Option (Bool×V)->Option (Bool×V)->Option V
 |some (.bool c),some (ca,.bool a),some (cb,.bool b)=>Bool.rec (Bool.rec none (some (.bool b)) cb) (Bool.rec none (some (.bool a)) ca) c
 |_,_,_=>none
@[simp] theorem A7E(a cb b:Bool):pk3 (some (.bool true)) (some (true,.bool a)) (some (cb,.bool b))=some (.bool a):=rfl
@[simp] theorem AZK(ca a b:Bool):pk3 (some (.bool false)) (some (ca,.bool a)) (some (true,.bool b))=some (.bool b):=rfl
@[simp] theorem A7F(c a b:Bool):pk3 (some (.bool c)) (some (true,.bool a)) (some (true,.bool b))=some (.bool (if c then a else b)):=by cases c<;>rfl
@[simp] theorem AUP(x y z:cz):stepK P E d (.pick x y z) ⟨c,fr,s⟩=DM d ⟨c,fr,s⟩ (pk3 (B5 fr x) (rdC fr y) (rdC fr z)):=rfl
def ba2:Option V->Nat->Option (List (Nat×V))->Option (List (Nat×V))
 |some v,i,some l=>some ((i,v)::l)
 |_,_,_=>none
@[simp] theorem A7G(v:V)(i:Nat)(l:List (Nat×V)):ba2 (some v) i (some l)=some ((i,v)::l):=rfl
@[simp] theorem AUQ(r:cz->Option V):DA r []=some []:=rfl
@[simp] theorem AO9(r:cz->Option V)(i:Nat)(x:cz)(l:List (Nat×cz)):DA r ((i,x)::l)=ba2 (r x) i (DA r l):=by simp only[DA];unfold ba2;cases r x<;>cases DA r l<;>rfl
def bd1(P:cd)(T:cx):Option (List (Nat×V))->Option V
 |some l=>CP P T l
 |none=>none
@[simp] theorem A7H(T:cx)(l:List (Nat×V)):bd1 P T (some l)=CP P T l:=rfl
@[simp] theorem APA(T:cx)(ps:List (Nat×cz)):stepK P E d (.build T ps) ⟨c,fr,s⟩=DM d ⟨c,fr,s⟩ (bd1 P T (DA (B5 fr) ps)):=by show DM d _ (UD P fr T ps)=_;unfold UD bd1;cases DA (B5 fr) ps<;>rfl
def bs1(P:cd)(T:cx)(n:Nat):Option (List (Nat×V))->Option V
 |some l=>B9 P T n l
 |none=>none
@[simp] theorem A7I(T:cx)(n:Nat)(l:List (Nat×V)):bs1 P T n (some l)=B9 P T n l:=rfl
@[simp] theorem ALY(T:cx)(n:Nat)(ps:List (Nat×cz)):stepK P E d (.buildS T n ps) ⟨c,fr,s⟩=DM d ⟨c,fr,s⟩ (bs1 P T n (DA (B5 fr) ps)):=by show DM d _ (PM P fr T n ps)=_;unfold PM bs1;cases DA (B5 fr) ps<;>rfl
@[simp] theorem AZL(op:Op):stepK P E d (.oth op) ⟨c,fr,s⟩=DM d ⟨c,fr,s⟩ (JG P (oO op) s (B5 fr)):=rfl
def al1(d:Tmp)(c:Nat)(fr:Fr)(s:St):Option (List V)->Option XS
 |some cs=>some ⟨c+1,(d,true,.ptr s.up.length d c 0)::fr,s.put s.up.length d c (.box cs)⟩
 |none=>none
@[simp] theorem A7J(d:Tmp)(cs:List V):al1 d c fr s (some cs)=some ⟨c+1,(d,true,.ptr s.up.length d c 0)::fr,s.put s.up.length d c (.box cs)⟩:=rfl
@[simp] theorem APB(d:Tmp)(T:cx):stepK P E (some d) (.alloc T) ⟨c,fr,s⟩=al1 d c fr s (B8 P T):=by show OS P (some d) T _=_;unfold OS al1;cases B8 P T<;>rfl
def bx1(d:Tmp)(c:Nat)(fr:Fr)(s:St):Option V->Option XS
 |some v=>Bool.rec none (some ⟨c+1,(d,true,.ptr s.up.length d c 0)::fr,s.put s.up.length d c (.box (BA v))⟩) (BD v)
 |none=>none
@[simp] theorem BB7(d:Tmp)(k:cr)(n:Int):bx1 d c fr s (some (.int k n))=some ⟨c+1,(d,true,.ptr s.up.length d c 0)::fr,s.put s.up.length d c (.box [.int k n])⟩:=rfl
@[simp] theorem A7K(d:Tmp)(b:Bool):bx1 d c fr s (some (.bool b))=some ⟨c+1,(d,true,.ptr s.up.length d c 0)::fr,s.put s.up.length d c (.box [.bool b])⟩:=rfl
@[simp] theorem BB8(d:Tmp)(cs:List V):bx1 d c fr s (some (.agg cs))=some ⟨c+1,(d,true,.ptr s.up.length d c 0)::fr,s.put s.up.length d c (.box cs)⟩:=rfl
@[simp] theorem A7L(d:Tmp)(b:Bool)(es:List (List V)):bx1 d c fr s (some (.list b es))=some ⟨c+1,(d,true,.ptr s.up.length d c 0)::fr,s.put s.up.length d c (.box [.list b es])⟩:=rfl
@[simp] theorem BB9(d:Tmp):bx1 d c fr s (some .nil)=some ⟨c+1,(d,true,.ptr s.up.length d c 0)::fr,s.put s.up.length d c (.box [.nil])⟩:=rfl
@[simp] theorem BCA(d:Tmp)(l k g n:Nat):bx1 d c fr s (some (.vec l k g n))=some ⟨c+1,(d,true,.ptr s.up.length d c 0)::fr,s.put s.up.length d c (.box [.vec l k g n])⟩:=rfl
@[simp] theorem BG6(d:Tmp)(l k g:Nat):bx1 d c fr s (some (.mp l k g))=some ⟨c+1,(d,true,.ptr s.up.length d c 0)::fr,s.put s.up.length d c (.box [.mp l k g])⟩:=rfl
@[simp] theorem AZM(d:Tmp)(x:cz):stepK P E (some d) (.box x) ⟨c,fr,s⟩=bx1 d c fr s (B5 fr x):=by show nQ (some d) x _=_;unfold nQ bx1;cases B5 fr x<;>rfl
def st3(γ:Nat)(P:cd)(T:cx)(c:Nat)(fr:Fr)(s:St)(l q off:Nat)(v:V):Option (Nat×A6)->Option XS
 |some (γ',.box cs)=>if γ'=γ/\BD v=true/\0<P.cellsOf T/\(BA v).length=P.cellsOf T/\off+P.cellsOf T<=cs.length/\γ<c then some ⟨c,fr,s.put l q γ (.box (A8 cs off (BA v)))⟩ else none
 |_=>none
def st4(γ:Nat)(P:cd)(T:cx)(c:Nat)(fr:Fr)(s:St)(l q i off:Nat)(v:V):Option (Nat×A6)->Option XS
 |some (γ',.vec U es)=>if γ'=γ/\BD v=true/\0<P.cellsOf T/\(BA v).length=P.cellsOf T/\i<es.length/\off+P.cellsOf T<=(es.getD i []).length/\γ<c then some ⟨c,fr,s.put l q γ (.vec U (es.set i (A8 (es.getD i []) off (BA v))))⟩ else none
 |_=>none
def HB(P:cd)(T:cx)(c:Nat)(fr:Fr)(s:St):Option V->Option V->Option XS
 |some (.ptr l q γ off),some v=>st3 γ P T c fr s l q off v (s.get l q)
 |some (.eptr l q γ i off),some v=>st4 γ P T c fr s l q i off v (s.get l q)
 |_,_=>none
@[simp] theorem ALZ(T:cx)(l q γ off:Nat)(v:V):HB P T c fr s (some (.ptr l q γ off)) (some v)=st3 γ P T c fr s l q off v (s.get l q):=rfl
@[simp] theorem AHP(T:cx)(l q γ i off:Nat)(v:V):HB P T c fr s (some (.eptr l q γ i off)) (some v)=st4 γ P T c fr s l q i off v (s.get l q):=rfl
@[simp] theorem AL0(γ γ':Nat)(T:cx)(l q off:Nat)(v:V)(cs:List V):st3 γ P T c fr s l q off v (some (γ',.box cs))=if γ'=γ/\BD v=true/\0<P.cellsOf T/\(BA v).length=P.cellsOf T/\off+P.cellsOf T<=cs.length/\γ<c then some ⟨c,fr,s.put l q γ (.box (A8 cs off (BA v)))⟩ else none:=rfl
@[simp] theorem AL1(γ γ':Nat)(T:cx)(l q i off:Nat)(v:V)(U:cx)(es:List (List V)):st4 γ P T c fr s l q i off v (some (γ',.vec U es))=if γ'=γ/\BD v=true/\0<P.cellsOf T/\(BA v).length=P.cellsOf T/\i<es.length/\off+P.cellsOf T<=(es.getD i []).length/\γ<c then some ⟨c,fr,s.put l q γ (.vec U (es.set i (A8 (es.getD i []) off (BA v))))⟩ else none:=rfl
theorem AL2(T:cx)(x y:cz):JM P none T x y ⟨c,fr,s⟩=HB P T c fr s (B5 fr x) (B5 fr y):=by
 unfold JM;simp only;cases B5 fr x with
 |none=>rfl
 |some p=>
  cases B5 fr y with
  |none=>cases p<;>rfl
  |some v=>
   cases p with
   |ptr l q γ off=>
    simp only[ALZ]
    cases s.get l q with
    |none=>rfl
    |some z=>
     obtain⟨γ',r⟩:=z
     cases r with
     |box cs=>
      simp only[AL0,bj,bc,Nat.ble_eq,cj,and_assoc]
     |_=>rfl
   |eptr l q γ i off=>
    simp only[AHP]
    cases s.get l q with
    |none=>rfl
    |some z=>
     obtain⟨γ',r⟩:=z
     cases r with
     |vec U es=>
      simp only[AL1,bj,bc,Nat.ble_eq,cj,and_assoc]
     |_=>rfl
   |_=>rfl
@[simp] theorem AZN(T:cx)(x y:cz):stepK P E none (.sto T x y) ⟨c,fr,s⟩=HB P T c fr s (B5 fr x) (B5 fr y):=AL2 c T x y
def apW(P:cd)(e:cx)(d c:Nat)(fr:Fr)(s:St)(l q γ n:Nat)(ys:List (List V)):Option (Nat×A6)->Option XS
 |some (γ',.vec W es)=>if γ'=γ/\W=e/\n=es.length/\es.all (fun y=>y.length==P.cellsOf e)=true/\CD P e es.length ys=true then
   some ⟨c+1,(d,true,.vec l q c (es.length+ys.length))::fr,s.put l q c (.vec e (es++ys))⟩ else none
 |_=>none
@[simp] theorem L8(e:cx)(d:Nat)(l q γ γ' n:Nat)(ys es:List (List V))(W:cx):apW P e d c fr s l q γ n ys (some (γ',.vec W es))=if γ'=γ/\W=e/\n=es.length/\es.all (fun y=>y.length==P.cellsOf e)=true/\CD P e es.length ys=true then
   some ⟨c+1,(d,true,.vec l q c (es.length+ys.length))::fr,s.put l q c (.vec e (es++ys))⟩ else none:=rfl
def rH(P:cd)(e:cx)(d c:Nat)(fr:Fr)(s:St)(xv:V)(ys:List (List V)):Option XS:=match JH xv ys with
 |some es=>if es.all (fun y=>y.length==P.cellsOf e)=true/\CD P e es.length ys=true then some ⟨c+1,(d,true,.vec s.up.length d c (es.length+ys.length))::fr,s.put s.up.length d c (.vec e (es++ys))⟩ else none
 |none=>match xv with
  |.vec l q γ n=>apW P e d c fr s l q γ n ys (Q5 n ys (s.get l q))
  |_=>none
@[simp] theorem TF(n γ:Nat)(ys es:List (List V))(U:cx):Q5 n ys (some (γ,.vec U es))=some (γ,.vec U (gS n ys es)):=rfl
@[simp] theorem AZO(n:Nat)(ys:List (List V)):Q5 n ys none=none:=rfl
attribute [simp] LN
@[simp] theorem BCB(e:cx)(d:Nat)(ys:List (List V)):rH P e d c fr s .nil ys=if CD P e 0 ys=true then some ⟨c+1,(d,true,.vec s.up.length d c ys.length)::fr,s.put s.up.length d c (.vec e ys)⟩ else none:=by simp[rH,JH]
@[simp] theorem BCC(e:cx)(d:Nat)(ys:List (List V)):rH P e d c fr s (.list true []) ys=if CD P e 0 ys=true then some ⟨c+1,(d,true,.vec s.up.length d c ys.length)::fr,s.put s.up.length d c (.vec e ys)⟩ else none:=by simp[rH,JH]
@[simp] theorem AHQ(e:cx)(d:Nat)(z y:List V)(es ys:List (List V)):rH P e d c fr s (.list true (z::es)) (y::ys)=if (z::es).all (fun y=>y.length==P.cellsOf e)=true/\CD P e (z::es).length (y::ys)=true then
   some ⟨c+1,(d,true,.vec s.up.length d c ((z::es).length+(y::ys).length))::fr,s.put s.up.length d c (.vec e ((z::es)++(y::ys)))⟩ else none:=rfl
@[simp] theorem jG(e:cx)(d:Nat)(l q γ n:Nat)(ys:List (List V)):rH P e d c fr s (.vec l q γ n) ys=apW P e d c fr s l q γ n ys (Q5 n ys (s.get l q)):=by simp[rH,JH]
def ap3(P:cd)(d c:Nat)(fr:Fr)(s:St):Option (Option Nat×cx)->Option V->Option V->Option XS
 |some (none,e),some xv,some yv=>ap4 e xv (elemsOf s yv)
 |_,_,_=>none
where ap4 (e:cx) (xv:V):Option (List (List V))->Option XS
 |some ys=>rH P e d c fr s xv ys
 |none=>none
@[simp] theorem AHR(d:Nat)(e:cx)(xv yv:V):ap3 P d c fr s (some (none,e)) (some xv) (some yv)=ap3.ap4 P d c fr s e xv (elemsOf s yv):=rfl
@[simp] theorem AHS(d:Nat)(e:cx)(xv:V)(ys:List (List V)):ap3.ap4 P d c fr s e xv (some ys)=rH P e d c fr s xv ys:=rfl
@[simp] theorem AL3(b:Bool)(es:List (List V)):elemsOf s (.list b es)=some es:=rfl
@[simp] theorem APC:elemsOf s .nil=some []:=rfl
theorem ifB{α:Type}{b:Bool}{x y:α}:(Bool.rec y x b:α)=if b=true then x else y:=by cases b<;>rfl
theorem ABD{k:Nat}{e:cx}(d:Nat)(x y:Option V):ap3 P d c fr s (some (some k,e)) x y=none:=by cases x<;>cases y<;>rfl
@[simp] theorem AZP(d:Tmp)(x y:cz)(T:cx):stepK P E (some d) (.app [x,y] [T,T]) ⟨c,fr,s⟩=ap3 P d c fr s (BR P T) (B5 fr x) (B5 fr y):=by
 show xAppend P (some d) [x,y] [T,T] _=_;unfold xAppend xAppG;simp only[bt];cases hT:BR P T with
 |none=>cases B5 fr x<;>cases B5 fr y<;>rfl
 |some p=>
  obtain⟨k,e⟩:=p
  cases k with
  |some k=>rw[ABD]
  |none=>
   cases B5 fr x with
   |none=>rfl
   |some xv=>
    cases B5 fr y with
    |none=>rfl
    |some yv=>
     simp only[AHR]
     cases elemsOf s yv with
     |none=>rfl
     |some ys=>
      simp only[AHS,rH]
      cases JH xv ys with
      |some es=>
       simp only[ifB,bj,bw]
       by_cases hC:es.all (fun y=>y.length==P.cellsOf e)=true/\CD P e es.length ys=true
       ·rw[if_pos hC,if_pos hC]
       ·rw[if_neg hC,if_neg hC]
      |none=>
       simp only
       unfold nD
       cases xv with
       |vec l q γ n=>
        simp only
        cases Q5 n ys (s.get l q)with
        |none=>rfl
        |some z=>
         obtain⟨γ',r⟩:=z
         cases r with
         |vec W es=>
          simp only[ifB,bj,bw,L8,cj,and_assoc]
          by_cases hC:γ'=γ/\W=e/\n=es.length/\es.all (fun y=>y.length==P.cellsOf e)=true/\CD P e es.length ys=true
          ·rw[if_pos hC,if_pos hC]
          ·rw[if_neg hC,if_neg hC]
         |_=>rfl
       |_=>rfl
def mc2:Option V->Option (List V)->Option (List V)
 |some v,some l=>some (v::l)
 |_,_=>none
@[simp] theorem A7P(v:V)(l:List V):mc2 (some v) (some l)=some (v::l):=rfl
@[simp] theorem A7Q(f:cz->Option V):EL f []=some []:=rfl
@[simp] theorem AZQ(f:cz->Option V)(x:cz)(l:List cz):EL f (x::l)=mc2 (f x) (EL f l):=by
 simp only[EL];cases f x with
 |none=>rfl
 |some v=>cases EL f l<;>rfl
def K3(E:XE)(d:Option Tmp)(st:XS)(f:cp)(args:List V):Option XS:=match E.cf f args st with
 |some (r,st')=>some ⟨st'.c,putD st'.fr d true r,st'.s⟩
 |none=>none
def ca1(E:XE)(d:Option Tmp)(st:XS):Option V->Option (List V)->Option XS
 |some (.fn f first cap),some vs=>K3 E d st f ((first++vs++cap).map weakV)
 |some (.yld l q γ),some vs=>ca3 (E.cy l q γ vs st)
 |_,_=>none
where ca3:Option (V×XS)->Option XS
 |some (r,st')=>some ⟨st'.c,putD st'.fr d true r,st'.s⟩
 |none=>none
@[simp] theorem AUS(st:XS)(f:cp)(first cap vs:List V):ca1 E d st (some (.fn f first cap)) (some vs)=K3 E d st f ((first++vs++cap).map weakV):=rfl
@[simp] theorem AL4(st:XS)(l q γ:Nat)(vs:List V):ca1 E d st (some (.yld l q γ)) (some vs)=ca1.ca3 d (E.cy l q γ vs st):=rfl
@[simp] theorem A7R(d:Tmp)(r:V):ca1.ca3 (some d) (some (r,⟨c,fr,s⟩))=some ⟨c,(d,true,r)::fr,s⟩:=rfl
theorem oX(st:XS)(f:cz)(args:List cz):SW E.cf E.cy d f args st=ca1 E d st (B5 st.fr f) (EL (B5 st.fr) args):=by
 unfold SW;cases B5 st.fr f with
 |none=>rfl
 |some v=>
  cases v with
  |fn f first cap=>
   simp only
   cases EL (B5 st.fr) args with
   |none=>rfl
   |some vs=>simp only[AUS,K3];cases E.cf f ((first++vs++cap).map weakV) st<;>rfl
  |yld l q γ=>
   simp only[sV]
   cases EL (B5 st.fr) args with
   |none=>rfl
   |some vs=>simp only[AL4];cases E.cy l q γ vs st<;>rfl
  |_=>rfl
@[simp] theorem AUT(args:List cz)(Ts:List cx):stepK P E d (.appS args Ts) st=DM d st (aH P args Ts st.fr):=rfl
@[simp] theorem AUU(f:cz)(args:List cz):stepK P E d (.call false none f args) ⟨c,fr,s⟩=ca1 E d ⟨c,fr,s⟩ (B5 fr f) (EL (B5 fr) args):=oX d ⟨c,fr,s⟩ f args
@[simp] theorem APE(t:Tmp)(f:cz)(args:List cz):stepK P E d (.callM false t f args) ⟨c,fr,s⟩=ca1 E d (LY t ⟨c,fr,s⟩) (B5 (LY t ⟨c,fr,s⟩).fr f) (EL (B5 (LY t ⟨c,fr,s⟩).fr) args):=oX d _ f args
def orK:Bool->Option V->Option V->Option V
 |true,some r,_=>some r
 |_,_,z=>z
@[simp] theorem A7S(r:V)(z:Option V):orK true (some r) z=some r:=rfl
@[simp] theorem A7T(b:Bool)(z:Option V):orK b z z=z:=by cases b<;>cases z<;>rfl
theorem oY{P:cd}{kn:CF0}{rec:F6}{f:cp}{args:List V}:E5 P kn rec f args=orK (args.all (AK 9)) (AW P kn rec f (args.map weakN)) (AW P kn rec f args):=by unfold E5 orK;cases AW P kn rec f (args.map weakN)<;>cases args.all (AK 9)<;>rfl
attribute [simp] oY
@[simp] theorem AZS(k:cr)(n:Int):weakN (.int k n)=.int k n:=rfl
@[simp] theorem AUV(b:Bool):weakN (.bool b)=.bool b:=rfl
@[simp] theorem AZT(v:Value):weakN (.raw v)=.raw v:=rfl
@[simp] theorem AUW(b:Bool)(es:List (List V)):weakN (.list b es)=.list b es:=rfl
@[simp] theorem AZU(cs:List V):weakN (.agg cs)=.agg (cs.map weakM):=rfl
@[simp] theorem AZV:weakN .nil=.list false []:=rfl
@[simp] theorem A7U(f:cp)(x y:List V):weakN (.fn f x y)=.fn f x y:=rfl
@[simp] theorem AZW(cs:List V):weakN (.ref cs)=.ref cs:=rfl
@[simp] theorem AZX(k:cr)(n:Int):weakM (.int k n)=.int k n:=rfl
@[simp] theorem AUX(b:Bool):weakM (.bool b)=.bool b:=rfl
@[simp] theorem AUY(b:Bool)(es:List (List V)):weakM (.list b es)=.list b es:=rfl
@[simp] theorem AZY:weakM .nil=.list false []:=rfl
@[simp] theorem A7V(f:cp)(x y:List V):weakM (.fn f x y)=.fn f x y:=rfl
@[simp] theorem AZZ(cs:List V):weakM (.ref cs)=.ref cs:=rfl
theorem aK{A:Ann}{kn:CF0}{n:Nat}{f:cp}{args:List V}(h:args.all (AK 9)=true)(hh:BE P f=false)(st:XS):K3 (BX P A kn n) d st f args=DM d st (orK true (AW P kn (AH P A kn n) f (args.map weakN)) (AW P kn (AH P A kn n) f args)):=by
 have e:orK true (AW P kn (AH P A kn n) f (args.map weakN)) (AW P kn (AH P A kn n) f args)=E5 P kn (AH P A kn n) f args:=by rw[oY,h]
 rw[e];show(match VS P kn (AH P A kn n) f args st with
  |some (r,st')=>some (⟨st'.c,putD st'.fr d true r,st'.s⟩:XS)
  | none=>none)=_
 unfold VS;rw[h,hh];cases E5 P kn (AH P A kn n) f args<;>rfl
end
@[simp] theorem A7W(k:cr)(n:Int):weakV (.int k n)=.int k n:=rfl
@[simp] theorem AZ0(b:Bool):weakV (.bool b)=.bool b:=rfl
@[simp] theorem AZ1(b:Bool)(es:List (List V)):weakV (.list b es)=.list false es:=rfl
@[simp] theorem A7X(cs:List V):weakV (.agg cs)=.agg (cs.map weakC):=rfl
@[simp] theorem AZ2(k:cr)(n:Int):weakC (.int k n)=.int k n:=rfl
@[simp] theorem AUZ(b:Bool):weakC (.bool b)=.bool b:=rfl
@[simp] theorem AU0(b:Bool)(es:List (List V)):weakC (.list b es)=.list false es:=rfl
@[simp] theorem AZ3:weakC .nil=.nil:=rfl
@[simp] theorem A7Y:weakV .nil=.nil:=rfl
@[simp] theorem BCD(f:cp)(x y:List V):weakV (.fn f x y)=.fn f x y:=rfl
@[simp] theorem AU1(f:Nat)(k:cr)(n:Int):AK (f+1) (.int k n)=true:=rfl
@[simp] theorem APF(f:Nat)(b:Bool):AK (f+1) (.bool b)=true:=rfl
@[simp] theorem AU2(f:Nat):AK (f+1) .nil=true:=rfl
@[simp] theorem AU3(f:Nat)(cs:List V):AK (f+1) (.agg cs)=cs.all (AK f):=rfl
@[simp] theorem AU4(f:Nat)(cs:List V):AK (f+1) (.tup cs)=cs.all (AK f):=rfl
@[simp] theorem AU5(f:Nat)(cs:List V):AK (f+1) (.ref cs)=cs.all (AK f):=rfl
@[simp] theorem APG(f:Nat)(b:Bool)(es:List (List V)):AK (f+1) (.list b es)=es.all fun e=>e.all (AK f):=rfl
@[simp] theorem AZ4(f:Nat)(g:cp)(x y:List V):AK (f+1) (.fn g x y)=(x.all (AK f)&&y.all (AK f)):=rfl
section
variable (r:cz->Option V)
def o1(f:V->Option V):Option V->Option V
 |some v=>f v
 |none=>none
@[simp] theorem BCE(f:V->Option V)(v:V):o1 f (some v)=f v:=rfl
def o2(f:V->V->Option V):Option V->Option V->Option V
 |some a,some b=>f a b
 |_,_=>none
@[simp] theorem BCF(f:V->V->Option V)(a b:V):o2 f (some a) (some b)=f a b:=rfl
theorem XJ(f:V->Option V)(x:Option V):x.bind f=o1 f x:=by cases x<;>rfl
theorem XK(f:V->V->Option V)(x y:Option V):(x.bind fun a=>y.bind fun b=>f a b)=o2 f x y:=by cases x<;>cases y<;>rfl
@[simp] theorem BG9(op:UnOp)(T:cx)(x:cz):JG P (oO (.unOp op T x)) s r=o1 (bY op) (r x):=XJ _ _
@[simp] theorem A7Z(T U:cx)(x:cz):JG P (oO (.convert T U x)) s r=o1 (J9 P T U) (r x):=XJ _ _
@[simp] theorem A70(T:cx)(x i:cz):JG P (oO (.indexAddr T x i)) s r=o2 (BV P s T) (r x) (r i):=XK _ _ _
@[simp] theorem BCG(T:cx)(x i:cz):JG P (oO (.index T x i)) s r=o2 (GL P T) (r x) (r i):=XK _ _ _
@[simp] theorem BCH(x:cz)(i:Nat):JG P (oO (.extract x i)) s r=o1 (fun a=>FY a i) (r x):=XJ _ _
@[simp] theorem BCI(x:cz)(T:cx):JG P (oO (.call ⟨.builtin .len,#[x],#[T]⟩)) s r=o1 (GV P T) (r x):=XJ _ _
end
@[simp] theorem A71(b:Bool):bY .not (.bool b)=some (.bool !b):=rfl
@[simp] theorem A72(k:cr)(n:Int):bY .neg (.int k n)=some (.int k (k.wrap (0-n))):=rfl
@[simp] theorem AIO(vs:List V)(i:Nat):FY (.tup vs) i=vs[i]?:=rfl
@[simp] theorem BHA(up:List AA)(loc:AA)(l k g:Nat)(r:A6):St.put ⟨up,loc⟩ l k g r=if l=up.length then⟨up,(k,g,r)::loc⟩ else⟨up.modify l fun L=>L.put k g r,loc⟩:=rfl
def upG(k:Nat):Option AA->Option (Nat×A6)
 |some L=>L.get k
 |none=>none
@[simp] theorem A73(k:Nat)(L:AA):upG k (some L)=L.get k:=rfl
@[simp] theorem jH(up:List AA)(loc:AA)(l k:Nat):St.get ⟨up,loc⟩ l k=if l=up.length then loc.get k else upG k up[l]?:=rfl
def kx(k:Nat)(r:Fr):Option (Bool×V)->Fr
 |some (c,v)=>(k,c,v)::r
 |none=>r
@[simp] theorem BCJ(k:Nat)(r:Fr)(c:Bool)(v:V):kx k r (some (c,v))=(k,c,v)::r:=rfl
@[simp] theorem BCK(k:Nat)(r:Fr):kx k r none=r:=rfl
@[simp] theorem AZ5:QO [] fr=[]:=rfl
@[simp] theorem AU6(k:Nat)(ks:List Nat):QO (k::ks) fr=kx k (QO ks fr) (FD fr k):=by show(match FD fr k with|some (c,v)=>(k,c,v)::QO ks fr|none=>QO ks fr)=_;cases FD fr k<;>rfl
def kl(k:Nat)(r:AA):Option (Nat×A6)->AA
 |some (g,x)=>(k,g,x)::r
 |none=>r
@[simp] theorem BCL(k:Nat)(r:AA)(g:Nat)(x:A6):kl k r (some (g,x))=(k,g,x)::r:=rfl
@[simp] theorem BCM(k:Nat)(r:AA):kl k r none=r:=rfl
@[simp] theorem AZ6(L:AA):I7 [] L=[]:=rfl
@[simp] theorem AU7(k:Nat)(ks:List Nat)(L:AA):I7 (k::ks) L=kl k (I7 ks L) (L.get k):=by unfold kl;simp only[I7];cases L.get k<;>rfl
@[simp] theorem A74(ks ls:List Nat)(c:Nat)(fr:Fr)(up:List AA)(loc:AA):CT (some (ks,ls)) ⟨c,fr,⟨up,loc⟩⟩=⟨c,QO ks fr,⟨up,I7 ls loc⟩⟩:=rfl
@[simp] theorem AU8:CT none st=st:=rfl
@[simp] theorem BHB:S3 (some st)=some (.normal,st):=rfl
@[simp] theorem A75:S3 none=none:=rfl
@[simp] theorem BCN(c:Prop)[Decidable c](x y:Option XS):S3 (if c then x else y)=if c then S3 x else S3 y:=by split<;>rfl
@[simp] theorem A76(l:List JF):NY P E (.str l) st=O0 P E l (some st):=rfl
@[simp] theorem A77(S:List oQ):NY P E (.drw S) st=UV P E S (some st):=rfl
@[simp] theorem A78(ks:List (Nat×Nat×Nat)):NY P E (.cls ks) st=QB P ks (some st):=rfl
@[simp] theorem A79(o:Option XS):QB P [] o=o:=rfl
@[simp] theorem AZ7(T a d:Nat)(r:List (Nat×Nat×Nat))(st:XS):QB P ((T,a,d)::r) (some st)=QB P r (if tY (B5 st.fr (.tmp a))=true then DM (some d) st (ON P st.fr st.s T (.tmp a)) else none):=by
 show QB P r (Bool.rec _ _ (tY (B5 st.fr (.tmp a))))=_;cases tY (B5 st.fr (.tmp a))with
 |false=>rfl
 |true=>
  simp only[if_true]
  congr 1
@[simp] theorem A8A(l k g o:Nat):tY (some (.ptr l k g o))=true:=rfl
@[simp] theorem A8B(rs:List ResultVar):WE P rs (some (.ret,st))=WE.finV st.s (F5 P rs st.fr st.s):=rfl
@[simp] theorem APH(rs:List ResultVar):WE P rs (some (.normal,st))=WE.finV st.s (F5 P rs st.fr st.s):=rfl
def AU9:Option V->Option V
 |some r=>if AK 9 r=true then some r else none
 |none=>none
@[simp] theorem AZ8(r:V):AU9 (some r)=if AK 9 r=true then some r else none:=rfl
@[simp] theorem AZ9(v:V):WE.finV s (some v)=AU9 (A4 s 4 v):=by
 unfold WE.finV AU9;simp only;cases A4 s 4 v with
 |none=>rfl
 |some r=>simp only[ifB]
@[simp] theorem AVA(t:Tmp):DR P fr s (.tmp t)=rdT (FD fr t):=by
 rw[GM];show(match fr.get t with
  |some (true,v)=>some v
  | _=>none)=_
 cases fr.get t with
 |none=>rfl
 |some p=>obtain⟨c,v⟩:=p;cases c<;>rfl
@[simp] theorem A8C(x:ResultVar):F5 P [x] fr s=DR P fr s x:=by unfold F5;simp only[bf,ck];cases DR P fr s x<;>rfl
def re2:Option V->Option V->Option V
 |some a,some b=>some (.tup [a,b])
 |_,_=>none
@[simp] theorem A8D(a b:V):re2 (some a) (some b)=some (.tup [a,b]):=rfl
@[simp] theorem A8E(x y:ResultVar):F5 P [x,y] fr s=re2 (DR P fr s x) (DR P fr s y):=by unfold F5;simp only[bf,ck];cases DR P fr s x<;>cases DR P fr s y<;>rfl
def re3:Option V->Option V->Option V->Option V
 |some a,some b,some c=>some (.tup [a,b,c])
 |_,_,_=>none
@[simp] theorem A8F(a b c:V):re3 (some a) (some b) (some c)=some (.tup [a,b,c]):=rfl
@[simp] theorem AVB(x y z:ResultVar):F5 P [x,y,z] fr s=re3 (DR P fr s x) (DR P fr s y) (DR P fr s z):=by unfold F5;simp only[bf,ck];cases DR P fr s x<;>cases DR P fr s y<;>cases DR P fr s z<;>rfl
@[simp] theorem AVC(f:Nat)(k:cr)(n:Int):A4 s (f+1) (.int k n)=some (.int k n):=rfl
@[simp] theorem API(f:Nat)(b:Bool):A4 s (f+1) (.bool b)=some (.bool b):=rfl
@[simp] theorem AVD(f:Nat):A4 s (f+1) .nil=some .nil:=rfl
@[simp] theorem APJ(f:Nat)(b:Bool)(es:List (List V)):A4 s (f+1) (.list b es)=some (.list false es):=rfl
def kE(mk:List V->V):Option (List V)->Option V
 |some l=>some (mk l)
 |none=>none
@[simp] theorem A8G(mk:List V->V)(l:List V):kE mk (some l)=some (mk l):=rfl
def QC(f:V->Option V):List V->Option (List V)
 |[]=>some []
 |v::l=>mc2 (f v) (QC f l)
theorem TG(f:V->Option V):∀(l:List V),l.mapM f=QC f l
 |[]=>rfl
 |v::l=>by simp only[bf,QC,TG f l];cases f v<;>cases QC f l<;>rfl
@[simp] theorem A8H(f:V->Option V):QC f []=some []:=rfl
@[simp] theorem A0A(f:V->Option V)(v:V)(l:List V):QC f (v::l)=mc2 (f v) (QC f l):=rfl
@[simp] theorem AVE(f:Nat)(cs:List V):A4 s (f+1) (.agg cs)=kE .agg (QC (A4 s f) cs):=by simp only[A4,TG];cases QC (A4 s f) cs<;>rfl
@[simp] theorem AVF(f:Nat)(cs:List V):A4 s (f+1) (.tup cs)=kE .tup (QC (A4 s f) cs):=by simp only[A4,TG];cases QC (A4 s f) cs<;>rfl
def cv1(g m:Nat):Option (Nat×A6)->Option V
 |some (g',.vec _ es)=>if g'=g/\m<=es.length then some (.list false (es.take m)) else none
 |_=>none
@[simp] theorem AHT(g m g':Nat)(T:cx)(es:List (List V)):cv1 g m (some (g',.vec T es))=if g'=g/\m<=es.length then some (.list false (es.take m)) else none:=rfl
@[simp] theorem uN(f:Nat)(up:List AA)(loc:AA)(l k g m:Nat):A4 ⟨up,loc⟩ (f+1) (.vec l k g m)=if l=up.length then cv1 g m (loc.get k) else some (.vec l k g m):=by
 simp only[A4];split
 ·cases loc.get k with
  |none=>rfl
  |some z=>obtain⟨g',r⟩:=z;cases r<;>rfl
 ·rfl
@[simp] theorem APK(t:Nat)(T:cx):DR P fr s (.cell t T)=ld1 P s T (rdT (FD fr t)):=by
 rw[GM];show(match fr.get t with
  |some (true,p)=>(BF s p).bind (BT P T)
  | _=>none)=_
 cases fr.get t with
 |none=>rfl
 |some p=>
  obtain⟨c,v⟩:=p
  cases c with
  |false=>rfl
  |true=>
   simp only[AHN,AHO]
   cases BF s v<;>rfl
section
variable (d:Option Tmp)(c:Nat)
@[simp] theorem A8I(r:Option XS):UV P E [] r=r:=rfl
@[simp] theorem A0B(p:oQ)(S:List oQ)(r:Option XS):UV P E (p::S) r=UV P E S (O0 P E p.sq (aJ (UU P E p.ph (AHB p.new r)))):=rfl
@[simp] theorem A8J(r:Option (XS×AN×AN)):UU P E [] r=r:=rfl
@[simp] theorem A0C(i:JF)(l:List JF)(r:Option (XS×AN×AN)):UU P E (i::l) r=UU P E l (oP P E i r):=rfl
@[simp] theorem BCO(new:List Tmp)(up:List AA)(loc:AA):AHB new (some ⟨c,fr,⟨up,loc⟩⟩)=if (new.all fun d=>(loc.get d).isNone)=true then some (⟨c,fr,⟨up,loc⟩⟩,[],[]) else none:=by show(Bool.rec none _ _:Option _)=_;rw[ifB];rfl
@[simp] theorem A0D(rd wr:AN):aJ (some (st,rd,wr))=if (wr.all fun p=>!(rd.contains p))=true then some st else none:=by show(Bool.rec none _ _:Option _)=_;rw[ifB]
@[simp] theorem A0E:aJ none=none:=rfl
@[simp] theorem A8K(c:Prop)[Decidable c](x y:Option (XS×AN×AN)):aJ (if c then x else y)=if c then aJ x else aJ y:=by split<;>rfl
@[simp] theorem A0F(i:JF):oP P E i none=none:=rfl
@[simp] theorem A8L(i:JF)(c:Prop)[Decidable c](x y:Option (XS×AN×AN)):oP P E i (if c then x else y)=if c then oP P E i x else oP P E i y:=by split<;>rfl
@[simp] theorem A8M(l:List JF)(c:Prop)[Decidable c](x y:Option (XS×AN×AN)):UU P E l (if c then x else y)=if c then UU P E l x else UU P E l y:=by split<;>rfl
@[simp] theorem A8N(l:List oQ)(c:Prop)[Decidable c](x y:Option XS):UV P E l (if c then x else y)=if c then UV P E l x else UV P E l y:=by split<;>rfl
def ph3(rds rd wr:AN):Option (XS×AN)->Option (XS×AN×AN)
 |some (st,w)=>some (st,rds++rd,w++wr)
 |none=>none
@[simp] theorem A8O(rds rd wr w:AN):ph3 rds rd wr (some (st,w))=some (st,rds++rd,w++wr):=rfl
@[simp] theorem A8P(rds rd wr:AN):ph3 rds rd wr none=none:=rfl
@[simp] theorem BCP(rds rd wr:AN)(c:Prop)[Decidable c](x y:Option (XS×AN)):ph3 rds rd wr (if c then x else y)=if c then ph3 rds rd wr x else ph3 rds rd wr y:=by split<;>rfl
@[simp] theorem A0H(i:JF)(rd wr:AN):oP P E i (some (st,rd,wr))=ph3 (GI P i.k (B5 st.fr)) rd wr (UT P E i st):=by show(match UT P E i st with|some (st',w)=>some (st',GI P i.k (B5 st.fr)++rd,w++wr)|none=>none)=_;cases UT P E i st<;>rfl
@[simp] theorem A0I(k:IK):UT P E ⟨none,d,k⟩ st=CV P E d k st:=rfl
def gI0(P:cd)(E:XE)(d:Option Tmp)(k:IK)(st:XS)(w:Bool)(r:Option (Bool×V)):Option (XS×AN):=match r with
 |some (c,.bool b)=>if (c&&(b==w))=true then CV P E d k st else if US k=true then none else some (H7 d st,[])
 |_=>none
@[simp] theorem AVG(t:Tmp)(w:Bool)(k:IK):UT P E ⟨some (t,w),d,k⟩ st=gI0 P E d k st w (FD st.fr t):=by
 show(match(match FD st.fr t with | some (c,.bool b)=>some (c&&(b == w)) | _=>none:Option Bool)with
  |some true=>CV P E d k st
  |some false=>Bool.rec (some (H7 d st,[])) none (US k)
  | none=>none)=_
 unfold gI0;cases FD st.fr t with
 |none=>rfl
 |some p=>
  obtain⟨c,v⟩:=p
  cases v with
  |bool b=>cases h:(c&&(b==w))<;>simp[h,ifB]
  |_=>rfl
@[simp] theorem A8Q(k:IK)(w c b:Bool):gI0 P E d k st w (some (c,.bool b))=if (c&&(b==w))=true then CV P E d k st else if US k=true then none else some (H7 d st,[]):=rfl
@[simp] theorem BHD(T:cx)(x:cz)(f:cz->Option V):GI P (.ld T x) f=FE (bx (P.cellsOf T) 1) (f x):=rfl
@[simp] theorem AVH(x y:cz)(f:cz->Option V):IL f [x,y]=EN (f y):=rfl
@[simp] theorem AL5(b:Bool)(es:List (List V)):EN (some (.list b es))=[]:=rfl
@[simp] theorem APL:EN (some .nil)=[]:=rfl
@[simp] theorem APM(l k γ n:Nat):EN (some (.vec l k γ n))=[(l,k)]:=rfl
@[simp] theorem BHE(x:cz)(f:cz->Option V):GI P (.mv x) f=[]:=rfl
@[simp] theorem BCQ(op:BinOp)(T:cx)(x y:cz)(f:cz->Option V):GI P (.bin op T x y) f=[]:=rfl
@[simp] theorem BHF(T:cx)(x:cz)(i:Nat)(f:cz->Option V):GI P (.fa T x i) f=[]:=rfl
@[simp] theorem A8R(x y z:cz)(f:cz->Option V):GI P (.pick x y z) f=[]:=rfl
@[simp] theorem A0J(T:cx)(ps:List (Nat×cz))(f:cz->Option V):GI P (.build T ps) f=[]:=rfl
@[simp] theorem A8S(x y:cz)(Ts:List cx)(f:cz->Option V):GI P (.appS [x,y] Ts) f=EN (f y):=rfl
@[simp] theorem AVI(T:cx)(n:Nat)(ps:List (Nat×cz))(f:cz->Option V):GI P (.buildS T n ps) f=[]:=rfl
@[simp] theorem A0K(T:cx)(f:cz->Option V):GI P (.alloc T) f=[]:=rfl
@[simp] theorem BCR(x:cz)(f:cz->Option V):GI P (.box x) f=[]:=rfl
@[simp] theorem BCS(T:cx)(x y:cz)(f:cz->Option V):GI P (.sto T x y) f=[]:=rfl
@[simp] theorem BCT(x:List cz)(y:List cx)(f:cz->Option V):GI P (.app x y) f=IL f x:=rfl
@[simp] theorem A8T(t:Tmp):F7 (.tmp t)=false:=rfl
@[simp] theorem A0L(f:cp):F7 (.func f)=AFZ.contains f:=rfl
@[simp] theorem A0M(b:Bool)(t:Tmp)(g:cz)(x:List cz)(f:cz->Option V)(h:F7 g=false):GI P (.callM b t g x) f=[]:=by show cond (F7 g) _ _=_;rw[h];rfl
@[simp] theorem A8U(b:Bool)(t:Option Tmp)(g:cz)(x:List cz)(f:cz->Option V)(h:F7 g=false):GI P (.call b t g x) f=[]:=by show cond (F7 g) _ _=_;rw[h];rfl
theorem fE(b:Bool)(t:Option Tmp)(g x:cz)(f:cz->Option V)(h:F7 g=true):GI P (.call b t g [x]) f=EN (f x):=by show cond (F7 g) _ _=_;rw[h];rfl
@[simp] theorem A8V(T:cx)(x i:cz)(f:cz->Option V):GI P (.oth (.indexAddr T x i)) f=KF (f x):=rfl
@[simp] theorem BHG(op:UnOp)(T:cx)(x:cz)(f:cz->Option V):GI P (.oth (.unOp op T x)) f=[]:=rfl
@[simp] theorem BCU(x:cz)(i:Nat)(f:cz->Option V):GI P (.oth (.extract x i)) f=[]:=rfl
@[simp] theorem BCV(x:cz)(T:cx)(b:Builtin)(f:cz->Option V):GI P (.oth (.call ⟨.builtin b,#[x],#[T]⟩)) f=[]:=by cases b<;>rfl
@[simp] theorem BHH(g:Fn)(x y:Array cz)(f:cz->Option V):GI P (.oth (.makeFunc g x y)) f=[]:=rfl
def nw:Option XS->Option (XS×AN)
 |some st=>some (st,[])
 |none=>none
@[simp] theorem BCW:nw (some st)=some (st,[]):=rfl
@[simp] theorem BCX:nw none=none:=rfl
@[simp] theorem BHI(c:Prop)[Decidable c](x y:Option XS):nw (if c then x else y)=if c then nw x else nw y:=by split<;>rfl
theorem FF(r:Option XS):noW r=nw r:=by cases r<;>rfl
@[simp] theorem A8W(x:cz):CV P E d (.mv x) st=nw (stepK P E d (.mv x) st):=FF _
@[simp] theorem A0N(op:BinOp)(T:cx)(x y:cz):CV P E d (.bin op T x y) st=nw (stepK P E d (.bin op T x y) st):=FF _
@[simp] theorem A8X(T:cx)(x:cz)(f:Nat):CV P E d (.fa T x f) st=nw (stepK P E d (.fa T x f) st):=FF _
@[simp] theorem A0O(T:cx)(x:cz):CV P E d (.ldz T x) st=CV P E d (.ld T x) st:=rfl
@[simp] theorem A0P(T:cx)(x:cz):stepK P E d (.ldz T x) st=stepK P E d (.ld T x) st:=rfl
@[simp] theorem BCY(T:cx)(x:cz)(f:cz->Option V):GI P (.ldz T x) f=[]:=rfl
@[simp] theorem A8Y(T:cx)(x:cz):CV P E d (.ld T x) st=nw (stepK P E d (.ld T x) st):=FF _
@[simp] theorem AVJ(x y z:cz):CV P E d (.pick x y z) st=nw (stepK P E d (.pick x y z) st):=FF _
@[simp] theorem APN(T:cx)(ps:List (Nat×cz)):CV P E d (.build T ps) st=nw (stepK P E d (.build T ps) st):=FF _
@[simp] theorem AL6(T:cx)(n:Nat)(ps:List (Nat×cz)):CV P E d (.buildS T n ps) st=nw (stepK P E d (.buildS T n ps) st):=FF _
@[simp] theorem A0Q(op:Op):CV P E d (.oth op) st=nw (stepK P E d (.oth op) st):=FF _
@[simp] theorem APO(T:cx):CV P E d (.alloc T) st=nw (stepK P E d (.alloc T) st):=FF _
@[simp] theorem A0R(x:cz):CV P E d (.box x) st=nw (stepK P E d (.box x) st):=FF _
@[simp] theorem A0S(x:Option cz):CV P E d (.mkM x) st=nw (stepK P E d (.mkM x) st):=FF _
@[simp] theorem A0T(T:cx)(x y:cz):CV P E d (.mkS T x y) st=nw (stepK P E d (.mkS T x y) st):=FF _
def wp(p:AN):Option XS->Option (XS×AN)
 |some st=>some (st,p)
 |none=>none
@[simp] theorem BCZ(p:AN):wp p (some st)=some (st,p):=rfl
@[simp] theorem BC0(p:AN):wp p none=none:=rfl
@[simp] theorem BHJ(p:AN)(c:Prop)[Decidable c](x y:Option XS):wp p (if c then x else y)=if c then wp p x else wp p y:=by split<;>rfl
@[simp] theorem A0U(T:cx)(x y:cz):CV P E d (.sto T x y) st=wp (IJ (bx (P.cellsOf T) 1) (B5 st.fr x)) (stepK P E d (.sto T x y) st):=by show(match JM P d T x y st with|some st'=>some (st',IJ (bx (P.cellsOf T) 1) (B5 st.fr x))|none=>none)=wp _ (JM P d T x y st);cases JM P d T x y st<;>rfl
@[simp] theorem A8Z(x:Option V):FE false x=DE x:=by cases x<;>rfl
@[simp] theorem AVK(l k g o:Nat):FE true (some (.ptr l k g o))=[(l,k+2000000),(l,k+4000000),(l,6000000+1000*k+o)]:=rfl
@[simp] theorem APP(l k g i o:Nat):FE true (some (.eptr l k g i o))=[(l,k+2000000),(l,k+4000000),(l,6000000+1000*k+o)]:=rfl
@[simp] theorem AVL(b:Bool)(cs:List V):FE b (some (.ref cs))=[]:=by cases b<;>rfl
@[simp] theorem AVM(l k g o:Nat):IJ true (some (.ptr l k g o))=[(l,k),(l,6000000+1000*k+o)]:=rfl
@[simp] theorem APQ(l k g i o:Nat):IJ true (some (.eptr l k g i o))=[(l,k),(l,6000000+1000*k+o)]:=rfl
@[simp] theorem APR(l k g o:Nat):IJ false (some (.ptr l k g o))=[(l,k),(l,k+4000000)]:=rfl
@[simp] theorem AL7(l k g i o:Nat):IJ false (some (.eptr l k g i o))=[(l,k),(l,k+4000000)]:=rfl
@[simp] theorem APS(l k g o:Nat):DE (some (.ptr l k g o))=[(l,k)]:=rfl
@[simp] theorem AL8(l k g i o:Nat):DE (some (.eptr l k g i o))=[(l,k)]:=rfl
@[simp] theorem APT(cs:List V):DE (some (.ref cs))=[]:=rfl
@[simp] theorem AVN(l k g o:Nat):KF (some (.ptr l k g o))=[]:=rfl
@[simp] theorem AVO(l k g n:Nat):KF (some (.vec l k g n))=[(l,k+P8)]:=rfl
@[simp] theorem APU(b:Bool)(es:List (List V)):KF (some (.list b es))=[]:=rfl
@[simp] theorem AVP(cs:List V):KF (some (.ref cs))=[]:=rfl
def c01(E:XE)(d:Option Tmp)(st:XS):Option V->Option (List V)->Option XS
 |some (.fn f first cap),some vs=>DM d st (E.c0 f ((first++vs++cap).map weakV))
 |_,_=>none
@[simp] theorem AHU(f:cp)(first cap vs:List V):c01 E d st (some (.fn f first cap)) (some vs)=DM d st (E.c0 f ((first++vs++cap).map weakV)):=rfl
@[simp] theorem AVQ(t:Option Tmp)(f:cz)(args:List cz)(hr:F7 f=false):CV P E d (.call false t f args) ⟨c,fr,s⟩=nw (c01 E d ⟨c,fr,s⟩ (B5 fr f) (EL (B5 fr) args)):=by
 show noW (cond (F7 f) _ (FR E.c0 d f args ⟨c,fr,s⟩))=_;rw[hr,FF,cond_false];congr 1;unfold FR;cases hf:B5 fr f with
 |none=>simp only[c01]
 |some v=>
  cases v with
  |fn g first cap=>
   simp only
   cases hm:EL (B5 fr) args with
   |none=>simp only[c01]
   |some vs=>
    simp only[AHU]
    cases E.c0 g ((first++vs++cap).map weakV)<;>rfl
  |_=>simp only[c01]
@[simp] theorem APV(t:Tmp)(f:cz)(args:List cz)(hr:F7 f=false):CV P E d (.callM false t f args) ⟨c,fr,s⟩=nw (c01 E d ⟨c,fr,s⟩ (B5 fr f) (EL (B5 fr) args)):=by
 show noW (cond (F7 f) _ (FR E.c0 d f args ⟨c,fr,s⟩))=_;rw[hr,FF,cond_false];congr 1;unfold FR;cases hf:B5 fr f with
 |none=>simp only[c01]
 |some v=>
  cases v with
  |fn g first cap=>
   simp only
   cases hm:EL (B5 fr) args with
   |none=>simp only[c01]
   |some vs=>
    simp only[AHU]
    cases E.c0 g ((first++vs++cap).map weakV)<;>rfl
  |_=>simp only[c01]
@[simp] theorem BHK{A:Ann}{kn:CF0}{n:Nat}:(BX P A kn n).c0=E5 P kn (AH P A kn n):=rfl
end
theorem uO{A:Ann}{kn:CF0}{n N:Nat}(a b:cm):nK (AH P A kn n N) a b st (some (.bool true))=AH P A kn n N a st:=rfl
theorem oZ{A:Ann}{kn:CF0}{n N:Nat}(a b:cm):nK (AH P A kn n N) a b st (some (.bool false))=AH P A kn n N b st:=rfl
attribute [simp] AHJ uJ ABA AHH AA6 uH AA7 AA8 AA9 AHI uI oU AHK ABB AHL cP uK oV uM uO oZ AHM
end Go.Pg
namespace Go.Pg
variable {P:cd}{E:XE}{st:XS}{fr:Fr}{s:St}
@[simp] theorem AVR(k:cr)(n:Int):BA (.int k n)=[.int k n]:=rfl
@[simp] theorem APW(b:Bool):BA (.bool b)=[.bool b]:=rfl
@[simp] theorem AVS(cs:List V):BA (.agg cs)=cs:=rfl
@[simp] theorem APX(b:Bool)(es:List (List V)):BA (.list b es)=[.list b es]:=rfl
@[simp] theorem AVT:BA .nil=[.nil]:=rfl
@[simp] theorem AVU(l k g n:Nat):BA (.vec l k g n)=[.vec l k g n]:=rfl
@[simp] theorem A0V(l k g:Nat):BA (.mp l k g)=[.mp l k g]:=rfl
@[simp] theorem A0W(f:cp)(x y:List V):BA (.fn f x y)=[.fn f x y]:=rfl
@[simp] theorem AVV(l k g n:Nat):BA (.ptr l k g n)=[.ptr l k g n]:=rfl
@[simp] theorem AVW(cs:List V):BA (.ref cs)=[.ref cs]:=rfl
@[simp] theorem AVX(k:cr)(n:Int):BD (.int k n)=true:=rfl
@[simp] theorem APY(b:Bool):BD (.bool b)=true:=rfl
@[simp] theorem AVY(cs:List V):BD (.agg cs)=true:=rfl
@[simp] theorem APZ(b:Bool)(es:List (List V)):BD (.list b es)=true:=rfl
@[simp] theorem AVZ:BD .nil=true:=rfl
@[simp] theorem AV0(l k g n:Nat):BD (.vec l k g n)=true:=rfl
@[simp] theorem A0X(l k g:Nat):BD (.mp l k g)=true:=rfl
@[simp] theorem A0Y(f:cp)(x y:List V):BD (.fn f x y)=true:=rfl
@[simp] theorem AV1(l k g n:Nat):BD (.ptr l k g n)=true:=rfl
@[simp] theorem AV2(cs:List V):BD (.ref cs)=true:=rfl
@[simp] theorem A0Z(op:BinOp)(T:cx)(k j:cr)(a b:Int):F3 P op T (.int k a) (.int j b)=if k=j then EV op k a b else bX op k a b:=rfl
@[simp] theorem A80(k:cr)(a b:Int):bX .shl k a b=if b<0 then none else some (.int k (k.wrap (a*2 ^ (min b.toNat k.bits)))):=rfl
@[simp] theorem A81(k:cr)(a b:Int):bX .shr k a b=if b<0 then none else some (.int k (a.fdiv (2 ^ (min b.toNat k.bits)))):=rfl
section
variable (k:cr)(a b:Int)
@[simp] theorem A00:EV .add k a b=some (.int k (k.wrap (a+b))):=rfl
@[simp] theorem A01:EV .sub k a b=some (.int k (k.wrap (a-b))):=rfl
@[simp] theorem A02:EV .mul k a b=some (.int k (k.wrap (a*b))):=rfl
@[simp] theorem A03:EV .quo k a b=if b=0 then none else some (.int k (k.wrap (a.tdiv b))):=rfl
@[simp] theorem A04:EV .rem k a b=if b=0 then none else some (.int k (a.tmod b)):=rfl
@[simp] theorem A05:EV .and k a b=some (.int k (k.wrap (BitVec.ofInt k.bits a &&& BitVec.ofInt k.bits b).toNat)):=rfl
@[simp] theorem A82:EV .or k a b=some (.int k (k.wrap (BitVec.ofInt k.bits a ||| BitVec.ofInt k.bits b).toNat)):=rfl
@[simp] theorem AMA:EV .andNot k a b=some (.int k (k.wrap (BitVec.ofInt k.bits a &&& ~~~ BitVec.ofInt k.bits b).toNat)):=rfl
@[simp] theorem A06:EV .shl k a b=if b<0 then none else some (.int k (k.wrap (a*2 ^ (min b.toNat k.bits)))):=rfl
@[simp] theorem A07:EV .shr k a b=if b<0 then none else some (.int k (a.fdiv (2 ^ (min b.toNat k.bits)))):=rfl
@[simp] theorem A08:EV .eql k a b=some (.bool (decide (a=b))):=by show some (V.bool (a==b))=_;congr 2
@[simp] theorem A09:EV .neq k a b=some (.bool (!decide (a=b))):=by show some (V.bool (a != b))=_;congr 2
@[simp] theorem A1A:EV .lss k a b=some (.bool (decide (a<b))):=rfl
@[simp] theorem A1B:EV .leq k a b=some (.bool (decide (a<=b))):=rfl
@[simp] theorem A1C:EV .gtr k a b=some (.bool (decide (b<a))):=rfl
@[simp] theorem A1D:EV .geq k a b=some (.bool (decide (b<=a))):=rfl
end
theorem AU{x:Int}(h1:-9223372036854775808<=x)(h2:x<9223372036854775808):IntKind.i64.wrap x=x:=by simp only[IntKind.wrap,IntKind.bits,IntKind.signed];simp;omega
@[simp] theorem AP0(T:cx)(a b:Bool):F3 P .eql T (.bool a) (.bool b)=if lN P T=true then some (.bool (a==b)) else none:=rfl
@[simp] theorem AP1(T:cx)(a b:Bool):F3 P .neq T (.bool a) (.bool b)=if lN P T=true then some (.bool (a != b)) else none:=rfl
def bl1(f:Bool->Bool):Option Bool->Option V
 |some b=>some (.bool (f b))
 |none=>none
@[simp] theorem A83(f:Bool->Bool)(b:Bool):bl1 f (some b)=some (.bool (f b)):=rfl
@[simp] theorem AV3(T:cx)(cs ds:List V):F3 P .eql T (.agg cs) (.agg ds)=bl1 (fun b=>b) (Q3 P T cs ds):=by show(Q3 P T cs ds).map V.bool=_;cases Q3 P T cs ds<;>rfl
@[simp] theorem AV4(T:cx)(cs ds:List V):F3 P .neq T (.agg cs) (.agg ds)=bl1 (fun b=>!b) (Q3 P T cs ds):=by show(Q3 P T cs ds).map (fun b=>V.bool !b)=_;cases Q3 P T cs ds<;>rfl
def faP(P:cd)(x:V):Option (cx×Nat)->Option V
 |some (U,off)=>if P.cellsOf U=0 then none else match x with
  |.ref cs=>some (.ref (cs.drop off))
  |.ptr l k g o=>some (.ptr l k g (o+off))
  |.eptr l k g i o=>some (.eptr l k g i (o+off))
  |_=>none
 |none=>none
@[simp] theorem BC1(T:cx)(x:V)(f:Nat):C8 P T x f=faP P x (BL P T f):=by unfold C8 faP;cases BL P T f<;>rfl
@[simp] theorem BC2(U:cx)(off:Nat)(cs:List V):faP P (.ref cs) (some (U,off))=if P.cellsOf U=0 then none else some (.ref (cs.drop off)):=rfl
@[simp] theorem BC3(U:cx)(off l k g o:Nat):faP P (.ptr l k g o) (some (U,off))=if P.cellsOf U=0 then none else some (.ptr l k g (o+off)):=rfl
@[simp] theorem A85(U:cx)(off l k g i o:Nat):faP P (.eptr l k g i o) (some (U,off))=if P.cellsOf U=0 then none else some (.eptr l k g i (o+off)):=rfl
def fd1(P:cd)(x:V):Option (cx×Nat)->Option V
 |some (U,off)=>match x with
  |.agg cs=>NN P U cs off
  |_=>none
 |none=>none
@[simp] theorem AV5(T:cx)(x:V)(f:Nat):JV P T x f=fd1 P x (BL P T f):=by unfold JV fd1;cases x<;>cases BL P T f<;>rfl
@[simp] theorem BC4(U:cx)(off:Nat)(cs:List V):fd1 P (.agg cs) (some (U,off))=NN P U cs off:=rfl
def cb(g off:Nat):Option (Nat×A6)->Option (List V)
 |some (g',.box cs)=>if g'=g then some (cs.drop off) else none
 |_=>none
@[simp] theorem BC5(g g' off:Nat)(cs:List V):cb g off (some (g',.box cs))=if g'=g then some (cs.drop off) else none:=rfl
def ce(g i off:Nat):Option (Nat×A6)->Option (List V)
 |some (g',.vec _ es)=>if g'=g then(es[i]?).map (·.drop off) else none
 |_=>none
@[simp] theorem BC6(g g' i off:Nat)(T:cx)(es:List (List V)):ce g i off (some (g',.vec T es))=if g'=g then(es[i]?).map (·.drop off) else none:=rfl
@[simp] theorem AP2(cs:List V):BF s (.ref cs)=some cs:=rfl
@[simp] theorem AP3(l k g off:Nat):BF s (.ptr l k g off)=cb g off (s.get l k):=by
 unfold cb;simp only[BF];cases s.get l k with
 |none=>rfl
 |some z=>obtain⟨g',r⟩:=z;cases r<;>rfl
@[simp] theorem AMB(l k g i off:Nat):BF s (.eptr l k g i off)=ce g i off (s.get l k):=by
 unfold ce;simp only[BF];cases s.get l k with
 |none=>rfl
 |some z=>obtain⟨g',r⟩:=z;cases r<;>rfl
def iv(P:cd)(e:cx)(l k g n:Nat)(j:Int):Option (Nat×A6)->Option V
 |some (g',.vec _ es)=>if g'=g/\0<=j/\j<n/\n<=es.length/\(es.getD j.toNat []).length=P.cellsOf e/\0<P.cellsOf e then some (.eptr l k g j.toNat 0) else none
 |_=>none
@[simp] theorem BC7(e:cx)(l k g g' n:Nat)(j:Int)(T:cx)(es:List (List V)):iv P e l k g n j (some (g',.vec T es))=if g'=g/\0<=j/\j<n/\n<=es.length/\(es.getD j.toNat []).length=P.cellsOf e/\0<P.cellsOf e then some (.eptr l k g j.toNat 0) else none:=rfl
def ia(P:cd)(s:St)(x i:V):Option (Option Nat×cx)->Option V
 |some (none,e)=>match x,i with
  |.list _ es,.int _ j=>if 0<=j/\j<es.length/\(es.getD j.toNat []).length=P.cellsOf e/\0<P.cellsOf e then some (.ref (es.getD j.toNat [])) else none
  |.vec l k g n,.int _ j=>iv P e l k g n j (s.get l k)
  |_,_=>none
 |some (some n,e)=>match x,i with
  |.ref cs,.int _ j=>if 0<=j/\j<n/\0<P.cellsOf e then some (.ref (cs.drop (j.toNat*P.cellsOf e))) else none
  |.ptr l k g o,.int _ j=>if 0<=j/\j<n/\0<P.cellsOf e then some (.ptr l k g (o+j.toNat*P.cellsOf e)) else none
  |.eptr l k g i' o,.int _ j=>if 0<=j/\j<n/\0<P.cellsOf e then some (.eptr l k g i' (o+j.toNat*P.cellsOf e)) else none
  |_,_=>none
 |none=>none
@[simp] theorem BC8(T:cx)(x i:V):BV P s T x i=ia P s x i (BR P T):=by
 unfold BV ia;cases BR P T with
 |none=>rfl
 |some z=>
  obtain⟨n,e⟩:=z
  cases n with
  |some n=>cases x<;>cases i<;>rfl
  |none=>
   cases x with
   |vec l k g n=>
    cases i with
    |int q j=>
     simp only[iv]
     cases s.get l k with
     |none=>rfl
     |some z=>obtain⟨g',r⟩:=z;cases r<;>rfl
    |_=>rfl
   |_=>cases i<;>rfl
@[simp] theorem BC9(e:cx)(b:Bool)(es:List (List V))(k:cr)(j:Int):ia P s (.list b es) (.int k j) (some (none,e))=if 0<=j/\j<es.length/\(es.getD j.toNat []).length=P.cellsOf e/\0<P.cellsOf e then some (.ref (es.getD j.toNat [])) else none:=rfl
@[simp] theorem BHN(e:cx)(l q g n:Nat)(k:cr)(j:Int):ia P s (.vec l q g n) (.int k j) (some (none,e))=iv P e l q g n j (s.get l q):=rfl
@[simp] theorem BHO(n:Nat)(e:cx)(cs:List V)(k:cr)(j:Int):ia P s (.ref cs) (.int k j) (some (some n,e))=if 0<=j/\j<n/\0<P.cellsOf e then some (.ref (cs.drop (j.toNat*P.cellsOf e))) else none:=rfl
@[simp] theorem BHP(n:Nat)(e:cx)(l q g o:Nat)(k:cr)(j:Int):ia P s (.ptr l q g o) (.int k j) (some (some n,e))=if 0<=j/\j<n/\0<P.cellsOf e then some (.ptr l q g (o+j.toNat*P.cellsOf e)) else none:=rfl
@[simp] theorem BDA(n:Nat)(e:cx)(l q g i o:Nat)(k:cr)(j:Int):ia P s (.eptr l q g i o) (.int k j) (some (some n,e))=if 0<=j/\j<n/\0<P.cellsOf e then some (.eptr l q g i (o+j.toNat*P.cellsOf e)) else none:=rfl
def ix(P:cd)(T:cx)(x i:V):Option (Option Nat×cx)->Option V
 |some (some n,e)=>match x,i with
  |.agg cs,.int _ j=>if 0<=j/\j<n/\0<P.cellsOf e then NN P e cs (j.toNat*P.cellsOf e) else none
  |_,_=>none
 |some (none,_)=>none
 |none=>GL P T x i
@[simp] theorem AV6(T:cx)(x i:V)(h:BR P T≠none):GL P T x i=ix P T x i (BR P T):=by
 unfold ix;cases he:BR P T with
 |none=>exact absurd he h
 |some z=>obtain⟨n,e⟩:=z;unfold GL;rw[he];cases n<;>cases x<;>cases i<;>rfl
@[simp] theorem BHQ(T:cx)(n:Nat)(e:cx)(cs:List V)(k:cr)(j:Int):ix P T (.agg cs) (.int k j) (some (some n,e))=if 0<=j/\j<n/\0<P.cellsOf e then NN P e cs (j.toNat*P.cellsOf e) else none:=rfl
theorem O1{T:cx}(h:DQ P T=true):∃e,P.underlying T=some (.slice e):=by
 unfold DQ at h;split at h
 ·rename_i e he;exact⟨e,he⟩
 ·cases h
@[simp] theorem uP{T:cx}(h:DQ P T=true)(b:Bool)(es:List (List V)):GV P T (.list b es)=some (.int .i64 es.length):=by obtain⟨e,he⟩:=O1 h;simp[GV,he]
@[simp] theorem A1E{T:cx}(h:DQ P T=true)(l k g n:Nat):GV P T (.vec l k g n)=some (.int .i64 n):=by obtain⟨e,he⟩:=O1 h;simp[GV,he]
@[simp] theorem ABE{T:cx}(h:DQ P T=true):GV P T .nil=some (.int .i64 0):=by obtain⟨e,he⟩:=O1 h;simp[GV,he]
def fv(place:Nat->Option (Nat×Nat))(cs:List V)(v:V)(rest:List (Nat×V)):Option (Nat×Nat)->Option (List V)
 |none=>none
 |some (off,size)=>if (BA v).length=size/\off+(BA v).length<=cs.length then C4 place (A8 cs off (BA v)) rest else none
@[simp] theorem A1F(place:Nat->Option (Nat×Nat))(cs:List V):C4 place cs []=some cs:=rfl
@[simp] theorem AV7(place:Nat->Option (Nat×Nat))(cs:List V)(i:Nat)(v:V)(rest:List (Nat×V)):C4 place cs ((i,v)::rest)=fv place cs v rest (place i):=by simp only[C4];unfold fv;cases place i<;>rfl
@[simp] theorem BDB(place:Nat->Option (Nat×Nat))(cs:List V)(v:V)(rest:List (Nat×V))(off size:Nat):fv place cs v rest (some (off,size))=if (BA v).length=size/\off+(BA v).length<=cs.length then C4 place (A8 cs off (BA v)) rest else none:=rfl
attribute [simp] A8
@[simp] theorem AP4(size:Nat)(cs:List V):CL size cs 0=[]:=rfl
@[simp] theorem AP5(size:Nat)(cs:List V)(n:Nat):CL size cs (n+1)=cs.take size::CL size (cs.drop size) n:=rfl
def ch1(size len:Nat):Option (List V)->Option V
 |some cs=>some (.list true (CL size cs len))
 |none=>none
@[simp] theorem A86(size len:Nat)(cs:List V):ch1 size len (some cs)=some (.list true (CL size cs len)):=rfl
def bsz(P:cd)(e:cx)(len:Nat)(parts:List (Nat×V)):Option (List V)->Option V
 |some z=>if (parts.all fun p=>BD p.2)=true/\z.length=P.cellsOf e/\0<P.cellsOf e/\len*P.cellsOf e<=2 ^ 24 then
   ch1 (P.cellsOf e) len (C4 (fun i=>some (i*P.cellsOf e,P.cellsOf e)) (br len z).flatten parts) else none
 |none=>none
@[simp] theorem A87(e:cx)(len:Nat)(parts:List (Nat×V))(z:List V):bsz P e len parts (some z)=if (parts.all fun p=>BD p.2)=true/\z.length=P.cellsOf e/\0<P.cellsOf e/\len*P.cellsOf e<=2 ^ 24 then
   ch1 (P.cellsOf e) len (C4 (fun i=>some (i*P.cellsOf e,P.cellsOf e)) (br len z).flatten parts) else none:=rfl
def bsl(P:cd)(len:Nat)(parts:List (Nat×V)):Option (Option Nat×cx)->Option V
 |some (none,e)=>bsz P e len parts (B8 P e)
 |_=>none
@[simp] theorem A88(e:cx)(len:Nat)(parts:List (Nat×V)):bsl P len parts (some (none,e))=bsz P e len parts (B8 P e):=rfl
@[simp] theorem BDD(T:cx)(len:Nat)(parts:List (Nat×V)):B9 P T len parts=bsl P len parts (BR P T):=by
 unfold B9 bsl;cases BR P T with
 |none=>rfl
 |some z=>
  obtain⟨n,e⟩:=z
  cases n with
  |some n=>rfl
  |none=>
   simp only[bsz]
   cases B8 P e with
   |none=>rfl
   |some z=>
    simp only
    split
    ·cases C4 (fun i=>some (i*P.cellsOf e,P.cellsOf e)) (br len z).flatten parts<;>rfl
    ·rfl
def fn2(f:cp):Option (List V)->Option (List V)->Option V
 |some a,some b=>some (.fn f a b)
 |_,_=>none
@[simp] theorem A89(f:cp)(a b:List V):fn2 f (some a) (some b)=some (.fn f a b):=rfl
@[simp] theorem BHS(f:cp)(x y:Array cz)(r:cz->Option V):JG P (oO (.makeFunc (.func f) x y)) s r=fn2 f (EL r x.toList) (EL r y.toList):=by show((x.toList.mapM r).bind fun a=>(y.toList.mapM r).bind fun b=>some (V.fn f a b))=_;rw[<-KW,<-KW];cases EL r x.toList<;>cases EL r y.toList<;>rfl
@[simp] theorem BDF(x y:cz)(Ts:Array cx)(r:cz->Option V):JG P (oO (.call ⟨.builtin .max,#[x,y],Ts⟩)) s r=o2 SA (r x) (r y):=XK _ _ _
@[simp] theorem BDG(x y:cz)(Ts:Array cx)(r:cz->Option V):JG P (oO (.call ⟨.builtin .min,#[x,y],Ts⟩)) s r=o2 SB (r x) (r y):=XK _ _ _
@[simp] theorem A1G(k j:cr)(m n:Int):SA (.int k m) (.int j n)=if k=j then some (.int k (if n>m then n else m)) else none:=rfl
@[simp] theorem A1H(k j:cr)(m n:Int):SB (.int k m) (.int j n)=if k=j then some (.int k (if n<m then n else m)) else none:=rfl
theorem CQ{e:cx}{n:Nat}{ys:List (List V)}(hc:0<P.cellsOf e)(hz:cB P e=true):CD P e n ys=true↔(ys.all (fun y=>y.length==P.cellsOf e)=true/\n+ys.length<=maxLen/\(n+ys.length)*P.bytesOf e<=140737488355328):=by simp[CD,hc,hz,and_assoc]
end Go.Pg
namespace Go.Pg
variable {P:cd}{E:XE}{st:XS}{fr:Fr}{s:St}
theorem AO{P:cd}{kn:CF0}{rec:F6}{f:cp}{args:List V}(h:kn f args=none):AW P kn rec f args=ES P rec f args:=by unfold AW;rw[h]
def pv(k γ:Nat):List (List V)->V
 |[]=>.nil
 |e::es=>.vec 0 k γ (e::es).length
def pl(k γ:Nat)(T:cx):List (List V)->AA
 |[]=>[]
 |e::es=>[(k,γ,.vec T (e::es))]
def sl:List (List V)->V
 |[]=>.nil
 |e::es=>.list false (e::es)
@[simp] theorem LD(k γ:Nat):pv k γ []=.nil:=rfl
@[simp] theorem HZ(k γ:Nat)(T:cx):pl k γ T []=[]:=rfl
@[simp] theorem FJ(k γ:Nat)(T:cx)(es:List (List V))(y:List V)(ys:List (List V)):pl k γ T (es++y::ys)=[(k,γ,.vec T (es++y::ys))]:=by cases es<;>rfl
@[simp] theorem xQ(k γ:Nat)(T:cx)(y:List V)(ys:List (List V)):pl k γ T (y::ys)=[(k,γ,.vec T (y::ys))]:=rfl
@[simp] theorem BK7(k γ:Nat)(T:cx)(es:List (List V)):kl k [] ((pl k γ T es).get k)=pl k γ T es:=by
 cases es with
 |nil=>rfl
 |cons e es=>simp
@[simp] theorem A9A{k j:Nat}(γ:Nat)(T:cx)(es:List (List V))(h:j≠k):(pl k γ T es).get j=none:=by
 cases es with
 |nil=>rfl
 |cons e es=>simp[h]
@[simp] theorem AV8(e k c γ:Nat)(loc:AA)(es:List (List V))(y:List V)(ys:List (List V))(hl:AA.get loc k=(pl k γ e es).get k)(h1:es.all (fun y=>y.length==P.cellsOf e)=true)(h2:CD P e es.length (y::ys)=true) :
  rH P e k c fr ⟨[],loc⟩ (pv k γ es) (y::ys)=some ⟨c+1,(k,true,pv k c (es++y::ys))::fr,⟨[],(k,c,.vec e (es++y::ys))::loc⟩⟩:=by
 cases es with
 |nil=>
  simp only[bq]at h2
  simp[h2,pv]
 |cons z es=>
  have hl:AA.get loc k=some (γ,.vec e (z::es)):=by rw[hl];simp
  simp only[pv,jG,jH,bq,if_true,hl,TF,LN,L8,true_and,h1,h2]
  simp[Nat.add_comm,Nat.add_left_comm]
theorem UY{T:cx}(f:Nat)(loc:AA)(k γ:Nat)(es:List (List V))(hl:AA.get loc k=(pl k γ T es).get k):A4 ⟨[],loc⟩ (f+1) (pv k γ es)=some (sl es):=by
 cases es with
 |nil=>rfl
 |cons z es=>
  have hl:AA.get loc k=some (γ,.vec T (z::es)):=by rw[hl];simp
  simp only[pv,uN,bq,if_true,hl,AHT,sl]
  simp
@[simp] theorem A1I(f k γ:Nat)(T:cx)(es:List (List V)):A4 ⟨[],pl k γ T es⟩ (f+1) (pv k γ es)=some (sl es):=UY (T:=T) f _ k γ es rfl
@[simp] theorem A9B{T:cx}(h:DQ P T=true)(es:List (List V)):GV P T (sl es)=some (.int .i64 es.length):=by
 cases es with
 |nil=>exact ABE h
 |cons e es=>exact uP h _ _
@[simp] theorem BK8(e:cx)(es:List (List V))(k:cr)(j:Int):ia P s (sl es) (.int k j) (some (none,e))=if 0<=j/\j<es.length/\(es.getD j.toNat []).length=P.cellsOf e/\0<P.cellsOf e then some (.ref (es.getD j.toNat [])) else none:=by
 cases es with
 |nil=>
  rw[if_neg (by simp only[bq];omega)]
  rfl
 |cons z es=>rfl
@[simp] theorem A1J(f:Nat)(es:List (List V)):AK (f+1) (sl es)=es.all fun e=>e.all (AK f):=by cases es<;>rfl
@[simp] theorem A9C(es:List (List V)):weakN (sl es)=.list false es:=by cases es<;>rfl
@[simp] theorem A9D(es:List (List V)):weakM (sl es)=.list false es:=by cases es<;>rfl
@[simp] theorem BDH(es:List (List V)):weakV (sl es)=sl es:=by cases es<;>rfl
@[simp] theorem A9E(es:List (List V)):weakC (sl es)=sl es:=by cases es<;>rfl
@[simp] theorem A1K(es:List (List V)):BA (sl es)=[sl es]:=by cases es<;>rfl
@[simp] theorem A1L(es:List (List V)):BD (sl es)=true:=by cases es<;>rfl
@[simp] theorem A1M(k γ:Nat)(es:List (List V)):BA (pv k γ es)=[pv k γ es]:=by cases es<;>rfl
@[simp] theorem A1N(k γ:Nat)(es:List (List V)):BD (pv k γ es)=true:=by cases es<;>rfl
@[simp] theorem AV9(es:List (List V)):elemsOf s (sl es)=some es:=by cases es<;>rfl
@[simp] theorem A1O(f:Nat)(es:List (List V)):A4 s (f+1) (sl es)=some (sl es):=by cases es<;>rfl
@[simp] theorem A1P(es:List (List V)):EN (some (sl es))=[]:=by cases es<;>rfl
@[simp] theorem A1Q(es:List (List V)):KF (some (sl es))=[]:=by cases es<;>rfl
def adV(P:cd)(e:cx)(d c:Nat)(fr:Fr)(s:St)(xv:V)(ys:List (List V)):Option (XS×AN):=match JH xv ys with
 |some es=>if es.all (fun y=>y.length==P.cellsOf e)=true/\CD P e es.length ys=true then some (⟨c+1,(d,true,.vec s.up.length d c (es.length+ys.length))::fr,s.put s.up.length d c (.vec e (es++ys))⟩,[(s.up.length,d),(s.up.length,d+P8)]) else none
 |none=>match xv with
  |.vec l q γ n=>wp [(l,q),(l,q+P8)] (apW P e d c fr s l q γ n ys (Q5 n ys (s.get l q)))
  |_=>none
def ad4(P:cd)(e:cx)(d c:Nat)(fr:Fr)(s:St)(xv:V):Option (List (List V))->Option (XS×AN)
 |some ys=>adV P e d c fr s xv ys
 |none=>none
@[simp] theorem AHW(e:cx)(d c:Nat)(xv:V)(ys:List (List V)):ad4 P e d c fr s xv (some ys)=adV P e d c fr s xv ys:=rfl
def ad3(P:cd)(d c:Nat)(fr:Fr)(s:St):Option (Option Nat×cx)->Option V->Option V->Option (XS×AN)
 |some (none,e),some xv,some yv=>ad4 P e d c fr s xv (elemsOf s yv)
 |_,_,_=>none
@[simp] theorem AHX(d c:Nat)(e:cx)(xv yv:V):ad3 P d c fr s (some (none,e)) (some xv) (some yv)=ad4 P e d c fr s xv (elemsOf s yv):=rfl
@[simp] theorem AP6(b:Bool)(es:List (List V)):sI (.list b es)=some es:=rfl
@[simp] theorem AWA:sI .nil=some []:=rfl
@[simp] theorem A1R(es:List (List V)):sI (sl es)=some es:=by cases es<;>rfl
@[simp] theorem A1S(d:Tmp)(c:Nat)(x y:cz)(T:cx):CV P E (some d) (.app [x,y] [T,T]) ⟨c,fr,s⟩=ad3 P d c fr s (BR P T) (B5 fr x) (B5 fr y):=by
 show xAppD P (some d) [x,y] [T,T] _=_;unfold xAppD xAppG;simp only[bt];cases hT:BR P T with
 |none=>cases B5 fr x<;>cases B5 fr y<;>rfl
 |some p=>
  obtain⟨k,e⟩:=p
  cases k with
  |some k=>cases B5 fr x<;>cases B5 fr y<;>rfl
  |none=>
   cases B5 fr x with
   |none=>rfl
   |some xv=>
    cases B5 fr y with
    |none=>rfl
    |some yv=>
     simp only[AHX]
     cases elemsOf s yv with
     |none=>rfl
     |some ys=>
      simp only[AHW,adV]
      cases JH xv ys with
      |some es=>
       simp only[ifB,bj,bw]
       by_cases hC:es.all (fun y=>y.length==P.cellsOf e)=true/\CD P e es.length ys=true
       ·rw[if_pos hC,if_pos hC]
       ·rw[if_neg hC,if_neg hC]
      |none=>
       simp only
       unfold nD
       cases xv with
       |vec l q γ n=>
        simp only
        cases Q5 n ys (s.get l q)with
        |none=>rfl
        |some z=>
         obtain⟨γ',r⟩:=z
         cases r with
         |vec W es=>
          simp only[ifB,bj,bw,L8,cj,and_assoc]
          by_cases hC:γ'=γ/\W=e/\n=es.length/\es.all (fun y=>y.length==P.cellsOf e)=true/\CD P e es.length ys=true
          ·rw[if_pos hC,if_pos hC];rfl
          ·rw[if_neg hC,if_neg hC];rfl
         |_=>rfl
       |_=>rfl
@[simp] theorem BHU(e k c γ:Nat)(loc:AA)(es:List (List V))(y:List V)(ys:List (List V))(hl:AA.get loc k=(pl k γ e es).get k)(h1:es.all (fun y=>y.length==P.cellsOf e)=true)(h2:CD P e es.length (y::ys)=true) :
  adV P e k c fr ⟨[],loc⟩ (pv k γ es) (y::ys)=some (⟨c+1,(k,true,pv k c (es++y::ys))::fr,⟨[],(k,c,.vec e (es++y::ys))::loc⟩⟩,[(0,k),(0,k+P8)]):=by
 cases es with
 |nil=>
  simp only[bq]at h2
  simp[adV,JH,h2,pv]
 |cons z es=>
  have hl:AA.get loc k=some (γ,.vec e (z::es)):=by rw[hl];simp
  simp only[pv,adV,JH,jH,bq,if_true,hl,TF,LN,L8,true_and,h1,h2]
  simp[Nat.add_comm,Nat.add_left_comm]
end Go.Pg
namespace Go.Pg
variable {P:cd}{E:XE}{st:XS}{fr:Fr}{s:St}
theorem uQ{α:Type}(x:α):CW [x]=some ([],x):=rfl
def un1{α:Type}(x:α):Option (List α×α)->Option (List α×α)
 |some (a,b)=>some (x::a,b)
 |none=>none
@[simp] theorem A9F{α:Type}(x:α)(a:List α)(b:α):un1 x (some (a,b))=some (x::a,b):=rfl
theorem VX{α:Type}(x y:α)(l:List α):CW (x::y::l)=un1 x (CW (y::l)):=by simp only[CW];unfold un1;cases CW (y::l)<;>rfl
attribute [simp] uQ VX
def pA(d:Option Tmp)(fr:Fr)(c:Nat)(r:V):Option (List AA×AA)->Option XS
 |some (u,l)=>some ⟨c,putD fr d true r,⟨u,l⟩⟩
 |none=>none
@[simp] theorem A1T(d:Tmp)(c:Nat)(r:V)(u:List AA)(l:AA):pA (some d) fr c r (some (u,l))=some ⟨c,(d,true,r)::fr,⟨u,l⟩⟩:=rfl
@[simp] theorem BDI(c:Nat)(r:V)(u:List AA)(l:AA):pA none fr c r (some (u,l))=some ⟨c,fr,⟨u,l⟩⟩:=rfl
def pB(d:Option Tmp)(fr:Fr)(st:XS):Option V->Option XS
 |some r=>pA d fr st.c r (CW (st.s.up.map (AQ st.s)))
 |none=>none
@[simp] theorem A1U(d:Option Tmp)(c:Nat)(fr':Fr)(up:List AA)(loc:AA)(r:V):pB d fr ⟨c,fr',⟨up,loc⟩⟩ (some r)=pA d fr c r (CW (up.map (AQ ⟨up,loc⟩))):=rfl
def clX(s:St):Option V->Option V
 |some r=>A4 s 4 r
 |none=>none
@[simp] theorem A9G(r:V):clX s (some r)=A4 s 4 r:=rfl
def jI(P:cd)(d:Option Tmp)(fr:Fr)(rs:List ResultVar)(r:Option (Exit×XS)):Option XS:=match r with
 |some (.ret,st)=>pB d fr st (clX st.s (F5 P rs st.fr st.s))
 |some (.normal,st)=>pB d fr st (clX st.s (F5 P rs st.fr st.s))
 |_=>none
@[simp] theorem AHY(d:Option Tmp)(rs:List ResultVar):jI P d fr rs (some (.ret,st))=pB d fr st (clX st.s (F5 P rs st.fr st.s)):=rfl
@[simp] theorem pC(d:Option Tmp)(rs:List ResultVar):jI P d fr rs (some (.normal,st))=pB d fr st (clX st.s (F5 P rs st.fr st.s)):=rfl
theorem pD{A:Ann}{kn:CF0}{n:Nat}{f:cp}{fn:Func}{code:cm}{args:List V}(hf:P.funcs[f]? = some fn)(hb:fn.body=some code)(hs:cq args.length fn.ntmps=true)(hcl:(args.all (AK 9)&&!(BE P f))=false)(d:Option Tmp)(c:Nat)(fr:Fr)(up:List AA)(loc:AA) :
  K3 (BX P A kn n) d ⟨c,fr,⟨up,loc⟩⟩ f args=jI P d fr fn.results.toList (AH P A kn n fn.ntmps code ⟨c,AJ 0 args,⟨up++[loc],[]⟩⟩):=by
 show(match VS P kn (AH P A kn n) f args ⟨c,fr,⟨up,loc⟩⟩ with
  |some (r,st')=>some (⟨st'.c,putD st'.fr d true r,st'.s⟩:XS)
  | none=>none)=_
 unfold VS
 rw[hcl]
 unfold eE VR nL
 rw[hf]
 simp only[hb,hs]
 generalize AH P A kn n fn.ntmps code ⟨c,AJ 0 args,⟨up++[loc],[]⟩⟩=q
 have aux:∀st:XS,(match(match(match AAL P fn.results.toList st with
   |some (r,c,up)=>match CW up with
    |some (u,l)=>some (r,(⟨c,fr,⟨u,l⟩⟩:XS))
    |none=>none
   | none=>none:Option (V×XS))with
   |some r=>some r
   | none=>none:Option (V×XS))with
  |some (r,st')=>some (⟨st'.c,putD st'.fr d true r,st'.s⟩:XS)
  | none=>none)=pB d fr st (clX st.s (F5 P fn.results.toList st.fr st.s)):=fun st=>by
  unfold AAL clX
  cases F5 P fn.results.toList st.fr st.s with
  |none=>rfl
  |some r=>
   cases h:A4 st.s 4 r with
   |none=>simp[pB,h]
   |some r'=>
    simp only[h,pB]
    cases CW (st.s.up.map (AQ st.s))with
    |none=>rfl
    |some z=>rfl
 cases q with
 |none=>rfl
 |some q=>
  obtain⟨e,st⟩:=q
  have:=aux st
  cases e with
  |ret=>simp only[AHY,<-this];cases AAL P fn.results.toList st with
   |none=>rfl
   |some z=>
    obtain⟨r,c,up⟩:=z
    simp only
    cases CW up<;>rfl
  |normal=>simp only[pC,<-this];cases AAL P fn.results.toList st with
   |none=>rfl
   |some z=>
    obtain⟨r,c,up⟩:=z
    simp only
    cases CW up<;>rfl
  |_=>rfl
theorem BP{A:Ann}{kn:CF0}{n:Nat}{f:cp}{fn:Func}{code:cm}{args:List V}(hf:P.funcs[f]? = some fn)(hb:fn.body=some code)(hs:cq args.length fn.ntmps=true)(hcl:args.all (AK 9)=false)(d:Option Tmp)(c:Nat)(fr:Fr)(up:List AA)(loc:AA) :
  K3 (BX P A kn n) d ⟨c,fr,⟨up,loc⟩⟩ f args=jI P d fr fn.results.toList (AH P A kn n fn.ntmps code ⟨c,AJ 0 args,⟨up++[loc],[]⟩⟩) :=
 pD hf hb hs (by rw[hcl,Bool.false_and]) d c fr up loc
theorem jJ{A:Ann}{kn:CF0}{n:Nat}{f:cp}{fn:Func}{code:cm}{args:List V}(hf:P.funcs[f]? = some fn)(hb:fn.body=some code)(hs:cq args.length fn.ntmps=true)(hh:BE P f=true)(d:Option Tmp)(c:Nat)(fr:Fr)(up:List AA)(loc:AA) :
  K3 (BX P A kn n) d ⟨c,fr,⟨up,loc⟩⟩ f args=jI P d fr fn.results.toList (AH P A kn n fn.ntmps code ⟨c,AJ 0 args,⟨up++[loc],[]⟩⟩) :=
 pD hf hb hs (by rw[hh,Bool.not_true,Bool.and_false]) d c fr up loc
@[simp] theorem AWC(f l k g o:Nat):AK (f+1) (.ptr l k g o)=false:=rfl
@[simp] theorem AWD(f l k g o:Nat):AK (f+1) (.vec l k g o)=false:=rfl
@[simp] theorem A1V(f l k g:Nat):AK (f+1) (.mp l k g)=false:=rfl
@[simp] theorem A9H(l k g o:Nat):weakV (.ptr l k g o)=.ptr l k g o:=rfl
@[simp] theorem A9I(l k g o:Nat):weakV (.vec l k g o)=.vec l k g o:=rfl
@[simp] theorem A9J(cs:List V):weakV (.ref cs)=.ref cs:=rfl
@[simp] theorem BHW(d c:Nat)(f:cp)(x y:List V):bx1 d c fr s (some (.fn f x y))=some ⟨c+1,(d,true,.ptr s.up.length d c 0)::fr,s.put s.up.length d c (.box [.fn f x y])⟩:=rfl
@[simp] theorem BDJ(d c:Nat)(l k g o:Nat):bx1 d c fr s (some (.ptr l k g o))=some ⟨c+1,(d,true,.ptr s.up.length d c 0)::fr,s.put s.up.length d c (.box [.ptr l k g o])⟩:=rfl
@[simp] theorem BHX(d c:Nat)(es:List (List V)):bx1 d c fr s (some (sl es))=some ⟨c+1,(d,true,.ptr s.up.length d c 0)::fr,s.put s.up.length d c (.box [sl es])⟩:=by cases es<;>rfl
@[simp] theorem KJ:AQ s []=[]:=rfl
@[simp] theorem BJ(k g:Nat)(r:A6)(L:AA):AQ s ((k,g,r)::L)=(k,g,BU s r)::AQ s L:=rfl
def sr1(r:A6):Option (List V)->A6
 |some ds=>.box ds
 |none=>r
@[simp] theorem A9K(r:A6)(ds:List V):sr1 r (some ds)=.box ds:=rfl
theorem pE(cs:List V):BU s (.box cs)=sr1 (.box cs) (G6 (B4 s) cs):=by unfold BU BW sr1;simp only;cases G6 (B4 s) cs<;>rfl
attribute [simp] pE
theorem uR(f:V->Option V):G6 f []=some []:=rfl
theorem pF(f:V->Option V)(v:V)(l:List V):G6 f (v::l)=mc2 (f v) (G6 f l):=by
 simp only[G6];cases f v with
 |none=>rfl
 |some x=>cases G6 f l<;>rfl
attribute [simp] uR pF
@[simp] theorem AP7(k:cr)(n:Int):B4 s (.int k n)=some (.int k n):=rfl
@[simp] theorem AMC(b:Bool):B4 s (.bool b)=some (.bool b):=rfl
@[simp] theorem AMD(b:Bool)(es:List (List V)):B4 s (.list b es)=some (.list b es):=rfl
@[simp] theorem AP8:B4 s .nil=some .nil:=rfl
@[simp] theorem AWE(es:List (List V)):B4 s (sl es)=some (sl es):=by cases es<;>rfl
@[simp] theorem AWF(f:cp)(x y:List V):B4 s (.fn f x y)=A4 s 4 (.fn f x y):=rfl
@[simp] theorem AP9(l k g o:Nat):B4 s (.ptr l k g o)=A4 s 4 (.ptr l k g o):=rfl
@[simp] theorem AQA(l k g o:Nat):B4 s (.vec l k g o)=A4 s 4 (.vec l k g o):=rfl
@[simp] theorem AQB(cs:List V):B4 s (.agg cs)=A4 s 4 (.agg cs):=rfl
@[simp] theorem A1W(f:Nat)(g:cp)(x y:List V):A4 s (f+1) (.fn g x y)=fn2 g (QC (A4 s f) x) (QC (A4 s f) y):=by simp only[A4,TG,fn2];cases QC (A4 s f) x<;>cases QC (A4 s f) y<;>rfl
def cp1(f:List V->Option (List V))(g off:Nat):Option (Nat×A6)->Option V
 |some (g',.box cs)=>if g'=g then(f cs).map fun ds=>.ref (ds.drop off) else none
 |_=>none
@[simp] theorem AWG(f:Nat)(up:List AA)(loc:AA)(l k g off:Nat):A4 ⟨up,loc⟩ (f+1) (.ptr l k g off)=if l=up.length then cp1 (QC (A4 ⟨up,loc⟩ f)) g off (loc.get k) else some (.ptr l k g off):=by
 simp only[A4,TG];split
 ·cases loc.get k with
  |none=>rfl
  |some z=>obtain⟨g',r⟩:=z;cases r<;>rfl
 ·rfl
def ow3(d c:Nat)(fr:Fr)(s:St):Option V->Option XS
 |some r=>some ⟨c+1,(d,true,r)::fr,s.put s.up.length d c .dead⟩
 |none=>none
@[simp] theorem pG(d c:Nat)(r:V):ow3 d c fr s (some r)=some ⟨c+1,(d,true,r)::fr,s.put s.up.length d c .dead⟩:=rfl
theorem aL{A:Ann}{kn:CF0}{n:Nat}{f:cp}{d c:Nat}{fr:Fr}{s:St}{x:cz}{args:List cz}{first cap vs:List V}{r:V}(hf:B5 fr x=some (.fn f first cap))(hv:EL (B5 fr) args=some vs)(hS:II P f=false)(hr:AK 9 r=true)(h:E5 P kn (AH P A kn n) f ((first++vs++cap).map weakV)=some r) :
  stepK P (BX P A kn n) (some d) (.call true none x args) ⟨c,fr,s⟩=ow3 d c fr s (some r):=by
 show QM (BX P A kn n) true (some d) x args ⟨c,fr,s⟩=_
 unfold QM
 show(match E3 (BX P A kn n).co (some d) x args ⟨c,fr,s⟩ with|some st'=>some st'|none=>_)=_
 unfold E3
 simp only[hf,hv]
 have:(BX P A kn n).co f ((first++vs++cap).map weakV) d=some ⟨.dead,some r⟩:=by show JB P kn (fun _ _ _=>none) (AH P A kn n) f _ d=_;unfold JB;simp only[hS,h]
 rw[this]
 simp only[Mk.val,B7 9 r hr,pG]
theorem AME:BU s .dead=.dead:=rfl
attribute [simp] AME
end Go.Pg
theorem Go.Pg.qNz (m:Nat)(h:0<m):∃k,m=k+1:=⟨m-1,by omega⟩
