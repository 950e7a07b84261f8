/- Operations of a region with all that hangs on the region alone worked out; running them one after another. No program in sight. -/
import Derived.Test.YtanlhbmliegjeaaGreatQ2
noncomputable section
open Go renaming TypeId->ck,Operand->cq,Program->cw,Oper->cx,Code->cz,IntKind->cd,FuncId->cg
open Bool renaming and_eq_true->bj
open List renaming length_nil->bk,length_append->bq,getElem?_eq_getElem->bx,mapM_cons->bz,all_cons->bf,replicate->bg,mapM_nil->bn
open Nat renaming beq->bw,eq_of_beq_eq_true->bb,beq_refl->bc,blt_eq->bh,beq_eq->bm,ble->bp,blt->cj
namespace Go.Pg
variable {P:cw}{E:XE}
inductive IK where
 |mv (x:cq)
 |bin (op:BinOp) (T:ck) (x y:cq)
 |fa (T:ck) (x:cq) (f:Nat)
 |ld (T:ck) (x:cq)
 |ldz (T:ck) (x:cq)
 |pick (c a b:cq)
 |build (T:ck) (ps:List (Nat×cq))
 |buildS (T:ck) (n:Nat) (ps:List (Nat×cq))
 |oth (op:Op)
 |alloc (T:ck)
 |box (x:cq)
 |mkM (r:Option cq)
 |mkS (T:ck) (x y:cq)
 |sto (T:ck) (x y:cq)
 |upd (T:ck) (x i y:cq)
 |call (own:Bool) (tk:Option Tmp) (f:cq) (args:List cq)
 |app (args:List cq) (Ts:List ck)
 |appS (args:List cq) (Ts:List ck)
 |clr (args:List cq) (Ts:List ck)
 |cpy (args:List cq) (Ts:List ck)
def cQ (op : Op) : cx := { dst := none, op := op, type := 0, pos := "", after := #[], guard := none }
def AE7(all:List cx):List cq->Option Tmp
 |[]=>none
 |x::r=>match x with
  |.tmp t=>cond (AIQ all t) (some t) (AE7 all r)
  |_=>AE7 all r
def NL(all:List cx)(o:cx):IK:=match o.op with
 |.move x=>.mv x
 |.assign x=>.mv x
 |.binOp op T x y _=>.bin op T x y
 |.fieldAddr T x f=>.fa T x f
 |.load T x=>.ld T x
 |.pick c a b=>.pick c a b
 |.build T ps=>.build T ps.toList
 |.buildSlice T n ps=>.buildS T n ps.toList
 |.alloc T=>.alloc T
 |.box _ x=>.box x
 |.makeMap _ r=>.mkM r
 |.makeSlice T x y=>.mkS T x y
 |.store T x y=>.sto T x y
 |.mapUpdate T x i y=>.upd T x i y
 |.call c=>match c.callee with
  |.value f=>.call (DR all o) (AE7 all c.args.toList) f c.args.toList
  |.builtin .append=>cond (sealD o.dst) (.appS c.args.toList c.argTypes.toList) (.app c.args.toList c.argTypes.toList)
  |.builtin .clear=>.clr c.args.toList c.argTypes.toList
  |.builtin .copy=>.cpy c.args.toList c.argTypes.toList
  |_=>.oth o.op
 |op=>.oth op
structure I9 where
 g:Option (Tmp×Bool)
 d:Option Tmp
 k:IK
def comp(all:List cx)(o:cx):I9:=⟨K6 all o,o.dst,NL all o⟩
def AE8:IK->IK
 |.ld T x=>.ldz T x
 |k=>k
def eT(all:List cx)(o:cx):I9:=⟨K6 all o,o.dst,cond (zB all o) (AE8 (NL all o)) (NL all o)⟩
def DT(d:Option Tmp)(st:XS)(r:Option V):Option XS:=match r with
 |some v=>some ⟨st.c,putD st.fr d true v,st.s⟩
 |none=>none
def S4(tk:Option Tmp)(st:XS):XS:=match tk with
 |none=>st
 | some t=>match(match BQ st.fr t with
   |some (true,.vec l q γ n)=>match st.s.get l q with
    |some (γ',.vec _ es)=>Bool.rec none (some ⟨st.c,(t,true,.list false (es.take n))::st.fr,st.s.put l q γ .dead⟩) (bw γ' γ&&bp n es.length&&cj γ st.c)
    |_=>none
   | _=>none:Option XS)with
  |some st1=>st1
  |none=>st
def S5(P:cw)(args:List cq)(Ts:List ck)(fr:Fr):Option V:=match args,Ts with
 | [x,y],[T,U]=>cond (bw T U) (match CH fr x,CH fr y with
  |some xv,some yv=>J5 P T xv yv
  | _,_=>none) none
 |_,_=>none
theorem vY{o:cx}{args:Array cq}{Ts:Array ck}{fr:Fr}(h:sealD o.dst=true):appS P true o args Ts fr=S5 P args.toList Ts.toList fr:=by
 unfold appS S5;split
 ·rename_i x y T U hx hT;simp only[hx,hT,h,true_and,<-D3];by_cases e:T=U
  ·subst e;rw[if_pos rfl,bc];cases CH fr x with
   |none=>rfl
   |some xv=>cases CH fr y<;>rfl
  ·rw[if_neg e];cases hb:bw T U with
   |true=>exact absurd (bb hb) e
   |false=>rfl
 ·rename_i hn;split
  ·rename_i x y T U hx hT;exact(hn x y T U hx hT).elim
  ·rfl
def stepK(P:cw)(E:XE)(d:Option Tmp)(k:IK)(st:XS):Option XS:=match k with
 |.mv x=>DT d st (CH st.fr x)
 |.bin op T x y=>DT d st (yZ P st.fr op T x y)
 |.fa T x f=>DT d st (xFA P st.fr T x f)
 |.ld T x=>DT d st (NJ P st.fr st.s T x)
 |.ldz T x=>DT d st (NJ P st.fr st.s T x)
 |.pick c a b=>DT d st (uV st.fr c a b)
 |.build T ps=>DT d st (UI P st.fr T ps)
 |.buildS T n ps=>DT d st (PF P st.fr T n ps)
 |.oth op=>DT d st (IA P (cQ op) st.s (CH st.fr))
 |.alloc T=>OK P d T st
 |.box x=>mJ d x st
 |.mkM r=>yV d r st
 |.mkS T x y=>VU P d T x y st
 |.sto T x y=>JH P d T x y st
 |.upd T x i y=>yW P d T x i y st
 |.call own tk f args=>Z5 E own d f args (S4 tk st)
 |.app args Ts=>xAppend P d args Ts st
 |.appS args Ts=>DT d st (S5 P args Ts st.fr)
 |.clr args Ts=>gK P d args Ts st
 |.cpy args Ts=>uX P d args Ts st
def opI(P:cw)(E:XE)(i:I9)(st:XS):Option XS:=match gdX st.fr i.g with
 |some true=>stepK P E i.d i.k st
 |some false=>some (H0 i.d st)
 |none=>none
def opO(P:cw)(E:XE)(i:I9)(r:Option XS):Option XS:=match r with
 |some st=>opI P E i st
 |none=>none
def OV(P:cw)(E:XE):List I9->Option XS->Option XS
 |[],r=>r
 |i::l,r=>OV P E l (opO P E i r)
theorem aZ(all:List cx)(st:XS):∀(xs:List cq),(match M6 all st xs with
  |some st1=>st1
  | none=>st)=S4 (AE7 all xs) st
 |[]=>rfl
 |x::r=>by
  unfold M6 AE7;cases x with
  |tmp t=>
   simp only
   cases AIQ all t with
   |false=>exact aZ all st r
   |true=>rfl
  |_=>exact aZ all st r
theorem A3N{o:cx}{st:XS}:ADJ P (fun _=>false) o st=none:=by unfold ADJ;split<;>rfl
theorem AE9(hl:E.lit=fun _=>false)(all:List cx)(o:cx)(st:XS):opX P E all o st=opI P E (comp all o) st:=by
  unfold opX opI;rw[hl];simp only[A3N];have:(match ADK all o st with
      |some st1=>P8 P E (DR all) o st1
      | none=>P8 P E (DR all) o st)=stepK P E o.dst (NL all o) st:=by
    have ht:∀(r:Option XS),(match r with
      |some st1=>P8 P E (DR all) o st1
      | none=>P8 P E (DR all) o st)=P8 P E (DR all) o (match r with
      |some st1=>st1
      | none=>st):=fun r=>by cases r <;> rfl
    rw[ht]
    obtain⟨d,op,T,pos,af,gd⟩:=o
    cases op with
    |call c=>
      obtain⟨cal,args,Ts⟩:=c
      cases cal with
      |value f=>
        show P8 P E _ _ (match M6 all st args.toList with|some st1=>st1|none=>st)=_
        rw[aZ]
        rfl
      |builtin b=>
        cases b<;>first
          |rfl
          | (show(Bool.rec (xAppend P d args.toList Ts.toList st) (xVal P _ st) (sealD d):Option XS)=stepK P E d (cond (sealD d) (.appS args.toList Ts.toList) (.app args.toList Ts.toList)) st
             cases hs:sealD d with
             |false=>rfl
             |true=>
               show xVal P _ st=DT d st (S5 P args.toList Ts.toList st.fr)
               unfold xVal zA
               simp only
               rw[vY hs]
               rfl)
      |_=>rfl
    |_=>rfl
  show _=(match gdX st.fr (K6 all o)with
    |some true=>stepK P E o.dst (NL all o) st
    |some false=>some (H0 o.dst st)
    | none=>none)
  cases gdX st.fr (K6 all o)with
  |none=>rfl
  |some b=>
    cases b with
    |false=>rfl
    |true=>exact this
theorem IF:∀(l:List I9),OV P E l none=none
 |[]=>rfl
 |_::l=>IF l
theorem vZ(hl:E.lit=fun _=>false)(all:List cx):∀(l:List cx) (st:XS),gO P E all l st=OV P E (l.map (comp all)) (some st)
 |[],st=>rfl
 |o::l,st=>by
  simp only[gO,List.map_cons,OV,opO];rw[AE9 hl];cases opI P E (comp all o) st with
  |none=>exact(IF _).symm
  |some st'=>exact vZ hl all l st'
def GN(P:cw)(k:IK)(r:cq->Option V):AK:=match k with
 |.ld T x=>B8 (bw (P.cellsOf T) 1) (r x)
 |.app xs _=>ID r xs
 |.appS xs _=>ID r xs
 |.oth op=>EF P (cQ op) r
 |_=>[]
def DG(P:cw)(E:XE)(d:Option Tmp)(k:IK)(st:XS):Option (XS×AK):=match k with
 |.mv x=>noW (DT d st (CH st.fr x))
 |.bin op T x y=>noW (DT d st (yZ P st.fr op T x y))
 |.fa T x f=>noW (DT d st (xFA P st.fr T x f))
 |.ld T x=>noW (DT d st (NJ P st.fr st.s T x))
 |.ldz T x=>noW (DT d st (NJ P st.fr st.s T x))
 |.pick c a b=>noW (DT d st (uV st.fr c a b))
 |.build T ps=>noW (DT d st (UI P st.fr T ps))
 |.buildS T n ps=>noW (DT d st (PF P st.fr T n ps))
 |.oth op=>noW (DT d st (IA P (cQ op) st.s (CH st.fr)))
 |.alloc T=>noW (OK P d T st)
 |.box x=>noW (mJ d x st)
 |.mkM r=>noW (yV d r st)
 |.mkS T x y=>noW (VU P d T x y st)
 |.sto T x y=>ADM P d T x y st
 |.upd ..=>none
 |.call own _ f args=>Bool.rec (noW (Z6 E.c0 d f args st)) (noW (HQ E.co d f args st)) own
 |.app args Ts=>xAppD P d args Ts st
 |.appS args Ts=>noW (DT d st (S5 P args Ts st.fr))
 |.clr ..=>none
 |.cpy ..=>none
def ED:IK->Bool
 |.alloc _|.box _|.mkM _|.mkS ..|.sto ..|.app ..=>true
 |.call own ..=>own
 |_=>false
def UW(P:cw)(E:XE)(i:I9)(st:XS):Option (XS×AK):=match gdX st.fr i.g with
 |some true=>DG P E i.d i.k st
 |some false=>Bool.rec (some (H0 i.d st,[])) none (ED i.k)
 |none=>none
def nO(P:cw)(E:XE)(i:I9)(r:Option (XS×AK×AK)):Option (XS×AK×AK):=match r with
 |some (st,rd,wr)=>match UW P E i st with
  |some (st',w)=>some (st',GN P i.k (CH st.fr)++rd,w++wr)
  |none=>none
 |none=>none
def UY(P:cw)(E:XE):List I9->Option (XS×AK×AK)->Option (XS×AK×AK)
 |[],r=>r
 |i::l,r=>UY P E l (nO P E i r)
def bA(r:Option (XS×AK×AK)):Option XS:=match r with
 |some (st,rd,wr)=>Bool.rec none (some st) (wr.all fun p=>!(rd.contains p))
 |none=>none
structure nP where
 new:List Tmp
 ph:List I9
 sq:List I9
def iH(new:List Tmp)(st:XS):Bool:=new.all fun d=>(st.s.loc.get d).isNone
def AFA(new:List Tmp)(r:Option XS):Option (XS×AK×AK):=match r with
 |some st=>Bool.rec none (some (st,[],[])) (iH new st)
 |none=>none
def UZ(P:cw)(E:XE):List nP->Option XS->Option XS
 |[],r=>r
 |p::S,r=>UZ P E S (OV P E p.sq (bA (UY P E p.ph (AFA p.new r))))
def eU(l:List cx)(R:List Nat):List I9:=R.filterMap fun i=>(l[i]?).map (comp l)
def eV(l:List cx)(R:List Nat):List I9:=R.filterMap fun i=>(l[i]?).map (eT l)
def wA(l:List cx)(R:List Nat):List Tmp:=R.filterMap fun i=>match l[i]? with
 |some o=>cond (kA (DR l) o) o.dst none
 |none=>none
def wB(l:List cx)(p:List Nat×List Nat):nP:=⟨wA l p.1,eV l p.1,eU l p.2⟩
def inB(l:List cx)(S:V6):Bool:=S.all fun p=>p.1.all (fun i=>cj i l.length)&&p.2.all (fun i=>cj i l.length)
theorem AAA(all:List cx)(o:cx)(st:XS):gQ P E (DR all) o st=DG P E o.dst (NL all o) st:=by
  obtain⟨d,op,T,pos,af,gd⟩:=o;cases op with
  |call c=>
    obtain⟨cal,args,Ts⟩:=c
    cases cal with
    |builtin b=>
      cases b<;>first
        |rfl
        | (show(Bool.rec (xAppD P d args.toList Ts.toList st) (noW (xVal P _ st)) (sealD d):Option (XS×AK))=DG P E d (cond (sealD d) (.appS args.toList Ts.toList) (.app args.toList Ts.toList)) st
           cases hs:sealD d with
           |false=>rfl
           |true=>
             show noW (xVal P _ st)=noW (DT d st (S5 P args.toList Ts.toList st.fr))
             unfold xVal zA
             simp only
             rw[vY hs]
             rfl)
    |_=>rfl
  |_=>rfl
theorem AR6(all:List cx)(o:cx)(r:cq->Option V):EF P o r=GN P (NL all o) r:=by
  obtain⟨d,op,T,pos,af,gd⟩:=o;cases op with
  |call c=>
    obtain⟨cal,args,Ts⟩:=c
    cases cal with
    |builtin b=>
      cases b<;>first
        |rfl
        | (show ID r args.toList=GN P (cond (sealD d) (.appS args.toList Ts.toList) (.app args.toList Ts.toList)) r
           cases sealD d <;> rfl)
    |_=>rfl
  |_=>rfl
theorem A3O(all:List cx)(o:cx):(kA (DR all) o||kW o||kP o)=ED (NL all o):=by
  obtain⟨d,op,T,pos,af,gd⟩:=o;cases op with
  |call c=>
    obtain⟨cal,args,Ts⟩:=c
    cases cal with
    |builtin b=>
      cases b<;>first
        |rfl
        | (show(false||false||!sealD d)=ED (cond (sealD d) (.appS args.toList Ts.toList) (.app args.toList Ts.toList))
           cases sealD d <;> rfl)
    |value f=>simp[kA,kW,kP,ED,NL]
    |_=>rfl
  |_=>rfl
theorem AJO(all:List cx)(o:cx)(st:XS):rC P E all o st=UW P E (comp all o) st:=by unfold rC UW;rw[AAA,A3O];rfl
theorem sI(d:Option Tmp)(k:IK)(st:XS):DG P E d (AE8 k) st=DG P E d k st:=by cases k<;>rfl
theorem AJP(k:IK):ED (AE8 k)=ED k:=by cases k<;>rfl
theorem AR7(all:List cx)(o:cx)(st:XS):UW P E (eT all o) st=UW P E (comp all o) st:=by
 unfold eT comp;cases zB all o with
 |false=>rfl
 |true=>
  show UW P E ⟨K6 all o,o.dst,AE8 (NL all o)⟩ st=_
  unfold UW
  simp only[sI,AJP]
theorem AR8(all:List cx)(o:cx)(r:cq->Option V):cond (zB all o) [] (EF P o r)=GN P (eT all o).k r:=by
 unfold eT;cases hz:zB all o with
 |false=>exact AR6 all o r
 |true=>
  obtain⟨T,x,ho⟩:=AMU hz
  show[]=GN P (AE8 (NL all o)) r
  unfold NL
  rw[ho]
  rfl
theorem PJ:∀(l:List I9),UY P E l none=none
 |[]=>rfl
 |_::l=>PJ l
theorem AFB(l:List cx):∀(R:List Nat) (st:XS) (rd wr:AK),R.all (fun i=>cj i l.length)=true->phX P E l R st rd wr=UY P E (eV l R) (some (st,rd,wr))
 |[],st,rd,wr,_=>rfl
 |i::R,st,rd,wr,h=>by
  simp only[bf,bj,bh]at h;have hi:=bx h.1;have hp:eV l (i::R)=eT l l[i]::eV l R:=by simp[eV,hi]
  rw[hp];simp only[phX,hi,UY,nO,AJO,AR7];cases UW P E (comp l l[i]) st with
  |none=>exact(PJ _).symm
  |some q=>
   obtain⟨st',w⟩:=q
   simp only
   rw[AFB l R _ _ _ h.2,AR8 l]
theorem AFC(hl:E.lit=fun _=>false)(l:List cx):∀(R:List Nat) (st:XS),R.all (fun i=>cj i l.length)=true->sqX P E l R st=OV P E (eU l R) (some st)
 |[],st,_=>rfl
 |i::R,st,h=>by
  simp only[bf,bj,bh]at h;have hi:=bx h.1;have hp:eU l (i::R)=comp l l[i]::eU l R:=by simp[eU,hi]
  rw[hp];simp only[sqX,hi,OV,opO,AE9 hl];cases opI P E (comp l l[i]) st with
  |none=>exact(IF _).symm
  |some st'=>exact AFC hl l R st' h.2
theorem MA:∀(S:List nP),UZ P E S none=none
 |[]=>rfl
 |p::S=>by simp only[UZ,AFA,PJ,bA,IF];exact MA S
theorem nQ(l:List cx)(st:XS):∀(R:List Nat),ZV (DR l) l R st.s.loc=iH (wA l R) st
 |[]=>rfl
 |i::R=>by
  have ih:=nQ l st R;unfold ZV iH wA at *;simp only[bf,List.filterMap_cons,ih];cases hi:l[i]? with
  |none=>simp
  |some o=>
   simp only
   cases hk:kA (DR l) o with
   |false=>simp
   |true=>
    cases hd:o.dst with
    |none=>simp
    |some d=>simp
theorem wC(hl:E.lit=fun _=>false)(l:List cx):∀(S:V6) (st:XS),inB l S=true->zD P E l S st=UZ P E (S.map (wB l)) (some st)
 |[],st,_=>rfl
 |p::S,st,h=>by
  simp only[inB,bf,bj]at h;obtain⟨⟨h1,h2⟩,h3⟩:=h;simp only[zD,List.map_cons,UZ,wB,AFA,nQ];cases iH (wA l p.1) st with
  |false=>
   simp only[PJ,bA,IF]
   exact(MA _).symm
  |true=>
   simp only[AFB l _ _ _ _ h1]
   cases UY P E (eV l p.1) (some (st,[],[]))with
   |none=>simp only[bA,IF];exact(MA _).symm
   |some q=>
    obtain⟨st1,rd,wr⟩:=q
    simp only[bA]
    cases (wr.all fun p=>!rd.contains p)with
    |false=>simp only[IF];exact(MA _).symm
    |true=>
     simp only[AFC hl l _ _ h2]
     cases OV P E (eU l p.2) (some st1)with
     |none=>exact(MA _).symm
     |some G6=>exact wC hl l S G6 h3
inductive IR where
 |str (l:List I9)
 |drw (S:List nP)
 |cls (ks:List (Nat×Nat×Nat))
def wD(P:cw)(ops:List cx)(draw:Bool):IR:=cond draw (cond (V9 P ops) (.cls (IE ops)) (.drw ((cG ops).map (wB ops)))) (.str (ops.map (comp ops)))
def okR(P:cw)(ops:List cx)(draw:Bool):Bool:=cond draw (cond (V9 P ops) true (inB ops (cG ops))) true
def JI(P:cw)(E:XE)(i:IR)(st:XS):Option XS:=match i with
 |.str l=>OV P E l (some st)
 |.drw S=>UZ P E S (some st)
 |.cls ks=>Q0 P ks (some st)
end Go.Pg
namespace Go.Pg
variable {P:cw}{σ σ':Nat->Nat}{δ:Nat}{pre:List AA}{s:St}{fr:Fr}
abbrev Tr:=Option (List Nat×List Nat)
abbrev Ann:=Nat->Nat->Tr
def CI(a:Tr)(st:XS):XS:=match a with
 |some p=>QX p.1 p.2 st
 |none=>st
theorem MB{a:Tr}{st:XS}(h:Bd st):KM st (CI a st):=by
 cases a with
 |none=>exact⟨Nat.le_refl _,h,rfl⟩
 |some p=>exact SQ h
theorem IP{a:Tr}{st:XS}:(CI a st).c=st.c:=by cases a<;>rfl
theorem KI{n N:Nat}{ρ:Option Nat}{c:cz}{K:Exit->Fr->St->Prop}{a:Tr}{st:XS}(h:BE P n N ρ c K ((CI a st).fr.ren σ pre.length) ((CI a st).s.emb σ pre)):BE P n N ρ c K (st.fr.ren σ pre.length) (st.s.emb σ pre):=by
 cases a with
 |none=>exact h
 |some p=>exact UM h
def A3P(P:cw)(E:XE)(a:Tr)(l:List cx)(draw:Bool)(st:XS):Option XS:=Bool.rec (gO P E l l (CI a st)) (Bool.rec (QA P E l (CI a st)) (Q0 P (IE l) (some (CI a st))) (V9 P l)) draw
def isY:List Nat->Bool
 |k::_=>bw k 777
 |[]=>false
def AFD(P:cw)(E:XE)(N:Nat)(a:Tr)(l:List cx)(draw:Bool)(us:List Nat)(st:XS):Option XS:=Bool.rec (A3P P (cfU us E) a l draw st) (Bool.rec none (vP P E N l (CI a st)) draw) (isY us)
def BG(rec:bP)(body:cz)(a:Tr)(n:Nat):XS->Option (Exit×XS):=Nat.rec (motive:=fun _=>XS->Option (Exit×XS)) (fun _=>none) (fun _ ih st=>match rec body st with
 |some (.normal,st')=>ih (CI a st')
 | r=>r) n
def iI(id:Nat)(l:List cx):Nat:=id+1000*l.length+1000000*(match l with
 |o::_=>match o.dst with
  |some d=>d
  |none=>0
 | []=>0)
def BX:cz->Nat
 |.region id ops _=>iI id ops.toList
 |.seq a _=>BX a
 |.block _ c=>BX c
 |.loop c=>BX c
 |.scope c=>BX c
 |_=>0
def AAB:Tr->List Nat
 |some p=>p.1
 |none=>[]
def NM:Nat:=1000000000000000
def AAC:Tr->List Nat
 |some p=>p.2
 |none=>[]
def U0(P:cw)(E:XE)(A:Ann)(n N:Nat)(rec:bP):bP:=fun code st=>match code with
 |.region id ops draw=>OL (AFD P E N (A N (iI id ops.toList)) ops.toList draw (AAC (A N (iI id ops.toList+NM))) (K7 (AAB (A N (iI id ops.toList+NM))) st))
 |.loop body=>BG rec body (A N (BX body)) n (CI (A N (BX body)) st)
 |c=>Z8 P E n N rec c st
def AE(P:cw)(A:Ann)(kn:CF0)(n:Nat):G5:=Nat.rec (motive:=fun _=>G5) (fun _ _ _=>none) (fun n ih N=>U0 P (A2B P kn (fun _ _ _=>none) (fun _=>false) ih) A n N (ih N)) n
theorem AJQ(hP:EG P){E:XE}(hEE:KC P E){a:Tr}{id:Nat}{ops:Array cx}{draw:Bool}{N:Nat}(hN:EX N (.region id ops draw)=true){st st':XS}(hx:A3P P E a ops.toList draw st=some st')(hbd:Bd st):KM st st' /\
  ∀(n:Nat) (ρ:Option Nat) (σ:Nat->Nat) (pre:List AA) (K:Exit->Fr->St->Prop),(∀σ',AR st.c σ σ'->K .normal (st'.fr.ren σ' pre.length) (st'.s.emb σ' pre))->BE P n N ρ (.region id ops draw) K (st.fr.ren σ pre.length) (st.s.emb σ pre):=by
 obtain⟨l⟩:=ops
 have hT:=MB (a:=a) hbd
 have ext:∀{st'},KM (CI a st) st'->KM st st':=fun h=>⟨by have:=h.c;rwa [IP]at this,h.bd,h.n.trans hT.n⟩
 cases draw with
 |false=>
  simp only[EX,cond_false,bj]at hN
  have hx:gO P E l l (CI a st)=some st':=hx
  obtain⟨hE,hs⟩:=gP hEE hT.bd hx
  refine⟨ext hE,fun n ρ σ pre K hk=>KI (a:=a) ?_⟩
  exact VO (l.map (K6 l)) hN.1 (gH (SK hN.2)) (hs σ pre _ fun σ' ha=>hk σ' (by rwa [IP]at ha))
 |true=>
  simp only[EX,cond_true]at hN
  cases hc:V9 P l with
  |true=>
   have hx:(Bool.rec (QA P E l (CI a st)) (Q0 P (IE l) (some (CI a st))) (V9 P l):Option XS)=some st':=hx
   rw[hc]at hx
   obtain⟨hE,hs⟩:=AI9 (id:=id) hP hN hc hx hT.bd
   exact⟨ext hE,fun n ρ σ pre K hk=>KI (a:=a) (hs n ρ σ pre K fun σ' ha=>hk σ' (by rwa [IP]at ha))⟩
  |false=>
  have hx:(Bool.rec (QA P E l (CI a st)) (Q0 P (IE l) (some (CI a st))) (V9 P l):Option XS)=some st':=hx
  rw[hc]at hx
  obtain⟨hE,hs⟩:=aT (id:=id) hP hEE hN hx hT.bd
  exact⟨ext hE,fun n ρ σ pre K hk=>KI (a:=a) (hs n ρ σ pre K fun σ' ha=>hk σ' (by rwa [IP]at ha))⟩
theorem AJR(hP:EG P){E:XE}(hEE:KC P E){a:Tr}{us:List Nat}{id:Nat}{ops:Array cx}{draw:Bool}{N:Nat}(hN:EX N (.region id ops draw)=true){st st':XS}(hx:AFD P E N a ops.toList draw us st=some st')(hbd:Bd st):KM st st' /\
  ∀(n:Nat) (ρ:Option Nat) (σ:Nat->Nat) (pre:List AA) (K:Exit->Fr->St->Prop),(∀σ',AR st.c σ σ'->K .normal (st'.fr.ren σ' pre.length) (st'.s.emb σ' pre))->BE P n N ρ (.region id ops draw) K (st.fr.ren σ pre.length) (st.s.emb σ pre):=by
 unfold AFD at hx
 cases hy:isY us with
 |false=>rw[hy]at hx;exact AJQ hP (AQ4 hEE _) hN hx hbd
 |true=>
  rw[hy]at hx
  cases draw with
  |false=>cases hx
  |true=>
   have hx:vP P E N ops.toList (CI a st)=some st':=hx
   have hT:=MB (a:=a) hbd
   obtain⟨hE,hs⟩:=AEG hP hEE (id:=id) hx hT.bd
   refine⟨⟨by have:=hE.c;rwa [IP]at this,hE.bd,hE.n.trans hT.n⟩,fun n ρ σ pre K hk=>KI (a:=a) ?_⟩
   exact hs n ρ σ pre K fun σ' ha=>hk σ' (by rwa [IP]at ha)
theorem AFE{N:Nat}{rec:bP}(hrec:aD P N rec){body:cz}{a:Tr}(hN:EX N body=true)(m:Nat){st st':XS}{e:Exit}(hx:BG rec body a m (CI a st)=some (e,st'))(hbd:Bd st):KM st st'/\(∀l,e≠.goto l) /\
  ∀(n:Nat) (ρ:Option Nat) (σ:Nat->Nat) (pre:List AA) (K:Exit->Fr->St->Prop),(ρ=none\/GA body=true)->(∀σ',AR st.c σ σ'->K e (st'.fr.ren σ' pre.length) (st'.s.emb σ' pre))->BE P n N ρ (.loop body) K (st.fr.ren σ pre.length) (st.s.emb σ pre):=by
 have up:∀{st st':XS},Bd st->KM (CI a st) st'->KM st st':=fun hbd h=>⟨by have:=h.c;rwa [IP]at this,h.bd,h.n.trans (MB hbd).n⟩
 have ext:∀(m:Nat) {st:XS},BG rec body a m (CI a st)=some (e,st')->Bd st->KM st st'/\(∀l,e≠.goto l):=by
  intro m;induction m with
  |zero=>intro st hx _;cases hx
  |succ m ih=>
   intro st hx hbd
   have hx:(match rec body (CI a st)with
    |some (.normal,st')=>BG rec body a m (CI a st')
    | r=>r)=some (e,st'):=hx
   have hT:=MB (a:=a) hbd
   split at hx
   ·rename_i st1 h1;obtain⟨hE,_,_⟩:=hrec _ _ _ _ h1 hT.bd hN;obtain⟨hE',hg⟩:=ih hx hE.bd;exact⟨up hbd ⟨Nat.le_trans hE.c hE'.c,hE'.bd,hE'.n.trans hE.n⟩,hg⟩
   ·obtain⟨hE,hg,_⟩:=hrec _ _ _ _ hx hT.bd hN;exact⟨up hbd ⟨hE.c,hE.bd,hE.n⟩,hg⟩
 obtain⟨hE,hg⟩:=ext m hx hbd
 refine⟨hE,hg,fun n ρ σ pre K hρ hk=>?_⟩
 refine dQ (fun m fr s=>∃(st:XS) (σ:Nat->Nat),fr=st.fr.ren σ pre.length/\s=st.s.emb σ pre/\Bd st/\BG rec body a m (CI a st)=some (e,st')/\∀σ',AR st.c σ σ'->K e (st'.fr.ren σ' pre.length) (st'.s.emb σ' pre)) m ⟨st,σ,rfl,rfl,hbd,hx,hk⟩ ?_
 rintro m fr s ⟨st,σ,rfl,rfl,hbd,hx,hk⟩
 cases m with
 |zero=>cases hx
 |succ m=>
  have hx:(match rec body (CI a st)with
   |some (.normal,st')=>BG rec body a m (CI a st')
   | r=>r)=some (e,st'):=hx
  have hT:=MB (a:=a) hbd
  refine KI (a:=a) ?_
  split at hx
  ·rename_i st1 h1;obtain⟨hE,_,hC⟩:=hrec _ _ _ _ h1 hT.bd hN;refine hC n ρ σ pre _ hρ fun σ' ha=>?_;rw[IP]at ha;exact⟨m,Nat.lt_succ_self _,st1,σ',rfl,rfl,hE.bd,hx,fun σ'' ha'=>hk σ'' (ha.trans ha' (by have:=hE.c;rwa [IP]at this))⟩
  ·rename_i hne;obtain⟨hE,hg,hC⟩:=hrec _ _ _ _ hx hT.bd hN;refine hC n ρ σ pre _ hρ fun σ' ha=>?_;rw[IP]at ha;have:=hk σ' ha;cases e with
   |normal=>exact absurd hx (hne st')
   |_=>exact this
theorem iJ(hP:EG P){E:XE}(hEE:KC P E){A:Ann}{N:Nat}{rec:bP}(hrec:aD P N rec)(m:Nat):aD P N (U0 P E A m N rec):=by
 intro code st e st' hx hbd hN;unfold U0 at hx;split at hx
 ·rename_i id ops draw;obtain⟨rfl,hx2⟩:=nH hx;have hT:=vK (AAB (A N (iI id ops.toList+NM))) hbd;obtain⟨hE,hs⟩:=AJR hP hEE hN hx2 hT.bd;exact⟨⟨Nat.le_trans hT.c hE.c,hE.bd,hE.n.trans hT.n⟩,(by intro l h;cases h),fun n ρ σ pre K _ hk=>nC _ (hs n ρ σ pre K fun σ' ha=>hk σ' (by rwa [AM1]at ha))⟩
 ·rename_i body;have hN:EX N body=true:=hN;obtain⟨h1,h2,h3⟩:=AFE hrec hN m hx hbd;exact⟨h1,h2,fun n ρ σ pre K hρ hk=>h3 n ρ σ pre K hρ hk⟩
 ·exact nI hP hEE hrec m _ _ _ _ hx hbd hN
theorem bB(hP:EG P){A:Ann}{kn:CF0}(hkn:HP P kn):∀n,aE P (AE P A kn n)
 |0=>fun N code st e st' hx=>by cases hx
 |n+1=>fun N=>by have ih:=bB hP (A:=A) hkn n;exact iJ hP ⟨ADT hP hkn ih,AJB hP ih,aI hP hkn ih,ADS hP hkn (ko:=fun _ _ _=>none) (fun _ _ _ _ h=>by cases h) ih⟩ (ih N) n
theorem AFF(hP:EG P){A:Ann}{kn:CF0}(hkn:HP P kn){n:Nat}{f:cg}{args:List V}{r:V}(h:KD P (AE P A kn n) f args=some r)(s:St):E7 P f args s fun r' s'=>r'=r/\s'=s :=
 (aG hP (bB hP hkn n) f args r h).1 s
section
variable {A:Ann}{kn:CF0}{n N:Nat}{st:XS}
abbrev BH(P:cw)(A:Ann)(kn:CF0)(n:Nat):XE:=A2B P kn (fun _ _ _=>none) (fun _=>false) (AE P A kn n)
theorem AFG(a b:cz):AE P A kn (n+1) N (.seq a b) st=gR (AE P A kn n N) b (AE P A kn n N a st):=rfl
theorem AAD(c:cq)(a b:cz):AE P A kn (n+1) N (.cond c a b) st=mT (AE P A kn n N) a b st (CH st.fr c):=rfl
theorem sJ(id:Nat)(b:cz):AE P A kn (n+1) N (.block id b) st=M8 id (AE P A kn n N b st):=rfl
theorem AAE(b:cz):AE P A kn (n+1) N (.loop b) st=BG (AE P A kn n N) b (A N (BX b)) n (CI (A N (BX b)) st):=rfl
theorem AAF:AE P A kn (n+1) N .skip st=some (.normal,st):=rfl
theorem AAG(id:Nat):AE P A kn (n+1) N (.exit id) st=some (.exit id,st):=rfl
theorem AFH:AE P A kn (n+1) N .ret st=some (.ret,st):=rfl
theorem sK(b:cz):AE P A kn (n+1) N (.scope b) st=AE P A kn n N b st:=rfl
theorem Q3(g:cq)(ps:Array Tmp)(asg body:cz):AE P A kn (n+1) N (.rangeFunc g ps asg body) st=UN (BH P A kn n).cf N g ps.toList asg body st:=rfl
theorem AFI(a b:cz):BX (.seq a b)=BX a:=rfl
theorem sM(id:Nat)(b:cz):BX (.block id b)=BX b:=rfl
theorem AAH(b:cz):BX (.loop b)=BX b:=rfl
theorem AC(rec:bP)(body:cz)(a:Tr):BG rec body a (n+1) st=match rec body st with
 |some (.normal,st')=>BG rec body a n (CI a st')
 |r=>r:=rfl
theorem nR(rec:bP)(b:cz):gR rec b (some (.normal,st))=rec b st:=rfl
theorem AFJ(rec:bP)(b:cz):gR rec b (some (.ret,st))=some (.ret,st):=rfl
theorem AAI(rec:bP)(b:cz)(i:Nat):gR rec b (some (.exit i,st))=some (.exit i,st):=rfl
theorem AFK(rec:bP)(b:cz)(c:Prop)[Decidable c](x y:Option (Exit×XS)):gR rec b (if c then x else y)=if c then gR rec b x else gR rec b y:=by split<;>rfl
theorem cR(id:Nat):M8 id (some (.normal,st))=some (.normal,st):=rfl
theorem sN(id:Nat):M8 id (some (.ret,st))=some (.ret,st):=rfl
theorem nS(id i:Nat):M8 id (some (.exit i,st))=if i=id then some (.normal,st) else some (.exit i,st):=by
 show(Bool.rec _ _ (bw i id):Option (Exit×XS))=_;by_cases h:i=id
 ·subst h;simp
 ·have:bw i id=false:=by
   cases hb:bw i id with
   |false=>rfl
   |true=>exact absurd (bb hb) h
  simp[h,this]
theorem sO(id:Nat)(c:Prop)[Decidable c](x y:Option (Exit×XS)):M8 id (if c then x else y)=if c then M8 id x else M8 id y:=by split<;>rfl
def wE:cz->Bool
 |.region ..=>true
 |_=>false
def VX:cz->List cx
 |.region _ ops _=>ops.toList
 |_=>[]
def OW:cz->Bool
 |.region _ _ d=>d
 |_=>false
theorem wF(us:List Nat){E:XE}(h:E.lit=fun _=>false):(cfU us E).lit=fun _=>false:=by cases us<;>exact h
theorem PK{r:cz}(hr:wE r=true){i:IR}(hi:wD P (VX r) (OW r)=i)(hok:okR P (VX r) (OW r)=true){a:Tr}(ha:A N (BX r)=a){ks us:List Nat}(ht:AAB (A N (BX r+NM))=ks)(hu:AAC (A N (BX r+NM))=us)(hy:isY us=false:=by rfl):AE P A kn (n+1) N r st=OL (JI P (cfU us (BH P A kn n)) i (CI a (K7 ks st))):=by
 cases r with
 |region id ops draw=>
  subst hi ha ht hu
  show OL (AFD P _ N (A N (iI id ops.toList)) ops.toList draw (AAC (A N (iI id ops.toList+NM))) (K7 (AAB (A N (iI id ops.toList+NM))) st))=_
  unfold AFD
  rw[show isY (AAC (A N (iI id ops.toList+NM)))=false from hy]
  cases draw with
  |false=>exact congrArg OL (vZ (wF _ rfl) _ _ _)
  |true=>
   show OL (Bool.rec (QA P _ ops.toList _) (Q0 P (IE ops.toList) (some _)) (V9 P ops.toList))=OL (JI P _ (cond (V9 P ops.toList) (.cls (IE ops.toList)) (.drw ((cG ops.toList).map (wB ops.toList)))) _)
   have hok:cond (V9 P ops.toList) true (inB ops.toList (cG ops.toList))=true:=hok
   cases hc:V9 P ops.toList with
   |true=>rfl
   |false=>
    rw[hc]at hok
    exact congrArg OL (wC (wF _ rfl) _ _ _ hok)
 |_=>cases hr
theorem DX{r:cz}(hr:wE r=true){i:IR}(hi:wD P (VX r) (OW r)=i)(hok:okR P (VX r) (OW r)=true){a:Tr}(ha:A N (BX r)=a){ks:List Nat}(ht:AAB (A N (BX r+NM))=ks)(hu:AAC (A N (BX r+NM))=[]:=by kernel_rfl):AE P A kn (n+1) N r st=OL (JI P (BH P A kn n) i (CI a (K7 ks st))):=PK hr hi hok ha ht hu rfl
theorem AFL{r:cz}(hr:wE r=true){i:IR}(hi:wD P (VX r) (OW r)=i)(hok:okR P (VX r) (OW r)=true){a:Tr}(ha:A N (BX r)=a)(ht:A N (BX r+NM)=none:=by kernel_rfl):AE P A kn (n+1) N r st=OL (JI P (BH P A kn n) i (CI a st)):=DX hr hi hok ha (congrArg AAB ht) (congrArg AAC ht)
def WA(P:cw)(rs:List ResultVar)(r:Option (Exit×XS)):Option V:=match r with
 |some (.ret,st)=>finV st.s (FV P rs st.fr st.s)
 |some (.normal,st)=>finV st.s (FV P rs st.fr st.s)
 |_=>none
where finV (s:St) (r:Option V):Option V:=match r with
 |some v=>match A1 s 4 v with
  |some r'=>Bool.rec none (some r') (AG 9 r')
  |none=>none
 |none=>none
theorem AQ{f:cg}{fn:Func}{c:cz}{args:List V}{rec:G5}(hf:P.funcs[f]? = some fn)(hb:fn.body=some c)(hs:bp args.length fn.ntmps=true)(hcl:args.all (AG 9)=true) :
  KD P rec f args=WA P fn.results.toList (rec fn.ntmps c ⟨0,AD 0 args,⟨[],[]⟩⟩):=by
 unfold KD eD Z9 uY
 rw[hcl,hf]
 simp only[hb,hs]
 generalize rec fn.ntmps c ⟨0,AD 0 args,⟨[],[]⟩⟩=q
 have aux:∀st:XS,(match(match FV P fn.results.toList st.fr st.s with
   |some r=>match A1 st.s 4 r with
    |some r'=>some (r',st.c,st.s.up.map (AJ st.s))
    |none=>none
   | none=>none:Option (V×Nat×List AA))with
  |some (r,_,_)=>(Bool.rec none (some r) (AG 9 r):Option V)
  | none=>none)=WA.finV st.s (FV P fn.results.toList st.fr st.s):=fun st=>by
  unfold WA.finV
  cases FV P fn.results.toList st.fr st.s with
  |none=>rfl
  |some r=>
   cases h:A1 st.s 4 r with
   |none=>simp[h]
   |some r'=>simp[h]
 cases q with
 |none=>rfl
 |some q=>
  obtain⟨e,st⟩:=q
  cases e with
  |ret=>exact aux st
  |normal=>exact aux st
  |_=>rfl
theorem AFM(rs:List ResultVar)(c:Prop)[Decidable c](x y:Option (Exit×XS)):WA P rs (if c then x else y)=if c then WA P rs x else WA P rs y:=by split<;>rfl
end
def K8:cz->List Nat->cz
 |c,[]=>c
 |.seq a b,i::p=>bif bw i 0 then K8 a p else K8 b p
 |.cond _ a b,i::p=>bif bw i 0 then K8 a p else K8 b p
 |.block _ a,_::p=>K8 a p
 |.loop a,_::p=>K8 a p
 |.scope a,_::p=>K8 a p
 |.rangeFunc _ _ a b,i::p=>bif bw i 0 then K8 a p else K8 b p
 |c,_=>c
def AR9(fn:Func):cz:=match fn.body with
 |some c=>c
 |none=>.skip
end Go.Pg
namespace Go.Pg
variable {P:cw}{E:XE}{st:XS}{fr:Fr}{s:St}
@[simp] theorem A3Q(r:Option XS):OV P E [] r=r:=rfl
@[simp] theorem AWO(i:I9)(l:List I9)(r:Option XS):OV P E (i::l) r=OV P E l (opO P E i r):=rfl
@[simp] theorem A3R(i:I9):opO P E i (some st)=opI P E i st:=rfl
@[simp] theorem A3S(i:I9):opO P E i none=none:=rfl
@[simp] theorem A9S(i:I9)(c:Prop)[Decidable c](x y:Option XS):opO P E i (if c then x else y)=if c then opO P E i x else opO P E i y:=by split<;>rfl
@[simp] theorem A3T(l:List I9)(c:Prop)[Decidable c](x y:Option XS):OV P E l (if c then x else y)=if c then OV P E l x else OV P E l y:=by split<;>rfl
def gI(P:cw)(E:XE)(d:Option Tmp)(k:IK)(st:XS)(w:Bool)(r:Option (Bool×V)):Option XS:=match r with
 |some (c,.bool b)=>Bool.rec (some (H0 d st)) (stepK P E d k st) (c&&(b==w))
 |_=>none
@[simp] theorem A3U(d:Option Tmp)(k:IK):opI P E ⟨none,d,k⟩ st=stepK P E d k st:=rfl
@[simp] theorem AWP(t:Tmp)(w:Bool)(d:Option Tmp)(k:IK):opI P E ⟨some (t,w),d,k⟩ st=gI P E d k st w (BQ st.fr t):=by
 show(match(match BQ st.fr t with | some (c,.bool b)=>some (c&&(b == w)) | _=>none:Option Bool)with
  |some true=>stepK P E d k st
  |some false=>some (H0 d st)
  | none=>none)=_
 unfold gI;cases BQ st.fr t with
 |none=>rfl
 |some p=>
  obtain⟨c,v⟩:=p
  cases v with
  |bool b=>cases h:(c&&(b==w))<;>simp[h]
  |_=>rfl
@[simp] theorem BHN(d:Option Tmp)(k:IK):gI P E d k st true (some (true,.bool true))=stepK P E d k st:=rfl
@[simp] theorem BHO(d:Option Tmp)(k:IK):gI P E d k st true (some (true,.bool false))=some (H0 d st):=rfl
@[simp] theorem BHP(d:Option Tmp)(k:IK):gI P E d k st false (some (true,.bool true))=some (H0 d st):=rfl
@[simp] theorem BHQ(d:Option Tmp)(k:IK):gI P E d k st false (some (true,.bool false))=stepK P E d k st:=rfl
@[simp] theorem BHR(d:Option Tmp)(k:IK)(w b:Bool):gI P E d k st w (some (false,.bool b))=some (H0 d st):=rfl
@[simp] theorem A3V(d:Tmp)(c:Nat)(fr:Fr)(s:St):H0 (some d) ⟨c,fr,s⟩=⟨c,(d,false,.bool false)::fr,s⟩:=rfl
@[simp] theorem A3W(c:Nat)(fr:Fr)(s:St):H0 none ⟨c,fr,s⟩=⟨c,fr,s⟩:=rfl
@[simp] theorem A3X(k:Nat):BQ [] k=none:=rfl
@[simp] theorem AWQ(j:Nat)(x:Bool×V)(fr:Fr)(k:Nat):BQ ((j,x)::fr) k=if k=j then some x else BQ fr k:=by rw[FG,FG];rfl
@[simp] theorem ASA(j:Nat)(x:Nat×AX)(L:AA)(k:Nat):AA.get ((j,x)::L) k=if k=j then some x else L.get k:=rfl
def rdT:Option (Bool×V)->Option V
 |some (true,v)=>some v
 |_=>none
@[simp] theorem AFN(v:V):rdT (some (true,v))=some v:=rfl
@[simp] theorem AWS(v:V):rdT (some (false,v))=none:=rfl
@[simp] theorem A3Y:rdT none=none:=rfl
@[simp] theorem A9T(t:Tmp):CH fr (.tmp t)=rdT (BQ fr t):=by
 show(match BQ fr t with
  |some (true,v)=>some v
  | _=>none)=_
 cases BQ fr t with
 |none=>rfl
 |some p=>obtain⟨c,v⟩:=p;cases c<;>rfl
@[simp] theorem AWT(v:Value):CH fr (.const v)=CV v:=rfl
@[simp] theorem A3Z(f:cg):CH fr (.func f)=some (.fn f [] []):=rfl
@[simp] theorem A9U(t:Tmp):rdC fr (.tmp t)=BQ fr t:=rfl
@[simp] theorem A30(b:Bool):rdC fr (.const (.bool b))=some (true,.bool b):=rfl
@[simp] theorem ASB(k:cd)(n:Int):CV (.int k n)=some (.int k n):=rfl
@[simp] theorem ANE(b:Bool):CV (.bool b)=some (.bool b):=rfl
@[simp] theorem ASC:CV (.slice none 0 0)=some .nil:=rfl
@[simp] theorem AWU(d:Tmp)(c:Nat)(fr:Fr)(s:St)(v:V):DT (some d) ⟨c,fr,s⟩ (some v)=some ⟨c,(d,true,v)::fr,s⟩:=rfl
@[simp] theorem A9V(c:Nat)(fr:Fr)(s:St)(v:V):DT none ⟨c,fr,s⟩ (some v)=some ⟨c,fr,s⟩:=rfl
@[simp] theorem AWV(d:Option Tmp):DT d st none=none:=rfl
@[simp] theorem A31(d:Option Tmp)(c:Prop)[Decidable c](x y:Option V):DT d st (if c then x else y)=if c then DT d st x else DT d st y:=by split<;>rfl
section
variable (d:Option Tmp)(c:Nat)
@[simp] theorem A32(x:cq):stepK P E d (.mv x) ⟨c,fr,s⟩=DT d ⟨c,fr,s⟩ (CH fr x):=rfl
def ASD(P:cw)(op:BinOp)(T:ck):Option V->Option V->Option V
 |some a,some b=>HE P op T a b
 |_,_=>none
@[simp] theorem AWW(op:BinOp)(T:ck)(a b:V):ASD P op T (some a) (some b)=HE P op T a b:=rfl
@[simp] theorem AWX(op:BinOp)(T:ck)(x y:cq):stepK P E d (.bin op T x y) ⟨c,fr,s⟩=DT d ⟨c,fr,s⟩ (ASD P op T (CH fr x) (CH fr y)):=by show DT d _ (yZ P fr op T x y)=_;unfold yZ ASD;cases CH fr x<;>cases CH fr y<;>rfl
def fa1(P:cw)(T:ck)(f:Nat):Option V->Option V
 |some p=>DH P T p f
 |none=>none
@[simp] theorem A33(T:ck)(f:Nat)(p:V):fa1 P T f (some p)=DH P T p f:=rfl
@[simp] theorem A34(T:ck)(x:cq)(f:Nat):stepK P E d (.fa T x f) ⟨c,fr,s⟩=DT d ⟨c,fr,s⟩ (fa1 P T f (CH fr x)):=by show DT d _ (xFA P fr T x f)=_;unfold xFA fa1;cases CH fr x<;>rfl
def wh1(P:cw)(T:ck):Option (List V)->Option V
 |some cs=>BN P T cs
 |none=>none
@[simp] theorem A35(T:ck)(cs:List V):wh1 P T (some cs)=BN P T cs:=rfl
def ld1(P:cw)(s:St)(T:ck):Option V->Option V
 |some p=>wh1 P T (A7 s p)
 |none=>none
@[simp] theorem AFO(T:ck)(p:V):ld1 P s T (some p)=wh1 P T (A7 s p):=rfl
@[simp] theorem A36(T:ck)(x:cq):stepK P E d (.ld T x) ⟨c,fr,s⟩=DT d ⟨c,fr,s⟩ (ld1 P s T (CH fr x)):=by
 show DT d _ (NJ P fr s T x)=_;unfold NJ ld1;cases CH fr x with
 |none=>rfl
 |some p=>unfold wh1;cases A7 s p<;>rfl
def pk3:Option V->Option (Bool×V)->Option (Bool×V)->Option V
 |some (.bool c),some (ca,.bool a),some (cb,.bool b)=>Bool.rec (Bool.rec none (some (.bool b)) cb) (Bool.rec none (some (.bool a)) ca) c
 |_,_,_=>none
@[simp] theorem A37(a cb b:Bool):pk3 (some (.bool true)) (some (true,.bool a)) (some (cb,.bool b))=some (.bool a):=rfl
@[simp] theorem AWY(ca a b:Bool):pk3 (some (.bool false)) (some (ca,.bool a)) (some (true,.bool b))=some (.bool b):=rfl
@[simp] theorem A38(c a b:Bool):pk3 (some (.bool c)) (some (true,.bool a)) (some (true,.bool b))=some (.bool (if c then a else b)):=by cases c<;>rfl
@[simp] theorem ASE(x y z:cq):stepK P E d (.pick x y z) ⟨c,fr,s⟩=DT d ⟨c,fr,s⟩ (pk3 (CH fr x) (rdC fr y) (rdC fr z)):=rfl
def ba2:Option V->Nat->Option (List (Nat×V))->Option (List (Nat×V))
 |some v,i,some l=>some ((i,v)::l)
 |_,_,_=>none
@[simp] theorem A39(v:V)(i:Nat)(l:List (Nat×V)):ba2 (some v) i (some l)=some ((i,v)::l):=rfl
@[simp] theorem ASF(r:cq->Option V):DJ r []=some []:=rfl
@[simp] theorem ANF(r:cq->Option V)(i:Nat)(x:cq)(l:List (Nat×cq)):DJ r ((i,x)::l)=ba2 (r x) i (DJ r l):=by simp only[DJ];unfold ba2;cases r x<;>cases DJ r l<;>rfl
def bd1(P:cw)(T:ck):Option (List (Nat×V))->Option V
 |some l=>DC P T l
 |none=>none
@[simp] theorem A4A(T:ck)(l:List (Nat×V)):bd1 P T (some l)=DC P T l:=rfl
@[simp] theorem ANG(T:ck)(ps:List (Nat×cq)):stepK P E d (.build T ps) ⟨c,fr,s⟩=DT d ⟨c,fr,s⟩ (bd1 P T (DJ (CH fr) ps)):=by show DT d _ (UI P fr T ps)=_;unfold UI bd1;cases DJ (CH fr) ps<;>rfl
def bs1(P:cw)(T:ck)(n:Nat):Option (List (Nat×V))->Option V
 |some l=>CB P T n l
 |none=>none
@[simp] theorem A4B(T:ck)(n:Nat)(l:List (Nat×V)):bs1 P T n (some l)=CB P T n l:=rfl
@[simp] theorem AJS(T:ck)(n:Nat)(ps:List (Nat×cq)):stepK P E d (.buildS T n ps) ⟨c,fr,s⟩=DT d ⟨c,fr,s⟩ (bs1 P T n (DJ (CH fr) ps)):=by show DT d _ (PF P fr T n ps)=_;unfold PF bs1;cases DJ (CH fr) ps<;>rfl
@[simp] theorem AWZ(op:Op):stepK P E d (.oth op) ⟨c,fr,s⟩=DT d ⟨c,fr,s⟩ (IA P (cQ op) s (CH fr)):=rfl
def al1(d:Tmp)(c:Nat)(fr:Fr)(s:St):Option (List V)->Option XS
 |some cs=>some ⟨c+1,(d,true,.ptr s.up.length d c 0)::fr,s.put s.up.length d c (.box cs)⟩
 |none=>none
@[simp] theorem A4C(d:Tmp)(cs:List V):al1 d c fr s (some cs)=some ⟨c+1,(d,true,.ptr s.up.length d c 0)::fr,s.put s.up.length d c (.box cs)⟩:=rfl
@[simp] theorem ANH(d:Tmp)(T:ck):stepK P E (some d) (.alloc T) ⟨c,fr,s⟩=al1 d c fr s (CE P T):=by show OK P (some d) T _=_;unfold OK al1;cases CE P T<;>rfl
def bx1(d:Tmp)(c:Nat)(fr:Fr)(s:St):Option V->Option XS
 |some v=>Bool.rec none (some ⟨c+1,(d,true,.ptr s.up.length d c 0)::fr,s.put s.up.length d c (.box (A8 v))⟩) (A9 v)
 |none=>none
@[simp] theorem A9Z(d:Tmp)(k:cd)(n:Int):bx1 d c fr s (some (.int k n))=some ⟨c+1,(d,true,.ptr s.up.length d c 0)::fr,s.put s.up.length d c (.box [.int k n])⟩:=rfl
@[simp] theorem A4D(d:Tmp)(b:Bool):bx1 d c fr s (some (.bool b))=some ⟨c+1,(d,true,.ptr s.up.length d c 0)::fr,s.put s.up.length d c (.box [.bool b])⟩:=rfl
@[simp] theorem A90(d:Tmp)(cs:List V):bx1 d c fr s (some (.agg cs))=some ⟨c+1,(d,true,.ptr s.up.length d c 0)::fr,s.put s.up.length d c (.box cs)⟩:=rfl
@[simp] theorem A4E(d:Tmp)(b:Bool)(es:List (List V)):bx1 d c fr s (some (.list b es))=some ⟨c+1,(d,true,.ptr s.up.length d c 0)::fr,s.put s.up.length d c (.box [.list b es])⟩:=rfl
@[simp] theorem A91(d:Tmp):bx1 d c fr s (some .nil)=some ⟨c+1,(d,true,.ptr s.up.length d c 0)::fr,s.put s.up.length d c (.box [.nil])⟩:=rfl
@[simp] theorem A92(d:Tmp)(l k g n:Nat):bx1 d c fr s (some (.vec l k g n))=some ⟨c+1,(d,true,.ptr s.up.length d c 0)::fr,s.put s.up.length d c (.box [.vec l k g n])⟩:=rfl
@[simp] theorem BDU(d:Tmp)(l k g:Nat):bx1 d c fr s (some (.mp l k g))=some ⟨c+1,(d,true,.ptr s.up.length d c 0)::fr,s.put s.up.length d c (.box [.mp l k g])⟩:=rfl
@[simp] theorem AW0(d:Tmp)(x:cq):stepK P E (some d) (.box x) ⟨c,fr,s⟩=bx1 d c fr s (CH fr x):=by show mJ (some d) x _=_;unfold mJ bx1;cases CH fr x<;>rfl
def st3(γ:Nat)(P:cw)(T:ck)(c:Nat)(fr:Fr)(s:St)(l q off:Nat)(v:V):Option (Nat×AX)->Option XS
 |some (γ',.box cs)=>if γ'=γ/\A9 v=true/\0<P.cellsOf T/\(A8 v).length=P.cellsOf T/\off+P.cellsOf T<=cs.length/\γ<c then some ⟨c,fr,s.put l q γ (.box (A4 cs off (A8 v)))⟩ else none
 |_=>none
def st4(γ:Nat)(P:cw)(T:ck)(c:Nat)(fr:Fr)(s:St)(l q i off:Nat)(v:V):Option (Nat×AX)->Option XS
 |some (γ',.vec U es)=>if γ'=γ/\A9 v=true/\0<P.cellsOf T/\(A8 v).length=P.cellsOf T/\i<es.length/\off+P.cellsOf T<=(es.getD i []).length/\γ<c then some ⟨c,fr,s.put l q γ (.vec U (es.set i (A4 (es.getD i []) off (A8 v))))⟩ else none
 |_=>none
def G6(P:cw)(T:ck)(c:Nat)(fr:Fr)(s:St):Option V->Option V->Option XS
 |some (.ptr l q γ off),some v=>st3 γ P T c fr s l q off v (s.get l q)
 |some (.eptr l q γ i off),some v=>st4 γ P T c fr s l q i off v (s.get l q)
 |_,_=>none
@[simp] theorem AJT(T:ck)(l q γ off:Nat)(v:V):G6 P T c fr s (some (.ptr l q γ off)) (some v)=st3 γ P T c fr s l q off v (s.get l q):=rfl
@[simp] theorem AFP(T:ck)(l q γ i off:Nat)(v:V):G6 P T c fr s (some (.eptr l q γ i off)) (some v)=st4 γ P T c fr s l q i off v (s.get l q):=rfl
@[simp] theorem AJU(γ γ':Nat)(T:ck)(l q off:Nat)(v:V)(cs:List V):st3 γ P T c fr s l q off v (some (γ',.box cs))=if γ'=γ/\A9 v=true/\0<P.cellsOf T/\(A8 v).length=P.cellsOf T/\off+P.cellsOf T<=cs.length/\γ<c then some ⟨c,fr,s.put l q γ (.box (A4 cs off (A8 v)))⟩ else none:=rfl
@[simp] theorem AJV(γ γ':Nat)(T:ck)(l q i off:Nat)(v:V)(U:ck)(es:List (List V)):st4 γ P T c fr s l q i off v (some (γ',.vec U es))=if γ'=γ/\A9 v=true/\0<P.cellsOf T/\(A8 v).length=P.cellsOf T/\i<es.length/\off+P.cellsOf T<=(es.getD i []).length/\γ<c then some ⟨c,fr,s.put l q γ (.vec U (es.set i (A4 (es.getD i []) off (A8 v))))⟩ else none:=rfl
theorem AJW(T:ck)(x y:cq):JH P none T x y ⟨c,fr,s⟩=G6 P T c fr s (CH fr x) (CH fr y):=by
 unfold JH;simp only;cases CH fr x with
 |none=>rfl
 |some p=>
  cases CH fr y with
  |none=>cases p<;>rfl
  |some v=>
   cases p with
   |ptr l q γ off=>
    simp only[AJT]
    cases s.get l q with
    |none=>rfl
    |some z=>
     obtain⟨γ',r⟩:=z
     cases r with
     |box cs=>
      simp only[AJU,bj,bh,Nat.ble_eq,bm,and_assoc]
     |_=>rfl
   |eptr l q γ i off=>
    simp only[AFP]
    cases s.get l q with
    |none=>rfl
    |some z=>
     obtain⟨γ',r⟩:=z
     cases r with
     |vec U es=>
      simp only[AJV,bj,bh,Nat.ble_eq,bm,and_assoc]
     |_=>rfl
   |_=>rfl
@[simp] theorem AW1(T:ck)(x y:cq):stepK P E none (.sto T x y) ⟨c,fr,s⟩=G6 P T c fr s (CH fr x) (CH fr y):=AJW c T x y
def apW(P:cw)(e:ck)(d c:Nat)(fr:Fr)(s:St)(l q γ n:Nat)(ys:List (List V)):Option (Nat×AX)->Option XS
 |some (γ',.vec W es)=>if γ'=γ/\W=e/\n=es.length/\es.all (fun y=>y.length==P.cellsOf e)=true/\CG P e es.length ys=true then
   some ⟨c+1,(d,true,.vec l q c (es.length+ys.length))::fr,s.put l q c (.vec e (es++ys))⟩ else none
 |_=>none
@[simp] theorem S6(e:ck)(d:Nat)(l q γ γ' n:Nat)(ys es:List (List V))(W:ck):apW P e d c fr s l q γ n ys (some (γ',.vec W es))=if γ'=γ/\W=e/\n=es.length/\es.all (fun y=>y.length==P.cellsOf e)=true/\CG P e es.length ys=true then
   some ⟨c+1,(d,true,.vec l q c (es.length+ys.length))::fr,s.put l q c (.vec e (es++ys))⟩ else none:=rfl
def apV(P:cw)(e:ck)(d c:Nat)(fr:Fr)(s:St)(xv:V)(ys:List (List V)):Option XS:=match I2 xv ys with
 |some es=>if es.all (fun y=>y.length==P.cellsOf e)=true/\CG P e es.length ys=true then some ⟨c+1,(d,true,.vec s.up.length d c (es.length+ys.length))::fr,s.put s.up.length d c (.vec e (es++ys))⟩ else none
 |none=>match xv with
  |.vec l q γ n=>apW P e d c fr s l q γ n ys (QN n ys (s.get l q))
  |_=>none
@[simp] theorem nT(n γ:Nat)(ys es:List (List V))(U:ck):QN n ys (some (γ,.vec U es))=some (γ,.vec U (Y3 n ys es)):=rfl
@[simp] theorem AW2(n:Nat)(ys:List (List V)):QN n ys none=none:=rfl
attribute [simp] T3
@[simp] theorem A93(e:ck)(d:Nat)(ys:List (List V)):apV P e d c fr s .nil ys=if CG P e 0 ys=true then some ⟨c+1,(d,true,.vec s.up.length d c ys.length)::fr,s.put s.up.length d c (.vec e ys)⟩ else none:=by simp[apV,I2]
@[simp] theorem A94(e:ck)(d:Nat)(ys:List (List V)):apV P e d c fr s (.list true []) ys=if CG P e 0 ys=true then some ⟨c+1,(d,true,.vec s.up.length d c ys.length)::fr,s.put s.up.length d c (.vec e ys)⟩ else none:=by simp[apV,I2]
@[simp] theorem A4G(e:ck)(d:Nat)(z y:List V)(es ys:List (List V)):apV P e d c fr s (.list true (z::es)) (y::ys)=if (z::es).all (fun y=>y.length==P.cellsOf e)=true/\CG P e (z::es).length (y::ys)=true then
   some ⟨c+1,(d,true,.vec s.up.length d c ((z::es).length+(y::ys).length))::fr,s.put s.up.length d c (.vec e ((z::es)++(y::ys)))⟩ else none:=rfl
@[simp] theorem AJX(e:ck)(d:Nat)(l q γ n:Nat)(ys:List (List V)):apV P e d c fr s (.vec l q γ n) ys=apW P e d c fr s l q γ n ys (QN n ys (s.get l q)):=by simp[apV,I2]
def ap3(P:cw)(d c:Nat)(fr:Fr)(s:St):Option (Option Nat×ck)->Option V->Option V->Option XS
 |some (none,e),some xv,some yv=>ap4 e xv (elemsOf s yv)
 |_,_,_=>none
where ap4 (e:ck) (xv:V):Option (List (List V))->Option XS
 |some ys=>apV P e d c fr s xv ys
 |none=>none
@[simp] theorem AFQ(d:Nat)(e:ck)(xv yv:V):ap3 P d c fr s (some (none,e)) (some xv) (some yv)=ap3.ap4 P d c fr s e xv (elemsOf s yv):=rfl
@[simp] theorem AFR(d:Nat)(e:ck)(xv:V)(ys:List (List V)):ap3.ap4 P d c fr s e xv (some ys)=apV P e d c fr s xv ys:=rfl
@[simp] theorem AJY(b:Bool)(es:List (List V)):elemsOf s (.list b es)=some es:=rfl
@[simp] theorem ANI:elemsOf s .nil=some []:=rfl
theorem ifB{α:Type}{b:Bool}{x y:α}:(Bool.rec y x b:α)=if b=true then x else y:=by cases b<;>rfl
theorem AAK{k:Nat}{e:ck}(d:Nat)(x y:Option V):ap3 P d c fr s (some (some k,e)) x y=none:=by cases x<;>cases y<;>rfl
@[simp] theorem AW3(d:Tmp)(x y:cq)(T:ck):stepK P E (some d) (.app [x,y] [T,T]) ⟨c,fr,s⟩=ap3 P d c fr s (BO P T) (CH fr x) (CH fr y):=by
 show xAppend P (some d) [x,y] [T,T] _=_;unfold xAppend xAppG;simp only[bc];cases hT:BO P T with
 |none=>cases CH fr x<;>cases CH fr y<;>rfl
 |some p=>
  obtain⟨k,e⟩:=p
  cases k with
  |some k=>rw[AAK]
  |none=>
   cases CH fr x with
   |none=>rfl
   |some xv=>
    cases CH fr y with
    |none=>rfl
    |some yv=>
     simp only[AFQ]
     cases elemsOf s yv with
     |none=>rfl
     |some ys=>
      simp only[AFR,apV]
      cases I2 xv ys with
      |some es=>
       simp only[ifB,bj,bq]
       by_cases hC:es.all (fun y=>y.length==P.cellsOf e)=true/\CG P e es.length ys=true
       ·rw[if_pos hC,if_pos hC]
       ·rw[if_neg hC,if_neg hC]
      |none=>
       simp only
       unfold mN
       cases xv with
       |vec l q γ n=>
        simp only
        cases QN n ys (s.get l q)with
        |none=>rfl
        |some z=>
         obtain⟨γ',r⟩:=z
         cases r with
         |vec W es=>
          simp only[ifB,bj,bq,S6,bm,and_assoc]
          by_cases hC:γ'=γ/\W=e/\n=es.length/\es.all (fun y=>y.length==P.cellsOf e)=true/\CG P e es.length ys=true
          ·rw[if_pos hC,if_pos hC]
          ·rw[if_neg hC,if_neg hC]
         |_=>rfl
       |_=>rfl
def mc2:Option V->Option (List V)->Option (List V)
 |some v,some l=>some (v::l)
 |_,_=>none
@[simp] theorem A4J(v:V)(l:List V):mc2 (some v) (some l)=some (v::l):=rfl
@[simp] theorem A4K(f:cq->Option V):FJ f []=some []:=rfl
@[simp] theorem AW4(f:cq->Option V)(x:cq)(l:List cq):FJ f (x::l)=mc2 (f x) (FJ f l):=by
 simp only[FJ];cases f x with
 |none=>rfl
 |some v=>cases FJ f l<;>rfl
def GH(E:XE)(d:Option Tmp)(st:XS)(f:cg)(args:List V):Option XS:=match E.cf f args st with
 |some (r,st')=>some ⟨st'.c,putD st'.fr d true r,st'.s⟩
 |none=>none
def ca1(E:XE)(d:Option Tmp)(st:XS):Option V->Option (List V)->Option XS
 |some (.fn f first cap),some vs=>GH E d st f ((first++vs++cap).map weakV)
 |some (.yld l q γ),some vs=>ca3 (E.cy l q γ vs st)
 |_,_=>none
where ca3:Option (V×XS)->Option XS
 |some (r,st')=>some ⟨st'.c,putD st'.fr d true r,st'.s⟩
 |none=>none
@[simp] theorem ASG(st:XS)(f:cg)(first cap vs:List V):ca1 E d st (some (.fn f first cap)) (some vs)=GH E d st f ((first++vs++cap).map weakV):=rfl
@[simp] theorem AJZ(st:XS)(l q γ:Nat)(vs:List V):ca1 E d st (some (.yld l q γ)) (some vs)=ca1.ca3 d (E.cy l q γ vs st):=rfl
@[simp] theorem A4L(d:Tmp)(r:V):ca1.ca3 (some d) (some (r,⟨c,fr,s⟩))=some ⟨c,(d,true,r)::fr,s⟩:=rfl
theorem bC(st:XS)(f:cq)(args:List cq):P7 E.cf E.cy d f args st=ca1 E d st (CH st.fr f) (FJ (CH st.fr) args):=by
 unfold P7;cases CH st.fr f with
 |none=>rfl
 |some v=>
  cases v with
  |fn f first cap=>
   simp only
   cases FJ (CH st.fr) args with
   |none=>rfl
   |some vs=>simp only[ASG,GH];cases E.cf f ((first++vs++cap).map weakV) st<;>rfl
  |yld l q γ=>
   simp only[qZ]
   cases FJ (CH st.fr) args with
   |none=>rfl
   |some vs=>simp only[AJZ];cases E.cy l q γ vs st<;>rfl
  |_=>rfl
@[simp] theorem ASH(args:List cq)(Ts:List ck):stepK P E d (.appS args Ts) st=DT d st (S5 P args Ts st.fr):=rfl
@[simp] theorem A4M(x y:cq)(T:ck)(fr:Fr):S5 P [x,y] [T,T] fr=(match CH fr x,CH fr y with
  |some xv,some yv=>J5 P T xv yv
  | _,_=>none):=by
 unfold S5
 simp only[bc,cond_true]
@[simp] theorem ASI(f:cq)(args:List cq):stepK P E d (.call false none f args) ⟨c,fr,s⟩=ca1 E d ⟨c,fr,s⟩ (CH fr f) (FJ (CH fr) args):=bC d ⟨c,fr,s⟩ f args
@[simp] theorem ANL(t:Tmp)(f:cq)(args:List cq):stepK P E d (.call false (some t) f args) ⟨c,fr,s⟩=ca1 E d (S4 (some t) ⟨c,fr,s⟩) (CH (S4 (some t) ⟨c,fr,s⟩).fr f) (FJ (CH (S4 (some t) ⟨c,fr,s⟩).fr) args):=bC d _ f args
def orK:Bool->Option V->Option V->Option V
 |true,some r,_=>some r
 |_,_,z=>z
@[simp] theorem A4N(r:V)(z:Option V):orK true (some r) z=some r:=rfl
@[simp] theorem A4O(b:Bool)(z:Option V):orK b z z=z:=by cases b<;>cases z<;>rfl
theorem nU{P:cw}{kn:CF0}{rec:G5}{f:cg}{args:List V}:FO P kn rec f args=orK (args.all (AG 9)) (AZ P kn rec f (args.map weakN)) (AZ P kn rec f args):=by unfold FO orK;cases AZ P kn rec f (args.map weakN)<;>cases args.all (AG 9)<;>rfl
attribute [simp] nU
@[simp] theorem AW5(k:cd)(n:Int):weakN (.int k n)=.int k n:=rfl
@[simp] theorem ASK(b:Bool):weakN (.bool b)=.bool b:=rfl
@[simp] theorem AW6(v:Value):weakN (.raw v)=.raw v:=rfl
@[simp] theorem ASL(b:Bool)(es:List (List V)):weakN (.list b es)=.list b es:=rfl
@[simp] theorem AW7(cs:List V):weakN (.agg cs)=.agg (cs.map weakM):=rfl
@[simp] theorem AW8:weakN .nil=.list false []:=rfl
@[simp] theorem A4P(f:cg)(x y:List V):weakN (.fn f x y)=.fn f x y:=rfl
@[simp] theorem AW9(cs:List V):weakN (.ref cs)=.ref cs:=rfl
@[simp] theorem AXA(k:cd)(n:Int):weakM (.int k n)=.int k n:=rfl
@[simp] theorem ASM(b:Bool):weakM (.bool b)=.bool b:=rfl
@[simp] theorem ASN(b:Bool)(es:List (List V)):weakM (.list b es)=.list b es:=rfl
@[simp] theorem AXB:weakM .nil=.list false []:=rfl
@[simp] theorem A4Q(f:cg)(x y:List V):weakM (.fn f x y)=.fn f x y:=rfl
@[simp] theorem AXC(cs:List V):weakM (.ref cs)=.ref cs:=rfl
theorem bD{A:Ann}{kn:CF0}{n:Nat}{f:cg}{args:List V}(h:args.all (AG 9)=true)(hh:BK P f=false)(st:XS):GH (BH P A kn n) d st f args=DT d st (orK true (AZ P kn (AE P A kn n) f (args.map weakN)) (AZ P kn (AE P A kn n) f args)):=by
 have e:orK true (AZ P kn (AE P A kn n) f (args.map weakN)) (AZ P kn (AE P A kn n) f args)=FO P kn (AE P A kn n) f args:=by rw[nU,h]
 rw[e];show(match aA P kn (AE P A kn n) f args st with
  |some (r,st')=>some (⟨st'.c,putD st'.fr d true r,st'.s⟩:XS)
  | none=>none)=_
 unfold aA;rw[h,hh];cases FO P kn (AE P A kn n) f args<;>rfl
end
@[simp] theorem A4R(k:cd)(n:Int):weakV (.int k n)=.int k n:=rfl
@[simp] theorem AXD(b:Bool):weakV (.bool b)=.bool b:=rfl
@[simp] theorem AXE(b:Bool)(es:List (List V)):weakV (.list b es)=.list false es:=rfl
@[simp] theorem A4S(cs:List V):weakV (.agg cs)=.agg (cs.map weakC):=rfl
@[simp] theorem AXF(k:cd)(n:Int):weakC (.int k n)=.int k n:=rfl
@[simp] theorem ASO(b:Bool):weakC (.bool b)=.bool b:=rfl
@[simp] theorem ASP(b:Bool)(es:List (List V)):weakC (.list b es)=.list false es:=rfl
@[simp] theorem AXG:weakC .nil=.nil:=rfl
@[simp] theorem A4T:weakV .nil=.nil:=rfl
@[simp] theorem A95(f:cg)(x y:List V):weakV (.fn f x y)=.fn f x y:=rfl
@[simp] theorem ASQ(f:Nat)(k:cd)(n:Int):AG (f+1) (.int k n)=true:=rfl
@[simp] theorem ANM(f:Nat)(b:Bool):AG (f+1) (.bool b)=true:=rfl
@[simp] theorem ASR(f:Nat):AG (f+1) .nil=true:=rfl
@[simp] theorem ASS(f:Nat)(cs:List V):AG (f+1) (.agg cs)=cs.all (AG f):=rfl
@[simp] theorem AST(f:Nat)(cs:List V):AG (f+1) (.tup cs)=cs.all (AG f):=rfl
@[simp] theorem ASU(f:Nat)(cs:List V):AG (f+1) (.ref cs)=cs.all (AG f):=rfl
@[simp] theorem ANN(f:Nat)(b:Bool)(es:List (List V)):AG (f+1) (.list b es)=es.all fun e=>e.all (AG f):=rfl
@[simp] theorem AXH(f:Nat)(g:cg)(x y:List V):AG (f+1) (.fn g x y)=(x.all (AG f)&&y.all (AG f)):=rfl
section
variable (r:cq->Option V)
def o1(f:V->Option V):Option V->Option V
 |some v=>f v
 |none=>none
@[simp] theorem A96(f:V->Option V)(v:V):o1 f (some v)=f v:=rfl
def o2(f:V->V->Option V):Option V->Option V->Option V
 |some a,some b=>f a b
 |_,_=>none
@[simp] theorem A97(f:V->V->Option V)(a b:V):o2 f (some a) (some b)=f a b:=rfl
theorem S7(f:V->Option V)(x:Option V):x.bind f=o1 f x:=by cases x<;>rfl
theorem iK(f:V->V->Option V)(x y:Option V):(x.bind fun a=>y.bind fun b=>f a b)=o2 f x y:=by cases x<;>cases y<;>rfl
@[simp] theorem BDX(op:UnOp)(T:ck)(x:cq):IA P (cQ (.unOp op T x)) s r=o1 (bX op) (r x):=S7 _ _
@[simp] theorem A4U(T U:ck)(x:cq):IA P (cQ (.convert T U x)) s r=o1 (MM P T U) (r x):=S7 _ _
@[simp] theorem A4V(T:ck)(x i:cq):IA P (cQ (.indexAddr T x i)) s r=o2 (BU P s T) (r x) (r i):=iK _ _ _
@[simp] theorem AXI(T:ck)(x:cq)(f:Nat):IA P (cQ (.field T x f)) s r=o1 (fun a=>IJ P T a f) (r x):=S7 _ _
@[simp] theorem A98(x:cq)(i:Nat):IA P (cQ (.extract x i)) s r=o1 (fun a=>FU a i) (r x):=S7 _ _
@[simp] theorem A99(x:cq)(T:ck):IA P (cQ (.call ⟨.builtin .len,#[x],#[T]⟩)) s r=o1 (HZ P T) (r x):=S7 _ _
end
@[simp] theorem A4W(b:Bool):bX .not (.bool b)=some (.bool !b):=rfl
@[simp] theorem A4X(k:cd)(n:Int):bX .neg (.int k n)=some (.int k (k.wrap (0-n))):=rfl
@[simp] theorem AG5(vs:List V)(i:Nat):FU (.tup vs) i=vs[i]?:=rfl
@[simp] theorem BDY(up:List AA)(loc:AA)(l k g:Nat)(r:AX):St.put ⟨up,loc⟩ l k g r=if l=up.length then⟨up,(k,g,r)::loc⟩ else⟨up.modify l fun L=>L.put k g r,loc⟩:=rfl
def upG(k:Nat):Option AA->Option (Nat×AX)
 |some L=>L.get k
 |none=>none
@[simp] theorem A4Y(k:Nat)(L:AA):upG k (some L)=L.get k:=rfl
@[simp] theorem AFS(up:List AA)(loc:AA)(l k:Nat):St.get ⟨up,loc⟩ l k=if l=up.length then loc.get k else upG k up[l]?:=rfl
def kx(k:Nat)(r:Fr):Option (Bool×V)->Fr
 |some (c,v)=>(k,c,v)::r
 |none=>r
@[simp] theorem BAA(k:Nat)(r:Fr)(c:Bool)(v:V):kx k r (some (c,v))=(k,c,v)::r:=rfl
@[simp] theorem BAB(k:Nat)(r:Fr):kx k r none=r:=rfl
@[simp] theorem AXJ:P9 [] fr=[]:=rfl
@[simp] theorem ASV(k:Nat)(ks:List Nat):P9 (k::ks) fr=kx k (P9 ks fr) (BQ fr k):=by show(match BQ fr k with|some (c,v)=>(k,c,v)::P9 ks fr|none=>P9 ks fr)=_;cases BQ fr k<;>rfl
def kl(k:Nat)(r:AA):Option (Nat×AX)->AA
 |some (g,x)=>(k,g,x)::r
 |none=>r
@[simp] theorem BAC(k:Nat)(r:AA)(g:Nat)(x:AX):kl k r (some (g,x))=(k,g,x)::r:=rfl
@[simp] theorem BAD(k:Nat)(r:AA):kl k r none=r:=rfl
@[simp] theorem AXK(L:AA):I3 [] L=[]:=rfl
@[simp] theorem ASW(k:Nat)(ks:List Nat)(L:AA):I3 (k::ks) L=kl k (I3 ks L) (L.get k):=by unfold kl;simp only[I3];cases L.get k<;>rfl
@[simp] theorem A4Z(ks ls:List Nat)(c:Nat)(fr:Fr)(up:List AA)(loc:AA):CI (some (ks,ls)) ⟨c,fr,⟨up,loc⟩⟩=⟨c,P9 ks fr,⟨up,I3 ls loc⟩⟩:=rfl
@[simp] theorem ASX:CI none st=st:=rfl
@[simp] theorem BDZ:OL (some st)=some (.normal,st):=rfl
@[simp] theorem A40:OL none=none:=rfl
@[simp] theorem BAE(c:Prop)[Decidable c](x y:Option XS):OL (if c then x else y)=if c then OL x else OL y:=by split<;>rfl
@[simp] theorem A41(l:List I9):JI P E (.str l) st=OV P E l (some st):=rfl
@[simp] theorem A42(S:List nP):JI P E (.drw S) st=UZ P E S (some st):=rfl
@[simp] theorem A43(ks:List (Nat×Nat×Nat)):JI P E (.cls ks) st=Q0 P ks (some st):=rfl
@[simp] theorem A44(o:Option XS):Q0 P [] o=o:=rfl
@[simp] theorem AXL(T a d:Nat)(r:List (Nat×Nat×Nat))(st:XS):Q0 P ((T,a,d)::r) (some st)=Q0 P r (if rV (CH st.fr (.tmp a))=true then DT (some d) st (NJ P st.fr st.s T (.tmp a)) else none):=by
 show Q0 P r (Bool.rec _ _ (rV (CH st.fr (.tmp a))))=_;cases rV (CH st.fr (.tmp a))with
 |false=>rfl
 |true=>
  simp only[if_true]
  congr 1
@[simp] theorem A45(l k g o:Nat):rV (some (.ptr l k g o))=true:=rfl
@[simp] theorem A46(rs:List ResultVar):WA P rs (some (.ret,st))=WA.finV st.s (FV P rs st.fr st.s):=rfl
@[simp] theorem ANO(rs:List ResultVar):WA P rs (some (.normal,st))=WA.finV st.s (FV P rs st.fr st.s):=rfl
def ASY:Option V->Option V
 |some r=>if AG 9 r=true then some r else none
 |none=>none
@[simp] theorem AXM(r:V):ASY (some r)=if AG 9 r=true then some r else none:=rfl
@[simp] theorem AXN(v:V):WA.finV s (some v)=ASY (A1 s 4 v):=by
 unfold WA.finV ASY;simp only;cases A1 s 4 v with
 |none=>rfl
 |some r=>simp only[ifB]
@[simp] theorem ASZ(t:Tmp):CX P fr s (.tmp t)=rdT (BQ fr t):=by
 rw[FG];show(match fr.get t with
  |some (true,v)=>some v
  | _=>none)=_
 cases fr.get t with
 |none=>rfl
 |some p=>obtain⟨c,v⟩:=p;cases c<;>rfl
@[simp] theorem A47(x:ResultVar):FV P [x] fr s=CX P fr s x:=by unfold FV;simp only[bz,bn];cases CX P fr s x<;>rfl
def re2:Option V->Option V->Option V
 |some a,some b=>some (.tup [a,b])
 |_,_=>none
@[simp] theorem A48(a b:V):re2 (some a) (some b)=some (.tup [a,b]):=rfl
@[simp] theorem A49(x y:ResultVar):FV P [x,y] fr s=re2 (CX P fr s x) (CX P fr s y):=by unfold FV;simp only[bz,bn];cases CX P fr s x<;>cases CX P fr s y<;>rfl
def re3:Option V->Option V->Option V->Option V
 |some a,some b,some c=>some (.tup [a,b,c])
 |_,_,_=>none
@[simp] theorem A5A(a b c:V):re3 (some a) (some b) (some c)=some (.tup [a,b,c]):=rfl
@[simp] theorem AS0(x y z:ResultVar):FV P [x,y,z] fr s=re3 (CX P fr s x) (CX P fr s y) (CX P fr s z):=by unfold FV;simp only[bz,bn];cases CX P fr s x<;>cases CX P fr s y<;>cases CX P fr s z<;>rfl
@[simp] theorem AS1(f:Nat)(k:cd)(n:Int):A1 s (f+1) (.int k n)=some (.int k n):=rfl
@[simp] theorem ANP(f:Nat)(b:Bool):A1 s (f+1) (.bool b)=some (.bool b):=rfl
@[simp] theorem AS2(f:Nat):A1 s (f+1) .nil=some .nil:=rfl
@[simp] theorem ANQ(f:Nat)(b:Bool)(es:List (List V)):A1 s (f+1) (.list b es)=some (.list false es):=rfl
def oT(mk:List V->V):Option (List V)->Option V
 |some l=>some (mk l)
 |none=>none
@[simp] theorem A5B(mk:List V->V)(l:List V):oT mk (some l)=some (mk l):=rfl
def P0(f:V->Option V):List V->Option (List V)
 |[]=>some []
 |v::l=>mc2 (f v) (P0 f l)
theorem S8(f:V->Option V):∀(l:List V),l.mapM f=P0 f l
 |[]=>rfl
 |v::l=>by simp only[bz,P0,S8 f l];cases f v<;>cases P0 f l<;>rfl
@[simp] theorem A5C(f:V->Option V):P0 f []=some []:=rfl
@[simp] theorem AXO(f:V->Option V)(v:V)(l:List V):P0 f (v::l)=mc2 (f v) (P0 f l):=rfl
@[simp] theorem AS3(f:Nat)(cs:List V):A1 s (f+1) (.agg cs)=oT .agg (P0 (A1 s f) cs):=by simp only[A1,S8];cases P0 (A1 s f) cs<;>rfl
@[simp] theorem AS4(f:Nat)(cs:List V):A1 s (f+1) (.tup cs)=oT .tup (P0 (A1 s f) cs):=by simp only[A1,S8];cases P0 (A1 s f) cs<;>rfl
def cv1(g m:Nat):Option (Nat×AX)->Option V
 |some (g',.vec _ es)=>if g'=g/\m<=es.length then some (.list false (es.take m)) else none
 |_=>none
@[simp] theorem AFT(g m g':Nat)(T:ck)(es:List (List V)):cv1 g m (some (g',.vec T es))=if g'=g/\m<=es.length then some (.list false (es.take m)) else none:=rfl
@[simp] theorem bE(f:Nat)(up:List AA)(loc:AA)(l k g m:Nat):A1 ⟨up,loc⟩ (f+1) (.vec l k g m)=if l=up.length then cv1 g m (loc.get k) else some (.vec l k g m):=by
 simp only[A1];split
 ·cases loc.get k with
  |none=>rfl
  |some z=>obtain⟨g',r⟩:=z;cases r<;>rfl
 ·rfl
@[simp] theorem ANR(t:Nat)(T:ck):CX P fr s (.cell t T)=ld1 P s T (rdT (BQ fr t)):=by
 rw[FG];show(match fr.get t with
  |some (true,p)=>(A7 s p).bind (BN P T)
  | _=>none)=_
 cases fr.get t with
 |none=>rfl
 |some p=>
  obtain⟨c,v⟩:=p
  cases c with
  |false=>rfl
  |true=>
   simp only[AFN,AFO]
   cases A7 s v<;>rfl
section
variable (d:Option Tmp)(c:Nat)
@[simp] theorem A5D(r:Option XS):UZ P E [] r=r:=rfl
@[simp] theorem AXP(p:nP)(S:List nP)(r:Option XS):UZ P E (p::S) r=UZ P E S (OV P E p.sq (bA (UY P E p.ph (AFA p.new r)))):=rfl
@[simp] theorem A5E(r:Option (XS×AK×AK)):UY P E [] r=r:=rfl
@[simp] theorem AXQ(i:I9)(l:List I9)(r:Option (XS×AK×AK)):UY P E (i::l) r=UY P E l (nO P E i r):=rfl
@[simp] theorem BAF(new:List Tmp)(up:List AA)(loc:AA):AFA new (some ⟨c,fr,⟨up,loc⟩⟩)=if (new.all fun d=>(loc.get d).isNone)=true then some (⟨c,fr,⟨up,loc⟩⟩,[],[]) else none:=by show(Bool.rec none _ _:Option _)=_;rw[ifB];rfl
@[simp] theorem AXR(rd wr:AK):bA (some (st,rd,wr))=if (wr.all fun p=>!(rd.contains p))=true then some st else none:=by show(Bool.rec none _ _:Option _)=_;rw[ifB]
@[simp] theorem AXS:bA none=none:=rfl
@[simp] theorem A5F(c:Prop)[Decidable c](x y:Option (XS×AK×AK)):bA (if c then x else y)=if c then bA x else bA y:=by split<;>rfl
@[simp] theorem AXT(i:I9):nO P E i none=none:=rfl
@[simp] theorem A5G(i:I9)(c:Prop)[Decidable c](x y:Option (XS×AK×AK)):nO P E i (if c then x else y)=if c then nO P E i x else nO P E i y:=by split<;>rfl
@[simp] theorem A5H(l:List I9)(c:Prop)[Decidable c](x y:Option (XS×AK×AK)):UY P E l (if c then x else y)=if c then UY P E l x else UY P E l y:=by split<;>rfl
@[simp] theorem A5I(l:List nP)(c:Prop)[Decidable c](x y:Option XS):UZ P E l (if c then x else y)=if c then UZ P E l x else UZ P E l y:=by split<;>rfl
def ph3(rds rd wr:AK):Option (XS×AK)->Option (XS×AK×AK)
 |some (st,w)=>some (st,rds++rd,w++wr)
 |none=>none
@[simp] theorem A5J(rds rd wr w:AK):ph3 rds rd wr (some (st,w))=some (st,rds++rd,w++wr):=rfl
@[simp] theorem A5K(rds rd wr:AK):ph3 rds rd wr none=none:=rfl
@[simp] theorem BAG(rds rd wr:AK)(c:Prop)[Decidable c](x y:Option (XS×AK)):ph3 rds rd wr (if c then x else y)=if c then ph3 rds rd wr x else ph3 rds rd wr y:=by split<;>rfl
@[simp] theorem AXV(i:I9)(rd wr:AK):nO P E i (some (st,rd,wr))=ph3 (GN P i.k (CH st.fr)) rd wr (UW P E i st):=by show(match UW P E i st with|some (st',w)=>some (st',GN P i.k (CH st.fr)++rd,w++wr)|none=>none)=_;cases UW P E i st<;>rfl
@[simp] theorem AXW(k:IK):UW P E ⟨none,d,k⟩ st=DG P E d k st:=rfl
def gI0(P:cw)(E:XE)(d:Option Tmp)(k:IK)(st:XS)(w:Bool)(r:Option (Bool×V)):Option (XS×AK):=match r with
 |some (c,.bool b)=>if (c&&(b==w))=true then DG P E d k st else if ED k=true then none else some (H0 d st,[])
 |_=>none
@[simp] theorem AS5(t:Tmp)(w:Bool)(k:IK):UW P E ⟨some (t,w),d,k⟩ st=gI0 P E d k st w (BQ st.fr t):=by
 show(match(match BQ st.fr t with | some (c,.bool b)=>some (c&&(b == w)) | _=>none:Option Bool)with
  |some true=>DG P E d k st
  |some false=>Bool.rec (some (H0 d st,[])) none (ED k)
  | none=>none)=_
 unfold gI0;cases BQ st.fr t with
 |none=>rfl
 |some p=>
  obtain⟨c,v⟩:=p
  cases v with
  |bool b=>cases h:(c&&(b==w))<;>simp[h,ifB]
  |_=>rfl
@[simp] theorem A5L(k:IK)(w c b:Bool):gI0 P E d k st w (some (c,.bool b))=if (c&&(b==w))=true then DG P E d k st else if ED k=true then none else some (H0 d st,[]):=rfl
@[simp] theorem BD1(T:ck)(x:cq)(f:cq->Option V):GN P (.ld T x) f=B8 (bw (P.cellsOf T) 1) (f x):=rfl
@[simp] theorem AS6(x y:cq)(f:cq->Option V):ID f [x,y]=E4 (f y):=rfl
@[simp] theorem AJ0(b:Bool)(es:List (List V)):E4 (some (.list b es))=[]:=rfl
@[simp] theorem ANS:E4 (some .nil)=[]:=rfl
@[simp] theorem ANT(l k γ n:Nat):E4 (some (.vec l k γ n))=[(l,k)]:=rfl
@[simp] theorem BD2(x:cq)(f:cq->Option V):GN P (.mv x) f=[]:=rfl
@[simp] theorem BAH(op:BinOp)(T:ck)(x y:cq)(f:cq->Option V):GN P (.bin op T x y) f=[]:=rfl
@[simp] theorem BD3(T:ck)(x:cq)(i:Nat)(f:cq->Option V):GN P (.fa T x i) f=[]:=rfl
@[simp] theorem A5M(x y z:cq)(f:cq->Option V):GN P (.pick x y z) f=[]:=rfl
@[simp] theorem AXX(T:ck)(ps:List (Nat×cq))(f:cq->Option V):GN P (.build T ps) f=[]:=rfl
@[simp] theorem A5N(x y:cq)(Ts:List ck)(f:cq->Option V):GN P (.appS [x,y] Ts) f=E4 (f y):=rfl
@[simp] theorem AS7(T:ck)(n:Nat)(ps:List (Nat×cq))(f:cq->Option V):GN P (.buildS T n ps) f=[]:=rfl
@[simp] theorem AXY(T:ck)(f:cq->Option V):GN P (.alloc T) f=[]:=rfl
@[simp] theorem BAI(x:cq)(f:cq->Option V):GN P (.box x) f=[]:=rfl
@[simp] theorem BAJ(T:ck)(x y:cq)(f:cq->Option V):GN P (.sto T x y) f=[]:=rfl
@[simp] theorem BAK(x:List cq)(y:List ck)(f:cq->Option V):GN P (.app x y) f=ID f x:=rfl
@[simp] theorem A5O(b:Bool)(t:Option Tmp)(g:cq)(x:List cq)(f:cq->Option V):GN P (.call b t g x) f=[]:=rfl
@[simp] theorem A5P(T:ck)(x i:cq)(f:cq->Option V):GN P (.oth (.indexAddr T x i)) f=KB (f x):=rfl
@[simp] theorem BD4(op:UnOp)(T:ck)(x:cq)(f:cq->Option V):GN P (.oth (.unOp op T x)) f=[]:=rfl
@[simp] theorem BAL(x:cq)(i:Nat)(f:cq->Option V):GN P (.oth (.extract x i)) f=[]:=rfl
@[simp] theorem BAM(x:cq)(T:ck)(b:Builtin)(f:cq->Option V):GN P (.oth (.call ⟨.builtin b,#[x],#[T]⟩)) f=[]:=by cases b<;>rfl
@[simp] theorem BD5(g:Fn)(x y:Array cq)(f:cq->Option V):GN P (.oth (.makeFunc g x y)) f=[]:=rfl
def nw:Option XS->Option (XS×AK)
 |some st=>some (st,[])
 |none=>none
@[simp] theorem BAN:nw (some st)=some (st,[]):=rfl
@[simp] theorem BAO:nw none=none:=rfl
@[simp] theorem BD6(c:Prop)[Decidable c](x y:Option XS):nw (if c then x else y)=if c then nw x else nw y:=by split<;>rfl
theorem F4(r:Option XS):noW r=nw r:=by cases r<;>rfl
@[simp] theorem A5Q(x:cq):DG P E d (.mv x) st=nw (stepK P E d (.mv x) st):=F4 _
@[simp] theorem AXZ(op:BinOp)(T:ck)(x y:cq):DG P E d (.bin op T x y) st=nw (stepK P E d (.bin op T x y) st):=F4 _
@[simp] theorem A5R(T:ck)(x:cq)(f:Nat):DG P E d (.fa T x f) st=nw (stepK P E d (.fa T x f) st):=F4 _
@[simp] theorem AX0(T:ck)(x:cq):DG P E d (.ldz T x) st=DG P E d (.ld T x) st:=rfl
@[simp] theorem AX1(T:ck)(x:cq):stepK P E d (.ldz T x) st=stepK P E d (.ld T x) st:=rfl
@[simp] theorem BAP(T:ck)(x:cq)(f:cq->Option V):GN P (.ldz T x) f=[]:=rfl
@[simp] theorem A5S(T:ck)(x:cq):DG P E d (.ld T x) st=nw (stepK P E d (.ld T x) st):=F4 _
@[simp] theorem AS8(x y z:cq):DG P E d (.pick x y z) st=nw (stepK P E d (.pick x y z) st):=F4 _
@[simp] theorem ANU(T:ck)(ps:List (Nat×cq)):DG P E d (.build T ps) st=nw (stepK P E d (.build T ps) st):=F4 _
@[simp] theorem AS9(xs:List cq)(Ts:List ck):DG P E d (.appS xs Ts) st=nw (stepK P E d (.appS xs Ts) st):=F4 _
@[simp] theorem AJ1(T:ck)(n:Nat)(ps:List (Nat×cq)):DG P E d (.buildS T n ps) st=nw (stepK P E d (.buildS T n ps) st):=F4 _
@[simp] theorem AX2(op:Op):DG P E d (.oth op) st=nw (stepK P E d (.oth op) st):=F4 _
@[simp] theorem ANV(T:ck):DG P E d (.alloc T) st=nw (stepK P E d (.alloc T) st):=F4 _
@[simp] theorem AX3(x:cq):DG P E d (.box x) st=nw (stepK P E d (.box x) st):=F4 _
@[simp] theorem AX4(x:Option cq):DG P E d (.mkM x) st=nw (stepK P E d (.mkM x) st):=F4 _
@[simp] theorem AX5(T:ck)(x y:cq):DG P E d (.mkS T x y) st=nw (stepK P E d (.mkS T x y) st):=F4 _
def wp(p:AK):Option XS->Option (XS×AK)
 |some st=>some (st,p)
 |none=>none
@[simp] theorem BAQ(p:AK):wp p (some st)=some (st,p):=rfl
@[simp] theorem BAR(p:AK):wp p none=none:=rfl
@[simp] theorem BD7(p:AK)(c:Prop)[Decidable c](x y:Option XS):wp p (if c then x else y)=if c then wp p x else wp p y:=by split<;>rfl
@[simp] theorem AX6(T:ck)(x y:cq):DG P E d (.sto T x y) st=wp (CL (bw (P.cellsOf T) 1) (CH st.fr x)) (stepK P E d (.sto T x y) st):=by show(match JH P d T x y st with|some st'=>some (st',CL (bw (P.cellsOf T) 1) (CH st.fr x))|none=>none)=wp _ (JH P d T x y st);cases JH P d T x y st<;>rfl
@[simp] theorem A5T(x:Option V):B8 false x=BM x:=by cases x<;>rfl
@[simp] theorem ATA(l k g o:Nat):B8 true (some (.ptr l k g o))=[(l,k+2000000),(l,k+4000000),(l,6000000+1000*k+o)]:=rfl
@[simp] theorem ANW(l k g i o:Nat):B8 true (some (.eptr l k g i o))=[(l,k+2000000),(l,k+4000000),(l,6000000+1000*k+o)]:=rfl
@[simp] theorem ATB(b:Bool)(cs:List V):B8 b (some (.ref cs))=[]:=by cases b<;>rfl
@[simp] theorem ATC(l k g o:Nat):CL true (some (.ptr l k g o))=[(l,k),(l,6000000+1000*k+o)]:=rfl
@[simp] theorem ANX(l k g i o:Nat):CL true (some (.eptr l k g i o))=[(l,k),(l,6000000+1000*k+o)]:=rfl
@[simp] theorem ANY(l k g o:Nat):CL false (some (.ptr l k g o))=[(l,k),(l,k+4000000)]:=rfl
@[simp] theorem AJ2(l k g i o:Nat):CL false (some (.eptr l k g i o))=[(l,k),(l,k+4000000)]:=rfl
@[simp] theorem ANZ(l k g o:Nat):BM (some (.ptr l k g o))=[(l,k)]:=rfl
@[simp] theorem AJ3(l k g i o:Nat):BM (some (.eptr l k g i o))=[(l,k)]:=rfl
@[simp] theorem AN0(cs:List V):BM (some (.ref cs))=[]:=rfl
@[simp] theorem ATD(l k g o:Nat):KB (some (.ptr l k g o))=[]:=rfl
@[simp] theorem ATE(l k g n:Nat):KB (some (.vec l k g n))=[(l,k+IL)]:=rfl
@[simp] theorem AN1(b:Bool)(es:List (List V)):KB (some (.list b es))=[]:=rfl
@[simp] theorem ATF(cs:List V):KB (some (.ref cs))=[]:=rfl
def c01(E:XE)(d:Option Tmp)(st:XS):Option V->Option (List V)->Option XS
 |some (.fn f first cap),some vs=>DT d st (E.c0 f ((first++vs++cap).map weakV))
 |_,_=>none
@[simp] theorem ATG(f:cg)(first cap vs:List V):c01 E d st (some (.fn f first cap)) (some vs)=DT d st (E.c0 f ((first++vs++cap).map weakV)):=rfl
@[simp] theorem ATH(t:Option Tmp)(f:cq)(args:List cq):DG P E d (.call false t f args) ⟨c,fr,s⟩=nw (c01 E d ⟨c,fr,s⟩ (CH fr f) (FJ (CH fr) args)):=by
 show noW (Z6 E.c0 d f args ⟨c,fr,s⟩)=_;rw[F4];congr 1;unfold Z6;cases hf:CH fr f with
 |none=>simp only[c01]
 |some v=>
  cases v with
  |fn g first cap=>
   simp only
   cases hm:FJ (CH fr) args with
   |none=>simp only[c01]
   |some vs=>
    simp only[ATG]
    cases E.c0 g ((first++vs++cap).map weakV)<;>rfl
  |_=>simp only[c01]
@[simp] theorem BD8{A:Ann}{kn:CF0}{n:Nat}:(BH P A kn n).c0=FO P kn (AE P A kn n):=rfl
end
theorem sP{A:Ann}{kn:CF0}{n N:Nat}(a b:cz):mT (AE P A kn n N) a b st (some (.bool true))=AE P A kn n N a st:=rfl
theorem nV{A:Ann}{kn:CF0}{n N:Nat}(a b:cz):mT (AE P A kn n N) a b st (some (.bool false))=AE P A kn n N b st:=rfl
attribute [simp] AFI sM AAH AFG AAD sJ AAE AAF AAG AFH sK nR AFJ AAI AFK cR sN nS sO sP nV AFM
end Go.Pg
namespace Go.Pg
variable {P:cw}{E:XE}{st:XS}{fr:Fr}{s:St}
@[simp] theorem ATI(k:cd)(n:Int):A8 (.int k n)=[.int k n]:=rfl
@[simp] theorem AN2(b:Bool):A8 (.bool b)=[.bool b]:=rfl
@[simp] theorem ATJ(cs:List V):A8 (.agg cs)=cs:=rfl
@[simp] theorem AN3(b:Bool)(es:List (List V)):A8 (.list b es)=[.list b es]:=rfl
@[simp] theorem ATK:A8 .nil=[.nil]:=rfl
@[simp] theorem ATL(l k g n:Nat):A8 (.vec l k g n)=[.vec l k g n]:=rfl
@[simp] theorem AX7(l k g:Nat):A8 (.mp l k g)=[.mp l k g]:=rfl
@[simp] theorem AX8(f:cg)(x y:List V):A8 (.fn f x y)=[.fn f x y]:=rfl
@[simp] theorem ATM(l k g n:Nat):A8 (.ptr l k g n)=[.ptr l k g n]:=rfl
@[simp] theorem ATN(cs:List V):A8 (.ref cs)=[.ref cs]:=rfl
@[simp] theorem ATO(k:cd)(n:Int):A9 (.int k n)=true:=rfl
@[simp] theorem AN4(b:Bool):A9 (.bool b)=true:=rfl
@[simp] theorem ATP(cs:List V):A9 (.agg cs)=true:=rfl
@[simp] theorem AN5(b:Bool)(es:List (List V)):A9 (.list b es)=true:=rfl
@[simp] theorem ATQ:A9 .nil=true:=rfl
@[simp] theorem ATR(l k g n:Nat):A9 (.vec l k g n)=true:=rfl
@[simp] theorem AX9(l k g:Nat):A9 (.mp l k g)=true:=rfl
@[simp] theorem AYA(f:cg)(x y:List V):A9 (.fn f x y)=true:=rfl
@[simp] theorem ATS(l k g n:Nat):A9 (.ptr l k g n)=true:=rfl
@[simp] theorem ATT(cs:List V):A9 (.ref cs)=true:=rfl
@[simp] theorem AYB(op:BinOp)(T:ck)(k j:cd)(a b:Int):HE P op T (.int k a) (.int j b)=if k=j then EV op k a b else bW op k a b:=rfl
@[simp] theorem A5V(k:cd)(a b:Int):bW .shl k a b=if b<0 then none else some (.int k (k.wrap (a*2 ^ (min b.toNat k.bits)))):=rfl
@[simp] theorem A5W(k:cd)(a b:Int):bW .shr k a b=if b<0 then none else some (.int k (a.fdiv (2 ^ (min b.toNat k.bits)))):=rfl
section
variable (k:cd)(a b:Int)
@[simp] theorem AYC:EV .add k a b=some (.int k (k.wrap (a+b))):=rfl
@[simp] theorem AYD:EV .sub k a b=some (.int k (k.wrap (a-b))):=rfl
@[simp] theorem AYE:EV .mul k a b=some (.int k (k.wrap (a*b))):=rfl
@[simp] theorem AYF:EV .quo k a b=if b=0 then none else some (.int k (k.wrap (a.tdiv b))):=rfl
@[simp] theorem AYG:EV .rem k a b=if b=0 then none else some (.int k (a.tmod b)):=rfl
@[simp] theorem AYH:EV .and k a b=some (.int k (k.wrap (BitVec.ofInt k.bits a &&& BitVec.ofInt k.bits b).toNat)):=rfl
@[simp] theorem A5X:EV .or k a b=some (.int k (k.wrap (BitVec.ofInt k.bits a ||| BitVec.ofInt k.bits b).toNat)):=rfl
@[simp] theorem AJ4:EV .andNot k a b=some (.int k (k.wrap (BitVec.ofInt k.bits a &&& ~~~ BitVec.ofInt k.bits b).toNat)):=rfl
@[simp] theorem AYI:EV .shl k a b=if b<0 then none else some (.int k (k.wrap (a*2 ^ (min b.toNat k.bits)))):=rfl
@[simp] theorem AYJ:EV .shr k a b=if b<0 then none else some (.int k (a.fdiv (2 ^ (min b.toNat k.bits)))):=rfl
@[simp] theorem AYK:EV .eql k a b=some (.bool (decide (a=b))):=by show some (V.bool (a==b))=_;congr 2
@[simp] theorem AYL:EV .neq k a b=some (.bool (!decide (a=b))):=by show some (V.bool (a != b))=_;congr 2
@[simp] theorem AYM:EV .lss k a b=some (.bool (decide (a<b))):=rfl
@[simp] theorem AYN:EV .leq k a b=some (.bool (decide (a<=b))):=rfl
@[simp] theorem AYO:EV .gtr k a b=some (.bool (decide (b<a))):=rfl
@[simp] theorem AYP:EV .geq k a b=some (.bool (decide (b<=a))):=rfl
end
theorem AW{x:Int}(h1:-9223372036854775808<=x)(h2:x<9223372036854775808):IntKind.i64.wrap x=x:=by simp only[IntKind.wrap,IntKind.bits,IntKind.signed];simp;omega
@[simp] theorem AN6(T:ck)(a b:Bool):HE P .eql T (.bool a) (.bool b)=if uP P T=true then some (.bool (a==b)) else none:=rfl
@[simp] theorem AN7(T:ck)(a b:Bool):HE P .neq T (.bool a) (.bool b)=if uP P T=true then some (.bool (a != b)) else none:=rfl
def bl1(f:Bool->Bool):Option Bool->Option V
 |some b=>some (.bool (f b))
 |none=>none
@[simp] theorem A5Y(f:Bool->Bool)(b:Bool):bl1 f (some b)=some (.bool (f b)):=rfl
@[simp] theorem ATU(T:ck)(cs ds:List V):HE P .eql T (.agg cs) (.agg ds)=bl1 (fun b=>b) (TY P T cs ds):=by show(TY P T cs ds).map V.bool=_;cases TY P T cs ds<;>rfl
@[simp] theorem ATV(T:ck)(cs ds:List V):HE P .neq T (.agg cs) (.agg ds)=bl1 (fun b=>!b) (TY P T cs ds):=by show(TY P T cs ds).map (fun b=>V.bool !b)=_;cases TY P T cs ds<;>rfl
def faP(P:cw)(x:V):Option (ck×Nat)->Option V
 |some (U,off)=>if P.cellsOf U=0 then none else match x with
  |.ref cs=>some (.ref (cs.drop off))
  |.ptr l k g o=>some (.ptr l k g (o+off))
  |.eptr l k g i o=>some (.eptr l k g i (o+off))
  |_=>none
 |none=>none
@[simp] theorem BAS(T:ck)(x:V)(f:Nat):DH P T x f=faP P x (A5 P T f):=by unfold DH faP;cases A5 P T f<;>rfl
@[simp] theorem BAT(U:ck)(off:Nat)(cs:List V):faP P (.ref cs) (some (U,off))=if P.cellsOf U=0 then none else some (.ref (cs.drop off)):=rfl
@[simp] theorem BAU(U:ck)(off l k g o:Nat):faP P (.ptr l k g o) (some (U,off))=if P.cellsOf U=0 then none else some (.ptr l k g (o+off)):=rfl
@[simp] theorem A50(U:ck)(off l k g i o:Nat):faP P (.eptr l k g i o) (some (U,off))=if P.cellsOf U=0 then none else some (.eptr l k g i (o+off)):=rfl
def fd1(P:cw)(x:V):Option (ck×Nat)->Option V
 |some (U,off)=>match x with
  |.agg cs=>KU P U cs off
  |_=>none
 |none=>none
@[simp] theorem ATW(T:ck)(x:V)(f:Nat):IJ P T x f=fd1 P x (A5 P T f):=by unfold IJ fd1;cases x<;>cases A5 P T f<;>rfl
@[simp] theorem BAV(U:ck)(off:Nat)(cs:List V):fd1 P (.agg cs) (some (U,off))=KU P U cs off:=rfl
def cb(g off:Nat):Option (Nat×AX)->Option (List V)
 |some (g',.box cs)=>if g'=g then some (cs.drop off) else none
 |_=>none
@[simp] theorem BAW(g g' off:Nat)(cs:List V):cb g off (some (g',.box cs))=if g'=g then some (cs.drop off) else none:=rfl
def ce(g i off:Nat):Option (Nat×AX)->Option (List V)
 |some (g',.vec _ es)=>if g'=g then(es[i]?).map (·.drop off) else none
 |_=>none
@[simp] theorem BAX(g g' i off:Nat)(T:ck)(es:List (List V)):ce g i off (some (g',.vec T es))=if g'=g then(es[i]?).map (·.drop off) else none:=rfl
@[simp] theorem AN8(cs:List V):A7 s (.ref cs)=some cs:=rfl
@[simp] theorem AN9(l k g off:Nat):A7 s (.ptr l k g off)=cb g off (s.get l k):=by
 unfold cb;simp only[A7];cases s.get l k with
 |none=>rfl
 |some z=>obtain⟨g',r⟩:=z;cases r<;>rfl
@[simp] theorem AJ5(l k g i off:Nat):A7 s (.eptr l k g i off)=ce g i off (s.get l k):=by
 unfold ce;simp only[A7];cases s.get l k with
 |none=>rfl
 |some z=>obtain⟨g',r⟩:=z;cases r<;>rfl
def iv(P:cw)(e:ck)(l k g n:Nat)(j:Int):Option (Nat×AX)->Option V
 |some (g',.vec _ es)=>if g'=g/\0<=j/\j<n/\n<=es.length/\(es.getD j.toNat []).length=P.cellsOf e/\0<P.cellsOf e then some (.eptr l k g j.toNat 0) else none
 |_=>none
@[simp] theorem BAY(e:ck)(l k g g' n:Nat)(j:Int)(T:ck)(es:List (List V)):iv P e l k g n j (some (g',.vec T es))=if g'=g/\0<=j/\j<n/\n<=es.length/\(es.getD j.toNat []).length=P.cellsOf e/\0<P.cellsOf e then some (.eptr l k g j.toNat 0) else none:=rfl
def ia(P:cw)(s:St)(x i:V):Option (Option Nat×ck)->Option V
 |some (none,e)=>match x,i with
  |.list _ es,.int _ j=>if 0<=j/\j<es.length/\(es.getD j.toNat []).length=P.cellsOf e/\0<P.cellsOf e then some (.ref (es.getD j.toNat [])) else none
  |.vec l k g n,.int _ j=>iv P e l k g n j (s.get l k)
  |_,_=>none
 |some (some n,e)=>match x,i with
  |.ref cs,.int _ j=>if 0<=j/\j<n/\0<P.cellsOf e then some (.ref (cs.drop (j.toNat*P.cellsOf e))) else none
  |.ptr l k g o,.int _ j=>if 0<=j/\j<n/\0<P.cellsOf e then some (.ptr l k g (o+j.toNat*P.cellsOf e)) else none
  |.eptr l k g i' o,.int _ j=>if 0<=j/\j<n/\0<P.cellsOf e then some (.eptr l k g i' (o+j.toNat*P.cellsOf e)) else none
  |_,_=>none
 |none=>none
@[simp] theorem BAZ(T:ck)(x i:V):BU P s T x i=ia P s x i (BO P T):=by
 unfold BU ia;cases BO P T with
 |none=>rfl
 |some z=>
  obtain⟨n,e⟩:=z
  cases n with
  |some n=>cases x<;>cases i<;>rfl
  |none=>
   cases x with
   |vec l k g n=>
    cases i with
    |int q j=>
     simp only[iv]
     cases s.get l k with
     |none=>rfl
     |some z=>obtain⟨g',r⟩:=z;cases r<;>rfl
    |_=>rfl
   |_=>cases i<;>rfl
@[simp] theorem BA0(e:ck)(b:Bool)(es:List (List V))(k:cd)(j:Int):ia P s (.list b es) (.int k j) (some (none,e))=if 0<=j/\j<es.length/\(es.getD j.toNat []).length=P.cellsOf e/\0<P.cellsOf e then some (.ref (es.getD j.toNat [])) else none:=rfl
@[simp] theorem BEB(e:ck)(l q g n:Nat)(k:cd)(j:Int):ia P s (.vec l q g n) (.int k j) (some (none,e))=iv P e l q g n j (s.get l q):=rfl
@[simp] theorem BEC(n:Nat)(e:ck)(cs:List V)(k:cd)(j:Int):ia P s (.ref cs) (.int k j) (some (some n,e))=if 0<=j/\j<n/\0<P.cellsOf e then some (.ref (cs.drop (j.toNat*P.cellsOf e))) else none:=rfl
@[simp] theorem BED(n:Nat)(e:ck)(l q g o:Nat)(k:cd)(j:Int):ia P s (.ptr l q g o) (.int k j) (some (some n,e))=if 0<=j/\j<n/\0<P.cellsOf e then some (.ptr l q g (o+j.toNat*P.cellsOf e)) else none:=rfl
@[simp] theorem BA1(n:Nat)(e:ck)(l q g i o:Nat)(k:cd)(j:Int):ia P s (.eptr l q g i o) (.int k j) (some (some n,e))=if 0<=j/\j<n/\0<P.cellsOf e then some (.eptr l q g i (o+j.toNat*P.cellsOf e)) else none:=rfl
def ix(P:cw)(x i:V):Option (Option Nat×ck)->Option V
 |some (some n,e)=>match x,i with
  |.agg cs,.int _ j=>if 0<=j/\j<n/\0<P.cellsOf e then KU P e cs (j.toNat*P.cellsOf e) else none
  |_,_=>none
 |_=>none
@[simp] theorem ATX(T:ck)(x i:V):JO P T x i=ix P x i (BO P T):=by
 unfold JO ix;cases BO P T with
 |none=>rfl
 |some z=>obtain⟨n,e⟩:=z;cases n<;>cases x<;>cases i<;>rfl
@[simp] theorem BEE(n:Nat)(e:ck)(cs:List V)(k:cd)(j:Int):ix P (.agg cs) (.int k j) (some (some n,e))=if 0<=j/\j<n/\0<P.cellsOf e then KU P e cs (j.toNat*P.cellsOf e) else none:=rfl
theorem OX{T:ck}(h:D1 P T=true):∃e,P.underlying T=some (.slice e):=by
 unfold D1 at h;split at h
 ·rename_i e he;exact⟨e,he⟩
 ·cases h
@[simp] theorem sS{T:ck}(h:D1 P T=true)(b:Bool)(es:List (List V)):HZ P T (.list b es)=some (.int .i64 es.length):=by obtain⟨e,he⟩:=OX h;simp[HZ,he]
@[simp] theorem AYQ{T:ck}(h:D1 P T=true)(l k g n:Nat):HZ P T (.vec l k g n)=some (.int .i64 n):=by obtain⟨e,he⟩:=OX h;simp[HZ,he]
@[simp] theorem AAL{T:ck}(h:D1 P T=true):HZ P T .nil=some (.int .i64 0):=by obtain⟨e,he⟩:=OX h;simp[HZ,he]
def fv(place:Nat->Option (Nat×Nat))(cs:List V)(v:V)(rest:List (Nat×V)):Option (Nat×Nat)->Option (List V)
 |none=>none
 |some (off,size)=>if (A8 v).length=size/\off+(A8 v).length<=cs.length then DM place (A4 cs off (A8 v)) rest else none
@[simp] theorem AYR(place:Nat->Option (Nat×Nat))(cs:List V):DM place cs []=some cs:=rfl
@[simp] theorem ATY(place:Nat->Option (Nat×Nat))(cs:List V)(i:Nat)(v:V)(rest:List (Nat×V)):DM place cs ((i,v)::rest)=fv place cs v rest (place i):=by simp only[DM];unfold fv;cases place i<;>rfl
@[simp] theorem BA2(place:Nat->Option (Nat×Nat))(cs:List V)(v:V)(rest:List (Nat×V))(off size:Nat):fv place cs v rest (some (off,size))=if (A8 v).length=size/\off+(A8 v).length<=cs.length then DM place (A4 cs off (A8 v)) rest else none:=rfl
attribute [simp] A4
@[simp] theorem AOA(size:Nat)(cs:List V):CW size cs 0=[]:=rfl
@[simp] theorem AOB(size:Nat)(cs:List V)(n:Nat):CW size cs (n+1)=cs.take size::CW size (cs.drop size) n:=rfl
def ch1(size len:Nat):Option (List V)->Option V
 |some cs=>some (.list true (CW size cs len))
 |none=>none
@[simp] theorem A51(size len:Nat)(cs:List V):ch1 size len (some cs)=some (.list true (CW size cs len)):=rfl
def bsz(P:cw)(e:ck)(len:Nat)(parts:List (Nat×V)):Option (List V)->Option V
 |some z=>if (parts.all fun p=>A9 p.2)=true/\z.length=P.cellsOf e/\0<P.cellsOf e/\len*P.cellsOf e<=2 ^ 24 then
   ch1 (P.cellsOf e) len (DM (fun i=>some (i*P.cellsOf e,P.cellsOf e)) (bg len z).flatten parts) else none
 |none=>none
@[simp] theorem A52(e:ck)(len:Nat)(parts:List (Nat×V))(z:List V):bsz P e len parts (some z)=if (parts.all fun p=>A9 p.2)=true/\z.length=P.cellsOf e/\0<P.cellsOf e/\len*P.cellsOf e<=2 ^ 24 then
   ch1 (P.cellsOf e) len (DM (fun i=>some (i*P.cellsOf e,P.cellsOf e)) (bg len z).flatten parts) else none:=rfl
def bsl(P:cw)(len:Nat)(parts:List (Nat×V)):Option (Option Nat×ck)->Option V
 |some (none,e)=>bsz P e len parts (CE P e)
 |_=>none
@[simp] theorem A53(e:ck)(len:Nat)(parts:List (Nat×V)):bsl P len parts (some (none,e))=bsz P e len parts (CE P e):=rfl
@[simp] theorem BA4(T:ck)(len:Nat)(parts:List (Nat×V)):CB P T len parts=bsl P len parts (BO P T):=by
 unfold CB bsl;cases BO P T with
 |none=>rfl
 |some z=>
  obtain⟨n,e⟩:=z
  cases n with
  |some n=>rfl
  |none=>
   simp only[bsz]
   cases CE P e with
   |none=>rfl
   |some z=>
    simp only
    split
    ·cases DM (fun i=>some (i*P.cellsOf e,P.cellsOf e)) (bg len z).flatten parts<;>rfl
    ·rfl
def fn2(f:cg):Option (List V)->Option (List V)->Option V
 |some a,some b=>some (.fn f a b)
 |_,_=>none
@[simp] theorem A54(f:cg)(a b:List V):fn2 f (some a) (some b)=some (.fn f a b):=rfl
@[simp] theorem BEH(f:cg)(x y:Array cq)(r:cq->Option V):IA P (cQ (.makeFunc (.func f) x y)) s r=fn2 f (FJ r x.toList) (FJ r y.toList):=by show((x.toList.mapM r).bind fun a=>(y.toList.mapM r).bind fun b=>some (V.fn f a b))=_;rw[<-K0,<-K0];cases FJ r x.toList<;>cases FJ r y.toList<;>rfl
@[simp] theorem BA6(x y:cq)(Ts:Array ck)(r:cq->Option V):IA P (cQ (.call ⟨.builtin .max,#[x,y],Ts⟩)) s r=o2 RZ (r x) (r y):=iK _ _ _
@[simp] theorem BA7(x y:cq)(Ts:Array ck)(r:cq->Option V):IA P (cQ (.call ⟨.builtin .min,#[x,y],Ts⟩)) s r=o2 R3 (r x) (r y):=iK _ _ _
@[simp] theorem AYS(k j:cd)(m n:Int):RZ (.int k m) (.int j n)=if k=j then some (.int k (if n>m then n else m)) else none:=rfl
@[simp] theorem AYT(k j:cd)(m n:Int):R3 (.int k m) (.int j n)=if k=j then some (.int k (if n<m then n else m)) else none:=rfl
theorem C3{e:ck}{n:Nat}{ys:List (List V)}(hc:0<P.cellsOf e)(hz:YZ P e=true):CG P e n ys=true↔(ys.all (fun y=>y.length==P.cellsOf e)=true/\n+ys.length<=maxLen/\(n+ys.length)*P.bytesOf e<=140737488355328):=by simp[CG,hc,hz,and_assoc]
end Go.Pg
namespace Go.Pg
variable {P:cw}{E:XE}{st:XS}{fr:Fr}{s:St}
theorem AP{P:cw}{kn:CF0}{rec:G5}{f:cg}{args:List V}(h:kn f args=none):AZ P kn rec f args=KD P rec f args:=by unfold AZ;rw[h]
def pv(k γ:Nat):List (List V)->V
 |[]=>.nil
 |e::es=>.vec 0 k γ (e::es).length
def pl(k γ:Nat)(T:ck):List (List V)->AA
 |[]=>[]
 |e::es=>[(k,γ,.vec T (e::es))]
def sl:List (List V)->V
 |[]=>.nil
 |e::es=>.list false (e::es)
@[simp] theorem BEI(k γ:Nat):pv k γ []=.nil:=rfl
@[simp] theorem BEJ(k γ:Nat)(T:ck):pl k γ T []=[]:=rfl
@[simp] theorem BA8(k γ:Nat)(T:ck)(es:List (List V))(y:List V)(ys:List (List V)):pl k γ T (es++y::ys)=[(k,γ,.vec T (es++y::ys))]:=by cases es<;>rfl
@[simp] theorem BA9(k γ:Nat)(T:ck)(y:List V)(ys:List (List V)):pl k γ T (y::ys)=[(k,γ,.vec T (y::ys))]:=rfl
@[simp] theorem BHW(k γ:Nat)(T:ck)(es:List (List V)):kl k [] ((pl k γ T es).get k)=pl k γ T es:=by
 cases es with
 |nil=>rfl
 |cons e es=>simp
@[simp] theorem A55{k j:Nat}(γ:Nat)(T:ck)(es:List (List V))(h:j≠k):(pl k γ T es).get j=none:=by
 cases es with
 |nil=>rfl
 |cons e es=>simp[h]
@[simp] theorem ATZ(e k c γ:Nat)(loc:AA)(es:List (List V))(y:List V)(ys:List (List V))(hl:AA.get loc k=(pl k γ e es).get k)(h1:es.all (fun y=>y.length==P.cellsOf e)=true)(h2:CG P e es.length (y::ys)=true) :
  apV P e k c fr ⟨[],loc⟩ (pv k γ es) (y::ys)=some ⟨c+1,(k,true,pv k c (es++y::ys))::fr,⟨[],(k,c,.vec e (es++y::ys))::loc⟩⟩:=by
 cases es with
 |nil=>
  simp only[bk]at h2
  simp[h2,pv]
 |cons z es=>
  have hl:AA.get loc k=some (γ,.vec e (z::es)):=by rw[hl];simp
  simp only[pv,AJX,AFS,bk,if_true,hl,nT,T3,S6,true_and,h1,h2]
  simp[Nat.add_comm,Nat.add_left_comm]
theorem PM{T:ck}(f:Nat)(loc:AA)(k γ:Nat)(es:List (List V))(hl:AA.get loc k=(pl k γ T es).get k):A1 ⟨[],loc⟩ (f+1) (pv k γ es)=some (sl es):=by
 cases es with
 |nil=>rfl
 |cons z es=>
  have hl:AA.get loc k=some (γ,.vec T (z::es)):=by rw[hl];simp
  simp only[pv,bE,bk,if_true,hl,AFT,sl]
  simp
@[simp] theorem AYU(f k γ:Nat)(T:ck)(es:List (List V)):A1 ⟨[],pl k γ T es⟩ (f+1) (pv k γ es)=some (sl es):=PM (T:=T) f _ k γ es rfl
@[simp] theorem A56{T:ck}(h:D1 P T=true)(es:List (List V)):HZ P T (sl es)=some (.int .i64 es.length):=by
 cases es with
 |nil=>exact AAL h
 |cons e es=>exact sS h _ _
@[simp] theorem BHX(e:ck)(es:List (List V))(k:cd)(j:Int):ia P s (sl es) (.int k j) (some (none,e))=if 0<=j/\j<es.length/\(es.getD j.toNat []).length=P.cellsOf e/\0<P.cellsOf e then some (.ref (es.getD j.toNat [])) else none:=by
 cases es with
 |nil=>
  rw[if_neg (by simp only[bk];omega)]
  rfl
 |cons z es=>rfl
@[simp] theorem eW(f:Nat)(es:List (List V)):AG (f+1) (sl es)=es.all fun e=>e.all (AG f):=by cases es<;>rfl
@[simp] theorem A57(es:List (List V)):weakN (sl es)=.list false es:=by cases es<;>rfl
@[simp] theorem A58(es:List (List V)):weakM (sl es)=.list false es:=by cases es<;>rfl
@[simp] theorem BBA(es:List (List V)):weakV (sl es)=sl es:=by cases es<;>rfl
@[simp] theorem A59(es:List (List V)):weakC (sl es)=sl es:=by cases es<;>rfl
@[simp] theorem AYV(es:List (List V)):A8 (sl es)=[sl es]:=by cases es<;>rfl
@[simp] theorem AYW(es:List (List V)):A9 (sl es)=true:=by cases es<;>rfl
@[simp] theorem AYX(k γ:Nat)(es:List (List V)):A8 (pv k γ es)=[pv k γ es]:=by cases es<;>rfl
@[simp] theorem AYY(k γ:Nat)(es:List (List V)):A9 (pv k γ es)=true:=by cases es<;>rfl
@[simp] theorem AT0(es:List (List V)):elemsOf s (sl es)=some es:=by cases es<;>rfl
@[simp] theorem AYZ(f:Nat)(es:List (List V)):A1 s (f+1) (sl es)=some (sl es):=by cases es<;>rfl
@[simp] theorem AY0(es:List (List V)):E4 (some (sl es))=[]:=by cases es<;>rfl
@[simp] theorem AY1(es:List (List V)):KB (some (sl es))=[]:=by cases es<;>rfl
def adV(P:cw)(e:ck)(d c:Nat)(fr:Fr)(s:St)(xv:V)(ys:List (List V)):Option (XS×AK):=match I2 xv ys with
 |some es=>if es.all (fun y=>y.length==P.cellsOf e)=true/\CG P e es.length ys=true then some (⟨c+1,(d,true,.vec s.up.length d c (es.length+ys.length))::fr,s.put s.up.length d c (.vec e (es++ys))⟩,[(s.up.length,d),(s.up.length,d+IL)]) else none
 |none=>match xv with
  |.vec l q γ n=>wp [(l,q),(l,q+IL)] (apW P e d c fr s l q γ n ys (QN n ys (s.get l q)))
  |_=>none
def ad4(P:cw)(e:ck)(d c:Nat)(fr:Fr)(s:St)(xv:V):Option (List (List V))->Option (XS×AK)
 |some ys=>adV P e d c fr s xv ys
 |none=>none
@[simp] theorem AFU(e:ck)(d c:Nat)(xv:V)(ys:List (List V)):ad4 P e d c fr s xv (some ys)=adV P e d c fr s xv ys:=rfl
def ad3(P:cw)(d c:Nat)(fr:Fr)(s:St):Option (Option Nat×ck)->Option V->Option V->Option (XS×AK)
 |some (none,e),some xv,some yv=>ad4 P e d c fr s xv (elemsOf s yv)
 |_,_,_=>none
@[simp] theorem AFV(d c:Nat)(e:ck)(xv yv:V):ad3 P d c fr s (some (none,e)) (some xv) (some yv)=ad4 P e d c fr s xv (elemsOf s yv):=rfl
@[simp] theorem AOC(b:Bool)(es:List (List V)):pS (.list b es)=some es:=rfl
@[simp] theorem AT1:pS .nil=some []:=rfl
@[simp] theorem AY2(es:List (List V)):pS (sl es)=some es:=by cases es<;>rfl
@[simp] theorem AY3(d:Tmp)(c:Nat)(x y:cq)(T:ck):DG P E (some d) (.app [x,y] [T,T]) ⟨c,fr,s⟩=ad3 P d c fr s (BO P T) (CH fr x) (CH fr y):=by
 show xAppD P (some d) [x,y] [T,T] _=_;unfold xAppD xAppG;simp only[bc];cases hT:BO P T with
 |none=>cases CH fr x<;>cases CH fr y<;>rfl
 |some p=>
  obtain⟨k,e⟩:=p
  cases k with
  |some k=>cases CH fr x<;>cases CH fr y<;>rfl
  |none=>
   cases CH fr x with
   |none=>rfl
   |some xv=>
    cases CH fr y with
    |none=>rfl
    |some yv=>
     simp only[AFV]
     cases elemsOf s yv with
     |none=>rfl
     |some ys=>
      simp only[AFU,adV]
      cases I2 xv ys with
      |some es=>
       simp only[ifB,bj,bq]
       by_cases hC:es.all (fun y=>y.length==P.cellsOf e)=true/\CG P e es.length ys=true
       ·rw[if_pos hC,if_pos hC]
       ·rw[if_neg hC,if_neg hC]
      |none=>
       simp only
       unfold mN
       cases xv with
       |vec l q γ n=>
        simp only
        cases QN n ys (s.get l q)with
        |none=>rfl
        |some z=>
         obtain⟨γ',r⟩:=z
         cases r with
         |vec W es=>
          simp only[ifB,bj,bq,S6,bm,and_assoc]
          by_cases hC:γ'=γ/\W=e/\n=es.length/\es.all (fun y=>y.length==P.cellsOf e)=true/\CG P e es.length ys=true
          ·rw[if_pos hC,if_pos hC];rfl
          ·rw[if_neg hC,if_neg hC];rfl
         |_=>rfl
       |_=>rfl
@[simp] theorem BEL(e k c γ:Nat)(loc:AA)(es:List (List V))(y:List V)(ys:List (List V))(hl:AA.get loc k=(pl k γ e es).get k)(h1:es.all (fun y=>y.length==P.cellsOf e)=true)(h2:CG P e es.length (y::ys)=true) :
  adV P e k c fr ⟨[],loc⟩ (pv k γ es) (y::ys)=some (⟨c+1,(k,true,pv k c (es++y::ys))::fr,⟨[],(k,c,.vec e (es++y::ys))::loc⟩⟩,[(0,k),(0,k+IL)]):=by
 cases es with
 |nil=>
  simp only[bk]at h2
  simp[adV,I2,h2,pv]
 |cons z es=>
  have hl:AA.get loc k=some (γ,.vec e (z::es)):=by rw[hl];simp
  simp only[pv,adV,I2,AFS,bk,if_true,hl,nT,T3,S6,true_and,h1,h2]
  simp[Nat.add_comm,Nat.add_left_comm]
end Go.Pg
namespace Go.Pg
variable {P:cw}{E:XE}{st:XS}{fr:Fr}{s:St}
theorem sT{α:Type}(x:α):CM [x]=some ([],x):=rfl
def un1{α:Type}(x:α):Option (List α×α)->Option (List α×α)
 |some (a,b)=>some (x::a,b)
 |none=>none
@[simp] theorem A6A{α:Type}(x:α)(a:List α)(b:α):un1 x (some (a,b))=some (x::a,b):=rfl
theorem VY{α:Type}(x y:α)(l:List α):CM (x::y::l)=un1 x (CM (y::l)):=by simp only[CM];unfold un1;cases CM (y::l)<;>rfl
attribute [simp] sT VY
def bF(d:Option Tmp)(fr:Fr)(c:Nat)(r:V):Option (List AA×AA)->Option XS
 |some (u,l)=>some ⟨c,putD fr d true r,⟨u,l⟩⟩
 |none=>none
@[simp] theorem AY4(d:Tmp)(c:Nat)(r:V)(u:List AA)(l:AA):bF (some d) fr c r (some (u,l))=some ⟨c,(d,true,r)::fr,⟨u,l⟩⟩:=rfl
@[simp] theorem BBB(c:Nat)(r:V)(u:List AA)(l:AA):bF none fr c r (some (u,l))=some ⟨c,fr,⟨u,l⟩⟩:=rfl
def nW(d:Option Tmp)(fr:Fr)(st:XS):Option V->Option XS
 |some r=>bF d fr st.c r (CM (st.s.up.map (AJ st.s)))
 |none=>none
@[simp] theorem AY5(d:Option Tmp)(c:Nat)(fr':Fr)(up:List AA)(loc:AA)(r:V):nW d fr ⟨c,fr',⟨up,loc⟩⟩ (some r)=bF d fr c r (CM (up.map (AJ ⟨up,loc⟩))):=rfl
def clX(s:St):Option V->Option V
 |some r=>A1 s 4 r
 |none=>none
@[simp] theorem A6B(r:V):clX s (some r)=A1 s 4 r:=rfl
def iL(P:cw)(d:Option Tmp)(fr:Fr)(rs:List ResultVar)(r:Option (Exit×XS)):Option XS:=match r with
 |some (.ret,st)=>nW d fr st (clX st.s (FV P rs st.fr st.s))
 |some (.normal,st)=>nW d fr st (clX st.s (FV P rs st.fr st.s))
 |_=>none
@[simp] theorem AFW(d:Option Tmp)(rs:List ResultVar):iL P d fr rs (some (.ret,st))=nW d fr st (clX st.s (FV P rs st.fr st.s)):=rfl
@[simp] theorem nX(d:Option Tmp)(rs:List ResultVar):iL P d fr rs (some (.normal,st))=nW d fr st (clX st.s (FV P rs st.fr st.s)):=rfl
theorem nY{A:Ann}{kn:CF0}{n:Nat}{f:cg}{fn:Func}{code:cz}{args:List V}(hf:P.funcs[f]? = some fn)(hb:fn.body=some code)(hs:bp args.length fn.ntmps=true)(hcl:(args.all (AG 9)&&!(BK P f))=false)(d:Option Tmp)(c:Nat)(fr:Fr)(up:List AA)(loc:AA) :
  GH (BH P A kn n) d ⟨c,fr,⟨up,loc⟩⟩ f args=iL P d fr fn.results.toList (AE P A kn n fn.ntmps code ⟨c,AD 0 args,⟨up++[loc],[]⟩⟩):=by
 show(match aA P kn (AE P A kn n) f args ⟨c,fr,⟨up,loc⟩⟩ with
  |some (r,st')=>some (⟨st'.c,putD st'.fr d true r,st'.s⟩:XS)
  | none=>none)=_
 unfold aA
 rw[hcl]
 unfold eD Z9 uY
 rw[hf]
 simp only[hb,hs]
 generalize AE P A kn n fn.ntmps code ⟨c,AD 0 args,⟨up++[loc],[]⟩⟩=q
 have aux:∀st:XS,(match(match(match zE P fn.results.toList st with
   |some (r,c,up)=>match CM up with
    |some (u,l)=>some (r,(⟨c,fr,⟨u,l⟩⟩:XS))
    |none=>none
   | none=>none:Option (V×XS))with
   |some r=>some r
   | none=>none:Option (V×XS))with
  |some (r,st')=>some (⟨st'.c,putD st'.fr d true r,st'.s⟩:XS)
  | none=>none)=nW d fr st (clX st.s (FV P fn.results.toList st.fr st.s)):=fun st=>by
  unfold zE clX
  cases FV P fn.results.toList st.fr st.s with
  |none=>rfl
  |some r=>
   cases h:A1 st.s 4 r with
   |none=>simp[nW,h]
   |some r'=>
    simp only[h,nW]
    cases CM (st.s.up.map (AJ st.s))with
    |none=>rfl
    |some z=>rfl
 cases q with
 |none=>rfl
 |some q=>
  obtain⟨e,st⟩:=q
  have:=aux st
  cases e with
  |ret=>simp only[AFW,<-this];cases zE P fn.results.toList st with
   |none=>rfl
   |some z=>
    obtain⟨r,c,up⟩:=z
    simp only
    cases CM up<;>rfl
  |normal=>simp only[nX,<-this];cases zE P fn.results.toList st with
   |none=>rfl
   |some z=>
    obtain⟨r,c,up⟩:=z
    simp only
    cases CM up<;>rfl
  |_=>rfl
theorem A3{A:Ann}{kn:CF0}{n:Nat}{f:cg}{fn:Func}{code:cz}{args:List V}(hf:P.funcs[f]? = some fn)(hb:fn.body=some code)(hs:bp args.length fn.ntmps=true)(hcl:args.all (AG 9)=false)(d:Option Tmp)(c:Nat)(fr:Fr)(up:List AA)(loc:AA) :
  GH (BH P A kn n) d ⟨c,fr,⟨up,loc⟩⟩ f args=iL P d fr fn.results.toList (AE P A kn n fn.ntmps code ⟨c,AD 0 args,⟨up++[loc],[]⟩⟩) :=
 nY hf hb hs (by rw[hcl,Bool.false_and]) d c fr up loc
theorem wG{A:Ann}{kn:CF0}{n:Nat}{f:cg}{fn:Func}{code:cz}{args:List V}(hf:P.funcs[f]? = some fn)(hb:fn.body=some code)(hs:bp args.length fn.ntmps=true)(hh:BK P f=true)(d:Option Tmp)(c:Nat)(fr:Fr)(up:List AA)(loc:AA) :
  GH (BH P A kn n) d ⟨c,fr,⟨up,loc⟩⟩ f args=iL P d fr fn.results.toList (AE P A kn n fn.ntmps code ⟨c,AD 0 args,⟨up++[loc],[]⟩⟩) :=
 nY hf hb hs (by rw[hh,Bool.not_true,Bool.and_false]) d c fr up loc
@[simp] theorem AT3(f l k g o:Nat):AG (f+1) (.ptr l k g o)=false:=rfl
@[simp] theorem AT4(f l k g o:Nat):AG (f+1) (.vec l k g o)=false:=rfl
@[simp] theorem AY6(f l k g:Nat):AG (f+1) (.mp l k g)=false:=rfl
@[simp] theorem A6C(l k g o:Nat):weakV (.ptr l k g o)=.ptr l k g o:=rfl
@[simp] theorem A6D(l k g o:Nat):weakV (.vec l k g o)=.vec l k g o:=rfl
@[simp] theorem A6E(cs:List V):weakV (.ref cs)=.ref cs:=rfl
@[simp] theorem BEN(d c:Nat)(f:cg)(x y:List V):bx1 d c fr s (some (.fn f x y))=some ⟨c+1,(d,true,.ptr s.up.length d c 0)::fr,s.put s.up.length d c (.box [.fn f x y])⟩:=rfl
@[simp] theorem BBC(d c:Nat)(l k g o:Nat):bx1 d c fr s (some (.ptr l k g o))=some ⟨c+1,(d,true,.ptr s.up.length d c 0)::fr,s.put s.up.length d c (.box [.ptr l k g o])⟩:=rfl
@[simp] theorem BEO(d c:Nat)(es:List (List V)):bx1 d c fr s (some (sl es))=some ⟨c+1,(d,true,.ptr s.up.length d c 0)::fr,s.put s.up.length d c (.box [sl es])⟩:=by cases es<;>rfl
@[simp] theorem E5:AJ s []=[]:=rfl
@[simp] theorem A6(k g:Nat)(r:AX)(L:AA):AJ s ((k,g,r)::L)=(k,g,CC s r)::AJ s L:=rfl
def sr1(r:AX):Option (List V)->AX
 |some ds=>.box ds
 |none=>r
@[simp] theorem A6F(r:AX)(ds:List V):sr1 r (some ds)=.box ds:=rfl
theorem EZ(cs:List V):CC s (.box cs)=sr1 (.box cs) (GW (BV s) cs):=by unfold CC CA sr1;simp only;cases GW (BV s) cs<;>rfl
attribute [simp] EZ
theorem sU(f:V->Option V):GW f []=some []:=rfl
theorem nZ(f:V->Option V)(v:V)(l:List V):GW f (v::l)=mc2 (f v) (GW f l):=by
 simp only[GW];cases f v with
 |none=>rfl
 |some x=>cases GW f l<;>rfl
attribute [simp] sU nZ
@[simp] theorem AOD(k:cd)(n:Int):BV s (.int k n)=some (.int k n):=rfl
@[simp] theorem AJ6(b:Bool):BV s (.bool b)=some (.bool b):=rfl
@[simp] theorem AJ7(b:Bool)(es:List (List V)):BV s (.list b es)=some (.list b es):=rfl
@[simp] theorem AOE:BV s .nil=some .nil:=rfl
@[simp] theorem AT5(es:List (List V)):BV s (sl es)=some (sl es):=by cases es<;>rfl
@[simp] theorem AT6(f:cg)(x y:List V):BV s (.fn f x y)=A1 s 4 (.fn f x y):=rfl
@[simp] theorem AOF(l k g o:Nat):BV s (.ptr l k g o)=A1 s 4 (.ptr l k g o):=rfl
@[simp] theorem oA(l k g o:Nat):BV s (.vec l k g o)=A1 s 4 (.vec l k g o):=rfl
@[simp] theorem AOG(cs:List V):BV s (.agg cs)=A1 s 4 (.agg cs):=rfl
@[simp] theorem AY7(f:Nat)(g:cg)(x y:List V):A1 s (f+1) (.fn g x y)=fn2 g (P0 (A1 s f) x) (P0 (A1 s f) y):=by simp only[A1,S8,fn2];cases P0 (A1 s f) x<;>cases P0 (A1 s f) y<;>rfl
def cp1(f:List V->Option (List V))(g off:Nat):Option (Nat×AX)->Option V
 |some (g',.box cs)=>if g'=g then(f cs).map fun ds=>.ref (ds.drop off) else none
 |_=>none
@[simp] theorem AT7(f:Nat)(up:List AA)(loc:AA)(l k g off:Nat):A1 ⟨up,loc⟩ (f+1) (.ptr l k g off)=if l=up.length then cp1 (P0 (A1 ⟨up,loc⟩ f)) g off (loc.get k) else some (.ptr l k g off):=by
 simp only[A1,S8];split
 ·cases loc.get k with
  |none=>rfl
  |some z=>obtain⟨g',r⟩:=z;cases r<;>rfl
 ·rfl
def ow3(d c:Nat)(fr:Fr)(s:St):Option V->Option XS
 |some r=>some ⟨c+1,(d,true,r)::fr,s.put s.up.length d c .dead⟩
 |none=>none
@[simp] theorem A6G(d c:Nat)(r:V):ow3 d c fr s (some r)=some ⟨c+1,(d,true,r)::fr,s.put s.up.length d c .dead⟩:=rfl
theorem AJ8:CC s .dead=.dead:=rfl
attribute [simp] AJ8
end Go.Pg
theorem Go.Pg.qNz (m:Nat)(h:0<m):∃k,m=k+1:=⟨m-1,by omega⟩
