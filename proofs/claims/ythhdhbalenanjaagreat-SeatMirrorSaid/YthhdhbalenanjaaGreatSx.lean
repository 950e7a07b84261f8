/- Operations of a region with all that hangs on the region alone worked out; running them one after another. No program in sight. -/
import Derived.Test.YthhdhbalenanjaaGreatQ2
noncomputable section
open Go renaming TypeId->bp,Operand->cj,Program->ck,Oper->cq,Code->cw,FuncId->cx,IntKind->cz
open Bool renaming and_eq_true->bj
open List renaming length_append->bk,length_nil->bq,getElem?_eq_getElem->bw,mapM_cons->bz,all_cons->bb,replicate->bc,mapM_nil->bh
open Nat renaming beq->bx,blt_eq->bf,beq_eq->bg,ble->bm,blt->bn
namespace Go.Pg
variable {P:ck}{E:XE}
inductive IK where
 |mv (x:cj)
 |bin (op:BinOp) (T:bp) (x y:cj)
 |fa (T:bp) (x:cj) (f:Nat)
 |ld (T:bp) (x:cj)
 |ldz (T:bp) (x:cj)
 |pick (c a b:cj)
 |build (T:bp) (ps:List (Nat×cj))
 |buildS (T:bp) (n:Nat) (ps:List (Nat×cj))
 |oth (op:Op)
 |alloc (T:bp)
 |box (x:cj)
 |mkM (r:Option cj)
 |mkS (T:bp) (x y:cj)
 |sto (T:bp) (x y:cj)
 |upd (T:bp) (x i y:cj)
 |call (own:Bool) (tk:Option Tmp) (f:cj) (args:List cj)
 |app (args:List cj) (Ts:List bp)
 |clr (args:List cj) (Ts:List bp)
 |cpy (args:List cj) (Ts:List bp)
def tY (op : Op) : cq := { dst := none, op := op, type := 0, pos := "", after := #[], guard := none }
def AHK(all:List cq):List cj->Option Tmp
 |[]=>none
 |x::r=>match x with
  |.tmp t=>cond (ALP all t) (some t) (AHK all r)
  |_=>AHK all r
def NU(all:List cq)(o:cq):IK:=match o.op with
 |.move x=>.mv x
 |.assign x=>.mv x
 |.binOp op T x y _=>.bin op T x y
 |.fieldAddr T x f=>.fa T x f
 |.load T x=>.ld T x
 |.pick c a b=>.pick c a b
 |.build T ps=>.build T ps.toList
 |.buildSlice T n ps=>.buildS T n ps.toList
 |.alloc T=>.alloc T
 |.box _ x=>.box x
 |.makeMap _ r=>.mkM r
 |.makeSlice T x y=>.mkS T x y
 |.store T x y=>.sto T x y
 |.mapUpdate T x i y=>.upd T x i y
 |.call c=>match c.callee with
  |.value f=>.call (DQ all o) (AHK all c.args.toList) f c.args.toList
  |.builtin .append=>.app c.args.toList c.argTypes.toList
  |.builtin .clear=>.clr c.args.toList c.argTypes.toList
  |.builtin .copy=>.cpy c.args.toList c.argTypes.toList
  |_=>.oth o.op
 |op=>.oth op
structure J0 where
 g:Option (Tmp×Bool)
 d:Option Tmp
 k:IK
def comp(all:List cq)(o:cq):J0:=⟨LB all o,o.dst,NU all o⟩
def AHL:IK->IK
 |.ld T x=>.ldz T x
 |k=>k
def gA(all:List cq)(o:cq):J0:=⟨LB all o,o.dst,cond (zB all o) (AHL (NU all o)) (NU all o)⟩
def EW(d:Option Tmp)(st:XS)(r:Option V):Option XS:=match r with
 |some v=>some ⟨st.c,putD st.fr d true v,st.s⟩
 |none=>none
def cF(tk:Option Tmp)(st:XS):XS:=match tk with
 |none=>st
 | some t=>match(match BD st.fr t with
   |some (true,.vec l q γ n)=>match st.s.get l q with
    |some (γ',.vec _ es)=>Bool.rec none (some ⟨st.c,(t,true,.list false (es.take n))::st.fr,st.s.put l q γ .dead⟩) (bx γ' γ&&bm n es.length&&bn γ st.c)
    |_=>none
   | _=>none:Option XS)with
  |some st1=>st1
  |none=>st
def C4(P:ck)(E:XE)(d:Option Tmp)(k:IK)(st:XS):Option XS:=match k with
 |.mv x=>EW d st (CI st.fr x)
 |.bin op T x y=>EW d st (AAR P st.fr op T x y)
 |.fa T x f=>EW d st (xFA P st.fr T x f)
 |.ld T x=>EW d st (NS P st.fr st.s T x)
 |.ldz T x=>EW d st (NS P st.fr st.s T x)
 |.pick c a b=>EW d st (wE st.fr c a b)
 |.build T ps=>EW d st (V1 P st.fr T ps)
 |.buildS T n ps=>EW d st (P0 P st.fr T n ps)
 |.oth op=>EW d st (JX P (tY op) st.s (CI st.fr))
 |.alloc T=>O6 P d T st
 |.box x=>nL d x st
 |.mkM r=>AAN d r st
 |.mkS T x y=>XA P d T x y st
 |.sto T x y=>JJ P d T x y st
 |.upd T x i y=>AAO P d T x i y st
 |.call own tk f args=>aZ E own d f args (cF tk st)
 |.app args Ts=>xAppend P d args Ts st
 |.clr args Ts=>iQ P d args Ts st
 |.cpy args Ts=>wG P d args Ts st
def opI(P:ck)(E:XE)(i:J0)(st:XS):Option XS:=match gdX st.fr i.g with
 |some true=>C4 P E i.d i.k st
 |some false=>some (JB i.d st)
 |none=>none
def opO(P:ck)(E:XE)(i:J0)(r:Option XS):Option XS:=match r with
 |some st=>opI P E i st
 |none=>none
def PG(P:ck)(E:XE):List J0->Option XS->Option XS
 |[],r=>r
 |i::l,r=>PG P E l (opO P E i r)
theorem cG(all:List cq)(st:XS):∀(xs:List cj),(match NC all st xs with
  |some st1=>st1
  | none=>st)=cF (AHK all xs) st
 |[]=>rfl
 |x::r=>by
  unfold NC AHK;cases x with
  |tmp t=>
   simp only
   cases ALP all t with
   |false=>exact cG all st r
   |true=>rfl
  |_=>exact cG all st r
theorem A40{o:cq}{st:XS}:AFY P (fun _=>false) o st=none:=by unfold AFY;split<;>rfl
theorem AHM(hl:E.lit=fun _=>false)(all:List cq)(o:cq)(st:XS):opX P E all o st=opI P E (comp all o) st:=by
 unfold opX opI;rw[hl];simp only[A40];have:(match AFZ all o st with
   |some st1=>QX P E (DQ all) o st1
   | none=>QX P E (DQ all) o st)=C4 P E o.dst (NU all o) st:=by
  have ht:∀(r:Option XS),(match r with
   |some st1=>QX P E (DQ all) o st1
   | none=>QX P E (DQ all) o st)=QX P E (DQ all) o (match r with
   |some st1=>st1
   | none=>st):=fun r=>by cases r <;> rfl
  rw[ht]
  obtain⟨d,op,T,pos,af,gd⟩:=o
  cases op with
  |call c=>
   obtain⟨cal,args,Ts⟩:=c
   cases cal with
   |value f=>
    show QX P E _ _ (match NC all st args.toList with|some st1=>st1|none=>st)=_
    rw[cG]
    rfl
   |builtin b=>cases b<;>rfl
   |_=>rfl
  |_=>rfl
 show _=(match gdX st.fr (LB all o)with
  |some true=>C4 P E o.dst (NU all o) st
  |some false=>some (JB o.dst st)
  | none=>none)
 cases gdX st.fr (LB all o)with
 |none=>rfl
 |some b=>
  cases b with
  |false=>rfl
  |true=>exact this
theorem IM:∀(l:List J0),PG P E l none=none
 |[]=>rfl
 |_::l=>IM l
theorem xI(hl:E.lit=fun _=>false)(all:List cq):∀(l:List cq) (st:XS),iT P E all l st=PG P E (l.map (comp all)) (some st)
 |[],st=>rfl
 |o::l,st=>by
  simp only[iT,List.map_cons,PG,opO];rw[AHM hl];cases opI P E (comp all o) st with
  |none=>exact(IM _).symm
  |some st'=>exact xI hl all l st'
def H8(P:ck)(k:IK)(r:cj->Option V):AK:=match k with
 |.ld T x=>CE (bx (P.cellsOf T) 1) (r x)
 |.app xs _=>KG r xs
 |.oth op=>EG P (tY op) r
 |_=>[]
def DJ(P:ck)(E:XE)(d:Option Tmp)(k:IK)(st:XS):Option (XS×AK):=match k with
 |.mv x=>UK (EW d st (CI st.fr x))
 |.bin op T x y=>UK (EW d st (AAR P st.fr op T x y))
 |.fa T x f=>UK (EW d st (xFA P st.fr T x f))
 |.ld T x=>UK (EW d st (NS P st.fr st.s T x))
 |.ldz T x=>UK (EW d st (NS P st.fr st.s T x))
 |.pick c a b=>UK (EW d st (wE st.fr c a b))
 |.build T ps=>UK (EW d st (V1 P st.fr T ps))
 |.buildS T n ps=>UK (EW d st (P0 P st.fr T n ps))
 |.oth op=>UK (EW d st (JX P (tY op) st.s (CI st.fr)))
 |.alloc T=>UK (O6 P d T st)
 |.box x=>UK (nL d x st)
 |.mkM r=>UK (AAN d r st)
 |.mkS T x y=>UK (XA P d T x y st)
 |.sto T x y=>AF1 P d T x y st
 |.upd ..=>none
 |.call own _ f args=>Bool.rec (UK (bA E.c0 d f args st)) (UK (HX E.co d f args st)) own
 |.app args Ts=>xAppD P d args Ts st
 |.clr ..=>none
 |.cpy ..=>none
def pX:IK->Bool
 |.alloc _|.box _|.mkM _|.mkS ..|.sto ..|.app ..=>true
 |.call own ..=>own
 |_=>false
def WE(P:ck)(E:XE)(i:J0)(st:XS):Option (XS×AK):=match gdX st.fr i.g with
 |some true=>DJ P E i.d i.k st
 |some false=>Bool.rec (some (JB i.d st,[])) none (pX i.k)
 |none=>none
def AMI(P:ck)(E:XE)(i:J0)(r:Option (XS×AK×AK)):Option (XS×AK×AK):=match r with
 |some (st,rd,wr)=>match WE P E i st with
  |some (st',w)=>some (st',H8 P i.k (CI st.fr)++rd,w++wr)
  |none=>none
 |none=>none
def dU(P:ck)(E:XE):List J0->Option (XS×AK×AK)->Option (XS×AK×AK)
 |[],r=>r
 |i::l,r=>dU P E l (AMI P E i r)
def tZ(r:Option (XS×AK×AK)):Option XS:=match r with
 |some (st,rd,wr)=>Bool.rec none (some st) (wr.all fun p=>!(rd.contains p))
 |none=>none
structure uA where
 new:List Tmp
 ph:List J0
 sq:List J0
def jN(new:List Tmp)(st:XS):Bool:=new.all fun d=>(st.s.loc.get d).isNone
def AHN(new:List Tmp)(r:Option XS):Option (XS×AK×AK):=match r with
 |some st=>Bool.rec none (some (st,[],[])) (jN new st)
 |none=>none
def dV(P:ck)(E:XE):List uA->Option XS->Option XS
 |[],r=>r
 |p::S,r=>dV P E S (PG P E p.sq (tZ (dU P E p.ph (AHN p.new r))))
def gB(l:List cq)(R:List Nat):List J0:=R.filterMap fun i=>(l[i]?).map (comp l)
def gC(l:List cq)(R:List Nat):List J0:=R.filterMap fun i=>(l[i]?).map (gA l)
def xJ(l:List cq)(R:List Nat):List Tmp:=R.filterMap fun i=>match l[i]? with
 |some o=>cond (kA (DQ l) o) o.dst none
 |none=>none
def xK(l:List cq)(p:List Nat×List Nat):uA:=⟨xJ l p.1,gC l p.1,gB l p.2⟩
def inB(l:List cq)(S:XN):Bool:=S.all fun p=>p.1.all (fun i=>bn i l.length)&&p.2.all (fun i=>bn i l.length)
theorem ABE(all:List cq)(o:cq)(st:XS):iV P E (DQ all) o st=DJ P E o.dst (NU all o) st:=by
 obtain⟨d,op,T,pos,af,gd⟩:=o;cases op with
 |call c=>
  obtain⟨cal,args,Ts⟩:=c
  cases cal with
  |builtin b=>cases b<;>rfl
  |_=>rfl
 |_=>rfl
theorem ATP(all:List cq)(o:cq)(r:cj->Option V):EG P o r=H8 P (NU all o) r:=by
 obtain⟨d,op,T,pos,af,gd⟩:=o;cases op with
 |call c=>
  obtain⟨cal,args,Ts⟩:=c
  cases cal with
  |builtin b=>cases b<;>rfl
  |_=>rfl
 |_=>rfl
theorem A41(all:List cq)(o:cq):(kA (DQ all) o||kW o||kP o)=pX (NU all o):=by
 obtain⟨d,op,T,pos,af,gd⟩:=o;cases op with
 |call c=>
  obtain⟨cal,args,Ts⟩:=c
  cases cal with
  |builtin b=>cases b<;>rfl
  |value f=>simp[kA,kW,kP,pX,NU]
  |_=>rfl
 |_=>rfl
theorem AMJ(all:List cq)(o:cq)(st:XS):sT P E all o st=WE P E (comp all o) st:=by unfold sT WE;rw[ABE,A41];rfl
theorem uB(d:Option Tmp)(k:IK)(st:XS):DJ P E d (AHL k) st=DJ P E d k st:=by cases k<;>rfl
theorem AMK(k:IK):pX (AHL k)=pX k:=by cases k<;>rfl
theorem ATQ(all:List cq)(o:cq)(st:XS):WE P E (gA all o) st=WE P E (comp all o) st:=by
 unfold gA comp;cases zB all o with
 |false=>rfl
 |true=>
  show WE P E ⟨LB all o,o.dst,AHL (NU all o)⟩ st=_
  unfold WE
  simp only[uB,AMK]
theorem ATR(all:List cq)(o:cq)(r:cj->Option V):cond (zB all o) [] (EG P o r)=H8 P (gA all o).k r:=by
 unfold gA;cases hz:zB all o with
 |false=>exact ATP all o r
 |true=>
  obtain⟨T,x,ho⟩:=AOU hz
  show[]=H8 P (AHL (NU all o)) r
  unfold NU
  rw[ho]
  rfl
theorem P7:∀(l:List J0),dU P E l none=none
 |[]=>rfl
 |_::l=>P7 l
theorem AHO(l:List cq):∀(R:List Nat) (st:XS) (rd wr:AK),R.all (fun i=>bn i l.length)=true->phX P E l R st rd wr=dU P E (gC l R) (some (st,rd,wr))
 |[],st,rd,wr,_=>rfl
 |i::R,st,rd,wr,h=>by
  simp only[bb,bj,bf]at h;have hi:=bw h.1;have hp:gC l (i::R)=gA l l[i]::gC l R:=by simp[gC,hi]
  rw[hp];simp only[phX,hi,dU,AMI,AMJ,ATQ];cases WE P E (comp l l[i]) st with
  |none=>exact(P7 _).symm
  |some q=>
   obtain⟨st',w⟩:=q
   simp only
   rw[AHO l R _ _ _ h.2,ATR l]
theorem AHP(hl:E.lit=fun _=>false)(l:List cq):∀(R:List Nat) (st:XS),R.all (fun i=>bn i l.length)=true->sqX P E l R st=PG P E (gB l R) (some st)
 |[],st,_=>rfl
 |i::R,st,h=>by
  simp only[bb,bj,bf]at h;have hi:=bw h.1;have hp:gB l (i::R)=comp l l[i]::gB l R:=by simp[gB,hi]
  rw[hp];simp only[sqX,hi,PG,opO,AHM hl];cases opI P E (comp l l[i]) st with
  |none=>exact(IM _).symm
  |some st'=>exact AHP hl l R st' h.2
theorem MG:∀(S:List uA),dV P E S none=none
 |[]=>rfl
 |p::S=>by simp only[dV,AHN,P7,tZ,IM];exact MG S
theorem oV(l:List cq)(st:XS):∀(R:List Nat),aN (DQ l) l R st.s.loc=jN (xJ l R) st
 |[]=>rfl
 |i::R=>by
  have ih:=oV l st R;unfold aN jN xJ at *;simp only[bb,List.filterMap_cons,ih];cases hi:l[i]? with
  |none=>simp
  |some o=>
   simp only
   cases hk:kA (DQ l) o with
   |false=>simp
   |true=>
    cases hd:o.dst with
    |none=>simp
    |some d=>simp
theorem xL(hl:E.lit=fun _=>false)(l:List cq):∀(S:XN) (st:XS),inB l S=true->AAT P E l S st=dV P E (S.map (xK l)) (some st)
 |[],st,_=>rfl
 |p::S,st,h=>by
  simp only[inB,bb,bj]at h;obtain⟨⟨h1,h2⟩,h3⟩:=h;simp only[AAT,List.map_cons,dV,xK,AHN,oV];cases jN (xJ l p.1) st with
  |false=>
   simp only[P7,tZ,IM]
   exact(MG _).symm
  |true=>
   simp only[AHO l _ _ _ _ h1]
   cases dU P E (gC l p.1) (some (st,[],[]))with
   |none=>simp only[tZ,IM];exact(MG _).symm
   |some q=>
    obtain⟨st1,rd,wr⟩:=q
    simp only[tZ]
    cases (wr.all fun p=>!rd.contains p)with
    |false=>simp only[IM];exact(MG _).symm
    |true=>
     simp only[AHP hl l _ _ h2]
     cases PG P E (gB l p.2) (some st1)with
     |none=>exact(MG _).symm
     |some HE=>exact xL hl l S HE h3
inductive IR where
 |str (l:List J0)
 |drw (S:List uA)
 |cls (ks:List (Nat×Nat×Nat))
def xM(P:ck)(ops:List cq)(draw:Bool):IR:=cond draw (cond (XQ P ops) (.cls (IL ops)) (.drw ((dJ ops).map (xK ops)))) (.str (ops.map (comp ops)))
def okR(P:ck)(ops:List cq)(draw:Bool):Bool:=cond draw (cond (XQ P ops) true (inB ops (dJ ops))) true
def KJ(P:ck)(E:XE)(i:IR)(st:XS):Option XS:=match i with
 |.str l=>PG P E l (some st)
 |.drw S=>dV P E S (some st)
 |.cls ks=>RT P ks (some st)
end Go.Pg
namespace Go.Pg
variable {P:ck}{σ σ':Nat->Nat}{δ:Nat}{pre:List AA}{s:St}{fr:Fr}
abbrev Tr:=Option (List Nat×List Nat)
abbrev Ann:=Nat->Nat->Tr
def CO(a:Tr)(st:XS):XS:=match a with
 |some p=>RO p.1 p.2 st
 |none=>st
theorem MH{a:Tr}{st:XS}(h:Bd st):KQ st (CO a st):=by
 cases a with
 |none=>exact⟨Nat.le_refl _,h,rfl⟩
 |some p=>exact UM h
theorem IU{a:Tr}{st:XS}:(CO a st).c=st.c:=by cases a<;>rfl
theorem KK{n N:Nat}{ρ:Option Nat}{c:cw}{K:Exit->Fr->St->Prop}{a:Tr}{st:XS}(h:BE P n N ρ c K ((CO a st).fr.ren σ pre.length) ((CO a st).s.emb σ pre)):BE P n N ρ c K (st.fr.ren σ pre.length) (st.s.emb σ pre):=by
 cases a with
 |none=>exact h
 |some p=>exact V5 h
def A42(P:ck)(E:XE)(a:Tr)(l:List cq)(draw:Bool)(st:XS):Option XS:=Bool.rec (iT P E l l (CO a st)) (Bool.rec (QZ P E l (CO a st)) (RT P (IL l) (some (CO a st))) (XQ P l)) draw
def isY:List Nat->Bool
 |k::_=>bx k 777
 |[]=>false
def AHQ(P:ck)(E:XE)(N:Nat)(a:Tr)(l:List cq)(draw:Bool)(us:List Nat)(st:XS):Option XS:=Bool.rec (A42 P (cfU us E) a l draw st) (Bool.rec none (wZ P E N l (CO a st)) draw) (isY us)
def BJ(rec:cR)(body:cw)(a:Tr)(n:Nat):XS->Option (Exit×XS):=Nat.rec (motive:=fun _=>XS->Option (Exit×XS)) (fun _=>none) (fun _ ih st=>match rec body st with
 |some (.normal,st')=>ih (CO a st')
 | r=>r) n
def jO(id:Nat)(l:List cq):Nat:=id+1000*l.length+1000000*(match l with
 |o::_=>match o.dst with
  |some d=>d
  |none=>0
 | []=>0)
def B9:cw->Nat
 |.region id ops _=>jO id ops.toList
 |.seq a _=>B9 a
 |.block _ c=>B9 c
 |.loop c=>B9 c
 |.scope c=>B9 c
 |_=>0
def ABF:Tr->List Nat
 |some p=>p.1
 |none=>[]
def NV:Nat:=1000000000000000
def ABG:Tr->List Nat
 |some p=>p.2
 |none=>[]
def WF(P:ck)(E:XE)(A:Ann)(n N:Nat)(rec:cR):cR:=fun code st=>match code with
 |.region id ops draw=>QM (AHQ P E N (A N (jO id ops.toList)) ops.toList draw (ABG (A N (jO id ops.toList+NV))) (MC (ABF (A N (jO id ops.toList+NV))) st))
 |.loop body=>BJ rec body (A N (B9 body)) n (CO (A N (B9 body)) st)
 |c=>bC P E n N rec c st
def AE(P:ck)(A:Ann)(kn:CF0)(n:Nat):GU:=Nat.rec (motive:=fun _=>GU) (fun _ _ _=>none) (fun n ih N=>WF P (A3V P kn (fun _ _ _=>none) (fun _=>false) ih) A n N (ih N)) n
theorem AML(hP:EH P){E:XE}(hEE:KH P E){a:Tr}{id:Nat}{ops:Array cq}{draw:Bool}{N:Nat}(hN:EV N (.region id ops draw)=true){st st':XS}(hx:A42 P E a ops.toList draw st=some st')(hbd:Bd st):KQ st st' /\
  ∀(n:Nat) (ρ:Option Nat) (σ:Nat->Nat) (pre:List AA) (K:Exit->Fr->St->Prop),(∀σ',AO st.c σ σ'->K .normal (st'.fr.ren σ' pre.length) (st'.s.emb σ' pre))->BE P n N ρ (.region id ops draw) K (st.fr.ren σ pre.length) (st.s.emb σ pre):=by
 obtain⟨l⟩:=ops
 have hT:=MH (a:=a) hbd
 have ext:∀{st'},KQ (CO a st) st'->KQ st st':=fun h=>⟨by have:=h.c;rwa [IU]at this,h.bd,h.n.trans hT.n⟩
 cases draw with
 |false=>
  simp only[EV,cond_false,bj]at hN
  have hx:iT P E l l (CO a st)=some st':=hx
  obtain⟨hE,hs⟩:=iU hEE hT.bd hx
  refine⟨ext hE,fun n ρ σ pre K hk=>KK (a:=a) ?_⟩
  exact W4 (l.map (LB l)) hN.1 (iO (UG hN.2)) (hs σ pre _ fun σ' ha=>hk σ' (by rwa [IU]at ha))
 |true=>
  simp only[EV,cond_true]at hN
  cases hc:XQ P l with
  |true=>
   have hx:(Bool.rec (QZ P E l (CO a st)) (RT P (IL l) (some (CO a st))) (XQ P l):Option XS)=some st':=hx
   rw[hc]at hx
   obtain⟨hE,hs⟩:=AL6 (id:=id) hP hN hc hx hT.bd
   exact⟨ext hE,fun n ρ σ pre K hk=>KK (a:=a) (hs n ρ σ pre K fun σ' ha=>hk σ' (by rwa [IU]at ha))⟩
  |false=>
  have hx:(Bool.rec (QZ P E l (CO a st)) (RT P (IL l) (some (CO a st))) (XQ P l):Option XS)=some st':=hx
  rw[hc]at hx
  obtain⟨hE,hs⟩:=bW (id:=id) hP hEE hN hx hT.bd
  exact⟨ext hE,fun n ρ σ pre K hk=>KK (a:=a) (hs n ρ σ pre K fun σ' ha=>hk σ' (by rwa [IU]at ha))⟩
theorem AMM(hP:EH P){E:XE}(hEE:KH P E){a:Tr}{us:List Nat}{id:Nat}{ops:Array cq}{draw:Bool}{N:Nat}(hN:EV N (.region id ops draw)=true){st st':XS}(hx:AHQ P E N a ops.toList draw us st=some st')(hbd:Bd st):KQ st st' /\
  ∀(n:Nat) (ρ:Option Nat) (σ:Nat->Nat) (pre:List AA) (K:Exit->Fr->St->Prop),(∀σ',AO st.c σ σ'->K .normal (st'.fr.ren σ' pre.length) (st'.s.emb σ' pre))->BE P n N ρ (.region id ops draw) K (st.fr.ren σ pre.length) (st.s.emb σ pre):=by
 unfold AHQ at hx
 cases hy:isY us with
 |false=>rw[hy]at hx;exact AML hP (ASS hEE _) hN hx hbd
 |true=>
  rw[hy]at hx
  cases draw with
  |false=>cases hx
  |true=>
   have hx:wZ P E N ops.toList (CO a st)=some st':=hx
   have hT:=MH (a:=a) hbd
   obtain⟨hE,hs⟩:=AGX hP hEE (id:=id) hx hT.bd
   refine⟨⟨by have:=hE.c;rwa [IU]at this,hE.bd,hE.n.trans hT.n⟩,fun n ρ σ pre K hk=>KK (a:=a) ?_⟩
   exact hs n ρ σ pre K fun σ' ha=>hk σ' (by rwa [IU]at ha)
theorem AHR{N:Nat}{rec:cR}(hrec:bG P N rec){body:cw}{a:Tr}(hN:EV N body=true)(m:Nat){st st':XS}{e:Exit}(hx:BJ rec body a m (CO a st)=some (e,st'))(hbd:Bd st):KQ st st'/\(∀l,e≠.goto l) /\
  ∀(n:Nat) (ρ:Option Nat) (σ:Nat->Nat) (pre:List AA) (K:Exit->Fr->St->Prop),(ρ=none\/GG body=true)->(∀σ',AO st.c σ σ'->K e (st'.fr.ren σ' pre.length) (st'.s.emb σ' pre))->BE P n N ρ (.loop body) K (st.fr.ren σ pre.length) (st.s.emb σ pre):=by
 have up:∀{st st':XS},Bd st->KQ (CO a st) st'->KQ st st':=fun hbd h=>⟨by have:=h.c;rwa [IU]at this,h.bd,h.n.trans (MH hbd).n⟩
 have ext:∀(m:Nat) {st:XS},BJ rec body a m (CO a st)=some (e,st')->Bd st->KQ st st'/\(∀l,e≠.goto l):=by
  intro m;induction m with
  |zero=>intro st hx _;cases hx
  |succ m ih=>
   intro st hx hbd
   have hx:(match rec body (CO a st)with
    |some (.normal,st')=>BJ rec body a m (CO a st')
    | r=>r)=some (e,st'):=hx
   have hT:=MH (a:=a) hbd
   split at hx
   ·rename_i st1 h1;obtain⟨hE,_,_⟩:=hrec _ _ _ _ h1 hT.bd hN;obtain⟨hE',hg⟩:=ih hx hE.bd;exact⟨up hbd ⟨Nat.le_trans hE.c hE'.c,hE'.bd,hE'.n.trans hE.n⟩,hg⟩
   ·obtain⟨hE,hg,_⟩:=hrec _ _ _ _ hx hT.bd hN;exact⟨up hbd ⟨hE.c,hE.bd,hE.n⟩,hg⟩
 obtain⟨hE,hg⟩:=ext m hx hbd
 refine⟨hE,hg,fun n ρ σ pre K hρ hk=>?_⟩
 refine eX (fun m fr s=>∃(st:XS) (σ:Nat->Nat),fr=st.fr.ren σ pre.length/\s=st.s.emb σ pre/\Bd st/\BJ rec body a m (CO a st)=some (e,st')/\∀σ',AO st.c σ σ'->K e (st'.fr.ren σ' pre.length) (st'.s.emb σ' pre)) m ⟨st,σ,rfl,rfl,hbd,hx,hk⟩ ?_
 rintro m fr s ⟨st,σ,rfl,rfl,hbd,hx,hk⟩
 cases m with
 |zero=>cases hx
 |succ m=>
  have hx:(match rec body (CO a st)with
   |some (.normal,st')=>BJ rec body a m (CO a st')
   | r=>r)=some (e,st'):=hx
  have hT:=MH (a:=a) hbd
  refine KK (a:=a) ?_
  split at hx
  ·rename_i st1 h1;obtain⟨hE,_,hC⟩:=hrec _ _ _ _ h1 hT.bd hN;refine hC n ρ σ pre _ hρ fun σ' ha=>?_;rw[IU]at ha;exact⟨m,Nat.lt_succ_self _,st1,σ',rfl,rfl,hE.bd,hx,fun σ'' ha'=>hk σ'' (ha.trans ha' (by have:=hE.c;rwa [IU]at this))⟩
  ·rename_i hne;obtain⟨hE,hg,hC⟩:=hrec _ _ _ _ hx hT.bd hN;refine hC n ρ σ pre _ hρ fun σ' ha=>?_;rw[IU]at ha;have:=hk σ' ha;cases e with
   |normal=>exact absurd hx (hne st')
   |_=>exact this
theorem jP(hP:EH P){E:XE}(hEE:KH P E){A:Ann}{N:Nat}{rec:cR}(hrec:bG P N rec)(m:Nat):bG P N (WF P E A m N rec):=by
 intro code st e st' hx hbd hN;unfold WF at hx;split at hx
 ·rename_i id ops draw;obtain⟨rfl,hx2⟩:=oO hx;have hT:=wU (ABF (A N (jO id ops.toList+NV))) hbd;obtain⟨hE,hs⟩:=AMM hP hEE hN hx2 hT.bd;exact⟨⟨Nat.le_trans hT.c hE.c,hE.bd,hE.n.trans hT.n⟩,(by intro l h;cases h),fun n ρ σ pre K _ hk=>oJ _ (hs n ρ σ pre K fun σ' ha=>hk σ' (by rwa [AO2]at ha))⟩
 ·rename_i body;have hN:EV N body=true:=hN;obtain⟨h1,h2,h3⟩:=AHR hrec hN m hx hbd;exact⟨h1,h2,fun n ρ σ pre K hρ hk=>h3 n ρ σ pre K hρ hk⟩
 ·exact oP hP hEE hrec m _ _ _ _ hx hbd hN
theorem cH(hP:EH P){A:Ann}{kn:CF0}(hkn:HW P kn):∀n,bH P (AE P A kn n)
 |0=>fun N code st e st' hx=>by cases hx
 |n+1=>fun N=>by have ih:=cH hP (A:=A) hkn n;exact jP hP ⟨AF8 hP hkn ih,AL8 hP ih,bL hP hkn ih,AF7 hP hkn (ko:=fun _ _ _=>none) (fun _ _ _ _ h=>by cases h) ih⟩ (ih N) n
theorem AHS(hP:EH P){A:Ann}{kn:CF0}(hkn:HW P kn){n:Nat}{f:cx}{args:List V}{r:V}(h:EQ P (AE P A kn n) f args=some r)(s:St):FQ P f args s fun r' s'=>r'=r/\s'=s :=
 (bJ hP (cH hP hkn n) f args r h).1 s
section
variable {A:Ann}{kn:CF0}{n N:Nat}{st:XS}
abbrev BG(P:ck)(A:Ann)(kn:CF0)(n:Nat):XE:=A3V P kn (fun _ _ _=>none) (fun _=>false) (AE P A kn n)
theorem AHT(a b:cw):AE P A kn (n+1) N (.seq a b) st=iW (AE P A kn n N) b (AE P A kn n N a st):=rfl
theorem ABH(c:cj)(a b:cw):AE P A kn (n+1) N (.cond c a b) st=nY (AE P A kn n N) a b st (CI st.fr c):=rfl
theorem uC(id:Nat)(b:cw):AE P A kn (n+1) N (.block id b) st=NE id (AE P A kn n N b st):=rfl
theorem ABI(b:cw):AE P A kn (n+1) N (.loop b) st=BJ (AE P A kn n N) b (A N (B9 b)) n (CO (A N (B9 b)) st):=rfl
theorem ABJ:AE P A kn (n+1) N .skip st=some (.normal,st):=rfl
theorem ABK(id:Nat):AE P A kn (n+1) N (.exit id) st=some (.exit id,st):=rfl
theorem AHU:AE P A kn (n+1) N .ret st=some (.ret,st):=rfl
theorem uD(b:cw):AE P A kn (n+1) N (.scope b) st=AE P A kn n N b st:=rfl
theorem NH(g:cj)(ps:Array Tmp)(asg body:cw):AE P A kn (n+1) N (.rangeFunc g ps asg body) st=V6 (BG P A kn n).cf N g ps.toList asg body st:=rfl
theorem AB(rec:cR)(body:cw)(a:Tr):BJ rec body a (n+1) st=match rec body st with
 |some (.normal,st')=>BJ rec body a n (CO a st')
 |r=>r:=rfl
theorem oW(rec:cR)(b:cw):iW rec b (some (.normal,st))=rec b st:=rfl
theorem AHV(rec:cR)(b:cw):iW rec b (some (.ret,st))=some (.ret,st):=rfl
theorem ABL(rec:cR)(b:cw)(i:Nat):iW rec b (some (.exit i,st))=some (.exit i,st):=rfl
theorem AHW(rec:cR)(b:cw)(c:Prop)[Decidable c](x y:Option (Exit×XS)):iW rec b (if c then x else y)=if c then iW rec b x else iW rec b y:=by split<;>rfl
theorem dW(id:Nat):NE id (some (.normal,st))=some (.normal,st):=rfl
theorem uE(id:Nat):NE id (some (.ret,st))=some (.ret,st):=rfl
theorem oX(id i:Nat):NE id (some (.exit i,st))=if i=id then some (.normal,st) else some (.exit i,st):=by
 show(Bool.rec _ _ (bx i id):Option (Exit×XS))=_;by_cases h:i=id
 ·subst h;simp
 ·have:bx i id=false:=by
   cases hb:bx i id with
   |false=>rfl
   |true=>exact absurd (Nat.eq_of_beq_eq_true hb) h
  simp[h,this]
theorem uF(id:Nat)(c:Prop)[Decidable c](x y:Option (Exit×XS)):NE id (if c then x else y)=if c then NE id x else NE id y:=by split<;>rfl
def xN:cw->Bool
 |.region ..=>true
 |_=>false
def XF:cw->List cq
 |.region _ ops _=>ops.toList
 |_=>[]
def PH:cw->Bool
 |.region _ _ d=>d
 |_=>false
theorem xO(us:List Nat){E:XE}(h:E.lit=fun _=>false):(cfU us E).lit=fun _=>false:=by cases us<;>exact h
theorem WG{r:cw}(hr:xN r=true){i:IR}(hi:xM P (XF r) (PH r)=i)(hok:okR P (XF r) (PH r)=true){a:Tr}(ha:A N (B9 r)=a){ks us:List Nat}(ht:ABF (A N (B9 r+NV))=ks)(hu:ABG (A N (B9 r+NV))=us)(hy:isY us=false:=by rfl):AE P A kn (n+1) N r st=QM (KJ P (cfU us (BG P A kn n)) i (CO a (MC ks st))):=by
 cases r with
 |region id ops draw=>
  subst hi ha ht hu
  show QM (AHQ P _ N (A N (jO id ops.toList)) ops.toList draw (ABG (A N (jO id ops.toList+NV))) (MC (ABF (A N (jO id ops.toList+NV))) st))=_
  unfold AHQ
  rw[show isY (ABG (A N (jO id ops.toList+NV)))=false from hy]
  cases draw with
  |false=>exact congrArg QM (xI (xO _ rfl) _ _ _)
  |true=>
   show QM (Bool.rec (QZ P _ ops.toList _) (RT P (IL ops.toList) (some _)) (XQ P ops.toList))=QM (KJ P _ (cond (XQ P ops.toList) (.cls (IL ops.toList)) (.drw ((dJ ops.toList).map (xK ops.toList)))) _)
   have hok:cond (XQ P ops.toList) true (inB ops.toList (dJ ops.toList))=true:=hok
   cases hc:XQ P ops.toList with
   |true=>rfl
   |false=>
    rw[hc]at hok
    exact congrArg QM (xL (xO _ rfl) _ _ _ hok)
 |_=>cases hr
theorem D4{r:cw}(hr:xN r=true){i:IR}(hi:xM P (XF r) (PH r)=i)(hok:okR P (XF r) (PH r)=true){a:Tr}(ha:A N (B9 r)=a){ks:List Nat}(ht:ABF (A N (B9 r+NV))=ks)(hu:ABG (A N (B9 r+NV))=[]:=by kernel_rfl):AE P A kn (n+1) N r st=QM (KJ P (BG P A kn n) i (CO a (MC ks st))):=WG hr hi hok ha ht hu rfl
theorem AHX{r:cw}(hr:xN r=true){i:IR}(hi:xM P (XF r) (PH r)=i)(hok:okR P (XF r) (PH r)=true){a:Tr}(ha:A N (B9 r)=a)(ht:A N (B9 r+NV)=none:=by kernel_rfl):AE P A kn (n+1) N r st=QM (KJ P (BG P A kn n) i (CO a st)):=D4 hr hi hok ha (congrArg ABF ht) (congrArg ABG ht)
def uG(P:ck)(rs:List ResultVar)(r:Option (Exit×XS)):Option V:=match r with
 |some (.ret,st)=>finV st.s (F3 P rs st.fr st.s)
 |some (.normal,st)=>finV st.s (F3 P rs st.fr st.s)
 |_=>none
where finV (s:St) (r:Option V):Option V:=match r with
 |some v=>match A1 s 4 v with
  |some r'=>Bool.rec none (some r') (AG 9 r')
  |none=>none
 |none=>none
theorem AP{f:cx}{fn:Func}{c:cw}{args:List V}{rec:GU}(hf:P.funcs[f]? = some fn)(hb:fn.body=some c)(hs:bm args.length fn.ntmps=true)(hcl:args.all (AG 9)=true) :
  EQ P rec f args=uG P fn.results.toList (rec fn.ntmps c ⟨0,AD 0 args,⟨[],[]⟩⟩):=by
 unfold EQ fK XC nZ
 rw[hcl,hf]
 simp only[hb,hs]
 generalize rec fn.ntmps c ⟨0,AD 0 args,⟨[],[]⟩⟩=q
 have aux:∀st:XS,(match(match F3 P fn.results.toList st.fr st.s with
   |some r=>match A1 st.s 4 r with
    |some r'=>some (r',st.c,st.s.up.map (AH st.s))
    |none=>none
   | none=>none:Option (V×Nat×List AA))with
  |some (r,_,_)=>(Bool.rec none (some r) (AG 9 r):Option V)
  | none=>none)=uG.finV st.s (F3 P fn.results.toList st.fr st.s):=fun st=>by
  unfold uG.finV
  cases F3 P fn.results.toList st.fr st.s with
  |none=>rfl
  |some r=>
   cases h:A1 st.s 4 r with
   |none=>simp[h]
   |some r'=>simp[h]
 cases q with
 |none=>rfl
 |some q=>
  obtain⟨e,st⟩:=q
  cases e with
  |ret=>exact aux st
  |normal=>exact aux st
  |_=>rfl
end
def LD:cw->List Nat->cw
 |c,[]=>c
 |.seq a b,i::p=>bif bx i 0 then LD a p else LD b p
 |.cond _ a b,i::p=>bif bx i 0 then LD a p else LD b p
 |.block _ a,_::p=>LD a p
 |.loop a,_::p=>LD a p
 |.scope a,_::p=>LD a p
 |.rangeFunc _ _ a b,i::p=>bif bx i 0 then LD a p else LD b p
 |c,_=>c
def ATS(fn:Func):cw:=match fn.body with
 |some c=>c
 |none=>.skip
end Go.Pg
namespace Go.Pg
variable {P:ck}{E:XE}{st:XS}{fr:Fr}{s:St}
@[simp] theorem A43(r:Option XS):PG P E [] r=r:=rfl
@[simp] theorem AXR(i:J0)(l:List J0)(r:Option XS):PG P E (i::l) r=PG P E l (opO P E i r):=rfl
@[simp] theorem A44(i:J0):opO P E i (some st)=opI P E i st:=rfl
@[simp] theorem A45(i:J0):opO P E i none=none:=rfl
@[simp] theorem A46(l:List J0)(c:Prop)[Decidable c](x y:Option XS):PG P E l (if c then x else y)=if c then PG P E l x else PG P E l y:=by split<;>rfl
def gI(P:ck)(E:XE)(d:Option Tmp)(k:IK)(st:XS)(w:Bool)(r:Option (Bool×V)):Option XS:=match r with
 |some (c,.bool b)=>Bool.rec (some (JB d st)) (C4 P E d k st) (c&&(b==w))
 |_=>none
@[simp] theorem A47(d:Option Tmp)(k:IK):opI P E ⟨none,d,k⟩ st=C4 P E d k st:=rfl
@[simp] theorem AXS(t:Tmp)(w:Bool)(d:Option Tmp)(k:IK):opI P E ⟨some (t,w),d,k⟩ st=gI P E d k st w (BD st.fr t):=by
 show(match(match BD st.fr t with | some (c,.bool b)=>some (c&&(b == w)) | _=>none:Option Bool)with
  |some true=>C4 P E d k st
  |some false=>some (JB d st)
  | none=>none)=_
 unfold gI;cases BD st.fr t with
 |none=>rfl
 |some p=>
  obtain⟨c,v⟩:=p
  cases v with
  |bool b=>cases h:(c&&(b==w))<;>simp[h]
  |_=>rfl
@[simp] theorem BHL(d:Option Tmp)(k:IK):gI P E d k st true (some (true,.bool true))=C4 P E d k st:=rfl
@[simp] theorem BHM(d:Option Tmp)(k:IK):gI P E d k st true (some (true,.bool false))=some (JB d st):=rfl
@[simp] theorem BHN(d:Option Tmp)(k:IK):gI P E d k st false (some (true,.bool true))=some (JB d st):=rfl
@[simp] theorem BHO(d:Option Tmp)(k:IK):gI P E d k st false (some (true,.bool false))=C4 P E d k st:=rfl
@[simp] theorem BHP(d:Option Tmp)(k:IK)(w b:Bool):gI P E d k st w (some (false,.bool b))=some (JB d st):=rfl
@[simp] theorem A48(d:Tmp)(c:Nat)(fr:Fr)(s:St):JB (some d) ⟨c,fr,s⟩=⟨c,(d,false,.bool false)::fr,s⟩:=rfl
@[simp] theorem A49(k:Nat):BD [] k=none:=rfl
@[simp] theorem AXT(j:Nat)(x:Bool×V)(fr:Fr)(k:Nat):BD ((j,x)::fr) k=if k=j then some x else BD fr k:=by rw[FJ,FJ];rfl
@[simp] theorem ATT(j:Nat)(x:Nat×AX)(L:AA)(k:Nat):AA.get ((j,x)::L) k=if k=j then some x else L.get k:=rfl
def rdT:Option (Bool×V)->Option V
 |some (true,v)=>some v
 |_=>none
@[simp] theorem AHY(v:V):rdT (some (true,v))=some v:=rfl
@[simp] theorem AXU(v:V):rdT (some (false,v))=none:=rfl
@[simp] theorem A9F(t:Tmp):CI fr (.tmp t)=rdT (BD fr t):=by
 show(match BD fr t with
  |some (true,v)=>some v
  | _=>none)=_
 cases BD fr t with
 |none=>rfl
 |some p=>obtain⟨c,v⟩:=p;cases c<;>rfl
@[simp] theorem AXV(v:Value):CI fr (.const v)=CQ v:=rfl
@[simp] theorem A5B(f:cx):CI fr (.func f)=some (.fn f [] []):=rfl
@[simp] theorem A9G(t:Tmp):rdC fr (.tmp t)=BD fr t:=rfl
@[simp] theorem A5C(b:Bool):rdC fr (.const (.bool b))=some (true,.bool b):=rfl
@[simp] theorem ATU(k:cz)(n:Int):CQ (.int k n)=some (.int k n):=rfl
@[simp] theorem APB(b:Bool):CQ (.bool b)=some (.bool b):=rfl
@[simp] theorem ATV:CQ (.slice none 0 0)=some .nil:=rfl
@[simp] theorem AXW(d:Tmp)(c:Nat)(fr:Fr)(s:St)(v:V):EW (some d) ⟨c,fr,s⟩ (some v)=some ⟨c,(d,true,v)::fr,s⟩:=rfl
section
variable (d:Option Tmp)(c:Nat)
@[simp] theorem A5D(x:cj):C4 P E d (.mv x) ⟨c,fr,s⟩=EW d ⟨c,fr,s⟩ (CI fr x):=rfl
def ATW(P:ck)(op:BinOp)(T:bp):Option V->Option V->Option V
 |some a,some b=>I3 P op T a b
 |_,_=>none
@[simp] theorem AXX(op:BinOp)(T:bp)(a b:V):ATW P op T (some a) (some b)=I3 P op T a b:=rfl
@[simp] theorem AXY(op:BinOp)(T:bp)(x y:cj):C4 P E d (.bin op T x y) ⟨c,fr,s⟩=EW d ⟨c,fr,s⟩ (ATW P op T (CI fr x) (CI fr y)):=by show EW d _ (AAR P fr op T x y)=_;unfold AAR ATW;cases CI fr x<;>cases CI fr y<;>rfl
def fa1(P:ck)(T:bp)(f:Nat):Option V->Option V
 |some p=>C9 P T p f
 |none=>none
@[simp] theorem A5E(T:bp)(f:Nat)(p:V):fa1 P T f (some p)=C9 P T p f:=rfl
@[simp] theorem A5F(T:bp)(x:cj)(f:Nat):C4 P E d (.fa T x f) ⟨c,fr,s⟩=EW d ⟨c,fr,s⟩ (fa1 P T f (CI fr x)):=by show EW d _ (xFA P fr T x f)=_;unfold xFA fa1;cases CI fr x<;>rfl
def wh1(P:ck)(T:bp):Option (List V)->Option V
 |some cs=>BK P T cs
 |none=>none
@[simp] theorem A5G(T:bp)(cs:List V):wh1 P T (some cs)=BK P T cs:=rfl
def ld1(P:ck)(s:St)(T:bp):Option V->Option V
 |some p=>wh1 P T (A6 s p)
 |none=>none
@[simp] theorem AHZ(T:bp)(p:V):ld1 P s T (some p)=wh1 P T (A6 s p):=rfl
@[simp] theorem A5H(T:bp)(x:cj):C4 P E d (.ld T x) ⟨c,fr,s⟩=EW d ⟨c,fr,s⟩ (ld1 P s T (CI fr x)):=by
 show EW d _ (NS P fr s T x)=_;unfold NS ld1;cases CI fr x with
 |none=>rfl
 |some p=>unfold wh1;cases A6 s p<;>rfl
def pk3:Option V->Option (Bool×V)->Option (Bool×V)->Option V
 |some (.bool c),some (ca,.bool a),some (cb,.bool b)=>Bool.rec (Bool.rec none (some (.bool b)) cb) (Bool.rec none (some (.bool a)) ca) c
 |_,_,_=>none
@[simp] theorem A5I(a cb b:Bool):pk3 (some (.bool true)) (some (true,.bool a)) (some (cb,.bool b))=some (.bool a):=rfl
@[simp] theorem AXZ(ca a b:Bool):pk3 (some (.bool false)) (some (ca,.bool a)) (some (true,.bool b))=some (.bool b):=rfl
@[simp] theorem A5J(c a b:Bool):pk3 (some (.bool c)) (some (true,.bool a)) (some (true,.bool b))=some (.bool (if c then a else b)):=by cases c<;>rfl
@[simp] theorem ATX(x y z:cj):C4 P E d (.pick x y z) ⟨c,fr,s⟩=EW d ⟨c,fr,s⟩ (pk3 (CI fr x) (rdC fr y) (rdC fr z)):=rfl
def ba2:Option V->Nat->Option (List (Nat×V))->Option (List (Nat×V))
 |some v,i,some l=>some ((i,v)::l)
 |_,_,_=>none
@[simp] theorem A5K(v:V)(i:Nat)(l:List (Nat×V)):ba2 (some v) i (some l)=some ((i,v)::l):=rfl
@[simp] theorem ATY(r:cj->Option V):DC r []=some []:=rfl
@[simp] theorem APC(r:cj->Option V)(i:Nat)(x:cj)(l:List (Nat×cj)):DC r ((i,x)::l)=ba2 (r x) i (DC r l):=by simp only[DC];unfold ba2;cases r x<;>cases DC r l<;>rfl
def bd1(P:ck)(T:bp):Option (List (Nat×V))->Option V
 |some l=>CW P T l
 |none=>none
@[simp] theorem A5L(T:bp)(l:List (Nat×V)):bd1 P T (some l)=CW P T l:=rfl
@[simp] theorem APD(T:bp)(ps:List (Nat×cj)):C4 P E d (.build T ps) ⟨c,fr,s⟩=EW d ⟨c,fr,s⟩ (bd1 P T (DC (CI fr) ps)):=by show EW d _ (V1 P fr T ps)=_;unfold V1 bd1;cases DC (CI fr) ps<;>rfl
def bs1(P:ck)(T:bp)(n:Nat):Option (List (Nat×V))->Option V
 |some l=>CD P T n l
 |none=>none
@[simp] theorem A5M(T:bp)(n:Nat)(l:List (Nat×V)):bs1 P T n (some l)=CD P T n l:=rfl
@[simp] theorem AMN(T:bp)(n:Nat)(ps:List (Nat×cj)):C4 P E d (.buildS T n ps) ⟨c,fr,s⟩=EW d ⟨c,fr,s⟩ (bs1 P T n (DC (CI fr) ps)):=by show EW d _ (P0 P fr T n ps)=_;unfold P0 bs1;cases DC (CI fr) ps<;>rfl
@[simp] theorem AX0(op:Op):C4 P E d (.oth op) ⟨c,fr,s⟩=EW d ⟨c,fr,s⟩ (JX P (tY op) s (CI fr)):=rfl
def al1(d:Tmp)(c:Nat)(fr:Fr)(s:St):Option (List V)->Option XS
 |some cs=>some ⟨c+1,(d,true,.ptr s.up.length d c 0)::fr,s.put s.up.length d c (.box cs)⟩
 |none=>none
@[simp] theorem A5N(d:Tmp)(cs:List V):al1 d c fr s (some cs)=some ⟨c+1,(d,true,.ptr s.up.length d c 0)::fr,s.put s.up.length d c (.box cs)⟩:=rfl
@[simp] theorem APE(d:Tmp)(T:bp):C4 P E (some d) (.alloc T) ⟨c,fr,s⟩=al1 d c fr s (CA P T):=by show O6 P (some d) T _=_;unfold O6 al1;cases CA P T<;>rfl
def bx1(d:Tmp)(c:Nat)(fr:Fr)(s:St):Option V->Option XS
 |some v=>Bool.rec none (some ⟨c+1,(d,true,.ptr s.up.length d c 0)::fr,s.put s.up.length d c (.box (A8 v))⟩) (A9 v)
 |none=>none
@[simp] theorem A9K(d:Tmp)(k:cz)(n:Int):bx1 d c fr s (some (.int k n))=some ⟨c+1,(d,true,.ptr s.up.length d c 0)::fr,s.put s.up.length d c (.box [.int k n])⟩:=rfl
@[simp] theorem A9L(d:Tmp)(cs:List V):bx1 d c fr s (some (.agg cs))=some ⟨c+1,(d,true,.ptr s.up.length d c 0)::fr,s.put s.up.length d c (.box cs)⟩:=rfl
@[simp] theorem A5O(d:Tmp)(b:Bool)(es:List (List V)):bx1 d c fr s (some (.list b es))=some ⟨c+1,(d,true,.ptr s.up.length d c 0)::fr,s.put s.up.length d c (.box [.list b es])⟩:=rfl
@[simp] theorem A9M(d:Tmp):bx1 d c fr s (some .nil)=some ⟨c+1,(d,true,.ptr s.up.length d c 0)::fr,s.put s.up.length d c (.box [.nil])⟩:=rfl
@[simp] theorem A9N(d:Tmp)(l k g n:Nat):bx1 d c fr s (some (.vec l k g n))=some ⟨c+1,(d,true,.ptr s.up.length d c 0)::fr,s.put s.up.length d c (.box [.vec l k g n])⟩:=rfl
@[simp] theorem AX1(d:Tmp)(x:cj):C4 P E (some d) (.box x) ⟨c,fr,s⟩=bx1 d c fr s (CI fr x):=by show nL (some d) x _=_;unfold nL bx1;cases CI fr x<;>rfl
def st3(γ:Nat)(P:ck)(T:bp)(c:Nat)(fr:Fr)(s:St)(l q off:Nat)(v:V):Option (Nat×AX)->Option XS
 |some (γ',.box cs)=>if γ'=γ/\A9 v=true/\0<P.cellsOf T/\(A8 v).length=P.cellsOf T/\off+P.cellsOf T<=cs.length/\γ<c then some ⟨c,fr,s.put l q γ (.box (A2 cs off (A8 v)))⟩ else none
 |_=>none
def st4(γ:Nat)(P:ck)(T:bp)(c:Nat)(fr:Fr)(s:St)(l q i off:Nat)(v:V):Option (Nat×AX)->Option XS
 |some (γ',.vec U es)=>if γ'=γ/\A9 v=true/\0<P.cellsOf T/\(A8 v).length=P.cellsOf T/\i<es.length/\off+P.cellsOf T<=(es.getD i []).length/\γ<c then some ⟨c,fr,s.put l q γ (.vec U (es.set i (A2 (es.getD i []) off (A8 v))))⟩ else none
 |_=>none
def HE(P:ck)(T:bp)(c:Nat)(fr:Fr)(s:St):Option V->Option V->Option XS
 |some (.ptr l q γ off),some v=>st3 γ P T c fr s l q off v (s.get l q)
 |some (.eptr l q γ i off),some v=>st4 γ P T c fr s l q i off v (s.get l q)
 |_,_=>none
@[simp] theorem AMO(T:bp)(l q γ off:Nat)(v:V):HE P T c fr s (some (.ptr l q γ off)) (some v)=st3 γ P T c fr s l q off v (s.get l q):=rfl
@[simp] theorem AH0(T:bp)(l q γ i off:Nat)(v:V):HE P T c fr s (some (.eptr l q γ i off)) (some v)=st4 γ P T c fr s l q i off v (s.get l q):=rfl
@[simp] theorem AMP(γ γ':Nat)(T:bp)(l q off:Nat)(v:V)(cs:List V):st3 γ P T c fr s l q off v (some (γ',.box cs))=if γ'=γ/\A9 v=true/\0<P.cellsOf T/\(A8 v).length=P.cellsOf T/\off+P.cellsOf T<=cs.length/\γ<c then some ⟨c,fr,s.put l q γ (.box (A2 cs off (A8 v)))⟩ else none:=rfl
@[simp] theorem AMQ(γ γ':Nat)(T:bp)(l q i off:Nat)(v:V)(U:bp)(es:List (List V)):st4 γ P T c fr s l q i off v (some (γ',.vec U es))=if γ'=γ/\A9 v=true/\0<P.cellsOf T/\(A8 v).length=P.cellsOf T/\i<es.length/\off+P.cellsOf T<=(es.getD i []).length/\γ<c then some ⟨c,fr,s.put l q γ (.vec U (es.set i (A2 (es.getD i []) off (A8 v))))⟩ else none:=rfl
theorem AMR(T:bp)(x y:cj):JJ P none T x y ⟨c,fr,s⟩=HE P T c fr s (CI fr x) (CI fr y):=by
 unfold JJ;simp only;cases CI fr x with
 |none=>rfl
 |some p=>
  cases CI fr y with
  |none=>cases p<;>rfl
  |some v=>
   cases p with
   |ptr l q γ off=>
    simp only[AMO]
    cases s.get l q with
    |none=>rfl
    |some z=>
     obtain⟨γ',r⟩:=z
     cases r with
     |box cs=>
      simp only[AMP,bj,bf,Nat.ble_eq,bg,and_assoc]
     |_=>rfl
   |eptr l q γ i off=>
    simp only[AH0]
    cases s.get l q with
    |none=>rfl
    |some z=>
     obtain⟨γ',r⟩:=z
     cases r with
     |vec U es=>
      simp only[AMQ,bj,bf,Nat.ble_eq,bg,and_assoc]
     |_=>rfl
   |_=>rfl
@[simp] theorem AX2(T:bp)(x y:cj):C4 P E none (.sto T x y) ⟨c,fr,s⟩=HE P T c fr s (CI fr x) (CI fr y):=AMR c T x y
def apW(P:ck)(e:bp)(d c:Nat)(fr:Fr)(s:St)(l q γ n:Nat)(ys:List (List V)):Option (Nat×AX)->Option XS
 |some (γ',.vec W es)=>if γ'=γ/\W=e/\n=es.length/\es.all (fun y=>y.length==P.cellsOf e)=true/\BV P e es.length ys=true then
   some ⟨c+1,(d,true,.vec l q c (es.length+ys.length))::fr,s.put l q c (.vec e (es++ys))⟩ else none
 |_=>none
@[simp] theorem UW(e:bp)(d:Nat)(l q γ γ' n:Nat)(ys es:List (List V))(W:bp):apW P e d c fr s l q γ n ys (some (γ',.vec W es))=if γ'=γ/\W=e/\n=es.length/\es.all (fun y=>y.length==P.cellsOf e)=true/\BV P e es.length ys=true then
   some ⟨c+1,(d,true,.vec l q c (es.length+ys.length))::fr,s.put l q c (.vec e (es++ys))⟩ else none:=rfl
def apV(P:ck)(e:bp)(d c:Nat)(fr:Fr)(s:St)(xv:V)(ys:List (List V)):Option XS:=match I6 xv ys with
 |some es=>if es.all (fun y=>y.length==P.cellsOf e)=true/\BV P e es.length ys=true then some ⟨c+1,(d,true,.vec s.up.length d c (es.length+ys.length))::fr,s.put s.up.length d c (.vec e (es++ys))⟩ else none
 |none=>match xv with
  |.vec l q γ n=>apW P e d c fr s l q γ n ys (TY n ys (s.get l q))
  |_=>none
@[simp] theorem oY(n γ:Nat)(ys es:List (List V))(U:bp):TY n ys (some (γ,.vec U es))=some (γ,.vec U (ZV n ys es)):=rfl
attribute [simp] VM
@[simp] theorem A9O(e:bp)(d:Nat)(ys:List (List V)):apV P e d c fr s .nil ys=if BV P e 0 ys=true then some ⟨c+1,(d,true,.vec s.up.length d c ys.length)::fr,s.put s.up.length d c (.vec e ys)⟩ else none:=by simp[apV,I6]
@[simp] theorem A9P(e:bp)(d:Nat)(ys:List (List V)):apV P e d c fr s (.list true []) ys=if BV P e 0 ys=true then some ⟨c+1,(d,true,.vec s.up.length d c ys.length)::fr,s.put s.up.length d c (.vec e ys)⟩ else none:=by simp[apV,I6]
@[simp] theorem AMS(e:bp)(d:Nat)(l q γ n:Nat)(ys:List (List V)):apV P e d c fr s (.vec l q γ n) ys=apW P e d c fr s l q γ n ys (TY n ys (s.get l q)):=by simp[apV,I6]
def ap3(P:ck)(d c:Nat)(fr:Fr)(s:St):Option (Option Nat×bp)->Option V->Option V->Option XS
 |some (none,e),some xv,some yv=>ap4 e xv (elemsOf s yv)
 |_,_,_=>none
where ap4 (e:bp) (xv:V):Option (List (List V))->Option XS
 |some ys=>apV P e d c fr s xv ys
 |none=>none
@[simp] theorem AH2(d:Nat)(e:bp)(xv yv:V):ap3 P d c fr s (some (none,e)) (some xv) (some yv)=ap3.ap4 P d c fr s e xv (elemsOf s yv):=rfl
@[simp] theorem AH3(d:Nat)(e:bp)(xv:V)(ys:List (List V)):ap3.ap4 P d c fr s e xv (some ys)=apV P e d c fr s xv ys:=rfl
@[simp] theorem AMT(b:Bool)(es:List (List V)):elemsOf s (.list b es)=some es:=rfl
theorem ifB{α:Type}{b:Bool}{x y:α}:(Bool.rec y x b:α)=if b=true then x else y:=by cases b<;>rfl
theorem ABM{k:Nat}{e:bp}(d:Nat)(x y:Option V):ap3 P d c fr s (some (some k,e)) x y=none:=by cases x<;>cases y<;>rfl
@[simp] theorem AX3(d:Tmp)(x y:cj)(T:bp):C4 P E (some d) (.app [x,y] [T,T]) ⟨c,fr,s⟩=ap3 P d c fr s (BT P T) (CI fr x) (CI fr y):=by
 show xAppend P (some d) [x,y] [T,T] _=_;unfold xAppend xAppG;simp only[Nat.beq_refl];cases hT:BT P T with
 |none=>cases CI fr x<;>cases CI fr y<;>rfl
 |some p=>
  obtain⟨k,e⟩:=p
  cases k with
  |some k=>rw[ABM]
  |none=>
   cases CI fr x with
   |none=>rfl
   |some xv=>
    cases CI fr y with
    |none=>rfl
    |some yv=>
     simp only[AH2]
     cases elemsOf s yv with
     |none=>rfl
     |some ys=>
      simp only[AH3,apV]
      cases I6 xv ys with
      |some es=>
       simp only[ifB,bj,bk]
       by_cases hC:es.all (fun y=>y.length==P.cellsOf e)=true/\BV P e es.length ys=true
       ·rw[if_pos hC,if_pos hC]
       ·rw[if_neg hC,if_neg hC]
      |none=>
       simp only
       unfold nQ
       cases xv with
       |vec l q γ n=>
        simp only
        cases TY n ys (s.get l q)with
        |none=>rfl
        |some z=>
         obtain⟨γ',r⟩:=z
         cases r with
         |vec W es=>
          simp only[ifB,bj,bk,UW,bg,and_assoc]
          by_cases hC:γ'=γ/\W=e/\n=es.length/\es.all (fun y=>y.length==P.cellsOf e)=true/\BV P e es.length ys=true
          ·rw[if_pos hC,if_pos hC]
          ·rw[if_neg hC,if_neg hC]
         |_=>rfl
       |_=>rfl
def mc2:Option V->Option (List V)->Option (List V)
 |some v,some l=>some (v::l)
 |_,_=>none
@[simp] theorem A5S(v:V)(l:List V):mc2 (some v) (some l)=some (v::l):=rfl
@[simp] theorem A5T(f:cj->Option V):FN f []=some []:=rfl
@[simp] theorem AX4(f:cj->Option V)(x:cj)(l:List cj):FN f (x::l)=mc2 (f x) (FN f l):=by
 simp only[FN];cases f x with
 |none=>rfl
 |some v=>cases FN f l<;>rfl
def HC(E:XE)(d:Option Tmp)(st:XS)(f:cx)(args:List V):Option XS:=match E.cf f args st with
 |some (r,st')=>some ⟨st'.c,putD st'.fr d true r,st'.s⟩
 |none=>none
def ca1(E:XE)(d:Option Tmp)(st:XS):Option V->Option (List V)->Option XS
 |some (.fn f first cap),some vs=>HC E d st f ((first++vs++cap).map weakV)
 |some (.yld l q γ),some vs=>ca3 (E.cy l q γ vs st)
 |_,_=>none
where ca3:Option (V×XS)->Option XS
 |some (r,st')=>some ⟨st'.c,putD st'.fr d true r,st'.s⟩
 |none=>none
@[simp] theorem ATZ(st:XS)(f:cx)(first cap vs:List V):ca1 E d st (some (.fn f first cap)) (some vs)=HC E d st f ((first++vs++cap).map weakV):=rfl
@[simp] theorem AMU(st:XS)(l q γ:Nat)(vs:List V):ca1 E d st (some (.yld l q γ)) (some vs)=ca1.ca3 d (E.cy l q γ vs st):=rfl
@[simp] theorem A5U(d:Tmp)(r:V):ca1.ca3 (some d) (some (r,⟨c,fr,s⟩))=some ⟨c,(d,true,r)::fr,s⟩:=rfl
theorem cI(st:XS)(f:cj)(args:List cj):QW E.cf E.cy d f args st=ca1 E d st (CI st.fr f) (FN (CI st.fr) args):=by
 unfold QW;cases CI st.fr f with
 |none=>rfl
 |some v=>
  cases v with
  |fn f first cap=>
   simp only
   cases FN (CI st.fr) args with
   |none=>rfl
   |some vs=>simp only[ATZ,HC];cases E.cf f ((first++vs++cap).map weakV) st<;>rfl
  |yld l q γ=>
   simp only[sP]
   cases FN (CI st.fr) args with
   |none=>rfl
   |some vs=>simp only[AMU];cases E.cy l q γ vs st<;>rfl
  |_=>rfl
@[simp] theorem AT0(f:cj)(args:List cj):C4 P E d (.call false none f args) ⟨c,fr,s⟩=ca1 E d ⟨c,fr,s⟩ (CI fr f) (FN (CI fr) args):=cI d ⟨c,fr,s⟩ f args
@[simp] theorem APH(t:Tmp)(f:cj)(args:List cj):C4 P E d (.call false (some t) f args) ⟨c,fr,s⟩=ca1 E d (cF (some t) ⟨c,fr,s⟩) (CI (cF (some t) ⟨c,fr,s⟩).fr f) (FN (CI (cF (some t) ⟨c,fr,s⟩).fr) args):=cI d _ f args
def orK:Bool->Option V->Option V->Option V
 |true,some r,_=>some r
 |_,_,z=>z
@[simp] theorem A5V(r:V)(z:Option V):orK true (some r) z=some r:=rfl
@[simp] theorem A5W(b:Bool)(z:Option V):orK b z z=z:=by cases b<;>cases z<;>rfl
theorem oZ{P:ck}{kn:CF0}{rec:GU}{f:cx}{args:List V}:FW P kn rec f args=orK (args.all (AG 9)) (A5 P kn rec f (args.map weakN)) (A5 P kn rec f args):=by unfold FW orK;cases A5 P kn rec f (args.map weakN)<;>cases args.all (AG 9)<;>rfl
attribute [simp] oZ
@[simp] theorem AX5(k:cz)(n:Int):weakN (.int k n)=.int k n:=rfl
@[simp] theorem AT2(b:Bool):weakN (.bool b)=.bool b:=rfl
@[simp] theorem AT3(b:Bool)(es:List (List V)):weakN (.list b es)=.list b es:=rfl
@[simp] theorem AX6(cs:List V):weakN (.agg cs)=.agg (cs.map weakM):=rfl
@[simp] theorem AX7:weakN .nil=.list false []:=rfl
@[simp] theorem A5X(f:cx)(x y:List V):weakN (.fn f x y)=.fn f x y:=rfl
@[simp] theorem AX8(cs:List V):weakN (.ref cs)=.ref cs:=rfl
@[simp] theorem AX9(k:cz)(n:Int):weakM (.int k n)=.int k n:=rfl
@[simp] theorem AT4(b:Bool):weakM (.bool b)=.bool b:=rfl
@[simp] theorem AT5(b:Bool)(es:List (List V)):weakM (.list b es)=.list b es:=rfl
@[simp] theorem AYA:weakM .nil=.list false []:=rfl
@[simp] theorem A5Y(f:cx)(x y:List V):weakM (.fn f x y)=.fn f x y:=rfl
theorem cJ{A:Ann}{kn:CF0}{n:Nat}{f:cx}{args:List V}(h:args.all (AG 9)=true)(hh:BM P f=false)(st:XS):HC (BG P A kn n) d st f args=EW d st (orK true (A5 P kn (AE P A kn n) f (args.map weakN)) (A5 P kn (AE P A kn n) f args)):=by
 have e:orK true (A5 P kn (AE P A kn n) f (args.map weakN)) (A5 P kn (AE P A kn n) f args)=FW P kn (AE P A kn n) f args:=by rw[oZ,h]
 rw[e];show(match bD P kn (AE P A kn n) f args st with
  |some (r,st')=>some (⟨st'.c,putD st'.fr d true r,st'.s⟩:XS)
  | none=>none)=_
 unfold bD;rw[h,hh];cases FW P kn (AE P A kn n) f args<;>rfl
end
@[simp] theorem A5Z(k:cz)(n:Int):weakV (.int k n)=.int k n:=rfl
@[simp] theorem AYB(b:Bool):weakV (.bool b)=.bool b:=rfl
@[simp] theorem AYC(b:Bool)(es:List (List V)):weakV (.list b es)=.list false es:=rfl
@[simp] theorem A50(cs:List V):weakV (.agg cs)=.agg (cs.map weakC):=rfl
@[simp] theorem AYD(k:cz)(n:Int):weakC (.int k n)=.int k n:=rfl
@[simp] theorem AT6(b:Bool):weakC (.bool b)=.bool b:=rfl
@[simp] theorem AT7(b:Bool)(es:List (List V)):weakC (.list b es)=.list false es:=rfl
@[simp] theorem AYE:weakC .nil=.nil:=rfl
@[simp] theorem A51:weakV .nil=.nil:=rfl
@[simp] theorem A9Q(f:cx)(x y:List V):weakV (.fn f x y)=.fn f x y:=rfl
@[simp] theorem AT8(f:Nat)(k:cz)(n:Int):AG (f+1) (.int k n)=true:=rfl
@[simp] theorem API(f:Nat)(b:Bool):AG (f+1) (.bool b)=true:=rfl
@[simp] theorem AT9(f:Nat):AG (f+1) .nil=true:=rfl
@[simp] theorem AUA(f:Nat)(cs:List V):AG (f+1) (.agg cs)=cs.all (AG f):=rfl
@[simp] theorem AUB(f:Nat)(cs:List V):AG (f+1) (.tup cs)=cs.all (AG f):=rfl
@[simp] theorem AUC(f:Nat)(cs:List V):AG (f+1) (.ref cs)=cs.all (AG f):=rfl
@[simp] theorem APJ(f:Nat)(b:Bool)(es:List (List V)):AG (f+1) (.list b es)=es.all fun e=>e.all (AG f):=rfl
@[simp] theorem AYF(f:Nat)(g:cx)(x y:List V):AG (f+1) (.fn g x y)=(x.all (AG f)&&y.all (AG f)):=rfl
section
variable (r:cj->Option V)
def o1(f:V->Option V):Option V->Option V
 |some v=>f v
 |none=>none
@[simp] theorem A9R(f:V->Option V)(v:V):o1 f (some v)=f v:=rfl
def o2(f:V->V->Option V):Option V->Option V->Option V
 |some a,some b=>f a b
 |_,_=>none
@[simp] theorem A9S(f:V->V->Option V)(a b:V):o2 f (some a) (some b)=f a b:=rfl
theorem YF(f:V->Option V)(x:Option V):x.bind f=o1 f x:=by cases x<;>rfl
theorem jQ(f:V->V->Option V)(x y:Option V):(x.bind fun a=>y.bind fun b=>f a b)=o2 f x y:=by cases x<;>cases y<;>rfl
@[simp] theorem BEJ(op:UnOp)(T:bp)(x:cj):JX P (tY (.unOp op T x)) s r=o1 (iB op) (r x):=YF _ _
@[simp] theorem A52(T:bp)(x i:cj):JX P (tY (.indexAddr T x i)) s r=o2 (BO P s T) (r x) (r i):=jQ _ _ _
@[simp] theorem AYG(T:bp)(x:cj)(f:Nat):JX P (tY (.field T x f)) s r=o1 (fun a=>IQ P T a f) (r x):=YF _ _
@[simp] theorem A9T(x:cj)(i:Nat):JX P (tY (.extract x i)) s r=o1 (fun a=>F2 a i) (r x):=YF _ _
@[simp] theorem A9U(x:cj)(T:bp):JX P (tY (.call ⟨.builtin .len,#[x],#[T]⟩)) s r=o1 (HM P T) (r x):=YF _ _
end
@[simp] theorem A53(b:Bool):iB .not (.bool b)=some (.bool !b):=rfl
@[simp] theorem AIV(vs:List V)(i:Nat):F2 (.tup vs) i=vs[i]?:=rfl
@[simp] theorem BEK(up:List AA)(loc:AA)(l k g:Nat)(r:AX):St.put ⟨up,loc⟩ l k g r=if l=up.length then⟨up,(k,g,r)::loc⟩ else⟨up.modify l fun L=>L.put k g r,loc⟩:=rfl
def upG(k:Nat):Option AA->Option (Nat×AX)
 |some L=>L.get k
 |none=>none
@[simp] theorem A54(k:Nat)(L:AA):upG k (some L)=L.get k:=rfl
@[simp] theorem AH4(up:List AA)(loc:AA)(l k:Nat):St.get ⟨up,loc⟩ l k=if l=up.length then loc.get k else upG k up[l]?:=rfl
def kx(k:Nat)(r:Fr):Option (Bool×V)->Fr
 |some (c,v)=>(k,c,v)::r
 |none=>r
@[simp] theorem A9V(k:Nat)(r:Fr)(c:Bool)(v:V):kx k r (some (c,v))=(k,c,v)::r:=rfl
@[simp] theorem A9W(k:Nat)(r:Fr):kx k r none=r:=rfl
@[simp] theorem AYH:QY [] fr=[]:=rfl
@[simp] theorem AUD(k:Nat)(ks:List Nat):QY (k::ks) fr=kx k (QY ks fr) (BD fr k):=by show(match BD fr k with|some (c,v)=>(k,c,v)::QY ks fr|none=>QY ks fr)=_;cases BD fr k<;>rfl
def kl(k:Nat)(r:AA):Option (Nat×AX)->AA
 |some (g,x)=>(k,g,x)::r
 |none=>r
@[simp] theorem A9X(k:Nat)(r:AA)(g:Nat)(x:AX):kl k r (some (g,x))=(k,g,x)::r:=rfl
@[simp] theorem A9Y(k:Nat)(r:AA):kl k r none=r:=rfl
@[simp] theorem AYI(L:AA):I7 [] L=[]:=rfl
@[simp] theorem AUE(k:Nat)(ks:List Nat)(L:AA):I7 (k::ks) L=kl k (I7 ks L) (L.get k):=by unfold kl;simp only[I7];cases L.get k<;>rfl
@[simp] theorem A55(ks ls:List Nat)(c:Nat)(fr:Fr)(up:List AA)(loc:AA):CO (some (ks,ls)) ⟨c,fr,⟨up,loc⟩⟩=⟨c,QY ks fr,⟨up,I7 ls loc⟩⟩:=rfl
@[simp] theorem BEL:QM (some st)=some (.normal,st):=rfl
@[simp] theorem A56:QM none=none:=rfl
@[simp] theorem A9Z(c:Prop)[Decidable c](x y:Option XS):QM (if c then x else y)=if c then QM x else QM y:=by split<;>rfl
@[simp] theorem A57(l:List J0):KJ P E (.str l) st=PG P E l (some st):=rfl
@[simp] theorem A58(S:List uA):KJ P E (.drw S) st=dV P E S (some st):=rfl
@[simp] theorem A59(ks:List (Nat×Nat×Nat)):KJ P E (.cls ks) st=RT P ks (some st):=rfl
@[simp] theorem A6A(o:Option XS):RT P [] o=o:=rfl
@[simp] theorem AYJ(T a d:Nat)(r:List (Nat×Nat×Nat))(st:XS):RT P ((T,a,d)::r) (some st)=RT P r (if tM (CI st.fr (.tmp a))=true then EW (some d) st (NS P st.fr st.s T (.tmp a)) else none):=by
 show RT P r (Bool.rec _ _ (tM (CI st.fr (.tmp a))))=_;cases tM (CI st.fr (.tmp a))with
 |false=>rfl
 |true=>
  simp only[if_true]
  congr 1
@[simp] theorem A6B(l k g o:Nat):tM (some (.ptr l k g o))=true:=rfl
@[simp] theorem A6C(rs:List ResultVar):uG P rs (some (.ret,st))=uG.finV st.s (F3 P rs st.fr st.s):=rfl
def AUF:Option V->Option V
 |some r=>if AG 9 r=true then some r else none
 |none=>none
@[simp] theorem AYK(r:V):AUF (some r)=if AG 9 r=true then some r else none:=rfl
@[simp] theorem AYL(v:V):uG.finV s (some v)=AUF (A1 s 4 v):=by
 unfold uG.finV AUF;simp only;cases A1 s 4 v with
 |none=>rfl
 |some r=>simp only[ifB]
@[simp] theorem AUG(t:Tmp):CS P fr s (.tmp t)=rdT (BD fr t):=by
 rw[FJ];show(match fr.get t with
  |some (true,v)=>some v
  | _=>none)=_
 cases fr.get t with
 |none=>rfl
 |some p=>obtain⟨c,v⟩:=p;cases c<;>rfl
@[simp] theorem A6D(x:ResultVar):F3 P [x] fr s=CS P fr s x:=by unfold F3;simp only[bz,bh];cases CS P fr s x<;>rfl
def re2:Option V->Option V->Option V
 |some a,some b=>some (.tup [a,b])
 |_,_=>none
@[simp] theorem A6E(a b:V):re2 (some a) (some b)=some (.tup [a,b]):=rfl
@[simp] theorem A6F(x y:ResultVar):F3 P [x,y] fr s=re2 (CS P fr s x) (CS P fr s y):=by unfold F3;simp only[bz,bh];cases CS P fr s x<;>cases CS P fr s y<;>rfl
def re3:Option V->Option V->Option V->Option V
 |some a,some b,some c=>some (.tup [a,b,c])
 |_,_,_=>none
@[simp] theorem A6G(a b c:V):re3 (some a) (some b) (some c)=some (.tup [a,b,c]):=rfl
@[simp] theorem AUH(x y z:ResultVar):F3 P [x,y,z] fr s=re3 (CS P fr s x) (CS P fr s y) (CS P fr s z):=by unfold F3;simp only[bz,bh];cases CS P fr s x<;>cases CS P fr s y<;>cases CS P fr s z<;>rfl
@[simp] theorem AUI(f:Nat)(k:cz)(n:Int):A1 s (f+1) (.int k n)=some (.int k n):=rfl
@[simp] theorem APK(f:Nat)(b:Bool):A1 s (f+1) (.bool b)=some (.bool b):=rfl
@[simp] theorem AUJ(f:Nat):A1 s (f+1) .nil=some .nil:=rfl
@[simp] theorem APL(f:Nat)(b:Bool)(es:List (List V)):A1 s (f+1) (.list b es)=some (.list false es):=rfl
def kG(mk:List V->V):Option (List V)->Option V
 |some l=>some (mk l)
 |none=>none
@[simp] theorem A6H(mk:List V->V)(l:List V):kG mk (some l)=some (mk l):=rfl
def QN(f:V->Option V):List V->Option (List V)
 |[]=>some []
 |v::l=>mc2 (f v) (QN f l)
theorem UY(f:V->Option V):∀(l:List V),l.mapM f=QN f l
 |[]=>rfl
 |v::l=>by simp only[bz,QN,UY f l];cases f v<;>cases QN f l<;>rfl
@[simp] theorem A6I(f:V->Option V):QN f []=some []:=rfl
@[simp] theorem AYM(f:V->Option V)(v:V)(l:List V):QN f (v::l)=mc2 (f v) (QN f l):=rfl
@[simp] theorem AUK(f:Nat)(cs:List V):A1 s (f+1) (.agg cs)=kG .agg (QN (A1 s f) cs):=by simp only[A1,UY];cases QN (A1 s f) cs<;>rfl
@[simp] theorem AUL(f:Nat)(cs:List V):A1 s (f+1) (.tup cs)=kG .tup (QN (A1 s f) cs):=by simp only[A1,UY];cases QN (A1 s f) cs<;>rfl
def cv1(g m:Nat):Option (Nat×AX)->Option V
 |some (g',.vec _ es)=>if g'=g/\m<=es.length then some (.list false (es.take m)) else none
 |_=>none
@[simp] theorem AH5(g m g':Nat)(T:bp)(es:List (List V)):cv1 g m (some (g',.vec T es))=if g'=g/\m<=es.length then some (.list false (es.take m)) else none:=rfl
@[simp] theorem cK(f:Nat)(up:List AA)(loc:AA)(l k g m:Nat):A1 ⟨up,loc⟩ (f+1) (.vec l k g m)=if l=up.length then cv1 g m (loc.get k) else some (.vec l k g m):=by
 simp only[A1];split
 ·cases loc.get k with
  |none=>rfl
  |some z=>obtain⟨g',r⟩:=z;cases r<;>rfl
 ·rfl
@[simp] theorem APM(t:Nat)(T:bp):CS P fr s (.cell t T)=ld1 P s T (rdT (BD fr t)):=by
 rw[FJ];show(match fr.get t with
  |some (true,p)=>(A6 s p).bind (BK P T)
  | _=>none)=_
 cases fr.get t with
 |none=>rfl
 |some p=>
  obtain⟨c,v⟩:=p
  cases c with
  |false=>rfl
  |true=>
   simp only[AHY,AHZ]
   cases A6 s v<;>rfl
section
variable (d:Option Tmp)(c:Nat)
@[simp] theorem A6J(r:Option XS):dV P E [] r=r:=rfl
@[simp] theorem AYN(p:uA)(S:List uA)(r:Option XS):dV P E (p::S) r=dV P E S (PG P E p.sq (tZ (dU P E p.ph (AHN p.new r)))):=rfl
@[simp] theorem A6K(r:Option (XS×AK×AK)):dU P E [] r=r:=rfl
@[simp] theorem AYO(i:J0)(l:List J0)(r:Option (XS×AK×AK)):dU P E (i::l) r=dU P E l (AMI P E i r):=rfl
@[simp] theorem A90(new:List Tmp)(up:List AA)(loc:AA):AHN new (some ⟨c,fr,⟨up,loc⟩⟩)=if (new.all fun d=>(loc.get d).isNone)=true then some (⟨c,fr,⟨up,loc⟩⟩,[],[]) else none:=by show(Bool.rec none _ _:Option _)=_;rw[ifB];rfl
@[simp] theorem AYP(rd wr:AK):tZ (some (st,rd,wr))=if (wr.all fun p=>!(rd.contains p))=true then some st else none:=by show(Bool.rec none _ _:Option _)=_;rw[ifB]
def ph3(rds rd wr:AK):Option (XS×AK)->Option (XS×AK×AK)
 |some (st,w)=>some (st,rds++rd,w++wr)
 |none=>none
@[simp] theorem A6L(rds rd wr w:AK):ph3 rds rd wr (some (st,w))=some (st,rds++rd,w++wr):=rfl
@[simp] theorem AYQ(i:J0)(rd wr:AK):AMI P E i (some (st,rd,wr))=ph3 (H8 P i.k (CI st.fr)) rd wr (WE P E i st):=by show(match WE P E i st with|some (st',w)=>some (st',H8 P i.k (CI st.fr)++rd,w++wr)|none=>none)=_;cases WE P E i st<;>rfl
@[simp] theorem AYR(k:IK):WE P E ⟨none,d,k⟩ st=DJ P E d k st:=rfl
def gI0(P:ck)(E:XE)(d:Option Tmp)(k:IK)(st:XS)(w:Bool)(r:Option (Bool×V)):Option (XS×AK):=match r with
 |some (c,.bool b)=>if (c&&(b==w))=true then DJ P E d k st else if pX k=true then none else some (JB d st,[])
 |_=>none
@[simp] theorem AUM(t:Tmp)(w:Bool)(k:IK):WE P E ⟨some (t,w),d,k⟩ st=gI0 P E d k st w (BD st.fr t):=by
 show(match(match BD st.fr t with | some (c,.bool b)=>some (c&&(b == w)) | _=>none:Option Bool)with
  |some true=>DJ P E d k st
  |some false=>Bool.rec (some (JB d st,[])) none (pX k)
  | none=>none)=_
 unfold gI0;cases BD st.fr t with
 |none=>rfl
 |some p=>
  obtain⟨c,v⟩:=p
  cases v with
  |bool b=>cases h:(c&&(b==w))<;>simp[h,ifB]
  |_=>rfl
@[simp] theorem A6M(k:IK)(w c b:Bool):gI0 P E d k st w (some (c,.bool b))=if (c&&(b==w))=true then DJ P E d k st else if pX k=true then none else some (JB d st,[]):=rfl
@[simp] theorem BEN(T:bp)(x:cj)(f:cj->Option V):H8 P (.ld T x) f=CE (bx (P.cellsOf T) 1) (f x):=rfl
@[simp] theorem AUN(x y:cj)(f:cj->Option V):KG f [x,y]=JK (f y):=rfl
@[simp] theorem AMV(b:Bool)(es:List (List V)):JK (some (.list b es))=[]:=rfl
@[simp] theorem BEO(x:cj)(f:cj->Option V):H8 P (.mv x) f=[]:=rfl
@[simp] theorem A91(op:BinOp)(T:bp)(x y:cj)(f:cj->Option V):H8 P (.bin op T x y) f=[]:=rfl
@[simp] theorem BEP(T:bp)(x:cj)(i:Nat)(f:cj->Option V):H8 P (.fa T x i) f=[]:=rfl
@[simp] theorem A6N(x y z:cj)(f:cj->Option V):H8 P (.pick x y z) f=[]:=rfl
@[simp] theorem AYS(T:bp)(ps:List (Nat×cj))(f:cj->Option V):H8 P (.build T ps) f=[]:=rfl
@[simp] theorem AUO(T:bp)(n:Nat)(ps:List (Nat×cj))(f:cj->Option V):H8 P (.buildS T n ps) f=[]:=rfl
@[simp] theorem AYT(T:bp)(f:cj->Option V):H8 P (.alloc T) f=[]:=rfl
@[simp] theorem A92(x:cj)(f:cj->Option V):H8 P (.box x) f=[]:=rfl
@[simp] theorem A93(T:bp)(x y:cj)(f:cj->Option V):H8 P (.sto T x y) f=[]:=rfl
@[simp] theorem A94(x:List cj)(y:List bp)(f:cj->Option V):H8 P (.app x y) f=KG f x:=rfl
@[simp] theorem A6O(b:Bool)(t:Option Tmp)(g:cj)(x:List cj)(f:cj->Option V):H8 P (.call b t g x) f=[]:=rfl
@[simp] theorem A6P(T:bp)(x i:cj)(f:cj->Option V):H8 P (.oth (.indexAddr T x i)) f=M9 (f x):=rfl
@[simp] theorem BEQ(op:UnOp)(T:bp)(x:cj)(f:cj->Option V):H8 P (.oth (.unOp op T x)) f=[]:=rfl
@[simp] theorem A95(x:cj)(i:Nat)(f:cj->Option V):H8 P (.oth (.extract x i)) f=[]:=rfl
@[simp] theorem A96(x:cj)(T:bp)(b:Builtin)(f:cj->Option V):H8 P (.oth (.call ⟨.builtin b,#[x],#[T]⟩)) f=[]:=by cases b<;>rfl
@[simp] theorem BER(g:Fn)(x y:Array cj)(f:cj->Option V):H8 P (.oth (.makeFunc g x y)) f=[]:=rfl
def nw:Option XS->Option (XS×AK)
 |some st=>some (st,[])
 |none=>none
@[simp] theorem A97:nw (some st)=some (st,[]):=rfl
theorem GW(r:Option XS):UK r=nw r:=by cases r<;>rfl
@[simp] theorem A6Q(x:cj):DJ P E d (.mv x) st=nw (C4 P E d (.mv x) st):=GW _
@[simp] theorem AYU(op:BinOp)(T:bp)(x y:cj):DJ P E d (.bin op T x y) st=nw (C4 P E d (.bin op T x y) st):=GW _
@[simp] theorem A6R(T:bp)(x:cj)(f:Nat):DJ P E d (.fa T x f) st=nw (C4 P E d (.fa T x f) st):=GW _
@[simp] theorem AYV(T:bp)(x:cj):DJ P E d (.ldz T x) st=DJ P E d (.ld T x) st:=rfl
@[simp] theorem A98(T:bp)(x:cj)(f:cj->Option V):H8 P (.ldz T x) f=[]:=rfl
@[simp] theorem A6S(T:bp)(x:cj):DJ P E d (.ld T x) st=nw (C4 P E d (.ld T x) st):=GW _
@[simp] theorem AUP(x y z:cj):DJ P E d (.pick x y z) st=nw (C4 P E d (.pick x y z) st):=GW _
@[simp] theorem APN(T:bp)(ps:List (Nat×cj)):DJ P E d (.build T ps) st=nw (C4 P E d (.build T ps) st):=GW _
@[simp] theorem AMW(T:bp)(n:Nat)(ps:List (Nat×cj)):DJ P E d (.buildS T n ps) st=nw (C4 P E d (.buildS T n ps) st):=GW _
@[simp] theorem AYW(op:Op):DJ P E d (.oth op) st=nw (C4 P E d (.oth op) st):=GW _
@[simp] theorem APO(T:bp):DJ P E d (.alloc T) st=nw (C4 P E d (.alloc T) st):=GW _
@[simp] theorem AYX(x:cj):DJ P E d (.box x) st=nw (C4 P E d (.box x) st):=GW _
@[simp] theorem AYY(x:Option cj):DJ P E d (.mkM x) st=nw (C4 P E d (.mkM x) st):=GW _
@[simp] theorem AYZ(T:bp)(x y:cj):DJ P E d (.mkS T x y) st=nw (C4 P E d (.mkS T x y) st):=GW _
def wp(p:AK):Option XS->Option (XS×AK)
 |some st=>some (st,p)
 |none=>none
@[simp] theorem A99(p:AK):wp p (some st)=some (st,p):=rfl
@[simp] theorem AY0(T:bp)(x y:cj):DJ P E d (.sto T x y) st=wp (DV (bx (P.cellsOf T) 1) (CI st.fr x)) (C4 P E d (.sto T x y) st):=by show(match JJ P d T x y st with|some st'=>some (st',DV (bx (P.cellsOf T) 1) (CI st.fr x))|none=>none)=wp _ (JJ P d T x y st);cases JJ P d T x y st<;>rfl
@[simp] theorem AUQ(l k g o:Nat):CE true (some (.ptr l k g o))=[(l,k+2000000),(l,k+4000000),(l,6000000+1000*k+o)]:=rfl
@[simp] theorem APP(l k g i o:Nat):CE true (some (.eptr l k g i o))=[(l,k+2000000),(l,k+4000000),(l,6000000+1000*k+o)]:=rfl
@[simp] theorem AUR(b:Bool)(cs:List V):CE b (some (.ref cs))=[]:=by cases b<;>rfl
@[simp] theorem APQ(l k g i o:Nat):DV true (some (.eptr l k g i o))=[(l,k),(l,6000000+1000*k+o)]:=rfl
@[simp] theorem AUS(l k g n:Nat):M9 (some (.vec l k g n))=[(l,k+JF)]:=rfl
@[simp] theorem APR(b:Bool)(es:List (List V)):M9 (some (.list b es))=[]:=rfl
@[simp] theorem AUT(cs:List V):M9 (some (.ref cs))=[]:=rfl
def c01(E:XE)(d:Option Tmp)(st:XS):Option V->Option (List V)->Option XS
 |some (.fn f first cap),some vs=>EW d st (E.c0 f ((first++vs++cap).map weakV))
 |_,_=>none
@[simp] theorem AUU(f:cx)(first cap vs:List V):c01 E d st (some (.fn f first cap)) (some vs)=EW d st (E.c0 f ((first++vs++cap).map weakV)):=rfl
@[simp] theorem AUV(t:Option Tmp)(f:cj)(args:List cj):DJ P E d (.call false t f args) ⟨c,fr,s⟩=nw (c01 E d ⟨c,fr,s⟩ (CI fr f) (FN (CI fr) args)):=by
 show UK (bA E.c0 d f args ⟨c,fr,s⟩)=_;rw[GW];congr 1;unfold bA;cases hf:CI fr f with
 |none=>simp only[c01]
 |some v=>
  cases v with
  |fn g first cap=>
   simp only
   cases hm:FN (CI fr) args with
   |none=>simp only[c01]
   |some vs=>
    simp only[AUU]
    cases E.c0 g ((first++vs++cap).map weakV)<;>rfl
  |_=>simp only[c01]
@[simp] theorem BES{A:Ann}{kn:CF0}{n:Nat}:(BG P A kn n).c0=FW P kn (AE P A kn n):=rfl
end
theorem uH{A:Ann}{kn:CF0}{n N:Nat}(a b:cw):nY (AE P A kn n N) a b st (some (.bool true))=AE P A kn n N a st:=rfl
theorem pA{A:Ann}{kn:CF0}{n N:Nat}(a b:cw):nY (AE P A kn n N) a b st (some (.bool false))=AE P A kn n N b st:=rfl
attribute [simp] AHT ABH uC ABI ABJ ABK AHU uD oW AHV ABL AHW dW uE oX uF uH pA
end Go.Pg
namespace Go.Pg
variable {P:ck}{E:XE}{st:XS}{fr:Fr}{s:St}
@[simp] theorem AUW(k:cz)(n:Int):A8 (.int k n)=[.int k n]:=rfl
@[simp] theorem APS(b:Bool):A8 (.bool b)=[.bool b]:=rfl
@[simp] theorem AUX(cs:List V):A8 (.agg cs)=cs:=rfl
@[simp] theorem APT(b:Bool)(es:List (List V)):A8 (.list b es)=[.list b es]:=rfl
@[simp] theorem AUY:A8 .nil=[.nil]:=rfl
@[simp] theorem AUZ(l k g n:Nat):A8 (.vec l k g n)=[.vec l k g n]:=rfl
@[simp] theorem AY1(l k g:Nat):A8 (.mp l k g)=[.mp l k g]:=rfl
@[simp] theorem AY2(f:cx)(x y:List V):A8 (.fn f x y)=[.fn f x y]:=rfl
@[simp] theorem AU0(l k g n:Nat):A8 (.ptr l k g n)=[.ptr l k g n]:=rfl
@[simp] theorem AU1(k:cz)(n:Int):A9 (.int k n)=true:=rfl
@[simp] theorem APU(b:Bool):A9 (.bool b)=true:=rfl
@[simp] theorem AU2(cs:List V):A9 (.agg cs)=true:=rfl
@[simp] theorem APV(b:Bool)(es:List (List V)):A9 (.list b es)=true:=rfl
@[simp] theorem AU3:A9 .nil=true:=rfl
@[simp] theorem AU4(l k g n:Nat):A9 (.vec l k g n)=true:=rfl
@[simp] theorem AY3(l k g:Nat):A9 (.mp l k g)=true:=rfl
@[simp] theorem AY4(f:cx)(x y:List V):A9 (.fn f x y)=true:=rfl
@[simp] theorem AU5(l k g n:Nat):A9 (.ptr l k g n)=true:=rfl
@[simp] theorem AY5(op:BinOp)(T:bp)(k j:cz)(a b:Int):I3 P op T (.int k a) (.int j b)=if k=j then F9 op k a b else lV op k a b:=rfl
section
variable (k:cz)(a b:Int)
@[simp] theorem AY6:F9 .add k a b=some (.int k (k.wrap (a+b))):=rfl
@[simp] theorem AY7:F9 .sub k a b=some (.int k (k.wrap (a-b))):=rfl
@[simp] theorem AY8:F9 .mul k a b=some (.int k (k.wrap (a*b))):=rfl
@[simp] theorem AY9:F9 .quo k a b=if b=0 then none else some (.int k (k.wrap (a.tdiv b))):=rfl
@[simp] theorem AZA:F9 .rem k a b=if b=0 then none else some (.int k (a.tmod b)):=rfl
@[simp] theorem AZB:F9 .eql k a b=some (.bool (decide (a=b))):=by show some (V.bool (a==b))=_;congr 2
@[simp] theorem AZC:F9 .neq k a b=some (.bool (!decide (a=b))):=by show some (V.bool (a != b))=_;congr 2
@[simp] theorem AZD:F9 .lss k a b=some (.bool (decide (a<b))):=rfl
@[simp] theorem AZE:F9 .leq k a b=some (.bool (decide (a<=b))):=rfl
@[simp] theorem AZF:F9 .gtr k a b=some (.bool (decide (b<a))):=rfl
@[simp] theorem AZG:F9 .geq k a b=some (.bool (decide (b<=a))):=rfl
end
theorem AW{x:Int}(h1:-9223372036854775808<=x)(h2:x<9223372036854775808):IntKind.i64.wrap x=x:=by simp only[IntKind.wrap,IntKind.bits,IntKind.signed];simp;omega
def faP(P:ck)(x:V):Option (bp×Nat)->Option V
 |some (U,off)=>if P.cellsOf U=0 then none else match x with
  |.ref cs=>some (.ref (cs.drop off))
  |.ptr l k g o=>some (.ptr l k g (o+off))
  |.eptr l k g i o=>some (.eptr l k g i (o+off))
  |_=>none
 |none=>none
@[simp] theorem BAA(T:bp)(x:V)(f:Nat):C9 P T x f=faP P x (A4 P T f):=by unfold C9 faP;cases A4 P T f<;>rfl
@[simp] theorem BAB(U:bp)(off:Nat)(cs:List V):faP P (.ref cs) (some (U,off))=if P.cellsOf U=0 then none else some (.ref (cs.drop off)):=rfl
@[simp] theorem BAC(U:bp)(off l k g o:Nat):faP P (.ptr l k g o) (some (U,off))=if P.cellsOf U=0 then none else some (.ptr l k g (o+off)):=rfl
@[simp] theorem A6V(U:bp)(off l k g i o:Nat):faP P (.eptr l k g i o) (some (U,off))=if P.cellsOf U=0 then none else some (.eptr l k g i (o+off)):=rfl
def fd1(P:ck)(x:V):Option (bp×Nat)->Option V
 |some (U,off)=>match x with
  |.agg cs=>OR P U cs off
  |_=>none
 |none=>none
@[simp] theorem AU6(T:bp)(x:V)(f:Nat):IQ P T x f=fd1 P x (A4 P T f):=by unfold IQ fd1;cases x<;>cases A4 P T f<;>rfl
@[simp] theorem BAD(U:bp)(off:Nat)(cs:List V):fd1 P (.agg cs) (some (U,off))=OR P U cs off:=rfl
def cb(g off:Nat):Option (Nat×AX)->Option (List V)
 |some (g',.box cs)=>if g'=g then some (cs.drop off) else none
 |_=>none
@[simp] theorem BAE(g g' off:Nat)(cs:List V):cb g off (some (g',.box cs))=if g'=g then some (cs.drop off) else none:=rfl
def ce(g i off:Nat):Option (Nat×AX)->Option (List V)
 |some (g',.vec _ es)=>if g'=g then(es[i]?).map (·.drop off) else none
 |_=>none
@[simp] theorem BAF(g g' i off:Nat)(T:bp)(es:List (List V)):ce g i off (some (g',.vec T es))=if g'=g then(es[i]?).map (·.drop off) else none:=rfl
@[simp] theorem APW(cs:List V):A6 s (.ref cs)=some cs:=rfl
@[simp] theorem APX(l k g off:Nat):A6 s (.ptr l k g off)=cb g off (s.get l k):=by
 unfold cb;simp only[A6];cases s.get l k with
 |none=>rfl
 |some z=>obtain⟨g',r⟩:=z;cases r<;>rfl
@[simp] theorem AMX(l k g i off:Nat):A6 s (.eptr l k g i off)=ce g i off (s.get l k):=by
 unfold ce;simp only[A6];cases s.get l k with
 |none=>rfl
 |some z=>obtain⟨g',r⟩:=z;cases r<;>rfl
def iv(P:ck)(e:bp)(l k g n:Nat)(j:Int):Option (Nat×AX)->Option V
 |some (g',.vec _ es)=>if g'=g/\0<=j/\j<n/\n<=es.length/\(es.getD j.toNat []).length=P.cellsOf e/\0<P.cellsOf e then some (.eptr l k g j.toNat 0) else none
 |_=>none
@[simp] theorem BAG(e:bp)(l k g g' n:Nat)(j:Int)(T:bp)(es:List (List V)):iv P e l k g n j (some (g',.vec T es))=if g'=g/\0<=j/\j<n/\n<=es.length/\(es.getD j.toNat []).length=P.cellsOf e/\0<P.cellsOf e then some (.eptr l k g j.toNat 0) else none:=rfl
def ia(P:ck)(s:St)(x i:V):Option (Option Nat×bp)->Option V
 |some (none,e)=>match x,i with
  |.list _ es,.int _ j=>if 0<=j/\j<es.length/\(es.getD j.toNat []).length=P.cellsOf e/\0<P.cellsOf e then some (.ref (es.getD j.toNat [])) else none
  |.vec l k g n,.int _ j=>iv P e l k g n j (s.get l k)
  |_,_=>none
 |some (some n,e)=>match x,i with
  |.ref cs,.int _ j=>if 0<=j/\j<n/\0<P.cellsOf e then some (.ref (cs.drop (j.toNat*P.cellsOf e))) else none
  |.ptr l k g o,.int _ j=>if 0<=j/\j<n/\0<P.cellsOf e then some (.ptr l k g (o+j.toNat*P.cellsOf e)) else none
  |.eptr l k g i' o,.int _ j=>if 0<=j/\j<n/\0<P.cellsOf e then some (.eptr l k g i' (o+j.toNat*P.cellsOf e)) else none
  |_,_=>none
 |none=>none
@[simp] theorem BAH(T:bp)(x i:V):BO P s T x i=ia P s x i (BT P T):=by
 unfold BO ia;cases BT P T with
 |none=>rfl
 |some z=>
  obtain⟨n,e⟩:=z
  cases n with
  |some n=>cases x<;>cases i<;>rfl
  |none=>
   cases x with
   |vec l k g n=>
    cases i with
    |int q j=>
     simp only[iv]
     cases s.get l k with
     |none=>rfl
     |some z=>obtain⟨g',r⟩:=z;cases r<;>rfl
    |_=>rfl
   |_=>cases i<;>rfl
@[simp] theorem BAI(e:bp)(b:Bool)(es:List (List V))(k:cz)(j:Int):ia P s (.list b es) (.int k j) (some (none,e))=if 0<=j/\j<es.length/\(es.getD j.toNat []).length=P.cellsOf e/\0<P.cellsOf e then some (.ref (es.getD j.toNat [])) else none:=rfl
@[simp] theorem BEU(e:bp)(l q g n:Nat)(k:cz)(j:Int):ia P s (.vec l q g n) (.int k j) (some (none,e))=iv P e l q g n j (s.get l q):=rfl
@[simp] theorem BEV(n:Nat)(e:bp)(cs:List V)(k:cz)(j:Int):ia P s (.ref cs) (.int k j) (some (some n,e))=if 0<=j/\j<n/\0<P.cellsOf e then some (.ref (cs.drop (j.toNat*P.cellsOf e))) else none:=rfl
@[simp] theorem BEW(n:Nat)(e:bp)(l q g o:Nat)(k:cz)(j:Int):ia P s (.ptr l q g o) (.int k j) (some (some n,e))=if 0<=j/\j<n/\0<P.cellsOf e then some (.ptr l q g (o+j.toNat*P.cellsOf e)) else none:=rfl
theorem PI{T:bp}(h:DN P T=true):∃e,P.underlying T=some (.slice e):=by
 unfold DN at h;split at h
 ·rename_i e he;exact⟨e,he⟩
 ·cases h
@[simp] theorem uI{T:bp}(h:DN P T=true)(b:Bool)(es:List (List V)):HM P T (.list b es)=some (.int .i64 es.length):=by obtain⟨e,he⟩:=PI h;simp[HM,he]
@[simp] theorem ABN{T:bp}(h:DN P T=true)(l k g n:Nat):HM P T (.vec l k g n)=some (.int .i64 n):=by obtain⟨e,he⟩:=PI h;simp[HM,he]
@[simp] theorem gD{T:bp}(h:DN P T=true):HM P T .nil=some (.int .i64 0):=by obtain⟨e,he⟩:=PI h;simp[HM,he]
def fv(place:Nat->Option (Nat×Nat))(cs:List V)(v:V)(rest:List (Nat×V)):Option (Nat×Nat)->Option (List V)
 |none=>none
 |some (off,size)=>if (A8 v).length=size/\off+(A8 v).length<=cs.length then C8 place (A2 cs off (A8 v)) rest else none
@[simp] theorem AZH(place:Nat->Option (Nat×Nat))(cs:List V):C8 place cs []=some cs:=rfl
@[simp] theorem AU7(place:Nat->Option (Nat×Nat))(cs:List V)(i:Nat)(v:V)(rest:List (Nat×V)):C8 place cs ((i,v)::rest)=fv place cs v rest (place i):=by simp only[C8];unfold fv;cases place i<;>rfl
@[simp] theorem BAJ(place:Nat->Option (Nat×Nat))(cs:List V)(v:V)(rest:List (Nat×V))(off size:Nat):fv place cs v rest (some (off,size))=if (A8 v).length=size/\off+(A8 v).length<=cs.length then C8 place (A2 cs off (A8 v)) rest else none:=rfl
attribute [simp] A2
@[simp] theorem APY(size:Nat)(cs:List V):CR size cs 0=[]:=rfl
@[simp] theorem APZ(size:Nat)(cs:List V)(n:Nat):CR size cs (n+1)=cs.take size::CR size (cs.drop size) n:=rfl
def ch1(size len:Nat):Option (List V)->Option V
 |some cs=>some (.list true (CR size cs len))
 |none=>none
@[simp] theorem A6W(size len:Nat)(cs:List V):ch1 size len (some cs)=some (.list true (CR size cs len)):=rfl
def bsz(P:ck)(e:bp)(len:Nat)(parts:List (Nat×V)):Option (List V)->Option V
 |some z=>if (parts.all fun p=>A9 p.2)=true/\z.length=P.cellsOf e/\0<P.cellsOf e/\len*P.cellsOf e<=2 ^ 24 then
   ch1 (P.cellsOf e) len (C8 (fun i=>some (i*P.cellsOf e,P.cellsOf e)) (bc len z).flatten parts) else none
 |none=>none
@[simp] theorem A6X(e:bp)(len:Nat)(parts:List (Nat×V))(z:List V):bsz P e len parts (some z)=if (parts.all fun p=>A9 p.2)=true/\z.length=P.cellsOf e/\0<P.cellsOf e/\len*P.cellsOf e<=2 ^ 24 then
   ch1 (P.cellsOf e) len (C8 (fun i=>some (i*P.cellsOf e,P.cellsOf e)) (bc len z).flatten parts) else none:=rfl
def bsl(P:ck)(len:Nat)(parts:List (Nat×V)):Option (Option Nat×bp)->Option V
 |some (none,e)=>bsz P e len parts (CA P e)
 |_=>none
@[simp] theorem A6Y(e:bp)(len:Nat)(parts:List (Nat×V)):bsl P len parts (some (none,e))=bsz P e len parts (CA P e):=rfl
@[simp] theorem BAL(T:bp)(len:Nat)(parts:List (Nat×V)):CD P T len parts=bsl P len parts (BT P T):=by
 unfold CD bsl;cases BT P T with
 |none=>rfl
 |some z=>
  obtain⟨n,e⟩:=z
  cases n with
  |some n=>rfl
  |none=>
   simp only[bsz]
   cases CA P e with
   |none=>rfl
   |some z=>
    simp only
    split
    ·cases C8 (fun i=>some (i*P.cellsOf e,P.cellsOf e)) (bc len z).flatten parts<;>rfl
    ·rfl
def fn2(f:cx):Option (List V)->Option (List V)->Option V
 |some a,some b=>some (.fn f a b)
 |_,_=>none
@[simp] theorem A6Z(f:cx)(a b:List V):fn2 f (some a) (some b)=some (.fn f a b):=rfl
@[simp] theorem BEZ(f:cx)(x y:Array cj)(r:cj->Option V):JX P (tY (.makeFunc (.func f) x y)) s r=fn2 f (FN r x.toList) (FN r y.toList):=by show((x.toList.mapM r).bind fun a=>(y.toList.mapM r).bind fun b=>some (V.fn f a b))=_;rw[<-K1,<-K1];cases FN r x.toList<;>cases FN r y.toList<;>rfl
@[simp] theorem BAN(x y:cj)(Ts:Array bp)(r:cj->Option V):JX P (tY (.call ⟨.builtin .max,#[x,y],Ts⟩)) s r=o2 TU (r x) (r y):=jQ _ _ _
@[simp] theorem BAO(x y:cj)(Ts:Array bp)(r:cj->Option V):JX P (tY (.call ⟨.builtin .min,#[x,y],Ts⟩)) s r=o2 TV (r x) (r y):=jQ _ _ _
@[simp] theorem AZI(k j:cz)(m n:Int):TU (.int k m) (.int j n)=if k=j then some (.int k (if n>m then n else m)) else none:=rfl
@[simp] theorem AZJ(k j:cz)(m n:Int):TV (.int k m) (.int j n)=if k=j then some (.int k (if n<m then n else m)) else none:=rfl
theorem BS{e:bp}{n:Nat}{ys:List (List V)}(hc:0<P.cellsOf e)(hz:cO P e=true):BV P e n ys=true↔(ys.all (fun y=>y.length==P.cellsOf e)=true/\n+ys.length<=maxLen/\(n+ys.length)*P.bytesOf e<=140737488355328):=by simp[BV,hc,hz,and_assoc]
end Go.Pg
namespace Go.Pg
variable {P:ck}{E:XE}{st:XS}{fr:Fr}{s:St}
theorem AN{P:ck}{kn:CF0}{rec:GU}{f:cx}{args:List V}(h:kn f args=none):A5 P kn rec f args=EQ P rec f args:=by unfold A5;rw[h]
def pv(k γ:Nat):List (List V)->V
 |[]=>.nil
 |e::es=>.vec 0 k γ (e::es).length
def pl(k γ:Nat)(T:bp):List (List V)->AA
 |[]=>[]
 |e::es=>[(k,γ,.vec T (e::es))]
def sl:List (List V)->V
 |[]=>.nil
 |e::es=>.list false (e::es)
@[simp] theorem BE0(k γ:Nat):pv k γ []=.nil:=rfl
@[simp] theorem BE1(k γ:Nat)(T:bp):pl k γ T []=[]:=rfl
@[simp] theorem BAP(k γ:Nat)(T:bp)(es:List (List V))(y:List V)(ys:List (List V)):pl k γ T (es++y::ys)=[(k,γ,.vec T (es++y::ys))]:=by cases es<;>rfl
@[simp] theorem BAQ(k γ:Nat)(T:bp)(y:List V)(ys:List (List V)):pl k γ T (y::ys)=[(k,γ,.vec T (y::ys))]:=rfl
@[simp] theorem BHV(k γ:Nat)(T:bp)(es:List (List V)):kl k [] ((pl k γ T es).get k)=pl k γ T es:=by
 cases es with
 |nil=>rfl
 |cons e es=>simp
@[simp] theorem A60{k j:Nat}(γ:Nat)(T:bp)(es:List (List V))(h:j≠k):(pl k γ T es).get j=none:=by
 cases es with
 |nil=>rfl
 |cons e es=>simp[h]
@[simp] theorem AU8(e k c γ:Nat)(loc:AA)(es:List (List V))(y:List V)(ys:List (List V))(hl:AA.get loc k=(pl k γ e es).get k)(h1:es.all (fun y=>y.length==P.cellsOf e)=true)(h2:BV P e es.length (y::ys)=true) :
  apV P e k c fr ⟨[],loc⟩ (pv k γ es) (y::ys)=some ⟨c+1,(k,true,pv k c (es++y::ys))::fr,⟨[],(k,c,.vec e (es++y::ys))::loc⟩⟩:=by
 cases es with
 |nil=>
  simp only[bq]at h2
  simp[h2,pv]
 |cons z es=>
  have hl:AA.get loc k=some (γ,.vec e (z::es)):=by rw[hl];simp
  simp only[pv,AMS,AH4,bq,if_true,hl,oY,VM,UW,true_and,h1,h2]
  simp[Nat.add_comm,Nat.add_left_comm]
theorem MI{T:bp}(f:Nat)(loc:AA)(k γ:Nat)(es:List (List V))(hl:AA.get loc k=(pl k γ T es).get k):A1 ⟨[],loc⟩ (f+1) (pv k γ es)=some (sl es):=by
 cases es with
 |nil=>rfl
 |cons z es=>
  have hl:AA.get loc k=some (γ,.vec T (z::es)):=by rw[hl];simp
  simp only[pv,cK,bq,if_true,hl,AH5,sl]
  simp
@[simp] theorem AZK(f k γ:Nat)(T:bp)(es:List (List V)):A1 ⟨[],pl k γ T es⟩ (f+1) (pv k γ es)=some (sl es):=MI (T:=T) f _ k γ es rfl
@[simp] theorem A61{T:bp}(h:DN P T=true)(es:List (List V)):HM P T (sl es)=some (.int .i64 es.length):=by
 cases es with
 |nil=>exact gD h
 |cons e es=>exact uI h _ _
@[simp] theorem A62{T:bp}(h:DN P T=true)(k γ:Nat)(es:List (List V)):HM P T (pv k γ es)=some (.int .i64 es.length):=by
 cases es with
 |nil=>exact gD h
 |cons e es=>exact ABN h _ _ _ _
@[simp] theorem gE(f:Nat)(es:List (List V)):AG (f+1) (sl es)=es.all fun e=>e.all (AG f):=by cases es<;>rfl
@[simp] theorem A63(es:List (List V)):weakN (sl es)=.list false es:=by cases es<;>rfl
@[simp] theorem A64(es:List (List V)):weakM (sl es)=.list false es:=by cases es<;>rfl
@[simp] theorem BAR(es:List (List V)):weakV (sl es)=sl es:=by cases es<;>rfl
@[simp] theorem A65(es:List (List V)):weakC (sl es)=sl es:=by cases es<;>rfl
@[simp] theorem AZL(es:List (List V)):A8 (sl es)=[sl es]:=by cases es<;>rfl
@[simp] theorem AZM(es:List (List V)):A9 (sl es)=true:=by cases es<;>rfl
@[simp] theorem AZN(k γ:Nat)(es:List (List V)):A8 (pv k γ es)=[pv k γ es]:=by cases es<;>rfl
@[simp] theorem AZO(k γ:Nat)(es:List (List V)):A9 (pv k γ es)=true:=by cases es<;>rfl
@[simp] theorem AZP(f:Nat)(es:List (List V)):A1 s (f+1) (sl es)=some (sl es):=by cases es<;>rfl
def adV(P:ck)(e:bp)(d c:Nat)(fr:Fr)(s:St)(xv:V)(ys:List (List V)):Option (XS×AK):=match I6 xv ys with
 |some es=>if es.all (fun y=>y.length==P.cellsOf e)=true/\BV P e es.length ys=true then some (⟨c+1,(d,true,.vec s.up.length d c (es.length+ys.length))::fr,s.put s.up.length d c (.vec e (es++ys))⟩,[(s.up.length,d),(s.up.length,d+JF)]) else none
 |none=>match xv with
  |.vec l q γ n=>wp [(l,q),(l,q+JF)] (apW P e d c fr s l q γ n ys (TY n ys (s.get l q)))
  |_=>none
def ad4(P:ck)(e:bp)(d c:Nat)(fr:Fr)(s:St)(xv:V):Option (List (List V))->Option (XS×AK)
 |some ys=>adV P e d c fr s xv ys
 |none=>none
@[simp] theorem AH6(e:bp)(d c:Nat)(xv:V)(ys:List (List V)):ad4 P e d c fr s xv (some ys)=adV P e d c fr s xv ys:=rfl
def ad3(P:ck)(d c:Nat)(fr:Fr)(s:St):Option (Option Nat×bp)->Option V->Option V->Option (XS×AK)
 |some (none,e),some xv,some yv=>ad4 P e d c fr s xv (elemsOf s yv)
 |_,_,_=>none
@[simp] theorem AH7(d c:Nat)(e:bp)(xv yv:V):ad3 P d c fr s (some (none,e)) (some xv) (some yv)=ad4 P e d c fr s xv (elemsOf s yv):=rfl
@[simp] theorem AZQ(d:Tmp)(c:Nat)(x y:cj)(T:bp):DJ P E (some d) (.app [x,y] [T,T]) ⟨c,fr,s⟩=ad3 P d c fr s (BT P T) (CI fr x) (CI fr y):=by
 show xAppD P (some d) [x,y] [T,T] _=_;unfold xAppD xAppG;simp only[Nat.beq_refl];cases hT:BT P T with
 |none=>cases CI fr x<;>cases CI fr y<;>rfl
 |some p=>
  obtain⟨k,e⟩:=p
  cases k with
  |some k=>cases CI fr x<;>cases CI fr y<;>rfl
  |none=>
   cases CI fr x with
   |none=>rfl
   |some xv=>
    cases CI fr y with
    |none=>rfl
    |some yv=>
     simp only[AH7]
     cases elemsOf s yv with
     |none=>rfl
     |some ys=>
      simp only[AH6,adV]
      cases I6 xv ys with
      |some es=>
       simp only[ifB,bj,bk]
       by_cases hC:es.all (fun y=>y.length==P.cellsOf e)=true/\BV P e es.length ys=true
       ·rw[if_pos hC,if_pos hC]
       ·rw[if_neg hC,if_neg hC]
      |none=>
       simp only
       unfold nQ
       cases xv with
       |vec l q γ n=>
        simp only
        cases TY n ys (s.get l q)with
        |none=>rfl
        |some z=>
         obtain⟨γ',r⟩:=z
         cases r with
         |vec W es=>
          simp only[ifB,bj,bk,UW,bg,and_assoc]
          by_cases hC:γ'=γ/\W=e/\n=es.length/\es.all (fun y=>y.length==P.cellsOf e)=true/\BV P e es.length ys=true
          ·rw[if_pos hC,if_pos hC];rfl
          ·rw[if_neg hC,if_neg hC];rfl
         |_=>rfl
       |_=>rfl
@[simp] theorem BE3(e k c γ:Nat)(loc:AA)(es:List (List V))(y:List V)(ys:List (List V))(hl:AA.get loc k=(pl k γ e es).get k)(h1:es.all (fun y=>y.length==P.cellsOf e)=true)(h2:BV P e es.length (y::ys)=true) :
  adV P e k c fr ⟨[],loc⟩ (pv k γ es) (y::ys)=some (⟨c+1,(k,true,pv k c (es++y::ys))::fr,⟨[],(k,c,.vec e (es++y::ys))::loc⟩⟩,[(0,k),(0,k+JF)]):=by
 cases es with
 |nil=>
  simp only[bq]at h2
  simp[adV,I6,h2,pv]
 |cons z es=>
  have hl:AA.get loc k=some (γ,.vec e (z::es)):=by rw[hl];simp
  simp only[pv,adV,I6,AH4,bq,if_true,hl,oY,VM,UW,true_and,h1,h2]
  simp[Nat.add_comm,Nat.add_left_comm]
end Go.Pg
namespace Go.Pg
variable {P:ck}{E:XE}{st:XS}{fr:Fr}{s:St}
theorem uJ{α:Type}(x:α):B8 [x]=some ([],x):=rfl
def un1{α:Type}(x:α):Option (List α×α)->Option (List α×α)
 |some (a,b)=>some (x::a,b)
 |none=>none
@[simp] theorem A66{α:Type}(x:α)(a:List α)(b:α):un1 x (some (a,b))=some (x::a,b):=rfl
theorem XG{α:Type}(x y:α)(l:List α):B8 (x::y::l)=un1 x (B8 (y::l)):=by simp only[B8];unfold un1;cases B8 (y::l)<;>rfl
attribute [simp] uJ XG
def RV(d:Option Tmp)(fr:Fr)(c:Nat)(r:V):Option (List AA×AA)->Option XS
 |some (u,l)=>some ⟨c,putD fr d true r,⟨u,l⟩⟩
 |none=>none
@[simp] theorem AZR(d:Tmp)(c:Nat)(r:V)(u:List AA)(l:AA):RV (some d) fr c r (some (u,l))=some ⟨c,(d,true,r)::fr,⟨u,l⟩⟩:=rfl
@[simp] theorem BAS(c:Nat)(r:V)(u:List AA)(l:AA):RV none fr c r (some (u,l))=some ⟨c,fr,⟨u,l⟩⟩:=rfl
def pB(d:Option Tmp)(fr:Fr)(st:XS):Option V->Option XS
 |some r=>RV d fr st.c r (B8 (st.s.up.map (AH st.s)))
 |none=>none
@[simp] theorem AZS(d:Option Tmp)(c:Nat)(fr':Fr)(up:List AA)(loc:AA)(r:V):pB d fr ⟨c,fr',⟨up,loc⟩⟩ (some r)=RV d fr c r (B8 (up.map (AH ⟨up,loc⟩))):=rfl
def clX(s:St):Option V->Option V
 |some r=>A1 s 4 r
 |none=>none
@[simp] theorem A67(r:V):clX s (some r)=A1 s 4 r:=rfl
def XT(P:ck)(d:Option Tmp)(fr:Fr)(rs:List ResultVar)(r:Option (Exit×XS)):Option XS:=match r with
 |some (.ret,st)=>pB d fr st (clX st.s (F3 P rs st.fr st.s))
 |some (.normal,st)=>pB d fr st (clX st.s (F3 P rs st.fr st.s))
 |_=>none
@[simp] theorem AH8(d:Option Tmp)(rs:List ResultVar):XT P d fr rs (some (.ret,st))=pB d fr st (clX st.s (F3 P rs st.fr st.s)):=rfl
@[simp] theorem pC(d:Option Tmp)(rs:List ResultVar):XT P d fr rs (some (.normal,st))=pB d fr st (clX st.s (F3 P rs st.fr st.s)):=rfl
theorem pD{A:Ann}{kn:CF0}{n:Nat}{f:cx}{fn:Func}{code:cw}{args:List V}(hf:P.funcs[f]? = some fn)(hb:fn.body=some code)(hs:bm args.length fn.ntmps=true)(hcl:(args.all (AG 9)&&!(BM P f))=false)(d:Option Tmp)(c:Nat)(fr:Fr)(up:List AA)(loc:AA) :
  HC (BG P A kn n) d ⟨c,fr,⟨up,loc⟩⟩ f args=XT P d fr fn.results.toList (AE P A kn n fn.ntmps code ⟨c,AD 0 args,⟨up++[loc],[]⟩⟩):=by
 show(match bD P kn (AE P A kn n) f args ⟨c,fr,⟨up,loc⟩⟩ with
  |some (r,st')=>some (⟨st'.c,putD st'.fr d true r,st'.s⟩:XS)
  | none=>none)=_
 unfold bD
 rw[hcl]
 unfold fK XC nZ
 rw[hf]
 simp only[hb,hs]
 generalize AE P A kn n fn.ntmps code ⟨c,AD 0 args,⟨up++[loc],[]⟩⟩=q
 have aux:∀st:XS,(match(match(match AAU P fn.results.toList st with
   |some (r,c,up)=>match B8 up with
    |some (u,l)=>some (r,(⟨c,fr,⟨u,l⟩⟩:XS))
    |none=>none
   | none=>none:Option (V×XS))with
   |some r=>some r
   | none=>none:Option (V×XS))with
  |some (r,st')=>some (⟨st'.c,putD st'.fr d true r,st'.s⟩:XS)
  | none=>none)=pB d fr st (clX st.s (F3 P fn.results.toList st.fr st.s)):=fun st=>by
  unfold AAU clX
  cases F3 P fn.results.toList st.fr st.s with
  |none=>rfl
  |some r=>
   cases h:A1 st.s 4 r with
   |none=>simp[pB,h]
   |some r'=>
    simp only[h,pB]
    cases B8 (st.s.up.map (AH st.s))with
    |none=>rfl
    |some z=>rfl
 cases q with
 |none=>rfl
 |some q=>
  obtain⟨e,st⟩:=q
  have:=aux st
  cases e with
  |ret=>simp only[AH8,<-this];cases AAU P fn.results.toList st with
   |none=>rfl
   |some z=>
    obtain⟨r,c,up⟩:=z
    simp only
    cases B8 up<;>rfl
  |normal=>simp only[pC,<-this];cases AAU P fn.results.toList st with
   |none=>rfl
   |some z=>
    obtain⟨r,c,up⟩:=z
    simp only
    cases B8 up<;>rfl
  |_=>rfl
theorem A3{A:Ann}{kn:CF0}{n:Nat}{f:cx}{fn:Func}{code:cw}{args:List V}(hf:P.funcs[f]? = some fn)(hb:fn.body=some code)(hs:bm args.length fn.ntmps=true)(hcl:args.all (AG 9)=false)(d:Option Tmp)(c:Nat)(fr:Fr)(up:List AA)(loc:AA) :
  HC (BG P A kn n) d ⟨c,fr,⟨up,loc⟩⟩ f args=XT P d fr fn.results.toList (AE P A kn n fn.ntmps code ⟨c,AD 0 args,⟨up++[loc],[]⟩⟩) :=
 pD hf hb hs (by rw[hcl,Bool.false_and]) d c fr up loc
theorem xP{A:Ann}{kn:CF0}{n:Nat}{f:cx}{fn:Func}{code:cw}{args:List V}(hf:P.funcs[f]? = some fn)(hb:fn.body=some code)(hs:bm args.length fn.ntmps=true)(hh:BM P f=true)(d:Option Tmp)(c:Nat)(fr:Fr)(up:List AA)(loc:AA) :
  HC (BG P A kn n) d ⟨c,fr,⟨up,loc⟩⟩ f args=XT P d fr fn.results.toList (AE P A kn n fn.ntmps code ⟨c,AD 0 args,⟨up++[loc],[]⟩⟩) :=
 pD hf hb hs (by rw[hh,Bool.not_true,Bool.and_false]) d c fr up loc
@[simp] theorem AVA(f l k g o:Nat):AG (f+1) (.ptr l k g o)=false:=rfl
@[simp] theorem AVB(f l k g o:Nat):AG (f+1) (.vec l k g o)=false:=rfl
@[simp] theorem A68(l k g o:Nat):weakV (.ptr l k g o)=.ptr l k g o:=rfl
@[simp] theorem A69(l k g o:Nat):weakV (.vec l k g o)=.vec l k g o:=rfl
@[simp] theorem A7A(cs:List V):weakV (.ref cs)=.ref cs:=rfl
@[simp] theorem BE5(d c:Nat)(f:cx)(x y:List V):bx1 d c fr s (some (.fn f x y))=some ⟨c+1,(d,true,.ptr s.up.length d c 0)::fr,s.put s.up.length d c (.box [.fn f x y])⟩:=rfl
@[simp] theorem BAT(d c:Nat)(l k g o:Nat):bx1 d c fr s (some (.ptr l k g o))=some ⟨c+1,(d,true,.ptr s.up.length d c 0)::fr,s.put s.up.length d c (.box [.ptr l k g o])⟩:=rfl
@[simp] theorem FY:AH s []=[]:=rfl
@[simp] theorem A0(k g:Nat)(r:AX)(L:AA):AH s ((k,g,r)::L)=(k,g,CG s r)::AH s L:=rfl
def sr1(r:AX):Option (List V)->AX
 |some ds=>.box ds
 |none=>r
@[simp] theorem A7B(r:AX)(ds:List V):sr1 r (some ds)=.box ds:=rfl
theorem EX(cs:List V):CG s (.box cs)=sr1 (.box cs) (HA (BZ s) cs):=by unfold CG CC sr1;simp only;cases HA (BZ s) cs<;>rfl
attribute [simp] EX
theorem uK(f:V->Option V):HA f []=some []:=rfl
theorem pE(f:V->Option V)(v:V)(l:List V):HA f (v::l)=mc2 (f v) (HA f l):=by
 simp only[HA];cases f v with
 |none=>rfl
 |some x=>cases HA f l<;>rfl
attribute [simp] uK pE
@[simp] theorem AP0(k:cz)(n:Int):BZ s (.int k n)=some (.int k n):=rfl
@[simp] theorem AMY(b:Bool):BZ s (.bool b)=some (.bool b):=rfl
@[simp] theorem AMZ(b:Bool)(es:List (List V)):BZ s (.list b es)=some (.list b es):=rfl
@[simp] theorem AP1:BZ s .nil=some .nil:=rfl
@[simp] theorem AVC(es:List (List V)):BZ s (sl es)=some (sl es):=by cases es<;>rfl
@[simp] theorem AVD(f:cx)(x y:List V):BZ s (.fn f x y)=A1 s 4 (.fn f x y):=rfl
@[simp] theorem AP2(l k g o:Nat):BZ s (.ptr l k g o)=A1 s 4 (.ptr l k g o):=rfl
@[simp] theorem pF(l k g o:Nat):BZ s (.vec l k g o)=A1 s 4 (.vec l k g o):=rfl
@[simp] theorem AZT(f:Nat)(g:cx)(x y:List V):A1 s (f+1) (.fn g x y)=fn2 g (QN (A1 s f) x) (QN (A1 s f) y):=by simp only[A1,UY,fn2];cases QN (A1 s f) x<;>cases QN (A1 s f) y<;>rfl
def cp1(f:List V->Option (List V))(g off:Nat):Option (Nat×AX)->Option V
 |some (g',.box cs)=>if g'=g then(f cs).map fun ds=>.ref (ds.drop off) else none
 |_=>none
@[simp] theorem AVE(f:Nat)(up:List AA)(loc:AA)(l k g off:Nat):A1 ⟨up,loc⟩ (f+1) (.ptr l k g off)=if l=up.length then cp1 (QN (A1 ⟨up,loc⟩ f)) g off (loc.get k) else some (.ptr l k g off):=by
 simp only[A1,UY];split
 ·cases loc.get k with
  |none=>rfl
  |some z=>obtain⟨g',r⟩:=z;cases r<;>rfl
 ·rfl
theorem AM0:CG s .dead=.dead:=rfl
attribute [simp] AM0
end Go.Pg
theorem Go.Pg.qNz (m:Nat)(h:0<m):∃k,m=k+1:=⟨m-1,by omega⟩
