/- Operations of a region with all that hangs on the region alone worked out; running them one after another. No program in sight. -/
import Derived.Test.YthhdhbalenanjaaGreatQ2
noncomputable section
open Go renaming TypeId->bp,Operand->cj,Program->ck,Oper->cq,Code->cw,FuncId->cx,IntKind->cz
open Bool renaming and_eq_true->bj
open List renaming length_append->bk,length_nil->bq,getElem?_eq_getElem->bw,mapM_cons->bz,all_cons->bb,replicate->bc,mapM_nil->bh
open Nat renaming beq->bx,blt_eq->bf,beq_eq->bg,ble->bm,blt->bn
namespace Go.Pg
variable {P:ck}{E:XE}
inductive IK where
 |mv (x:cj)
 |bin (op:BinOp) (T:bp) (x y:cj)
 |fa (T:bp) (x:cj) (f:Nat)
 |ld (T:bp) (x:cj)
 |ldz (T:bp) (x:cj)
 |pick (c a b:cj)
 |build (T:bp) (ps:List (Nat×cj))
 |buildS (T:bp) (n:Nat) (ps:List (Nat×cj))
 |oth (op:Op)
 |alloc (T:bp)
 |box (x:cj)
 |mkM (r:Option cj)
 |mkS (T:bp) (x y:cj)
 |sto (T:bp) (x y:cj)
 |upd (T:bp) (x i y:cj)
 |call (own:Bool) (tk:Option Tmp) (f:cj) (args:List cj)
 |app (args:List cj) (Ts:List bp)
 |clr (args:List cj) (Ts:List bp)
 |cpy (args:List cj) (Ts:List bp)
def sO (op : Op) : cq := { dst := none, op := op, type := 0, pos := "", after := #[], guard := none }
def AIZ(all:List cq):List cj->Option Tmp
 |[]=>none
 |x::r=>match x with
  |.tmp t=>cond (ANJ all t) (some t) (AIZ all r)
  |_=>AIZ all r
def OH(all:List cq)(o:cq):IK:=match o.op with
 |.move x=>.mv x
 |.assign x=>.mv x
 |.binOp op T x y _=>.bin op T x y
 |.fieldAddr T x f=>.fa T x f
 |.load T x=>.ld T x
 |.pick c a b=>.pick c a b
 |.build T ps=>.build T ps.toList
 |.buildSlice T n ps=>.buildS T n ps.toList
 |.alloc T=>.alloc T
 |.box _ x=>.box x
 |.makeMap _ r=>.mkM r
 |.makeSlice T x y=>.mkS T x y
 |.store T x y=>.sto T x y
 |.mapUpdate T x i y=>.upd T x i y
 |.call c=>match c.callee with
  |.value f=>.call (DV all o) (AIZ all c.args.toList) f c.args.toList
  |.builtin .append=>.app c.args.toList c.argTypes.toList
  |.builtin .clear=>.clr c.args.toList c.argTypes.toList
  |.builtin .copy=>.cpy c.args.toList c.argTypes.toList
  |_=>.oth o.op
 |op=>.oth op
structure J7 where
 g:Option (Tmp×Bool)
 d:Option Tmp
 k:IK
def comp(all:List cq)(o:cq):J7:=⟨LW all o,o.dst,OH all o⟩
def AI0:IK->IK
 |.ld T x=>.ldz T x
 |k=>k
def jA(all:List cq)(o:cq):J7:=⟨LW all o,o.dst,cond (zB all o) (AI0 (OH all o)) (OH all o)⟩
def EO(d:Option Tmp)(st:XS)(r:Option V):Option XS:=match r with
 |some v=>some ⟨st.c,putD st.fr d true v,st.s⟩
 |none=>none
def ARK(tk:Option Tmp)(st:XS):XS:=match tk with
 |none=>st
 | some t=>match(match BD st.fr t with
   |some (true,.vec l q γ n)=>match st.s.get l q with
    |some (γ',.vec _ es)=>Bool.rec none (some ⟨st.c,(t,true,.list false (es.take n))::st.fr,st.s.put l q γ .dead⟩) (bx γ' γ&&bm n es.length&&bn γ st.c)
    |_=>none
   | _=>none:Option XS)with
  |some st1=>st1
  |none=>st
def DE(P:ck)(E:XE)(d:Option Tmp)(k:IK)(st:XS):Option XS:=match k with
 |.mv x=>EO d st (CX st.fr x)
 |.bin op T x y=>EO d st (ACH P st.fr op T x y)
 |.fa T x f=>EO d st (xFA P st.fr T x f)
 |.ld T x=>EO d st (OG P st.fr st.s T x)
 |.ldz T x=>EO d st (OG P st.fr st.s T x)
 |.pick c a b=>EO d st (yM st.fr c a b)
 |.build T ps=>EO d st (WV P st.fr T ps)
 |.buildS T n ps=>EO d st (QN P st.fr T n ps)
 |.oth op=>EO d st (J2 P (sO op) st.s (CX st.fr))
 |.alloc T=>PT P d T st
 |.box x=>pQ d x st
 |.mkM r=>ACD d r st
 |.mkS T x y=>YA P d T x y st
 |.sto T x y=>JR P d T x y st
 |.upd T x i y=>ACE P d T x i y st
 |.call own tk f args=>pY E own d f args (ARK tk st)
 |.app args Ts=>xAppend P d args Ts st
 |.clr args Ts=>kR P d args Ts st
 |.cpy args Ts=>yO P d args Ts st
def opI(P:ck)(E:XE)(i:J7)(st:XS):Option XS:=match gdX st.fr i.g with
 |some true=>DE P E i.d i.k st
 |some false=>some (JE i.d st)
 |none=>none
def opO(P:ck)(E:XE)(i:J7)(r:Option XS):Option XS:=match r with
 |some st=>opI P E i st
 |none=>none
def P1(P:ck)(E:XE):List J7->Option XS->Option XS
 |[],r=>r
 |i::l,r=>P1 P E l (opO P E i r)
theorem eB(all:List cq)(st:XS):∀(xs:List cj),(match NX all st xs with
  |some st1=>st1
  | none=>st)=ARK (AIZ all xs) st
 |[]=>rfl
 |x::r=>by
  unfold NX AIZ;cases x with
  |tmp t=>
   simp only
   cases ANJ all t with
   |false=>exact eB all st r
   |true=>rfl
  |_=>exact eB all st r
theorem A8D{o:cq}{st:XS}:AHC P (fun _=>false) o st=none:=by unfold AHC;split<;>rfl
theorem AI1(hl:E.lit=fun _=>false)(all:List cq)(o:cq)(st:XS):opX P E all o st=opI P E (comp all o) st:=by
 unfold opX opI;rw[hl];simp only[A8D];have:(match AHD all o st with
   |some st1=>RI P E (DV all) o st1
   | none=>RI P E (DV all) o st)=DE P E o.dst (OH all o) st:=by
  have ht:∀(r:Option XS),(match r with
   |some st1=>RI P E (DV all) o st1
   | none=>RI P E (DV all) o st)=RI P E (DV all) o (match r with
   |some st1=>st1
   | none=>st):=fun r=>by cases r <;> rfl
  rw[ht]
  obtain⟨d,op,T,pos,af,gd⟩:=o
  cases op with
  |call c=>
   obtain⟨cal,args,Ts⟩:=c
   cases cal with
   |value f=>
    show RI P E _ _ (match NX all st args.toList with|some st1=>st1|none=>st)=_
    rw[eB]
    rfl
   |builtin b=>cases b<;>rfl
   |_=>rfl
  |_=>rfl
 show _=(match gdX st.fr (LW all o)with
  |some true=>DE P E o.dst (OH all o) st
  |some false=>some (JE o.dst st)
  | none=>none)
 cases gdX st.fr (LW all o)with
 |none=>rfl
 |some b=>
  cases b with
  |false=>rfl
  |true=>exact this
theorem IQ:∀(l:List J7),P1 P E l none=none
 |[]=>rfl
 |_::l=>IQ l
theorem zR(hl:E.lit=fun _=>false)(all:List cq):∀(l:List cq) (st:XS),kV P E all l st=P1 P E (l.map (comp all)) (some st)
 |[],st=>rfl
 |o::l,st=>by
  simp only[kV,List.map_cons,P1,opO];rw[AI1 hl];cases opI P E (comp all o) st with
  |none=>exact(IQ _).symm
  |some st'=>exact zR hl all l st'
def H2(P:ck)(k:IK)(r:cj->Option V):AM:=match k with
 |.ld T x=>CI (bx (P.cellsOf T) 1) (r x)
 |.app xs _=>KQ r xs
 |.oth op=>EM P (sO op) r
 |_=>[]
def DW(P:ck)(E:XE)(d:Option Tmp)(k:IK)(st:XS):Option (XS×AM):=match k with
 |.mv x=>VZ (EO d st (CX st.fr x))
 |.bin op T x y=>VZ (EO d st (ACH P st.fr op T x y))
 |.fa T x f=>VZ (EO d st (xFA P st.fr T x f))
 |.ld T x=>VZ (EO d st (OG P st.fr st.s T x))
 |.ldz T x=>VZ (EO d st (OG P st.fr st.s T x))
 |.pick c a b=>VZ (EO d st (yM st.fr c a b))
 |.build T ps=>VZ (EO d st (WV P st.fr T ps))
 |.buildS T n ps=>VZ (EO d st (QN P st.fr T n ps))
 |.oth op=>VZ (EO d st (J2 P (sO op) st.s (CX st.fr)))
 |.alloc T=>VZ (PT P d T st)
 |.box x=>VZ (pQ d x st)
 |.mkM r=>VZ (ACD d r st)
 |.mkS T x y=>VZ (YA P d T x y st)
 |.sto T x y=>AHF P d T x y st
 |.upd ..=>none
 |.call own _ f args=>Bool.rec (VZ (cS E.c0 d f args st)) (VZ (LY E.co d f args st)) own
 |.app args Ts=>xAppD P d args Ts st
 |.clr ..=>none
 |.cpy ..=>none
def jB:IK->Bool
 |.alloc _|.box _|.mkM _|.mkS ..|.sto ..|.app ..=>true
 |.call own ..=>own
 |_=>false
def XA(P:ck)(E:XE)(i:J7)(st:XS):Option (XS×AM):=match gdX st.fr i.g with
 |some true=>DW P E i.d i.k st
 |some false=>Bool.rec (some (JE i.d st,[])) none (jB i.k)
 |none=>none
def AI2(P:ck)(E:XE)(i:J7)(r:Option (XS×AM×AM)):Option (XS×AM×AM):=match r with
 |some (st,rd,wr)=>match XA P E i st with
  |some (st',w)=>some (st',H2 P i.k (CX st.fr)++rd,w++wr)
  |none=>none
 |none=>none
def XB(P:ck)(E:XE):List J7->Option (XS×AM×AM)->Option (XS×AM×AM)
 |[],r=>r
 |i::l,r=>XB P E l (AI2 P E i r)
def eC(r:Option (XS×AM×AM)):Option XS:=match r with
 |some (st,rd,wr)=>Bool.rec none (some st) (wr.all fun p=>!(rd.contains p))
 |none=>none
structure rI where
 new:List Tmp
 ph:List J7
 sq:List J7
def lO(new:List Tmp)(st:XS):Bool:=new.all fun d=>(st.s.loc.get d).isNone
def AI3(new:List Tmp)(r:Option XS):Option (XS×AM×AM):=match r with
 |some st=>Bool.rec none (some (st,[],[])) (lO new st)
 |none=>none
def XC(P:ck)(E:XE):List rI->Option XS->Option XS
 |[],r=>r
 |p::S,r=>XC P E S (P1 P E p.sq (eC (XB P E p.ph (AI3 p.new r))))
def jC(l:List cq)(R:List Nat):List J7:=R.filterMap fun i=>(l[i]?).map (comp l)
def jD(l:List cq)(R:List Nat):List J7:=R.filterMap fun i=>(l[i]?).map (jA l)
def zS(l:List cq)(R:List Nat):List Tmp:=R.filterMap fun i=>match l[i]? with
 |some o=>cond (kA (DV l) o) o.dst none
 |none=>none
def zT(l:List cq)(p:List Nat×List Nat):rI:=⟨zS l p.1,jD l p.1,jC l p.2⟩
def inB(l:List cq)(S:YO):Bool:=S.all fun p=>p.1.all (fun i=>bn i l.length)&&p.2.all (fun i=>bn i l.length)
theorem AC3(all:List cq)(o:cq)(st:XS):kY P E (DV all) o st=DW P E o.dst (OH all o) st:=by
 obtain⟨d,op,T,pos,af,gd⟩:=o;cases op with
 |call c=>
  obtain⟨cal,args,Ts⟩:=c
  cases cal with
  |builtin b=>cases b<;>rfl
  |_=>rfl
 |_=>rfl
theorem AWA(all:List cq)(o:cq)(r:cj->Option V):EM P o r=H2 P (OH all o) r:=by
 obtain⟨d,op,T,pos,af,gd⟩:=o;cases op with
 |call c=>
  obtain⟨cal,args,Ts⟩:=c
  cases cal with
  |builtin b=>cases b<;>rfl
  |_=>rfl
 |_=>rfl
theorem A8E(all:List cq)(o:cq):(kA (DV all) o||kW o||kP o)=jB (OH all o):=by
 obtain⟨d,op,T,pos,af,gd⟩:=o;cases op with
 |call c=>
  obtain⟨cal,args,Ts⟩:=c
  cases cal with
  |builtin b=>cases b<;>rfl
  |value f=>simp[kA,kW,kP,jB,OH]
  |_=>rfl
 |_=>rfl
theorem AOD(all:List cq)(o:cq)(st:XS):uO P E all o st=XA P E (comp all o) st:=by unfold uO XA;rw[AC3,A8E];rfl
theorem vR(d:Option Tmp)(k:IK)(st:XS):DW P E d (AI0 k) st=DW P E d k st:=by cases k<;>rfl
theorem AOE(k:IK):jB (AI0 k)=jB k:=by cases k<;>rfl
theorem AWB(all:List cq)(o:cq)(st:XS):XA P E (jA all o) st=XA P E (comp all o) st:=by
 unfold jA comp;cases zB all o with
 |false=>rfl
 |true=>
  show XA P E ⟨LW all o,o.dst,AI0 (OH all o)⟩ st=_
  unfold XA
  simp only[vR,AOE]
theorem AWC(all:List cq)(o:cq)(r:cj->Option V):cond (zB all o) [] (EM P o r)=H2 P (jA all o).k r:=by
 unfold jA;cases hz:zB all o with
 |false=>exact AWA all o r
 |true=>
  obtain⟨T,x,ho⟩:=AQ3 hz
  show[]=H2 P (AI0 (OH all o)) r
  unfold OH
  rw[ho]
  rfl
theorem QR:∀(l:List J7),XB P E l none=none
 |[]=>rfl
 |_::l=>QR l
theorem AI4(l:List cq):∀(R:List Nat) (st:XS) (rd wr:AM),R.all (fun i=>bn i l.length)=true->phX P E l R st rd wr=XB P E (jD l R) (some (st,rd,wr))
 |[],st,rd,wr,_=>rfl
 |i::R,st,rd,wr,h=>by
  simp only[bb,bj,bf]at h;have hi:=bw h.1;have hp:jD l (i::R)=jA l l[i]::jD l R:=by simp[jD,hi]
  rw[hp];simp only[phX,hi,XB,AI2,AOD,AWB];cases XA P E (comp l l[i]) st with
  |none=>exact(QR _).symm
  |some q=>
   obtain⟨st',w⟩:=q
   simp only
   rw[AI4 l R _ _ _ h.2,AWC l]
theorem AI5(hl:E.lit=fun _=>false)(l:List cq):∀(R:List Nat) (st:XS),R.all (fun i=>bn i l.length)=true->sqX P E l R st=P1 P E (jC l R) (some st)
 |[],st,_=>rfl
 |i::R,st,h=>by
  simp only[bb,bj,bf]at h;have hi:=bw h.1;have hp:jC l (i::R)=comp l l[i]::jC l R:=by simp[jC,hi]
  rw[hp];simp only[sqX,hi,P1,opO,AI1 hl];cases opI P E (comp l l[i]) st with
  |none=>exact(IQ _).symm
  |some st'=>exact AI5 hl l R st' h.2
theorem MX:∀(S:List rI),XC P E S none=none
 |[]=>rfl
 |p::S=>by simp only[XC,AI3,QR,eC,IQ];exact MX S
theorem rJ(l:List cq)(st:XS):∀(R:List Nat),cI (DV l) l R st.s.loc=lO (zS l R) st
 |[]=>rfl
 |i::R=>by
  have ih:=rJ l st R;unfold cI lO zS at *;simp only[bb,List.filterMap_cons,ih];cases hi:l[i]? with
  |none=>simp
  |some o=>
   simp only
   cases hk:kA (DV l) o with
   |false=>simp
   |true=>
    cases hd:o.dst with
    |none=>simp
    |some d=>simp
theorem zU(hl:E.lit=fun _=>false)(l:List cq):∀(S:YO) (st:XS),inB l S=true->ACJ P E l S st=XC P E (S.map (zT l)) (some st)
 |[],st,_=>rfl
 |p::S,st,h=>by
  simp only[inB,bb,bj]at h;obtain⟨⟨h1,h2⟩,h3⟩:=h;simp only[ACJ,List.map_cons,XC,zT,AI3,rJ];cases lO (zS l p.1) st with
  |false=>
   simp only[QR,eC,IQ]
   exact(MX _).symm
  |true=>
   simp only[AI4 l _ _ _ _ h1]
   cases XB P E (jD l p.1) (some (st,[],[]))with
   |none=>simp only[eC,IQ];exact(MX _).symm
   |some q=>
    obtain⟨st1,rd,wr⟩:=q
    simp only[eC]
    cases (wr.all fun p=>!rd.contains p)with
    |false=>simp only[IQ];exact(MX _).symm
    |true=>
     simp only[AI5 hl l _ _ h2]
     cases P1 P E (jC l p.2) (some st1)with
     |none=>exact(MX _).symm
     |some HD=>exact zU hl l S HD h3
inductive IR where
 |str (l:List J7)
 |drw (S:List rI)
 |cls (ks:List (Nat×Nat×Nat))
def zV(P:ck)(ops:List cq)(draw:Bool):IR:=cond draw (cond (YR P ops) (.cls (IP ops)) (.drw ((fK ops).map (zT ops)))) (.str (ops.map (comp ops)))
def okR(P:ck)(ops:List cq)(draw:Bool):Bool:=cond draw (cond (YR P ops) true (inB ops (fK ops))) true
def JG(P:ck)(E:XE)(i:IR)(st:XS):Option XS:=match i with
 |.str l=>P1 P E l (some st)
 |.drw S=>XC P E S (some st)
 |.cls ks=>SK P ks (some st)
end Go.Pg
namespace Go.Pg
variable {P:ck}{σ σ':Nat->Nat}{δ:Nat}{pre:List AA}{s:St}{fr:Fr}
abbrev Tr:=Option (List Nat×List Nat)
abbrev Ann:=Nat->Nat->Tr
def CH(a:Tr)(st:XS):XS:=match a with
 |some p=>SH p.1 p.2 st
 |none=>st
theorem MY{a:Tr}{st:XS}(h:Bd st):K1 st (CH a st):=by
 cases a with
 |none=>exact⟨Nat.le_refl _,h,rfl⟩
 |some p=>exact VD h
theorem IZ{a:Tr}{st:XS}:(CH a st).c=st.c:=by cases a<;>rfl
theorem KV{n N:Nat}{ρ:Option Nat}{c:cw}{K:Exit->Fr->St->Prop}{a:Tr}{st:XS}(h:BK P n N ρ c K ((CH a st).fr.ren σ pre.length) ((CH a st).s.emb σ pre)):BK P n N ρ c K (st.fr.ren σ pre.length) (st.s.emb σ pre):=by
 cases a with
 |none=>exact h
 |some p=>exact WZ h
def A8F(P:ck)(E:XE)(a:Tr)(l:List cq)(draw:Bool)(st:XS):Option XS:=Bool.rec (kV P E l l (CH a st)) (Bool.rec (RK P E l (CH a st)) (SK P (IP l) (some (CH a st))) (YR P l)) draw
def isY:List Nat->Bool
 |k::_=>bx k 777
 |[]=>false
def AI6(P:ck)(E:XE)(N:Nat)(a:Tr)(l:List cq)(draw:Bool)(us:List Nat)(st:XS):Option XS:=Bool.rec (A8F P (cfU us E) a l draw st) (Bool.rec none (zI P E N l (CH a st)) draw) (isY us)
def BA(rec:eQ)(body:cw)(a:Tr)(n:Nat):XS->Option (Exit×XS):=Nat.rec (motive:=fun _=>XS->Option (Exit×XS)) (fun _=>none) (fun _ ih st=>match rec body st with
 |some (.normal,st')=>ih (CH a st')
 | r=>r) n
def lP(id:Nat)(l:List cq):Nat:=id+1000*l.length+1000000*(match l with
 |o::_=>match o.dst with
  |some d=>d
  |none=>0
 | []=>0)
def BU:cw->Nat
 |.region id ops _=>lP id ops.toList
 |.seq a _=>BU a
 |.block _ c=>BU c
 |.loop c=>BU c
 |.scope c=>BU c
 |_=>0
def AC4:Tr->List Nat
 |some p=>p.1
 |none=>[]
def OI:Nat:=1000000000000000
def AC5:Tr->List Nat
 |some p=>p.2
 |none=>[]
def XD(P:ck)(E:XE)(A:Ann)(n N:Nat)(rec:eQ):eQ:=fun code st=>match code with
 |.region id ops draw=>OQ (AI6 P E N (A N (lP id ops.toList)) ops.toList draw (AC5 (A N (lP id ops.toList+OI))) (LJ (AC4 (A N (lP id ops.toList+OI))) st))
 |.loop body=>BA rec body (A N (BU body)) n (CH (A N (BU body)) st)
 |c=>cU P E n N rec c st
def AE(P:ck)(A:Ann)(kn:CF0)(n:Nat):HC:=Nat.rec (motive:=fun _=>HC) (fun _ _ _=>none) (fun n ih N=>XD P (A69 P kn (fun _ _ _=>none) (fun _=>false) ih) A n N (ih N)) n
theorem AOF(hP:EN P){E:XE}(hEE:KR P E){a:Tr}{id:Nat}{ops:Array cq}{draw:Bool}{N:Nat}(hN:E7 N (.region id ops draw)=true){st st':XS}(hx:A8F P E a ops.toList draw st=some st')(hbd:Bd st):K1 st st' /\
  ∀(n:Nat) (ρ:Option Nat) (σ:Nat->Nat) (pre:List AA) (K:Exit->Fr->St->Prop),(∀σ',AV st.c σ σ'->K .normal (st'.fr.ren σ' pre.length) (st'.s.emb σ' pre))->BK P n N ρ (.region id ops draw) K (st.fr.ren σ pre.length) (st.s.emb σ pre):=by
 obtain⟨l⟩:=ops
 have hT:=MY (a:=a) hbd
 have ext:∀{st'},K1 (CH a st) st'->K1 st st':=fun h=>⟨by have:=h.c;rwa [IZ]at this,h.bd,h.n.trans hT.n⟩
 cases draw with
 |false=>
  simp only[E7,cond_false,bj]at hN
  have hx:kV P E l l (CH a st)=some st':=hx
  obtain⟨hE,hs⟩:=kX hEE hT.bd hx
  refine⟨ext hE,fun n ρ σ pre K hk=>KV (a:=a) ?_⟩
  exact X0 (l.map (LW l)) hN.1 (kO (U7 hN.2)) (hs σ pre _ fun σ' ha=>hk σ' (by rwa [IZ]at ha))
 |true=>
  simp only[E7,cond_true]at hN
  cases hc:YR P l with
  |true=>
   have hx:(Bool.rec (RK P E l (CH a st)) (SK P (IP l) (some (CH a st))) (YR P l):Option XS)=some st':=hx
   rw[hc]at hx
   obtain⟨hE,hs⟩:=AN0 (id:=id) hP hN hc hx hT.bd
   exact⟨ext hE,fun n ρ σ pre K hk=>KV (a:=a) (hs n ρ σ pre K fun σ' ha=>hk σ' (by rwa [IZ]at ha))⟩
  |false=>
  have hx:(Bool.rec (RK P E l (CH a st)) (SK P (IP l) (some (CH a st))) (YR P l):Option XS)=some st':=hx
  rw[hc]at hx
  obtain⟨hE,hs⟩:=dQ (id:=id) hP hEE hN hx hT.bd
  exact⟨ext hE,fun n ρ σ pre K hk=>KV (a:=a) (hs n ρ σ pre K fun σ' ha=>hk σ' (by rwa [IZ]at ha))⟩
theorem AOG(hP:EN P){E:XE}(hEE:KR P E){a:Tr}{us:List Nat}{id:Nat}{ops:Array cq}{draw:Bool}{N:Nat}(hN:E7 N (.region id ops draw)=true){st st':XS}(hx:AI6 P E N a ops.toList draw us st=some st')(hbd:Bd st):K1 st st' /\
  ∀(n:Nat) (ρ:Option Nat) (σ:Nat->Nat) (pre:List AA) (K:Exit->Fr->St->Prop),(∀σ',AV st.c σ σ'->K .normal (st'.fr.ren σ' pre.length) (st'.s.emb σ' pre))->BK P n N ρ (.region id ops draw) K (st.fr.ren σ pre.length) (st.s.emb σ pre):=by
 unfold AI6 at hx
 cases hy:isY us with
 |false=>rw[hy]at hx;exact AOF hP (AVE hEE _) hN hx hbd
 |true=>
  rw[hy]at hx
  cases draw with
  |false=>cases hx
  |true=>
   have hx:zI P E N ops.toList (CH a st)=some st':=hx
   have hT:=MY (a:=a) hbd
   obtain⟨hE,hs⟩:=AIB hP hEE (id:=id) hx hT.bd
   refine⟨⟨by have:=hE.c;rwa [IZ]at this,hE.bd,hE.n.trans hT.n⟩,fun n ρ σ pre K hk=>KV (a:=a) ?_⟩
   exact hs n ρ σ pre K fun σ' ha=>hk σ' (by rwa [IZ]at ha)
theorem AI7{N:Nat}{rec:eQ}(hrec:dA P N rec){body:cw}{a:Tr}(hN:E7 N body=true)(m:Nat){st st':XS}{e:Exit}(hx:BA rec body a m (CH a st)=some (e,st'))(hbd:Bd st):K1 st st'/\(∀l,e≠.goto l) /\
  ∀(n:Nat) (ρ:Option Nat) (σ:Nat->Nat) (pre:List AA) (K:Exit->Fr->St->Prop),(ρ=none\/GL body=true)->(∀σ',AV st.c σ σ'->K e (st'.fr.ren σ' pre.length) (st'.s.emb σ' pre))->BK P n N ρ (.loop body) K (st.fr.ren σ pre.length) (st.s.emb σ pre):=by
 have up:∀{st st':XS},Bd st->K1 (CH a st) st'->K1 st st':=fun hbd h=>⟨by have:=h.c;rwa [IZ]at this,h.bd,h.n.trans (MY hbd).n⟩
 have ext:∀(m:Nat) {st:XS},BA rec body a m (CH a st)=some (e,st')->Bd st->K1 st st'/\(∀l,e≠.goto l):=by
  intro m;induction m with
  |zero=>intro st hx _;cases hx
  |succ m ih=>
   intro st hx hbd
   have hx:(match rec body (CH a st)with
    |some (.normal,st')=>BA rec body a m (CH a st')
    | r=>r)=some (e,st'):=hx
   have hT:=MY (a:=a) hbd
   split at hx
   ·rename_i st1 h1;obtain⟨hE,_,_⟩:=hrec _ _ _ _ h1 hT.bd hN;obtain⟨hE',hg⟩:=ih hx hE.bd;exact⟨up hbd ⟨Nat.le_trans hE.c hE'.c,hE'.bd,hE'.n.trans hE.n⟩,hg⟩
   ·obtain⟨hE,hg,_⟩:=hrec _ _ _ _ hx hT.bd hN;exact⟨up hbd ⟨hE.c,hE.bd,hE.n⟩,hg⟩
 obtain⟨hE,hg⟩:=ext m hx hbd
 refine⟨hE,hg,fun n ρ σ pre K hρ hk=>?_⟩
 refine gZ (fun m fr s=>∃(st:XS) (σ:Nat->Nat),fr=st.fr.ren σ pre.length/\s=st.s.emb σ pre/\Bd st/\BA rec body a m (CH a st)=some (e,st')/\∀σ',AV st.c σ σ'->K e (st'.fr.ren σ' pre.length) (st'.s.emb σ' pre)) m ⟨st,σ,rfl,rfl,hbd,hx,hk⟩ ?_
 rintro m fr s ⟨st,σ,rfl,rfl,hbd,hx,hk⟩
 cases m with
 |zero=>cases hx
 |succ m=>
  have hx:(match rec body (CH a st)with
   |some (.normal,st')=>BA rec body a m (CH a st')
   | r=>r)=some (e,st'):=hx
  have hT:=MY (a:=a) hbd
  refine KV (a:=a) ?_
  split at hx
  ·rename_i st1 h1;obtain⟨hE,_,hC⟩:=hrec _ _ _ _ h1 hT.bd hN;refine hC n ρ σ pre _ hρ fun σ' ha=>?_;rw[IZ]at ha;exact⟨m,Nat.lt_succ_self _,st1,σ',rfl,rfl,hE.bd,hx,fun σ'' ha'=>hk σ'' (ha.trans ha' (by have:=hE.c;rwa [IZ]at this))⟩
  ·rename_i hne;obtain⟨hE,hg,hC⟩:=hrec _ _ _ _ hx hT.bd hN;refine hC n ρ σ pre _ hρ fun σ' ha=>?_;rw[IZ]at ha;have:=hk σ' ha;cases e with
   |normal=>exact absurd hx (hne st')
   |_=>exact this
theorem lQ(hP:EN P){E:XE}(hEE:KR P E){A:Ann}{N:Nat}{rec:eQ}(hrec:dA P N rec)(m:Nat):dA P N (XD P E A m N rec):=by
 intro code st e st' hx hbd hN;unfold XD at hx;split at hx
 ·rename_i id ops draw;obtain⟨rfl,hx2⟩:=rC hx;have hT:=zD (AC4 (A N (lP id ops.toList+OI))) hbd;obtain⟨hE,hs⟩:=AOG hP hEE hN hx2 hT.bd;exact⟨⟨Nat.le_trans hT.c hE.c,hE.bd,hE.n.trans hT.n⟩,(by intro l h;cases h),fun n ρ σ pre K _ hk=>qW _ (hs n ρ σ pre K fun σ' ha=>hk σ' (by rwa [ARB]at ha))⟩
 ·rename_i body;have hN:E7 N body=true:=hN;obtain⟨h1,h2,h3⟩:=AI7 hrec hN m hx hbd;exact⟨h1,h2,fun n ρ σ pre K hρ hk=>h3 n ρ σ pre K hρ hk⟩
 ·exact rD hP hEE hrec m _ _ _ _ hx hbd hN
theorem eD(hP:EN P){A:Ann}{kn:CF0}(hkn:HX P kn):∀n,dB P (AE P A kn n)
 |0=>fun N code st e st' hx=>by cases hx
 |n+1=>fun N=>by have ih:=eD hP (A:=A) hkn n;exact lQ hP ⟨AHM hP hkn ih,AN2 hP ih,dF hP hkn ih,AHL hP hkn (ko:=fun _ _ _=>none) (fun _ _ _ _ h=>by cases h) ih⟩ (ih N) n
theorem AI8(hP:EN P){A:Ann}{kn:CF0}(hkn:HX P kn){n:Nat}{f:cx}{args:List V}{r:V}(h:E2 P (AE P A kn n) f args=some r)(s:St):FT P f args s fun r' s'=>r'=r/\s'=s :=
 (dD hP (eD hP hkn n) f args r h).1 s
section
variable {A:Ann}{kn:CF0}{n N:Nat}{st:XS}
abbrev BT(P:ck)(A:Ann)(kn:CF0)(n:Nat):XE:=A69 P kn (fun _ _ _=>none) (fun _=>false) (AE P A kn n)
theorem AI9(a b:cw):AE P A kn (n+1) N (.seq a b) st=kZ (AE P A kn n N) b (AE P A kn n N a st):=rfl
theorem AC6(c:cj)(a b:cw):AE P A kn (n+1) N (.cond c a b) st=qF (AE P A kn n N) a b st (CX st.fr c):=rfl
theorem vS(id:Nat)(b:cw):AE P A kn (n+1) N (.block id b) st=W0 id (AE P A kn n N b st):=rfl
theorem AC7(b:cw):AE P A kn (n+1) N (.loop b) st=BA (AE P A kn n N) b (A N (BU b)) n (CH (A N (BU b)) st):=rfl
theorem AC8:AE P A kn (n+1) N .skip st=some (.normal,st):=rfl
theorem AC9(id:Nat):AE P A kn (n+1) N (.exit id) st=some (.exit id,st):=rfl
theorem AJA:AE P A kn (n+1) N .ret st=some (.ret,st):=rfl
theorem SM(g:cj)(ps:Array Tmp)(asg body:cw):AE P A kn (n+1) N (.rangeFunc g ps asg body) st=W1 (BT P A kn n).cf N g ps.toList asg body st:=rfl
theorem AB(rec:eQ)(body:cw)(a:Tr):BA rec body a (n+1) st=match rec body st with
 |some (.normal,st')=>BA rec body a n (CH a st')
 |r=>r:=rfl
theorem rK(rec:eQ)(b:cw):kZ rec b (some (.normal,st))=rec b st:=rfl
theorem AJB(rec:eQ)(b:cw):kZ rec b (some (.ret,st))=some (.ret,st):=rfl
theorem ADA(rec:eQ)(b:cw)(i:Nat):kZ rec b (some (.exit i,st))=some (.exit i,st):=rfl
theorem AJC(rec:eQ)(b:cw)(c:Prop)[Decidable c](x y:Option (Exit×XS)):kZ rec b (if c then x else y)=if c then kZ rec b x else kZ rec b y:=by split<;>rfl
theorem fS(id:Nat):W0 id (some (.normal,st))=some (.normal,st):=rfl
theorem vT(id:Nat):W0 id (some (.ret,st))=some (.ret,st):=rfl
theorem rL(id i:Nat):W0 id (some (.exit i,st))=if i=id then some (.normal,st) else some (.exit i,st):=by
 show(Bool.rec _ _ (bx i id):Option (Exit×XS))=_;by_cases h:i=id
 ·subst h;simp
 ·have:bx i id=false:=by
   cases hb:bx i id with
   |false=>rfl
   |true=>exact absurd (Nat.eq_of_beq_eq_true hb) h
  simp[h,this]
def zW:cw->Bool
 |.region ..=>true
 |_=>false
def YC:cw->List cq
 |.region _ ops _=>ops.toList
 |_=>[]
def P2:cw->Bool
 |.region _ _ d=>d
 |_=>false
theorem zX(us:List Nat){E:XE}(h:E.lit=fun _=>false):(cfU us E).lit=fun _=>false:=by cases us<;>exact h
theorem XF{r:cw}(hr:zW r=true){i:IR}(hi:zV P (YC r) (P2 r)=i)(hok:okR P (YC r) (P2 r)=true){a:Tr}(ha:A N (BU r)=a){ks us:List Nat}(ht:AC4 (A N (BU r+OI))=ks)(hu:AC5 (A N (BU r+OI))=us)(hy:isY us=false:=by rfl):AE P A kn (n+1) N r st=OQ (JG P (cfU us (BT P A kn n)) i (CH a (LJ ks st))):=by
 cases r with
 |region id ops draw=>
  subst hi ha ht hu
  show OQ (AI6 P _ N (A N (lP id ops.toList)) ops.toList draw (AC5 (A N (lP id ops.toList+OI))) (LJ (AC4 (A N (lP id ops.toList+OI))) st))=_
  unfold AI6
  rw[show isY (AC5 (A N (lP id ops.toList+OI)))=false from hy]
  cases draw with
  |false=>exact congrArg OQ (zR (zX _ rfl) _ _ _)
  |true=>
   show OQ (Bool.rec (RK P _ ops.toList _) (SK P (IP ops.toList) (some _)) (YR P ops.toList))=OQ (JG P _ (cond (YR P ops.toList) (.cls (IP ops.toList)) (.drw ((fK ops.toList).map (zT ops.toList)))) _)
   have hok:cond (YR P ops.toList) true (inB ops.toList (fK ops.toList))=true:=hok
   cases hc:YR P ops.toList with
   |true=>rfl
   |false=>
    rw[hc]at hok
    exact congrArg OQ (zU (zX _ rfl) _ _ _ hok)
 |_=>cases hr
theorem DF{r:cw}(hr:zW r=true){i:IR}(hi:zV P (YC r) (P2 r)=i)(hok:okR P (YC r) (P2 r)=true){a:Tr}(ha:A N (BU r)=a){ks:List Nat}(ht:AC4 (A N (BU r+OI))=ks)(hu:AC5 (A N (BU r+OI))=[]:=by kernel_rfl):AE P A kn (n+1) N r st=OQ (JG P (BT P A kn n) i (CH a (LJ ks st))):=XF hr hi hok ha ht hu rfl
theorem AJD{r:cw}(hr:zW r=true){i:IR}(hi:zV P (YC r) (P2 r)=i)(hok:okR P (YC r) (P2 r)=true){a:Tr}(ha:A N (BU r)=a)(ht:A N (BU r+OI)=none:=by kernel_rfl):AE P A kn (n+1) N r st=OQ (JG P (BT P A kn n) i (CH a st)):=DF hr hi hok ha (congrArg AC4 ht) (congrArg AC5 ht)
def fT(P:ck)(rs:List ResultVar)(r:Option (Exit×XS)):Option V:=match r with
 |some (.ret,st)=>finV st.s (GD P rs st.fr st.s)
 |some (.normal,st)=>finV st.s (GD P rs st.fr st.s)
 |_=>none
where finV (s:St) (r:Option V):Option V:=match r with
 |some v=>match A7 s 4 v with
  |some r'=>Bool.rec none (some r') (AG 9 r')
  |none=>none
 |none=>none
theorem AO{f:cx}{fn:Func}{c:cw}{args:List V}{rec:HC}(hf:P.funcs[f]? = some fn)(hb:fn.body=some c)(hs:bm args.length fn.ntmps=true)(hcl:args.all (AG 9)=true) :
  E2 P rec f args=fT P fn.results.toList (rec fn.ntmps c ⟨0,AF 0 args,⟨[],[]⟩⟩):=by
 unfold E2 iK cV yQ
 rw[hcl,hf]
 simp only[hb,hs]
 generalize rec fn.ntmps c ⟨0,AF 0 args,⟨[],[]⟩⟩=q
 have aux:∀st:XS,(match(match GD P fn.results.toList st.fr st.s with
   |some r=>match A7 st.s 4 r with
    |some r'=>some (r',st.c,st.s.up.map (AH st.s))
    |none=>none
   | none=>none:Option (V×Nat×List AA))with
  |some (r,_,_)=>(Bool.rec none (some r) (AG 9 r):Option V)
  | none=>none)=fT.finV st.s (GD P fn.results.toList st.fr st.s):=fun st=>by
  unfold fT.finV
  cases GD P fn.results.toList st.fr st.s with
  |none=>rfl
  |some r=>
   cases h:A7 st.s 4 r with
   |none=>simp[h]
   |some r'=>simp[h]
 cases q with
 |none=>rfl
 |some q=>
  obtain⟨e,st⟩:=q
  cases e with
  |ret=>exact aux st
  |normal=>exact aux st
  |_=>rfl
theorem AJE(rs:List ResultVar)(c:Prop)[Decidable c](x y:Option (Exit×XS)):fT P rs (if c then x else y)=if c then fT P rs x else fT P rs y:=by split<;>rfl
end
def L5:cw->List Nat->cw
 |c,[]=>c
 |.seq a b,i::p=>bif bx i 0 then L5 a p else L5 b p
 |.cond _ a b,i::p=>bif bx i 0 then L5 a p else L5 b p
 |.block _ a,_::p=>L5 a p
 |.loop a,_::p=>L5 a p
 |.scope a,_::p=>L5 a p
 |.rangeFunc _ _ a b,i::p=>bif bx i 0 then L5 a p else L5 b p
 |c,_=>c
def AWD(fn:Func):cw:=match fn.body with
 |some c=>c
 |none=>.skip
end Go.Pg
namespace Go.Pg
variable {P:ck}{E:XE}{st:XS}{fr:Fr}{s:St}
@[simp] theorem A8G(r:Option XS):P1 P E [] r=r:=rfl
@[simp] theorem A0G(i:J7)(l:List J7)(r:Option XS):P1 P E (i::l) r=P1 P E l (opO P E i r):=rfl
@[simp] theorem A8H(i:J7):opO P E i (some st)=opI P E i st:=rfl
@[simp] theorem A8I(l:List J7)(c:Prop)[Decidable c](x y:Option XS):P1 P E l (if c then x else y)=if c then P1 P E l x else P1 P E l y:=by split<;>rfl
def gI(P:ck)(E:XE)(d:Option Tmp)(k:IK)(st:XS)(w:Bool)(r:Option (Bool×V)):Option XS:=match r with
 |some (c,.bool b)=>Bool.rec (some (JE d st)) (DE P E d k st) (c&&(b==w))
 |_=>none
@[simp] theorem A8J(d:Option Tmp)(k:IK):opI P E ⟨none,d,k⟩ st=DE P E d k st:=rfl
@[simp] theorem A0H(t:Tmp)(w:Bool)(d:Option Tmp)(k:IK):opI P E ⟨some (t,w),d,k⟩ st=gI P E d k st w (BD st.fr t):=by
 show(match(match BD st.fr t with | some (c,.bool b)=>some (c&&(b == w)) | _=>none:Option Bool)with
  |some true=>DE P E d k st
  |some false=>some (JE d st)
  | none=>none)=_
 unfold gI;cases BD st.fr t with
 |none=>rfl
 |some p=>
  obtain⟨c,v⟩:=p
  cases v with
  |bool b=>cases h:(c&&(b==w))<;>simp[h]
  |_=>rfl
@[simp] theorem BLE(d:Option Tmp)(k:IK):gI P E d k st true (some (true,.bool true))=DE P E d k st:=rfl
@[simp] theorem BLF(d:Option Tmp)(k:IK):gI P E d k st true (some (true,.bool false))=some (JE d st):=rfl
@[simp] theorem BLG(d:Option Tmp)(k:IK):gI P E d k st false (some (true,.bool true))=some (JE d st):=rfl
@[simp] theorem BLH(d:Option Tmp)(k:IK):gI P E d k st false (some (true,.bool false))=DE P E d k st:=rfl
@[simp] theorem BLI(d:Option Tmp)(k:IK)(w b:Bool):gI P E d k st w (some (false,.bool b))=some (JE d st):=rfl
@[simp] theorem A8K(d:Tmp)(c:Nat)(fr:Fr)(s:St):JE (some d) ⟨c,fr,s⟩=⟨c,(d,false,.bool false)::fr,s⟩:=rfl
@[simp] theorem A8L(k:Nat):BD [] k=none:=rfl
@[simp] theorem A0I(j:Nat)(x:Bool×V)(fr:Fr)(k:Nat):BD ((j,x)::fr) k=if k=j then some x else BD fr k:=by rw[GO,GO];rfl
@[simp] theorem AWE(j:Nat)(x:Nat×A1)(L:AA)(k:Nat):AA.get ((j,x)::L) k=if k=j then some x else L.get k:=rfl
def rdT:Option (Bool×V)->Option V
 |some (true,v)=>some v
 |_=>none
@[simp] theorem AJF(v:V):rdT (some (true,v))=some v:=rfl
@[simp] theorem A0J(v:V):rdT (some (false,v))=none:=rfl
@[simp] theorem BCT(t:Tmp):CX fr (.tmp t)=rdT (BD fr t):=by
 show(match BD fr t with
  |some (true,v)=>some v
  | _=>none)=_
 cases BD fr t with
 |none=>rfl
 |some p=>obtain⟨c,v⟩:=p;cases c<;>rfl
@[simp] theorem A0K(v:Value):CX fr (.const v)=CQ v:=rfl
@[simp] theorem A8N(f:cx):CX fr (.func f)=some (.fn f [] []):=rfl
@[simp] theorem BCU(t:Tmp):rdC fr (.tmp t)=BD fr t:=rfl
@[simp] theorem A8O(b:Bool):rdC fr (.const (.bool b))=some (true,.bool b):=rfl
@[simp] theorem AWF(k:cz)(n:Int):CQ (.int k n)=some (.int k n):=rfl
@[simp] theorem ARM(b:Bool):CQ (.bool b)=some (.bool b):=rfl
@[simp] theorem AWG:CQ (.slice none 0 0)=some .nil:=rfl
@[simp] theorem A0L(d:Tmp)(c:Nat)(fr:Fr)(s:St)(v:V):EO (some d) ⟨c,fr,s⟩ (some v)=some ⟨c,(d,true,v)::fr,s⟩:=rfl
@[simp] theorem A0M(d:Option Tmp):EO d st none=none:=rfl
@[simp] theorem A8P(d:Option Tmp)(c:Prop)[Decidable c](x y:Option V):EO d st (if c then x else y)=if c then EO d st x else EO d st y:=by split<;>rfl
section
variable (d:Option Tmp)(c:Nat)
@[simp] theorem A8Q(x:cj):DE P E d (.mv x) ⟨c,fr,s⟩=EO d ⟨c,fr,s⟩ (CX fr x):=rfl
def AWH(P:ck)(op:BinOp)(T:bp):Option V->Option V->Option V
 |some a,some b=>I7 P op T a b
 |_,_=>none
@[simp] theorem A0N(op:BinOp)(T:bp)(a b:V):AWH P op T (some a) (some b)=I7 P op T a b:=rfl
@[simp] theorem A0O(op:BinOp)(T:bp)(x y:cj):DE P E d (.bin op T x y) ⟨c,fr,s⟩=EO d ⟨c,fr,s⟩ (AWH P op T (CX fr x) (CX fr y)):=by show EO d _ (ACH P fr op T x y)=_;unfold ACH AWH;cases CX fr x<;>cases CX fr y<;>rfl
def fa1(P:ck)(T:bp)(f:Nat):Option V->Option V
 |some p=>DG P T p f
 |none=>none
@[simp] theorem A8R(T:bp)(f:Nat)(p:V):fa1 P T f (some p)=DG P T p f:=rfl
@[simp] theorem A8S(T:bp)(x:cj)(f:Nat):DE P E d (.fa T x f) ⟨c,fr,s⟩=EO d ⟨c,fr,s⟩ (fa1 P T f (CX fr x)):=by show EO d _ (xFA P fr T x f)=_;unfold xFA fa1;cases CX fr x<;>rfl
def wh1(P:ck)(T:bp):Option (List V)->Option V
 |some cs=>BQ P T cs
 |none=>none
@[simp] theorem A8T(T:bp)(cs:List V):wh1 P T (some cs)=BQ P T cs:=rfl
def ld1(P:ck)(s:St)(T:bp):Option V->Option V
 |some p=>wh1 P T (BE s p)
 |none=>none
@[simp] theorem AJG(T:bp)(p:V):ld1 P s T (some p)=wh1 P T (BE s p):=rfl
@[simp] theorem A8U(T:bp)(x:cj):DE P E d (.ld T x) ⟨c,fr,s⟩=EO d ⟨c,fr,s⟩ (ld1 P s T (CX fr x)):=by
 show EO d _ (OG P fr s T x)=_;unfold OG ld1;cases CX fr x with
 |none=>rfl
 |some p=>unfold wh1;cases BE s p<;>rfl
def pk3:Option V->Option (Bool×V)->Option (Bool×V)->Option V
 |some (.bool c),some (ca,.bool a),some (cb,.bool b)=>Bool.rec (Bool.rec none (some (.bool b)) cb) (Bool.rec none (some (.bool a)) ca) c
 |_,_,_=>none
@[simp] theorem A8V(a cb b:Bool):pk3 (some (.bool true)) (some (true,.bool a)) (some (cb,.bool b))=some (.bool a):=rfl
@[simp] theorem A0P(ca a b:Bool):pk3 (some (.bool false)) (some (ca,.bool a)) (some (true,.bool b))=some (.bool b):=rfl
@[simp] theorem A8W(c a b:Bool):pk3 (some (.bool c)) (some (true,.bool a)) (some (true,.bool b))=some (.bool (if c then a else b)):=by cases c<;>rfl
@[simp] theorem AWI(x y z:cj):DE P E d (.pick x y z) ⟨c,fr,s⟩=EO d ⟨c,fr,s⟩ (pk3 (CX fr x) (rdC fr y) (rdC fr z)):=rfl
def ba2:Option V->Nat->Option (List (Nat×V))->Option (List (Nat×V))
 |some v,i,some l=>some ((i,v)::l)
 |_,_,_=>none
@[simp] theorem A8X(v:V)(i:Nat)(l:List (Nat×V)):ba2 (some v) i (some l)=some ((i,v)::l):=rfl
@[simp] theorem AWJ(r:cj->Option V):DI r []=some []:=rfl
@[simp] theorem ARN(r:cj->Option V)(i:Nat)(x:cj)(l:List (Nat×cj)):DI r ((i,x)::l)=ba2 (r x) i (DI r l):=by simp only[DI];unfold ba2;cases r x<;>cases DI r l<;>rfl
def bd1(P:ck)(T:bp):Option (List (Nat×V))->Option V
 |some l=>CS P T l
 |none=>none
@[simp] theorem A8Y(T:bp)(l:List (Nat×V)):bd1 P T (some l)=CS P T l:=rfl
@[simp] theorem ARO(T:bp)(ps:List (Nat×cj)):DE P E d (.build T ps) ⟨c,fr,s⟩=EO d ⟨c,fr,s⟩ (bd1 P T (DI (CX fr) ps)):=by show EO d _ (WV P fr T ps)=_;unfold WV bd1;cases DI (CX fr) ps<;>rfl
def bs1(P:ck)(T:bp)(n:Nat):Option (List (Nat×V))->Option V
 |some l=>CE P T n l
 |none=>none
@[simp] theorem A8Z(T:bp)(n:Nat)(l:List (Nat×V)):bs1 P T n (some l)=CE P T n l:=rfl
@[simp] theorem AOH(T:bp)(n:Nat)(ps:List (Nat×cj)):DE P E d (.buildS T n ps) ⟨c,fr,s⟩=EO d ⟨c,fr,s⟩ (bs1 P T n (DI (CX fr) ps)):=by show EO d _ (QN P fr T n ps)=_;unfold QN bs1;cases DI (CX fr) ps<;>rfl
@[simp] theorem A0Q(op:Op):DE P E d (.oth op) ⟨c,fr,s⟩=EO d ⟨c,fr,s⟩ (J2 P (sO op) s (CX fr)):=rfl
def al1(d:Tmp)(c:Nat)(fr:Fr)(s:St):Option (List V)->Option XS
 |some cs=>some ⟨c+1,(d,true,.ptr s.up.length d c 0)::fr,s.put s.up.length d c (.box cs)⟩
 |none=>none
@[simp] theorem A80(d:Tmp)(cs:List V):al1 d c fr s (some cs)=some ⟨c+1,(d,true,.ptr s.up.length d c 0)::fr,s.put s.up.length d c (.box cs)⟩:=rfl
@[simp] theorem ARP(d:Tmp)(T:bp):DE P E (some d) (.alloc T) ⟨c,fr,s⟩=al1 d c fr s (B9 P T):=by show PT P (some d) T _=_;unfold PT al1;cases B9 P T<;>rfl
def bx1(d:Tmp)(c:Nat)(fr:Fr)(s:St):Option V->Option XS
 |some v=>Bool.rec none (some ⟨c+1,(d,true,.ptr s.up.length d c 0)::fr,s.put s.up.length d c (.box (BG v))⟩) (BH v)
 |none=>none
@[simp] theorem BCY(d:Tmp)(k:cz)(n:Int):bx1 d c fr s (some (.int k n))=some ⟨c+1,(d,true,.ptr s.up.length d c 0)::fr,s.put s.up.length d c (.box [.int k n])⟩:=rfl
@[simp] theorem BCZ(d:Tmp)(cs:List V):bx1 d c fr s (some (.agg cs))=some ⟨c+1,(d,true,.ptr s.up.length d c 0)::fr,s.put s.up.length d c (.box cs)⟩:=rfl
@[simp] theorem A81(d:Tmp)(b:Bool)(es:List (List V)):bx1 d c fr s (some (.list b es))=some ⟨c+1,(d,true,.ptr s.up.length d c 0)::fr,s.put s.up.length d c (.box [.list b es])⟩:=rfl
@[simp] theorem BC0(d:Tmp):bx1 d c fr s (some .nil)=some ⟨c+1,(d,true,.ptr s.up.length d c 0)::fr,s.put s.up.length d c (.box [.nil])⟩:=rfl
@[simp] theorem BC1(d:Tmp)(l k g n:Nat):bx1 d c fr s (some (.vec l k g n))=some ⟨c+1,(d,true,.ptr s.up.length d c 0)::fr,s.put s.up.length d c (.box [.vec l k g n])⟩:=rfl
@[simp] theorem A0R(d:Tmp)(x:cj):DE P E (some d) (.box x) ⟨c,fr,s⟩=bx1 d c fr s (CX fr x):=by show pQ (some d) x _=_;unfold pQ bx1;cases CX fr x<;>rfl
def st3(γ:Nat)(P:ck)(T:bp)(c:Nat)(fr:Fr)(s:St)(l q off:Nat)(v:V):Option (Nat×A1)->Option XS
 |some (γ',.box cs)=>if γ'=γ/\BH v=true/\0<P.cellsOf T/\(BG v).length=P.cellsOf T/\off+P.cellsOf T<=cs.length/\γ<c then some ⟨c,fr,s.put l q γ (.box (A8 cs off (BG v)))⟩ else none
 |_=>none
def st4(γ:Nat)(P:ck)(T:bp)(c:Nat)(fr:Fr)(s:St)(l q i off:Nat)(v:V):Option (Nat×A1)->Option XS
 |some (γ',.vec U es)=>if γ'=γ/\BH v=true/\0<P.cellsOf T/\(BG v).length=P.cellsOf T/\i<es.length/\off+P.cellsOf T<=(es.getD i []).length/\γ<c then some ⟨c,fr,s.put l q γ (.vec U (es.set i (A8 (es.getD i []) off (BG v))))⟩ else none
 |_=>none
def HD(P:ck)(T:bp)(c:Nat)(fr:Fr)(s:St):Option V->Option V->Option XS
 |some (.ptr l q γ off),some v=>st3 γ P T c fr s l q off v (s.get l q)
 |some (.eptr l q γ i off),some v=>st4 γ P T c fr s l q i off v (s.get l q)
 |_,_=>none
@[simp] theorem AOI(T:bp)(l q γ off:Nat)(v:V):HD P T c fr s (some (.ptr l q γ off)) (some v)=st3 γ P T c fr s l q off v (s.get l q):=rfl
@[simp] theorem AJH(T:bp)(l q γ i off:Nat)(v:V):HD P T c fr s (some (.eptr l q γ i off)) (some v)=st4 γ P T c fr s l q i off v (s.get l q):=rfl
@[simp] theorem AOJ(γ γ':Nat)(T:bp)(l q off:Nat)(v:V)(cs:List V):st3 γ P T c fr s l q off v (some (γ',.box cs))=if γ'=γ/\BH v=true/\0<P.cellsOf T/\(BG v).length=P.cellsOf T/\off+P.cellsOf T<=cs.length/\γ<c then some ⟨c,fr,s.put l q γ (.box (A8 cs off (BG v)))⟩ else none:=rfl
@[simp] theorem AOK(γ γ':Nat)(T:bp)(l q i off:Nat)(v:V)(U:bp)(es:List (List V)):st4 γ P T c fr s l q i off v (some (γ',.vec U es))=if γ'=γ/\BH v=true/\0<P.cellsOf T/\(BG v).length=P.cellsOf T/\i<es.length/\off+P.cellsOf T<=(es.getD i []).length/\γ<c then some ⟨c,fr,s.put l q γ (.vec U (es.set i (A8 (es.getD i []) off (BG v))))⟩ else none:=rfl
theorem AOL(T:bp)(x y:cj):JR P none T x y ⟨c,fr,s⟩=HD P T c fr s (CX fr x) (CX fr y):=by
 unfold JR;simp only;cases CX fr x with
 |none=>rfl
 |some p=>
  cases CX fr y with
  |none=>cases p<;>rfl
  |some v=>
   cases p with
   |ptr l q γ off=>
    simp only[AOI]
    cases s.get l q with
    |none=>rfl
    |some z=>
     obtain⟨γ',r⟩:=z
     cases r with
     |box cs=>
      simp only[AOJ,bj,bf,Nat.ble_eq,bg,and_assoc]
     |_=>rfl
   |eptr l q γ i off=>
    simp only[AJH]
    cases s.get l q with
    |none=>rfl
    |some z=>
     obtain⟨γ',r⟩:=z
     cases r with
     |vec U es=>
      simp only[AOK,bj,bf,Nat.ble_eq,bg,and_assoc]
     |_=>rfl
   |_=>rfl
@[simp] theorem A0S(T:bp)(x y:cj):DE P E none (.sto T x y) ⟨c,fr,s⟩=HD P T c fr s (CX fr x) (CX fr y):=AOL c T x y
def apW(P:ck)(e:bp)(d c:Nat)(fr:Fr)(s:St)(l q γ n:Nat)(ys:List (List V)):Option (Nat×A1)->Option XS
 |some (γ',.vec W es)=>if γ'=γ/\W=e/\n=es.length/\es.all (fun y=>y.length==P.cellsOf e)=true/\B5 P e es.length ys=true then
   some ⟨c+1,(d,true,.vec l q c (es.length+ys.length))::fr,s.put l q c (.vec e (es++ys))⟩ else none
 |_=>none
@[simp] theorem VN(e:bp)(d:Nat)(l q γ γ' n:Nat)(ys es:List (List V))(W:bp):apW P e d c fr s l q γ n ys (some (γ',.vec W es))=if γ'=γ/\W=e/\n=es.length/\es.all (fun y=>y.length==P.cellsOf e)=true/\B5 P e es.length ys=true then
   some ⟨c+1,(d,true,.vec l q c (es.length+ys.length))::fr,s.put l q c (.vec e (es++ys))⟩ else none:=rfl
def apV(P:ck)(e:bp)(d c:Nat)(fr:Fr)(s:St)(xv:V)(ys:List (List V)):Option XS:=match I9 xv ys with
 |some es=>if es.all (fun y=>y.length==P.cellsOf e)=true/\B5 P e es.length ys=true then some ⟨c+1,(d,true,.vec s.up.length d c (es.length+ys.length))::fr,s.put s.up.length d c (.vec e (es++ys))⟩ else none
 |none=>match xv with
  |.vec l q γ n=>apW P e d c fr s l q γ n ys (US n ys (s.get l q))
  |_=>none
@[simp] theorem rM(n γ:Nat)(ys es:List (List V))(U:bp):US n ys (some (γ,.vec U es))=some (γ,.vec U (bF n ys es)):=rfl
attribute [simp] WG
@[simp] theorem BC2(e:bp)(d:Nat)(ys:List (List V)):apV P e d c fr s .nil ys=if B5 P e 0 ys=true then some ⟨c+1,(d,true,.vec s.up.length d c ys.length)::fr,s.put s.up.length d c (.vec e ys)⟩ else none:=by simp[apV,I9]
@[simp] theorem BC3(e:bp)(d:Nat)(ys:List (List V)):apV P e d c fr s (.list true []) ys=if B5 P e 0 ys=true then some ⟨c+1,(d,true,.vec s.up.length d c ys.length)::fr,s.put s.up.length d c (.vec e ys)⟩ else none:=by simp[apV,I9]
@[simp] theorem AOM(e:bp)(d:Nat)(l q γ n:Nat)(ys:List (List V)):apV P e d c fr s (.vec l q γ n) ys=apW P e d c fr s l q γ n ys (US n ys (s.get l q)):=by simp[apV,I9]
def ap3(P:ck)(d c:Nat)(fr:Fr)(s:St):Option (Option Nat×bp)->Option V->Option V->Option XS
 |some (none,e),some xv,some yv=>ap4 e xv (elemsOf s yv)
 |_,_,_=>none
where ap4 (e:bp) (xv:V):Option (List (List V))->Option XS
 |some ys=>apV P e d c fr s xv ys
 |none=>none
@[simp] theorem AJJ(d:Nat)(e:bp)(xv yv:V):ap3 P d c fr s (some (none,e)) (some xv) (some yv)=ap3.ap4 P d c fr s e xv (elemsOf s yv):=rfl
@[simp] theorem AJK(d:Nat)(e:bp)(xv:V)(ys:List (List V)):ap3.ap4 P d c fr s e xv (some ys)=apV P e d c fr s xv ys:=rfl
@[simp] theorem AON(b:Bool)(es:List (List V)):elemsOf s (.list b es)=some es:=rfl
@[simp] theorem ARQ:elemsOf s .nil=some []:=rfl
theorem ifB{α:Type}{b:Bool}{x y:α}:(Bool.rec y x b:α)=if b=true then x else y:=by cases b<;>rfl
theorem ADB{k:Nat}{e:bp}(d:Nat)(x y:Option V):ap3 P d c fr s (some (some k,e)) x y=none:=by cases x<;>cases y<;>rfl
@[simp] theorem A0T(d:Tmp)(x y:cj)(T:bp):DE P E (some d) (.app [x,y] [T,T]) ⟨c,fr,s⟩=ap3 P d c fr s (BW P T) (CX fr x) (CX fr y):=by
 show xAppend P (some d) [x,y] [T,T] _=_;unfold xAppend xAppG;simp only[Nat.beq_refl];cases hT:BW P T with
 |none=>cases CX fr x<;>cases CX fr y<;>rfl
 |some p=>
  obtain⟨k,e⟩:=p
  cases k with
  |some k=>rw[ADB]
  |none=>
   cases CX fr x with
   |none=>rfl
   |some xv=>
    cases CX fr y with
    |none=>rfl
    |some yv=>
     simp only[AJJ]
     cases elemsOf s yv with
     |none=>rfl
     |some ys=>
      simp only[AJK,apV]
      cases I9 xv ys with
      |some es=>
       simp only[ifB,bj,bk]
       by_cases hC:es.all (fun y=>y.length==P.cellsOf e)=true/\B5 P e es.length ys=true
       ·rw[if_pos hC,if_pos hC]
       ·rw[if_neg hC,if_neg hC]
      |none=>
       simp only
       unfold pU
       cases xv with
       |vec l q γ n=>
        simp only
        cases US n ys (s.get l q)with
        |none=>rfl
        |some z=>
         obtain⟨γ',r⟩:=z
         cases r with
         |vec W es=>
          simp only[ifB,bj,bk,VN,bg,and_assoc]
          by_cases hC:γ'=γ/\W=e/\n=es.length/\es.all (fun y=>y.length==P.cellsOf e)=true/\B5 P e es.length ys=true
          ·rw[if_pos hC,if_pos hC]
          ·rw[if_neg hC,if_neg hC]
         |_=>rfl
       |_=>rfl
def mc2:Option V->Option (List V)->Option (List V)
 |some v,some l=>some (v::l)
 |_,_=>none
@[simp] theorem A85(v:V)(l:List V):mc2 (some v) (some l)=some (v::l):=rfl
@[simp] theorem A86(f:cj->Option V):GV f []=some []:=rfl
@[simp] theorem A0U(f:cj->Option V)(x:cj)(l:List cj):GV f (x::l)=mc2 (f x) (GV f l):=by
 simp only[GV];cases f x with
 |none=>rfl
 |some v=>cases GV f l<;>rfl
def GW(E:XE)(d:Option Tmp)(st:XS)(f:cx)(args:List V):Option XS:=match E.cf f args st with
 |some (r,st')=>some ⟨st'.c,putD st'.fr d true r,st'.s⟩
 |none=>none
def ca1(E:XE)(d:Option Tmp)(st:XS):Option V->Option (List V)->Option XS
 |some (.fn f first cap),some vs=>GW E d st f ((first++vs++cap).map weakV)
 |some (.yld l q γ),some vs=>ca3 (E.cy l q γ vs st)
 |_,_=>none
where ca3:Option (V×XS)->Option XS
 |some (r,st')=>some ⟨st'.c,putD st'.fr d true r,st'.s⟩
 |none=>none
@[simp] theorem AWL(st:XS)(f:cx)(first cap vs:List V):ca1 E d st (some (.fn f first cap)) (some vs)=GW E d st f ((first++vs++cap).map weakV):=rfl
@[simp] theorem AOO(st:XS)(l q γ:Nat)(vs:List V):ca1 E d st (some (.yld l q γ)) (some vs)=ca1.ca3 d (E.cy l q γ vs st):=rfl
@[simp] theorem A87(d:Tmp)(r:V):ca1.ca3 (some d) (some (r,⟨c,fr,s⟩))=some ⟨c,(d,true,r)::fr,s⟩:=rfl
theorem rN(st:XS)(f:cj)(args:List cj):VB E.cf E.cy d f args st=ca1 E d st (CX st.fr f) (GV (CX st.fr) args):=by
 unfold VB;cases CX st.fr f with
 |none=>rfl
 |some v=>
  cases v with
  |fn f first cap=>
   simp only
   cases GV (CX st.fr) args with
   |none=>rfl
   |some vs=>simp only[AWL,GW];cases E.cf f ((first++vs++cap).map weakV) st<;>rfl
  |yld l q γ=>
   simp only[uM]
   cases GV (CX st.fr) args with
   |none=>rfl
   |some vs=>simp only[AOO];cases E.cy l q γ vs st<;>rfl
  |_=>rfl
@[simp] theorem AWM(f:cj)(args:List cj):DE P E d (.call false none f args) ⟨c,fr,s⟩=ca1 E d ⟨c,fr,s⟩ (CX fr f) (GV (CX fr) args):=rN d ⟨c,fr,s⟩ f args
def orK:Bool->Option V->Option V->Option V
 |true,some r,_=>some r
 |_,_,z=>z
@[simp] theorem A88(r:V)(z:Option V):orK true (some r) z=some r:=rfl
@[simp] theorem A89(b:Bool)(z:Option V):orK b z z=z:=by cases b<;>cases z<;>rfl
theorem rO{P:ck}{kn:CF0}{rec:HC}{f:cx}{args:List V}:FZ P kn rec f args=orK (args.all (AG 9)) (AY P kn rec f (args.map weakN)) (AY P kn rec f args):=by unfold FZ orK;cases AY P kn rec f (args.map weakN)<;>cases args.all (AG 9)<;>rfl
attribute [simp] rO
@[simp] theorem A0V(k:cz)(n:Int):weakN (.int k n)=.int k n:=rfl
@[simp] theorem AWO(b:Bool)(es:List (List V)):weakN (.list b es)=.list b es:=rfl
@[simp] theorem A0W(cs:List V):weakN (.agg cs)=.agg (cs.map weakM):=rfl
@[simp] theorem A0X:weakN .nil=.list false []:=rfl
@[simp] theorem A9A(f:cx)(x y:List V):weakN (.fn f x y)=.fn f x y:=rfl
@[simp] theorem A0Y(cs:List V):weakN (.ref cs)=.ref cs:=rfl
@[simp] theorem A0Z(k:cz)(n:Int):weakM (.int k n)=.int k n:=rfl
@[simp] theorem AWP(b:Bool):weakM (.bool b)=.bool b:=rfl
@[simp] theorem AWQ(b:Bool)(es:List (List V)):weakM (.list b es)=.list b es:=rfl
@[simp] theorem A9B(f:cx)(x y:List V):weakM (.fn f x y)=.fn f x y:=rfl
theorem eE{A:Ann}{kn:CF0}{n:Nat}{f:cx}{args:List V}(h:args.all (AG 9)=true)(hh:BI P f=false)(st:XS):GW (BT P A kn n) d st f args=EO d st (orK true (AY P kn (AE P A kn n) f (args.map weakN)) (AY P kn (AE P A kn n) f args)):=by
 have e:orK true (AY P kn (AE P A kn n) f (args.map weakN)) (AY P kn (AE P A kn n) f args)=FZ P kn (AE P A kn n) f args:=by rw[rO,h]
 rw[e];show(match cW P kn (AE P A kn n) f args st with
  |some (r,st')=>some (⟨st'.c,putD st'.fr d true r,st'.s⟩:XS)
  | none=>none)=_
 unfold cW;rw[h,hh];cases FZ P kn (AE P A kn n) f args<;>rfl
end
@[simp] theorem A9C(k:cz)(n:Int):weakV (.int k n)=.int k n:=rfl
@[simp] theorem A00(b:Bool)(es:List (List V)):weakV (.list b es)=.list false es:=rfl
@[simp] theorem A9D(cs:List V):weakV (.agg cs)=.agg (cs.map weakC):=rfl
@[simp] theorem A01(k:cz)(n:Int):weakC (.int k n)=.int k n:=rfl
@[simp] theorem AWR(b:Bool):weakC (.bool b)=.bool b:=rfl
@[simp] theorem AWS(b:Bool)(es:List (List V)):weakC (.list b es)=.list false es:=rfl
@[simp] theorem A9E:weakV .nil=.nil:=rfl
@[simp] theorem BC4(f:cx)(x y:List V):weakV (.fn f x y)=.fn f x y:=rfl
@[simp] theorem AWT(f:Nat)(k:cz)(n:Int):AG (f+1) (.int k n)=true:=rfl
@[simp] theorem ARS(f:Nat)(b:Bool):AG (f+1) (.bool b)=true:=rfl
@[simp] theorem AWU(f:Nat):AG (f+1) .nil=true:=rfl
@[simp] theorem AWV(f:Nat)(cs:List V):AG (f+1) (.agg cs)=cs.all (AG f):=rfl
@[simp] theorem AWW(f:Nat)(cs:List V):AG (f+1) (.tup cs)=cs.all (AG f):=rfl
@[simp] theorem AWX(f:Nat)(cs:List V):AG (f+1) (.ref cs)=cs.all (AG f):=rfl
@[simp] theorem ART(f:Nat)(b:Bool)(es:List (List V)):AG (f+1) (.list b es)=es.all fun e=>e.all (AG f):=rfl
@[simp] theorem A02(f:Nat)(g:cx)(x y:List V):AG (f+1) (.fn g x y)=(x.all (AG f)&&y.all (AG f)):=rfl
section
variable (r:cj->Option V)
def o1(f:V->Option V):Option V->Option V
 |some v=>f v
 |none=>none
@[simp] theorem BC5(f:V->Option V)(v:V):o1 f (some v)=f v:=rfl
def o2(f:V->V->Option V):Option V->Option V->Option V
 |some a,some b=>f a b
 |_,_=>none
@[simp] theorem BC6(f:V->V->Option V)(a b:V):o2 f (some a) (some b)=f a b:=rfl
theorem VO(f:V->Option V)(x:Option V):x.bind f=o1 f x:=by cases x<;>rfl
theorem lR(f:V->V->Option V)(x y:Option V):(x.bind fun a=>y.bind fun b=>f a b)=o2 f x y:=by cases x<;>cases y<;>rfl
@[simp] theorem BH0(op:UnOp)(T:bp)(x:cj):J2 P (sO (.unOp op T x)) s r=o1 (jZ op) (r x):=VO _ _
@[simp] theorem A9F(T U:bp)(x:cj):J2 P (sO (.convert T U x)) s r=o1 (LU P T U) (r x):=VO _ _
@[simp] theorem A9G(T:bp)(x i:cj):J2 P (sO (.indexAddr T x i)) s r=o2 (BV P s T) (r x) (r i):=lR _ _ _
@[simp] theorem A03(T:bp)(x:cj)(f:Nat):J2 P (sO (.field T x f)) s r=o1 (fun a=>IW P T a f) (r x):=VO _ _
@[simp] theorem BC7(x:cj)(i:Nat):J2 P (sO (.extract x i)) s r=o1 (fun a=>F4 a i) (r x):=VO _ _
@[simp] theorem BC8(x:cj)(T:bp):J2 P (sO (.call ⟨.builtin .len,#[x],#[T]⟩)) s r=o1 (IA P T) (r x):=VO _ _
end
@[simp] theorem A9H(b:Bool):jZ .not (.bool b)=some (.bool !b):=rfl
@[simp] theorem AKG(vs:List V)(i:Nat):F4 (.tup vs) i=vs[i]?:=rfl
@[simp] theorem BH1(up:List AA)(loc:AA)(l k g:Nat)(r:A1):St.put ⟨up,loc⟩ l k g r=if l=up.length then⟨up,(k,g,r)::loc⟩ else⟨up.modify l fun L=>L.put k g r,loc⟩:=rfl
def upG(k:Nat):Option AA->Option (Nat×A1)
 |some L=>L.get k
 |none=>none
@[simp] theorem A9I(k:Nat)(L:AA):upG k (some L)=L.get k:=rfl
@[simp] theorem AJL(up:List AA)(loc:AA)(l k:Nat):St.get ⟨up,loc⟩ l k=if l=up.length then loc.get k else upG k up[l]?:=rfl
def kx(k:Nat)(r:Fr):Option (Bool×V)->Fr
 |some (c,v)=>(k,c,v)::r
 |none=>r
@[simp] theorem BC9(k:Nat)(r:Fr)(c:Bool)(v:V):kx k r (some (c,v))=(k,c,v)::r:=rfl
@[simp] theorem BDA(k:Nat)(r:Fr):kx k r none=r:=rfl
@[simp] theorem A04:RJ [] fr=[]:=rfl
@[simp] theorem AWY(k:Nat)(ks:List Nat):RJ (k::ks) fr=kx k (RJ ks fr) (BD fr k):=by show(match BD fr k with|some (c,v)=>(k,c,v)::RJ ks fr|none=>RJ ks fr)=_;cases BD fr k<;>rfl
def kl(k:Nat)(r:AA):Option (Nat×A1)->AA
 |some (g,x)=>(k,g,x)::r
 |none=>r
@[simp] theorem BDB(k:Nat)(r:AA)(g:Nat)(x:A1):kl k r (some (g,x))=(k,g,x)::r:=rfl
@[simp] theorem BDC(k:Nat)(r:AA):kl k r none=r:=rfl
@[simp] theorem A05(L:AA):JA [] L=[]:=rfl
@[simp] theorem AWZ(k:Nat)(ks:List Nat)(L:AA):JA (k::ks) L=kl k (JA ks L) (L.get k):=by unfold kl;simp only[JA];cases L.get k<;>rfl
@[simp] theorem A9J(ks ls:List Nat)(c:Nat)(fr:Fr)(up:List AA)(loc:AA):CH (some (ks,ls)) ⟨c,fr,⟨up,loc⟩⟩=⟨c,RJ ks fr,⟨up,JA ls loc⟩⟩:=rfl
@[simp] theorem BH2:OQ (some st)=some (.normal,st):=rfl
@[simp] theorem A9K:OQ none=none:=rfl
@[simp] theorem BDD(c:Prop)[Decidable c](x y:Option XS):OQ (if c then x else y)=if c then OQ x else OQ y:=by split<;>rfl
@[simp] theorem A9L(l:List J7):JG P E (.str l) st=P1 P E l (some st):=rfl
@[simp] theorem A9M(S:List rI):JG P E (.drw S) st=XC P E S (some st):=rfl
@[simp] theorem A9N(ks:List (Nat×Nat×Nat)):JG P E (.cls ks) st=SK P ks (some st):=rfl
@[simp] theorem A9O(o:Option XS):SK P [] o=o:=rfl
@[simp] theorem A06(T a d:Nat)(r:List (Nat×Nat×Nat))(st:XS):SK P ((T,a,d)::r) (some st)=SK P r (if vG (CX st.fr (.tmp a))=true then EO (some d) st (OG P st.fr st.s T (.tmp a)) else none):=by
 show SK P r (Bool.rec _ _ (vG (CX st.fr (.tmp a))))=_;cases vG (CX st.fr (.tmp a))with
 |false=>rfl
 |true=>
  simp only[if_true]
  congr 1
@[simp] theorem A9P(l k g o:Nat):vG (some (.ptr l k g o))=true:=rfl
@[simp] theorem A9Q(rs:List ResultVar):fT P rs (some (.ret,st))=fT.finV st.s (GD P rs st.fr st.s):=rfl
def AW0:Option V->Option V
 |some r=>if AG 9 r=true then some r else none
 |none=>none
@[simp] theorem A07(r:V):AW0 (some r)=if AG 9 r=true then some r else none:=rfl
@[simp] theorem A08(v:V):fT.finV s (some v)=AW0 (A7 s 4 v):=by
 unfold fT.finV AW0;simp only;cases A7 s 4 v with
 |none=>rfl
 |some r=>simp only[ifB]
@[simp] theorem AW1(t:Tmp):CU P fr s (.tmp t)=rdT (BD fr t):=by
 rw[GO];show(match fr.get t with
  |some (true,v)=>some v
  | _=>none)=_
 cases fr.get t with
 |none=>rfl
 |some p=>obtain⟨c,v⟩:=p;cases c<;>rfl
@[simp] theorem A9R(x:ResultVar):GD P [x] fr s=CU P fr s x:=by unfold GD;simp only[bz,bh];cases CU P fr s x<;>rfl
def re2:Option V->Option V->Option V
 |some a,some b=>some (.tup [a,b])
 |_,_=>none
@[simp] theorem A9S(a b:V):re2 (some a) (some b)=some (.tup [a,b]):=rfl
@[simp] theorem A9T(x y:ResultVar):GD P [x,y] fr s=re2 (CU P fr s x) (CU P fr s y):=by unfold GD;simp only[bz,bh];cases CU P fr s x<;>cases CU P fr s y<;>rfl
def re3:Option V->Option V->Option V->Option V
 |some a,some b,some c=>some (.tup [a,b,c])
 |_,_,_=>none
@[simp] theorem A9U(a b c:V):re3 (some a) (some b) (some c)=some (.tup [a,b,c]):=rfl
@[simp] theorem AW2(x y z:ResultVar):GD P [x,y,z] fr s=re3 (CU P fr s x) (CU P fr s y) (CU P fr s z):=by unfold GD;simp only[bz,bh];cases CU P fr s x<;>cases CU P fr s y<;>cases CU P fr s z<;>rfl
@[simp] theorem AW3(f:Nat)(k:cz)(n:Int):A7 s (f+1) (.int k n)=some (.int k n):=rfl
@[simp] theorem ARU(f:Nat)(b:Bool):A7 s (f+1) (.bool b)=some (.bool b):=rfl
@[simp] theorem AW4(f:Nat):A7 s (f+1) .nil=some .nil:=rfl
@[simp] theorem ARV(f:Nat)(b:Bool)(es:List (List V)):A7 s (f+1) (.list b es)=some (.list false es):=rfl
def lS(mk:List V->V):Option (List V)->Option V
 |some l=>some (mk l)
 |none=>none
@[simp] theorem A9V(mk:List V->V)(l:List V):lS mk (some l)=some (mk l):=rfl
def Q7(f:V->Option V):List V->Option (List V)
 |[]=>some []
 |v::l=>mc2 (f v) (Q7 f l)
theorem VP(f:V->Option V):∀(l:List V),l.mapM f=Q7 f l
 |[]=>rfl
 |v::l=>by simp only[bz,Q7,VP f l];cases f v<;>cases Q7 f l<;>rfl
@[simp] theorem A9W(f:V->Option V):Q7 f []=some []:=rfl
@[simp] theorem A09(f:V->Option V)(v:V)(l:List V):Q7 f (v::l)=mc2 (f v) (Q7 f l):=rfl
@[simp] theorem AW5(f:Nat)(cs:List V):A7 s (f+1) (.agg cs)=lS .agg (Q7 (A7 s f) cs):=by simp only[A7,VP];cases Q7 (A7 s f) cs<;>rfl
@[simp] theorem AW6(f:Nat)(cs:List V):A7 s (f+1) (.tup cs)=lS .tup (Q7 (A7 s f) cs):=by simp only[A7,VP];cases Q7 (A7 s f) cs<;>rfl
def cv1(g m:Nat):Option (Nat×A1)->Option V
 |some (g',.vec _ es)=>if g'=g/\m<=es.length then some (.list false (es.take m)) else none
 |_=>none
@[simp] theorem AJM(g m g':Nat)(T:bp)(es:List (List V)):cv1 g m (some (g',.vec T es))=if g'=g/\m<=es.length then some (.list false (es.take m)) else none:=rfl
@[simp] theorem eF(f:Nat)(up:List AA)(loc:AA)(l k g m:Nat):A7 ⟨up,loc⟩ (f+1) (.vec l k g m)=if l=up.length then cv1 g m (loc.get k) else some (.vec l k g m):=by
 simp only[A7];split
 ·cases loc.get k with
  |none=>rfl
  |some z=>obtain⟨g',r⟩:=z;cases r<;>rfl
 ·rfl
@[simp] theorem ARW(t:Nat)(T:bp):CU P fr s (.cell t T)=ld1 P s T (rdT (BD fr t)):=by
 rw[GO];show(match fr.get t with
  |some (true,p)=>(BE s p).bind (BQ P T)
  | _=>none)=_
 cases fr.get t with
 |none=>rfl
 |some p=>
  obtain⟨c,v⟩:=p
  cases c with
  |false=>rfl
  |true=>
   simp only[AJF,AJG]
   cases BE s v<;>rfl
section
variable (d:Option Tmp)(c:Nat)
@[simp] theorem A9X(r:Option XS):XC P E [] r=r:=rfl
@[simp] theorem A1A(p:rI)(S:List rI)(r:Option XS):XC P E (p::S) r=XC P E S (P1 P E p.sq (eC (XB P E p.ph (AI3 p.new r)))):=rfl
@[simp] theorem A9Y(r:Option (XS×AM×AM)):XB P E [] r=r:=rfl
@[simp] theorem A1B(i:J7)(l:List J7)(r:Option (XS×AM×AM)):XB P E (i::l) r=XB P E l (AI2 P E i r):=rfl
@[simp] theorem BDE(new:List Tmp)(up:List AA)(loc:AA):AI3 new (some ⟨c,fr,⟨up,loc⟩⟩)=if (new.all fun d=>(loc.get d).isNone)=true then some (⟨c,fr,⟨up,loc⟩⟩,[],[]) else none:=by show(Bool.rec none _ _:Option _)=_;rw[ifB];rfl
@[simp] theorem A1C(rd wr:AM):eC (some (st,rd,wr))=if (wr.all fun p=>!(rd.contains p))=true then some st else none:=by show(Bool.rec none _ _:Option _)=_;rw[ifB]
@[simp] theorem A1D:eC none=none:=rfl
@[simp] theorem A9Z(c:Prop)[Decidable c](x y:Option (XS×AM×AM)):eC (if c then x else y)=if c then eC x else eC y:=by split<;>rfl
@[simp] theorem A1E(i:J7):AI2 P E i none=none:=rfl
@[simp] theorem A90(l:List J7)(c:Prop)[Decidable c](x y:Option (XS×AM×AM)):XB P E l (if c then x else y)=if c then XB P E l x else XB P E l y:=by split<;>rfl
@[simp] theorem A91(l:List rI)(c:Prop)[Decidable c](x y:Option XS):XC P E l (if c then x else y)=if c then XC P E l x else XC P E l y:=by split<;>rfl
def ph3(rds rd wr:AM):Option (XS×AM)->Option (XS×AM×AM)
 |some (st,w)=>some (st,rds++rd,w++wr)
 |none=>none
@[simp] theorem A92(rds rd wr w:AM):ph3 rds rd wr (some (st,w))=some (st,rds++rd,w++wr):=rfl
@[simp] theorem A93(rds rd wr:AM):ph3 rds rd wr none=none:=rfl
@[simp] theorem BDF(rds rd wr:AM)(c:Prop)[Decidable c](x y:Option (XS×AM)):ph3 rds rd wr (if c then x else y)=if c then ph3 rds rd wr x else ph3 rds rd wr y:=by split<;>rfl
@[simp] theorem A1G(i:J7)(rd wr:AM):AI2 P E i (some (st,rd,wr))=ph3 (H2 P i.k (CX st.fr)) rd wr (XA P E i st):=by show(match XA P E i st with|some (st',w)=>some (st',H2 P i.k (CX st.fr)++rd,w++wr)|none=>none)=_;cases XA P E i st<;>rfl
@[simp] theorem A1H(k:IK):XA P E ⟨none,d,k⟩ st=DW P E d k st:=rfl
def gI0(P:ck)(E:XE)(d:Option Tmp)(k:IK)(st:XS)(w:Bool)(r:Option (Bool×V)):Option (XS×AM):=match r with
 |some (c,.bool b)=>if (c&&(b==w))=true then DW P E d k st else if jB k=true then none else some (JE d st,[])
 |_=>none
@[simp] theorem AW7(t:Tmp)(w:Bool)(k:IK):XA P E ⟨some (t,w),d,k⟩ st=gI0 P E d k st w (BD st.fr t):=by
 show(match(match BD st.fr t with | some (c,.bool b)=>some (c&&(b == w)) | _=>none:Option Bool)with
  |some true=>DW P E d k st
  |some false=>Bool.rec (some (JE d st,[])) none (jB k)
  | none=>none)=_
 unfold gI0;cases BD st.fr t with
 |none=>rfl
 |some p=>
  obtain⟨c,v⟩:=p
  cases v with
  |bool b=>cases h:(c&&(b==w))<;>simp[h,ifB]
  |_=>rfl
@[simp] theorem A94(k:IK)(w c b:Bool):gI0 P E d k st w (some (c,.bool b))=if (c&&(b==w))=true then DW P E d k st else if jB k=true then none else some (JE d st,[]):=rfl
@[simp] theorem BH4(T:bp)(x:cj)(f:cj->Option V):H2 P (.ld T x) f=CI (bx (P.cellsOf T) 1) (f x):=rfl
@[simp] theorem AW8(x y:cj)(f:cj->Option V):KQ f [x,y]=GU (f y):=rfl
@[simp] theorem AOP(b:Bool)(es:List (List V)):GU (some (.list b es))=[]:=rfl
@[simp] theorem BH5(x:cj)(f:cj->Option V):H2 P (.mv x) f=[]:=rfl
@[simp] theorem BDG(op:BinOp)(T:bp)(x y:cj)(f:cj->Option V):H2 P (.bin op T x y) f=[]:=rfl
@[simp] theorem BH6(T:bp)(x:cj)(i:Nat)(f:cj->Option V):H2 P (.fa T x i) f=[]:=rfl
@[simp] theorem A95(x y z:cj)(f:cj->Option V):H2 P (.pick x y z) f=[]:=rfl
@[simp] theorem A1I(T:bp)(ps:List (Nat×cj))(f:cj->Option V):H2 P (.build T ps) f=[]:=rfl
@[simp] theorem AW9(T:bp)(n:Nat)(ps:List (Nat×cj))(f:cj->Option V):H2 P (.buildS T n ps) f=[]:=rfl
@[simp] theorem A1J(T:bp)(f:cj->Option V):H2 P (.alloc T) f=[]:=rfl
@[simp] theorem BDH(x:cj)(f:cj->Option V):H2 P (.box x) f=[]:=rfl
@[simp] theorem BDI(T:bp)(x y:cj)(f:cj->Option V):H2 P (.sto T x y) f=[]:=rfl
@[simp] theorem BDJ(x:List cj)(y:List bp)(f:cj->Option V):H2 P (.app x y) f=KQ f x:=rfl
@[simp] theorem A96(b:Bool)(t:Option Tmp)(g:cj)(x:List cj)(f:cj->Option V):H2 P (.call b t g x) f=[]:=rfl
@[simp] theorem A97(T:bp)(x i:cj)(f:cj->Option V):H2 P (.oth (.indexAddr T x i)) f=NU (f x):=rfl
@[simp] theorem BH7(op:UnOp)(T:bp)(x:cj)(f:cj->Option V):H2 P (.oth (.unOp op T x)) f=[]:=rfl
@[simp] theorem BDK(x:cj)(i:Nat)(f:cj->Option V):H2 P (.oth (.extract x i)) f=[]:=rfl
@[simp] theorem BDL(x:cj)(T:bp)(b:Builtin)(f:cj->Option V):H2 P (.oth (.call ⟨.builtin b,#[x],#[T]⟩)) f=[]:=by cases b<;>rfl
@[simp] theorem BH8(g:Fn)(x y:Array cj)(f:cj->Option V):H2 P (.oth (.makeFunc g x y)) f=[]:=rfl
def nw:Option XS->Option (XS×AM)
 |some st=>some (st,[])
 |none=>none
@[simp] theorem BDM:nw (some st)=some (st,[]):=rfl
@[simp] theorem BDN:nw none=none:=rfl
@[simp] theorem BH9(c:Prop)[Decidable c](x y:Option XS):nw (if c then x else y)=if c then nw x else nw y:=by split<;>rfl
theorem H3(r:Option XS):VZ r=nw r:=by cases r<;>rfl
@[simp] theorem A98(x:cj):DW P E d (.mv x) st=nw (DE P E d (.mv x) st):=H3 _
@[simp] theorem A1K(op:BinOp)(T:bp)(x y:cj):DW P E d (.bin op T x y) st=nw (DE P E d (.bin op T x y) st):=H3 _
@[simp] theorem A99(T:bp)(x:cj)(f:Nat):DW P E d (.fa T x f) st=nw (DE P E d (.fa T x f) st):=H3 _
@[simp] theorem A1L(T:bp)(x:cj):DW P E d (.ldz T x) st=DW P E d (.ld T x) st:=rfl
@[simp] theorem BDO(T:bp)(x:cj)(f:cj->Option V):H2 P (.ldz T x) f=[]:=rfl
@[simp] theorem BAA(T:bp)(x:cj):DW P E d (.ld T x) st=nw (DE P E d (.ld T x) st):=H3 _
@[simp] theorem AXA(x y z:cj):DW P E d (.pick x y z) st=nw (DE P E d (.pick x y z) st):=H3 _
@[simp] theorem ARX(T:bp)(ps:List (Nat×cj)):DW P E d (.build T ps) st=nw (DE P E d (.build T ps) st):=H3 _
@[simp] theorem AOQ(T:bp)(n:Nat)(ps:List (Nat×cj)):DW P E d (.buildS T n ps) st=nw (DE P E d (.buildS T n ps) st):=H3 _
@[simp] theorem A1M(op:Op):DW P E d (.oth op) st=nw (DE P E d (.oth op) st):=H3 _
@[simp] theorem ARY(T:bp):DW P E d (.alloc T) st=nw (DE P E d (.alloc T) st):=H3 _
@[simp] theorem A1N(x:cj):DW P E d (.box x) st=nw (DE P E d (.box x) st):=H3 _
@[simp] theorem A1O(x:Option cj):DW P E d (.mkM x) st=nw (DE P E d (.mkM x) st):=H3 _
@[simp] theorem A1P(T:bp)(x y:cj):DW P E d (.mkS T x y) st=nw (DE P E d (.mkS T x y) st):=H3 _
def wp(p:AM):Option XS->Option (XS×AM)
 |some st=>some (st,p)
 |none=>none
@[simp] theorem BDP(p:AM):wp p (some st)=some (st,p):=rfl
@[simp] theorem A1Q(T:bp)(x y:cj):DW P E d (.sto T x y) st=wp (GF (bx (P.cellsOf T) 1) (CX st.fr x)) (DE P E d (.sto T x y) st):=by show(match JR P d T x y st with|some st'=>some (st',GF (bx (P.cellsOf T) 1) (CX st.fr x))|none=>none)=wp _ (JR P d T x y st);cases JR P d T x y st<;>rfl
@[simp] theorem AXB(l k g o:Nat):CI true (some (.ptr l k g o))=[(l,k+2000000),(l,k+4000000),(l,6000000+1000*k+o)]:=rfl
@[simp] theorem ARZ(l k g i o:Nat):CI true (some (.eptr l k g i o))=[(l,k+2000000),(l,k+4000000),(l,6000000+1000*k+o)]:=rfl
@[simp] theorem AXC(b:Bool)(cs:List V):CI b (some (.ref cs))=[]:=by cases b<;>rfl
@[simp] theorem AR0(l k g i o:Nat):GF true (some (.eptr l k g i o))=[(l,k),(l,6000000+1000*k+o)]:=rfl
@[simp] theorem AXD(l k g n:Nat):NU (some (.vec l k g n))=[(l,k+MO)]:=rfl
@[simp] theorem AR1(b:Bool)(es:List (List V)):NU (some (.list b es))=[]:=rfl
@[simp] theorem AXE(cs:List V):NU (some (.ref cs))=[]:=rfl
def c01(E:XE)(d:Option Tmp)(st:XS):Option V->Option (List V)->Option XS
 |some (.fn f first cap),some vs=>EO d st (E.c0 f ((first++vs++cap).map weakV))
 |_,_=>none
@[simp] theorem AXF(f:cx)(first cap vs:List V):c01 E d st (some (.fn f first cap)) (some vs)=EO d st (E.c0 f ((first++vs++cap).map weakV)):=rfl
@[simp] theorem AXG(t:Option Tmp)(f:cj)(args:List cj):DW P E d (.call false t f args) ⟨c,fr,s⟩=nw (c01 E d ⟨c,fr,s⟩ (CX fr f) (GV (CX fr) args)):=by
 show VZ (cS E.c0 d f args ⟨c,fr,s⟩)=_;rw[H3];congr 1;unfold cS;cases hf:CX fr f with
 |none=>simp only[c01]
 |some v=>
  cases v with
  |fn g first cap=>
   simp only
   cases hm:GV (CX fr) args with
   |none=>simp only[c01]
   |some vs=>
    simp only[AXF]
    cases E.c0 g ((first++vs++cap).map weakV)<;>rfl
  |_=>simp only[c01]
@[simp] theorem BIA{A:Ann}{kn:CF0}{n:Nat}:(BT P A kn n).c0=FZ P kn (AE P A kn n):=rfl
end
theorem vU{A:Ann}{kn:CF0}{n N:Nat}(a b:cw):qF (AE P A kn n N) a b st (some (.bool true))=AE P A kn n N a st:=rfl
theorem rP{A:Ann}{kn:CF0}{n N:Nat}(a b:cw):qF (AE P A kn n N) a b st (some (.bool false))=AE P A kn n N b st:=rfl
attribute [simp] AI9 AC6 vS AC7 AC8 AC9 AJA rK AJB ADA AJC fS vT rL vU rP AJE
end Go.Pg
namespace Go.Pg
variable {P:ck}{E:XE}{st:XS}{fr:Fr}{s:St}
@[simp] theorem AXH(k:cz)(n:Int):BG (.int k n)=[.int k n]:=rfl
@[simp] theorem AR2(b:Bool):BG (.bool b)=[.bool b]:=rfl
@[simp] theorem AXI(cs:List V):BG (.agg cs)=cs:=rfl
@[simp] theorem AR3(b:Bool)(es:List (List V)):BG (.list b es)=[.list b es]:=rfl
@[simp] theorem AXJ:BG .nil=[.nil]:=rfl
@[simp] theorem AXK(l k g n:Nat):BG (.vec l k g n)=[.vec l k g n]:=rfl
@[simp] theorem A1R(l k g:Nat):BG (.mp l k g)=[.mp l k g]:=rfl
@[simp] theorem A1S(f:cx)(x y:List V):BG (.fn f x y)=[.fn f x y]:=rfl
@[simp] theorem AXL(l k g n:Nat):BG (.ptr l k g n)=[.ptr l k g n]:=rfl
@[simp] theorem AXM(k:cz)(n:Int):BH (.int k n)=true:=rfl
@[simp] theorem AR4(b:Bool):BH (.bool b)=true:=rfl
@[simp] theorem AXN(cs:List V):BH (.agg cs)=true:=rfl
@[simp] theorem AR5(b:Bool)(es:List (List V)):BH (.list b es)=true:=rfl
@[simp] theorem AXO:BH .nil=true:=rfl
@[simp] theorem AXP(l k g n:Nat):BH (.vec l k g n)=true:=rfl
@[simp] theorem A1T(l k g:Nat):BH (.mp l k g)=true:=rfl
@[simp] theorem A1U(f:cx)(x y:List V):BH (.fn f x y)=true:=rfl
@[simp] theorem AXQ(l k g n:Nat):BH (.ptr l k g n)=true:=rfl
@[simp] theorem A1V(op:BinOp)(T:bp)(k j:cz)(a b:Int):I7 P op T (.int k a) (.int j b)=if k=j then GB op k a b else fB op k a b:=rfl
@[simp] theorem VQ(k:cz)(a b:Int):fB .shr k a b=if b<0 then none else some (.int k (a.fdiv (2 ^ (min b.toNat k.bits)))):=rfl
section
variable (k:cz)(a b:Int)
@[simp] theorem A1W:GB .add k a b=some (.int k (k.wrap (a+b))):=rfl
@[simp] theorem A1X:GB .sub k a b=some (.int k (k.wrap (a-b))):=rfl
@[simp] theorem A1Y:GB .mul k a b=some (.int k (k.wrap (a*b))):=rfl
@[simp] theorem A1Z:GB .quo k a b=if b=0 then none else some (.int k (k.wrap (a.tdiv b))):=rfl
@[simp] theorem A10:GB .rem k a b=if b=0 then none else some (.int k (a.tmod b)):=rfl
@[simp] theorem A11:GB .eql k a b=some (.bool (decide (a=b))):=by show some (V.bool (a==b))=_;congr 2
@[simp] theorem A12:GB .neq k a b=some (.bool (!decide (a=b))):=by show some (V.bool (a != b))=_;congr 2
@[simp] theorem A13:GB .lss k a b=some (.bool (decide (a<b))):=rfl
@[simp] theorem A14:GB .leq k a b=some (.bool (decide (a<=b))):=rfl
@[simp] theorem A15:GB .gtr k a b=some (.bool (decide (b<a))):=rfl
@[simp] theorem A16:GB .geq k a b=some (.bool (decide (b<=a))):=rfl
end
theorem AW{x:Int}(h1:-9223372036854775808<=x)(h2:x<9223372036854775808):IntKind.i64.wrap x=x:=by simp only[IntKind.wrap,IntKind.bits,IntKind.signed];simp;omega
@[simp] theorem AR6(T:bp)(a b:Bool):I7 P .neq T (.bool a) (.bool b)=if yH P T=true then some (.bool (a != b)) else none:=rfl
def bl1(f:Bool->Bool):Option Bool->Option V
 |some b=>some (.bool (f b))
 |none=>none
@[simp] theorem BAC(f:Bool->Bool)(b:Bool):bl1 f (some b)=some (.bool (f b)):=rfl
@[simp] theorem AXR(T:bp)(cs ds:List V):I7 P .eql T (.agg cs) (.agg ds)=bl1 (fun b=>b) (YJ P T cs ds):=by show(YJ P T cs ds).map V.bool=_;cases YJ P T cs ds<;>rfl
def faP(P:ck)(x:V):Option (bp×Nat)->Option V
 |some (U,off)=>if P.cellsOf U=0 then none else match x with
  |.ref cs=>some (.ref (cs.drop off))
  |.ptr l k g o=>some (.ptr l k g (o+off))
  |.eptr l k g i o=>some (.eptr l k g i (o+off))
  |_=>none
 |none=>none
@[simp] theorem BDQ(T:bp)(x:V)(f:Nat):DG P T x f=faP P x (A3 P T f):=by unfold DG faP;cases A3 P T f<;>rfl
@[simp] theorem BDR(U:bp)(off:Nat)(cs:List V):faP P (.ref cs) (some (U,off))=if P.cellsOf U=0 then none else some (.ref (cs.drop off)):=rfl
@[simp] theorem BDS(U:bp)(off l k g o:Nat):faP P (.ptr l k g o) (some (U,off))=if P.cellsOf U=0 then none else some (.ptr l k g (o+off)):=rfl
@[simp] theorem BAE(U:bp)(off l k g i o:Nat):faP P (.eptr l k g i o) (some (U,off))=if P.cellsOf U=0 then none else some (.eptr l k g i (o+off)):=rfl
def fd1(P:ck)(x:V):Option (bp×Nat)->Option V
 |some (U,off)=>match x with
  |.agg cs=>PB P U cs off
  |_=>none
 |none=>none
@[simp] theorem AXS(T:bp)(x:V)(f:Nat):IW P T x f=fd1 P x (A3 P T f):=by unfold IW fd1;cases x<;>cases A3 P T f<;>rfl
@[simp] theorem BDT(U:bp)(off:Nat)(cs:List V):fd1 P (.agg cs) (some (U,off))=PB P U cs off:=rfl
def cb(g off:Nat):Option (Nat×A1)->Option (List V)
 |some (g',.box cs)=>if g'=g then some (cs.drop off) else none
 |_=>none
@[simp] theorem BDU(g g' off:Nat)(cs:List V):cb g off (some (g',.box cs))=if g'=g then some (cs.drop off) else none:=rfl
def ce(g i off:Nat):Option (Nat×A1)->Option (List V)
 |some (g',.vec _ es)=>if g'=g then(es[i]?).map (·.drop off) else none
 |_=>none
@[simp] theorem BDV(g g' i off:Nat)(T:bp)(es:List (List V)):ce g i off (some (g',.vec T es))=if g'=g then(es[i]?).map (·.drop off) else none:=rfl
@[simp] theorem AR7(cs:List V):BE s (.ref cs)=some cs:=rfl
@[simp] theorem AR8(l k g off:Nat):BE s (.ptr l k g off)=cb g off (s.get l k):=by
 unfold cb;simp only[BE];cases s.get l k with
 |none=>rfl
 |some z=>obtain⟨g',r⟩:=z;cases r<;>rfl
@[simp] theorem AOR(l k g i off:Nat):BE s (.eptr l k g i off)=ce g i off (s.get l k):=by
 unfold ce;simp only[BE];cases s.get l k with
 |none=>rfl
 |some z=>obtain⟨g',r⟩:=z;cases r<;>rfl
def iv(P:ck)(e:bp)(l k g n:Nat)(j:Int):Option (Nat×A1)->Option V
 |some (g',.vec _ es)=>if g'=g/\0<=j/\j<n/\n<=es.length/\(es.getD j.toNat []).length=P.cellsOf e/\0<P.cellsOf e then some (.eptr l k g j.toNat 0) else none
 |_=>none
@[simp] theorem BDW(e:bp)(l k g g' n:Nat)(j:Int)(T:bp)(es:List (List V)):iv P e l k g n j (some (g',.vec T es))=if g'=g/\0<=j/\j<n/\n<=es.length/\(es.getD j.toNat []).length=P.cellsOf e/\0<P.cellsOf e then some (.eptr l k g j.toNat 0) else none:=rfl
def ia(P:ck)(s:St)(x i:V):Option (Option Nat×bp)->Option V
 |some (none,e)=>match x,i with
  |.list _ es,.int _ j=>if 0<=j/\j<es.length/\(es.getD j.toNat []).length=P.cellsOf e/\0<P.cellsOf e then some (.ref (es.getD j.toNat [])) else none
  |.vec l k g n,.int _ j=>iv P e l k g n j (s.get l k)
  |_,_=>none
 |some (some n,e)=>match x,i with
  |.ref cs,.int _ j=>if 0<=j/\j<n/\0<P.cellsOf e then some (.ref (cs.drop (j.toNat*P.cellsOf e))) else none
  |.ptr l k g o,.int _ j=>if 0<=j/\j<n/\0<P.cellsOf e then some (.ptr l k g (o+j.toNat*P.cellsOf e)) else none
  |.eptr l k g i' o,.int _ j=>if 0<=j/\j<n/\0<P.cellsOf e then some (.eptr l k g i' (o+j.toNat*P.cellsOf e)) else none
  |_,_=>none
 |none=>none
@[simp] theorem BDX(T:bp)(x i:V):BV P s T x i=ia P s x i (BW P T):=by
 unfold BV ia;cases BW P T with
 |none=>rfl
 |some z=>
  obtain⟨n,e⟩:=z
  cases n with
  |some n=>cases x<;>cases i<;>rfl
  |none=>
   cases x with
   |vec l k g n=>
    cases i with
    |int q j=>
     simp only[iv]
     cases s.get l k with
     |none=>rfl
     |some z=>obtain⟨g',r⟩:=z;cases r<;>rfl
    |_=>rfl
   |_=>cases i<;>rfl
@[simp] theorem BDY(e:bp)(b:Bool)(es:List (List V))(k:cz)(j:Int):ia P s (.list b es) (.int k j) (some (none,e))=if 0<=j/\j<es.length/\(es.getD j.toNat []).length=P.cellsOf e/\0<P.cellsOf e then some (.ref (es.getD j.toNat [])) else none:=rfl
@[simp] theorem BIC(e:bp)(l q g n:Nat)(k:cz)(j:Int):ia P s (.vec l q g n) (.int k j) (some (none,e))=iv P e l q g n j (s.get l q):=rfl
@[simp] theorem BID(n:Nat)(e:bp)(cs:List V)(k:cz)(j:Int):ia P s (.ref cs) (.int k j) (some (some n,e))=if 0<=j/\j<n/\0<P.cellsOf e then some (.ref (cs.drop (j.toNat*P.cellsOf e))) else none:=rfl
@[simp] theorem BIE(n:Nat)(e:bp)(l q g o:Nat)(k:cz)(j:Int):ia P s (.ptr l q g o) (.int k j) (some (some n,e))=if 0<=j/\j<n/\0<P.cellsOf e then some (.ptr l q g (o+j.toNat*P.cellsOf e)) else none:=rfl
theorem P3{T:bp}(h:D3 P T=true):∃e,P.underlying T=some (.slice e):=by
 unfold D3 at h;split at h
 ·rename_i e he;exact⟨e,he⟩
 ·cases h
@[simp] theorem vV{T:bp}(h:D3 P T=true)(b:Bool)(es:List (List V)):IA P T (.list b es)=some (.int .i64 es.length):=by obtain⟨e,he⟩:=P3 h;simp[IA,he]
@[simp] theorem A17{T:bp}(h:D3 P T=true)(l k g n:Nat):IA P T (.vec l k g n)=some (.int .i64 n):=by obtain⟨e,he⟩:=P3 h;simp[IA,he]
@[simp] theorem ADC{T:bp}(h:D3 P T=true):IA P T .nil=some (.int .i64 0):=by obtain⟨e,he⟩:=P3 h;simp[IA,he]
def fv(place:Nat->Option (Nat×Nat))(cs:List V)(v:V)(rest:List (Nat×V)):Option (Nat×Nat)->Option (List V)
 |none=>none
 |some (off,size)=>if (BG v).length=size/\off+(BG v).length<=cs.length then DB place (A8 cs off (BG v)) rest else none
@[simp] theorem A18(place:Nat->Option (Nat×Nat))(cs:List V):DB place cs []=some cs:=rfl
@[simp] theorem AXT(place:Nat->Option (Nat×Nat))(cs:List V)(i:Nat)(v:V)(rest:List (Nat×V)):DB place cs ((i,v)::rest)=fv place cs v rest (place i):=by simp only[DB];unfold fv;cases place i<;>rfl
@[simp] theorem BDZ(place:Nat->Option (Nat×Nat))(cs:List V)(v:V)(rest:List (Nat×V))(off size:Nat):fv place cs v rest (some (off,size))=if (BG v).length=size/\off+(BG v).length<=cs.length then DB place (A8 cs off (BG v)) rest else none:=rfl
attribute [simp] A8
@[simp] theorem AR9(size:Nat)(cs:List V):CT size cs 0=[]:=rfl
@[simp] theorem ASA(size:Nat)(cs:List V)(n:Nat):CT size cs (n+1)=cs.take size::CT size (cs.drop size) n:=rfl
def ch1(size len:Nat):Option (List V)->Option V
 |some cs=>some (.list true (CT size cs len))
 |none=>none
@[simp] theorem BAF(size len:Nat)(cs:List V):ch1 size len (some cs)=some (.list true (CT size cs len)):=rfl
def bsz(P:ck)(e:bp)(len:Nat)(parts:List (Nat×V)):Option (List V)->Option V
 |some z=>if (parts.all fun p=>BH p.2)=true/\z.length=P.cellsOf e/\0<P.cellsOf e/\len*P.cellsOf e<=2 ^ 24 then
   ch1 (P.cellsOf e) len (DB (fun i=>some (i*P.cellsOf e,P.cellsOf e)) (bc len z).flatten parts) else none
 |none=>none
@[simp] theorem BAG(e:bp)(len:Nat)(parts:List (Nat×V))(z:List V):bsz P e len parts (some z)=if (parts.all fun p=>BH p.2)=true/\z.length=P.cellsOf e/\0<P.cellsOf e/\len*P.cellsOf e<=2 ^ 24 then
   ch1 (P.cellsOf e) len (DB (fun i=>some (i*P.cellsOf e,P.cellsOf e)) (bc len z).flatten parts) else none:=rfl
def bsl(P:ck)(len:Nat)(parts:List (Nat×V)):Option (Option Nat×bp)->Option V
 |some (none,e)=>bsz P e len parts (B9 P e)
 |_=>none
@[simp] theorem BAH(e:bp)(len:Nat)(parts:List (Nat×V)):bsl P len parts (some (none,e))=bsz P e len parts (B9 P e):=rfl
@[simp] theorem BD1(T:bp)(len:Nat)(parts:List (Nat×V)):CE P T len parts=bsl P len parts (BW P T):=by
 unfold CE bsl;cases BW P T with
 |none=>rfl
 |some z=>
  obtain⟨n,e⟩:=z
  cases n with
  |some n=>rfl
  |none=>
   simp only[bsz]
   cases B9 P e with
   |none=>rfl
   |some z=>
    simp only
    split
    ·cases DB (fun i=>some (i*P.cellsOf e,P.cellsOf e)) (bc len z).flatten parts<;>rfl
    ·rfl
def fn2(f:cx):Option (List V)->Option (List V)->Option V
 |some a,some b=>some (.fn f a b)
 |_,_=>none
@[simp] theorem BAI(f:cx)(a b:List V):fn2 f (some a) (some b)=some (.fn f a b):=rfl
@[simp] theorem BIH(f:cx)(x y:Array cj)(r:cj->Option V):J2 P (sO (.makeFunc (.func f) x y)) s r=fn2 f (GV r x.toList) (GV r y.toList):=by show((x.toList.mapM r).bind fun a=>(y.toList.mapM r).bind fun b=>some (V.fn f a b))=_;rw[<-LH,<-LH];cases GV r x.toList<;>cases GV r y.toList<;>rfl
@[simp] theorem BD3(x y:cj)(Ts:Array bp)(r:cj->Option V):J2 P (sO (.call ⟨.builtin .max,#[x,y],Ts⟩)) s r=o2 UO (r x) (r y):=lR _ _ _
@[simp] theorem BD4(x y:cj)(Ts:Array bp)(r:cj->Option V):J2 P (sO (.call ⟨.builtin .min,#[x,y],Ts⟩)) s r=o2 UP (r x) (r y):=lR _ _ _
@[simp] theorem A19(k j:cz)(m n:Int):UO (.int k m) (.int j n)=if k=j then some (.int k (if n>m then n else m)) else none:=rfl
@[simp] theorem A2A(k j:cz)(m n:Int):UP (.int k m) (.int j n)=if k=j then some (.int k (if n<m then n else m)) else none:=rfl
theorem BZ{e:bp}{n:Nat}{ys:List (List V)}(hc:0<P.cellsOf e)(hz:YL P e=true):B5 P e n ys=true↔(ys.all (fun y=>y.length==P.cellsOf e)=true/\n+ys.length<=maxLen/\(n+ys.length)*P.bytesOf e<=140737488355328):=by simp[B5,hc,hz,and_assoc]
end Go.Pg
namespace Go.Pg
variable {P:ck}{E:XE}{st:XS}{fr:Fr}{s:St}
theorem AN{P:ck}{kn:CF0}{rec:HC}{f:cx}{args:List V}(h:kn f args=none):AY P kn rec f args=E2 P rec f args:=by unfold AY;rw[h]
def pv(k γ:Nat):List (List V)->V
 |[]=>.nil
 |e::es=>.vec 0 k γ (e::es).length
def pl(k γ:Nat)(T:bp):List (List V)->AA
 |[]=>[]
 |e::es=>[(k,γ,.vec T (e::es))]
def sl:List (List V)->V
 |[]=>.nil
 |e::es=>.list false (e::es)
@[simp] theorem BII(k γ:Nat):pv k γ []=.nil:=rfl
@[simp] theorem BIJ(k γ:Nat)(T:bp):pl k γ T []=[]:=rfl
@[simp] theorem BD5(k γ:Nat)(T:bp)(es:List (List V))(y:List V)(ys:List (List V)):pl k γ T (es++y::ys)=[(k,γ,.vec T (es++y::ys))]:=by cases es<;>rfl
@[simp] theorem BD6(k γ:Nat)(T:bp)(y:List V)(ys:List (List V)):pl k γ T (y::ys)=[(k,γ,.vec T (y::ys))]:=rfl
@[simp] theorem BLO(k γ:Nat)(T:bp)(es:List (List V)):kl k [] ((pl k γ T es).get k)=pl k γ T es:=by
 cases es with
 |nil=>rfl
 |cons e es=>simp
@[simp] theorem BAJ{k j:Nat}(γ:Nat)(T:bp)(es:List (List V))(h:j≠k):(pl k γ T es).get j=none:=by
 cases es with
 |nil=>rfl
 |cons e es=>simp[h]
@[simp] theorem AXU(e k c γ:Nat)(loc:AA)(es:List (List V))(y:List V)(ys:List (List V))(hl:AA.get loc k=(pl k γ e es).get k)(h1:es.all (fun y=>y.length==P.cellsOf e)=true)(h2:B5 P e es.length (y::ys)=true) :
  apV P e k c fr ⟨[],loc⟩ (pv k γ es) (y::ys)=some ⟨c+1,(k,true,pv k c (es++y::ys))::fr,⟨[],(k,c,.vec e (es++y::ys))::loc⟩⟩:=by
 cases es with
 |nil=>
  simp only[bq]at h2
  simp[h2,pv]
 |cons z es=>
  have hl:AA.get loc k=some (γ,.vec e (z::es)):=by rw[hl];simp
  simp only[pv,AOM,AJL,bq,if_true,hl,rM,WG,VN,true_and,h1,h2]
  simp[Nat.add_comm,Nat.add_left_comm]
theorem QS{T:bp}(f:Nat)(loc:AA)(k γ:Nat)(es:List (List V))(hl:AA.get loc k=(pl k γ T es).get k):A7 ⟨[],loc⟩ (f+1) (pv k γ es)=some (sl es):=by
 cases es with
 |nil=>rfl
 |cons z es=>
  have hl:AA.get loc k=some (γ,.vec T (z::es)):=by rw[hl];simp
  simp only[pv,eF,bq,if_true,hl,AJM,sl]
  simp
@[simp] theorem A2B(f k γ:Nat)(T:bp)(es:List (List V)):A7 ⟨[],pl k γ T es⟩ (f+1) (pv k γ es)=some (sl es):=QS (T:=T) f _ k γ es rfl
@[simp] theorem BAK{T:bp}(h:D3 P T=true)(es:List (List V)):IA P T (sl es)=some (.int .i64 es.length):=by
 cases es with
 |nil=>exact ADC h
 |cons e es=>exact vV h _ _
@[simp] theorem jE(f:Nat)(es:List (List V)):AG (f+1) (sl es)=es.all fun e=>e.all (AG f):=by cases es<;>rfl
@[simp] theorem BAL(es:List (List V)):weakN (sl es)=.list false es:=by cases es<;>rfl
@[simp] theorem BAM(es:List (List V)):weakM (sl es)=.list false es:=by cases es<;>rfl
@[simp] theorem BD7(es:List (List V)):weakV (sl es)=sl es:=by cases es<;>rfl
@[simp] theorem BAN(es:List (List V)):weakC (sl es)=sl es:=by cases es<;>rfl
@[simp] theorem A2C(es:List (List V)):BG (sl es)=[sl es]:=by cases es<;>rfl
@[simp] theorem A2D(es:List (List V)):BH (sl es)=true:=by cases es<;>rfl
@[simp] theorem A2E(k γ:Nat)(es:List (List V)):BG (pv k γ es)=[pv k γ es]:=by cases es<;>rfl
@[simp] theorem A2F(k γ:Nat)(es:List (List V)):BH (pv k γ es)=true:=by cases es<;>rfl
@[simp] theorem A2G(f:Nat)(es:List (List V)):A7 s (f+1) (sl es)=some (sl es):=by cases es<;>rfl
def adV(P:ck)(e:bp)(d c:Nat)(fr:Fr)(s:St)(xv:V)(ys:List (List V)):Option (XS×AM):=match I9 xv ys with
 |some es=>if es.all (fun y=>y.length==P.cellsOf e)=true/\B5 P e es.length ys=true then some (⟨c+1,(d,true,.vec s.up.length d c (es.length+ys.length))::fr,s.put s.up.length d c (.vec e (es++ys))⟩,[(s.up.length,d),(s.up.length,d+MO)]) else none
 |none=>match xv with
  |.vec l q γ n=>wp [(l,q),(l,q+MO)] (apW P e d c fr s l q γ n ys (US n ys (s.get l q)))
  |_=>none
def ad4(P:ck)(e:bp)(d c:Nat)(fr:Fr)(s:St)(xv:V):Option (List (List V))->Option (XS×AM)
 |some ys=>adV P e d c fr s xv ys
 |none=>none
@[simp] theorem AJN(e:bp)(d c:Nat)(xv:V)(ys:List (List V)):ad4 P e d c fr s xv (some ys)=adV P e d c fr s xv ys:=rfl
def ad3(P:ck)(d c:Nat)(fr:Fr)(s:St):Option (Option Nat×bp)->Option V->Option V->Option (XS×AM)
 |some (none,e),some xv,some yv=>ad4 P e d c fr s xv (elemsOf s yv)
 |_,_,_=>none
@[simp] theorem AJO(d c:Nat)(e:bp)(xv yv:V):ad3 P d c fr s (some (none,e)) (some xv) (some yv)=ad4 P e d c fr s xv (elemsOf s yv):=rfl
@[simp] theorem A2H(d:Tmp)(c:Nat)(x y:cj)(T:bp):DW P E (some d) (.app [x,y] [T,T]) ⟨c,fr,s⟩=ad3 P d c fr s (BW P T) (CX fr x) (CX fr y):=by
 show xAppD P (some d) [x,y] [T,T] _=_;unfold xAppD xAppG;simp only[Nat.beq_refl];cases hT:BW P T with
 |none=>cases CX fr x<;>cases CX fr y<;>rfl
 |some p=>
  obtain⟨k,e⟩:=p
  cases k with
  |some k=>cases CX fr x<;>cases CX fr y<;>rfl
  |none=>
   cases CX fr x with
   |none=>rfl
   |some xv=>
    cases CX fr y with
    |none=>rfl
    |some yv=>
     simp only[AJO]
     cases elemsOf s yv with
     |none=>rfl
     |some ys=>
      simp only[AJN,adV]
      cases I9 xv ys with
      |some es=>
       simp only[ifB,bj,bk]
       by_cases hC:es.all (fun y=>y.length==P.cellsOf e)=true/\B5 P e es.length ys=true
       ·rw[if_pos hC,if_pos hC]
       ·rw[if_neg hC,if_neg hC]
      |none=>
       simp only
       unfold pU
       cases xv with
       |vec l q γ n=>
        simp only
        cases US n ys (s.get l q)with
        |none=>rfl
        |some z=>
         obtain⟨γ',r⟩:=z
         cases r with
         |vec W es=>
          simp only[ifB,bj,bk,VN,bg,and_assoc]
          by_cases hC:γ'=γ/\W=e/\n=es.length/\es.all (fun y=>y.length==P.cellsOf e)=true/\B5 P e es.length ys=true
          ·rw[if_pos hC,if_pos hC];rfl
          ·rw[if_neg hC,if_neg hC];rfl
         |_=>rfl
       |_=>rfl
@[simp] theorem BIL(e k c γ:Nat)(loc:AA)(es:List (List V))(y:List V)(ys:List (List V))(hl:AA.get loc k=(pl k γ e es).get k)(h1:es.all (fun y=>y.length==P.cellsOf e)=true)(h2:B5 P e es.length (y::ys)=true) :
  adV P e k c fr ⟨[],loc⟩ (pv k γ es) (y::ys)=some (⟨c+1,(k,true,pv k c (es++y::ys))::fr,⟨[],(k,c,.vec e (es++y::ys))::loc⟩⟩,[(0,k),(0,k+MO)]):=by
 cases es with
 |nil=>
  simp only[bq]at h2
  simp[adV,I9,h2,pv]
 |cons z es=>
  have hl:AA.get loc k=some (γ,.vec e (z::es)):=by rw[hl];simp
  simp only[pv,adV,I9,AJL,bq,if_true,hl,rM,WG,VN,true_and,h1,h2]
  simp[Nat.add_comm,Nat.add_left_comm]
end Go.Pg
namespace Go.Pg
variable {P:ck}{E:XE}{st:XS}{fr:Fr}{s:St}
theorem vW{α:Type}(x:α):CJ [x]=some ([],x):=rfl
def un1{α:Type}(x:α):Option (List α×α)->Option (List α×α)
 |some (a,b)=>some (x::a,b)
 |none=>none
@[simp] theorem BAO{α:Type}(x:α)(a:List α)(b:α):un1 x (some (a,b))=some (x::a,b):=rfl
theorem YD{α:Type}(x y:α)(l:List α):CJ (x::y::l)=un1 x (CJ (y::l)):=by simp only[CJ];unfold un1;cases CJ (y::l)<;>rfl
attribute [simp] vW YD
def eG(d:Option Tmp)(fr:Fr)(c:Nat)(r:V):Option (List AA×AA)->Option XS
 |some (u,l)=>some ⟨c,putD fr d true r,⟨u,l⟩⟩
 |none=>none
@[simp] theorem A2I(d:Tmp)(c:Nat)(r:V)(u:List AA)(l:AA):eG (some d) fr c r (some (u,l))=some ⟨c,(d,true,r)::fr,⟨u,l⟩⟩:=rfl
@[simp] theorem BD8(c:Nat)(r:V)(u:List AA)(l:AA):eG none fr c r (some (u,l))=some ⟨c,fr,⟨u,l⟩⟩:=rfl
def rQ(d:Option Tmp)(fr:Fr)(st:XS):Option V->Option XS
 |some r=>eG d fr st.c r (CJ (st.s.up.map (AH st.s)))
 |none=>none
@[simp] theorem A2J(d:Option Tmp)(c:Nat)(fr':Fr)(up:List AA)(loc:AA)(r:V):rQ d fr ⟨c,fr',⟨up,loc⟩⟩ (some r)=eG d fr c r (CJ (up.map (AH ⟨up,loc⟩))):=rfl
def clX(s:St):Option V->Option V
 |some r=>A7 s 4 r
 |none=>none
@[simp] theorem BAP(r:V):clX s (some r)=A7 s 4 r:=rfl
def lT(P:ck)(d:Option Tmp)(fr:Fr)(rs:List ResultVar)(r:Option (Exit×XS)):Option XS:=match r with
 |some (.ret,st)=>rQ d fr st (clX st.s (GD P rs st.fr st.s))
 |some (.normal,st)=>rQ d fr st (clX st.s (GD P rs st.fr st.s))
 |_=>none
@[simp] theorem AJP(d:Option Tmp)(rs:List ResultVar):lT P d fr rs (some (.ret,st))=rQ d fr st (clX st.s (GD P rs st.fr st.s)):=rfl
@[simp] theorem rR(d:Option Tmp)(rs:List ResultVar):lT P d fr rs (some (.normal,st))=rQ d fr st (clX st.s (GD P rs st.fr st.s)):=rfl
theorem rS{A:Ann}{kn:CF0}{n:Nat}{f:cx}{fn:Func}{code:cw}{args:List V}(hf:P.funcs[f]? = some fn)(hb:fn.body=some code)(hs:bm args.length fn.ntmps=true)(hcl:(args.all (AG 9)&&!(BI P f))=false)(d:Option Tmp)(c:Nat)(fr:Fr)(up:List AA)(loc:AA) :
  GW (BT P A kn n) d ⟨c,fr,⟨up,loc⟩⟩ f args=lT P d fr fn.results.toList (AE P A kn n fn.ntmps code ⟨c,AF 0 args,⟨up++[loc],[]⟩⟩):=by
 show(match cW P kn (AE P A kn n) f args ⟨c,fr,⟨up,loc⟩⟩ with
  |some (r,st')=>some (⟨st'.c,putD st'.fr d true r,st'.s⟩:XS)
  | none=>none)=_
 unfold cW
 rw[hcl]
 unfold iK cV yQ
 rw[hf]
 simp only[hb,hs]
 generalize AE P A kn n fn.ntmps code ⟨c,AF 0 args,⟨up++[loc],[]⟩⟩=q
 have aux:∀st:XS,(match(match(match ACK P fn.results.toList st with
   |some (r,c,up)=>match CJ up with
    |some (u,l)=>some (r,(⟨c,fr,⟨u,l⟩⟩:XS))
    |none=>none
   | none=>none:Option (V×XS))with
   |some r=>some r
   | none=>none:Option (V×XS))with
  |some (r,st')=>some (⟨st'.c,putD st'.fr d true r,st'.s⟩:XS)
  | none=>none)=rQ d fr st (clX st.s (GD P fn.results.toList st.fr st.s)):=fun st=>by
  unfold ACK clX
  cases GD P fn.results.toList st.fr st.s with
  |none=>rfl
  |some r=>
   cases h:A7 st.s 4 r with
   |none=>simp[rQ,h]
   |some r'=>
    simp only[h,rQ]
    cases CJ (st.s.up.map (AH st.s))with
    |none=>rfl
    |some z=>rfl
 cases q with
 |none=>rfl
 |some q=>
  obtain⟨e,st⟩:=q
  have:=aux st
  cases e with
  |ret=>simp only[AJP,<-this];cases ACK P fn.results.toList st with
   |none=>rfl
   |some z=>
    obtain⟨r,c,up⟩:=z
    simp only
    cases CJ up<;>rfl
  |normal=>simp only[rR,<-this];cases ACK P fn.results.toList st with
   |none=>rfl
   |some z=>
    obtain⟨r,c,up⟩:=z
    simp only
    cases CJ up<;>rfl
  |_=>rfl
theorem A9{A:Ann}{kn:CF0}{n:Nat}{f:cx}{fn:Func}{code:cw}{args:List V}(hf:P.funcs[f]? = some fn)(hb:fn.body=some code)(hs:bm args.length fn.ntmps=true)(hcl:args.all (AG 9)=false)(d:Option Tmp)(c:Nat)(fr:Fr)(up:List AA)(loc:AA) :
  GW (BT P A kn n) d ⟨c,fr,⟨up,loc⟩⟩ f args=lT P d fr fn.results.toList (AE P A kn n fn.ntmps code ⟨c,AF 0 args,⟨up++[loc],[]⟩⟩) :=
 rS hf hb hs (by rw[hcl,Bool.false_and]) d c fr up loc
theorem zY{A:Ann}{kn:CF0}{n:Nat}{f:cx}{fn:Func}{code:cw}{args:List V}(hf:P.funcs[f]? = some fn)(hb:fn.body=some code)(hs:bm args.length fn.ntmps=true)(hh:BI P f=true)(d:Option Tmp)(c:Nat)(fr:Fr)(up:List AA)(loc:AA) :
  GW (BT P A kn n) d ⟨c,fr,⟨up,loc⟩⟩ f args=lT P d fr fn.results.toList (AE P A kn n fn.ntmps code ⟨c,AF 0 args,⟨up++[loc],[]⟩⟩) :=
 rS hf hb hs (by rw[hh,Bool.not_true,Bool.and_false]) d c fr up loc
@[simp] theorem AXW(f l k g o:Nat):AG (f+1) (.ptr l k g o)=false:=rfl
@[simp] theorem AXX(f l k g o:Nat):AG (f+1) (.vec l k g o)=false:=rfl
@[simp] theorem BAQ(l k g o:Nat):weakV (.ptr l k g o)=.ptr l k g o:=rfl
@[simp] theorem BAR(l k g o:Nat):weakV (.vec l k g o)=.vec l k g o:=rfl
@[simp] theorem BAS(cs:List V):weakV (.ref cs)=.ref cs:=rfl
@[simp] theorem BIN(d c:Nat)(f:cx)(x y:List V):bx1 d c fr s (some (.fn f x y))=some ⟨c+1,(d,true,.ptr s.up.length d c 0)::fr,s.put s.up.length d c (.box [.fn f x y])⟩:=rfl
@[simp] theorem BD9(d c:Nat)(l k g o:Nat):bx1 d c fr s (some (.ptr l k g o))=some ⟨c+1,(d,true,.ptr s.up.length d c 0)::fr,s.put s.up.length d c (.box [.ptr l k g o])⟩:=rfl
@[simp] theorem FH:AH s []=[]:=rfl
@[simp] theorem BC(k g:Nat)(r:A1)(L:AA):AH s ((k,g,r)::L)=(k,g,CW s r)::AH s L:=rfl
def sr1(r:A1):Option (List V)->A1
 |some ds=>.box ds
 |none=>r
@[simp] theorem BAT(r:A1)(ds:List V):sr1 r (some ds)=.box ds:=rfl
theorem E9(cs:List V):CW s (.box cs)=sr1 (.box cs) (HA (B8 s) cs):=by unfold CW CC sr1;simp only;cases HA (B8 s) cs<;>rfl
attribute [simp] E9
theorem vX(f:V->Option V):HA f []=some []:=rfl
theorem rT(f:V->Option V)(v:V)(l:List V):HA f (v::l)=mc2 (f v) (HA f l):=by
 simp only[HA];cases f v with
 |none=>rfl
 |some x=>cases HA f l<;>rfl
attribute [simp] vX rT
@[simp] theorem ASB(k:cz)(n:Int):B8 s (.int k n)=some (.int k n):=rfl
@[simp] theorem AOS(b:Bool):B8 s (.bool b)=some (.bool b):=rfl
@[simp] theorem AOT(b:Bool)(es:List (List V)):B8 s (.list b es)=some (.list b es):=rfl
@[simp] theorem ASC:B8 s .nil=some .nil:=rfl
@[simp] theorem AXY(f:cx)(x y:List V):B8 s (.fn f x y)=A7 s 4 (.fn f x y):=rfl
@[simp] theorem ASD(l k g o:Nat):B8 s (.ptr l k g o)=A7 s 4 (.ptr l k g o):=rfl
@[simp] theorem rU(l k g o:Nat):B8 s (.vec l k g o)=A7 s 4 (.vec l k g o):=rfl
@[simp] theorem A2K(f:Nat)(g:cx)(x y:List V):A7 s (f+1) (.fn g x y)=fn2 g (Q7 (A7 s f) x) (Q7 (A7 s f) y):=by simp only[A7,VP,fn2];cases Q7 (A7 s f) x<;>cases Q7 (A7 s f) y<;>rfl
def cp1(f:List V->Option (List V))(g off:Nat):Option (Nat×A1)->Option V
 |some (g',.box cs)=>if g'=g then(f cs).map fun ds=>.ref (ds.drop off) else none
 |_=>none
@[simp] theorem AXZ(f:Nat)(up:List AA)(loc:AA)(l k g off:Nat):A7 ⟨up,loc⟩ (f+1) (.ptr l k g off)=if l=up.length then cp1 (Q7 (A7 ⟨up,loc⟩ f)) g off (loc.get k) else some (.ptr l k g off):=by
 simp only[A7,VP];split
 ·cases loc.get k with
  |none=>rfl
  |some z=>obtain⟨g',r⟩:=z;cases r<;>rfl
 ·rfl
end Go.Pg
theorem Go.Pg.qNz (m:Nat)(h:0<m):∃k,m=k+1:=⟨m-1,by omega⟩
