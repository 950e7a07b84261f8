/- Operations of a region with all that hangs on the region alone worked out; running them one after another. No program in sight. -/
import Derived.Test.YthhdhbalenanjaaGreatQ2
noncomputable section
open Go renaming TypeId->bp,Operand->cj,Program->ck,Oper->cq,Code->cw,IntKind->cx,FuncId->cz
open Bool renaming and_eq_true->bj
open List renaming length_nil->bk,length_append->bq,getElem?_eq_getElem->bw,mapM_cons->bz,all_cons->bb,replicate->bc,mapM_nil->bh
open Nat renaming beq->bx,blt_eq->bf,beq_eq->bg,ble->bm,blt->bn
namespace Go.Pg
variable {P:ck}{E:XE}
inductive IK where
 |mv (x:cj)
 |bin (op:BinOp) (T:bp) (x y:cj)
 |fa (T:bp) (x:cj) (f:Nat)
 |ld (T:bp) (x:cj)
 |ldz (T:bp) (x:cj)
 |pick (c a b:cj)
 |build (T:bp) (ps:List (Nat×cj))
 |buildS (T:bp) (n:Nat) (ps:List (Nat×cj))
 |oth (op:Op)
 |alloc (T:bp)
 |box (x:cj)
 |mkM (r:Option cj)
 |mkS (T:bp) (x y:cj)
 |sto (T:bp) (x y:cj)
 |upd (T:bp) (x i y:cj)
 |call (own:Bool) (tk:Option Tmp) (f:cj) (args:List cj)
 |app (args:List cj) (Ts:List bp)
 |clr (args:List cj) (Ts:List bp)
 |cpy (args:List cj) (Ts:List bp)
def mG (op : Op) : cq := { dst := none, op := op, type := 0, pos := "", after := #[], guard := none }
def AIT(all:List cq):List cj->Option Tmp
 |[]=>none
 |x::r=>match x with
  |.tmp t=>cond (ANF all t) (some t) (AIT all r)
  |_=>AIT all r
def OG(all:List cq)(o:cq):IK:=match o.op with
 |.move x=>.mv x
 |.assign x=>.mv x
 |.binOp op T x y _=>.bin op T x y
 |.fieldAddr T x f=>.fa T x f
 |.load T x=>.ld T x
 |.pick c a b=>.pick c a b
 |.build T ps=>.build T ps.toList
 |.buildSlice T n ps=>.buildS T n ps.toList
 |.alloc T=>.alloc T
 |.box _ x=>.box x
 |.makeMap _ r=>.mkM r
 |.makeSlice T x y=>.mkS T x y
 |.store T x y=>.sto T x y
 |.mapUpdate T x i y=>.upd T x i y
 |.call c=>match c.callee with
  |.value f=>.call (DY all o) (AIT all c.args.toList) f c.args.toList
  |.builtin .append=>.app c.args.toList c.argTypes.toList
  |.builtin .clear=>.clr c.args.toList c.argTypes.toList
  |.builtin .copy=>.cpy c.args.toList c.argTypes.toList
  |_=>.oth o.op
 |op=>.oth op
structure JO where
 g:Option (Tmp×Bool)
 d:Option Tmp
 k:IK
def comp(all:List cq)(o:cq):JO:=⟨L8 all o,o.dst,OG all o⟩
def AIU:IK->IK
 |.ld T x=>.ldz T x
 |k=>k
def iX(all:List cq)(o:cq):JO:=⟨L8 all o,o.dst,cond (zB all o) (AIU (OG all o)) (OG all o)⟩
def EL(d:Option Tmp)(st:XS)(r:Option V):Option XS:=match r with
 |some v=>some ⟨st.c,putD st.fr d true v,st.s⟩
 |none=>none
def ARQ(tk:Option Tmp)(st:XS):XS:=match tk with
 |none=>st
 | some t=>match(match BC st.fr t with
   |some (true,.vec l q γ n)=>match st.s.get l q with
    |some (γ',.vec _ es)=>Bool.rec none (some ⟨st.c,(t,true,.list false (es.take n))::st.fr,st.s.put l q γ .dead⟩) (bx γ' γ&&bm n es.length&&bn γ st.c)
    |_=>none
   | _=>none:Option XS)with
  |some st1=>st1
  |none=>st
def C7(P:ck)(E:XE)(d:Option Tmp)(k:IK)(st:XS):Option XS:=match k with
 |.mv x=>EL d st (CP st.fr x)
 |.bin op T x y=>EL d st (ACE P st.fr op T x y)
 |.fa T x f=>EL d st (xFA P st.fr T x f)
 |.ld T x=>EL d st (OD P st.fr st.s T x)
 |.ldz T x=>EL d st (OD P st.fr st.s T x)
 |.pick c a b=>EL d st (yI st.fr c a b)
 |.build T ps=>EL d st (WV P st.fr T ps)
 |.buildS T n ps=>EL d st (QL P st.fr T n ps)
 |.oth op=>EL d st (JT P (mG op) st.s (CP st.fr))
 |.alloc T=>PQ P d T st
 |.box x=>pP d x st
 |.mkM r=>ACA d r st
 |.mkS T x y=>X7 P d T x y st
 |.sto T x y=>JW P d T x y st
 |.upd T x i y=>ACB P d T x i y st
 |.call own tk f args=>cN E own d f args (ARQ tk st)
 |.app args Ts=>xAppend P d args Ts st
 |.clr args Ts=>kM P d args Ts st
 |.cpy args Ts=>yK P d args Ts st
def opI(P:ck)(E:XE)(i:JO)(st:XS):Option XS:=match gdX st.fr i.g with
 |some true=>C7 P E i.d i.k st
 |some false=>some (IJ i.d st)
 |none=>none
def opO(P:ck)(E:XE)(i:JO)(r:Option XS):Option XS:=match r with
 |some st=>opI P E i st
 |none=>none
def PZ(P:ck)(E:XE):List JO->Option XS->Option XS
 |[],r=>r
 |i::l,r=>PZ P E l (opO P E i r)
theorem dX(all:List cq)(st:XS):∀(xs:List cj),(match NU all st xs with
  |some st1=>st1
  | none=>st)=ARQ (AIT all xs) st
 |[]=>rfl
 |x::r=>by
  unfold NU AIT;cases x with
  |tmp t=>
   simp only
   cases ANF all t with
   |false=>exact dX all st r
   |true=>rfl
  |_=>exact dX all st r
theorem A92{o:cq}{st:XS}:AG6 P (fun _=>false) o st=none:=by unfold AG6;split<;>rfl
theorem AIV(hl:E.lit=fun _=>false)(all:List cq)(o:cq)(st:XS):opX P E all o st=opI P E (comp all o) st:=by
 unfold opX opI;rw[hl];simp only[A92];have:(match AG7 all o st with
   |some st1=>RI P E (DY all) o st1
   | none=>RI P E (DY all) o st)=C7 P E o.dst (OG all o) st:=by
  have ht:∀(r:Option XS),(match r with
   |some st1=>RI P E (DY all) o st1
   | none=>RI P E (DY all) o st)=RI P E (DY all) o (match r with
   |some st1=>st1
   | none=>st):=fun r=>by cases r <;> rfl
  rw[ht]
  obtain⟨d,op,T,pos,af,gd⟩:=o
  cases op with
  |call c=>
   obtain⟨cal,args,Ts⟩:=c
   cases cal with
   |value f=>
    show RI P E _ _ (match NU all st args.toList with|some st1=>st1|none=>st)=_
    rw[dX]
    rfl
   |builtin b=>cases b<;>rfl
   |_=>rfl
  |_=>rfl
 show _=(match gdX st.fr (L8 all o)with
  |some true=>C7 P E o.dst (OG all o) st
  |some false=>some (IJ o.dst st)
  | none=>none)
 cases gdX st.fr (L8 all o)with
 |none=>rfl
 |some b=>
  cases b with
  |false=>rfl
  |true=>exact this
theorem I3:∀(l:List JO),PZ P E l none=none
 |[]=>rfl
 |_::l=>I3 l
theorem zN(hl:E.lit=fun _=>false)(all:List cq):∀(l:List cq) (st:XS),kQ P E all l st=PZ P E (l.map (comp all)) (some st)
 |[],st=>rfl
 |o::l,st=>by
  simp only[kQ,List.map_cons,PZ,opO];rw[AIV hl];cases opI P E (comp all o) st with
  |none=>exact(I3 _).symm
  |some st'=>exact zN hl all l st'
def IC(P:ck)(k:IK)(r:cj->Option V):AM:=match k with
 |.ld T x=>BV (bx (P.cellsOf T) 1) (r x)
 |.app xs _=>KV r xs
 |.oth op=>EQ P (mG op) r
 |_=>[]
def DS(P:ck)(E:XE)(d:Option Tmp)(k:IK)(st:XS):Option (XS×AM):=match k with
 |.mv x=>VC (EL d st (CP st.fr x))
 |.bin op T x y=>VC (EL d st (ACE P st.fr op T x y))
 |.fa T x f=>VC (EL d st (xFA P st.fr T x f))
 |.ld T x=>VC (EL d st (OD P st.fr st.s T x))
 |.ldz T x=>VC (EL d st (OD P st.fr st.s T x))
 |.pick c a b=>VC (EL d st (yI st.fr c a b))
 |.build T ps=>VC (EL d st (WV P st.fr T ps))
 |.buildS T n ps=>VC (EL d st (QL P st.fr T n ps))
 |.oth op=>VC (EL d st (JT P (mG op) st.s (CP st.fr)))
 |.alloc T=>VC (PQ P d T st)
 |.box x=>VC (pP d x st)
 |.mkM r=>VC (ACA d r st)
 |.mkS T x y=>VC (X7 P d T x y st)
 |.sto T x y=>AG9 P d T x y st
 |.upd ..=>none
 |.call own _ f args=>Bool.rec (VC (cO E.c0 d f args st)) (VC (H6 E.co d f args st)) own
 |.app args Ts=>xAppD P d args Ts st
 |.clr ..=>none
 |.cpy ..=>none
def C0:IK->Bool
 |.alloc _|.box _|.mkM _|.mkS ..|.sto ..|.app ..=>true
 |.call own ..=>own
 |_=>false
def XA(P:ck)(E:XE)(i:JO)(st:XS):Option (XS×AM):=match gdX st.fr i.g with
 |some true=>DS P E i.d i.k st
 |some false=>Bool.rec (some (IJ i.d st,[])) none (C0 i.k)
 |none=>none
def rF(P:ck)(E:XE)(i:JO)(r:Option (XS×AM×AM)):Option (XS×AM×AM):=match r with
 |some (st,rd,wr)=>match XA P E i st with
  |some (st',w)=>some (st',IC P i.k (CP st.fr)++rd,w++wr)
  |none=>none
 |none=>none
def XB(P:ck)(E:XE):List JO->Option (XS×AM×AM)->Option (XS×AM×AM)
 |[],r=>r
 |i::l,r=>XB P E l (rF P E i r)
def dY(r:Option (XS×AM×AM)):Option XS:=match r with
 |some (st,rd,wr)=>Bool.rec none (some st) (wr.all fun p=>!(rd.contains p))
 |none=>none
structure rG where
 new:List Tmp
 ph:List JO
 sq:List JO
def lL(new:List Tmp)(st:XS):Bool:=new.all fun d=>(st.s.loc.get d).isNone
def AIW(new:List Tmp)(r:Option XS):Option (XS×AM×AM):=match r with
 |some st=>Bool.rec none (some (st,[],[])) (lL new st)
 |none=>none
def XC(P:ck)(E:XE):List rG->Option XS->Option XS
 |[],r=>r
 |p::S,r=>XC P E S (PZ P E p.sq (dY (XB P E p.ph (AIW p.new r))))
def iY(l:List cq)(R:List Nat):List JO:=R.filterMap fun i=>(l[i]?).map (comp l)
def iZ(l:List cq)(R:List Nat):List JO:=R.filterMap fun i=>(l[i]?).map (iX l)
def zO(l:List cq)(R:List Nat):List Tmp:=R.filterMap fun i=>match l[i]? with
 |some o=>cond (kA (DY l) o) o.dst none
 |none=>none
def zQ(l:List cq)(p:List Nat×List Nat):rG:=⟨zO l p.1,iZ l p.1,iY l p.2⟩
def inB(l:List cq)(S:YL):Bool:=S.all fun p=>p.1.all (fun i=>bn i l.length)&&p.2.all (fun i=>bn i l.length)
theorem AC0(all:List cq)(o:cq)(st:XS):kT P E (DY all) o st=DS P E o.dst (OG all o) st:=by
 obtain⟨d,op,T,pos,af,gd⟩:=o;cases op with
 |call c=>
  obtain⟨cal,args,Ts⟩:=c
  cases cal with
  |builtin b=>cases b<;>rfl
  |_=>rfl
 |_=>rfl
theorem AWS(all:List cq)(o:cq)(r:cj->Option V):EQ P o r=IC P (OG all o) r:=by
 obtain⟨d,op,T,pos,af,gd⟩:=o;cases op with
 |call c=>
  obtain⟨cal,args,Ts⟩:=c
  cases cal with
  |builtin b=>cases b<;>rfl
  |_=>rfl
 |_=>rfl
theorem A93(all:List cq)(o:cq):(kA (DY all) o||kW o||kP o)=C0 (OG all o):=by
 obtain⟨d,op,T,pos,af,gd⟩:=o;cases op with
 |call c=>
  obtain⟨cal,args,Ts⟩:=c
  cases cal with
  |builtin b=>cases b<;>rfl
  |value f=>simp[kA,kW,kP,C0,OG]
  |_=>rfl
 |_=>rfl
theorem AOA(all:List cq)(o:cq)(st:XS):uN P E all o st=XA P E (comp all o) st:=by unfold uN XA;rw[AC0,A93];rfl
theorem vR(d:Option Tmp)(k:IK)(st:XS):DS P E d (AIU k) st=DS P E d k st:=by cases k<;>rfl
theorem AOB(k:IK):C0 (AIU k)=C0 k:=by cases k<;>rfl
theorem AWT(all:List cq)(o:cq)(st:XS):XA P E (iX all o) st=XA P E (comp all o) st:=by
 unfold iX comp;cases zB all o with
 |false=>rfl
 |true=>
  show XA P E ⟨L8 all o,o.dst,AIU (OG all o)⟩ st=_
  unfold XA
  simp only[vR,AOB]
theorem AWU(all:List cq)(o:cq)(r:cj->Option V):cond (zB all o) [] (EQ P o r)=IC P (iX all o).k r:=by
 unfold iX;cases hz:zB all o with
 |false=>exact AWS all o r
 |true=>
  obtain⟨T,x,ho⟩:=AQ6 hz
  show[]=IC P (AIU (OG all o)) r
  unfold OG
  rw[ho]
  rfl
theorem QP:∀(l:List JO),XB P E l none=none
 |[]=>rfl
 |_::l=>QP l
theorem AIX(l:List cq):∀(R:List Nat) (st:XS) (rd wr:AM),R.all (fun i=>bn i l.length)=true->phX P E l R st rd wr=XB P E (iZ l R) (some (st,rd,wr))
 |[],st,rd,wr,_=>rfl
 |i::R,st,rd,wr,h=>by
  simp only[bb,bj,bf]at h;have hi:=bw h.1;have hp:iZ l (i::R)=iX l l[i]::iZ l R:=by simp[iZ,hi]
  rw[hp];simp only[phX,hi,XB,rF,AOA,AWT];cases XA P E (comp l l[i]) st with
  |none=>exact(QP _).symm
  |some q=>
   obtain⟨st',w⟩:=q
   simp only
   rw[AIX l R _ _ _ h.2,AWU l]
theorem AIY(hl:E.lit=fun _=>false)(l:List cq):∀(R:List Nat) (st:XS),R.all (fun i=>bn i l.length)=true->sqX P E l R st=PZ P E (iY l R) (some st)
 |[],st,_=>rfl
 |i::R,st,h=>by
  simp only[bb,bj,bf]at h;have hi:=bw h.1;have hp:iY l (i::R)=comp l l[i]::iY l R:=by simp[iY,hi]
  rw[hp];simp only[sqX,hi,PZ,opO,AIV hl];cases opI P E (comp l l[i]) st with
  |none=>exact(I3 _).symm
  |some st'=>exact AIY hl l R st' h.2
theorem MY:∀(S:List rG),XC P E S none=none
 |[]=>rfl
 |p::S=>by simp only[XC,AIW,QP,dY,I3];exact MY S
theorem rH(l:List cq)(st:XS):∀(R:List Nat),cD (DY l) l R st.s.loc=lL (zO l R) st
 |[]=>rfl
 |i::R=>by
  have ih:=rH l st R;unfold cD lL zO at *;simp only[bb,List.filterMap_cons,ih];cases hi:l[i]? with
  |none=>simp
  |some o=>
   simp only
   cases hk:kA (DY l) o with
   |false=>simp
   |true=>
    cases hd:o.dst with
    |none=>simp
    |some d=>simp
theorem zR(hl:E.lit=fun _=>false)(l:List cq):∀(S:YL) (st:XS),inB l S=true->ACG P E l S st=XC P E (S.map (zQ l)) (some st)
 |[],st,_=>rfl
 |p::S,st,h=>by
  simp only[inB,bb,bj]at h;obtain⟨⟨h1,h2⟩,h3⟩:=h;simp only[ACG,List.map_cons,XC,zQ,AIW,rH];cases lL (zO l p.1) st with
  |false=>
   simp only[QP,dY,I3]
   exact(MY _).symm
  |true=>
   simp only[AIX l _ _ _ _ h1]
   cases XB P E (iZ l p.1) (some (st,[],[]))with
   |none=>simp only[dY,I3];exact(MY _).symm
   |some q=>
    obtain⟨st1,rd,wr⟩:=q
    simp only[dY]
    cases (wr.all fun p=>!rd.contains p)with
    |false=>simp only[I3];exact(MY _).symm
    |true=>
     simp only[AIY hl l _ _ h2]
     cases PZ P E (iY l p.2) (some st1)with
     |none=>exact(MY _).symm
     |some HJ=>exact zR hl l S HJ h3
inductive IR where
 |str (l:List JO)
 |drw (S:List rG)
 |cls (ks:List (Nat×Nat×Nat))
def zS(P:ck)(ops:List cq)(draw:Bool):IR:=cond draw (cond (YO P ops) (.cls (I2 ops)) (.drw ((fK ops).map (zQ ops)))) (.str (ops.map (comp ops)))
def okR(P:ck)(ops:List cq)(draw:Bool):Bool:=cond draw (cond (YO P ops) true (inB ops (fK ops))) true
def JM(P:ck)(E:XE)(i:IR)(st:XS):Option XS:=match i with
 |.str l=>PZ P E l (some st)
 |.drw S=>XC P E S (some st)
 |.cls ks=>SO P ks (some st)
end Go.Pg
namespace Go.Pg
variable {P:ck}{σ σ':Nat->Nat}{δ:Nat}{pre:List AA}{s:St}{fr:Fr}
abbrev Tr:=Option (List Nat×List Nat)
abbrev Ann:=Nat->Nat->Tr
def CK(a:Tr)(st:XS):XS:=match a with
 |some p=>SL p.1 p.2 st
 |none=>st
theorem MZ{a:Tr}{st:XS}(h:Bd st):LA st (CK a st):=by
 cases a with
 |none=>exact⟨Nat.le_refl _,h,rfl⟩
 |some p=>exact VE h
theorem I9{a:Tr}{st:XS}:(CK a st).c=st.c:=by cases a<;>rfl
theorem K4{n N:Nat}{ρ:Option Nat}{c:cw}{K:Exit->Fr->St->Prop}{a:Tr}{st:XS}(h:BN P n N ρ c K ((CK a st).fr.ren σ pre.length) ((CK a st).s.emb σ pre)):BN P n N ρ c K (st.fr.ren σ pre.length) (st.s.emb σ pre):=by
 cases a with
 |none=>exact h
 |some p=>exact WZ h
def A94(P:ck)(E:XE)(a:Tr)(l:List cq)(draw:Bool)(st:XS):Option XS:=Bool.rec (kQ P E l l (CK a st)) (Bool.rec (RK P E l (CK a st)) (SO P (I2 l) (some (CK a st))) (YO P l)) draw
def isY:List Nat->Bool
 |k::_=>bx k 777
 |[]=>false
def AIZ(P:ck)(E:XE)(N:Nat)(a:Tr)(l:List cq)(draw:Bool)(us:List Nat)(st:XS):Option XS:=Bool.rec (A94 P (cfU us E) a l draw st) (Bool.rec none (zE P E N l (CK a st)) draw) (isY us)
def BF(rec:eR)(body:cw)(a:Tr)(n:Nat):XS->Option (Exit×XS):=Nat.rec (motive:=fun _=>XS->Option (Exit×XS)) (fun _=>none) (fun _ ih st=>match rec body st with
 |some (.normal,st')=>ih (CK a st')
 | r=>r) n
def lM(id:Nat)(l:List cq):Nat:=id+1000*l.length+1000000*(match l with
 |o::_=>match o.dst with
  |some d=>d
  |none=>0
 | []=>0)
def BW:cw->Nat
 |.region id ops _=>lM id ops.toList
 |.seq a _=>BW a
 |.block _ c=>BW c
 |.loop c=>BW c
 |.scope c=>BW c
 |_=>0
def AC1:Tr->List Nat
 |some p=>p.1
 |none=>[]
def OH:Nat:=1000000000000000
def AC2:Tr->List Nat
 |some p=>p.2
 |none=>[]
def XD(P:ck)(E:XE)(A:Ann)(n N:Nat)(rec:eR):eR:=fun code st=>match code with
 |.region id ops draw=>OR (AIZ P E N (A N (lM id ops.toList)) ops.toList draw (AC2 (A N (lM id ops.toList+OH))) (LU (AC1 (A N (lM id ops.toList+OH))) st))
 |.loop body=>BF rec body (A N (BW body)) n (CK (A N (BW body)) st)
 |c=>cQ P E n N rec c st
def AE(P:ck)(A:Ann)(kn:CF0)(n:Nat):HI:=Nat.rec (motive:=fun _=>HI) (fun _ _ _=>none) (fun n ih N=>XD P (A8S P kn (fun _ _ _=>none) (fun _=>false) ih) A n N (ih N)) n
theorem AOC(hP:ER P){E:XE}(hEE:KW P E){a:Tr}{id:Nat}{ops:Array cq}{draw:Bool}{N:Nat}(hN:FA N (.region id ops draw)=true){st st':XS}(hx:A94 P E a ops.toList draw st=some st')(hbd:Bd st):LA st st' /\
  ∀(n:Nat) (ρ:Option Nat) (σ:Nat->Nat) (pre:List AA) (K:Exit->Fr->St->Prop),(∀σ',AX st.c σ σ'->K .normal (st'.fr.ren σ' pre.length) (st'.s.emb σ' pre))->BN P n N ρ (.region id ops draw) K (st.fr.ren σ pre.length) (st.s.emb σ pre):=by
 obtain⟨l⟩:=ops
 have hT:=MZ (a:=a) hbd
 have ext:∀{st'},LA (CK a st) st'->LA st st':=fun h=>⟨by have:=h.c;rwa [I9]at this,h.bd,h.n.trans hT.n⟩
 cases draw with
 |false=>
  simp only[FA,cond_false,bj]at hN
  have hx:kQ P E l l (CK a st)=some st':=hx
  obtain⟨hE,hs⟩:=kR hEE hT.bd hx
  refine⟨ext hE,fun n ρ σ pre K hk=>K4 (a:=a) ?_⟩
  exact XZ (l.map (L8 l)) hN.1 (kK (U8 hN.2)) (hs σ pre _ fun σ' ha=>hk σ' (by rwa [I9]at ha))
 |true=>
  simp only[FA,cond_true]at hN
  cases hc:YO P l with
  |true=>
   have hx:(Bool.rec (RK P E l (CK a st)) (SO P (I2 l) (some (CK a st))) (YO P l):Option XS)=some st':=hx
   rw[hc]at hx
   obtain⟨hE,hs⟩:=ANW (id:=id) hP hN hc hx hT.bd
   exact⟨ext hE,fun n ρ σ pre K hk=>K4 (a:=a) (hs n ρ σ pre K fun σ' ha=>hk σ' (by rwa [I9]at ha))⟩
  |false=>
  have hx:(Bool.rec (RK P E l (CK a st)) (SO P (I2 l) (some (CK a st))) (YO P l):Option XS)=some st':=hx
  rw[hc]at hx
  obtain⟨hE,hs⟩:=dM (id:=id) hP hEE hN hx hT.bd
  exact⟨ext hE,fun n ρ σ pre K hk=>K4 (a:=a) (hs n ρ σ pre K fun σ' ha=>hk σ' (by rwa [I9]at ha))⟩
theorem AOD(hP:ER P){E:XE}(hEE:KW P E){a:Tr}{us:List Nat}{id:Nat}{ops:Array cq}{draw:Bool}{N:Nat}(hN:FA N (.region id ops draw)=true){st st':XS}(hx:AIZ P E N a ops.toList draw us st=some st')(hbd:Bd st):LA st st' /\
  ∀(n:Nat) (ρ:Option Nat) (σ:Nat->Nat) (pre:List AA) (K:Exit->Fr->St->Prop),(∀σ',AX st.c σ σ'->K .normal (st'.fr.ren σ' pre.length) (st'.s.emb σ' pre))->BN P n N ρ (.region id ops draw) K (st.fr.ren σ pre.length) (st.s.emb σ pre):=by
 unfold AIZ at hx
 cases hy:isY us with
 |false=>rw[hy]at hx;exact AOC hP (AVQ hEE _) hN hx hbd
 |true=>
  rw[hy]at hx
  cases draw with
  |false=>cases hx
  |true=>
   have hx:zE P E N ops.toList (CK a st)=some st':=hx
   have hT:=MZ (a:=a) hbd
   obtain⟨hE,hs⟩:=AH3 hP hEE (id:=id) hx hT.bd
   refine⟨⟨by have:=hE.c;rwa [I9]at this,hE.bd,hE.n.trans hT.n⟩,fun n ρ σ pre K hk=>K4 (a:=a) ?_⟩
   exact hs n ρ σ pre K fun σ' ha=>hk σ' (by rwa [I9]at ha)
theorem AI0{N:Nat}{rec:eR}(hrec:cW P N rec){body:cw}{a:Tr}(hN:FA N body=true)(m:Nat){st st':XS}{e:Exit}(hx:BF rec body a m (CK a st)=some (e,st'))(hbd:Bd st):LA st st'/\(∀l,e≠.goto l) /\
  ∀(n:Nat) (ρ:Option Nat) (σ:Nat->Nat) (pre:List AA) (K:Exit->Fr->St->Prop),(ρ=none\/GP body=true)->(∀σ',AX st.c σ σ'->K e (st'.fr.ren σ' pre.length) (st'.s.emb σ' pre))->BN P n N ρ (.loop body) K (st.fr.ren σ pre.length) (st.s.emb σ pre):=by
 have up:∀{st st':XS},Bd st->LA (CK a st) st'->LA st st':=fun hbd h=>⟨by have:=h.c;rwa [I9]at this,h.bd,h.n.trans (MZ hbd).n⟩
 have ext:∀(m:Nat) {st:XS},BF rec body a m (CK a st)=some (e,st')->Bd st->LA st st'/\(∀l,e≠.goto l):=by
  intro m;induction m with
  |zero=>intro st hx _;cases hx
  |succ m ih=>
   intro st hx hbd
   have hx:(match rec body (CK a st)with
    |some (.normal,st')=>BF rec body a m (CK a st')
    | r=>r)=some (e,st'):=hx
   have hT:=MZ (a:=a) hbd
   split at hx
   ·rename_i st1 h1;obtain⟨hE,_,_⟩:=hrec _ _ _ _ h1 hT.bd hN;obtain⟨hE',hg⟩:=ih hx hE.bd;exact⟨up hbd ⟨Nat.le_trans hE.c hE'.c,hE'.bd,hE'.n.trans hE.n⟩,hg⟩
   ·obtain⟨hE,hg,_⟩:=hrec _ _ _ _ hx hT.bd hN;exact⟨up hbd ⟨hE.c,hE.bd,hE.n⟩,hg⟩
 obtain⟨hE,hg⟩:=ext m hx hbd
 refine⟨hE,hg,fun n ρ σ pre K hρ hk=>?_⟩
 refine gW (fun m fr s=>∃(st:XS) (σ:Nat->Nat),fr=st.fr.ren σ pre.length/\s=st.s.emb σ pre/\Bd st/\BF rec body a m (CK a st)=some (e,st')/\∀σ',AX st.c σ σ'->K e (st'.fr.ren σ' pre.length) (st'.s.emb σ' pre)) m ⟨st,σ,rfl,rfl,hbd,hx,hk⟩ ?_
 rintro m fr s ⟨st,σ,rfl,rfl,hbd,hx,hk⟩
 cases m with
 |zero=>cases hx
 |succ m=>
  have hx:(match rec body (CK a st)with
   |some (.normal,st')=>BF rec body a m (CK a st')
   | r=>r)=some (e,st'):=hx
  have hT:=MZ (a:=a) hbd
  refine K4 (a:=a) ?_
  split at hx
  ·rename_i st1 h1;obtain⟨hE,_,hC⟩:=hrec _ _ _ _ h1 hT.bd hN;refine hC n ρ σ pre _ hρ fun σ' ha=>?_;rw[I9]at ha;exact⟨m,Nat.lt_succ_self _,st1,σ',rfl,rfl,hE.bd,hx,fun σ'' ha'=>hk σ'' (ha.trans ha' (by have:=hE.c;rwa [I9]at this))⟩
  ·rename_i hne;obtain⟨hE,hg,hC⟩:=hrec _ _ _ _ hx hT.bd hN;refine hC n ρ σ pre _ hρ fun σ' ha=>?_;rw[I9]at ha;have:=hk σ' ha;cases e with
   |normal=>exact absurd hx (hne st')
   |_=>exact this
theorem lN(hP:ER P){E:XE}(hEE:KW P E){A:Ann}{N:Nat}{rec:eR}(hrec:cW P N rec)(m:Nat):cW P N (XD P E A m N rec):=by
 intro code st e st' hx hbd hN;unfold XD at hx;split at hx
 ·rename_i id ops draw;obtain⟨rfl,hx2⟩:=qY hx;have hT:=yY (AC1 (A N (lM id ops.toList+OH))) hbd;obtain⟨hE,hs⟩:=AOD hP hEE hN hx2 hT.bd;exact⟨⟨Nat.le_trans hT.c hE.c,hE.bd,hE.n.trans hT.n⟩,(by intro l h;cases h),fun n ρ σ pre K _ hk=>qQ _ (hs n ρ σ pre K fun σ' ha=>hk σ' (by rwa [ARE]at ha))⟩
 ·rename_i body;have hN:FA N body=true:=hN;obtain⟨h1,h2,h3⟩:=AI0 hrec hN m hx hbd;exact⟨h1,h2,fun n ρ σ pre K hρ hk=>h3 n ρ σ pre K hρ hk⟩
 ·exact qZ hP hEE hrec m _ _ _ _ hx hbd hN
theorem dZ(hP:ER P){A:Ann}{kn:CF0}(hkn:H5 P kn):∀n,cX P (AE P A kn n)
 |0=>fun N code st e st' hx=>by cases hx
 |n+1=>fun N=>by have ih:=dZ hP (A:=A) hkn n;exact lN hP ⟨AHG hP hkn ih,ANY hP ih,dB hP hkn ih,AHF hP hkn (ko:=fun _ _ _=>none) (fun _ _ _ _ h=>by cases h) ih⟩ (ih N) n
theorem AI1(hP:ER P){A:Ann}{kn:CF0}(hkn:H5 P kn){n:Nat}{f:cz}{args:List V}{r:V}(h:E5 P (AE P A kn n) f args=some r)(s:St):FZ P f args s fun r' s'=>r'=r/\s'=s :=
 (cZ hP (dZ hP hkn n) f args r h).1 s
section
variable {A:Ann}{kn:CF0}{n N:Nat}{st:XS}
abbrev BO(P:ck)(A:Ann)(kn:CF0)(n:Nat):XE:=A8S P kn (fun _ _ _=>none) (fun _=>false) (AE P A kn n)
theorem AI2(a b:cw):AE P A kn (n+1) N (.seq a b) st=kU (AE P A kn n N) b (AE P A kn n N a st):=rfl
theorem AC3(c:cj)(a b:cw):AE P A kn (n+1) N (.cond c a b) st=pZ (AE P A kn n N) a b st (CP st.fr c):=rfl
theorem vS(id:Nat)(b:cw):AE P A kn (n+1) N (.block id b) st=NW id (AE P A kn n N b st):=rfl
theorem AC4(b:cw):AE P A kn (n+1) N (.loop b) st=BF (AE P A kn n N) b (A N (BW b)) n (CK (A N (BW b)) st):=rfl
theorem AC5:AE P A kn (n+1) N .skip st=some (.normal,st):=rfl
theorem AC6(id:Nat):AE P A kn (n+1) N (.exit id) st=some (.exit id,st):=rfl
theorem AI3:AE P A kn (n+1) N .ret st=some (.ret,st):=rfl
theorem vT(b:cw):AE P A kn (n+1) N (.scope b) st=AE P A kn n N b st:=rfl
theorem SU(g:cj)(ps:Array Tmp)(asg body:cw):AE P A kn (n+1) N (.rangeFunc g ps asg body) st=W0 (BO P A kn n).cf N g ps.toList asg body st:=rfl
theorem AI4(a b:cw):BW (.seq a b)=BW a:=rfl
theorem vU(id:Nat)(b:cw):BW (.block id b)=BW b:=rfl
theorem AC7(b:cw):BW (.loop b)=BW b:=rfl
theorem AB(rec:eR)(body:cw)(a:Tr):BF rec body a (n+1) st=match rec body st with
 |some (.normal,st')=>BF rec body a n (CK a st')
 |r=>r:=rfl
theorem rI(rec:eR)(b:cw):kU rec b (some (.normal,st))=rec b st:=rfl
theorem AI5(rec:eR)(b:cw):kU rec b (some (.ret,st))=some (.ret,st):=rfl
theorem AC8(rec:eR)(b:cw)(i:Nat):kU rec b (some (.exit i,st))=some (.exit i,st):=rfl
theorem AI6(rec:eR)(b:cw)(c:Prop)[Decidable c](x y:Option (Exit×XS)):kU rec b (if c then x else y)=if c then kU rec b x else kU rec b y:=by split<;>rfl
theorem fT(id:Nat):NW id (some (.normal,st))=some (.normal,st):=rfl
theorem vV(id:Nat):NW id (some (.ret,st))=some (.ret,st):=rfl
theorem rJ(id i:Nat):NW id (some (.exit i,st))=if i=id then some (.normal,st) else some (.exit i,st):=by
 show(Bool.rec _ _ (bx i id):Option (Exit×XS))=_;by_cases h:i=id
 ·subst h;simp
 ·have:bx i id=false:=by
   cases hb:bx i id with
   |false=>rfl
   |true=>exact absurd (Nat.eq_of_beq_eq_true hb) h
  simp[h,this]
theorem vW(id:Nat)(c:Prop)[Decidable c](x y:Option (Exit×XS)):NW id (if c then x else y)=if c then NW id x else NW id y:=by split<;>rfl
def zT:cw->Bool
 |.region ..=>true
 |_=>false
def YC:cw->List cq
 |.region _ ops _=>ops.toList
 |_=>[]
def P0:cw->Bool
 |.region _ _ d=>d
 |_=>false
theorem zU(us:List Nat){E:XE}(h:E.lit=fun _=>false):(cfU us E).lit=fun _=>false:=by cases us<;>exact h
theorem XF{r:cw}(hr:zT r=true){i:IR}(hi:zS P (YC r) (P0 r)=i)(hok:okR P (YC r) (P0 r)=true){a:Tr}(ha:A N (BW r)=a){ks us:List Nat}(ht:AC1 (A N (BW r+OH))=ks)(hu:AC2 (A N (BW r+OH))=us)(hy:isY us=false:=by rfl):AE P A kn (n+1) N r st=OR (JM P (cfU us (BO P A kn n)) i (CK a (LU ks st))):=by
 cases r with
 |region id ops draw=>
  subst hi ha ht hu
  show OR (AIZ P _ N (A N (lM id ops.toList)) ops.toList draw (AC2 (A N (lM id ops.toList+OH))) (LU (AC1 (A N (lM id ops.toList+OH))) st))=_
  unfold AIZ
  rw[show isY (AC2 (A N (lM id ops.toList+OH)))=false from hy]
  cases draw with
  |false=>exact congrArg OR (zN (zU _ rfl) _ _ _)
  |true=>
   show OR (Bool.rec (RK P _ ops.toList _) (SO P (I2 ops.toList) (some _)) (YO P ops.toList))=OR (JM P _ (cond (YO P ops.toList) (.cls (I2 ops.toList)) (.drw ((fK ops.toList).map (zQ ops.toList)))) _)
   have hok:cond (YO P ops.toList) true (inB ops.toList (fK ops.toList))=true:=hok
   cases hc:YO P ops.toList with
   |true=>rfl
   |false=>
    rw[hc]at hok
    exact congrArg OR (zR (zU _ rfl) _ _ _ hok)
 |_=>cases hr
theorem DG{r:cw}(hr:zT r=true){i:IR}(hi:zS P (YC r) (P0 r)=i)(hok:okR P (YC r) (P0 r)=true){a:Tr}(ha:A N (BW r)=a){ks:List Nat}(ht:AC1 (A N (BW r+OH))=ks)(hu:AC2 (A N (BW r+OH))=[]:=by kernel_rfl):AE P A kn (n+1) N r st=OR (JM P (BO P A kn n) i (CK a (LU ks st))):=XF hr hi hok ha ht hu rfl
theorem AI7{r:cw}(hr:zT r=true){i:IR}(hi:zS P (YC r) (P0 r)=i)(hok:okR P (YC r) (P0 r)=true){a:Tr}(ha:A N (BW r)=a)(ht:A N (BW r+OH)=none:=by kernel_rfl):AE P A kn (n+1) N r st=OR (JM P (BO P A kn n) i (CK a st)):=DG hr hi hok ha (congrArg AC1 ht) (congrArg AC2 ht)
def YP(P:ck)(rs:List ResultVar)(r:Option (Exit×XS)):Option V:=match r with
 |some (.ret,st)=>finV st.s (GB P rs st.fr st.s)
 |some (.normal,st)=>finV st.s (GB P rs st.fr st.s)
 |_=>none
where finV (s:St) (r:Option V):Option V:=match r with
 |some v=>match A7 s 4 v with
  |some r'=>Bool.rec none (some r') (AH 9 r')
  |none=>none
 |none=>none
theorem AP{f:cz}{fn:Func}{c:cw}{args:List V}{rec:HI}(hf:P.funcs[f]? = some fn)(hb:fn.body=some c)(hs:bm args.length fn.ntmps=true)(hcl:args.all (AH 9)=true) :
  E5 P rec f args=YP P fn.results.toList (rec fn.ntmps c ⟨0,AG 0 args,⟨[],[]⟩⟩):=by
 unfold E5 iH cR yM
 rw[hcl,hf]
 simp only[hb,hs]
 generalize rec fn.ntmps c ⟨0,AG 0 args,⟨[],[]⟩⟩=q
 have aux:∀st:XS,(match(match GB P fn.results.toList st.fr st.s with
   |some r=>match A7 st.s 4 r with
    |some r'=>some (r',st.c,st.s.up.map (AK st.s))
    |none=>none
   | none=>none:Option (V×Nat×List AA))with
  |some (r,_,_)=>(Bool.rec none (some r) (AH 9 r):Option V)
  | none=>none)=YP.finV st.s (GB P fn.results.toList st.fr st.s):=fun st=>by
  unfold YP.finV
  cases GB P fn.results.toList st.fr st.s with
  |none=>rfl
  |some r=>
   cases h:A7 st.s 4 r with
   |none=>simp[h]
   |some r'=>simp[h]
 cases q with
 |none=>rfl
 |some q=>
  obtain⟨e,st⟩:=q
  cases e with
  |ret=>exact aux st
  |normal=>exact aux st
  |_=>rfl
theorem AI8(rs:List ResultVar)(c:Prop)[Decidable c](x y:Option (Exit×XS)):YP P rs (if c then x else y)=if c then YP P rs x else YP P rs y:=by split<;>rfl
end
def L9:cw->List Nat->cw
 |c,[]=>c
 |.seq a b,i::p=>bif bx i 0 then L9 a p else L9 b p
 |.cond _ a b,i::p=>bif bx i 0 then L9 a p else L9 b p
 |.block _ a,_::p=>L9 a p
 |.loop a,_::p=>L9 a p
 |.scope a,_::p=>L9 a p
 |.rangeFunc _ _ a b,i::p=>bif bx i 0 then L9 a p else L9 b p
 |c,_=>c
def AWV(fn:Func):cw:=match fn.body with
 |some c=>c
 |none=>.skip
end Go.Pg
namespace Go.Pg
variable {P:ck}{E:XE}{st:XS}{fr:Fr}{s:St}
@[simp] theorem A95(r:Option XS):PZ P E [] r=r:=rfl
@[simp] theorem A1R(i:JO)(l:List JO)(r:Option XS):PZ P E (i::l) r=PZ P E l (opO P E i r):=rfl
@[simp] theorem A96(i:JO):opO P E i (some st)=opI P E i st:=rfl
@[simp] theorem A97(i:JO):opO P E i none=none:=rfl
@[simp] theorem BE5(i:JO)(c:Prop)[Decidable c](x y:Option XS):opO P E i (if c then x else y)=if c then opO P E i x else opO P E i y:=by split<;>rfl
@[simp] theorem A98(l:List JO)(c:Prop)[Decidable c](x y:Option XS):PZ P E l (if c then x else y)=if c then PZ P E l x else PZ P E l y:=by split<;>rfl
def gI(P:ck)(E:XE)(d:Option Tmp)(k:IK)(st:XS)(w:Bool)(r:Option (Bool×V)):Option XS:=match r with
 |some (c,.bool b)=>Bool.rec (some (IJ d st)) (C7 P E d k st) (c&&(b==w))
 |_=>none
@[simp] theorem A99(d:Option Tmp)(k:IK):opI P E ⟨none,d,k⟩ st=C7 P E d k st:=rfl
@[simp] theorem A1S(t:Tmp)(w:Bool)(d:Option Tmp)(k:IK):opI P E ⟨some (t,w),d,k⟩ st=gI P E d k st w (BC st.fr t):=by
 show(match(match BC st.fr t with | some (c,.bool b)=>some (c&&(b == w)) | _=>none:Option Bool)with
  |some true=>C7 P E d k st
  |some false=>some (IJ d st)
  | none=>none)=_
 unfold gI;cases BC st.fr t with
 |none=>rfl
 |some p=>
  obtain⟨c,v⟩:=p
  cases v with
  |bool b=>cases h:(c&&(b==w))<;>simp[h]
  |_=>rfl
@[simp] theorem BN5(d:Option Tmp)(k:IK):gI P E d k st true (some (true,.bool true))=C7 P E d k st:=rfl
@[simp] theorem BN6(d:Option Tmp)(k:IK):gI P E d k st true (some (true,.bool false))=some (IJ d st):=rfl
@[simp] theorem BN7(d:Option Tmp)(k:IK):gI P E d k st false (some (true,.bool true))=some (IJ d st):=rfl
@[simp] theorem BN8(d:Option Tmp)(k:IK):gI P E d k st false (some (true,.bool false))=C7 P E d k st:=rfl
@[simp] theorem BN9(d:Option Tmp)(k:IK)(w b:Bool):gI P E d k st w (some (false,.bool b))=some (IJ d st):=rfl
@[simp] theorem BAA(d:Tmp)(c:Nat)(fr:Fr)(s:St):IJ (some d) ⟨c,fr,s⟩=⟨c,(d,false,.bool false)::fr,s⟩:=rfl
@[simp] theorem BAB(c:Nat)(fr:Fr)(s:St):IJ none ⟨c,fr,s⟩=⟨c,fr,s⟩:=rfl
@[simp] theorem BAC(k:Nat):BC [] k=none:=rfl
@[simp] theorem A1T(j:Nat)(x:Bool×V)(fr:Fr)(k:Nat):BC ((j,x)::fr) k=if k=j then some x else BC fr k:=by rw[FT,FT];rfl
@[simp] theorem AWW(j:Nat)(x:Nat×A0)(L:AA)(k:Nat):AA.get ((j,x)::L) k=if k=j then some x else L.get k:=rfl
def rdT:Option (Bool×V)->Option V
 |some (true,v)=>some v
 |_=>none
@[simp] theorem AI9(v:V):rdT (some (true,v))=some v:=rfl
@[simp] theorem A1V(v:V):rdT (some (false,v))=none:=rfl
@[simp] theorem BAD:rdT none=none:=rfl
@[simp] theorem BE6(t:Tmp):CP fr (.tmp t)=rdT (BC fr t):=by
 show(match BC fr t with
  |some (true,v)=>some v
  | _=>none)=_
 cases BC fr t with
 |none=>rfl
 |some p=>obtain⟨c,v⟩:=p;cases c<;>rfl
@[simp] theorem A1W(v:Value):CP fr (.const v)=CS v:=rfl
@[simp] theorem BAE(f:cz):CP fr (.func f)=some (.fn f [] []):=rfl
@[simp] theorem BE7(t:Tmp):rdC fr (.tmp t)=BC fr t:=rfl
@[simp] theorem BAF(b:Bool):rdC fr (.const (.bool b))=some (true,.bool b):=rfl
@[simp] theorem AWX(k:cx)(n:Int):CS (.int k n)=some (.int k n):=rfl
@[simp] theorem ARS(b:Bool):CS (.bool b)=some (.bool b):=rfl
@[simp] theorem AWY:CS (.slice none 0 0)=some .nil:=rfl
@[simp] theorem A1X(d:Tmp)(c:Nat)(fr:Fr)(s:St)(v:V):EL (some d) ⟨c,fr,s⟩ (some v)=some ⟨c,(d,true,v)::fr,s⟩:=rfl
@[simp] theorem BE8(c:Nat)(fr:Fr)(s:St)(v:V):EL none ⟨c,fr,s⟩ (some v)=some ⟨c,fr,s⟩:=rfl
@[simp] theorem A1Y(d:Option Tmp):EL d st none=none:=rfl
@[simp] theorem BAG(d:Option Tmp)(c:Prop)[Decidable c](x y:Option V):EL d st (if c then x else y)=if c then EL d st x else EL d st y:=by split<;>rfl
section
variable (d:Option Tmp)(c:Nat)
@[simp] theorem BAH(x:cj):C7 P E d (.mv x) ⟨c,fr,s⟩=EL d ⟨c,fr,s⟩ (CP fr x):=rfl
def AWZ(P:ck)(op:BinOp)(T:bp):Option V->Option V->Option V
 |some a,some b=>HU P op T a b
 |_,_=>none
@[simp] theorem A1Z(op:BinOp)(T:bp)(a b:V):AWZ P op T (some a) (some b)=HU P op T a b:=rfl
@[simp] theorem A10(op:BinOp)(T:bp)(x y:cj):C7 P E d (.bin op T x y) ⟨c,fr,s⟩=EL d ⟨c,fr,s⟩ (AWZ P op T (CP fr x) (CP fr y)):=by show EL d _ (ACE P fr op T x y)=_;unfold ACE AWZ;cases CP fr x<;>cases CP fr y<;>rfl
def fa1(P:ck)(T:bp)(f:Nat):Option V->Option V
 |some p=>DH P T p f
 |none=>none
@[simp] theorem BAI(T:bp)(f:Nat)(p:V):fa1 P T f (some p)=DH P T p f:=rfl
@[simp] theorem BAJ(T:bp)(x:cj)(f:Nat):C7 P E d (.fa T x f) ⟨c,fr,s⟩=EL d ⟨c,fr,s⟩ (fa1 P T f (CP fr x)):=by show EL d _ (xFA P fr T x f)=_;unfold xFA fa1;cases CP fr x<;>rfl
def wh1(P:ck)(T:bp):Option (List V)->Option V
 |some cs=>BR P T cs
 |none=>none
@[simp] theorem BAK(T:bp)(cs:List V):wh1 P T (some cs)=BR P T cs:=rfl
def ld1(P:ck)(s:St)(T:bp):Option V->Option V
 |some p=>wh1 P T (BG s p)
 |none=>none
@[simp] theorem AJA(T:bp)(p:V):ld1 P s T (some p)=wh1 P T (BG s p):=rfl
@[simp] theorem BAL(T:bp)(x:cj):C7 P E d (.ld T x) ⟨c,fr,s⟩=EL d ⟨c,fr,s⟩ (ld1 P s T (CP fr x)):=by
 show EL d _ (OD P fr s T x)=_;unfold OD ld1;cases CP fr x with
 |none=>rfl
 |some p=>unfold wh1;cases BG s p<;>rfl
def pk3:Option V->Option (Bool×V)->Option (Bool×V)->Option V
 |some (.bool c),some (ca,.bool a),some (cb,.bool b)=>Bool.rec (Bool.rec none (some (.bool b)) cb) (Bool.rec none (some (.bool a)) ca) c
 |_,_,_=>none
@[simp] theorem BAM(a cb b:Bool):pk3 (some (.bool true)) (some (true,.bool a)) (some (cb,.bool b))=some (.bool a):=rfl
@[simp] theorem A11(ca a b:Bool):pk3 (some (.bool false)) (some (ca,.bool a)) (some (true,.bool b))=some (.bool b):=rfl
@[simp] theorem BAN(c a b:Bool):pk3 (some (.bool c)) (some (true,.bool a)) (some (true,.bool b))=some (.bool (if c then a else b)):=by cases c<;>rfl
@[simp] theorem AW0(x y z:cj):C7 P E d (.pick x y z) ⟨c,fr,s⟩=EL d ⟨c,fr,s⟩ (pk3 (CP fr x) (rdC fr y) (rdC fr z)):=rfl
def ba2:Option V->Nat->Option (List (Nat×V))->Option (List (Nat×V))
 |some v,i,some l=>some ((i,v)::l)
 |_,_,_=>none
@[simp] theorem BAO(v:V)(i:Nat)(l:List (Nat×V)):ba2 (some v) i (some l)=some ((i,v)::l):=rfl
@[simp] theorem AW1(r:cj->Option V):DK r []=some []:=rfl
@[simp] theorem ART(r:cj->Option V)(i:Nat)(x:cj)(l:List (Nat×cj)):DK r ((i,x)::l)=ba2 (r x) i (DK r l):=by simp only[DK];unfold ba2;cases r x<;>cases DK r l<;>rfl
def bd1(P:ck)(T:bp):Option (List (Nat×V))->Option V
 |some l=>CT P T l
 |none=>none
@[simp] theorem BAP(T:bp)(l:List (Nat×V)):bd1 P T (some l)=CT P T l:=rfl
@[simp] theorem ARU(T:bp)(ps:List (Nat×cj)):C7 P E d (.build T ps) ⟨c,fr,s⟩=EL d ⟨c,fr,s⟩ (bd1 P T (DK (CP fr) ps)):=by show EL d _ (WV P fr T ps)=_;unfold WV bd1;cases DK (CP fr) ps<;>rfl
def bs1(P:ck)(T:bp)(n:Nat):Option (List (Nat×V))->Option V
 |some l=>CI P T n l
 |none=>none
@[simp] theorem BAQ(T:bp)(n:Nat)(l:List (Nat×V)):bs1 P T n (some l)=CI P T n l:=rfl
@[simp] theorem AOE(T:bp)(n:Nat)(ps:List (Nat×cj)):C7 P E d (.buildS T n ps) ⟨c,fr,s⟩=EL d ⟨c,fr,s⟩ (bs1 P T n (DK (CP fr) ps)):=by show EL d _ (QL P fr T n ps)=_;unfold QL bs1;cases DK (CP fr) ps<;>rfl
@[simp] theorem A12(op:Op):C7 P E d (.oth op) ⟨c,fr,s⟩=EL d ⟨c,fr,s⟩ (JT P (mG op) s (CP fr)):=rfl
def al1(d:Tmp)(c:Nat)(fr:Fr)(s:St):Option (List V)->Option XS
 |some cs=>some ⟨c+1,(d,true,.ptr s.up.length d c 0)::fr,s.put s.up.length d c (.box cs)⟩
 |none=>none
@[simp] theorem BAR(d:Tmp)(cs:List V):al1 d c fr s (some cs)=some ⟨c+1,(d,true,.ptr s.up.length d c 0)::fr,s.put s.up.length d c (.box cs)⟩:=rfl
@[simp] theorem ARV(d:Tmp)(T:bp):C7 P E (some d) (.alloc T) ⟨c,fr,s⟩=al1 d c fr s (CC P T):=by show PQ P (some d) T _=_;unfold PQ al1;cases CC P T<;>rfl
def bx1(d:Tmp)(c:Nat)(fr:Fr)(s:St):Option V->Option XS
 |some v=>Bool.rec none (some ⟨c+1,(d,true,.ptr s.up.length d c 0)::fr,s.put s.up.length d c (.box (BH v))⟩) (BI v)
 |none=>none
@[simp] theorem BFC(d:Tmp)(k:cx)(n:Int):bx1 d c fr s (some (.int k n))=some ⟨c+1,(d,true,.ptr s.up.length d c 0)::fr,s.put s.up.length d c (.box [.int k n])⟩:=rfl
@[simp] theorem BAS(d:Tmp)(b:Bool):bx1 d c fr s (some (.bool b))=some ⟨c+1,(d,true,.ptr s.up.length d c 0)::fr,s.put s.up.length d c (.box [.bool b])⟩:=rfl
@[simp] theorem BFD(d:Tmp)(cs:List V):bx1 d c fr s (some (.agg cs))=some ⟨c+1,(d,true,.ptr s.up.length d c 0)::fr,s.put s.up.length d c (.box cs)⟩:=rfl
@[simp] theorem BAT(d:Tmp)(b:Bool)(es:List (List V)):bx1 d c fr s (some (.list b es))=some ⟨c+1,(d,true,.ptr s.up.length d c 0)::fr,s.put s.up.length d c (.box [.list b es])⟩:=rfl
@[simp] theorem BFE(d:Tmp):bx1 d c fr s (some .nil)=some ⟨c+1,(d,true,.ptr s.up.length d c 0)::fr,s.put s.up.length d c (.box [.nil])⟩:=rfl
@[simp] theorem BFF(d:Tmp)(l k g n:Nat):bx1 d c fr s (some (.vec l k g n))=some ⟨c+1,(d,true,.ptr s.up.length d c 0)::fr,s.put s.up.length d c (.box [.vec l k g n])⟩:=rfl
@[simp] theorem BKL(d:Tmp)(l k g:Nat):bx1 d c fr s (some (.mp l k g))=some ⟨c+1,(d,true,.ptr s.up.length d c 0)::fr,s.put s.up.length d c (.box [.mp l k g])⟩:=rfl
@[simp] theorem A13(d:Tmp)(x:cj):C7 P E (some d) (.box x) ⟨c,fr,s⟩=bx1 d c fr s (CP fr x):=by show pP (some d) x _=_;unfold pP bx1;cases CP fr x<;>rfl
def st3(γ:Nat)(P:ck)(T:bp)(c:Nat)(fr:Fr)(s:St)(l q off:Nat)(v:V):Option (Nat×A0)->Option XS
 |some (γ',.box cs)=>if γ'=γ/\BI v=true/\0<P.cellsOf T/\(BH v).length=P.cellsOf T/\off+P.cellsOf T<=cs.length/\γ<c then some ⟨c,fr,s.put l q γ (.box (A9 cs off (BH v)))⟩ else none
 |_=>none
def st4(γ:Nat)(P:ck)(T:bp)(c:Nat)(fr:Fr)(s:St)(l q i off:Nat)(v:V):Option (Nat×A0)->Option XS
 |some (γ',.vec U es)=>if γ'=γ/\BI v=true/\0<P.cellsOf T/\(BH v).length=P.cellsOf T/\i<es.length/\off+P.cellsOf T<=(es.getD i []).length/\γ<c then some ⟨c,fr,s.put l q γ (.vec U (es.set i (A9 (es.getD i []) off (BH v))))⟩ else none
 |_=>none
def HJ(P:ck)(T:bp)(c:Nat)(fr:Fr)(s:St):Option V->Option V->Option XS
 |some (.ptr l q γ off),some v=>st3 γ P T c fr s l q off v (s.get l q)
 |some (.eptr l q γ i off),some v=>st4 γ P T c fr s l q i off v (s.get l q)
 |_,_=>none
@[simp] theorem AOF(T:bp)(l q γ off:Nat)(v:V):HJ P T c fr s (some (.ptr l q γ off)) (some v)=st3 γ P T c fr s l q off v (s.get l q):=rfl
@[simp] theorem AJB(T:bp)(l q γ i off:Nat)(v:V):HJ P T c fr s (some (.eptr l q γ i off)) (some v)=st4 γ P T c fr s l q i off v (s.get l q):=rfl
@[simp] theorem AOG(γ γ':Nat)(T:bp)(l q off:Nat)(v:V)(cs:List V):st3 γ P T c fr s l q off v (some (γ',.box cs))=if γ'=γ/\BI v=true/\0<P.cellsOf T/\(BH v).length=P.cellsOf T/\off+P.cellsOf T<=cs.length/\γ<c then some ⟨c,fr,s.put l q γ (.box (A9 cs off (BH v)))⟩ else none:=rfl
@[simp] theorem AOH(γ γ':Nat)(T:bp)(l q i off:Nat)(v:V)(U:bp)(es:List (List V)):st4 γ P T c fr s l q i off v (some (γ',.vec U es))=if γ'=γ/\BI v=true/\0<P.cellsOf T/\(BH v).length=P.cellsOf T/\i<es.length/\off+P.cellsOf T<=(es.getD i []).length/\γ<c then some ⟨c,fr,s.put l q γ (.vec U (es.set i (A9 (es.getD i []) off (BH v))))⟩ else none:=rfl
theorem AOI(T:bp)(x y:cj):JW P none T x y ⟨c,fr,s⟩=HJ P T c fr s (CP fr x) (CP fr y):=by
 unfold JW;simp only;cases CP fr x with
 |none=>rfl
 |some p=>
  cases CP fr y with
  |none=>cases p<;>rfl
  |some v=>
   cases p with
   |ptr l q γ off=>
    simp only[AOF]
    cases s.get l q with
    |none=>rfl
    |some z=>
     obtain⟨γ',r⟩:=z
     cases r with
     |box cs=>
      simp only[AOG,bj,bf,Nat.ble_eq,bg,and_assoc]
     |_=>rfl
   |eptr l q γ i off=>
    simp only[AJB]
    cases s.get l q with
    |none=>rfl
    |some z=>
     obtain⟨γ',r⟩:=z
     cases r with
     |vec U es=>
      simp only[AOH,bj,bf,Nat.ble_eq,bg,and_assoc]
     |_=>rfl
   |_=>rfl
@[simp] theorem A14(T:bp)(x y:cj):C7 P E none (.sto T x y) ⟨c,fr,s⟩=HJ P T c fr s (CP fr x) (CP fr y):=AOI c T x y
def apW(P:ck)(e:bp)(d c:Nat)(fr:Fr)(s:St)(l q γ n:Nat)(ys:List (List V)):Option (Nat×A0)->Option XS
 |some (γ',.vec W es)=>if γ'=γ/\W=e/\n=es.length/\es.all (fun y=>y.length==P.cellsOf e)=true/\B9 P e es.length ys=true then
   some ⟨c+1,(d,true,.vec l q c (es.length+ys.length))::fr,s.put l q c (.vec e (es++ys))⟩ else none
 |_=>none
@[simp] theorem VM(e:bp)(d:Nat)(l q γ γ' n:Nat)(ys es:List (List V))(W:bp):apW P e d c fr s l q γ n ys (some (γ',.vec W es))=if γ'=γ/\W=e/\n=es.length/\es.all (fun y=>y.length==P.cellsOf e)=true/\B9 P e es.length ys=true then
   some ⟨c+1,(d,true,.vec l q c (es.length+ys.length))::fr,s.put l q c (.vec e (es++ys))⟩ else none:=rfl
def apV(P:ck)(e:bp)(d c:Nat)(fr:Fr)(s:St)(xv:V)(ys:List (List V)):Option XS:=match IZ xv ys with
 |some es=>if es.all (fun y=>y.length==P.cellsOf e)=true/\B9 P e es.length ys=true then some ⟨c+1,(d,true,.vec s.up.length d c (es.length+ys.length))::fr,s.put s.up.length d c (.vec e (es++ys))⟩ else none
 |none=>match xv with
  |.vec l q γ n=>apW P e d c fr s l q γ n ys (SA n ys (s.get l q))
  |_=>none
@[simp] theorem rK(n γ:Nat)(ys es:List (List V))(U:bp):SA n ys (some (γ,.vec U es))=some (γ,.vec U (bA n ys es)):=rfl
@[simp] theorem A15(n:Nat)(ys:List (List V)):SA n ys none=none:=rfl
attribute [simp] WF
@[simp] theorem BFG(e:bp)(d:Nat)(ys:List (List V)):apV P e d c fr s .nil ys=if B9 P e 0 ys=true then some ⟨c+1,(d,true,.vec s.up.length d c ys.length)::fr,s.put s.up.length d c (.vec e ys)⟩ else none:=by simp[apV,IZ]
@[simp] theorem BFH(e:bp)(d:Nat)(ys:List (List V)):apV P e d c fr s (.list true []) ys=if B9 P e 0 ys=true then some ⟨c+1,(d,true,.vec s.up.length d c ys.length)::fr,s.put s.up.length d c (.vec e ys)⟩ else none:=by simp[apV,IZ]
@[simp] theorem BAV(e:bp)(d:Nat)(z y:List V)(es ys:List (List V)):apV P e d c fr s (.list true (z::es)) (y::ys)=if (z::es).all (fun y=>y.length==P.cellsOf e)=true/\B9 P e (z::es).length (y::ys)=true then
   some ⟨c+1,(d,true,.vec s.up.length d c ((z::es).length+(y::ys).length))::fr,s.put s.up.length d c (.vec e ((z::es)++(y::ys)))⟩ else none:=rfl
@[simp] theorem AOJ(e:bp)(d:Nat)(l q γ n:Nat)(ys:List (List V)):apV P e d c fr s (.vec l q γ n) ys=apW P e d c fr s l q γ n ys (SA n ys (s.get l q)):=by simp[apV,IZ]
def ap3(P:ck)(d c:Nat)(fr:Fr)(s:St):Option (Option Nat×bp)->Option V->Option V->Option XS
 |some (none,e),some xv,some yv=>ap4 e xv (elemsOf s yv)
 |_,_,_=>none
where ap4 (e:bp) (xv:V):Option (List (List V))->Option XS
 |some ys=>apV P e d c fr s xv ys
 |none=>none
@[simp] theorem AJC(d:Nat)(e:bp)(xv yv:V):ap3 P d c fr s (some (none,e)) (some xv) (some yv)=ap3.ap4 P d c fr s e xv (elemsOf s yv):=rfl
@[simp] theorem AJD(d:Nat)(e:bp)(xv:V)(ys:List (List V)):ap3.ap4 P d c fr s e xv (some ys)=apV P e d c fr s xv ys:=rfl
@[simp] theorem AOK(b:Bool)(es:List (List V)):elemsOf s (.list b es)=some es:=rfl
@[simp] theorem ARW:elemsOf s .nil=some []:=rfl
theorem ifB{α:Type}{b:Bool}{x y:α}:(Bool.rec y x b:α)=if b=true then x else y:=by cases b<;>rfl
theorem ADA{k:Nat}{e:bp}(d:Nat)(x y:Option V):ap3 P d c fr s (some (some k,e)) x y=none:=by cases x<;>cases y<;>rfl
@[simp] theorem A16(d:Tmp)(x y:cj)(T:bp):C7 P E (some d) (.app [x,y] [T,T]) ⟨c,fr,s⟩=ap3 P d c fr s (BZ P T) (CP fr x) (CP fr y):=by
 show xAppend P (some d) [x,y] [T,T] _=_;unfold xAppend xAppG;simp only[Nat.beq_refl];cases hT:BZ P T with
 |none=>cases CP fr x<;>cases CP fr y<;>rfl
 |some p=>
  obtain⟨k,e⟩:=p
  cases k with
  |some k=>rw[ADA]
  |none=>
   cases CP fr x with
   |none=>rfl
   |some xv=>
    cases CP fr y with
    |none=>rfl
    |some yv=>
     simp only[AJC]
     cases elemsOf s yv with
     |none=>rfl
     |some ys=>
      simp only[AJD,apV]
      cases IZ xv ys with
      |some es=>
       simp only[ifB,bj,bq]
       by_cases hC:es.all (fun y=>y.length==P.cellsOf e)=true/\B9 P e es.length ys=true
       ·rw[if_pos hC,if_pos hC]
       ·rw[if_neg hC,if_neg hC]
      |none=>
       simp only
       unfold pT
       cases xv with
       |vec l q γ n=>
        simp only
        cases SA n ys (s.get l q)with
        |none=>rfl
        |some z=>
         obtain⟨γ',r⟩:=z
         cases r with
         |vec W es=>
          simp only[ifB,bj,bq,VM,bg,and_assoc]
          by_cases hC:γ'=γ/\W=e/\n=es.length/\es.all (fun y=>y.length==P.cellsOf e)=true/\B9 P e es.length ys=true
          ·rw[if_pos hC,if_pos hC]
          ·rw[if_neg hC,if_neg hC]
         |_=>rfl
       |_=>rfl
def mc2:Option V->Option (List V)->Option (List V)
 |some v,some l=>some (v::l)
 |_,_=>none
@[simp] theorem BAY(v:V)(l:List V):mc2 (some v) (some l)=some (v::l):=rfl
@[simp] theorem BAZ(f:cj->Option V):F4 f []=some []:=rfl
@[simp] theorem A17(f:cj->Option V)(x:cj)(l:List cj):F4 f (x::l)=mc2 (f x) (F4 f l):=by
 simp only[F4];cases f x with
 |none=>rfl
 |some v=>cases F4 f l<;>rfl
def G6(E:XE)(d:Option Tmp)(st:XS)(f:cz)(args:List V):Option XS:=match E.cf f args st with
 |some (r,st')=>some ⟨st'.c,putD st'.fr d true r,st'.s⟩
 |none=>none
def ca1(E:XE)(d:Option Tmp)(st:XS):Option V->Option (List V)->Option XS
 |some (.fn f first cap),some vs=>G6 E d st f ((first++vs++cap).map weakV)
 |some (.yld l q γ),some vs=>ca3 (E.cy l q γ vs st)
 |_,_=>none
where ca3:Option (V×XS)->Option XS
 |some (r,st')=>some ⟨st'.c,putD st'.fr d true r,st'.s⟩
 |none=>none
@[simp] theorem AW3(st:XS)(f:cz)(first cap vs:List V):ca1 E d st (some (.fn f first cap)) (some vs)=G6 E d st f ((first++vs++cap).map weakV):=rfl
@[simp] theorem AOL(st:XS)(l q γ:Nat)(vs:List V):ca1 E d st (some (.yld l q γ)) (some vs)=ca1.ca3 d (E.cy l q γ vs st):=rfl
@[simp] theorem BA0(d:Tmp)(r:V):ca1.ca3 (some d) (some (r,⟨c,fr,s⟩))=some ⟨c,(d,true,r)::fr,s⟩:=rfl
theorem rL(st:XS)(f:cj)(args:List cj):RH E.cf E.cy d f args st=ca1 E d st (CP st.fr f) (F4 (CP st.fr) args):=by
 unfold RH;cases CP st.fr f with
 |none=>rfl
 |some v=>
  cases v with
  |fn f first cap=>
   simp only
   cases F4 (CP st.fr) args with
   |none=>rfl
   |some vs=>simp only[AW3,G6];cases E.cf f ((first++vs++cap).map weakV) st<;>rfl
  |yld l q γ=>
   simp only[uL]
   cases F4 (CP st.fr) args with
   |none=>rfl
   |some vs=>simp only[AOL];cases E.cy l q γ vs st<;>rfl
  |_=>rfl
@[simp] theorem AW4(f:cj)(args:List cj):C7 P E d (.call false none f args) ⟨c,fr,s⟩=ca1 E d ⟨c,fr,s⟩ (CP fr f) (F4 (CP fr) args):=rL d ⟨c,fr,s⟩ f args
def orK:Bool->Option V->Option V->Option V
 |true,some r,_=>some r
 |_,_,z=>z
@[simp] theorem BA1(r:V)(z:Option V):orK true (some r) z=some r:=rfl
@[simp] theorem BA2(b:Bool)(z:Option V):orK b z z=z:=by cases b<;>cases z<;>rfl
theorem rM{P:ck}{kn:CF0}{rec:HI}{f:cz}{args:List V}:F5 P kn rec f args=orK (args.all (AH 9)) (A2 P kn rec f (args.map weakN)) (A2 P kn rec f args):=by unfold F5 orK;cases A2 P kn rec f (args.map weakN)<;>cases args.all (AH 9)<;>rfl
attribute [simp] rM
@[simp] theorem A18(k:cx)(n:Int):weakN (.int k n)=.int k n:=rfl
@[simp] theorem AW6(b:Bool):weakN (.bool b)=.bool b:=rfl
@[simp] theorem A19(v:Value):weakN (.raw v)=.raw v:=rfl
@[simp] theorem AW7(b:Bool)(es:List (List V)):weakN (.list b es)=.list b es:=rfl
@[simp] theorem A2A(cs:List V):weakN (.agg cs)=.agg (cs.map weakM):=rfl
@[simp] theorem A2B:weakN .nil=.list false []:=rfl
@[simp] theorem BA3(f:cz)(x y:List V):weakN (.fn f x y)=.fn f x y:=rfl
@[simp] theorem A2C(cs:List V):weakN (.ref cs)=.ref cs:=rfl
@[simp] theorem A2D(k:cx)(n:Int):weakM (.int k n)=.int k n:=rfl
@[simp] theorem AW8(b:Bool):weakM (.bool b)=.bool b:=rfl
@[simp] theorem AW9(b:Bool)(es:List (List V)):weakM (.list b es)=.list b es:=rfl
@[simp] theorem A2E:weakM .nil=.list false []:=rfl
@[simp] theorem BA4(f:cz)(x y:List V):weakM (.fn f x y)=.fn f x y:=rfl
@[simp] theorem A2F(cs:List V):weakM (.ref cs)=.ref cs:=rfl
theorem eA{A:Ann}{kn:CF0}{n:Nat}{f:cz}{args:List V}(h:args.all (AH 9)=true)(hh:BL P f=false)(st:XS):G6 (BO P A kn n) d st f args=EL d st (orK true (A2 P kn (AE P A kn n) f (args.map weakN)) (A2 P kn (AE P A kn n) f args)):=by
 have e:orK true (A2 P kn (AE P A kn n) f (args.map weakN)) (A2 P kn (AE P A kn n) f args)=F5 P kn (AE P A kn n) f args:=by rw[rM,h]
 rw[e];show(match cT P kn (AE P A kn n) f args st with
  |some (r,st')=>some (⟨st'.c,putD st'.fr d true r,st'.s⟩:XS)
  | none=>none)=_
 unfold cT;rw[h,hh];cases F5 P kn (AE P A kn n) f args<;>rfl
end
@[simp] theorem BA5(k:cx)(n:Int):weakV (.int k n)=.int k n:=rfl
@[simp] theorem A2G(b:Bool):weakV (.bool b)=.bool b:=rfl
@[simp] theorem A2H(b:Bool)(es:List (List V)):weakV (.list b es)=.list false es:=rfl
@[simp] theorem BA6(cs:List V):weakV (.agg cs)=.agg (cs.map weakC):=rfl
@[simp] theorem A2I(k:cx)(n:Int):weakC (.int k n)=.int k n:=rfl
@[simp] theorem AXA(b:Bool):weakC (.bool b)=.bool b:=rfl
@[simp] theorem AXB(b:Bool)(es:List (List V)):weakC (.list b es)=.list false es:=rfl
@[simp] theorem A2J:weakC .nil=.nil:=rfl
@[simp] theorem BA7:weakV .nil=.nil:=rfl
@[simp] theorem BFI(f:cz)(x y:List V):weakV (.fn f x y)=.fn f x y:=rfl
@[simp] theorem AXC(f:Nat)(k:cx)(n:Int):AH (f+1) (.int k n)=true:=rfl
@[simp] theorem ARY(f:Nat)(b:Bool):AH (f+1) (.bool b)=true:=rfl
@[simp] theorem AXD(f:Nat):AH (f+1) .nil=true:=rfl
@[simp] theorem AXE(f:Nat)(cs:List V):AH (f+1) (.agg cs)=cs.all (AH f):=rfl
@[simp] theorem AXF(f:Nat)(cs:List V):AH (f+1) (.tup cs)=cs.all (AH f):=rfl
@[simp] theorem AXG(f:Nat)(cs:List V):AH (f+1) (.ref cs)=cs.all (AH f):=rfl
@[simp] theorem ARZ(f:Nat)(b:Bool)(es:List (List V)):AH (f+1) (.list b es)=es.all fun e=>e.all (AH f):=rfl
@[simp] theorem A2K(f:Nat)(g:cz)(x y:List V):AH (f+1) (.fn g x y)=(x.all (AH f)&&y.all (AH f)):=rfl
section
variable (r:cj->Option V)
def o1(f:V->Option V):Option V->Option V
 |some v=>f v
 |none=>none
@[simp] theorem BFJ(f:V->Option V)(v:V):o1 f (some v)=f v:=rfl
def o2(f:V->V->Option V):Option V->Option V->Option V
 |some a,some b=>f a b
 |_,_=>none
@[simp] theorem BFK(f:V->V->Option V)(a b:V):o2 f (some a) (some b)=f a b:=rfl
theorem VN(f:V->Option V)(x:Option V):x.bind f=o1 f x:=by cases x<;>rfl
theorem lO(f:V->V->Option V)(x y:Option V):(x.bind fun a=>y.bind fun b=>f a b)=o2 f x y:=by cases x<;>cases y<;>rfl
@[simp] theorem BKO(op:UnOp)(T:bp)(x:cj):JT P (mG (.unOp op T x)) s r=o1 (fB op) (r x):=VN _ _
@[simp] theorem BA8(T U:bp)(x:cj):JT P (mG (.convert T U x)) s r=o1 (JS P T U) (r x):=VN _ _
@[simp] theorem BA9(T:bp)(x i:cj):JT P (mG (.indexAddr T x i)) s r=o2 (B0 P s T) (r x) (r i):=lO _ _ _
@[simp] theorem A2L(T:bp)(x:cj)(f:Nat):JT P (mG (.field T x f)) s r=o1 (fun a=>I7 P T a f) (r x):=VN _ _
@[simp] theorem BFL(x:cj)(i:Nat):JT P (mG (.extract x i)) s r=o1 (fun a=>GA a i) (r x):=VN _ _
@[simp] theorem BFM(x:cj)(T:bp):JT P (mG (.call ⟨.builtin .len,#[x],#[T]⟩)) s r=o1 (II P T) (r x):=VN _ _
end
@[simp] theorem BBA(b:Bool):fB .not (.bool b)=some (.bool !b):=rfl
@[simp] theorem BBB(k:cx)(n:Int):fB .neg (.int k n)=some (.int k (k.wrap (0-n))):=rfl
@[simp] theorem AJ9(vs:List V)(i:Nat):GA (.tup vs) i=vs[i]?:=rfl
@[simp] theorem BKP(up:List AA)(loc:AA)(l k g:Nat)(r:A0):St.put ⟨up,loc⟩ l k g r=if l=up.length then⟨up,(k,g,r)::loc⟩ else⟨up.modify l fun L=>L.put k g r,loc⟩:=rfl
def upG(k:Nat):Option AA->Option (Nat×A0)
 |some L=>L.get k
 |none=>none
@[simp] theorem BBC(k:Nat)(L:AA):upG k (some L)=L.get k:=rfl
@[simp] theorem AJE(up:List AA)(loc:AA)(l k:Nat):St.get ⟨up,loc⟩ l k=if l=up.length then loc.get k else upG k up[l]?:=rfl
def kx(k:Nat)(r:Fr):Option (Bool×V)->Fr
 |some (c,v)=>(k,c,v)::r
 |none=>r
@[simp] theorem BFN(k:Nat)(r:Fr)(c:Bool)(v:V):kx k r (some (c,v))=(k,c,v)::r:=rfl
@[simp] theorem BFO(k:Nat)(r:Fr):kx k r none=r:=rfl
@[simp] theorem A2M:RJ [] fr=[]:=rfl
@[simp] theorem AXH(k:Nat)(ks:List Nat):RJ (k::ks) fr=kx k (RJ ks fr) (BC fr k):=by show(match BC fr k with|some (c,v)=>(k,c,v)::RJ ks fr|none=>RJ ks fr)=_;cases BC fr k<;>rfl
def kl(k:Nat)(r:AA):Option (Nat×A0)->AA
 |some (g,x)=>(k,g,x)::r
 |none=>r
@[simp] theorem BFP(k:Nat)(r:AA)(g:Nat)(x:A0):kl k r (some (g,x))=(k,g,x)::r:=rfl
@[simp] theorem BFQ(k:Nat)(r:AA):kl k r none=r:=rfl
@[simp] theorem A2N(L:AA):JH [] L=[]:=rfl
@[simp] theorem AXI(k:Nat)(ks:List Nat)(L:AA):JH (k::ks) L=kl k (JH ks L) (L.get k):=by unfold kl;simp only[JH];cases L.get k<;>rfl
@[simp] theorem BBD(ks ls:List Nat)(c:Nat)(fr:Fr)(up:List AA)(loc:AA):CK (some (ks,ls)) ⟨c,fr,⟨up,loc⟩⟩=⟨c,RJ ks fr,⟨up,JH ls loc⟩⟩:=rfl
@[simp] theorem AXJ:CK none st=st:=rfl
@[simp] theorem BKQ:OR (some st)=some (.normal,st):=rfl
@[simp] theorem BBE:OR none=none:=rfl
@[simp] theorem BFR(c:Prop)[Decidable c](x y:Option XS):OR (if c then x else y)=if c then OR x else OR y:=by split<;>rfl
@[simp] theorem BBF(l:List JO):JM P E (.str l) st=PZ P E l (some st):=rfl
@[simp] theorem BBG(S:List rG):JM P E (.drw S) st=XC P E S (some st):=rfl
@[simp] theorem BBH(ks:List (Nat×Nat×Nat)):JM P E (.cls ks) st=SO P ks (some st):=rfl
@[simp] theorem BBI(o:Option XS):SO P [] o=o:=rfl
@[simp] theorem A2O(T a d:Nat)(r:List (Nat×Nat×Nat))(st:XS):SO P ((T,a,d)::r) (some st)=SO P r (if vF (CP st.fr (.tmp a))=true then EL (some d) st (OD P st.fr st.s T (.tmp a)) else none):=by
 show SO P r (Bool.rec _ _ (vF (CP st.fr (.tmp a))))=_;cases vF (CP st.fr (.tmp a))with
 |false=>rfl
 |true=>
  simp only[if_true]
  congr 1
@[simp] theorem BBJ(l k g o:Nat):vF (some (.ptr l k g o))=true:=rfl
@[simp] theorem BBK(rs:List ResultVar):YP P rs (some (.ret,st))=YP.finV st.s (GB P rs st.fr st.s):=rfl
@[simp] theorem AR0(rs:List ResultVar):YP P rs (some (.normal,st))=YP.finV st.s (GB P rs st.fr st.s):=rfl
def AXK:Option V->Option V
 |some r=>if AH 9 r=true then some r else none
 |none=>none
@[simp] theorem A2P(r:V):AXK (some r)=if AH 9 r=true then some r else none:=rfl
@[simp] theorem A2Q(v:V):YP.finV s (some v)=AXK (A7 s 4 v):=by
 unfold YP.finV AXK;simp only;cases A7 s 4 v with
 |none=>rfl
 |some r=>simp only[ifB]
@[simp] theorem AXL(t:Tmp):CV P fr s (.tmp t)=rdT (BC fr t):=by
 rw[FT];show(match fr.get t with
  |some (true,v)=>some v
  | _=>none)=_
 cases fr.get t with
 |none=>rfl
 |some p=>obtain⟨c,v⟩:=p;cases c<;>rfl
@[simp] theorem BBL(x:ResultVar):GB P [x] fr s=CV P fr s x:=by unfold GB;simp only[bz,bh];cases CV P fr s x<;>rfl
def re2:Option V->Option V->Option V
 |some a,some b=>some (.tup [a,b])
 |_,_=>none
@[simp] theorem BBM(a b:V):re2 (some a) (some b)=some (.tup [a,b]):=rfl
@[simp] theorem BBN(x y:ResultVar):GB P [x,y] fr s=re2 (CV P fr s x) (CV P fr s y):=by unfold GB;simp only[bz,bh];cases CV P fr s x<;>cases CV P fr s y<;>rfl
def re3:Option V->Option V->Option V->Option V
 |some a,some b,some c=>some (.tup [a,b,c])
 |_,_,_=>none
@[simp] theorem BBO(a b c:V):re3 (some a) (some b) (some c)=some (.tup [a,b,c]):=rfl
@[simp] theorem AXM(x y z:ResultVar):GB P [x,y,z] fr s=re3 (CV P fr s x) (CV P fr s y) (CV P fr s z):=by unfold GB;simp only[bz,bh];cases CV P fr s x<;>cases CV P fr s y<;>cases CV P fr s z<;>rfl
@[simp] theorem AXN(f:Nat)(k:cx)(n:Int):A7 s (f+1) (.int k n)=some (.int k n):=rfl
@[simp] theorem AR1(f:Nat)(b:Bool):A7 s (f+1) (.bool b)=some (.bool b):=rfl
@[simp] theorem AXO(f:Nat):A7 s (f+1) .nil=some .nil:=rfl
@[simp] theorem AR2(f:Nat)(b:Bool)(es:List (List V)):A7 s (f+1) (.list b es)=some (.list false es):=rfl
def lP(mk:List V->V):Option (List V)->Option V
 |some l=>some (mk l)
 |none=>none
@[simp] theorem BBP(mk:List V->V)(l:List V):lP mk (some l)=some (mk l):=rfl
def Q7(f:V->Option V):List V->Option (List V)
 |[]=>some []
 |v::l=>mc2 (f v) (Q7 f l)
theorem VO(f:V->Option V):∀(l:List V),l.mapM f=Q7 f l
 |[]=>rfl
 |v::l=>by simp only[bz,Q7,VO f l];cases f v<;>cases Q7 f l<;>rfl
@[simp] theorem BBQ(f:V->Option V):Q7 f []=some []:=rfl
@[simp] theorem A2R(f:V->Option V)(v:V)(l:List V):Q7 f (v::l)=mc2 (f v) (Q7 f l):=rfl
@[simp] theorem AXP(f:Nat)(cs:List V):A7 s (f+1) (.agg cs)=lP .agg (Q7 (A7 s f) cs):=by simp only[A7,VO];cases Q7 (A7 s f) cs<;>rfl
@[simp] theorem AXQ(f:Nat)(cs:List V):A7 s (f+1) (.tup cs)=lP .tup (Q7 (A7 s f) cs):=by simp only[A7,VO];cases Q7 (A7 s f) cs<;>rfl
def cv1(g m:Nat):Option (Nat×A0)->Option V
 |some (g',.vec _ es)=>if g'=g/\m<=es.length then some (.list false (es.take m)) else none
 |_=>none
@[simp] theorem AJF(g m g':Nat)(T:bp)(es:List (List V)):cv1 g m (some (g',.vec T es))=if g'=g/\m<=es.length then some (.list false (es.take m)) else none:=rfl
@[simp] theorem eB(f:Nat)(up:List AA)(loc:AA)(l k g m:Nat):A7 ⟨up,loc⟩ (f+1) (.vec l k g m)=if l=up.length then cv1 g m (loc.get k) else some (.vec l k g m):=by
 simp only[A7];split
 ·cases loc.get k with
  |none=>rfl
  |some z=>obtain⟨g',r⟩:=z;cases r<;>rfl
 ·rfl
@[simp] theorem AR3(t:Nat)(T:bp):CV P fr s (.cell t T)=ld1 P s T (rdT (BC fr t)):=by
 rw[FT];show(match fr.get t with
  |some (true,p)=>(BG s p).bind (BR P T)
  | _=>none)=_
 cases fr.get t with
 |none=>rfl
 |some p=>
  obtain⟨c,v⟩:=p
  cases c with
  |false=>rfl
  |true=>
   simp only[AI9,AJA]
   cases BG s v<;>rfl
section
variable (d:Option Tmp)(c:Nat)
@[simp] theorem BBR(r:Option XS):XC P E [] r=r:=rfl
@[simp] theorem A2S(p:rG)(S:List rG)(r:Option XS):XC P E (p::S) r=XC P E S (PZ P E p.sq (dY (XB P E p.ph (AIW p.new r)))):=rfl
@[simp] theorem BBS(r:Option (XS×AM×AM)):XB P E [] r=r:=rfl
@[simp] theorem A2T(i:JO)(l:List JO)(r:Option (XS×AM×AM)):XB P E (i::l) r=XB P E l (rF P E i r):=rfl
@[simp] theorem BFS(new:List Tmp)(up:List AA)(loc:AA):AIW new (some ⟨c,fr,⟨up,loc⟩⟩)=if (new.all fun d=>(loc.get d).isNone)=true then some (⟨c,fr,⟨up,loc⟩⟩,[],[]) else none:=by show(Bool.rec none _ _:Option _)=_;rw[ifB];rfl
@[simp] theorem A2U(rd wr:AM):dY (some (st,rd,wr))=if (wr.all fun p=>!(rd.contains p))=true then some st else none:=by show(Bool.rec none _ _:Option _)=_;rw[ifB]
@[simp] theorem A2V:dY none=none:=rfl
@[simp] theorem BBT(c:Prop)[Decidable c](x y:Option (XS×AM×AM)):dY (if c then x else y)=if c then dY x else dY y:=by split<;>rfl
@[simp] theorem A2W(i:JO):rF P E i none=none:=rfl
@[simp] theorem BBU(i:JO)(c:Prop)[Decidable c](x y:Option (XS×AM×AM)):rF P E i (if c then x else y)=if c then rF P E i x else rF P E i y:=by split<;>rfl
@[simp] theorem BBV(l:List JO)(c:Prop)[Decidable c](x y:Option (XS×AM×AM)):XB P E l (if c then x else y)=if c then XB P E l x else XB P E l y:=by split<;>rfl
@[simp] theorem BBW(l:List rG)(c:Prop)[Decidable c](x y:Option XS):XC P E l (if c then x else y)=if c then XC P E l x else XC P E l y:=by split<;>rfl
def ph3(rds rd wr:AM):Option (XS×AM)->Option (XS×AM×AM)
 |some (st,w)=>some (st,rds++rd,w++wr)
 |none=>none
@[simp] theorem BBX(rds rd wr w:AM):ph3 rds rd wr (some (st,w))=some (st,rds++rd,w++wr):=rfl
@[simp] theorem BBY(rds rd wr:AM):ph3 rds rd wr none=none:=rfl
@[simp] theorem BFT(rds rd wr:AM)(c:Prop)[Decidable c](x y:Option (XS×AM)):ph3 rds rd wr (if c then x else y)=if c then ph3 rds rd wr x else ph3 rds rd wr y:=by split<;>rfl
@[simp] theorem A2Y(i:JO)(rd wr:AM):rF P E i (some (st,rd,wr))=ph3 (IC P i.k (CP st.fr)) rd wr (XA P E i st):=by show(match XA P E i st with|some (st',w)=>some (st',IC P i.k (CP st.fr)++rd,w++wr)|none=>none)=_;cases XA P E i st<;>rfl
@[simp] theorem A2Z(k:IK):XA P E ⟨none,d,k⟩ st=DS P E d k st:=rfl
def gI0(P:ck)(E:XE)(d:Option Tmp)(k:IK)(st:XS)(w:Bool)(r:Option (Bool×V)):Option (XS×AM):=match r with
 |some (c,.bool b)=>if (c&&(b==w))=true then DS P E d k st else if C0 k=true then none else some (IJ d st,[])
 |_=>none
@[simp] theorem AXR(t:Tmp)(w:Bool)(k:IK):XA P E ⟨some (t,w),d,k⟩ st=gI0 P E d k st w (BC st.fr t):=by
 show(match(match BC st.fr t with | some (c,.bool b)=>some (c&&(b == w)) | _=>none:Option Bool)with
  |some true=>DS P E d k st
  |some false=>Bool.rec (some (IJ d st,[])) none (C0 k)
  | none=>none)=_
 unfold gI0;cases BC st.fr t with
 |none=>rfl
 |some p=>
  obtain⟨c,v⟩:=p
  cases v with
  |bool b=>cases h:(c&&(b==w))<;>simp[h,ifB]
  |_=>rfl
@[simp] theorem BBZ(k:IK)(w c b:Bool):gI0 P E d k st w (some (c,.bool b))=if (c&&(b==w))=true then DS P E d k st else if C0 k=true then none else some (IJ d st,[]):=rfl
@[simp] theorem BKS(T:bp)(x:cj)(f:cj->Option V):IC P (.ld T x) f=BV (bx (P.cellsOf T) 1) (f x):=rfl
@[simp] theorem AXS(x y:cj)(f:cj->Option V):KV f [x,y]=FS (f y):=rfl
@[simp] theorem AOM(b:Bool)(es:List (List V)):FS (some (.list b es))=[]:=rfl
@[simp] theorem AR4:FS (some .nil)=[]:=rfl
@[simp] theorem AR5(l k γ n:Nat):FS (some (.vec l k γ n))=[(l,k)]:=rfl
@[simp] theorem BKT(x:cj)(f:cj->Option V):IC P (.mv x) f=[]:=rfl
@[simp] theorem BFU(op:BinOp)(T:bp)(x y:cj)(f:cj->Option V):IC P (.bin op T x y) f=[]:=rfl
@[simp] theorem BKU(T:bp)(x:cj)(i:Nat)(f:cj->Option V):IC P (.fa T x i) f=[]:=rfl
@[simp] theorem BB0(x y z:cj)(f:cj->Option V):IC P (.pick x y z) f=[]:=rfl
@[simp] theorem A20(T:bp)(ps:List (Nat×cj))(f:cj->Option V):IC P (.build T ps) f=[]:=rfl
@[simp] theorem AXT(T:bp)(n:Nat)(ps:List (Nat×cj))(f:cj->Option V):IC P (.buildS T n ps) f=[]:=rfl
@[simp] theorem A21(T:bp)(f:cj->Option V):IC P (.alloc T) f=[]:=rfl
@[simp] theorem BFV(x:cj)(f:cj->Option V):IC P (.box x) f=[]:=rfl
@[simp] theorem BFW(T:bp)(x y:cj)(f:cj->Option V):IC P (.sto T x y) f=[]:=rfl
@[simp] theorem BFX(x:List cj)(y:List bp)(f:cj->Option V):IC P (.app x y) f=KV f x:=rfl
@[simp] theorem BB1(b:Bool)(t:Option Tmp)(g:cj)(x:List cj)(f:cj->Option V):IC P (.call b t g x) f=[]:=rfl
@[simp] theorem BB2(T:bp)(x i:cj)(f:cj->Option V):IC P (.oth (.indexAddr T x i)) f=KU (f x):=rfl
@[simp] theorem BKV(op:UnOp)(T:bp)(x:cj)(f:cj->Option V):IC P (.oth (.unOp op T x)) f=[]:=rfl
@[simp] theorem BFY(x:cj)(i:Nat)(f:cj->Option V):IC P (.oth (.extract x i)) f=[]:=rfl
@[simp] theorem BFZ(x:cj)(T:bp)(b:Builtin)(f:cj->Option V):IC P (.oth (.call ⟨.builtin b,#[x],#[T]⟩)) f=[]:=by cases b<;>rfl
@[simp] theorem BKW(g:Fn)(x y:Array cj)(f:cj->Option V):IC P (.oth (.makeFunc g x y)) f=[]:=rfl
def nw:Option XS->Option (XS×AM)
 |some st=>some (st,[])
 |none=>none
@[simp] theorem BF0:nw (some st)=some (st,[]):=rfl
@[simp] theorem BF1:nw none=none:=rfl
@[simp] theorem BKX(c:Prop)[Decidable c](x y:Option XS):nw (if c then x else y)=if c then nw x else nw y:=by split<;>rfl
theorem G7(r:Option XS):VC r=nw r:=by cases r<;>rfl
@[simp] theorem BB3(x:cj):DS P E d (.mv x) st=nw (C7 P E d (.mv x) st):=G7 _
@[simp] theorem A22(op:BinOp)(T:bp)(x y:cj):DS P E d (.bin op T x y) st=nw (C7 P E d (.bin op T x y) st):=G7 _
@[simp] theorem BB4(T:bp)(x:cj)(f:Nat):DS P E d (.fa T x f) st=nw (C7 P E d (.fa T x f) st):=G7 _
@[simp] theorem A23(T:bp)(x:cj):DS P E d (.ldz T x) st=DS P E d (.ld T x) st:=rfl
@[simp] theorem A24(T:bp)(x:cj):C7 P E d (.ldz T x) st=C7 P E d (.ld T x) st:=rfl
@[simp] theorem BF2(T:bp)(x:cj)(f:cj->Option V):IC P (.ldz T x) f=[]:=rfl
@[simp] theorem BB5(T:bp)(x:cj):DS P E d (.ld T x) st=nw (C7 P E d (.ld T x) st):=G7 _
@[simp] theorem AXU(x y z:cj):DS P E d (.pick x y z) st=nw (C7 P E d (.pick x y z) st):=G7 _
@[simp] theorem AR6(T:bp)(ps:List (Nat×cj)):DS P E d (.build T ps) st=nw (C7 P E d (.build T ps) st):=G7 _
@[simp] theorem AON(T:bp)(n:Nat)(ps:List (Nat×cj)):DS P E d (.buildS T n ps) st=nw (C7 P E d (.buildS T n ps) st):=G7 _
@[simp] theorem A25(op:Op):DS P E d (.oth op) st=nw (C7 P E d (.oth op) st):=G7 _
@[simp] theorem AR7(T:bp):DS P E d (.alloc T) st=nw (C7 P E d (.alloc T) st):=G7 _
@[simp] theorem A26(x:cj):DS P E d (.box x) st=nw (C7 P E d (.box x) st):=G7 _
@[simp] theorem A27(x:Option cj):DS P E d (.mkM x) st=nw (C7 P E d (.mkM x) st):=G7 _
@[simp] theorem A28(T:bp)(x y:cj):DS P E d (.mkS T x y) st=nw (C7 P E d (.mkS T x y) st):=G7 _
def wp(p:AM):Option XS->Option (XS×AM)
 |some st=>some (st,p)
 |none=>none
@[simp] theorem BF3(p:AM):wp p (some st)=some (st,p):=rfl
@[simp] theorem BF4(p:AM):wp p none=none:=rfl
@[simp] theorem BKY(p:AM)(c:Prop)[Decidable c](x y:Option XS):wp p (if c then x else y)=if c then wp p x else wp p y:=by split<;>rfl
@[simp] theorem A29(T:bp)(x y:cj):DS P E d (.sto T x y) st=wp (B7 (bx (P.cellsOf T) 1) (CP st.fr x)) (C7 P E d (.sto T x y) st):=by show(match JW P d T x y st with|some st'=>some (st',B7 (bx (P.cellsOf T) 1) (CP st.fr x))|none=>none)=wp _ (JW P d T x y st);cases JW P d T x y st<;>rfl
@[simp] theorem BB6(x:Option V):BV false x=BD x:=by cases x<;>rfl
@[simp] theorem AXV(l k g o:Nat):BV true (some (.ptr l k g o))=[(l,k+2000000),(l,k+4000000),(l,6000000+1000*k+o)]:=rfl
@[simp] theorem AR8(l k g i o:Nat):BV true (some (.eptr l k g i o))=[(l,k+2000000),(l,k+4000000),(l,6000000+1000*k+o)]:=rfl
@[simp] theorem AXW(b:Bool)(cs:List V):BV b (some (.ref cs))=[]:=by cases b<;>rfl
@[simp] theorem AXX(l k g o:Nat):B7 true (some (.ptr l k g o))=[(l,k),(l,6000000+1000*k+o)]:=rfl
@[simp] theorem AR9(l k g i o:Nat):B7 true (some (.eptr l k g i o))=[(l,k),(l,6000000+1000*k+o)]:=rfl
@[simp] theorem ASA(l k g o:Nat):B7 false (some (.ptr l k g o))=[(l,k),(l,k+4000000)]:=rfl
@[simp] theorem AOO(l k g i o:Nat):B7 false (some (.eptr l k g i o))=[(l,k),(l,k+4000000)]:=rfl
@[simp] theorem ASB(l k g o:Nat):BD (some (.ptr l k g o))=[(l,k)]:=rfl
@[simp] theorem AOP(l k g i o:Nat):BD (some (.eptr l k g i o))=[(l,k)]:=rfl
@[simp] theorem ASC(cs:List V):BD (some (.ref cs))=[]:=rfl
@[simp] theorem AXY(l k g o:Nat):KU (some (.ptr l k g o))=[]:=rfl
@[simp] theorem AXZ(l k g n:Nat):KU (some (.vec l k g n))=[(l,k+GK)]:=rfl
@[simp] theorem ASD(b:Bool)(es:List (List V)):KU (some (.list b es))=[]:=rfl
@[simp] theorem AX0(cs:List V):KU (some (.ref cs))=[]:=rfl
def c01(E:XE)(d:Option Tmp)(st:XS):Option V->Option (List V)->Option XS
 |some (.fn f first cap),some vs=>EL d st (E.c0 f ((first++vs++cap).map weakV))
 |_,_=>none
@[simp] theorem AX1(f:cz)(first cap vs:List V):c01 E d st (some (.fn f first cap)) (some vs)=EL d st (E.c0 f ((first++vs++cap).map weakV)):=rfl
@[simp] theorem AX2(t:Option Tmp)(f:cj)(args:List cj):DS P E d (.call false t f args) ⟨c,fr,s⟩=nw (c01 E d ⟨c,fr,s⟩ (CP fr f) (F4 (CP fr) args)):=by
 show VC (cO E.c0 d f args ⟨c,fr,s⟩)=_;rw[G7];congr 1;unfold cO;cases hf:CP fr f with
 |none=>simp only[c01]
 |some v=>
  cases v with
  |fn g first cap=>
   simp only
   cases hm:F4 (CP fr) args with
   |none=>simp only[c01]
   |some vs=>
    simp only[AX1]
    cases E.c0 g ((first++vs++cap).map weakV)<;>rfl
  |_=>simp only[c01]
@[simp] theorem BKZ{A:Ann}{kn:CF0}{n:Nat}:(BO P A kn n).c0=F5 P kn (AE P A kn n):=rfl
end
theorem vX{A:Ann}{kn:CF0}{n N:Nat}(a b:cw):pZ (AE P A kn n N) a b st (some (.bool true))=AE P A kn n N a st:=rfl
theorem rN{A:Ann}{kn:CF0}{n N:Nat}(a b:cw):pZ (AE P A kn n N) a b st (some (.bool false))=AE P A kn n N b st:=rfl
attribute [simp] AI4 vU AC7 AI2 AC3 vS AC4 AC5 AC6 AI3 vT rI AI5 AC8 AI6 fT vV rJ vW vX rN AI8
end Go.Pg
namespace Go.Pg
variable {P:ck}{E:XE}{st:XS}{fr:Fr}{s:St}
@[simp] theorem AX3(k:cx)(n:Int):BH (.int k n)=[.int k n]:=rfl
@[simp] theorem ASE(b:Bool):BH (.bool b)=[.bool b]:=rfl
@[simp] theorem AX4(cs:List V):BH (.agg cs)=cs:=rfl
@[simp] theorem ASF(b:Bool)(es:List (List V)):BH (.list b es)=[.list b es]:=rfl
@[simp] theorem AX5:BH .nil=[.nil]:=rfl
@[simp] theorem AX6(l k g n:Nat):BH (.vec l k g n)=[.vec l k g n]:=rfl
@[simp] theorem A3A(l k g:Nat):BH (.mp l k g)=[.mp l k g]:=rfl
@[simp] theorem A3B(f:cz)(x y:List V):BH (.fn f x y)=[.fn f x y]:=rfl
@[simp] theorem AX7(l k g n:Nat):BH (.ptr l k g n)=[.ptr l k g n]:=rfl
@[simp] theorem AX8(cs:List V):BH (.ref cs)=[.ref cs]:=rfl
@[simp] theorem AX9(k:cx)(n:Int):BI (.int k n)=true:=rfl
@[simp] theorem ASG(b:Bool):BI (.bool b)=true:=rfl
@[simp] theorem AYA(cs:List V):BI (.agg cs)=true:=rfl
@[simp] theorem ASH(b:Bool)(es:List (List V)):BI (.list b es)=true:=rfl
@[simp] theorem AYB:BI .nil=true:=rfl
@[simp] theorem AYC(l k g n:Nat):BI (.vec l k g n)=true:=rfl
@[simp] theorem A3C(l k g:Nat):BI (.mp l k g)=true:=rfl
@[simp] theorem A3D(f:cz)(x y:List V):BI (.fn f x y)=true:=rfl
@[simp] theorem AYD(l k g n:Nat):BI (.ptr l k g n)=true:=rfl
@[simp] theorem AYE(cs:List V):BI (.ref cs)=true:=rfl
@[simp] theorem A3E(op:BinOp)(T:bp)(k j:cx)(a b:Int):HU P op T (.int k a) (.int j b)=if k=j then E7 op k a b else aQ op k a b:=rfl
@[simp] theorem BB8(k:cx)(a b:Int):aQ .shl k a b=if b<0 then none else some (.int k (k.wrap (a*2 ^ (min b.toNat k.bits)))):=rfl
@[simp] theorem VP(k:cx)(a b:Int):aQ .shr k a b=if b<0 then none else some (.int k (a.fdiv (2 ^ (min b.toNat k.bits)))):=rfl
section
variable (k:cx)(a b:Int)
@[simp] theorem A3F:E7 .add k a b=some (.int k (k.wrap (a+b))):=rfl
@[simp] theorem A3G:E7 .sub k a b=some (.int k (k.wrap (a-b))):=rfl
@[simp] theorem A3H:E7 .mul k a b=some (.int k (k.wrap (a*b))):=rfl
@[simp] theorem A3I:E7 .quo k a b=if b=0 then none else some (.int k (k.wrap (a.tdiv b))):=rfl
@[simp] theorem A3J:E7 .rem k a b=if b=0 then none else some (.int k (a.tmod b)):=rfl
@[simp] theorem A3K:E7 .and k a b=some (.int k (k.wrap (BitVec.ofInt k.bits a &&& BitVec.ofInt k.bits b).toNat)):=rfl
@[simp] theorem BB9:E7 .or k a b=some (.int k (k.wrap (BitVec.ofInt k.bits a ||| BitVec.ofInt k.bits b).toNat)):=rfl
@[simp] theorem AOQ:E7 .andNot k a b=some (.int k (k.wrap (BitVec.ofInt k.bits a &&& ~~~ BitVec.ofInt k.bits b).toNat)):=rfl
@[simp] theorem A3L:E7 .shl k a b=if b<0 then none else some (.int k (k.wrap (a*2 ^ (min b.toNat k.bits)))):=rfl
@[simp] theorem A3M:E7 .shr k a b=if b<0 then none else some (.int k (a.fdiv (2 ^ (min b.toNat k.bits)))):=rfl
@[simp] theorem A3N:E7 .eql k a b=some (.bool (decide (a=b))):=by show some (V.bool (a==b))=_;congr 2
@[simp] theorem A3O:E7 .neq k a b=some (.bool (!decide (a=b))):=by show some (V.bool (a != b))=_;congr 2
@[simp] theorem A3P:E7 .lss k a b=some (.bool (decide (a<b))):=rfl
@[simp] theorem A3Q:E7 .leq k a b=some (.bool (decide (a<=b))):=rfl
@[simp] theorem A3R:E7 .gtr k a b=some (.bool (decide (b<a))):=rfl
@[simp] theorem A3S:E7 .geq k a b=some (.bool (decide (b<=a))):=rfl
end
theorem AU{x:Int}(h1:-9223372036854775808<=x)(h2:x<9223372036854775808):IntKind.i64.wrap x=x:=by simp only[IntKind.wrap,IntKind.bits,IntKind.signed];simp;omega
@[simp] theorem ASI(T:bp)(a b:Bool):HU P .eql T (.bool a) (.bool b)=if yD P T=true then some (.bool (a==b)) else none:=rfl
@[simp] theorem ASJ(T:bp)(a b:Bool):HU P .neq T (.bool a) (.bool b)=if yD P T=true then some (.bool (a != b)) else none:=rfl
def bl1(f:Bool->Bool):Option Bool->Option V
 |some b=>some (.bool (f b))
 |none=>none
@[simp] theorem BCA(f:Bool->Bool)(b:Bool):bl1 f (some b)=some (.bool (f b)):=rfl
@[simp] theorem AYF(T:bp)(cs ds:List V):HU P .eql T (.agg cs) (.agg ds)=bl1 (fun b=>b) (R9 P T cs ds):=by show(R9 P T cs ds).map V.bool=_;cases R9 P T cs ds<;>rfl
@[simp] theorem AYG(T:bp)(cs ds:List V):HU P .neq T (.agg cs) (.agg ds)=bl1 (fun b=>!b) (R9 P T cs ds):=by show(R9 P T cs ds).map (fun b=>V.bool !b)=_;cases R9 P T cs ds<;>rfl
def faP(P:ck)(x:V):Option (bp×Nat)->Option V
 |some (U,off)=>if P.cellsOf U=0 then none else match x with
  |.ref cs=>some (.ref (cs.drop off))
  |.ptr l k g o=>some (.ptr l k g (o+off))
  |.eptr l k g i o=>some (.eptr l k g i (o+off))
  |_=>none
 |none=>none
@[simp] theorem BF5(T:bp)(x:V)(f:Nat):DH P T x f=faP P x (A5 P T f):=by unfold DH faP;cases A5 P T f<;>rfl
@[simp] theorem BF6(U:bp)(off:Nat)(cs:List V):faP P (.ref cs) (some (U,off))=if P.cellsOf U=0 then none else some (.ref (cs.drop off)):=rfl
@[simp] theorem BF7(U:bp)(off l k g o:Nat):faP P (.ptr l k g o) (some (U,off))=if P.cellsOf U=0 then none else some (.ptr l k g (o+off)):=rfl
@[simp] theorem BCC(U:bp)(off l k g i o:Nat):faP P (.eptr l k g i o) (some (U,off))=if P.cellsOf U=0 then none else some (.eptr l k g i (o+off)):=rfl
def fd1(P:ck)(x:V):Option (bp×Nat)->Option V
 |some (U,off)=>match x with
  |.agg cs=>MO P U cs off
  |_=>none
 |none=>none
@[simp] theorem AYH(T:bp)(x:V)(f:Nat):I7 P T x f=fd1 P x (A5 P T f):=by unfold I7 fd1;cases x<;>cases A5 P T f<;>rfl
@[simp] theorem BF8(U:bp)(off:Nat)(cs:List V):fd1 P (.agg cs) (some (U,off))=MO P U cs off:=rfl
def cb(g off:Nat):Option (Nat×A0)->Option (List V)
 |some (g',.box cs)=>if g'=g then some (cs.drop off) else none
 |_=>none
@[simp] theorem BF9(g g' off:Nat)(cs:List V):cb g off (some (g',.box cs))=if g'=g then some (cs.drop off) else none:=rfl
def ce(g i off:Nat):Option (Nat×A0)->Option (List V)
 |some (g',.vec _ es)=>if g'=g then(es[i]?).map (·.drop off) else none
 |_=>none
@[simp] theorem BGA(g g' i off:Nat)(T:bp)(es:List (List V)):ce g i off (some (g',.vec T es))=if g'=g then(es[i]?).map (·.drop off) else none:=rfl
@[simp] theorem ASK(cs:List V):BG s (.ref cs)=some cs:=rfl
@[simp] theorem ASL(l k g off:Nat):BG s (.ptr l k g off)=cb g off (s.get l k):=by
 unfold cb;simp only[BG];cases s.get l k with
 |none=>rfl
 |some z=>obtain⟨g',r⟩:=z;cases r<;>rfl
@[simp] theorem AOR(l k g i off:Nat):BG s (.eptr l k g i off)=ce g i off (s.get l k):=by
 unfold ce;simp only[BG];cases s.get l k with
 |none=>rfl
 |some z=>obtain⟨g',r⟩:=z;cases r<;>rfl
def iv(P:ck)(e:bp)(l k g n:Nat)(j:Int):Option (Nat×A0)->Option V
 |some (g',.vec _ es)=>if g'=g/\0<=j/\j<n/\n<=es.length/\(es.getD j.toNat []).length=P.cellsOf e/\0<P.cellsOf e then some (.eptr l k g j.toNat 0) else none
 |_=>none
@[simp] theorem BGB(e:bp)(l k g g' n:Nat)(j:Int)(T:bp)(es:List (List V)):iv P e l k g n j (some (g',.vec T es))=if g'=g/\0<=j/\j<n/\n<=es.length/\(es.getD j.toNat []).length=P.cellsOf e/\0<P.cellsOf e then some (.eptr l k g j.toNat 0) else none:=rfl
def ia(P:ck)(s:St)(x i:V):Option (Option Nat×bp)->Option V
 |some (none,e)=>match x,i with
  |.list _ es,.int _ j=>if 0<=j/\j<es.length/\(es.getD j.toNat []).length=P.cellsOf e/\0<P.cellsOf e then some (.ref (es.getD j.toNat [])) else none
  |.vec l k g n,.int _ j=>iv P e l k g n j (s.get l k)
  |_,_=>none
 |some (some n,e)=>match x,i with
  |.ref cs,.int _ j=>if 0<=j/\j<n/\0<P.cellsOf e then some (.ref (cs.drop (j.toNat*P.cellsOf e))) else none
  |.ptr l k g o,.int _ j=>if 0<=j/\j<n/\0<P.cellsOf e then some (.ptr l k g (o+j.toNat*P.cellsOf e)) else none
  |.eptr l k g i' o,.int _ j=>if 0<=j/\j<n/\0<P.cellsOf e then some (.eptr l k g i' (o+j.toNat*P.cellsOf e)) else none
  |_,_=>none
 |none=>none
@[simp] theorem BGC(T:bp)(x i:V):B0 P s T x i=ia P s x i (BZ P T):=by
 unfold B0 ia;cases BZ P T with
 |none=>rfl
 |some z=>
  obtain⟨n,e⟩:=z
  cases n with
  |some n=>cases x<;>cases i<;>rfl
  |none=>
   cases x with
   |vec l k g n=>
    cases i with
    |int q j=>
     simp only[iv]
     cases s.get l k with
     |none=>rfl
     |some z=>obtain⟨g',r⟩:=z;cases r<;>rfl
    |_=>rfl
   |_=>cases i<;>rfl
@[simp] theorem BGD(e:bp)(b:Bool)(es:List (List V))(k:cx)(j:Int):ia P s (.list b es) (.int k j) (some (none,e))=if 0<=j/\j<es.length/\(es.getD j.toNat []).length=P.cellsOf e/\0<P.cellsOf e then some (.ref (es.getD j.toNat [])) else none:=rfl
@[simp] theorem BK2(e:bp)(l q g n:Nat)(k:cx)(j:Int):ia P s (.vec l q g n) (.int k j) (some (none,e))=iv P e l q g n j (s.get l q):=rfl
@[simp] theorem BK3(n:Nat)(e:bp)(cs:List V)(k:cx)(j:Int):ia P s (.ref cs) (.int k j) (some (some n,e))=if 0<=j/\j<n/\0<P.cellsOf e then some (.ref (cs.drop (j.toNat*P.cellsOf e))) else none:=rfl
@[simp] theorem BK4(n:Nat)(e:bp)(l q g o:Nat)(k:cx)(j:Int):ia P s (.ptr l q g o) (.int k j) (some (some n,e))=if 0<=j/\j<n/\0<P.cellsOf e then some (.ptr l q g (o+j.toNat*P.cellsOf e)) else none:=rfl
@[simp] theorem BGE(n:Nat)(e:bp)(l q g i o:Nat)(k:cx)(j:Int):ia P s (.eptr l q g i o) (.int k j) (some (some n,e))=if 0<=j/\j<n/\0<P.cellsOf e then some (.eptr l q g i (o+j.toNat*P.cellsOf e)) else none:=rfl
def ix(P:ck)(x i:V):Option (Option Nat×bp)->Option V
 |some (some n,e)=>match x,i with
  |.agg cs,.int _ j=>if 0<=j/\j<n/\0<P.cellsOf e then MO P e cs (j.toNat*P.cellsOf e) else none
  |_,_=>none
 |_=>none
@[simp] theorem AYI(T:bp)(x i:V):J7 P T x i=ix P x i (BZ P T):=by
 unfold J7 ix;cases BZ P T with
 |none=>rfl
 |some z=>obtain⟨n,e⟩:=z;cases n<;>cases x<;>cases i<;>rfl
@[simp] theorem BK5(n:Nat)(e:bp)(cs:List V)(k:cx)(j:Int):ix P (.agg cs) (.int k j) (some (some n,e))=if 0<=j/\j<n/\0<P.cellsOf e then MO P e cs (j.toNat*P.cellsOf e) else none:=rfl
theorem P1{T:bp}(h:D5 P T=true):∃e,P.underlying T=some (.slice e):=by
 unfold D5 at h;split at h
 ·rename_i e he;exact⟨e,he⟩
 ·cases h
@[simp] theorem vY{T:bp}(h:D5 P T=true)(b:Bool)(es:List (List V)):II P T (.list b es)=some (.int .i64 es.length):=by obtain⟨e,he⟩:=P1 h;simp[II,he]
@[simp] theorem A3T{T:bp}(h:D5 P T=true)(l k g n:Nat):II P T (.vec l k g n)=some (.int .i64 n):=by obtain⟨e,he⟩:=P1 h;simp[II,he]
@[simp] theorem ADB{T:bp}(h:D5 P T=true):II P T .nil=some (.int .i64 0):=by obtain⟨e,he⟩:=P1 h;simp[II,he]
def fv(place:Nat->Option (Nat×Nat))(cs:List V)(v:V)(rest:List (Nat×V)):Option (Nat×Nat)->Option (List V)
 |none=>none
 |some (off,size)=>if (BH v).length=size/\off+(BH v).length<=cs.length then DD place (A9 cs off (BH v)) rest else none
@[simp] theorem A3U(place:Nat->Option (Nat×Nat))(cs:List V):DD place cs []=some cs:=rfl
@[simp] theorem AYJ(place:Nat->Option (Nat×Nat))(cs:List V)(i:Nat)(v:V)(rest:List (Nat×V)):DD place cs ((i,v)::rest)=fv place cs v rest (place i):=by simp only[DD];unfold fv;cases place i<;>rfl
@[simp] theorem BGF(place:Nat->Option (Nat×Nat))(cs:List V)(v:V)(rest:List (Nat×V))(off size:Nat):fv place cs v rest (some (off,size))=if (BH v).length=size/\off+(BH v).length<=cs.length then DD place (A9 cs off (BH v)) rest else none:=rfl
attribute [simp] A9
@[simp] theorem ASM(size:Nat)(cs:List V):CU size cs 0=[]:=rfl
@[simp] theorem ASN(size:Nat)(cs:List V)(n:Nat):CU size cs (n+1)=cs.take size::CU size (cs.drop size) n:=rfl
def ch1(size len:Nat):Option (List V)->Option V
 |some cs=>some (.list true (CU size cs len))
 |none=>none
@[simp] theorem BCD(size len:Nat)(cs:List V):ch1 size len (some cs)=some (.list true (CU size cs len)):=rfl
def bsz(P:ck)(e:bp)(len:Nat)(parts:List (Nat×V)):Option (List V)->Option V
 |some z=>if (parts.all fun p=>BI p.2)=true/\z.length=P.cellsOf e/\0<P.cellsOf e/\len*P.cellsOf e<=2 ^ 24 then
   ch1 (P.cellsOf e) len (DD (fun i=>some (i*P.cellsOf e,P.cellsOf e)) (bc len z).flatten parts) else none
 |none=>none
@[simp] theorem BCE(e:bp)(len:Nat)(parts:List (Nat×V))(z:List V):bsz P e len parts (some z)=if (parts.all fun p=>BI p.2)=true/\z.length=P.cellsOf e/\0<P.cellsOf e/\len*P.cellsOf e<=2 ^ 24 then
   ch1 (P.cellsOf e) len (DD (fun i=>some (i*P.cellsOf e,P.cellsOf e)) (bc len z).flatten parts) else none:=rfl
def bsl(P:ck)(len:Nat)(parts:List (Nat×V)):Option (Option Nat×bp)->Option V
 |some (none,e)=>bsz P e len parts (CC P e)
 |_=>none
@[simp] theorem BCF(e:bp)(len:Nat)(parts:List (Nat×V)):bsl P len parts (some (none,e))=bsz P e len parts (CC P e):=rfl
@[simp] theorem BGH(T:bp)(len:Nat)(parts:List (Nat×V)):CI P T len parts=bsl P len parts (BZ P T):=by
 unfold CI bsl;cases BZ P T with
 |none=>rfl
 |some z=>
  obtain⟨n,e⟩:=z
  cases n with
  |some n=>rfl
  |none=>
   simp only[bsz]
   cases CC P e with
   |none=>rfl
   |some z=>
    simp only
    split
    ·cases DD (fun i=>some (i*P.cellsOf e,P.cellsOf e)) (bc len z).flatten parts<;>rfl
    ·rfl
def fn2(f:cz):Option (List V)->Option (List V)->Option V
 |some a,some b=>some (.fn f a b)
 |_,_=>none
@[simp] theorem BCG(f:cz)(a b:List V):fn2 f (some a) (some b)=some (.fn f a b):=rfl
@[simp] theorem BK8(f:cz)(x y:Array cj)(r:cj->Option V):JT P (mG (.makeFunc (.func f) x y)) s r=fn2 f (F4 r x.toList) (F4 r y.toList):=by show((x.toList.mapM r).bind fun a=>(y.toList.mapM r).bind fun b=>some (V.fn f a b))=_;rw[<-LR,<-LR];cases F4 r x.toList<;>cases F4 r y.toList<;>rfl
@[simp] theorem BGJ(x y:cj)(Ts:Array bp)(r:cj->Option V):JT P (mG (.call ⟨.builtin .max,#[x,y],Ts⟩)) s r=o2 UQ (r x) (r y):=lO _ _ _
@[simp] theorem BGK(x y:cj)(Ts:Array bp)(r:cj->Option V):JT P (mG (.call ⟨.builtin .min,#[x,y],Ts⟩)) s r=o2 UR (r x) (r y):=lO _ _ _
@[simp] theorem A3V(k j:cx)(m n:Int):UQ (.int k m) (.int j n)=if k=j then some (.int k (if n>m then n else m)) else none:=rfl
@[simp] theorem A3W(k j:cx)(m n:Int):UR (.int k m) (.int j n)=if k=j then some (.int k (if n<m then n else m)) else none:=rfl
theorem CB{e:bp}{n:Nat}{ys:List (List V)}(hc:0<P.cellsOf e)(hz:YV P e=true):B9 P e n ys=true↔(ys.all (fun y=>y.length==P.cellsOf e)=true/\n+ys.length<=maxLen/\(n+ys.length)*P.bytesOf e<=140737488355328):=by simp[B9,hc,hz,and_assoc]
end Go.Pg
namespace Go.Pg
variable {P:ck}{E:XE}{st:XS}{fr:Fr}{s:St}
theorem AO{P:ck}{kn:CF0}{rec:HI}{f:cz}{args:List V}(h:kn f args=none):A2 P kn rec f args=E5 P rec f args:=by unfold A2;rw[h]
def pv(k γ:Nat):List (List V)->V
 |[]=>.nil
 |e::es=>.vec 0 k γ (e::es).length
def pl(k γ:Nat)(T:bp):List (List V)->AA
 |[]=>[]
 |e::es=>[(k,γ,.vec T (e::es))]
def sl:List (List V)->V
 |[]=>.nil
 |e::es=>.list false (e::es)
@[simp] theorem BK9(k γ:Nat):pv k γ []=.nil:=rfl
@[simp] theorem BLA(k γ:Nat)(T:bp):pl k γ T []=[]:=rfl
@[simp] theorem BGL(k γ:Nat)(T:bp)(es:List (List V))(y:List V)(ys:List (List V)):pl k γ T (es++y::ys)=[(k,γ,.vec T (es++y::ys))]:=by cases es<;>rfl
@[simp] theorem BGM(k γ:Nat)(T:bp)(y:List V)(ys:List (List V)):pl k γ T (y::ys)=[(k,γ,.vec T (y::ys))]:=rfl
@[simp] theorem BOE(k γ:Nat)(T:bp)(es:List (List V)):kl k [] ((pl k γ T es).get k)=pl k γ T es:=by
 cases es with
 |nil=>rfl
 |cons e es=>simp
@[simp] theorem BCH{k j:Nat}(γ:Nat)(T:bp)(es:List (List V))(h:j≠k):(pl k γ T es).get j=none:=by
 cases es with
 |nil=>rfl
 |cons e es=>simp[h]
@[simp] theorem AYK(e k c γ:Nat)(loc:AA)(es:List (List V))(y:List V)(ys:List (List V))(hl:AA.get loc k=(pl k γ e es).get k)(h1:es.all (fun y=>y.length==P.cellsOf e)=true)(h2:B9 P e es.length (y::ys)=true) :
  apV P e k c fr ⟨[],loc⟩ (pv k γ es) (y::ys)=some ⟨c+1,(k,true,pv k c (es++y::ys))::fr,⟨[],(k,c,.vec e (es++y::ys))::loc⟩⟩:=by
 cases es with
 |nil=>
  simp only[bk]at h2
  simp[h2,pv]
 |cons z es=>
  have hl:AA.get loc k=some (γ,.vec e (z::es)):=by rw[hl];simp
  simp only[pv,AOJ,AJE,bk,if_true,hl,rK,WF,VM,true_and,h1,h2]
  simp[Nat.add_comm,Nat.add_left_comm]
theorem QR{T:bp}(f:Nat)(loc:AA)(k γ:Nat)(es:List (List V))(hl:AA.get loc k=(pl k γ T es).get k):A7 ⟨[],loc⟩ (f+1) (pv k γ es)=some (sl es):=by
 cases es with
 |nil=>rfl
 |cons z es=>
  have hl:AA.get loc k=some (γ,.vec T (z::es)):=by rw[hl];simp
  simp only[pv,eB,bk,if_true,hl,AJF,sl]
  simp
@[simp] theorem A3X(f k γ:Nat)(T:bp)(es:List (List V)):A7 ⟨[],pl k γ T es⟩ (f+1) (pv k γ es)=some (sl es):=QR (T:=T) f _ k γ es rfl
@[simp] theorem BCI{T:bp}(h:D5 P T=true)(es:List (List V)):II P T (sl es)=some (.int .i64 es.length):=by
 cases es with
 |nil=>exact ADB h
 |cons e es=>exact vY h _ _
@[simp] theorem BOF(e:bp)(es:List (List V))(k:cx)(j:Int):ia P s (sl es) (.int k j) (some (none,e))=if 0<=j/\j<es.length/\(es.getD j.toNat []).length=P.cellsOf e/\0<P.cellsOf e then some (.ref (es.getD j.toNat [])) else none:=by
 cases es with
 |nil=>
  rw[if_neg (by simp only[bk];omega)]
  rfl
 |cons z es=>rfl
@[simp] theorem jA(f:Nat)(es:List (List V)):AH (f+1) (sl es)=es.all fun e=>e.all (AH f):=by cases es<;>rfl
@[simp] theorem BCJ(es:List (List V)):weakN (sl es)=.list false es:=by cases es<;>rfl
@[simp] theorem BCK(es:List (List V)):weakM (sl es)=.list false es:=by cases es<;>rfl
@[simp] theorem BGN(es:List (List V)):weakV (sl es)=sl es:=by cases es<;>rfl
@[simp] theorem BCL(es:List (List V)):weakC (sl es)=sl es:=by cases es<;>rfl
@[simp] theorem A3Y(es:List (List V)):BH (sl es)=[sl es]:=by cases es<;>rfl
@[simp] theorem A3Z(es:List (List V)):BI (sl es)=true:=by cases es<;>rfl
@[simp] theorem A30(k γ:Nat)(es:List (List V)):BH (pv k γ es)=[pv k γ es]:=by cases es<;>rfl
@[simp] theorem A31(k γ:Nat)(es:List (List V)):BI (pv k γ es)=true:=by cases es<;>rfl
@[simp] theorem AYL(es:List (List V)):elemsOf s (sl es)=some es:=by cases es<;>rfl
@[simp] theorem A32(f:Nat)(es:List (List V)):A7 s (f+1) (sl es)=some (sl es):=by cases es<;>rfl
@[simp] theorem A33(es:List (List V)):FS (some (sl es))=[]:=by cases es<;>rfl
@[simp] theorem A34(es:List (List V)):KU (some (sl es))=[]:=by cases es<;>rfl
def vZ(P:ck)(e:bp)(d c:Nat)(fr:Fr)(s:St)(xv:V)(ys:List (List V)):Option (XS×AM):=match IZ xv ys with
 |some es=>if es.all (fun y=>y.length==P.cellsOf e)=true/\B9 P e es.length ys=true then some (⟨c+1,(d,true,.vec s.up.length d c (es.length+ys.length))::fr,s.put s.up.length d c (.vec e (es++ys))⟩,[(s.up.length,d),(s.up.length,d+GK)]) else none
 |none=>match xv with
  |.vec l q γ n=>wp [(l,q),(l,q+GK)] (apW P e d c fr s l q γ n ys (SA n ys (s.get l q)))
  |_=>none
def ad4(P:ck)(e:bp)(d c:Nat)(fr:Fr)(s:St)(xv:V):Option (List (List V))->Option (XS×AM)
 |some ys=>vZ P e d c fr s xv ys
 |none=>none
@[simp] theorem AJG(e:bp)(d c:Nat)(xv:V)(ys:List (List V)):ad4 P e d c fr s xv (some ys)=vZ P e d c fr s xv ys:=rfl
def ad3(P:ck)(d c:Nat)(fr:Fr)(s:St):Option (Option Nat×bp)->Option V->Option V->Option (XS×AM)
 |some (none,e),some xv,some yv=>ad4 P e d c fr s xv (elemsOf s yv)
 |_,_,_=>none
@[simp] theorem AJH(d c:Nat)(e:bp)(xv yv:V):ad3 P d c fr s (some (none,e)) (some xv) (some yv)=ad4 P e d c fr s xv (elemsOf s yv):=rfl
@[simp] theorem ASO(b:Bool)(es:List (List V)):tT (.list b es)=some es:=rfl
@[simp] theorem AYM:tT .nil=some []:=rfl
@[simp] theorem A35(es:List (List V)):tT (sl es)=some es:=by cases es<;>rfl
@[simp] theorem A36(d:Tmp)(c:Nat)(x y:cj)(T:bp):DS P E (some d) (.app [x,y] [T,T]) ⟨c,fr,s⟩=ad3 P d c fr s (BZ P T) (CP fr x) (CP fr y):=by
 show xAppD P (some d) [x,y] [T,T] _=_;unfold xAppD xAppG;simp only[Nat.beq_refl];cases hT:BZ P T with
 |none=>cases CP fr x<;>cases CP fr y<;>rfl
 |some p=>
  obtain⟨k,e⟩:=p
  cases k with
  |some k=>cases CP fr x<;>cases CP fr y<;>rfl
  |none=>
   cases CP fr x with
   |none=>rfl
   |some xv=>
    cases CP fr y with
    |none=>rfl
    |some yv=>
     simp only[AJH]
     cases elemsOf s yv with
     |none=>rfl
     |some ys=>
      simp only[AJG,vZ]
      cases IZ xv ys with
      |some es=>
       simp only[ifB,bj,bq]
       by_cases hC:es.all (fun y=>y.length==P.cellsOf e)=true/\B9 P e es.length ys=true
       ·rw[if_pos hC,if_pos hC]
       ·rw[if_neg hC,if_neg hC]
      |none=>
       simp only
       unfold pT
       cases xv with
       |vec l q γ n=>
        simp only
        cases SA n ys (s.get l q)with
        |none=>rfl
        |some z=>
         obtain⟨γ',r⟩:=z
         cases r with
         |vec W es=>
          simp only[ifB,bj,bq,VM,bg,and_assoc]
          by_cases hC:γ'=γ/\W=e/\n=es.length/\es.all (fun y=>y.length==P.cellsOf e)=true/\B9 P e es.length ys=true
          ·rw[if_pos hC,if_pos hC];rfl
          ·rw[if_neg hC,if_neg hC];rfl
         |_=>rfl
       |_=>rfl
@[simp] theorem BLC(e k c γ:Nat)(loc:AA)(es:List (List V))(y:List V)(ys:List (List V))(hl:AA.get loc k=(pl k γ e es).get k)(h1:es.all (fun y=>y.length==P.cellsOf e)=true)(h2:B9 P e es.length (y::ys)=true) :
  vZ P e k c fr ⟨[],loc⟩ (pv k γ es) (y::ys)=some (⟨c+1,(k,true,pv k c (es++y::ys))::fr,⟨[],(k,c,.vec e (es++y::ys))::loc⟩⟩,[(0,k),(0,k+GK)]):=by
 cases es with
 |nil=>
  simp only[bk]at h2
  simp[vZ,IZ,h2,pv]
 |cons z es=>
  have hl:AA.get loc k=some (γ,.vec e (z::es)):=by rw[hl];simp
  simp only[pv,vZ,IZ,AJE,bk,if_true,hl,rK,WF,VM,true_and,h1,h2]
  simp[Nat.add_comm,Nat.add_left_comm]
end Go.Pg
namespace Go.Pg
variable {P:ck}{E:XE}{st:XS}{fr:Fr}{s:St}
theorem wA{α:Type}(x:α):CL [x]=some ([],x):=rfl
def un1{α:Type}(x:α):Option (List α×α)->Option (List α×α)
 |some (a,b)=>some (x::a,b)
 |none=>none
@[simp] theorem BCM{α:Type}(x:α)(a:List α)(b:α):un1 x (some (a,b))=some (x::a,b):=rfl
theorem YD{α:Type}(x y:α)(l:List α):CL (x::y::l)=un1 x (CL (y::l)):=by simp only[CL];unfold un1;cases CL (y::l)<;>rfl
attribute [simp] wA YD
def eC(d:Option Tmp)(fr:Fr)(c:Nat)(r:V):Option (List AA×AA)->Option XS
 |some (u,l)=>some ⟨c,putD fr d true r,⟨u,l⟩⟩
 |none=>none
@[simp] theorem A37(d:Tmp)(c:Nat)(r:V)(u:List AA)(l:AA):eC (some d) fr c r (some (u,l))=some ⟨c,(d,true,r)::fr,⟨u,l⟩⟩:=rfl
@[simp] theorem BGO(c:Nat)(r:V)(u:List AA)(l:AA):eC none fr c r (some (u,l))=some ⟨c,fr,⟨u,l⟩⟩:=rfl
def rO(d:Option Tmp)(fr:Fr)(st:XS):Option V->Option XS
 |some r=>eC d fr st.c r (CL (st.s.up.map (AK st.s)))
 |none=>none
@[simp] theorem A38(d:Option Tmp)(c:Nat)(fr':Fr)(up:List AA)(loc:AA)(r:V):rO d fr ⟨c,fr',⟨up,loc⟩⟩ (some r)=eC d fr c r (CL (up.map (AK ⟨up,loc⟩))):=rfl
def clX(s:St):Option V->Option V
 |some r=>A7 s 4 r
 |none=>none
@[simp] theorem BCN(r:V):clX s (some r)=A7 s 4 r:=rfl
def lQ(P:ck)(d:Option Tmp)(fr:Fr)(rs:List ResultVar)(r:Option (Exit×XS)):Option XS:=match r with
 |some (.ret,st)=>rO d fr st (clX st.s (GB P rs st.fr st.s))
 |some (.normal,st)=>rO d fr st (clX st.s (GB P rs st.fr st.s))
 |_=>none
@[simp] theorem AJI(d:Option Tmp)(rs:List ResultVar):lQ P d fr rs (some (.ret,st))=rO d fr st (clX st.s (GB P rs st.fr st.s)):=rfl
@[simp] theorem rP(d:Option Tmp)(rs:List ResultVar):lQ P d fr rs (some (.normal,st))=rO d fr st (clX st.s (GB P rs st.fr st.s)):=rfl
theorem rQ{A:Ann}{kn:CF0}{n:Nat}{f:cz}{fn:Func}{code:cw}{args:List V}(hf:P.funcs[f]? = some fn)(hb:fn.body=some code)(hs:bm args.length fn.ntmps=true)(hcl:(args.all (AH 9)&&!(BL P f))=false)(d:Option Tmp)(c:Nat)(fr:Fr)(up:List AA)(loc:AA) :
  G6 (BO P A kn n) d ⟨c,fr,⟨up,loc⟩⟩ f args=lQ P d fr fn.results.toList (AE P A kn n fn.ntmps code ⟨c,AG 0 args,⟨up++[loc],[]⟩⟩):=by
 show(match cT P kn (AE P A kn n) f args ⟨c,fr,⟨up,loc⟩⟩ with
  |some (r,st')=>some (⟨st'.c,putD st'.fr d true r,st'.s⟩:XS)
  | none=>none)=_
 unfold cT
 rw[hcl]
 unfold iH cR yM
 rw[hf]
 simp only[hb,hs]
 generalize AE P A kn n fn.ntmps code ⟨c,AG 0 args,⟨up++[loc],[]⟩⟩=q
 have aux:∀st:XS,(match(match(match ACH P fn.results.toList st with
   |some (r,c,up)=>match CL up with
    |some (u,l)=>some (r,(⟨c,fr,⟨u,l⟩⟩:XS))
    |none=>none
   | none=>none:Option (V×XS))with
   |some r=>some r
   | none=>none:Option (V×XS))with
  |some (r,st')=>some (⟨st'.c,putD st'.fr d true r,st'.s⟩:XS)
  | none=>none)=rO d fr st (clX st.s (GB P fn.results.toList st.fr st.s)):=fun st=>by
  unfold ACH clX
  cases GB P fn.results.toList st.fr st.s with
  |none=>rfl
  |some r=>
   cases h:A7 st.s 4 r with
   |none=>simp[rO,h]
   |some r'=>
    simp only[h,rO]
    cases CL (st.s.up.map (AK st.s))with
    |none=>rfl
    |some z=>rfl
 cases q with
 |none=>rfl
 |some q=>
  obtain⟨e,st⟩:=q
  have:=aux st
  cases e with
  |ret=>simp only[AJI,<-this];cases ACH P fn.results.toList st with
   |none=>rfl
   |some z=>
    obtain⟨r,c,up⟩:=z
    simp only
    cases CL up<;>rfl
  |normal=>simp only[rP,<-this];cases ACH P fn.results.toList st with
   |none=>rfl
   |some z=>
    obtain⟨r,c,up⟩:=z
    simp only
    cases CL up<;>rfl
  |_=>rfl
theorem BA{A:Ann}{kn:CF0}{n:Nat}{f:cz}{fn:Func}{code:cw}{args:List V}(hf:P.funcs[f]? = some fn)(hb:fn.body=some code)(hs:bm args.length fn.ntmps=true)(hcl:args.all (AH 9)=false)(d:Option Tmp)(c:Nat)(fr:Fr)(up:List AA)(loc:AA) :
  G6 (BO P A kn n) d ⟨c,fr,⟨up,loc⟩⟩ f args=lQ P d fr fn.results.toList (AE P A kn n fn.ntmps code ⟨c,AG 0 args,⟨up++[loc],[]⟩⟩) :=
 rQ hf hb hs (by rw[hcl,Bool.false_and]) d c fr up loc
theorem zV{A:Ann}{kn:CF0}{n:Nat}{f:cz}{fn:Func}{code:cw}{args:List V}(hf:P.funcs[f]? = some fn)(hb:fn.body=some code)(hs:bm args.length fn.ntmps=true)(hh:BL P f=true)(d:Option Tmp)(c:Nat)(fr:Fr)(up:List AA)(loc:AA) :
  G6 (BO P A kn n) d ⟨c,fr,⟨up,loc⟩⟩ f args=lQ P d fr fn.results.toList (AE P A kn n fn.ntmps code ⟨c,AG 0 args,⟨up++[loc],[]⟩⟩) :=
 rQ hf hb hs (by rw[hh,Bool.not_true,Bool.and_false]) d c fr up loc
@[simp] theorem AYO(f l k g o:Nat):AH (f+1) (.ptr l k g o)=false:=rfl
@[simp] theorem AYP(f l k g o:Nat):AH (f+1) (.vec l k g o)=false:=rfl
@[simp] theorem A39(f l k g:Nat):AH (f+1) (.mp l k g)=false:=rfl
@[simp] theorem BCO(l k g o:Nat):weakV (.ptr l k g o)=.ptr l k g o:=rfl
@[simp] theorem BCP(l k g o:Nat):weakV (.vec l k g o)=.vec l k g o:=rfl
@[simp] theorem BCQ(cs:List V):weakV (.ref cs)=.ref cs:=rfl
@[simp] theorem BLE(d c:Nat)(f:cz)(x y:List V):bx1 d c fr s (some (.fn f x y))=some ⟨c+1,(d,true,.ptr s.up.length d c 0)::fr,s.put s.up.length d c (.box [.fn f x y])⟩:=rfl
@[simp] theorem BGP(d c:Nat)(l k g o:Nat):bx1 d c fr s (some (.ptr l k g o))=some ⟨c+1,(d,true,.ptr s.up.length d c 0)::fr,s.put s.up.length d c (.box [.ptr l k g o])⟩:=rfl
@[simp] theorem BLF(d c:Nat)(es:List (List V)):bx1 d c fr s (some (sl es))=some ⟨c+1,(d,true,.ptr s.up.length d c 0)::fr,s.put s.up.length d c (.box [sl es])⟩:=by cases es<;>rfl
@[simp] theorem FL:AK s []=[]:=rfl
@[simp] theorem BE(k g:Nat)(r:A0)(L:AA):AK s ((k,g,r)::L)=(k,g,CO s r)::AK s L:=rfl
def sr1(r:A0):Option (List V)->A0
 |some ds=>.box ds
 |none=>r
@[simp] theorem BCR(r:A0)(ds:List V):sr1 r (some ds)=.box ds:=rfl
theorem FD(cs:List V):CO s (.box cs)=sr1 (.box cs) (HF (CA s) cs):=by unfold CO CG sr1;simp only;cases HF (CA s) cs<;>rfl
attribute [simp] FD
theorem wB(f:V->Option V):HF f []=some []:=rfl
theorem rR(f:V->Option V)(v:V)(l:List V):HF f (v::l)=mc2 (f v) (HF f l):=by
 simp only[HF];cases f v with
 |none=>rfl
 |some x=>cases HF f l<;>rfl
attribute [simp] wB rR
@[simp] theorem ASP(k:cx)(n:Int):CA s (.int k n)=some (.int k n):=rfl
@[simp] theorem AOS(b:Bool):CA s (.bool b)=some (.bool b):=rfl
@[simp] theorem AOT(b:Bool)(es:List (List V)):CA s (.list b es)=some (.list b es):=rfl
@[simp] theorem ASQ:CA s .nil=some .nil:=rfl
@[simp] theorem AYQ(es:List (List V)):CA s (sl es)=some (sl es):=by cases es<;>rfl
@[simp] theorem AYR(f:cz)(x y:List V):CA s (.fn f x y)=A7 s 4 (.fn f x y):=rfl
@[simp] theorem ASR(l k g o:Nat):CA s (.ptr l k g o)=A7 s 4 (.ptr l k g o):=rfl
@[simp] theorem rS(l k g o:Nat):CA s (.vec l k g o)=A7 s 4 (.vec l k g o):=rfl
@[simp] theorem ASS(cs:List V):CA s (.agg cs)=A7 s 4 (.agg cs):=rfl
@[simp] theorem A4A(f:Nat)(g:cz)(x y:List V):A7 s (f+1) (.fn g x y)=fn2 g (Q7 (A7 s f) x) (Q7 (A7 s f) y):=by simp only[A7,VO,fn2];cases Q7 (A7 s f) x<;>cases Q7 (A7 s f) y<;>rfl
def cp1(f:List V->Option (List V))(g off:Nat):Option (Nat×A0)->Option V
 |some (g',.box cs)=>if g'=g then(f cs).map fun ds=>.ref (ds.drop off) else none
 |_=>none
@[simp] theorem AYS(f:Nat)(up:List AA)(loc:AA)(l k g off:Nat):A7 ⟨up,loc⟩ (f+1) (.ptr l k g off)=if l=up.length then cp1 (Q7 (A7 ⟨up,loc⟩ f)) g off (loc.get k) else some (.ptr l k g off):=by
 simp only[A7,VO];split
 ·cases loc.get k with
  |none=>rfl
  |some z=>obtain⟨g',r⟩:=z;cases r<;>rfl
 ·rfl
def ow3(d c:Nat)(fr:Fr)(s:St):Option V->Option XS
 |some r=>some ⟨c+1,(d,true,r)::fr,s.put s.up.length d c .dead⟩
 |none=>none
@[simp] theorem BCS(d c:Nat)(r:V):ow3 d c fr s (some r)=some ⟨c+1,(d,true,r)::fr,s.put s.up.length d c .dead⟩:=rfl
theorem AOU:CO s .dead=.dead:=rfl
attribute [simp] AOU
end Go.Pg
theorem Go.Pg.qNz (m:Nat)(h:0<m):∃k,m=k+1:=⟨m-1,by omega⟩
