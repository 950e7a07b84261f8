/- Operations of a region with all that hangs on the region alone worked out; running them one after another. No program in sight. -/
import Derived.Test.YthhdhbalenanjaaGreatQ2
noncomputable section
open Go renaming TypeId->bp,Operand->cj,Program->ck,Oper->cq,Code->cw,IntKind->cx,FuncId->cz
open Bool renaming and_eq_true->bj
open List renaming length_nil->bk,length_append->bq,getElem?_eq_getElem->bw,mapM_cons->bz,all_cons->bb,replicate->bc,mapM_nil->bh
open Nat renaming beq->bx,blt_eq->bf,beq_eq->bg,ble->bm,blt->bn
namespace Go.Pg
variable {P:ck}{E:XE}
inductive IK where
 |mv (x:cj)
 |bin (op:BinOp) (T:bp) (x y:cj)
 |fa (T:bp) (x:cj) (f:Nat)
 |ld (T:bp) (x:cj)
 |ldz (T:bp) (x:cj)
 |pick (c a b:cj)
 |build (T:bp) (ps:List (Nat×cj))
 |buildS (T:bp) (n:Nat) (ps:List (Nat×cj))
 |oth (op:Op)
 |alloc (T:bp)
 |box (x:cj)
 |mkM (r:Option cj)
 |mkS (T:bp) (x y:cj)
 |sto (T:bp) (x y:cj)
 |upd (T:bp) (x i y:cj)
 |call (own:Bool) (tk:Option Tmp) (f:cj) (args:List cj)
 |app (args:List cj) (Ts:List bp)
 |clr (args:List cj) (Ts:List bp)
 |cpy (args:List cj) (Ts:List bp)
def mW (op : Op) : cq := { dst := none, op := op, type := 0, pos := "", after := #[], guard := none }
def AFH(all:List cq):List cj->Option Tmp
 |[]=>none
 |x::r=>match x with
  |.tmp t=>cond (AJM all t) (some t) (AFH all r)
  |_=>AFH all r
def NH(all:List cq)(o:cq):IK:=match o.op with
 |.move x=>.mv x
 |.assign x=>.mv x
 |.binOp op T x y _=>.bin op T x y
 |.fieldAddr T x f=>.fa T x f
 |.load T x=>.ld T x
 |.pick c a b=>.pick c a b
 |.build T ps=>.build T ps.toList
 |.buildSlice T n ps=>.buildS T n ps.toList
 |.alloc T=>.alloc T
 |.box _ x=>.box x
 |.makeMap _ r=>.mkM r
 |.makeSlice T x y=>.mkS T x y
 |.store T x y=>.sto T x y
 |.mapUpdate T x i y=>.upd T x i y
 |.call c=>match c.callee with
  |.value f=>.call (DN all o) (AFH all c.args.toList) f c.args.toList
  |.builtin .append=>.app c.args.toList c.argTypes.toList
  |.builtin .clear=>.clr c.args.toList c.argTypes.toList
  |.builtin .copy=>.cpy c.args.toList c.argTypes.toList
  |_=>.oth o.op
 |op=>.oth op
structure I1 where
 g:Option (Tmp×Bool)
 d:Option Tmp
 k:IK
def comp(all:List cq)(o:cq):I1:=⟨K1 all o,o.dst,NH all o⟩
def AFI:IK->IK
 |.ld T x=>.ldz T x
 |k=>k
def eS(all:List cq)(o:cq):I1:=⟨K1 all o,o.dst,cond (zB all o) (AFI (NH all o)) (NH all o)⟩
def D4(d:Option Tmp)(st:XS)(r:Option V):Option XS:=match r with
 |some v=>some ⟨st.c,putD st.fr d true v,st.s⟩
 |none=>none
def aZ(tk:Option Tmp)(st:XS):XS:=match tk with
 |none=>st
 | some t=>match(match BR st.fr t with
   |some (true,.vec l q γ n)=>match st.s.get l q with
    |some (γ',.vec _ es)=>Bool.rec none (some ⟨st.c,(t,true,.list false (es.take n))::st.fr,st.s.put l q γ .dead⟩) (bx γ' γ&&bm n es.length&&bn γ st.c)
    |_=>none
   | _=>none:Option XS)with
  |some st1=>st1
  |none=>st
def CR(P:ck)(E:XE)(d:Option Tmp)(k:IK)(st:XS):Option XS:=match k with
 |.mv x=>D4 d st (CD st.fr x)
 |.bin op T x y=>D4 d st (yC P st.fr op T x y)
 |.fa T x f=>D4 d st (xFA P st.fr T x f)
 |.ld T x=>D4 d st (NE P st.fr st.s T x)
 |.ldz T x=>D4 d st (NE P st.fr st.s T x)
 |.pick c a b=>D4 d st (tU st.fr c a b)
 |.build T ps=>D4 d st (VB P st.fr T ps)
 |.buildS T n ps=>D4 d st (PK P st.fr T n ps)
 |.oth op=>D4 d st (JE P (mW op) st.s (CD st.fr))
 |.alloc T=>ON P d T st
 |.box x=>lQ d x st
 |.mkM r=>xY d r st
 |.mkS T x y=>WL P d T x y st
 |.sto T x y=>I7 P d T x y st
 |.upd T x i y=>xZ P d T x i y st
 |.call own tk f args=>ZZ E own d f args (aZ tk st)
 |.app args Ts=>xAppend P d args Ts st
 |.clr args Ts=>gG P d args Ts st
 |.cpy args Ts=>tW P d args Ts st
def opI(P:ck)(E:XE)(i:I1)(st:XS):Option XS:=match gdX st.fr i.g with
 |some true=>CR P E i.d i.k st
 |some false=>some (HZ i.d st)
 |none=>none
def opO(P:ck)(E:XE)(i:I1)(r:Option XS):Option XS:=match r with
 |some st=>opI P E i st
 |none=>none
def OZ(P:ck)(E:XE):List I1->Option XS->Option XS
 |[],r=>r
 |i::l,r=>OZ P E l (opO P E i r)
theorem bA(all:List cq)(st:XS):∀(xs:List cj),(match MY all st xs with
  |some st1=>st1
  | none=>st)=aZ (AFH all xs) st
 |[]=>rfl
 |x::r=>by
  unfold MY AFH;cases x with
  |tmp t=>
   simp only
   cases AJM all t with
   |false=>exact bA all st r
   |true=>rfl
  |_=>exact bA all st r
theorem A4S{o:cq}{st:XS}:ADW P (fun _=>false) o st=none:=by unfold ADW;split<;>rfl
theorem AFJ(hl:E.lit=fun _=>false)(all:List cq)(o:cq)(st:XS):opX P E all o st=opI P E (comp all o) st:=by
 unfold opX opI;rw[hl];simp only[A4S];have:(match ADX all o st with
   |some st1=>QG P E (DN all) o st1
   | none=>QG P E (DN all) o st)=CR P E o.dst (NH all o) st:=by
  have ht:∀(r:Option XS),(match r with
   |some st1=>QG P E (DN all) o st1
   | none=>QG P E (DN all) o st)=QG P E (DN all) o (match r with
   |some st1=>st1
   | none=>st):=fun r=>by cases r <;> rfl
  rw[ht]
  obtain⟨d,op,T,pos,af,gd⟩:=o
  cases op with
  |call c=>
   obtain⟨cal,args,Ts⟩:=c
   cases cal with
   |value f=>
    show QG P E _ _ (match MY all st args.toList with|some st1=>st1|none=>st)=_
    rw[bA]
    rfl
   |builtin b=>cases b<;>rfl
   |_=>rfl
  |_=>rfl
 show _=(match gdX st.fr (K1 all o)with
  |some true=>CR P E o.dst (NH all o) st
  |some false=>some (HZ o.dst st)
  | none=>none)
 cases gdX st.fr (K1 all o)with
 |none=>rfl
 |some b=>
  cases b with
  |false=>rfl
  |true=>exact this
theorem IA:∀(l:List I1),OZ P E l none=none
 |[]=>rfl
 |_::l=>IA l
theorem vA(hl:E.lit=fun _=>false)(all:List cq):∀(l:List cq) (st:XS),gK P E all l st=OZ P E (l.map (comp all)) (some st)
 |[],st=>rfl
 |o::l,st=>by
  simp only[gK,List.map_cons,OZ,opO];rw[AFJ hl];cases opI P E (comp all o) st with
  |none=>exact(IA _).symm
  |some st'=>exact vA hl all l st'
def HW(P:ck)(k:IK)(r:cj->Option V):AK:=match k with
 |.ld T x=>CA (bx (P.cellsOf T) 1) (r x)
 |.app xs _=>J9 r xs
 |.oth op=>D9 P (mW op) r
 |_=>[]
def DG(P:ck)(E:XE)(d:Option Tmp)(k:IK)(st:XS):Option (XS×AK):=match k with
 |.mv x=>TR (D4 d st (CD st.fr x))
 |.bin op T x y=>TR (D4 d st (yC P st.fr op T x y))
 |.fa T x f=>TR (D4 d st (xFA P st.fr T x f))
 |.ld T x=>TR (D4 d st (NE P st.fr st.s T x))
 |.ldz T x=>TR (D4 d st (NE P st.fr st.s T x))
 |.pick c a b=>TR (D4 d st (tU st.fr c a b))
 |.build T ps=>TR (D4 d st (VB P st.fr T ps))
 |.buildS T n ps=>TR (D4 d st (PK P st.fr T n ps))
 |.oth op=>TR (D4 d st (JE P (mW op) st.s (CD st.fr)))
 |.alloc T=>TR (ON P d T st)
 |.box x=>TR (lQ d x st)
 |.mkM r=>TR (xY d r st)
 |.mkS T x y=>TR (WL P d T x y st)
 |.sto T x y=>ADZ P d T x y st
 |.upd ..=>none
 |.call own _ f args=>Bool.rec (TR (Z0 E.c0 d f args st)) (TR (HM E.co d f args st)) own
 |.app args Ts=>xAppD P d args Ts st
 |.clr ..=>none
 |.cpy ..=>none
def D6:IK->Bool
 |.alloc _|.box _|.mkM _|.mkS ..|.sto ..|.app ..=>true
 |.call own ..=>own
 |_=>false
def VN(P:ck)(E:XE)(i:I1)(st:XS):Option (XS×AK):=match gdX st.fr i.g with
 |some true=>DG P E i.d i.k st
 |some false=>Bool.rec (some (HZ i.d st,[])) none (D6 i.k)
 |none=>none
def mX(P:ck)(E:XE)(i:I1)(r:Option (XS×AK×AK)):Option (XS×AK×AK):=match r with
 |some (st,rd,wr)=>match VN P E i st with
  |some (st',w)=>some (st',HW P i.k (CD st.fr)++rd,w++wr)
  |none=>none
 |none=>none
def VO(P:ck)(E:XE):List I1->Option (XS×AK×AK)->Option (XS×AK×AK)
 |[],r=>r
 |i::l,r=>VO P E l (mX P E i r)
def bB(r:Option (XS×AK×AK)):Option XS:=match r with
 |some (st,rd,wr)=>Bool.rec none (some st) (wr.all fun p=>!(rd.contains p))
 |none=>none
structure mY where
 new:List Tmp
 ph:List I1
 sq:List I1
def iC(new:List Tmp)(st:XS):Bool:=new.all fun d=>(st.s.loc.get d).isNone
def AFK(new:List Tmp)(r:Option XS):Option (XS×AK×AK):=match r with
 |some st=>Bool.rec none (some (st,[],[])) (iC new st)
 |none=>none
def VP(P:ck)(E:XE):List mY->Option XS->Option XS
 |[],r=>r
 |p::S,r=>VP P E S (OZ P E p.sq (bB (VO P E p.ph (AFK p.new r))))
def eT(l:List cq)(R:List Nat):List I1:=R.filterMap fun i=>(l[i]?).map (comp l)
def eU(l:List cq)(R:List Nat):List I1:=R.filterMap fun i=>(l[i]?).map (eS l)
def vB(l:List cq)(R:List Nat):List Tmp:=R.filterMap fun i=>match l[i]? with
 |some o=>cond (kA (DN l) o) o.dst none
 |none=>none
def vC(l:List cq)(p:List Nat×List Nat):mY:=⟨vB l p.1,eU l p.1,eT l p.2⟩
def inB(l:List cq)(S:WY):Bool:=S.all fun p=>p.1.all (fun i=>bn i l.length)&&p.2.all (fun i=>bn i l.length)
theorem zC(all:List cq)(o:cq)(st:XS):gM P E (DN all) o st=DG P E o.dst (NH all o) st:=by
 obtain⟨d,op,T,pos,af,gd⟩:=o;cases op with
 |call c=>
  obtain⟨cal,args,Ts⟩:=c
  cases cal with
  |builtin b=>cases b<;>rfl
  |_=>rfl
 |_=>rfl
theorem ASA(all:List cq)(o:cq)(r:cj->Option V):D9 P o r=HW P (NH all o) r:=by
 obtain⟨d,op,T,pos,af,gd⟩:=o;cases op with
 |call c=>
  obtain⟨cal,args,Ts⟩:=c
  cases cal with
  |builtin b=>cases b<;>rfl
  |_=>rfl
 |_=>rfl
theorem A4T(all:List cq)(o:cq):(kA (DN all) o||kW o||kP o)=D6 (NH all o):=by
 obtain⟨d,op,T,pos,af,gd⟩:=o;cases op with
 |call c=>
  obtain⟨cal,args,Ts⟩:=c
  cases cal with
  |builtin b=>cases b<;>rfl
  |value f=>simp[kA,kW,kP,D6,NH]
  |_=>rfl
 |_=>rfl
theorem AKI(all:List cq)(o:cq)(st:XS):pT P E all o st=VN P E (comp all o) st:=by unfold pT VN;rw[zC,A4T];rfl
theorem rC(d:Option Tmp)(k:IK)(st:XS):DG P E d (AFI k) st=DG P E d k st:=by cases k<;>rfl
theorem AKJ(k:IK):D6 (AFI k)=D6 k:=by cases k<;>rfl
theorem ASB(all:List cq)(o:cq)(st:XS):VN P E (eS all o) st=VN P E (comp all o) st:=by
 unfold eS comp;cases zB all o with
 |false=>rfl
 |true=>
  show VN P E ⟨K1 all o,o.dst,AFI (NH all o)⟩ st=_
  unfold VN
  simp only[rC,AKJ]
theorem ASC(all:List cq)(o:cq)(r:cj->Option V):cond (zB all o) [] (D9 P o r)=HW P (eS all o).k r:=by
 unfold eS;cases hz:zB all o with
 |false=>exact ASA all o r
 |true=>
  obtain⟨T,x,ho⟩:=AMR hz
  show[]=HW P (AFI (NH all o)) r
  unfold NH
  rw[ho]
  rfl
theorem PQ:∀(l:List I1),VO P E l none=none
 |[]=>rfl
 |_::l=>PQ l
theorem AFL(l:List cq):∀(R:List Nat) (st:XS) (rd wr:AK),R.all (fun i=>bn i l.length)=true->phX P E l R st rd wr=VO P E (eU l R) (some (st,rd,wr))
 |[],st,rd,wr,_=>rfl
 |i::R,st,rd,wr,h=>by
  simp only[bb,bj,bf]at h;have hi:=bw h.1;have hp:eU l (i::R)=eS l l[i]::eU l R:=by simp[eU,hi]
  rw[hp];simp only[phX,hi,VO,mX,AKI,ASB];cases VN P E (comp l l[i]) st with
  |none=>exact(PQ _).symm
  |some q=>
   obtain⟨st',w⟩:=q
   simp only
   rw[AFL l R _ _ _ h.2,ASC l]
theorem AFM(hl:E.lit=fun _=>false)(l:List cq):∀(R:List Nat) (st:XS),R.all (fun i=>bn i l.length)=true->sqX P E l R st=OZ P E (eT l R) (some st)
 |[],st,_=>rfl
 |i::R,st,h=>by
  simp only[bb,bj,bf]at h;have hi:=bw h.1;have hp:eT l (i::R)=comp l l[i]::eT l R:=by simp[eT,hi]
  rw[hp];simp only[sqX,hi,OZ,opO,AFJ hl];cases opI P E (comp l l[i]) st with
  |none=>exact(IA _).symm
  |some st'=>exact AFM hl l R st' h.2
theorem LW:∀(S:List mY),VP P E S none=none
 |[]=>rfl
 |p::S=>by simp only[VP,AFK,PQ,bB,IA];exact LW S
theorem mZ(l:List cq)(st:XS):∀(R:List Nat),ZP (DN l) l R st.s.loc=iC (vB l R) st
 |[]=>rfl
 |i::R=>by
  have ih:=mZ l st R;unfold ZP iC vB at *;simp only[bb,List.filterMap_cons,ih];cases hi:l[i]? with
  |none=>simp
  |some o=>
   simp only
   cases hk:kA (DN l) o with
   |false=>simp
   |true=>
    cases hd:o.dst with
    |none=>simp
    |some d=>simp
theorem vD(hl:E.lit=fun _=>false)(l:List cq):∀(S:WY) (st:XS),inB l S=true->yE P E l S st=VP P E (S.map (vC l)) (some st)
 |[],st,_=>rfl
 |p::S,st,h=>by
  simp only[inB,bb,bj]at h;obtain⟨⟨h1,h2⟩,h3⟩:=h;simp only[yE,List.map_cons,VP,vC,AFK,mZ];cases iC (vB l p.1) st with
  |false=>
   simp only[PQ,bB,IA]
   exact(LW _).symm
  |true=>
   simp only[AFL l _ _ _ _ h1]
   cases VO P E (eU l p.1) (some (st,[],[]))with
   |none=>simp only[bB,IA];exact(LW _).symm
   |some q=>
    obtain⟨st1,rd,wr⟩:=q
    simp only[bB]
    cases (wr.all fun p=>!rd.contains p)with
    |false=>simp only[IA];exact(LW _).symm
    |true=>
     simp only[AFM hl l _ _ h2]
     cases OZ P E (eT l p.2) (some st1)with
     |none=>exact(LW _).symm
     |some G7=>exact vD hl l S G7 h3
inductive IR where
 |str (l:List I1)
 |drw (S:List mY)
 |cls (ks:List (Nat×Nat×Nat))
def vE(P:ck)(ops:List cq)(draw:Bool):IR:=cond draw (cond (W1 P ops) (.cls (H9 ops)) (.drw ((cI ops).map (vC ops)))) (.str (ops.map (comp ops)))
def okR(P:ck)(ops:List cq)(draw:Bool):Bool:=cond draw (cond (W1 P ops) true (inB ops (cI ops))) true
def K3(P:ck)(E:XE)(i:IR)(st:XS):Option XS:=match i with
 |.str l=>OZ P E l (some st)
 |.drw S=>VP P E S (some st)
 |.cls ks=>RD P ks (some st)
end Go.Pg
namespace Go.Pg
variable {P:ck}{σ σ':Nat->Nat}{δ:Nat}{pre:List AA}{s:St}{fr:Fr}
abbrev Tr:=Option (List Nat×List Nat)
abbrev Ann:=Nat->Nat->Tr
def CK(a:Tr)(st:XS):XS:=match a with
 |some p=>Q9 p.1 p.2 st
 |none=>st
theorem LY{a:Tr}{st:XS}(h:Bd st):KJ st (CK a st):=by
 cases a with
 |none=>exact⟨Nat.le_refl _,h,rfl⟩
 |some p=>exact TU h
theorem IE{a:Tr}{st:XS}:(CK a st).c=st.c:=by cases a<;>rfl
theorem KE{n N:Nat}{ρ:Option Nat}{c:cw}{K:Exit->Fr->St->Prop}{a:Tr}{st:XS}(h:BE P n N ρ c K ((CK a st).fr.ren σ pre.length) ((CK a st).s.emb σ pre)):BE P n N ρ c K (st.fr.ren σ pre.length) (st.s.emb σ pre):=by
 cases a with
 |none=>exact h
 |some p=>exact VF h
def A4U(P:ck)(E:XE)(a:Tr)(l:List cq)(draw:Bool)(st:XS):Option XS:=Bool.rec (gK P E l l (CK a st)) (Bool.rec (QI P E l (CK a st)) (RD P (H9 l) (some (CK a st))) (W1 P l)) draw
def isY:List Nat->Bool
 |k::_=>bx k 777
 |[]=>false
def AFN(P:ck)(E:XE)(N:Nat)(a:Tr)(l:List cq)(draw:Bool)(us:List Nat)(st:XS):Option XS:=Bool.rec (A4U P (cfU us E) a l draw st) (Bool.rec none (uO P E N l (CK a st)) draw) (isY us)
def BK(rec:bO)(body:cw)(a:Tr)(n:Nat):XS->Option (Exit×XS):=Nat.rec (motive:=fun _=>XS->Option (Exit×XS)) (fun _=>none) (fun _ ih st=>match rec body st with
 |some (.normal,st')=>ih (CK a st')
 | r=>r) n
def iD(id:Nat)(l:List cq):Nat:=id+1000*l.length+1000000*(match l with
 |o::_=>match o.dst with
  |some d=>d
  |none=>0
 | []=>0)
def BU:cw->Nat
 |.region id ops _=>iD id ops.toList
 |.seq a _=>BU a
 |.block _ c=>BU c
 |.loop c=>BU c
 |.scope c=>BU c
 |_=>0
def zD:Tr->List Nat
 |some p=>p.1
 |none=>[]
def NI:Nat:=1000000000000000
def zE:Tr->List Nat
 |some p=>p.2
 |none=>[]
def VQ(P:ck)(E:XE)(A:Ann)(n N:Nat)(rec:bO):bO:=fun code st=>match code with
 |.region id ops draw=>RA (AFN P E N (A N (iD id ops.toList)) ops.toList draw (zE (A N (iD id ops.toList+NI))) (M0 (zD (A N (iD id ops.toList+NI))) st))
 |.loop body=>BK rec body (A N (BU body)) n (CK (A N (BU body)) st)
 |c=>Z6 P E n N rec c st
def AE(P:ck)(A:Ann)(kn:CF0)(n:Nat):GR:=Nat.rec (motive:=fun _=>GR) (fun _ _ _=>none) (fun n ih N=>VQ P (A3I P kn (fun _ _ _=>none) (fun _=>false) ih) A n N (ih N)) n
theorem AKK(hP:EA P){E:XE}(hEE:KA P E){a:Tr}{id:Nat}{ops:Array cq}{draw:Bool}{N:Nat}(hN:ER N (.region id ops draw)=true){st st':XS}(hx:A4U P E a ops.toList draw st=some st')(hbd:Bd st):KJ st st' /\
  ∀(n:Nat) (ρ:Option Nat) (σ:Nat->Nat) (pre:List AA) (K:Exit->Fr->St->Prop),(∀σ',AO st.c σ σ'->K .normal (st'.fr.ren σ' pre.length) (st'.s.emb σ' pre))->BE P n N ρ (.region id ops draw) K (st.fr.ren σ pre.length) (st.s.emb σ pre):=by
 obtain⟨l⟩:=ops
 have hT:=LY (a:=a) hbd
 have ext:∀{st'},KJ (CK a st) st'->KJ st st':=fun h=>⟨by have:=h.c;rwa [IE]at this,h.bd,h.n.trans hT.n⟩
 cases draw with
 |false=>
  simp only[ER,cond_false,bj]at hN
  have hx:gK P E l l (CK a st)=some st':=hx
  obtain⟨hE,hs⟩:=gL hEE hT.bd hx
  refine⟨ext hE,fun n ρ σ pre K hk=>KE (a:=a) ?_⟩
  exact WF (l.map (K1 l)) hN.1 (gE (TN hN.2)) (hs σ pre _ fun σ' ha=>hk σ' (by rwa [IE]at ha))
 |true=>
  simp only[ER,cond_true]at hN
  cases hc:W1 P l with
  |true=>
   have hx:(Bool.rec (QI P E l (CK a st)) (RD P (H9 l) (some (CK a st))) (W1 P l):Option XS)=some st':=hx
   rw[hc]at hx
   obtain⟨hE,hs⟩:=AJ3 (id:=id) hP hN hc hx hT.bd
   exact⟨ext hE,fun n ρ σ pre K hk=>KE (a:=a) (hs n ρ σ pre K fun σ' ha=>hk σ' (by rwa [IE]at ha))⟩
  |false=>
  have hx:(Bool.rec (QI P E l (CK a st)) (RD P (H9 l) (some (CK a st))) (W1 P l):Option XS)=some st':=hx
  rw[hc]at hx
  obtain⟨hE,hs⟩:=aQ (id:=id) hP hEE hN hx hT.bd
  exact⟨ext hE,fun n ρ σ pre K hk=>KE (a:=a) (hs n ρ σ pre K fun σ' ha=>hk σ' (by rwa [IE]at ha))⟩
theorem AKL(hP:EA P){E:XE}(hEE:KA P E){a:Tr}{us:List Nat}{id:Nat}{ops:Array cq}{draw:Bool}{N:Nat}(hN:ER N (.region id ops draw)=true){st st':XS}(hx:AFN P E N a ops.toList draw us st=some st')(hbd:Bd st):KJ st st' /\
  ∀(n:Nat) (ρ:Option Nat) (σ:Nat->Nat) (pre:List AA) (K:Exit->Fr->St->Prop),(∀σ',AO st.c σ σ'->K .normal (st'.fr.ren σ' pre.length) (st'.s.emb σ' pre))->BE P n N ρ (.region id ops draw) K (st.fr.ren σ pre.length) (st.s.emb σ pre):=by
 unfold AFN at hx
 cases hy:isY us with
 |false=>rw[hy]at hx;exact AKK hP (AQ6 hEE _) hN hx hbd
 |true=>
  rw[hy]at hx
  cases draw with
  |false=>cases hx
  |true=>
   have hx:uO P E N ops.toList (CK a st)=some st':=hx
   have hT:=LY (a:=a) hbd
   obtain⟨hE,hs⟩:=AET hP hEE (id:=id) hx hT.bd
   refine⟨⟨by have:=hE.c;rwa [IE]at this,hE.bd,hE.n.trans hT.n⟩,fun n ρ σ pre K hk=>KE (a:=a) ?_⟩
   exact hs n ρ σ pre K fun σ' ha=>hk σ' (by rwa [IE]at ha)
theorem AFO{N:Nat}{rec:bO}(hrec:aA P N rec){body:cw}{a:Tr}(hN:ER N body=true)(m:Nat){st st':XS}{e:Exit}(hx:BK rec body a m (CK a st)=some (e,st'))(hbd:Bd st):KJ st st'/\(∀l,e≠.goto l) /\
  ∀(n:Nat) (ρ:Option Nat) (σ:Nat->Nat) (pre:List AA) (K:Exit->Fr->St->Prop),(ρ=none\/GF body=true)->(∀σ',AO st.c σ σ'->K e (st'.fr.ren σ' pre.length) (st'.s.emb σ' pre))->BE P n N ρ (.loop body) K (st.fr.ren σ pre.length) (st.s.emb σ pre):=by
 have up:∀{st st':XS},Bd st->KJ (CK a st) st'->KJ st st':=fun hbd h=>⟨by have:=h.c;rwa [IE]at this,h.bd,h.n.trans (LY hbd).n⟩
 have ext:∀(m:Nat) {st:XS},BK rec body a m (CK a st)=some (e,st')->Bd st->KJ st st'/\(∀l,e≠.goto l):=by
  intro m;induction m with
  |zero=>intro st hx _;cases hx
  |succ m ih=>
   intro st hx hbd
   have hx:(match rec body (CK a st)with
    |some (.normal,st')=>BK rec body a m (CK a st')
    | r=>r)=some (e,st'):=hx
   have hT:=LY (a:=a) hbd
   split at hx
   ·rename_i st1 h1;obtain⟨hE,_,_⟩:=hrec _ _ _ _ h1 hT.bd hN;obtain⟨hE',hg⟩:=ih hx hE.bd;exact⟨up hbd ⟨Nat.le_trans hE.c hE'.c,hE'.bd,hE'.n.trans hE.n⟩,hg⟩
   ·obtain⟨hE,hg,_⟩:=hrec _ _ _ _ hx hT.bd hN;exact⟨up hbd ⟨hE.c,hE.bd,hE.n⟩,hg⟩
 obtain⟨hE,hg⟩:=ext m hx hbd
 refine⟨hE,hg,fun n ρ σ pre K hρ hk=>?_⟩
 refine dR (fun m fr s=>∃(st:XS) (σ:Nat->Nat),fr=st.fr.ren σ pre.length/\s=st.s.emb σ pre/\Bd st/\BK rec body a m (CK a st)=some (e,st')/\∀σ',AO st.c σ σ'->K e (st'.fr.ren σ' pre.length) (st'.s.emb σ' pre)) m ⟨st,σ,rfl,rfl,hbd,hx,hk⟩ ?_
 rintro m fr s ⟨st,σ,rfl,rfl,hbd,hx,hk⟩
 cases m with
 |zero=>cases hx
 |succ m=>
  have hx:(match rec body (CK a st)with
   |some (.normal,st')=>BK rec body a m (CK a st')
   | r=>r)=some (e,st'):=hx
  have hT:=LY (a:=a) hbd
  refine KE (a:=a) ?_
  split at hx
  ·rename_i st1 h1;obtain⟨hE,_,hC⟩:=hrec _ _ _ _ h1 hT.bd hN;refine hC n ρ σ pre _ hρ fun σ' ha=>?_;rw[IE]at ha;exact⟨m,Nat.lt_succ_self _,st1,σ',rfl,rfl,hE.bd,hx,fun σ'' ha'=>hk σ'' (ha.trans ha' (by have:=hE.c;rwa [IE]at this))⟩
  ·rename_i hne;obtain⟨hE,hg,hC⟩:=hrec _ _ _ _ hx hT.bd hN;refine hC n ρ σ pre _ hρ fun σ' ha=>?_;rw[IE]at ha;have:=hk σ' ha;cases e with
   |normal=>exact absurd hx (hne st')
   |_=>exact this
theorem iE(hP:EA P){E:XE}(hEE:KA P E){A:Ann}{N:Nat}{rec:bO}(hrec:aA P N rec)(m:Nat):aA P N (VQ P E A m N rec):=by
 intro code st e st' hx hbd hN;unfold VQ at hx;split at hx
 ·rename_i id ops draw;obtain⟨rfl,hx2⟩:=mQ hx;have hT:=uJ (zD (A N (iD id ops.toList+NI))) hbd;obtain⟨hE,hs⟩:=AKL hP hEE hN hx2 hT.bd;exact⟨⟨Nat.le_trans hT.c hE.c,hE.bd,hE.n.trans hT.n⟩,(by intro l h;cases h),fun n ρ σ pre K _ hk=>mL _ (hs n ρ σ pre K fun σ' ha=>hk σ' (by rwa [AMZ]at ha))⟩
 ·rename_i body;have hN:ER N body=true:=hN;obtain⟨h1,h2,h3⟩:=AFO hrec hN m hx hbd;exact⟨h1,h2,fun n ρ σ pre K hρ hk=>h3 n ρ σ pre K hρ hk⟩
 ·exact mR hP hEE hrec m _ _ _ _ hx hbd hN
theorem bC(hP:EA P){A:Ann}{kn:CF0}(hkn:HL P kn):∀n,aB P (AE P A kn n)
 |0=>fun N code st e st' hx=>by cases hx
 |n+1=>fun N=>by have ih:=bC hP (A:=A) hkn n;exact iE hP ⟨AD6 hP hkn ih,AJ5 hP ih,aF hP hkn ih,AD5 hP hkn (ko:=fun _ _ _=>none) (fun _ _ _ _ h=>by cases h) ih⟩ (ih N) n
theorem AFP(hP:EA P){A:Ann}{kn:CF0}(hkn:HL P kn){n:Nat}{f:cz}{args:List V}{r:V}(h:EK P (AE P A kn n) f args=some r)(s:St):FB P f args s fun r' s'=>r'=r/\s'=s :=
 (aD hP (bC hP hkn n) f args r h).1 s
section
variable {A:Ann}{kn:CF0}{n N:Nat}{st:XS}
abbrev BH(P:ck)(A:Ann)(kn:CF0)(n:Nat):XE:=A3I P kn (fun _ _ _=>none) (fun _=>false) (AE P A kn n)
theorem AFQ(a b:cw):AE P A kn (n+1) N (.seq a b) st=cL (AE P A kn n N) b (AE P A kn n N a st):=rfl
theorem zF(c:cj)(a b:cw):AE P A kn (n+1) N (.cond c a b) st=mA (AE P A kn n N) a b st (CD st.fr c):=rfl
theorem rD(id:Nat)(b:cw):AE P A kn (n+1) N (.block id b) st=K2 id (AE P A kn n N b st):=rfl
theorem zG(b:cw):AE P A kn (n+1) N (.loop b) st=BK (AE P A kn n N) b (A N (BU b)) n (CK (A N (BU b)) st):=rfl
theorem zH:AE P A kn (n+1) N .skip st=some (.normal,st):=rfl
theorem zI(id:Nat):AE P A kn (n+1) N (.exit id) st=some (.exit id,st):=rfl
theorem AFR:AE P A kn (n+1) N .ret st=some (.ret,st):=rfl
theorem rF(b:cw):AE P A kn (n+1) N (.scope b) st=AE P A kn n N b st:=rfl
theorem M4(g:cj)(ps:Array Tmp)(asg body:cw):AE P A kn (n+1) N (.rangeFunc g ps asg body) st=VG (BH P A kn n).cf N g ps.toList asg body st:=rfl
theorem AFS(a b:cw):BU (.seq a b)=BU a:=rfl
theorem rG(id:Nat)(b:cw):BU (.block id b)=BU b:=rfl
theorem zJ(b:cw):BU (.loop b)=BU b:=rfl
theorem AB(rec:bO)(body:cw)(a:Tr):BK rec body a (n+1) st=match rec body st with
 |some (.normal,st')=>BK rec body a n (CK a st')
 |r=>r:=rfl
theorem nA(rec:bO)(b:cw):cL rec b (some (.normal,st))=rec b st:=rfl
theorem AFT(rec:bO)(b:cw):cL rec b (some (.ret,st))=some (.ret,st):=rfl
theorem zK(rec:bO)(b:cw)(i:Nat):cL rec b (some (.exit i,st))=some (.exit i,st):=rfl
theorem AFU(rec:bO)(b:cw)(c:Prop)[Decidable c](x y:Option (Exit×XS)):cL rec b (if c then x else y)=if c then cL rec b x else cL rec b y:=by split<;>rfl
theorem cW(id:Nat):K2 id (some (.normal,st))=some (.normal,st):=rfl
theorem rH(id:Nat):K2 id (some (.ret,st))=some (.ret,st):=rfl
theorem nB(id i:Nat):K2 id (some (.exit i,st))=if i=id then some (.normal,st) else some (.exit i,st):=by
 show(Bool.rec _ _ (bx i id):Option (Exit×XS))=_;by_cases h:i=id
 ·subst h;simp
 ·have:bx i id=false:=by
   cases hb:bx i id with
   |false=>rfl
   |true=>exact absurd (Nat.eq_of_beq_eq_true hb) h
  simp[h,this]
theorem rI(id:Nat)(c:Prop)[Decidable c](x y:Option (Exit×XS)):K2 id (if c then x else y)=if c then K2 id x else K2 id y:=by split<;>rfl
def vF:cw->Bool
 |.region ..=>true
 |_=>false
def WP:cw->List cq
 |.region _ ops _=>ops.toList
 |_=>[]
def O0:cw->Bool
 |.region _ _ d=>d
 |_=>false
theorem vG(us:List Nat){E:XE}(h:E.lit=fun _=>false):(cfU us E).lit=fun _=>false:=by cases us<;>exact h
theorem VR{r:cw}(hr:vF r=true){i:IR}(hi:vE P (WP r) (O0 r)=i)(hok:okR P (WP r) (O0 r)=true){a:Tr}(ha:A N (BU r)=a){ks us:List Nat}(ht:zD (A N (BU r+NI))=ks)(hu:zE (A N (BU r+NI))=us)(hy:isY us=false:=by rfl):AE P A kn (n+1) N r st=RA (K3 P (cfU us (BH P A kn n)) i (CK a (M0 ks st))):=by
 cases r with
 |region id ops draw=>
  subst hi ha ht hu
  show RA (AFN P _ N (A N (iD id ops.toList)) ops.toList draw (zE (A N (iD id ops.toList+NI))) (M0 (zD (A N (iD id ops.toList+NI))) st))=_
  unfold AFN
  rw[show isY (zE (A N (iD id ops.toList+NI)))=false from hy]
  cases draw with
  |false=>exact congrArg RA (vA (vG _ rfl) _ _ _)
  |true=>
   show RA (Bool.rec (QI P _ ops.toList _) (RD P (H9 ops.toList) (some _)) (W1 P ops.toList))=RA (K3 P _ (cond (W1 P ops.toList) (.cls (H9 ops.toList)) (.drw ((cI ops.toList).map (vC ops.toList)))) _)
   have hok:cond (W1 P ops.toList) true (inB ops.toList (cI ops.toList))=true:=hok
   cases hc:W1 P ops.toList with
   |true=>rfl
   |false=>
    rw[hc]at hok
    exact congrArg RA (vD (vG _ rfl) _ _ _ hok)
 |_=>cases hr
theorem ES{r:cw}(hr:vF r=true){i:IR}(hi:vE P (WP r) (O0 r)=i)(hok:okR P (WP r) (O0 r)=true){a:Tr}(ha:A N (BU r)=a){ks:List Nat}(ht:zD (A N (BU r+NI))=ks)(hu:zE (A N (BU r+NI))=[]:=by kernel_rfl):AE P A kn (n+1) N r st=RA (K3 P (BH P A kn n) i (CK a (M0 ks st))):=VR hr hi hok ha ht hu rfl
theorem AFV{r:cw}(hr:vF r=true){i:IR}(hi:vE P (WP r) (O0 r)=i)(hok:okR P (WP r) (O0 r)=true){a:Tr}(ha:A N (BU r)=a)(ht:A N (BU r+NI)=none:=by kernel_rfl):AE P A kn (n+1) N r st=RA (K3 P (BH P A kn n) i (CK a st)):=ES hr hi hok ha (congrArg zD ht) (congrArg zE ht)
def VS(P:ck)(rs:List ResultVar)(r:Option (Exit×XS)):Option V:=match r with
 |some (.ret,st)=>finV st.s (FD P rs st.fr st.s)
 |some (.normal,st)=>finV st.s (FD P rs st.fr st.s)
 |_=>none
where finV (s:St) (r:Option V):Option V:=match r with
 |some v=>match AY s 4 v with
  |some r'=>Bool.rec none (some r') (AF 9 r')
  |none=>none
 |none=>none
theorem AQ{f:cz}{fn:Func}{c:cw}{args:List V}{rec:GR}(hf:P.funcs[f]? = some fn)(hb:fn.body=some c)(hs:bm args.length fn.ntmps=true)(hcl:args.all (AF 9)=true) :
  EK P rec f args=VS P fn.results.toList (rec fn.ntmps c ⟨0,AD 0 args,⟨[],[]⟩⟩):=by
 unfold EK eE WN mB
 rw[hcl,hf]
 simp only[hb,hs]
 generalize rec fn.ntmps c ⟨0,AD 0 args,⟨[],[]⟩⟩=q
 have aux:∀st:XS,(match(match FD P fn.results.toList st.fr st.s with
   |some r=>match AY st.s 4 r with
    |some r'=>some (r',st.c,st.s.up.map (AH st.s))
    |none=>none
   | none=>none:Option (V×Nat×List AA))with
  |some (r,_,_)=>(Bool.rec none (some r) (AF 9 r):Option V)
  | none=>none)=VS.finV st.s (FD P fn.results.toList st.fr st.s):=fun st=>by
  unfold VS.finV
  cases FD P fn.results.toList st.fr st.s with
  |none=>rfl
  |some r=>
   cases h:AY st.s 4 r with
   |none=>simp[h]
   |some r'=>simp[h]
 cases q with
 |none=>rfl
 |some q=>
  obtain⟨e,st⟩:=q
  cases e with
  |ret=>exact aux st
  |normal=>exact aux st
  |_=>rfl
theorem AFW(rs:List ResultVar)(c:Prop)[Decidable c](x y:Option (Exit×XS)):VS P rs (if c then x else y)=if c then VS P rs x else VS P rs y:=by split<;>rfl
end
def K4:cw->List Nat->cw
 |c,[]=>c
 |.seq a b,i::p=>bif bx i 0 then K4 a p else K4 b p
 |.cond _ a b,i::p=>bif bx i 0 then K4 a p else K4 b p
 |.block _ a,_::p=>K4 a p
 |.loop a,_::p=>K4 a p
 |.scope a,_::p=>K4 a p
 |.rangeFunc _ _ a b,i::p=>bif bx i 0 then K4 a p else K4 b p
 |c,_=>c
def ASD(fn:Func):cw:=match fn.body with
 |some c=>c
 |none=>.skip
end Go.Pg
namespace Go.Pg
variable {P:ck}{E:XE}{st:XS}{fr:Fr}{s:St}
@[simp] theorem A4V(r:Option XS):OZ P E [] r=r:=rfl
@[simp] theorem AW1(i:I1)(l:List I1)(r:Option XS):OZ P E (i::l) r=OZ P E l (opO P E i r):=rfl
@[simp] theorem A4W(i:I1):opO P E i (some st)=opI P E i st:=rfl
@[simp] theorem A4X(i:I1):opO P E i none=none:=rfl
@[simp] theorem A9P(i:I1)(c:Prop)[Decidable c](x y:Option XS):opO P E i (if c then x else y)=if c then opO P E i x else opO P E i y:=by split<;>rfl
@[simp] theorem A4Y(l:List I1)(c:Prop)[Decidable c](x y:Option XS):OZ P E l (if c then x else y)=if c then OZ P E l x else OZ P E l y:=by split<;>rfl
def gI(P:ck)(E:XE)(d:Option Tmp)(k:IK)(st:XS)(w:Bool)(r:Option (Bool×V)):Option XS:=match r with
 |some (c,.bool b)=>Bool.rec (some (HZ d st)) (CR P E d k st) (c&&(b==w))
 |_=>none
@[simp] theorem A4Z(d:Option Tmp)(k:IK):opI P E ⟨none,d,k⟩ st=CR P E d k st:=rfl
@[simp] theorem AW2(t:Tmp)(w:Bool)(d:Option Tmp)(k:IK):opI P E ⟨some (t,w),d,k⟩ st=gI P E d k st w (BR st.fr t):=by
 show(match(match BR st.fr t with | some (c,.bool b)=>some (c&&(b == w)) | _=>none:Option Bool)with
  |some true=>CR P E d k st
  |some false=>some (HZ d st)
  | none=>none)=_
 unfold gI;cases BR st.fr t with
 |none=>rfl
 |some p=>
  obtain⟨c,v⟩:=p
  cases v with
  |bool b=>cases h:(c&&(b==w))<;>simp[h]
  |_=>rfl
@[simp] theorem BHW(d:Option Tmp)(k:IK):gI P E d k st true (some (true,.bool true))=CR P E d k st:=rfl
@[simp] theorem BHX(d:Option Tmp)(k:IK):gI P E d k st true (some (true,.bool false))=some (HZ d st):=rfl
@[simp] theorem BHY(d:Option Tmp)(k:IK):gI P E d k st false (some (true,.bool true))=some (HZ d st):=rfl
@[simp] theorem BHZ(d:Option Tmp)(k:IK):gI P E d k st false (some (true,.bool false))=CR P E d k st:=rfl
@[simp] theorem BH0(d:Option Tmp)(k:IK)(w b:Bool):gI P E d k st w (some (false,.bool b))=some (HZ d st):=rfl
@[simp] theorem A40(d:Tmp)(c:Nat)(fr:Fr)(s:St):HZ (some d) ⟨c,fr,s⟩=⟨c,(d,false,.bool false)::fr,s⟩:=rfl
@[simp] theorem A41(c:Nat)(fr:Fr)(s:St):HZ none ⟨c,fr,s⟩=⟨c,fr,s⟩:=rfl
@[simp] theorem A42(k:Nat):BR [] k=none:=rfl
@[simp] theorem AW3(j:Nat)(x:Bool×V)(fr:Fr)(k:Nat):BR ((j,x)::fr) k=if k=j then some x else BR fr k:=by rw[E5,E5];rfl
@[simp] theorem ASE(j:Nat)(x:Nat×AX)(L:AA)(k:Nat):AA.get ((j,x)::L) k=if k=j then some x else L.get k:=rfl
def rdT:Option (Bool×V)->Option V
 |some (true,v)=>some v
 |_=>none
@[simp] theorem AFX(v:V):rdT (some (true,v))=some v:=rfl
@[simp] theorem AW5(v:V):rdT (some (false,v))=none:=rfl
@[simp] theorem A43:rdT none=none:=rfl
@[simp] theorem A9Q(t:Tmp):CD fr (.tmp t)=rdT (BR fr t):=by
 show(match BR fr t with
  |some (true,v)=>some v
  | _=>none)=_
 cases BR fr t with
 |none=>rfl
 |some p=>obtain⟨c,v⟩:=p;cases c<;>rfl
@[simp] theorem AW6(v:Value):CD fr (.const v)=CL v:=rfl
@[simp] theorem A44(f:cz):CD fr (.func f)=some (.fn f [] []):=rfl
@[simp] theorem A9R(t:Tmp):rdC fr (.tmp t)=BR fr t:=rfl
@[simp] theorem A45(b:Bool):rdC fr (.const (.bool b))=some (true,.bool b):=rfl
@[simp] theorem ASF(k:cx)(n:Int):CL (.int k n)=some (.int k n):=rfl
@[simp] theorem ANC(b:Bool):CL (.bool b)=some (.bool b):=rfl
@[simp] theorem ASG:CL (.slice none 0 0)=some .nil:=rfl
@[simp] theorem AW7(d:Tmp)(c:Nat)(fr:Fr)(s:St)(v:V):D4 (some d) ⟨c,fr,s⟩ (some v)=some ⟨c,(d,true,v)::fr,s⟩:=rfl
@[simp] theorem A9S(c:Nat)(fr:Fr)(s:St)(v:V):D4 none ⟨c,fr,s⟩ (some v)=some ⟨c,fr,s⟩:=rfl
@[simp] theorem AW8(d:Option Tmp):D4 d st none=none:=rfl
@[simp] theorem A46(d:Option Tmp)(c:Prop)[Decidable c](x y:Option V):D4 d st (if c then x else y)=if c then D4 d st x else D4 d st y:=by split<;>rfl
section
variable (d:Option Tmp)(c:Nat)
@[simp] theorem A47(x:cj):CR P E d (.mv x) ⟨c,fr,s⟩=D4 d ⟨c,fr,s⟩ (CD fr x):=rfl
def ASH(P:ck)(op:BinOp)(T:bp):Option V->Option V->Option V
 |some a,some b=>F9 P op T a b
 |_,_=>none
@[simp] theorem AW9(op:BinOp)(T:bp)(a b:V):ASH P op T (some a) (some b)=F9 P op T a b:=rfl
@[simp] theorem AXA(op:BinOp)(T:bp)(x y:cj):CR P E d (.bin op T x y) ⟨c,fr,s⟩=D4 d ⟨c,fr,s⟩ (ASH P op T (CD fr x) (CD fr y)):=by show D4 d _ (yC P fr op T x y)=_;unfold yC ASH;cases CD fr x<;>cases CD fr y<;>rfl
def fa1(P:ck)(T:bp)(f:Nat):Option V->Option V
 |some p=>C6 P T p f
 |none=>none
@[simp] theorem A48(T:bp)(f:Nat)(p:V):fa1 P T f (some p)=C6 P T p f:=rfl
@[simp] theorem A49(T:bp)(x:cj)(f:Nat):CR P E d (.fa T x f) ⟨c,fr,s⟩=D4 d ⟨c,fr,s⟩ (fa1 P T f (CD fr x)):=by show D4 d _ (xFA P fr T x f)=_;unfold xFA fa1;cases CD fr x<;>rfl
def wh1(P:ck)(T:bp):Option (List V)->Option V
 |some cs=>BI P T cs
 |none=>none
@[simp] theorem A5A(T:bp)(cs:List V):wh1 P T (some cs)=BI P T cs:=rfl
def ld1(P:ck)(s:St)(T:bp):Option V->Option V
 |some p=>wh1 P T (A6 s p)
 |none=>none
@[simp] theorem AFY(T:bp)(p:V):ld1 P s T (some p)=wh1 P T (A6 s p):=rfl
@[simp] theorem A5B(T:bp)(x:cj):CR P E d (.ld T x) ⟨c,fr,s⟩=D4 d ⟨c,fr,s⟩ (ld1 P s T (CD fr x)):=by
 show D4 d _ (NE P fr s T x)=_;unfold NE ld1;cases CD fr x with
 |none=>rfl
 |some p=>unfold wh1;cases A6 s p<;>rfl
def pk3:Option V->Option (Bool×V)->Option (Bool×V)->Option V
 |some (.bool c),some (ca,.bool a),some (cb,.bool b)=>Bool.rec (Bool.rec none (some (.bool b)) cb) (Bool.rec none (some (.bool a)) ca) c
 |_,_,_=>none
@[simp] theorem A5C(a cb b:Bool):pk3 (some (.bool true)) (some (true,.bool a)) (some (cb,.bool b))=some (.bool a):=rfl
@[simp] theorem AXB(ca a b:Bool):pk3 (some (.bool false)) (some (ca,.bool a)) (some (true,.bool b))=some (.bool b):=rfl
@[simp] theorem A5D(c a b:Bool):pk3 (some (.bool c)) (some (true,.bool a)) (some (true,.bool b))=some (.bool (if c then a else b)):=by cases c<;>rfl
@[simp] theorem ASI(x y z:cj):CR P E d (.pick x y z) ⟨c,fr,s⟩=D4 d ⟨c,fr,s⟩ (pk3 (CD fr x) (rdC fr y) (rdC fr z)):=rfl
def ba2:Option V->Nat->Option (List (Nat×V))->Option (List (Nat×V))
 |some v,i,some l=>some ((i,v)::l)
 |_,_,_=>none
@[simp] theorem A5E(v:V)(i:Nat)(l:List (Nat×V)):ba2 (some v) i (some l)=some ((i,v)::l):=rfl
@[simp] theorem ASJ(r:cj->Option V):C8 r []=some []:=rfl
@[simp] theorem AND(r:cj->Option V)(i:Nat)(x:cj)(l:List (Nat×cj)):C8 r ((i,x)::l)=ba2 (r x) i (C8 r l):=by simp only[C8];unfold ba2;cases r x<;>cases C8 r l<;>rfl
def bd1(P:ck)(T:bp):Option (List (Nat×V))->Option V
 |some l=>CZ P T l
 |none=>none
@[simp] theorem A5F(T:bp)(l:List (Nat×V)):bd1 P T (some l)=CZ P T l:=rfl
@[simp] theorem ANE(T:bp)(ps:List (Nat×cj)):CR P E d (.build T ps) ⟨c,fr,s⟩=D4 d ⟨c,fr,s⟩ (bd1 P T (C8 (CD fr) ps)):=by show D4 d _ (VB P fr T ps)=_;unfold VB bd1;cases C8 (CD fr) ps<;>rfl
def bs1(P:ck)(T:bp)(n:Nat):Option (List (Nat×V))->Option V
 |some l=>B5 P T n l
 |none=>none
@[simp] theorem A5G(T:bp)(n:Nat)(l:List (Nat×V)):bs1 P T n (some l)=B5 P T n l:=rfl
@[simp] theorem AKM(T:bp)(n:Nat)(ps:List (Nat×cj)):CR P E d (.buildS T n ps) ⟨c,fr,s⟩=D4 d ⟨c,fr,s⟩ (bs1 P T n (C8 (CD fr) ps)):=by show D4 d _ (PK P fr T n ps)=_;unfold PK bs1;cases C8 (CD fr) ps<;>rfl
@[simp] theorem AXC(op:Op):CR P E d (.oth op) ⟨c,fr,s⟩=D4 d ⟨c,fr,s⟩ (JE P (mW op) s (CD fr)):=rfl
def al1(d:Tmp)(c:Nat)(fr:Fr)(s:St):Option (List V)->Option XS
 |some cs=>some ⟨c+1,(d,true,.ptr s.up.length d c 0)::fr,s.put s.up.length d c (.box cs)⟩
 |none=>none
@[simp] theorem A5H(d:Tmp)(cs:List V):al1 d c fr s (some cs)=some ⟨c+1,(d,true,.ptr s.up.length d c 0)::fr,s.put s.up.length d c (.box cs)⟩:=rfl
@[simp] theorem ANF(d:Tmp)(T:bp):CR P E (some d) (.alloc T) ⟨c,fr,s⟩=al1 d c fr s (B7 P T):=by show ON P (some d) T _=_;unfold ON al1;cases B7 P T<;>rfl
def zL(d:Tmp)(c:Nat)(fr:Fr)(s:St):Option V->Option XS
 |some v=>Bool.rec none (some ⟨c+1,(d,true,.ptr s.up.length d c 0)::fr,s.put s.up.length d c (.box (A5 v))⟩) (A8 v)
 |none=>none
@[simp] theorem A9W(d:Tmp)(k:cx)(n:Int):zL d c fr s (some (.int k n))=some ⟨c+1,(d,true,.ptr s.up.length d c 0)::fr,s.put s.up.length d c (.box [.int k n])⟩:=rfl
@[simp] theorem A5I(d:Tmp)(b:Bool):zL d c fr s (some (.bool b))=some ⟨c+1,(d,true,.ptr s.up.length d c 0)::fr,s.put s.up.length d c (.box [.bool b])⟩:=rfl
@[simp] theorem A9X(d:Tmp)(cs:List V):zL d c fr s (some (.agg cs))=some ⟨c+1,(d,true,.ptr s.up.length d c 0)::fr,s.put s.up.length d c (.box cs)⟩:=rfl
@[simp] theorem A5J(d:Tmp)(b:Bool)(es:List (List V)):zL d c fr s (some (.list b es))=some ⟨c+1,(d,true,.ptr s.up.length d c 0)::fr,s.put s.up.length d c (.box [.list b es])⟩:=rfl
@[simp] theorem A9Y(d:Tmp):zL d c fr s (some .nil)=some ⟨c+1,(d,true,.ptr s.up.length d c 0)::fr,s.put s.up.length d c (.box [.nil])⟩:=rfl
@[simp] theorem A9Z(d:Tmp)(l k g n:Nat):zL d c fr s (some (.vec l k g n))=some ⟨c+1,(d,true,.ptr s.up.length d c 0)::fr,s.put s.up.length d c (.box [.vec l k g n])⟩:=rfl
@[simp] theorem BEQ(d:Tmp)(l k g:Nat):zL d c fr s (some (.mp l k g))=some ⟨c+1,(d,true,.ptr s.up.length d c 0)::fr,s.put s.up.length d c (.box [.mp l k g])⟩:=rfl
@[simp] theorem AXD(d:Tmp)(x:cj):CR P E (some d) (.box x) ⟨c,fr,s⟩=zL d c fr s (CD fr x):=by show lQ (some d) x _=_;unfold lQ zL;cases CD fr x<;>rfl
def st3(γ:Nat)(P:ck)(T:bp)(c:Nat)(fr:Fr)(s:St)(l q off:Nat)(v:V):Option (Nat×AX)->Option XS
 |some (γ',.box cs)=>if γ'=γ/\A8 v=true/\0<P.cellsOf T/\(A5 v).length=P.cellsOf T/\off+P.cellsOf T<=cs.length/\γ<c then some ⟨c,fr,s.put l q γ (.box (AZ cs off (A5 v)))⟩ else none
 |_=>none
def st4(γ:Nat)(P:ck)(T:bp)(c:Nat)(fr:Fr)(s:St)(l q i off:Nat)(v:V):Option (Nat×AX)->Option XS
 |some (γ',.vec U es)=>if γ'=γ/\A8 v=true/\0<P.cellsOf T/\(A5 v).length=P.cellsOf T/\i<es.length/\off+P.cellsOf T<=(es.getD i []).length/\γ<c then some ⟨c,fr,s.put l q γ (.vec U (es.set i (AZ (es.getD i []) off (A5 v))))⟩ else none
 |_=>none
def G7(P:ck)(T:bp)(c:Nat)(fr:Fr)(s:St):Option V->Option V->Option XS
 |some (.ptr l q γ off),some v=>st3 γ P T c fr s l q off v (s.get l q)
 |some (.eptr l q γ i off),some v=>st4 γ P T c fr s l q i off v (s.get l q)
 |_,_=>none
@[simp] theorem AKN(T:bp)(l q γ off:Nat)(v:V):G7 P T c fr s (some (.ptr l q γ off)) (some v)=st3 γ P T c fr s l q off v (s.get l q):=rfl
@[simp] theorem AFZ(T:bp)(l q γ i off:Nat)(v:V):G7 P T c fr s (some (.eptr l q γ i off)) (some v)=st4 γ P T c fr s l q i off v (s.get l q):=rfl
@[simp] theorem AKO(γ γ':Nat)(T:bp)(l q off:Nat)(v:V)(cs:List V):st3 γ P T c fr s l q off v (some (γ',.box cs))=if γ'=γ/\A8 v=true/\0<P.cellsOf T/\(A5 v).length=P.cellsOf T/\off+P.cellsOf T<=cs.length/\γ<c then some ⟨c,fr,s.put l q γ (.box (AZ cs off (A5 v)))⟩ else none:=rfl
@[simp] theorem AKP(γ γ':Nat)(T:bp)(l q i off:Nat)(v:V)(U:bp)(es:List (List V)):st4 γ P T c fr s l q i off v (some (γ',.vec U es))=if γ'=γ/\A8 v=true/\0<P.cellsOf T/\(A5 v).length=P.cellsOf T/\i<es.length/\off+P.cellsOf T<=(es.getD i []).length/\γ<c then some ⟨c,fr,s.put l q γ (.vec U (es.set i (AZ (es.getD i []) off (A5 v))))⟩ else none:=rfl
theorem AKQ(T:bp)(x y:cj):I7 P none T x y ⟨c,fr,s⟩=G7 P T c fr s (CD fr x) (CD fr y):=by
 unfold I7;simp only;cases CD fr x with
 |none=>rfl
 |some p=>
  cases CD fr y with
  |none=>cases p<;>rfl
  |some v=>
   cases p with
   |ptr l q γ off=>
    simp only[AKN]
    cases s.get l q with
    |none=>rfl
    |some z=>
     obtain⟨γ',r⟩:=z
     cases r with
     |box cs=>
      simp only[AKO,bj,bf,Nat.ble_eq,bg,and_assoc]
     |_=>rfl
   |eptr l q γ i off=>
    simp only[AFZ]
    cases s.get l q with
    |none=>rfl
    |some z=>
     obtain⟨γ',r⟩:=z
     cases r with
     |vec U es=>
      simp only[AKP,bj,bf,Nat.ble_eq,bg,and_assoc]
     |_=>rfl
   |_=>rfl
@[simp] theorem AXE(T:bp)(x y:cj):CR P E none (.sto T x y) ⟨c,fr,s⟩=G7 P T c fr s (CD fr x) (CD fr y):=AKQ c T x y
def apW(P:ck)(e:bp)(d c:Nat)(fr:Fr)(s:St)(l q γ n:Nat)(ys:List (List V)):Option (Nat×AX)->Option XS
 |some (γ',.vec W es)=>if γ'=γ/\W=e/\n=es.length/\es.all (fun y=>y.length==P.cellsOf e)=true/\B8 P e es.length ys=true then
   some ⟨c+1,(d,true,.vec l q c (es.length+ys.length))::fr,s.put l q c (.vec e (es++ys))⟩ else none
 |_=>none
@[simp] theorem T6(e:bp)(d:Nat)(l q γ γ' n:Nat)(ys es:List (List V))(W:bp):apW P e d c fr s l q γ n ys (some (γ',.vec W es))=if γ'=γ/\W=e/\n=es.length/\es.all (fun y=>y.length==P.cellsOf e)=true/\B8 P e es.length ys=true then
   some ⟨c+1,(d,true,.vec l q c (es.length+ys.length))::fr,s.put l q c (.vec e (es++ys))⟩ else none:=rfl
def apV(P:ck)(e:bp)(d c:Nat)(fr:Fr)(s:St)(xv:V)(ys:List (List V)):Option XS:=match IU xv ys with
 |some es=>if es.all (fun y=>y.length==P.cellsOf e)=true/\B8 P e es.length ys=true then some ⟨c+1,(d,true,.vec s.up.length d c (es.length+ys.length))::fr,s.put s.up.length d c (.vec e (es++ys))⟩ else none
 |none=>match xv with
  |.vec l q γ n=>apW P e d c fr s l q γ n ys (QY n ys (s.get l q))
  |_=>none
@[simp] theorem nC(n γ:Nat)(ys es:List (List V))(U:bp):QY n ys (some (γ,.vec U es))=some (γ,.vec U (YX n ys es)):=rfl
@[simp] theorem AXF(n:Nat)(ys:List (List V)):QY n ys none=none:=rfl
attribute [simp] UV
@[simp] theorem A90(e:bp)(d:Nat)(ys:List (List V)):apV P e d c fr s .nil ys=if B8 P e 0 ys=true then some ⟨c+1,(d,true,.vec s.up.length d c ys.length)::fr,s.put s.up.length d c (.vec e ys)⟩ else none:=by simp[apV,IU]
@[simp] theorem A91(e:bp)(d:Nat)(ys:List (List V)):apV P e d c fr s (.list true []) ys=if B8 P e 0 ys=true then some ⟨c+1,(d,true,.vec s.up.length d c ys.length)::fr,s.put s.up.length d c (.vec e ys)⟩ else none:=by simp[apV,IU]
@[simp] theorem A5L(e:bp)(d:Nat)(z y:List V)(es ys:List (List V)):apV P e d c fr s (.list true (z::es)) (y::ys)=if (z::es).all (fun y=>y.length==P.cellsOf e)=true/\B8 P e (z::es).length (y::ys)=true then
   some ⟨c+1,(d,true,.vec s.up.length d c ((z::es).length+(y::ys).length))::fr,s.put s.up.length d c (.vec e ((z::es)++(y::ys)))⟩ else none:=rfl
@[simp] theorem AKR(e:bp)(d:Nat)(l q γ n:Nat)(ys:List (List V)):apV P e d c fr s (.vec l q γ n) ys=apW P e d c fr s l q γ n ys (QY n ys (s.get l q)):=by simp[apV,IU]
def ap3(P:ck)(d c:Nat)(fr:Fr)(s:St):Option (Option Nat×bp)->Option V->Option V->Option XS
 |some (none,e),some xv,some yv=>ap4 e xv (elemsOf s yv)
 |_,_,_=>none
where ap4 (e:bp) (xv:V):Option (List (List V))->Option XS
 |some ys=>apV P e d c fr s xv ys
 |none=>none
@[simp] theorem AF0(d:Nat)(e:bp)(xv yv:V):ap3 P d c fr s (some (none,e)) (some xv) (some yv)=ap3.ap4 P d c fr s e xv (elemsOf s yv):=rfl
@[simp] theorem AF1(d:Nat)(e:bp)(xv:V)(ys:List (List V)):ap3.ap4 P d c fr s e xv (some ys)=apV P e d c fr s xv ys:=rfl
@[simp] theorem AKS(b:Bool)(es:List (List V)):elemsOf s (.list b es)=some es:=rfl
@[simp] theorem ANG:elemsOf s .nil=some []:=rfl
theorem ifB{α:Type}{b:Bool}{x y:α}:(Bool.rec y x b:α)=if b=true then x else y:=by cases b<;>rfl
theorem zM{k:Nat}{e:bp}(d:Nat)(x y:Option V):ap3 P d c fr s (some (some k,e)) x y=none:=by cases x<;>cases y<;>rfl
@[simp] theorem AXG(d:Tmp)(x y:cj)(T:bp):CR P E (some d) (.app [x,y] [T,T]) ⟨c,fr,s⟩=ap3 P d c fr s (BO P T) (CD fr x) (CD fr y):=by
 show xAppend P (some d) [x,y] [T,T] _=_;unfold xAppend xAppG;simp only[Nat.beq_refl];cases hT:BO P T with
 |none=>cases CD fr x<;>cases CD fr y<;>rfl
 |some p=>
  obtain⟨k,e⟩:=p
  cases k with
  |some k=>rw[zM]
  |none=>
   cases CD fr x with
   |none=>rfl
   |some xv=>
    cases CD fr y with
    |none=>rfl
    |some yv=>
     simp only[AF0]
     cases elemsOf s yv with
     |none=>rfl
     |some ys=>
      simp only[AF1,apV]
      cases IU xv ys with
      |some es=>
       simp only[ifB,bj,bq]
       by_cases hC:es.all (fun y=>y.length==P.cellsOf e)=true/\B8 P e es.length ys=true
       ·rw[if_pos hC,if_pos hC]
       ·rw[if_neg hC,if_neg hC]
      |none=>
       simp only
       unfold lU
       cases xv with
       |vec l q γ n=>
        simp only
        cases QY n ys (s.get l q)with
        |none=>rfl
        |some z=>
         obtain⟨γ',r⟩:=z
         cases r with
         |vec W es=>
          simp only[ifB,bj,bq,T6,bg,and_assoc]
          by_cases hC:γ'=γ/\W=e/\n=es.length/\es.all (fun y=>y.length==P.cellsOf e)=true/\B8 P e es.length ys=true
          ·rw[if_pos hC,if_pos hC]
          ·rw[if_neg hC,if_neg hC]
         |_=>rfl
       |_=>rfl
def mc2:Option V->Option (List V)->Option (List V)
 |some v,some l=>some (v::l)
 |_,_=>none
@[simp] theorem A5O(v:V)(l:List V):mc2 (some v) (some l)=some (v::l):=rfl
@[simp] theorem A5P(f:cj->Option V):E8 f []=some []:=rfl
@[simp] theorem AXH(f:cj->Option V)(x:cj)(l:List cj):E8 f (x::l)=mc2 (f x) (E8 f l):=by
 simp only[E8];cases f x with
 |none=>rfl
 |some v=>cases E8 f l<;>rfl
def G8(E:XE)(d:Option Tmp)(st:XS)(f:cz)(args:List V):Option XS:=match E.cf f args st with
 |some (r,st')=>some ⟨st'.c,putD st'.fr d true r,st'.s⟩
 |none=>none
def ca1(E:XE)(d:Option Tmp)(st:XS):Option V->Option (List V)->Option XS
 |some (.fn f first cap),some vs=>G8 E d st f ((first++vs++cap).map weakV)
 |some (.yld l q γ),some vs=>ca3 (E.cy l q γ vs st)
 |_,_=>none
where ca3:Option (V×XS)->Option XS
 |some (r,st')=>some ⟨st'.c,putD st'.fr d true r,st'.s⟩
 |none=>none
@[simp] theorem ASK(st:XS)(f:cz)(first cap vs:List V):ca1 E d st (some (.fn f first cap)) (some vs)=G8 E d st f ((first++vs++cap).map weakV):=rfl
@[simp] theorem AKT(st:XS)(l q γ:Nat)(vs:List V):ca1 E d st (some (.yld l q γ)) (some vs)=ca1.ca3 d (E.cy l q γ vs st):=rfl
@[simp] theorem A5Q(d:Tmp)(r:V):ca1.ca3 (some d) (some (r,⟨c,fr,s⟩))=some ⟨c,(d,true,r)::fr,s⟩:=rfl
theorem bD(st:XS)(f:cj)(args:List cj):QF E.cf E.cy d f args st=ca1 E d st (CD st.fr f) (E8 (CD st.fr) args):=by
 unfold QF;cases CD st.fr f with
 |none=>rfl
 |some v=>
  cases v with
  |fn f first cap=>
   simp only
   cases E8 (CD st.fr) args with
   |none=>rfl
   |some vs=>simp only[ASK,G8];cases E.cf f ((first++vs++cap).map weakV) st<;>rfl
  |yld l q γ=>
   simp only[pR]
   cases E8 (CD st.fr) args with
   |none=>rfl
   |some vs=>simp only[AKT];cases E.cy l q γ vs st<;>rfl
  |_=>rfl
@[simp] theorem ASL(f:cj)(args:List cj):CR P E d (.call false none f args) ⟨c,fr,s⟩=ca1 E d ⟨c,fr,s⟩ (CD fr f) (E8 (CD fr) args):=bD d ⟨c,fr,s⟩ f args
@[simp] theorem ANJ(t:Tmp)(f:cj)(args:List cj):CR P E d (.call false (some t) f args) ⟨c,fr,s⟩=ca1 E d (aZ (some t) ⟨c,fr,s⟩) (CD (aZ (some t) ⟨c,fr,s⟩).fr f) (E8 (CD (aZ (some t) ⟨c,fr,s⟩).fr) args):=bD d _ f args
def orK:Bool->Option V->Option V->Option V
 |true,some r,_=>some r
 |_,_,z=>z
@[simp] theorem A5R(r:V)(z:Option V):orK true (some r) z=some r:=rfl
@[simp] theorem A5S(b:Bool)(z:Option V):orK b z z=z:=by cases b<;>cases z<;>rfl
theorem nD{P:ck}{kn:CF0}{rec:GR}{f:cz}{args:List V}:FI P kn rec f args=orK (args.all (AF 9)) (A3 P kn rec f (args.map weakN)) (A3 P kn rec f args):=by unfold FI orK;cases A3 P kn rec f (args.map weakN)<;>cases args.all (AF 9)<;>rfl
attribute [simp] nD
@[simp] theorem AXI(k:cx)(n:Int):weakN (.int k n)=.int k n:=rfl
@[simp] theorem ASN(b:Bool):weakN (.bool b)=.bool b:=rfl
@[simp] theorem AXJ(v:Value):weakN (.raw v)=.raw v:=rfl
@[simp] theorem ASO(b:Bool)(es:List (List V)):weakN (.list b es)=.list b es:=rfl
@[simp] theorem AXK(cs:List V):weakN (.agg cs)=.agg (cs.map weakM):=rfl
@[simp] theorem AXL:weakN .nil=.list false []:=rfl
@[simp] theorem A5T(f:cz)(x y:List V):weakN (.fn f x y)=.fn f x y:=rfl
@[simp] theorem AXM(cs:List V):weakN (.ref cs)=.ref cs:=rfl
@[simp] theorem AXN(k:cx)(n:Int):weakM (.int k n)=.int k n:=rfl
@[simp] theorem ASP(b:Bool):weakM (.bool b)=.bool b:=rfl
@[simp] theorem ASQ(b:Bool)(es:List (List V)):weakM (.list b es)=.list b es:=rfl
@[simp] theorem AXO:weakM .nil=.list false []:=rfl
@[simp] theorem A5U(f:cz)(x y:List V):weakM (.fn f x y)=.fn f x y:=rfl
@[simp] theorem AXP(cs:List V):weakM (.ref cs)=.ref cs:=rfl
theorem bE{A:Ann}{kn:CF0}{n:Nat}{f:cz}{args:List V}(h:args.all (AF 9)=true)(hh:BJ P f=false)(st:XS):G8 (BH P A kn n) d st f args=D4 d st (orK true (A3 P kn (AE P A kn n) f (args.map weakN)) (A3 P kn (AE P A kn n) f args)):=by
 have e:orK true (A3 P kn (AE P A kn n) f (args.map weakN)) (A3 P kn (AE P A kn n) f args)=FI P kn (AE P A kn n) f args:=by rw[nD,h]
 rw[e];show(match Z7 P kn (AE P A kn n) f args st with
  |some (r,st')=>some (⟨st'.c,putD st'.fr d true r,st'.s⟩:XS)
  | none=>none)=_
 unfold Z7;rw[h,hh];cases FI P kn (AE P A kn n) f args<;>rfl
end
@[simp] theorem A5V(k:cx)(n:Int):weakV (.int k n)=.int k n:=rfl
@[simp] theorem AXQ(b:Bool):weakV (.bool b)=.bool b:=rfl
@[simp] theorem AXR(b:Bool)(es:List (List V)):weakV (.list b es)=.list false es:=rfl
@[simp] theorem A5W(cs:List V):weakV (.agg cs)=.agg (cs.map weakC):=rfl
@[simp] theorem AXS(k:cx)(n:Int):weakC (.int k n)=.int k n:=rfl
@[simp] theorem ASR(b:Bool):weakC (.bool b)=.bool b:=rfl
@[simp] theorem ASS(b:Bool)(es:List (List V)):weakC (.list b es)=.list false es:=rfl
@[simp] theorem AXT:weakC .nil=.nil:=rfl
@[simp] theorem A5X:weakV .nil=.nil:=rfl
@[simp] theorem A92(f:cz)(x y:List V):weakV (.fn f x y)=.fn f x y:=rfl
@[simp] theorem AST(f:Nat)(k:cx)(n:Int):AF (f+1) (.int k n)=true:=rfl
@[simp] theorem ANK(f:Nat)(b:Bool):AF (f+1) (.bool b)=true:=rfl
@[simp] theorem ASU(f:Nat):AF (f+1) .nil=true:=rfl
@[simp] theorem ASV(f:Nat)(cs:List V):AF (f+1) (.agg cs)=cs.all (AF f):=rfl
@[simp] theorem ASW(f:Nat)(cs:List V):AF (f+1) (.tup cs)=cs.all (AF f):=rfl
@[simp] theorem ASX(f:Nat)(cs:List V):AF (f+1) (.ref cs)=cs.all (AF f):=rfl
@[simp] theorem ANL(f:Nat)(b:Bool)(es:List (List V)):AF (f+1) (.list b es)=es.all fun e=>e.all (AF f):=rfl
@[simp] theorem AXU(f:Nat)(g:cz)(x y:List V):AF (f+1) (.fn g x y)=(x.all (AF f)&&y.all (AF f)):=rfl
section
variable (r:cj->Option V)
def o1(f:V->Option V):Option V->Option V
 |some v=>f v
 |none=>none
@[simp] theorem A93(f:V->Option V)(v:V):o1 f (some v)=f v:=rfl
def o2(f:V->V->Option V):Option V->Option V->Option V
 |some a,some b=>f a b
 |_,_=>none
@[simp] theorem A94(f:V->V->Option V)(a b:V):o2 f (some a) (some b)=f a b:=rfl
theorem T7(f:V->Option V)(x:Option V):x.bind f=o1 f x:=by cases x<;>rfl
theorem iF(f:V->V->Option V)(x y:Option V):(x.bind fun a=>y.bind fun b=>f a b)=o2 f x y:=by cases x<;>cases y<;>rfl
@[simp] theorem BET(op:UnOp)(T:bp)(x:cj):JE P (mW (.unOp op T x)) s r=o1 (bX op) (r x):=T7 _ _
@[simp] theorem A5Y(T U:bp)(x:cj):JE P (mW (.convert T U x)) s r=o1 (J2 P T U) (r x):=T7 _ _
@[simp] theorem A5Z(T:bp)(x i:cj):JE P (mW (.indexAddr T x i)) s r=o2 (BL P s T) (r x) (r i):=iF _ _ _
@[simp] theorem AXV(T:bp)(x:cj)(f:Nat):JE P (mW (.field T x f)) s r=o1 (fun a=>IC P T a f) (r x):=T7 _ _
@[simp] theorem A95(x:cj)(i:Nat):JE P (mW (.extract x i)) s r=o1 (fun a=>FO a i) (r x):=T7 _ _
@[simp] theorem A96(x:cj)(T:bp):JE P (mW (.call ⟨.builtin .len,#[x],#[T]⟩)) s r=o1 (HY P T) (r x):=T7 _ _
end
@[simp] theorem A50(b:Bool):bX .not (.bool b)=some (.bool !b):=rfl
@[simp] theorem A51(k:cx)(n:Int):bX .neg (.int k n)=some (.int k (k.wrap (0-n))):=rfl
@[simp] theorem AGW(vs:List V)(i:Nat):FO (.tup vs) i=vs[i]?:=rfl
@[simp] theorem BEU(up:List AA)(loc:AA)(l k g:Nat)(r:AX):St.put ⟨up,loc⟩ l k g r=if l=up.length then⟨up,(k,g,r)::loc⟩ else⟨up.modify l fun L=>L.put k g r,loc⟩:=rfl
def upG(k:Nat):Option AA->Option (Nat×AX)
 |some L=>L.get k
 |none=>none
@[simp] theorem A52(k:Nat)(L:AA):upG k (some L)=L.get k:=rfl
@[simp] theorem AF2(up:List AA)(loc:AA)(l k:Nat):St.get ⟨up,loc⟩ l k=if l=up.length then loc.get k else upG k up[l]?:=rfl
def kx(k:Nat)(r:Fr):Option (Bool×V)->Fr
 |some (c,v)=>(k,c,v)::r
 |none=>r
@[simp] theorem A97(k:Nat)(r:Fr)(c:Bool)(v:V):kx k r (some (c,v))=(k,c,v)::r:=rfl
@[simp] theorem A98(k:Nat)(r:Fr):kx k r none=r:=rfl
@[simp] theorem AXW:QH [] fr=[]:=rfl
@[simp] theorem ASY(k:Nat)(ks:List Nat):QH (k::ks) fr=kx k (QH ks fr) (BR fr k):=by show(match BR fr k with|some (c,v)=>(k,c,v)::QH ks fr|none=>QH ks fr)=_;cases BR fr k<;>rfl
def kl(k:Nat)(r:AA):Option (Nat×AX)->AA
 |some (g,x)=>(k,g,x)::r
 |none=>r
@[simp] theorem A99(k:Nat)(r:AA)(g:Nat)(x:AX):kl k r (some (g,x))=(k,g,x)::r:=rfl
@[simp] theorem BAA(k:Nat)(r:AA):kl k r none=r:=rfl
@[simp] theorem AXX(L:AA):IV [] L=[]:=rfl
@[simp] theorem ASZ(k:Nat)(ks:List Nat)(L:AA):IV (k::ks) L=kl k (IV ks L) (L.get k):=by unfold kl;simp only[IV];cases L.get k<;>rfl
@[simp] theorem A53(ks ls:List Nat)(c:Nat)(fr:Fr)(up:List AA)(loc:AA):CK (some (ks,ls)) ⟨c,fr,⟨up,loc⟩⟩=⟨c,QH ks fr,⟨up,IV ls loc⟩⟩:=rfl
@[simp] theorem AS0:CK none st=st:=rfl
@[simp] theorem BEV:RA (some st)=some (.normal,st):=rfl
@[simp] theorem A54:RA none=none:=rfl
@[simp] theorem BAB(c:Prop)[Decidable c](x y:Option XS):RA (if c then x else y)=if c then RA x else RA y:=by split<;>rfl
@[simp] theorem A55(l:List I1):K3 P E (.str l) st=OZ P E l (some st):=rfl
@[simp] theorem A56(S:List mY):K3 P E (.drw S) st=VP P E S (some st):=rfl
@[simp] theorem A57(ks:List (Nat×Nat×Nat)):K3 P E (.cls ks) st=RD P ks (some st):=rfl
@[simp] theorem A58(o:Option XS):RD P [] o=o:=rfl
@[simp] theorem AXY(T a d:Nat)(r:List (Nat×Nat×Nat))(st:XS):RD P ((T,a,d)::r) (some st)=RD P r (if qP (CD st.fr (.tmp a))=true then D4 (some d) st (NE P st.fr st.s T (.tmp a)) else none):=by
 show RD P r (Bool.rec _ _ (qP (CD st.fr (.tmp a))))=_;cases qP (CD st.fr (.tmp a))with
 |false=>rfl
 |true=>
  simp only[if_true]
  congr 1
@[simp] theorem A59(l k g o:Nat):qP (some (.ptr l k g o))=true:=rfl
@[simp] theorem A6A(rs:List ResultVar):VS P rs (some (.ret,st))=VS.finV st.s (FD P rs st.fr st.s):=rfl
@[simp] theorem ANM(rs:List ResultVar):VS P rs (some (.normal,st))=VS.finV st.s (FD P rs st.fr st.s):=rfl
def AS1:Option V->Option V
 |some r=>if AF 9 r=true then some r else none
 |none=>none
@[simp] theorem AXZ(r:V):AS1 (some r)=if AF 9 r=true then some r else none:=rfl
@[simp] theorem AX0(v:V):VS.finV s (some v)=AS1 (AY s 4 v):=by
 unfold VS.finV AS1;simp only;cases AY s 4 v with
 |none=>rfl
 |some r=>simp only[ifB]
@[simp] theorem AS2(t:Tmp):CN P fr s (.tmp t)=rdT (BR fr t):=by
 rw[E5];show(match fr.get t with
  |some (true,v)=>some v
  | _=>none)=_
 cases fr.get t with
 |none=>rfl
 |some p=>obtain⟨c,v⟩:=p;cases c<;>rfl
@[simp] theorem A6B(x:ResultVar):FD P [x] fr s=CN P fr s x:=by unfold FD;simp only[bz,bh];cases CN P fr s x<;>rfl
def re2:Option V->Option V->Option V
 |some a,some b=>some (.tup [a,b])
 |_,_=>none
@[simp] theorem A6C(a b:V):re2 (some a) (some b)=some (.tup [a,b]):=rfl
@[simp] theorem A6D(x y:ResultVar):FD P [x,y] fr s=re2 (CN P fr s x) (CN P fr s y):=by unfold FD;simp only[bz,bh];cases CN P fr s x<;>cases CN P fr s y<;>rfl
def re3:Option V->Option V->Option V->Option V
 |some a,some b,some c=>some (.tup [a,b,c])
 |_,_,_=>none
@[simp] theorem A6E(a b c:V):re3 (some a) (some b) (some c)=some (.tup [a,b,c]):=rfl
@[simp] theorem AS3(x y z:ResultVar):FD P [x,y,z] fr s=re3 (CN P fr s x) (CN P fr s y) (CN P fr s z):=by unfold FD;simp only[bz,bh];cases CN P fr s x<;>cases CN P fr s y<;>cases CN P fr s z<;>rfl
@[simp] theorem AS4(f:Nat)(k:cx)(n:Int):AY s (f+1) (.int k n)=some (.int k n):=rfl
@[simp] theorem ANN(f:Nat)(b:Bool):AY s (f+1) (.bool b)=some (.bool b):=rfl
@[simp] theorem AS5(f:Nat):AY s (f+1) .nil=some .nil:=rfl
@[simp] theorem ANO(f:Nat)(b:Bool)(es:List (List V)):AY s (f+1) (.list b es)=some (.list false es):=rfl
def nX(mk:List V->V):Option (List V)->Option V
 |some l=>some (mk l)
 |none=>none
@[simp] theorem A6F(mk:List V->V)(l:List V):nX mk (some l)=some (mk l):=rfl
def P5(f:V->Option V):List V->Option (List V)
 |[]=>some []
 |v::l=>mc2 (f v) (P5 f l)
theorem T8(f:V->Option V):∀(l:List V),l.mapM f=P5 f l
 |[]=>rfl
 |v::l=>by simp only[bz,P5,T8 f l];cases f v<;>cases P5 f l<;>rfl
@[simp] theorem A6G(f:V->Option V):P5 f []=some []:=rfl
@[simp] theorem AX1(f:V->Option V)(v:V)(l:List V):P5 f (v::l)=mc2 (f v) (P5 f l):=rfl
@[simp] theorem AS6(f:Nat)(cs:List V):AY s (f+1) (.agg cs)=nX .agg (P5 (AY s f) cs):=by simp only[AY,T8];cases P5 (AY s f) cs<;>rfl
@[simp] theorem AS7(f:Nat)(cs:List V):AY s (f+1) (.tup cs)=nX .tup (P5 (AY s f) cs):=by simp only[AY,T8];cases P5 (AY s f) cs<;>rfl
def cv1(g m:Nat):Option (Nat×AX)->Option V
 |some (g',.vec _ es)=>if g'=g/\m<=es.length then some (.list false (es.take m)) else none
 |_=>none
@[simp] theorem AF3(g m g':Nat)(T:bp)(es:List (List V)):cv1 g m (some (g',.vec T es))=if g'=g/\m<=es.length then some (.list false (es.take m)) else none:=rfl
@[simp] theorem bF(f:Nat)(up:List AA)(loc:AA)(l k g m:Nat):AY ⟨up,loc⟩ (f+1) (.vec l k g m)=if l=up.length then cv1 g m (loc.get k) else some (.vec l k g m):=by
 simp only[AY];split
 ·cases loc.get k with
  |none=>rfl
  |some z=>obtain⟨g',r⟩:=z;cases r<;>rfl
 ·rfl
@[simp] theorem ANP(t:Nat)(T:bp):CN P fr s (.cell t T)=ld1 P s T (rdT (BR fr t)):=by
 rw[E5];show(match fr.get t with
  |some (true,p)=>(A6 s p).bind (BI P T)
  | _=>none)=_
 cases fr.get t with
 |none=>rfl
 |some p=>
  obtain⟨c,v⟩:=p
  cases c with
  |false=>rfl
  |true=>
   simp only[AFX,AFY]
   cases A6 s v<;>rfl
section
variable (d:Option Tmp)(c:Nat)
@[simp] theorem A6H(r:Option XS):VP P E [] r=r:=rfl
@[simp] theorem AX2(p:mY)(S:List mY)(r:Option XS):VP P E (p::S) r=VP P E S (OZ P E p.sq (bB (VO P E p.ph (AFK p.new r)))):=rfl
@[simp] theorem A6I(r:Option (XS×AK×AK)):VO P E [] r=r:=rfl
@[simp] theorem AX3(i:I1)(l:List I1)(r:Option (XS×AK×AK)):VO P E (i::l) r=VO P E l (mX P E i r):=rfl
@[simp] theorem BAC(new:List Tmp)(up:List AA)(loc:AA):AFK new (some ⟨c,fr,⟨up,loc⟩⟩)=if (new.all fun d=>(loc.get d).isNone)=true then some (⟨c,fr,⟨up,loc⟩⟩,[],[]) else none:=by show(Bool.rec none _ _:Option _)=_;rw[ifB];rfl
@[simp] theorem AX4(rd wr:AK):bB (some (st,rd,wr))=if (wr.all fun p=>!(rd.contains p))=true then some st else none:=by show(Bool.rec none _ _:Option _)=_;rw[ifB]
@[simp] theorem AX5:bB none=none:=rfl
@[simp] theorem A6J(c:Prop)[Decidable c](x y:Option (XS×AK×AK)):bB (if c then x else y)=if c then bB x else bB y:=by split<;>rfl
@[simp] theorem AX6(i:I1):mX P E i none=none:=rfl
@[simp] theorem A6K(i:I1)(c:Prop)[Decidable c](x y:Option (XS×AK×AK)):mX P E i (if c then x else y)=if c then mX P E i x else mX P E i y:=by split<;>rfl
@[simp] theorem A6L(l:List I1)(c:Prop)[Decidable c](x y:Option (XS×AK×AK)):VO P E l (if c then x else y)=if c then VO P E l x else VO P E l y:=by split<;>rfl
@[simp] theorem A6M(l:List mY)(c:Prop)[Decidable c](x y:Option XS):VP P E l (if c then x else y)=if c then VP P E l x else VP P E l y:=by split<;>rfl
def ph3(rds rd wr:AK):Option (XS×AK)->Option (XS×AK×AK)
 |some (st,w)=>some (st,rds++rd,w++wr)
 |none=>none
@[simp] theorem A6N(rds rd wr w:AK):ph3 rds rd wr (some (st,w))=some (st,rds++rd,w++wr):=rfl
@[simp] theorem A6O(rds rd wr:AK):ph3 rds rd wr none=none:=rfl
@[simp] theorem BAD(rds rd wr:AK)(c:Prop)[Decidable c](x y:Option (XS×AK)):ph3 rds rd wr (if c then x else y)=if c then ph3 rds rd wr x else ph3 rds rd wr y:=by split<;>rfl
@[simp] theorem AX8(i:I1)(rd wr:AK):mX P E i (some (st,rd,wr))=ph3 (HW P i.k (CD st.fr)) rd wr (VN P E i st):=by show(match VN P E i st with|some (st',w)=>some (st',HW P i.k (CD st.fr)++rd,w++wr)|none=>none)=_;cases VN P E i st<;>rfl
@[simp] theorem AX9(k:IK):VN P E ⟨none,d,k⟩ st=DG P E d k st:=rfl
def gI0(P:ck)(E:XE)(d:Option Tmp)(k:IK)(st:XS)(w:Bool)(r:Option (Bool×V)):Option (XS×AK):=match r with
 |some (c,.bool b)=>if (c&&(b==w))=true then DG P E d k st else if D6 k=true then none else some (HZ d st,[])
 |_=>none
@[simp] theorem AS8(t:Tmp)(w:Bool)(k:IK):VN P E ⟨some (t,w),d,k⟩ st=gI0 P E d k st w (BR st.fr t):=by
 show(match(match BR st.fr t with | some (c,.bool b)=>some (c&&(b == w)) | _=>none:Option Bool)with
  |some true=>DG P E d k st
  |some false=>Bool.rec (some (HZ d st,[])) none (D6 k)
  | none=>none)=_
 unfold gI0;cases BR st.fr t with
 |none=>rfl
 |some p=>
  obtain⟨c,v⟩:=p
  cases v with
  |bool b=>cases h:(c&&(b==w))<;>simp[h,ifB]
  |_=>rfl
@[simp] theorem A6P(k:IK)(w c b:Bool):gI0 P E d k st w (some (c,.bool b))=if (c&&(b==w))=true then DG P E d k st else if D6 k=true then none else some (HZ d st,[]):=rfl
@[simp] theorem BEX(T:bp)(x:cj)(f:cj->Option V):HW P (.ld T x) f=CA (bx (P.cellsOf T) 1) (f x):=rfl
@[simp] theorem AS9(x y:cj)(f:cj->Option V):J9 f [x,y]=GQ (f y):=rfl
@[simp] theorem AKU(b:Bool)(es:List (List V)):GQ (some (.list b es))=[]:=rfl
@[simp] theorem ANQ:GQ (some .nil)=[]:=rfl
@[simp] theorem ANR(l k γ n:Nat):GQ (some (.vec l k γ n))=[(l,k)]:=rfl
@[simp] theorem BEY(x:cj)(f:cj->Option V):HW P (.mv x) f=[]:=rfl
@[simp] theorem BAE(op:BinOp)(T:bp)(x y:cj)(f:cj->Option V):HW P (.bin op T x y) f=[]:=rfl
@[simp] theorem BEZ(T:bp)(x:cj)(i:Nat)(f:cj->Option V):HW P (.fa T x i) f=[]:=rfl
@[simp] theorem A6Q(x y z:cj)(f:cj->Option V):HW P (.pick x y z) f=[]:=rfl
@[simp] theorem AYA(T:bp)(ps:List (Nat×cj))(f:cj->Option V):HW P (.build T ps) f=[]:=rfl
@[simp] theorem ATA(T:bp)(n:Nat)(ps:List (Nat×cj))(f:cj->Option V):HW P (.buildS T n ps) f=[]:=rfl
@[simp] theorem AYB(T:bp)(f:cj->Option V):HW P (.alloc T) f=[]:=rfl
@[simp] theorem BAF(x:cj)(f:cj->Option V):HW P (.box x) f=[]:=rfl
@[simp] theorem BAG(T:bp)(x y:cj)(f:cj->Option V):HW P (.sto T x y) f=[]:=rfl
@[simp] theorem BAH(x:List cj)(y:List bp)(f:cj->Option V):HW P (.app x y) f=J9 f x:=rfl
@[simp] theorem A6R(b:Bool)(t:Option Tmp)(g:cj)(x:List cj)(f:cj->Option V):HW P (.call b t g x) f=[]:=rfl
@[simp] theorem A6S(T:bp)(x i:cj)(f:cj->Option V):HW P (.oth (.indexAddr T x i)) f=J8 (f x):=rfl
@[simp] theorem BE0(op:UnOp)(T:bp)(x:cj)(f:cj->Option V):HW P (.oth (.unOp op T x)) f=[]:=rfl
@[simp] theorem BAI(x:cj)(i:Nat)(f:cj->Option V):HW P (.oth (.extract x i)) f=[]:=rfl
@[simp] theorem BAJ(x:cj)(T:bp)(b:Builtin)(f:cj->Option V):HW P (.oth (.call ⟨.builtin b,#[x],#[T]⟩)) f=[]:=by cases b<;>rfl
@[simp] theorem BE1(g:Fn)(x y:Array cj)(f:cj->Option V):HW P (.oth (.makeFunc g x y)) f=[]:=rfl
def nw:Option XS->Option (XS×AK)
 |some st=>some (st,[])
 |none=>none
@[simp] theorem BAK:nw (some st)=some (st,[]):=rfl
@[simp] theorem BAL:nw none=none:=rfl
@[simp] theorem BE2(c:Prop)[Decidable c](x y:Option XS):nw (if c then x else y)=if c then nw x else nw y:=by split<;>rfl
theorem GS(r:Option XS):TR r=nw r:=by cases r<;>rfl
@[simp] theorem A6T(x:cj):DG P E d (.mv x) st=nw (CR P E d (.mv x) st):=GS _
@[simp] theorem AYC(op:BinOp)(T:bp)(x y:cj):DG P E d (.bin op T x y) st=nw (CR P E d (.bin op T x y) st):=GS _
@[simp] theorem A6U(T:bp)(x:cj)(f:Nat):DG P E d (.fa T x f) st=nw (CR P E d (.fa T x f) st):=GS _
@[simp] theorem AYD(T:bp)(x:cj):DG P E d (.ldz T x) st=DG P E d (.ld T x) st:=rfl
@[simp] theorem AYE(T:bp)(x:cj):CR P E d (.ldz T x) st=CR P E d (.ld T x) st:=rfl
@[simp] theorem BAM(T:bp)(x:cj)(f:cj->Option V):HW P (.ldz T x) f=[]:=rfl
@[simp] theorem A6V(T:bp)(x:cj):DG P E d (.ld T x) st=nw (CR P E d (.ld T x) st):=GS _
@[simp] theorem ATB(x y z:cj):DG P E d (.pick x y z) st=nw (CR P E d (.pick x y z) st):=GS _
@[simp] theorem ANS(T:bp)(ps:List (Nat×cj)):DG P E d (.build T ps) st=nw (CR P E d (.build T ps) st):=GS _
@[simp] theorem AKV(T:bp)(n:Nat)(ps:List (Nat×cj)):DG P E d (.buildS T n ps) st=nw (CR P E d (.buildS T n ps) st):=GS _
@[simp] theorem AYF(op:Op):DG P E d (.oth op) st=nw (CR P E d (.oth op) st):=GS _
@[simp] theorem ANT(T:bp):DG P E d (.alloc T) st=nw (CR P E d (.alloc T) st):=GS _
@[simp] theorem AYG(x:cj):DG P E d (.box x) st=nw (CR P E d (.box x) st):=GS _
@[simp] theorem AYH(x:Option cj):DG P E d (.mkM x) st=nw (CR P E d (.mkM x) st):=GS _
@[simp] theorem AYI(T:bp)(x y:cj):DG P E d (.mkS T x y) st=nw (CR P E d (.mkS T x y) st):=GS _
def wp(p:AK):Option XS->Option (XS×AK)
 |some st=>some (st,p)
 |none=>none
@[simp] theorem BAN(p:AK):wp p (some st)=some (st,p):=rfl
@[simp] theorem BAO(p:AK):wp p none=none:=rfl
@[simp] theorem BE3(p:AK)(c:Prop)[Decidable c](x y:Option XS):wp p (if c then x else y)=if c then wp p x else wp p y:=by split<;>rfl
@[simp] theorem AYJ(T:bp)(x y:cj):DG P E d (.sto T x y) st=wp (CQ (bx (P.cellsOf T) 1) (CD st.fr x)) (CR P E d (.sto T x y) st):=by show(match I7 P d T x y st with|some st'=>some (st',CQ (bx (P.cellsOf T) 1) (CD st.fr x))|none=>none)=wp _ (I7 P d T x y st);cases I7 P d T x y st<;>rfl
@[simp] theorem A6W(x:Option V):CA false x=BN x:=by cases x<;>rfl
@[simp] theorem ATC(l k g o:Nat):CA true (some (.ptr l k g o))=[(l,k+2000000),(l,k+4000000),(l,6000000+1000*k+o)]:=rfl
@[simp] theorem ANU(l k g i o:Nat):CA true (some (.eptr l k g i o))=[(l,k+2000000),(l,k+4000000),(l,6000000+1000*k+o)]:=rfl
@[simp] theorem ATD(b:Bool)(cs:List V):CA b (some (.ref cs))=[]:=by cases b<;>rfl
@[simp] theorem ATE(l k g o:Nat):CQ true (some (.ptr l k g o))=[(l,k),(l,6000000+1000*k+o)]:=rfl
@[simp] theorem ANV(l k g i o:Nat):CQ true (some (.eptr l k g i o))=[(l,k),(l,6000000+1000*k+o)]:=rfl
@[simp] theorem ANW(l k g o:Nat):CQ false (some (.ptr l k g o))=[(l,k),(l,k+4000000)]:=rfl
@[simp] theorem AKW(l k g i o:Nat):CQ false (some (.eptr l k g i o))=[(l,k),(l,k+4000000)]:=rfl
@[simp] theorem ANX(l k g o:Nat):BN (some (.ptr l k g o))=[(l,k)]:=rfl
@[simp] theorem AKX(l k g i o:Nat):BN (some (.eptr l k g i o))=[(l,k)]:=rfl
@[simp] theorem ANY(cs:List V):BN (some (.ref cs))=[]:=rfl
@[simp] theorem ATF(l k g o:Nat):J8 (some (.ptr l k g o))=[]:=rfl
@[simp] theorem ATG(l k g n:Nat):J8 (some (.vec l k g n))=[(l,k+ID)]:=rfl
@[simp] theorem ANZ(b:Bool)(es:List (List V)):J8 (some (.list b es))=[]:=rfl
@[simp] theorem ATH(cs:List V):J8 (some (.ref cs))=[]:=rfl
def c01(E:XE)(d:Option Tmp)(st:XS):Option V->Option (List V)->Option XS
 |some (.fn f first cap),some vs=>D4 d st (E.c0 f ((first++vs++cap).map weakV))
 |_,_=>none
@[simp] theorem ATI(f:cz)(first cap vs:List V):c01 E d st (some (.fn f first cap)) (some vs)=D4 d st (E.c0 f ((first++vs++cap).map weakV)):=rfl
@[simp] theorem ATJ(t:Option Tmp)(f:cj)(args:List cj):DG P E d (.call false t f args) ⟨c,fr,s⟩=nw (c01 E d ⟨c,fr,s⟩ (CD fr f) (E8 (CD fr) args)):=by
 show TR (Z0 E.c0 d f args ⟨c,fr,s⟩)=_;rw[GS];congr 1;unfold Z0;cases hf:CD fr f with
 |none=>simp only[c01]
 |some v=>
  cases v with
  |fn g first cap=>
   simp only
   cases hm:E8 (CD fr) args with
   |none=>simp only[c01]
   |some vs=>
    simp only[ATI]
    cases E.c0 g ((first++vs++cap).map weakV)<;>rfl
  |_=>simp only[c01]
@[simp] theorem BE4{A:Ann}{kn:CF0}{n:Nat}:(BH P A kn n).c0=FI P kn (AE P A kn n):=rfl
end
theorem rJ{A:Ann}{kn:CF0}{n N:Nat}(a b:cw):mA (AE P A kn n N) a b st (some (.bool true))=AE P A kn n N a st:=rfl
theorem nE{A:Ann}{kn:CF0}{n N:Nat}(a b:cw):mA (AE P A kn n N) a b st (some (.bool false))=AE P A kn n N b st:=rfl
attribute [simp] AFS rG zJ AFQ zF rD zG zH zI AFR rF nA AFT zK AFU cW rH nB rI rJ nE AFW
end Go.Pg
namespace Go.Pg
variable {P:ck}{E:XE}{st:XS}{fr:Fr}{s:St}
@[simp] theorem ATK(k:cx)(n:Int):A5 (.int k n)=[.int k n]:=rfl
@[simp] theorem AN0(b:Bool):A5 (.bool b)=[.bool b]:=rfl
@[simp] theorem ATL(cs:List V):A5 (.agg cs)=cs:=rfl
@[simp] theorem AN1(b:Bool)(es:List (List V)):A5 (.list b es)=[.list b es]:=rfl
@[simp] theorem ATM:A5 .nil=[.nil]:=rfl
@[simp] theorem ATN(l k g n:Nat):A5 (.vec l k g n)=[.vec l k g n]:=rfl
@[simp] theorem AYK(l k g:Nat):A5 (.mp l k g)=[.mp l k g]:=rfl
@[simp] theorem AYL(f:cz)(x y:List V):A5 (.fn f x y)=[.fn f x y]:=rfl
@[simp] theorem ATO(l k g n:Nat):A5 (.ptr l k g n)=[.ptr l k g n]:=rfl
@[simp] theorem ATP(cs:List V):A5 (.ref cs)=[.ref cs]:=rfl
@[simp] theorem ATQ(k:cx)(n:Int):A8 (.int k n)=true:=rfl
@[simp] theorem AN2(b:Bool):A8 (.bool b)=true:=rfl
@[simp] theorem ATR(cs:List V):A8 (.agg cs)=true:=rfl
@[simp] theorem AN3(b:Bool)(es:List (List V)):A8 (.list b es)=true:=rfl
@[simp] theorem ATS:A8 .nil=true:=rfl
@[simp] theorem ATT(l k g n:Nat):A8 (.vec l k g n)=true:=rfl
@[simp] theorem AYM(l k g:Nat):A8 (.mp l k g)=true:=rfl
@[simp] theorem AYN(f:cz)(x y:List V):A8 (.fn f x y)=true:=rfl
@[simp] theorem ATU(l k g n:Nat):A8 (.ptr l k g n)=true:=rfl
@[simp] theorem ATV(cs:List V):A8 (.ref cs)=true:=rfl
@[simp] theorem AYO(op:BinOp)(T:bp)(k j:cx)(a b:Int):F9 P op T (.int k a) (.int j b)=if k=j then EC op k a b else S0 op k a b:=rfl
@[simp] theorem O1(k:cx)(a b:Int):S0 .shl k a b=if b<0 then none else some (.int k (k.wrap (a*2 ^ (min b.toNat k.bits)))):=rfl
@[simp] theorem LZ(k:cx)(a b:Int):S0 .shr k a b=if b<0 then none else some (.int k (a.fdiv (2 ^ (min b.toNat k.bits)))):=rfl
section
variable (k:cx)(a b:Int)
@[simp] theorem AYP:EC .add k a b=some (.int k (k.wrap (a+b))):=rfl
@[simp] theorem AYQ:EC .sub k a b=some (.int k (k.wrap (a-b))):=rfl
@[simp] theorem AYR:EC .mul k a b=some (.int k (k.wrap (a*b))):=rfl
@[simp] theorem AYS:EC .quo k a b=if b=0 then none else some (.int k (k.wrap (a.tdiv b))):=rfl
@[simp] theorem AYT:EC .rem k a b=if b=0 then none else some (.int k (a.tmod b)):=rfl
@[simp] theorem zN:EC .and k a b=some (.int k (k.wrap (BitVec.ofInt k.bits a &&& BitVec.ofInt k.bits b).toNat)):=rfl
@[simp] theorem AF4:EC .or k a b=some (.int k (k.wrap (BitVec.ofInt k.bits a ||| BitVec.ofInt k.bits b).toNat)):=rfl
@[simp] theorem AKY:EC .andNot k a b=some (.int k (k.wrap (BitVec.ofInt k.bits a &&& ~~~ BitVec.ofInt k.bits b).toNat)):=rfl
@[simp] theorem AYU:EC .shl k a b=if b<0 then none else some (.int k (k.wrap (a*2 ^ (min b.toNat k.bits)))):=rfl
@[simp] theorem AYV:EC .shr k a b=if b<0 then none else some (.int k (a.fdiv (2 ^ (min b.toNat k.bits)))):=rfl
@[simp] theorem AYW:EC .eql k a b=some (.bool (decide (a=b))):=by show some (V.bool (a==b))=_;congr 2
@[simp] theorem AYX:EC .neq k a b=some (.bool (!decide (a=b))):=by show some (V.bool (a != b))=_;congr 2
@[simp] theorem AYY:EC .lss k a b=some (.bool (decide (a<b))):=rfl
@[simp] theorem AYZ:EC .leq k a b=some (.bool (decide (a<=b))):=rfl
@[simp] theorem AY0:EC .gtr k a b=some (.bool (decide (b<a))):=rfl
@[simp] theorem AY1:EC .geq k a b=some (.bool (decide (b<=a))):=rfl
end
theorem AV{x:Int}(h1:-9223372036854775808<=x)(h2:x<9223372036854775808):IntKind.i64.wrap x=x:=by simp only[IntKind.wrap,IntKind.bits,IntKind.signed];simp;omega
@[simp] theorem AN4(T:bp)(a b:Bool):F9 P .eql T (.bool a) (.bool b)=if tP P T=true then some (.bool (a==b)) else none:=rfl
@[simp] theorem AN5(T:bp)(a b:Bool):F9 P .neq T (.bool a) (.bool b)=if tP P T=true then some (.bool (a != b)) else none:=rfl
def bl1(f:Bool->Bool):Option Bool->Option V
 |some b=>some (.bool (f b))
 |none=>none
@[simp] theorem A6Y(f:Bool->Bool)(b:Bool):bl1 f (some b)=some (.bool (f b)):=rfl
@[simp] theorem ATW(T:bp)(cs ds:List V):F9 P .eql T (.agg cs) (.agg ds)=bl1 (fun b=>b) (US P T cs ds):=by show(US P T cs ds).map V.bool=_;cases US P T cs ds<;>rfl
@[simp] theorem ATX(T:bp)(cs ds:List V):F9 P .neq T (.agg cs) (.agg ds)=bl1 (fun b=>!b) (US P T cs ds):=by show(US P T cs ds).map (fun b=>V.bool !b)=_;cases US P T cs ds<;>rfl
def faP(P:ck)(x:V):Option (bp×Nat)->Option V
 |some (U,off)=>if P.cellsOf U=0 then none else match x with
  |.ref cs=>some (.ref (cs.drop off))
  |.ptr l k g o=>some (.ptr l k g (o+off))
  |.eptr l k g i o=>some (.eptr l k g i (o+off))
  |_=>none
 |none=>none
@[simp] theorem BAP(T:bp)(x:V)(f:Nat):C6 P T x f=faP P x (A0 P T f):=by unfold C6 faP;cases A0 P T f<;>rfl
@[simp] theorem BAQ(U:bp)(off:Nat)(cs:List V):faP P (.ref cs) (some (U,off))=if P.cellsOf U=0 then none else some (.ref (cs.drop off)):=rfl
@[simp] theorem BAR(U:bp)(off l k g o:Nat):faP P (.ptr l k g o) (some (U,off))=if P.cellsOf U=0 then none else some (.ptr l k g (o+off)):=rfl
@[simp] theorem A60(U:bp)(off l k g i o:Nat):faP P (.eptr l k g i o) (some (U,off))=if P.cellsOf U=0 then none else some (.eptr l k g i (o+off)):=rfl
def fd1(P:ck)(x:V):Option (bp×Nat)->Option V
 |some (U,off)=>match x with
  |.agg cs=>LK P U cs off
  |_=>none
 |none=>none
@[simp] theorem ATY(T:bp)(x:V)(f:Nat):IC P T x f=fd1 P x (A0 P T f):=by unfold IC fd1;cases x<;>cases A0 P T f<;>rfl
@[simp] theorem BAS(U:bp)(off:Nat)(cs:List V):fd1 P (.agg cs) (some (U,off))=LK P U cs off:=rfl
def cb(g off:Nat):Option (Nat×AX)->Option (List V)
 |some (g',.box cs)=>if g'=g then some (cs.drop off) else none
 |_=>none
@[simp] theorem BAT(g g' off:Nat)(cs:List V):cb g off (some (g',.box cs))=if g'=g then some (cs.drop off) else none:=rfl
def ce(g i off:Nat):Option (Nat×AX)->Option (List V)
 |some (g',.vec _ es)=>if g'=g then(es[i]?).map (·.drop off) else none
 |_=>none
@[simp] theorem BAU(g g' i off:Nat)(T:bp)(es:List (List V)):ce g i off (some (g',.vec T es))=if g'=g then(es[i]?).map (·.drop off) else none:=rfl
@[simp] theorem AN6(cs:List V):A6 s (.ref cs)=some cs:=rfl
@[simp] theorem AN7(l k g off:Nat):A6 s (.ptr l k g off)=cb g off (s.get l k):=by
 unfold cb;simp only[A6];cases s.get l k with
 |none=>rfl
 |some z=>obtain⟨g',r⟩:=z;cases r<;>rfl
@[simp] theorem AKZ(l k g i off:Nat):A6 s (.eptr l k g i off)=ce g i off (s.get l k):=by
 unfold ce;simp only[A6];cases s.get l k with
 |none=>rfl
 |some z=>obtain⟨g',r⟩:=z;cases r<;>rfl
def iv(P:ck)(e:bp)(l k g n:Nat)(j:Int):Option (Nat×AX)->Option V
 |some (g',.vec _ es)=>if g'=g/\0<=j/\j<n/\n<=es.length/\(es.getD j.toNat []).length=P.cellsOf e/\0<P.cellsOf e then some (.eptr l k g j.toNat 0) else none
 |_=>none
@[simp] theorem BAV(e:bp)(l k g g' n:Nat)(j:Int)(T:bp)(es:List (List V)):iv P e l k g n j (some (g',.vec T es))=if g'=g/\0<=j/\j<n/\n<=es.length/\(es.getD j.toNat []).length=P.cellsOf e/\0<P.cellsOf e then some (.eptr l k g j.toNat 0) else none:=rfl
def ia(P:ck)(s:St)(x i:V):Option (Option Nat×bp)->Option V
 |some (none,e)=>match x,i with
  |.list _ es,.int _ j=>if 0<=j/\j<es.length/\(es.getD j.toNat []).length=P.cellsOf e/\0<P.cellsOf e then some (.ref (es.getD j.toNat [])) else none
  |.vec l k g n,.int _ j=>iv P e l k g n j (s.get l k)
  |_,_=>none
 |some (some n,e)=>match x,i with
  |.ref cs,.int _ j=>if 0<=j/\j<n/\0<P.cellsOf e then some (.ref (cs.drop (j.toNat*P.cellsOf e))) else none
  |.ptr l k g o,.int _ j=>if 0<=j/\j<n/\0<P.cellsOf e then some (.ptr l k g (o+j.toNat*P.cellsOf e)) else none
  |.eptr l k g i' o,.int _ j=>if 0<=j/\j<n/\0<P.cellsOf e then some (.eptr l k g i' (o+j.toNat*P.cellsOf e)) else none
  |_,_=>none
 |none=>none
@[simp] theorem BAW(T:bp)(x i:V):BL P s T x i=ia P s x i (BO P T):=by
 unfold BL ia;cases BO P T with
 |none=>rfl
 |some z=>
  obtain⟨n,e⟩:=z
  cases n with
  |some n=>cases x<;>cases i<;>rfl
  |none=>
   cases x with
   |vec l k g n=>
    cases i with
    |int q j=>
     simp only[iv]
     cases s.get l k with
     |none=>rfl
     |some z=>obtain⟨g',r⟩:=z;cases r<;>rfl
    |_=>rfl
   |_=>cases i<;>rfl
@[simp] theorem BAX(e:bp)(b:Bool)(es:List (List V))(k:cx)(j:Int):ia P s (.list b es) (.int k j) (some (none,e))=if 0<=j/\j<es.length/\(es.getD j.toNat []).length=P.cellsOf e/\0<P.cellsOf e then some (.ref (es.getD j.toNat [])) else none:=rfl
@[simp] theorem BE7(e:bp)(l q g n:Nat)(k:cx)(j:Int):ia P s (.vec l q g n) (.int k j) (some (none,e))=iv P e l q g n j (s.get l q):=rfl
@[simp] theorem BE8(n:Nat)(e:bp)(cs:List V)(k:cx)(j:Int):ia P s (.ref cs) (.int k j) (some (some n,e))=if 0<=j/\j<n/\0<P.cellsOf e then some (.ref (cs.drop (j.toNat*P.cellsOf e))) else none:=rfl
@[simp] theorem BE9(n:Nat)(e:bp)(l q g o:Nat)(k:cx)(j:Int):ia P s (.ptr l q g o) (.int k j) (some (some n,e))=if 0<=j/\j<n/\0<P.cellsOf e then some (.ptr l q g (o+j.toNat*P.cellsOf e)) else none:=rfl
@[simp] theorem BAY(n:Nat)(e:bp)(l q g i o:Nat)(k:cx)(j:Int):ia P s (.eptr l q g i o) (.int k j) (some (some n,e))=if 0<=j/\j<n/\0<P.cellsOf e then some (.eptr l q g i (o+j.toNat*P.cellsOf e)) else none:=rfl
def ix(P:ck)(x i:V):Option (Option Nat×bp)->Option V
 |some (some n,e)=>match x,i with
  |.agg cs,.int _ j=>if 0<=j/\j<n/\0<P.cellsOf e then LK P e cs (j.toNat*P.cellsOf e) else none
  |_,_=>none
 |_=>none
@[simp] theorem ATZ(T:bp)(x i:V):JJ P T x i=ix P x i (BO P T):=by
 unfold JJ ix;cases BO P T with
 |none=>rfl
 |some z=>obtain⟨n,e⟩:=z;cases n<;>cases x<;>cases i<;>rfl
@[simp] theorem BFA(n:Nat)(e:bp)(cs:List V)(k:cx)(j:Int):ix P (.agg cs) (.int k j) (some (some n,e))=if 0<=j/\j<n/\0<P.cellsOf e then LK P e cs (j.toNat*P.cellsOf e) else none:=rfl
theorem O2{T:bp}(h:DR P T=true):∃e,P.underlying T=some (.slice e):=by
 unfold DR at h;split at h
 ·rename_i e he;exact⟨e,he⟩
 ·cases h
@[simp] theorem rK{T:bp}(h:DR P T=true)(b:Bool)(es:List (List V)):HY P T (.list b es)=some (.int .i64 es.length):=by obtain⟨e,he⟩:=O2 h;simp[HY,he]
@[simp] theorem AY2{T:bp}(h:DR P T=true)(l k g n:Nat):HY P T (.vec l k g n)=some (.int .i64 n):=by obtain⟨e,he⟩:=O2 h;simp[HY,he]
@[simp] theorem zO{T:bp}(h:DR P T=true):HY P T .nil=some (.int .i64 0):=by obtain⟨e,he⟩:=O2 h;simp[HY,he]
def fv(place:Nat->Option (Nat×Nat))(cs:List V)(v:V)(rest:List (Nat×V)):Option (Nat×Nat)->Option (List V)
 |none=>none
 |some (off,size)=>if (A5 v).length=size/\off+(A5 v).length<=cs.length then DC place (AZ cs off (A5 v)) rest else none
@[simp] theorem AY3(place:Nat->Option (Nat×Nat))(cs:List V):DC place cs []=some cs:=rfl
@[simp] theorem AT0(place:Nat->Option (Nat×Nat))(cs:List V)(i:Nat)(v:V)(rest:List (Nat×V)):DC place cs ((i,v)::rest)=fv place cs v rest (place i):=by simp only[DC];unfold fv;cases place i<;>rfl
@[simp] theorem BAZ(place:Nat->Option (Nat×Nat))(cs:List V)(v:V)(rest:List (Nat×V))(off size:Nat):fv place cs v rest (some (off,size))=if (A5 v).length=size/\off+(A5 v).length<=cs.length then DC place (AZ cs off (A5 v)) rest else none:=rfl
attribute [simp] AZ
@[simp] theorem AN8(size:Nat)(cs:List V):CM size cs 0=[]:=rfl
@[simp] theorem AN9(size:Nat)(cs:List V)(n:Nat):CM size cs (n+1)=cs.take size::CM size (cs.drop size) n:=rfl
def ch1(size len:Nat):Option (List V)->Option V
 |some cs=>some (.list true (CM size cs len))
 |none=>none
@[simp] theorem A61(size len:Nat)(cs:List V):ch1 size len (some cs)=some (.list true (CM size cs len)):=rfl
def bsz(P:ck)(e:bp)(len:Nat)(parts:List (Nat×V)):Option (List V)->Option V
 |some z=>if (parts.all fun p=>A8 p.2)=true/\z.length=P.cellsOf e/\0<P.cellsOf e/\len*P.cellsOf e<=2 ^ 24 then
   ch1 (P.cellsOf e) len (DC (fun i=>some (i*P.cellsOf e,P.cellsOf e)) (bc len z).flatten parts) else none
 |none=>none
@[simp] theorem A62(e:bp)(len:Nat)(parts:List (Nat×V))(z:List V):bsz P e len parts (some z)=if (parts.all fun p=>A8 p.2)=true/\z.length=P.cellsOf e/\0<P.cellsOf e/\len*P.cellsOf e<=2 ^ 24 then
   ch1 (P.cellsOf e) len (DC (fun i=>some (i*P.cellsOf e,P.cellsOf e)) (bc len z).flatten parts) else none:=rfl
def bsl(P:ck)(len:Nat)(parts:List (Nat×V)):Option (Option Nat×bp)->Option V
 |some (none,e)=>bsz P e len parts (B7 P e)
 |_=>none
@[simp] theorem A63(e:bp)(len:Nat)(parts:List (Nat×V)):bsl P len parts (some (none,e))=bsz P e len parts (B7 P e):=rfl
@[simp] theorem BA1(T:bp)(len:Nat)(parts:List (Nat×V)):B5 P T len parts=bsl P len parts (BO P T):=by
 unfold B5 bsl;cases BO P T with
 |none=>rfl
 |some z=>
  obtain⟨n,e⟩:=z
  cases n with
  |some n=>rfl
  |none=>
   simp only[bsz]
   cases B7 P e with
   |none=>rfl
   |some z=>
    simp only
    split
    ·cases DC (fun i=>some (i*P.cellsOf e,P.cellsOf e)) (bc len z).flatten parts<;>rfl
    ·rfl
def fn2(f:cz):Option (List V)->Option (List V)->Option V
 |some a,some b=>some (.fn f a b)
 |_,_=>none
@[simp] theorem A64(f:cz)(a b:List V):fn2 f (some a) (some b)=some (.fn f a b):=rfl
@[simp] theorem BFD(f:cz)(x y:Array cj)(r:cj->Option V):JE P (mW (.makeFunc (.func f) x y)) s r=fn2 f (E8 r x.toList) (E8 r y.toList):=by show((x.toList.mapM r).bind fun a=>(y.toList.mapM r).bind fun b=>some (V.fn f a b))=_;rw[<-KU,<-KU];cases E8 r x.toList<;>cases E8 r y.toList<;>rfl
@[simp] theorem BA3(x y:cj)(Ts:Array bp)(r:cj->Option V):JE P (mW (.call ⟨.builtin .max,#[x,y],Ts⟩)) s r=o2 S6 (r x) (r y):=iF _ _ _
@[simp] theorem BA4(x y:cj)(Ts:Array bp)(r:cj->Option V):JE P (mW (.call ⟨.builtin .min,#[x,y],Ts⟩)) s r=o2 S7 (r x) (r y):=iF _ _ _
@[simp] theorem AY4(k j:cx)(m n:Int):S6 (.int k m) (.int j n)=if k=j then some (.int k (if n>m then n else m)) else none:=rfl
@[simp] theorem AY5(k j:cx)(m n:Int):S7 (.int k m) (.int j n)=if k=j then some (.int k (if n<m then n else m)) else none:=rfl
theorem CE{e:bp}{n:Nat}{ys:List (List V)}(hc:0<P.cellsOf e)(hz:cA P e=true):B8 P e n ys=true↔(ys.all (fun y=>y.length==P.cellsOf e)=true/\n+ys.length<=maxLen/\(n+ys.length)*P.bytesOf e<=140737488355328):=by simp[B8,hc,hz,and_assoc]
end Go.Pg
namespace Go.Pg
variable {P:ck}{E:XE}{st:XS}{fr:Fr}{s:St}
theorem AP{P:ck}{kn:CF0}{rec:GR}{f:cz}{args:List V}(h:kn f args=none):A3 P kn rec f args=EK P rec f args:=by unfold A3;rw[h]
def pv(k γ:Nat):List (List V)->V
 |[]=>.nil
 |e::es=>.vec 0 k γ (e::es).length
def pl(k γ:Nat)(T:bp):List (List V)->AA
 |[]=>[]
 |e::es=>[(k,γ,.vec T (e::es))]
def sl:List (List V)->V
 |[]=>.nil
 |e::es=>.list false (e::es)
@[simp] theorem BFE(k γ:Nat):pv k γ []=.nil:=rfl
@[simp] theorem BFF(k γ:Nat)(T:bp):pl k γ T []=[]:=rfl
@[simp] theorem BA5(k γ:Nat)(T:bp)(es:List (List V))(y:List V)(ys:List (List V)):pl k γ T (es++y::ys)=[(k,γ,.vec T (es++y::ys))]:=by cases es<;>rfl
@[simp] theorem BA6(k γ:Nat)(T:bp)(y:List V)(ys:List (List V)):pl k γ T (y::ys)=[(k,γ,.vec T (y::ys))]:=rfl
@[simp] theorem BH5(k γ:Nat)(T:bp)(es:List (List V)):kl k [] ((pl k γ T es).get k)=pl k γ T es:=by
 cases es with
 |nil=>rfl
 |cons e es=>simp
@[simp] theorem A65{k j:Nat}(γ:Nat)(T:bp)(es:List (List V))(h:j≠k):(pl k γ T es).get j=none:=by
 cases es with
 |nil=>rfl
 |cons e es=>simp[h]
@[simp] theorem AT1(e k c γ:Nat)(loc:AA)(es:List (List V))(y:List V)(ys:List (List V))(hl:AA.get loc k=(pl k γ e es).get k)(h1:es.all (fun y=>y.length==P.cellsOf e)=true)(h2:B8 P e es.length (y::ys)=true) :
  apV P e k c fr ⟨[],loc⟩ (pv k γ es) (y::ys)=some ⟨c+1,(k,true,pv k c (es++y::ys))::fr,⟨[],(k,c,.vec e (es++y::ys))::loc⟩⟩:=by
 cases es with
 |nil=>
  simp only[bk]at h2
  simp[h2,pv]
 |cons z es=>
  have hl:AA.get loc k=some (γ,.vec e (z::es)):=by rw[hl];simp
  simp only[pv,AKR,AF2,bk,if_true,hl,nC,UV,T6,true_and,h1,h2]
  simp[Nat.add_comm,Nat.add_left_comm]
theorem L5{T:bp}(f:Nat)(loc:AA)(k γ:Nat)(es:List (List V))(hl:AA.get loc k=(pl k γ T es).get k):AY ⟨[],loc⟩ (f+1) (pv k γ es)=some (sl es):=by
 cases es with
 |nil=>rfl
 |cons z es=>
  have hl:AA.get loc k=some (γ,.vec T (z::es)):=by rw[hl];simp
  simp only[pv,bF,bk,if_true,hl,AF3,sl]
  simp
@[simp] theorem AY6(f k γ:Nat)(T:bp)(es:List (List V)):AY ⟨[],pl k γ T es⟩ (f+1) (pv k γ es)=some (sl es):=L5 (T:=T) f _ k γ es rfl
@[simp] theorem A66{T:bp}(h:DR P T=true)(es:List (List V)):HY P T (sl es)=some (.int .i64 es.length):=by
 cases es with
 |nil=>exact zO h
 |cons e es=>exact rK h _ _
@[simp] theorem BH6(e:bp)(es:List (List V))(k:cx)(j:Int):ia P s (sl es) (.int k j) (some (none,e))=if 0<=j/\j<es.length/\(es.getD j.toNat []).length=P.cellsOf e/\0<P.cellsOf e then some (.ref (es.getD j.toNat [])) else none:=by
 cases es with
 |nil=>
  rw[if_neg (by simp only[bk];omega)]
  rfl
 |cons z es=>rfl
@[simp] theorem eV(f:Nat)(es:List (List V)):AF (f+1) (sl es)=es.all fun e=>e.all (AF f):=by cases es<;>rfl
@[simp] theorem A67(es:List (List V)):weakN (sl es)=.list false es:=by cases es<;>rfl
@[simp] theorem A68(es:List (List V)):weakM (sl es)=.list false es:=by cases es<;>rfl
@[simp] theorem BA7(es:List (List V)):weakV (sl es)=sl es:=by cases es<;>rfl
@[simp] theorem A69(es:List (List V)):weakC (sl es)=sl es:=by cases es<;>rfl
@[simp] theorem AY7(es:List (List V)):A5 (sl es)=[sl es]:=by cases es<;>rfl
@[simp] theorem AY8(es:List (List V)):A8 (sl es)=true:=by cases es<;>rfl
@[simp] theorem AY9(k γ:Nat)(es:List (List V)):A5 (pv k γ es)=[pv k γ es]:=by cases es<;>rfl
@[simp] theorem AZA(k γ:Nat)(es:List (List V)):A8 (pv k γ es)=true:=by cases es<;>rfl
@[simp] theorem AT2(es:List (List V)):elemsOf s (sl es)=some es:=by cases es<;>rfl
@[simp] theorem AZB(f:Nat)(es:List (List V)):AY s (f+1) (sl es)=some (sl es):=by cases es<;>rfl
@[simp] theorem AZC(es:List (List V)):GQ (some (sl es))=[]:=by cases es<;>rfl
@[simp] theorem AZD(es:List (List V)):J8 (some (sl es))=[]:=by cases es<;>rfl
def zQ(P:ck)(e:bp)(d c:Nat)(fr:Fr)(s:St)(xv:V)(ys:List (List V)):Option (XS×AK):=match IU xv ys with
 |some es=>if es.all (fun y=>y.length==P.cellsOf e)=true/\B8 P e es.length ys=true then some (⟨c+1,(d,true,.vec s.up.length d c (es.length+ys.length))::fr,s.put s.up.length d c (.vec e (es++ys))⟩,[(s.up.length,d),(s.up.length,d+ID)]) else none
 |none=>match xv with
  |.vec l q γ n=>wp [(l,q),(l,q+ID)] (apW P e d c fr s l q γ n ys (QY n ys (s.get l q)))
  |_=>none
def ad4(P:ck)(e:bp)(d c:Nat)(fr:Fr)(s:St)(xv:V):Option (List (List V))->Option (XS×AK)
 |some ys=>zQ P e d c fr s xv ys
 |none=>none
@[simp] theorem AF5(e:bp)(d c:Nat)(xv:V)(ys:List (List V)):ad4 P e d c fr s xv (some ys)=zQ P e d c fr s xv ys:=rfl
def ad3(P:ck)(d c:Nat)(fr:Fr)(s:St):Option (Option Nat×bp)->Option V->Option V->Option (XS×AK)
 |some (none,e),some xv,some yv=>ad4 P e d c fr s xv (elemsOf s yv)
 |_,_,_=>none
@[simp] theorem AF6(d c:Nat)(e:bp)(xv yv:V):ad3 P d c fr s (some (none,e)) (some xv) (some yv)=ad4 P e d c fr s xv (elemsOf s yv):=rfl
@[simp] theorem AOA(b:Bool)(es:List (List V)):oZ (.list b es)=some es:=rfl
@[simp] theorem AT3:oZ .nil=some []:=rfl
@[simp] theorem AZE(es:List (List V)):oZ (sl es)=some es:=by cases es<;>rfl
@[simp] theorem AZF(d:Tmp)(c:Nat)(x y:cj)(T:bp):DG P E (some d) (.app [x,y] [T,T]) ⟨c,fr,s⟩=ad3 P d c fr s (BO P T) (CD fr x) (CD fr y):=by
 show xAppD P (some d) [x,y] [T,T] _=_;unfold xAppD xAppG;simp only[Nat.beq_refl];cases hT:BO P T with
 |none=>cases CD fr x<;>cases CD fr y<;>rfl
 |some p=>
  obtain⟨k,e⟩:=p
  cases k with
  |some k=>cases CD fr x<;>cases CD fr y<;>rfl
  |none=>
   cases CD fr x with
   |none=>rfl
   |some xv=>
    cases CD fr y with
    |none=>rfl
    |some yv=>
     simp only[AF6]
     cases elemsOf s yv with
     |none=>rfl
     |some ys=>
      simp only[AF5,zQ]
      cases IU xv ys with
      |some es=>
       simp only[ifB,bj,bq]
       by_cases hC:es.all (fun y=>y.length==P.cellsOf e)=true/\B8 P e es.length ys=true
       ·rw[if_pos hC,if_pos hC]
       ·rw[if_neg hC,if_neg hC]
      |none=>
       simp only
       unfold lU
       cases xv with
       |vec l q γ n=>
        simp only
        cases QY n ys (s.get l q)with
        |none=>rfl
        |some z=>
         obtain⟨γ',r⟩:=z
         cases r with
         |vec W es=>
          simp only[ifB,bj,bq,T6,bg,and_assoc]
          by_cases hC:γ'=γ/\W=e/\n=es.length/\es.all (fun y=>y.length==P.cellsOf e)=true/\B8 P e es.length ys=true
          ·rw[if_pos hC,if_pos hC];rfl
          ·rw[if_neg hC,if_neg hC];rfl
         |_=>rfl
       |_=>rfl
@[simp] theorem BFH(e k c γ:Nat)(loc:AA)(es:List (List V))(y:List V)(ys:List (List V))(hl:AA.get loc k=(pl k γ e es).get k)(h1:es.all (fun y=>y.length==P.cellsOf e)=true)(h2:B8 P e es.length (y::ys)=true) :
  zQ P e k c fr ⟨[],loc⟩ (pv k γ es) (y::ys)=some (⟨c+1,(k,true,pv k c (es++y::ys))::fr,⟨[],(k,c,.vec e (es++y::ys))::loc⟩⟩,[(0,k),(0,k+ID)]):=by
 cases es with
 |nil=>
  simp only[bk]at h2
  simp[zQ,IU,h2,pv]
 |cons z es=>
  have hl:AA.get loc k=some (γ,.vec e (z::es)):=by rw[hl];simp
  simp only[pv,zQ,IU,AF2,bk,if_true,hl,nC,UV,T6,true_and,h1,h2]
  simp[Nat.add_comm,Nat.add_left_comm]
end Go.Pg
namespace Go.Pg
variable {P:ck}{E:XE}{st:XS}{fr:Fr}{s:St}
theorem rL{α:Type}(x:α):BW [x]=some ([],x):=rfl
def un1{α:Type}(x:α):Option (List α×α)->Option (List α×α)
 |some (a,b)=>some (x::a,b)
 |none=>none
@[simp] theorem A7A{α:Type}(x:α)(a:List α)(b:α):un1 x (some (a,b))=some (x::a,b):=rfl
theorem WQ{α:Type}(x y:α)(l:List α):BW (x::y::l)=un1 x (BW (y::l)):=by simp only[BW];unfold un1;cases BW (y::l)<;>rfl
attribute [simp] rL WQ
def T9(d:Option Tmp)(fr:Fr)(c:Nat)(r:V):Option (List AA×AA)->Option XS
 |some (u,l)=>some ⟨c,putD fr d true r,⟨u,l⟩⟩
 |none=>none
@[simp] theorem AZG(d:Tmp)(c:Nat)(r:V)(u:List AA)(l:AA):T9 (some d) fr c r (some (u,l))=some ⟨c,(d,true,r)::fr,⟨u,l⟩⟩:=rfl
@[simp] theorem BA8(c:Nat)(r:V)(u:List AA)(l:AA):T9 none fr c r (some (u,l))=some ⟨c,fr,⟨u,l⟩⟩:=rfl
def nF(d:Option Tmp)(fr:Fr)(st:XS):Option V->Option XS
 |some r=>T9 d fr st.c r (BW (st.s.up.map (AH st.s)))
 |none=>none
@[simp] theorem AZH(d:Option Tmp)(c:Nat)(fr':Fr)(up:List AA)(loc:AA)(r:V):nF d fr ⟨c,fr',⟨up,loc⟩⟩ (some r)=T9 d fr c r (BW (up.map (AH ⟨up,loc⟩))):=rfl
def clX(s:St):Option V->Option V
 |some r=>AY s 4 r
 |none=>none
@[simp] theorem A7B(r:V):clX s (some r)=AY s 4 r:=rfl
def bG(P:ck)(d:Option Tmp)(fr:Fr)(rs:List ResultVar)(r:Option (Exit×XS)):Option XS:=match r with
 |some (.ret,st)=>nF d fr st (clX st.s (FD P rs st.fr st.s))
 |some (.normal,st)=>nF d fr st (clX st.s (FD P rs st.fr st.s))
 |_=>none
@[simp] theorem AF7(d:Option Tmp)(rs:List ResultVar):bG P d fr rs (some (.ret,st))=nF d fr st (clX st.s (FD P rs st.fr st.s)):=rfl
@[simp] theorem nG(d:Option Tmp)(rs:List ResultVar):bG P d fr rs (some (.normal,st))=nF d fr st (clX st.s (FD P rs st.fr st.s)):=rfl
theorem nH{A:Ann}{kn:CF0}{n:Nat}{f:cz}{fn:Func}{code:cw}{args:List V}(hf:P.funcs[f]? = some fn)(hb:fn.body=some code)(hs:bm args.length fn.ntmps=true)(hcl:(args.all (AF 9)&&!(BJ P f))=false)(d:Option Tmp)(c:Nat)(fr:Fr)(up:List AA)(loc:AA) :
  G8 (BH P A kn n) d ⟨c,fr,⟨up,loc⟩⟩ f args=bG P d fr fn.results.toList (AE P A kn n fn.ntmps code ⟨c,AD 0 args,⟨up++[loc],[]⟩⟩):=by
 show(match Z7 P kn (AE P A kn n) f args ⟨c,fr,⟨up,loc⟩⟩ with
  |some (r,st')=>some (⟨st'.c,putD st'.fr d true r,st'.s⟩:XS)
  | none=>none)=_
 unfold Z7
 rw[hcl]
 unfold eE WN mB
 rw[hf]
 simp only[hb,hs]
 generalize AE P A kn n fn.ntmps code ⟨c,AD 0 args,⟨up++[loc],[]⟩⟩=q
 have aux:∀st:XS,(match(match(match yF P fn.results.toList st with
   |some (r,c,up)=>match BW up with
    |some (u,l)=>some (r,(⟨c,fr,⟨u,l⟩⟩:XS))
    |none=>none
   | none=>none:Option (V×XS))with
   |some r=>some r
   | none=>none:Option (V×XS))with
  |some (r,st')=>some (⟨st'.c,putD st'.fr d true r,st'.s⟩:XS)
  | none=>none)=nF d fr st (clX st.s (FD P fn.results.toList st.fr st.s)):=fun st=>by
  unfold yF clX
  cases FD P fn.results.toList st.fr st.s with
  |none=>rfl
  |some r=>
   cases h:AY st.s 4 r with
   |none=>simp[nF,h]
   |some r'=>
    simp only[h,nF]
    cases BW (st.s.up.map (AH st.s))with
    |none=>rfl
    |some z=>rfl
 cases q with
 |none=>rfl
 |some q=>
  obtain⟨e,st⟩:=q
  have:=aux st
  cases e with
  |ret=>simp only[AF7,<-this];cases yF P fn.results.toList st with
   |none=>rfl
   |some z=>
    obtain⟨r,c,up⟩:=z
    simp only
    cases BW up<;>rfl
  |normal=>simp only[nG,<-this];cases yF P fn.results.toList st with
   |none=>rfl
   |some z=>
    obtain⟨r,c,up⟩:=z
    simp only
    cases BW up<;>rfl
  |_=>rfl
theorem A2{A:Ann}{kn:CF0}{n:Nat}{f:cz}{fn:Func}{code:cw}{args:List V}(hf:P.funcs[f]? = some fn)(hb:fn.body=some code)(hs:bm args.length fn.ntmps=true)(hcl:args.all (AF 9)=false)(d:Option Tmp)(c:Nat)(fr:Fr)(up:List AA)(loc:AA) :
  G8 (BH P A kn n) d ⟨c,fr,⟨up,loc⟩⟩ f args=bG P d fr fn.results.toList (AE P A kn n fn.ntmps code ⟨c,AD 0 args,⟨up++[loc],[]⟩⟩) :=
 nH hf hb hs (by rw[hcl,Bool.false_and]) d c fr up loc
theorem vH{A:Ann}{kn:CF0}{n:Nat}{f:cz}{fn:Func}{code:cw}{args:List V}(hf:P.funcs[f]? = some fn)(hb:fn.body=some code)(hs:bm args.length fn.ntmps=true)(hh:BJ P f=true)(d:Option Tmp)(c:Nat)(fr:Fr)(up:List AA)(loc:AA) :
  G8 (BH P A kn n) d ⟨c,fr,⟨up,loc⟩⟩ f args=bG P d fr fn.results.toList (AE P A kn n fn.ntmps code ⟨c,AD 0 args,⟨up++[loc],[]⟩⟩) :=
 nH hf hb hs (by rw[hh,Bool.not_true,Bool.and_false]) d c fr up loc
@[simp] theorem AT5(f l k g o:Nat):AF (f+1) (.ptr l k g o)=false:=rfl
@[simp] theorem AT6(f l k g o:Nat):AF (f+1) (.vec l k g o)=false:=rfl
@[simp] theorem AZI(f l k g:Nat):AF (f+1) (.mp l k g)=false:=rfl
@[simp] theorem A7C(l k g o:Nat):weakV (.ptr l k g o)=.ptr l k g o:=rfl
@[simp] theorem A7D(l k g o:Nat):weakV (.vec l k g o)=.vec l k g o:=rfl
@[simp] theorem A7E(cs:List V):weakV (.ref cs)=.ref cs:=rfl
@[simp] theorem BFJ(d c:Nat)(f:cz)(x y:List V):zL d c fr s (some (.fn f x y))=some ⟨c+1,(d,true,.ptr s.up.length d c 0)::fr,s.put s.up.length d c (.box [.fn f x y])⟩:=rfl
@[simp] theorem BA9(d c:Nat)(l k g o:Nat):zL d c fr s (some (.ptr l k g o))=some ⟨c+1,(d,true,.ptr s.up.length d c 0)::fr,s.put s.up.length d c (.box [.ptr l k g o])⟩:=rfl
@[simp] theorem BFK(d c:Nat)(es:List (List V)):zL d c fr s (some (sl es))=some ⟨c+1,(d,true,.ptr s.up.length d c 0)::fr,s.put s.up.length d c (.box [sl es])⟩:=by cases es<;>rfl
@[simp] theorem FK:AH s []=[]:=rfl
@[simp] theorem A1(k g:Nat)(r:AX)(L:AA):AH s ((k,g,r)::L)=(k,g,CB s r)::AH s L:=rfl
def sr1(r:AX):Option (List V)->AX
 |some ds=>.box ds
 |none=>r
@[simp] theorem A7F(r:AX)(ds:List V):sr1 r (some ds)=.box ds:=rfl
theorem EV(cs:List V):CB s (.box cs)=sr1 (.box cs) (G4 (BT s) cs):=by unfold CB B0 sr1;simp only;cases G4 (BT s) cs<;>rfl
attribute [simp] EV
theorem rM(f:V->Option V):G4 f []=some []:=rfl
theorem nI(f:V->Option V)(v:V)(l:List V):G4 f (v::l)=mc2 (f v) (G4 f l):=by
 simp only[G4];cases f v with
 |none=>rfl
 |some x=>cases G4 f l<;>rfl
attribute [simp] rM nI
@[simp] theorem AOB(k:cx)(n:Int):BT s (.int k n)=some (.int k n):=rfl
@[simp] theorem AK0(b:Bool):BT s (.bool b)=some (.bool b):=rfl
@[simp] theorem AK1(b:Bool)(es:List (List V)):BT s (.list b es)=some (.list b es):=rfl
@[simp] theorem AOC:BT s .nil=some .nil:=rfl
@[simp] theorem AT7(es:List (List V)):BT s (sl es)=some (sl es):=by cases es<;>rfl
@[simp] theorem AT8(f:cz)(x y:List V):BT s (.fn f x y)=AY s 4 (.fn f x y):=rfl
@[simp] theorem AOD(l k g o:Nat):BT s (.ptr l k g o)=AY s 4 (.ptr l k g o):=rfl
@[simp] theorem nJ(l k g o:Nat):BT s (.vec l k g o)=AY s 4 (.vec l k g o):=rfl
@[simp] theorem AOE(cs:List V):BT s (.agg cs)=AY s 4 (.agg cs):=rfl
@[simp] theorem AZJ(f:Nat)(g:cz)(x y:List V):AY s (f+1) (.fn g x y)=fn2 g (P5 (AY s f) x) (P5 (AY s f) y):=by simp only[AY,T8,fn2];cases P5 (AY s f) x<;>cases P5 (AY s f) y<;>rfl
def cp1(f:List V->Option (List V))(g off:Nat):Option (Nat×AX)->Option V
 |some (g',.box cs)=>if g'=g then(f cs).map fun ds=>.ref (ds.drop off) else none
 |_=>none
@[simp] theorem AT9(f:Nat)(up:List AA)(loc:AA)(l k g off:Nat):AY ⟨up,loc⟩ (f+1) (.ptr l k g off)=if l=up.length then cp1 (P5 (AY ⟨up,loc⟩ f)) g off (loc.get k) else some (.ptr l k g off):=by
 simp only[AY,T8];split
 ·cases loc.get k with
  |none=>rfl
  |some z=>obtain⟨g',r⟩:=z;cases r<;>rfl
 ·rfl
def ow3(d c:Nat)(fr:Fr)(s:St):Option V->Option XS
 |some r=>some ⟨c+1,(d,true,r)::fr,s.put s.up.length d c .dead⟩
 |none=>none
@[simp] theorem A7G(d c:Nat)(r:V):ow3 d c fr s (some r)=some ⟨c+1,(d,true,r)::fr,s.put s.up.length d c .dead⟩:=rfl
theorem AK2:CB s .dead=.dead:=rfl
attribute [simp] AK2
end Go.Pg
theorem Go.Pg.qNz (m:Nat)(h:0<m):∃k,m=k+1:=⟨m-1,by omega⟩
