/- Operations of a region with all that hangs on the region alone worked out; running them one after another. No program in sight. -/
import Derived.Test.YthhdhbalenanjaaGreatQ2
noncomputable section
open Go renaming TypeId->bp,Operand->cj,Program->ck,Oper->cq,Code->cw,FuncId->cx,IntKind->cz
open Bool renaming and_eq_true->bj
open List renaming length_append->bk,length_nil->bq,getElem?_eq_getElem->bw,mapM_cons->bz,all_cons->bb,replicate->bc,mapM_nil->bh
open Nat renaming beq->bx,blt_eq->bf,beq_eq->bg,ble->bm,blt->bn
namespace Go.Pg
variable {P:ck}{E:XE}
inductive IK where
 |mv (x:cj)
 |bin (op:BinOp) (T:bp) (x y:cj)
 |fa (T:bp) (x:cj) (f:Nat)
 |ld (T:bp) (x:cj)
 |ldz (T:bp) (x:cj)
 |pick (c a b:cj)
 |build (T:bp) (ps:List (Nat×cj))
 |buildS (T:bp) (n:Nat) (ps:List (Nat×cj))
 |oth (op:Op)
 |alloc (T:bp)
 |box (x:cj)
 |mkM (r:Option cj)
 |mkS (T:bp) (x y:cj)
 |sto (T:bp) (x y:cj)
 |upd (T:bp) (x i y:cj)
 |call (own:Bool) (tk:Option Tmp) (f:cj) (args:List cj)
 |app (args:List cj) (Ts:List bp)
 |clr (args:List cj) (Ts:List bp)
 |cpy (args:List cj) (Ts:List bp)
def oI (op : Op) : cq := { dst := none, op := op, type := 0, pos := "", after := #[], guard := none }
def AFQ(all:List cq):List cj->Option Tmp
 |[]=>none
 |x::r=>match x with
  |.tmp t=>cond (AJV all t) (some t) (AFQ all r)
  |_=>AFQ all r
def ND(all:List cq)(o:cq):IK:=match o.op with
 |.move x=>.mv x
 |.assign x=>.mv x
 |.binOp op T x y _=>.bin op T x y
 |.fieldAddr T x f=>.fa T x f
 |.load T x=>.ld T x
 |.pick c a b=>.pick c a b
 |.build T ps=>.build T ps.toList
 |.buildSlice T n ps=>.buildS T n ps.toList
 |.alloc T=>.alloc T
 |.box _ x=>.box x
 |.makeMap _ r=>.mkM r
 |.makeSlice T x y=>.mkS T x y
 |.store T x y=>.sto T x y
 |.mapUpdate T x i y=>.upd T x i y
 |.call c=>match c.callee with
  |.value f=>.call (DM all o) (AFQ all c.args.toList) f c.args.toList
  |.builtin .append=>.app c.args.toList c.argTypes.toList
  |.builtin .clear=>.clr c.args.toList c.argTypes.toList
  |.builtin .copy=>.cpy c.args.toList c.argTypes.toList
  |_=>.oth o.op
 |op=>.oth op
structure KD where
 g:Option (Tmp×Bool)
 d:Option Tmp
 k:IK
def comp(all:List cq)(o:cq):KD:=⟨K3 all o,o.dst,ND all o⟩
def AFR:IK->IK
 |.ld T x=>.ldz T x
 |k=>k
def eX(all:List cq)(o:cq):KD:=⟨K3 all o,o.dst,cond (zB all o) (AFR (ND all o)) (ND all o)⟩
def EV(d:Option Tmp)(st:XS)(r:Option V):Option XS:=match r with
 |some v=>some ⟨st.c,putD st.fr d true v,st.s⟩
 |none=>none
def bG(tk:Option Tmp)(st:XS):XS:=match tk with
 |none=>st
 | some t=>match(match BL st.fr t with
   |some (true,.vec l q γ n)=>match st.s.get l q with
    |some (γ',.vec _ es)=>Bool.rec none (some ⟨st.c,(t,true,.list false (es.take n))::st.fr,st.s.put l q γ .dead⟩) (bx γ' γ&&bm n es.length&&bn γ st.c)
    |_=>none
   | _=>none:Option XS)with
  |some st1=>st1
  |none=>st
def CX(P:ck)(E:XE)(d:Option Tmp)(k:IK)(st:XS):Option XS:=match k with
 |.mv x=>EV d st (CK st.fr x)
 |.bin op T x y=>EV d st (yM P st.fr op T x y)
 |.fa T x f=>EV d st (xFA P st.fr T x f)
 |.ld T x=>EV d st (NB P st.fr st.s T x)
 |.ldz T x=>EV d st (NB P st.fr st.s T x)
 |.pick c a b=>EV d st (uF st.fr c a b)
 |.build T ps=>EV d st (VD P st.fr T ps)
 |.buildS T n ps=>EV d st (PF P st.fr T n ps)
 |.oth op=>EV d st (JH P (oI op) st.s (CK st.fr))
 |.alloc T=>OM P d T st
 |.box x=>lX d x st
 |.mkM r=>yI d r st
 |.mkS T x y=>WO P d T x y st
 |.sto T x y=>I7 P d T x y st
 |.upd T x i y=>yJ P d T x i y st
 |.call own tk f args=>mF E own d f args (bG tk st)
 |.app args Ts=>xAppend P d args Ts st
 |.clr args Ts=>gP P d args Ts st
 |.cpy args Ts=>uH P d args Ts st
def opI(P:ck)(E:XE)(i:KD)(st:XS):Option XS:=match gdX st.fr i.g with
 |some true=>CX P E i.d i.k st
 |some false=>some (IZ i.d st)
 |none=>none
def opO(P:ck)(E:XE)(i:KD)(r:Option XS):Option XS:=match r with
 |some st=>opI P E i st
 |none=>none
def T7(P:ck)(E:XE):List KD->Option XS->Option XS
 |[],r=>r
 |i::l,r=>T7 P E l (opO P E i r)
theorem bH(all:List cq)(st:XS):∀(xs:List cj),(match MY all st xs with
  |some st1=>st1
  | none=>st)=bG (AFQ all xs) st
 |[]=>rfl
 |x::r=>by
  unfold MY AFQ;cases x with
  |tmp t=>
   simp only
   cases AJV all t with
   |false=>exact bH all st r
   |true=>rfl
  |_=>exact bH all st r
theorem A2Y{o:cq}{st:XS}:AD3 P (fun _=>false) o st=none:=by unfold AD3;split<;>rfl
theorem AFS(hl:E.lit=fun _=>false)(all:List cq)(o:cq)(st:XS):opX P E all o st=opI P E (comp all o) st:=by
 unfold opX opI;rw[hl];simp only[A2Y];have:(match AD4 all o st with
   |some st1=>QB P E (DM all) o st1
   | none=>QB P E (DM all) o st)=CX P E o.dst (ND all o) st:=by
  have ht:∀(r:Option XS),(match r with
   |some st1=>QB P E (DM all) o st1
   | none=>QB P E (DM all) o st)=QB P E (DM all) o (match r with
   |some st1=>st1
   | none=>st):=fun r=>by cases r <;> rfl
  rw[ht]
  obtain⟨d,op,T,pos,af,gd⟩:=o
  cases op with
  |call c=>
   obtain⟨cal,args,Ts⟩:=c
   cases cal with
   |value f=>
    show QB P E _ _ (match MY all st args.toList with|some st1=>st1|none=>st)=_
    rw[bH]
    rfl
   |builtin b=>cases b<;>rfl
   |_=>rfl
  |_=>rfl
 show _=(match gdX st.fr (K3 all o)with
  |some true=>CX P E o.dst (ND all o) st
  |some false=>some (IZ o.dst st)
  | none=>none)
 cases gdX st.fr (K3 all o)with
 |none=>rfl
 |some b=>
  cases b with
  |false=>rfl
  |true=>exact this
theorem IB:∀(l:List KD),T7 P E l none=none
 |[]=>rfl
 |_::l=>IB l
theorem vJ(hl:E.lit=fun _=>false)(all:List cq):∀(l:List cq) (st:XS),gS P E all l st=T7 P E (l.map (comp all)) (some st)
 |[],st=>rfl
 |o::l,st=>by
  simp only[gS,List.map_cons,T7,opO];rw[AFS hl];cases opI P E (comp all o) st with
  |none=>exact(IB _).symm
  |some st'=>exact vJ hl all l st'
def HX(P:ck)(k:IK)(r:cj->Option V):AJ:=match k with
 |.ld T x=>B8 (bx (P.cellsOf T) 1) (r x)
 |.app xs _=>J5 r xs
 |.oth op=>EC P (oI op) r
 |_=>[]
def DG(P:ck)(E:XE)(d:Option Tmp)(k:IK)(st:XS):Option (XS×AJ):=match k with
 |.mv x=>TP (EV d st (CK st.fr x))
 |.bin op T x y=>TP (EV d st (yM P st.fr op T x y))
 |.fa T x f=>TP (EV d st (xFA P st.fr T x f))
 |.ld T x=>TP (EV d st (NB P st.fr st.s T x))
 |.ldz T x=>TP (EV d st (NB P st.fr st.s T x))
 |.pick c a b=>TP (EV d st (uF st.fr c a b))
 |.build T ps=>TP (EV d st (VD P st.fr T ps))
 |.buildS T n ps=>TP (EV d st (PF P st.fr T n ps))
 |.oth op=>TP (EV d st (JH P (oI op) st.s (CK st.fr)))
 |.alloc T=>TP (OM P d T st)
 |.box x=>TP (lX d x st)
 |.mkM r=>TP (yI d r st)
 |.mkS T x y=>TP (WO P d T x y st)
 |.sto T x y=>AD6 P d T x y st
 |.upd ..=>none
 |.call own _ f args=>Bool.rec (TP (aE E.c0 d f args st)) (TP (I9 E.co d f args st)) own
 |.app args Ts=>xAppD P d args Ts st
 |.clr ..=>none
 |.cpy ..=>none
def plK:IK->Bool
 |.alloc _|.box _|.mkM _|.mkS ..|.sto ..|.app ..=>true
 |.call own ..=>own
 |_=>false
def VP(P:ck)(E:XE)(i:KD)(st:XS):Option (XS×AJ):=match gdX st.fr i.g with
 |some true=>DG P E i.d i.k st
 |some false=>Bool.rec (some (IZ i.d st,[])) none (plK i.k)
 |none=>none
def AKO(P:ck)(E:XE)(i:KD)(r:Option (XS×AJ×AJ)):Option (XS×AJ×AJ):=match r with
 |some (st,rd,wr)=>match VP P E i st with
  |some (st',w)=>some (st',HX P i.k (CK st.fr)++rd,w++wr)
  |none=>none
 |none=>none
def cV(P:ck)(E:XE):List KD->Option (XS×AJ×AJ)->Option (XS×AJ×AJ)
 |[],r=>r
 |i::l,r=>cV P E l (AKO P E i r)
def rS(r:Option (XS×AJ×AJ)):Option XS:=match r with
 |some (st,rd,wr)=>Bool.rec none (some st) (wr.all fun p=>!(rd.contains p))
 |none=>none
structure rT where
 new:List Tmp
 ph:List KD
 sq:List KD
def iN(new:List Tmp)(st:XS):Bool:=new.all fun d=>(st.s.loc.get d).isNone
def AFT(new:List Tmp)(r:Option XS):Option (XS×AJ×AJ):=match r with
 |some st=>Bool.rec none (some (st,[],[])) (iN new st)
 |none=>none
def cW(P:ck)(E:XE):List rT->Option XS->Option XS
 |[],r=>r
 |p::S,r=>cW P E S (T7 P E p.sq (rS (cV P E p.ph (AFT p.new r))))
def eY(l:List cq)(R:List Nat):List KD:=R.filterMap fun i=>(l[i]?).map (comp l)
def eZ(l:List cq)(R:List Nat):List KD:=R.filterMap fun i=>(l[i]?).map (eX l)
def vK(l:List cq)(R:List Nat):List Tmp:=R.filterMap fun i=>match l[i]? with
 |some o=>cond (kA (DM l) o) o.dst none
 |none=>none
def vL(l:List cq)(p:List Nat×List Nat):rT:=⟨vK l p.1,eZ l p.1,eY l p.2⟩
def inB(l:List cq)(S:W2):Bool:=S.all fun p=>p.1.all (fun i=>bn i l.length)&&p.2.all (fun i=>bn i l.length)
theorem zL(all:List cq)(o:cq)(st:XS):gU P E (DM all) o st=DG P E o.dst (ND all o) st:=by
 obtain⟨d,op,T,pos,af,gd⟩:=o;cases op with
 |call c=>
  obtain⟨cal,args,Ts⟩:=c
  cases cal with
  |builtin b=>cases b<;>rfl
  |_=>rfl
 |_=>rfl
theorem ART(all:List cq)(o:cq)(r:cj->Option V):EC P o r=HX P (ND all o) r:=by
 obtain⟨d,op,T,pos,af,gd⟩:=o;cases op with
 |call c=>
  obtain⟨cal,args,Ts⟩:=c
  cases cal with
  |builtin b=>cases b<;>rfl
  |_=>rfl
 |_=>rfl
theorem A2Z(all:List cq)(o:cq):(kA (DM all) o||kW o||kP o)=plK (ND all o):=by
 obtain⟨d,op,T,pos,af,gd⟩:=o;cases op with
 |call c=>
  obtain⟨cal,args,Ts⟩:=c
  cases cal with
  |builtin b=>cases b<;>rfl
  |value f=>simp[kA,kW,kP,plK,ND]
  |_=>rfl
 |_=>rfl
theorem AKP(all:List cq)(o:cq)(st:XS):qJ P E all o st=VP P E (comp all o) st:=by unfold qJ VP;rw[zL,A2Z];rfl
theorem rU(d:Option Tmp)(k:IK)(st:XS):DG P E d (AFR k) st=DG P E d k st:=by cases k<;>rfl
theorem AKQ(k:IK):plK (AFR k)=plK k:=by cases k<;>rfl
theorem ARU(all:List cq)(o:cq)(st:XS):VP P E (eX all o) st=VP P E (comp all o) st:=by
 unfold eX comp;cases zB all o with
 |false=>rfl
 |true=>
  show VP P E ⟨K3 all o,o.dst,AFR (ND all o)⟩ st=_
  unfold VP
  simp only[rU,AKQ]
theorem ARV(all:List cq)(o:cq)(r:cj->Option V):cond (zB all o) [] (EC P o r)=HX P (eX all o).k r:=by
 unfold eX;cases hz:zB all o with
 |false=>exact ART all o r
 |true=>
  obtain⟨T,x,ho⟩:=AMU hz
  show[]=HX P (AFR (ND all o)) r
  unfold ND
  rw[ho]
  rfl
theorem PK:∀(l:List KD),cV P E l none=none
 |[]=>rfl
 |_::l=>PK l
theorem AFU(l:List cq):∀(R:List Nat) (st:XS) (rd wr:AJ),R.all (fun i=>bn i l.length)=true->phX P E l R st rd wr=cV P E (eZ l R) (some (st,rd,wr))
 |[],st,rd,wr,_=>rfl
 |i::R,st,rd,wr,h=>by
  simp only[bb,bj,bf]at h;have hi:=bw h.1;have hp:eZ l (i::R)=eX l l[i]::eZ l R:=by simp[eZ,hi]
  rw[hp];simp only[phX,hi,cV,AKO,AKP,ARU];cases VP P E (comp l l[i]) st with
  |none=>exact(PK _).symm
  |some q=>
   obtain⟨st',w⟩:=q
   simp only
   rw[AFU l R _ _ _ h.2,ARV l]
theorem AFV(hl:E.lit=fun _=>false)(l:List cq):∀(R:List Nat) (st:XS),R.all (fun i=>bn i l.length)=true->sqX P E l R st=T7 P E (eY l R) (some st)
 |[],st,_=>rfl
 |i::R,st,h=>by
  simp only[bb,bj,bf]at h;have hi:=bw h.1;have hp:eY l (i::R)=comp l l[i]::eY l R:=by simp[eY,hi]
  rw[hp];simp only[sqX,hi,T7,opO,AFS hl];cases opI P E (comp l l[i]) st with
  |none=>exact(IB _).symm
  |some st'=>exact AFV hl l R st' h.2
theorem LY:∀(S:List rT),cW P E S none=none
 |[]=>rfl
 |p::S=>by simp only[cW,AFT,PK,rS,IB];exact LY S
theorem nE(l:List cq)(st:XS):∀(R:List Nat),Z4 (DM l) l R st.s.loc=iN (vK l R) st
 |[]=>rfl
 |i::R=>by
  have ih:=nE l st R;unfold Z4 iN vK at *;simp only[bb,List.filterMap_cons,ih];cases hi:l[i]? with
  |none=>simp
  |some o=>
   simp only
   cases hk:kA (DM l) o with
   |false=>simp
   |true=>
    cases hd:o.dst with
    |none=>simp
    |some d=>simp
theorem vM(hl:E.lit=fun _=>false)(l:List cq):∀(S:W2) (st:XS),inB l S=true->yO P E l S st=cW P E (S.map (vL l)) (some st)
 |[],st,_=>rfl
 |p::S,st,h=>by
  simp only[inB,bb,bj]at h;obtain⟨⟨h1,h2⟩,h3⟩:=h;simp only[yO,List.map_cons,cW,vL,AFT,nE];cases iN (vK l p.1) st with
  |false=>
   simp only[PK,rS,IB]
   exact(LY _).symm
  |true=>
   simp only[AFU l _ _ _ _ h1]
   cases cV P E (eZ l p.1) (some (st,[],[]))with
   |none=>simp only[rS,IB];exact(LY _).symm
   |some q=>
    obtain⟨st1,rd,wr⟩:=q
    simp only[rS]
    cases (wr.all fun p=>!rd.contains p)with
    |false=>simp only[IB];exact(LY _).symm
    |true=>
     simp only[AFV hl l _ _ h2]
     cases T7 P E (eY l p.2) (some st1)with
     |none=>exact(LY _).symm
     |some G6=>exact vM hl l S G6 h3
inductive IR where
 |str (l:List KD)
 |drw (S:List rT)
 |cls (ks:List (Nat×Nat×Nat))
def vN(P:ck)(ops:List cq)(draw:Bool):IR:=cond draw (cond (W6 P ops) (.cls (IA ops)) (.drw ((cK ops).map (vL ops)))) (.str (ops.map (comp ops)))
def okR(P:ck)(ops:List cq)(draw:Bool):Bool:=cond draw (cond (W6 P ops) true (inB ops (cK ops))) true
def J9(P:ck)(E:XE)(i:IR)(st:XS):Option XS:=match i with
 |.str l=>T7 P E l (some st)
 |.drw S=>cW P E S (some st)
 |.cls ks=>Q6 P ks (some st)
end Go.Pg
namespace Go.Pg
variable {P:ck}{σ σ':Nat->Nat}{δ:Nat}{pre:List AA}{s:St}{fr:Fr}
abbrev Tr:=Option (List Nat×List Nat)
abbrev Ann:=Nat->Nat->Tr
def CL(a:Tr)(st:XS):XS:=match a with
 |some p=>Q3 p.1 p.2 st
 |none=>st
theorem LZ{a:Tr}{st:XS}(h:Bd st):KI st (CL a st):=by
 cases a with
 |none=>exact⟨Nat.le_refl _,h,rfl⟩
 |some p=>exact TR h
theorem IF{a:Tr}{st:XS}:(CL a st).c=st.c:=by cases a<;>rfl
theorem KA{n N:Nat}{ρ:Option Nat}{c:cw}{K:Exit->Fr->St->Prop}{a:Tr}{st:XS}(h:BC P n N ρ c K ((CL a st).fr.ren σ pre.length) ((CL a st).s.emb σ pre)):BC P n N ρ c K (st.fr.ren σ pre.length) (st.s.emb σ pre):=by
 cases a with
 |none=>exact h
 |some p=>exact VH h
def A20(P:ck)(E:XE)(a:Tr)(l:List cq)(draw:Bool)(st:XS):Option XS:=Bool.rec (gS P E l l (CL a st)) (Bool.rec (QD P E l (CL a st)) (Q6 P (IA l) (some (CL a st))) (W6 P l)) draw
def isY:List Nat->Bool
 |k::_=>bx k 777
 |[]=>false
def AFW(P:ck)(E:XE)(N:Nat)(a:Tr)(l:List cq)(draw:Bool)(us:List Nat)(st:XS):Option XS:=Bool.rec (A20 P (cfU us E) a l draw st) (Bool.rec none (vA P E N l (CL a st)) draw) (isY us)
def BM(rec:cM)(body:cw)(a:Tr)(n:Nat):XS->Option (Exit×XS):=Nat.rec (motive:=fun _=>XS->Option (Exit×XS)) (fun _=>none) (fun _ ih st=>match rec body st with
 |some (.normal,st')=>ih (CL a st')
 | r=>r) n
def iO(id:Nat)(l:List cq):Nat:=id+1000*l.length+1000000*(match l with
 |o::_=>match o.dst with
  |some d=>d
  |none=>0
 | []=>0)
def CG:cw->Nat
 |.region id ops _=>iO id ops.toList
 |.seq a _=>CG a
 |.block _ c=>CG c
 |.loop c=>CG c
 |.scope c=>CG c
 |_=>0
def zM:Tr->List Nat
 |some p=>p.1
 |none=>[]
def NE:Nat:=1000000000000000
def zN:Tr->List Nat
 |some p=>p.2
 |none=>[]
def VQ(P:ck)(E:XE)(A:Ann)(n N:Nat)(rec:cM):cM:=fun code st=>match code with
 |.region id ops draw=>TS (AFW P E N (A N (iO id ops.toList)) ops.toList draw (zN (A N (iO id ops.toList+NE))) (LU (zM (A N (iO id ops.toList+NE))) st))
 |.loop body=>BM rec body (A N (CG body)) n (CL (A N (CG body)) st)
 |c=>aG P E n N rec c st
def AF(P:ck)(A:Ann)(kn:CF0)(n:Nat):F8:=Nat.rec (motive:=fun _=>F8) (fun _ _ _=>none) (fun n ih N=>VQ P (A1R P kn (fun _ _ _=>none) (fun _=>false) ih) A n N (ih N)) n
theorem AKR(hP:D6 P){E:XE}(hEE:J6 P E){a:Tr}{id:Nat}{ops:Array cq}{draw:Bool}{N:Nat}(hN:EU N (.region id ops draw)=true){st st':XS}(hx:A20 P E a ops.toList draw st=some st')(hbd:Bd st):KI st st' /\
  ∀(n:Nat) (ρ:Option Nat) (σ:Nat->Nat) (pre:List AA) (K:Exit->Fr->St->Prop),(∀σ',AO st.c σ σ'->K .normal (st'.fr.ren σ' pre.length) (st'.s.emb σ' pre))->BC P n N ρ (.region id ops draw) K (st.fr.ren σ pre.length) (st.s.emb σ pre):=by
 obtain⟨l⟩:=ops
 have hT:=LZ (a:=a) hbd
 have ext:∀{st'},KI (CL a st) st'->KI st st':=fun h=>⟨by have:=h.c;rwa [IF]at this,h.bd,h.n.trans hT.n⟩
 cases draw with
 |false=>
  simp only[EU,cond_false,bj]at hN
  have hx:gS P E l l (CL a st)=some st':=hx
  obtain⟨hE,hs⟩:=gT hEE hT.bd hx
  refine⟨ext hE,fun n ρ σ pre K hk=>KA (a:=a) ?_⟩
  exact WI (l.map (K3 l)) hN.1 (gN (TK hN.2)) (hs σ pre _ fun σ' ha=>hk σ' (by rwa [IF]at ha))
 |true=>
  simp only[EU,cond_true]at hN
  cases hc:W6 P l with
  |true=>
   have hx:(Bool.rec (QD P E l (CL a st)) (Q6 P (IA l) (some (CL a st))) (W6 P l):Option XS)=some st':=hx
   rw[hc]at hx
   obtain⟨hE,hs⟩:=AKC (id:=id) hP hN hc hx hT.bd
   exact⟨ext hE,fun n ρ σ pre K hk=>KA (a:=a) (hs n ρ σ pre K fun σ' ha=>hk σ' (by rwa [IF]at ha))⟩
  |false=>
  have hx:(Bool.rec (QD P E l (CL a st)) (Q6 P (IA l) (some (CL a st))) (W6 P l):Option XS)=some st':=hx
  rw[hc]at hx
  obtain⟨hE,hs⟩:=aZ (id:=id) hP hEE hN hx hT.bd
  exact⟨ext hE,fun n ρ σ pre K hk=>KA (a:=a) (hs n ρ σ pre K fun σ' ha=>hk σ' (by rwa [IF]at ha))⟩
theorem AKS(hP:D6 P){E:XE}(hEE:J6 P E){a:Tr}{us:List Nat}{id:Nat}{ops:Array cq}{draw:Bool}{N:Nat}(hN:EU N (.region id ops draw)=true){st st':XS}(hx:AFW P E N a ops.toList draw us st=some st')(hbd:Bd st):KI st st' /\
  ∀(n:Nat) (ρ:Option Nat) (σ:Nat->Nat) (pre:List AA) (K:Exit->Fr->St->Prop),(∀σ',AO st.c σ σ'->K .normal (st'.fr.ren σ' pre.length) (st'.s.emb σ' pre))->BC P n N ρ (.region id ops draw) K (st.fr.ren σ pre.length) (st.s.emb σ pre):=by
 unfold AFW at hx
 cases hy:isY us with
 |false=>rw[hy]at hx;exact AKR hP (AQW hEE _) hN hx hbd
 |true=>
  rw[hy]at hx
  cases draw with
  |false=>cases hx
  |true=>
   have hx:vA P E N ops.toList (CL a st)=some st':=hx
   have hT:=LZ (a:=a) hbd
   obtain⟨hE,hs⟩:=AE3 hP hEE (id:=id) hx hT.bd
   refine⟨⟨by have:=hE.c;rwa [IF]at this,hE.bd,hE.n.trans hT.n⟩,fun n ρ σ pre K hk=>KA (a:=a) ?_⟩
   exact hs n ρ σ pre K fun σ' ha=>hk σ' (by rwa [IF]at ha)
theorem AFX{N:Nat}{rec:cM}(hrec:aK P N rec){body:cw}{a:Tr}(hN:EU N body=true)(m:Nat){st st':XS}{e:Exit}(hx:BM rec body a m (CL a st)=some (e,st'))(hbd:Bd st):KI st st'/\(∀l,e≠.goto l) /\
  ∀(n:Nat) (ρ:Option Nat) (σ:Nat->Nat) (pre:List AA) (K:Exit->Fr->St->Prop),(ρ=none\/F7 body=true)->(∀σ',AO st.c σ σ'->K e (st'.fr.ren σ' pre.length) (st'.s.emb σ' pre))->BC P n N ρ (.loop body) K (st.fr.ren σ pre.length) (st.s.emb σ pre):=by
 have up:∀{st st':XS},Bd st->KI (CL a st) st'->KI st st':=fun hbd h=>⟨by have:=h.c;rwa [IF]at this,h.bd,h.n.trans (LZ hbd).n⟩
 have ext:∀(m:Nat) {st:XS},BM rec body a m (CL a st)=some (e,st')->Bd st->KI st st'/\(∀l,e≠.goto l):=by
  intro m;induction m with
  |zero=>intro st hx _;cases hx
  |succ m ih=>
   intro st hx hbd
   have hx:(match rec body (CL a st)with
    |some (.normal,st')=>BM rec body a m (CL a st')
    | r=>r)=some (e,st'):=hx
   have hT:=LZ (a:=a) hbd
   split at hx
   ·rename_i st1 h1;obtain⟨hE,_,_⟩:=hrec _ _ _ _ h1 hT.bd hN;obtain⟨hE',hg⟩:=ih hx hE.bd;exact⟨up hbd ⟨Nat.le_trans hE.c hE'.c,hE'.bd,hE'.n.trans hE.n⟩,hg⟩
   ·obtain⟨hE,hg,_⟩:=hrec _ _ _ _ hx hT.bd hN;exact⟨up hbd ⟨hE.c,hE.bd,hE.n⟩,hg⟩
 obtain⟨hE,hg⟩:=ext m hx hbd
 refine⟨hE,hg,fun n ρ σ pre K hρ hk=>?_⟩
 refine dT (fun m fr s=>∃(st:XS) (σ:Nat->Nat),fr=st.fr.ren σ pre.length/\s=st.s.emb σ pre/\Bd st/\BM rec body a m (CL a st)=some (e,st')/\∀σ',AO st.c σ σ'->K e (st'.fr.ren σ' pre.length) (st'.s.emb σ' pre)) m ⟨st,σ,rfl,rfl,hbd,hx,hk⟩ ?_
 rintro m fr s ⟨st,σ,rfl,rfl,hbd,hx,hk⟩
 cases m with
 |zero=>cases hx
 |succ m=>
  have hx:(match rec body (CL a st)with
   |some (.normal,st')=>BM rec body a m (CL a st')
   | r=>r)=some (e,st'):=hx
  have hT:=LZ (a:=a) hbd
  refine KA (a:=a) ?_
  split at hx
  ·rename_i st1 h1;obtain⟨hE,_,hC⟩:=hrec _ _ _ _ h1 hT.bd hN;refine hC n ρ σ pre _ hρ fun σ' ha=>?_;rw[IF]at ha;exact⟨m,Nat.lt_succ_self _,st1,σ',rfl,rfl,hE.bd,hx,fun σ'' ha'=>hk σ'' (ha.trans ha' (by have:=hE.c;rwa [IF]at this))⟩
  ·rename_i hne;obtain⟨hE,hg,hC⟩:=hrec _ _ _ _ hx hT.bd hN;refine hC n ρ σ pre _ hρ fun σ' ha=>?_;rw[IF]at ha;have:=hk σ' ha;cases e with
   |normal=>exact absurd hx (hne st')
   |_=>exact this
theorem iP(hP:D6 P){E:XE}(hEE:J6 P E){A:Ann}{N:Nat}{rec:cM}(hrec:aK P N rec)(m:Nat):aK P N (VQ P E A m N rec):=by
 intro code st e st' hx hbd hN;unfold VQ at hx;split at hx
 ·rename_i id ops draw;obtain⟨rfl,hx2⟩:=mY hx;have hT:=uV (zM (A N (iO id ops.toList+NE))) hbd;obtain⟨hE,hs⟩:=AKS hP hEE hN hx2 hT.bd;exact⟨⟨Nat.le_trans hT.c hE.c,hE.bd,hE.n.trans hT.n⟩,(by intro l h;cases h),fun n ρ σ pre K _ hk=>mT _ (hs n ρ σ pre K fun σ' ha=>hk σ' (by rwa [AM2]at ha))⟩
 ·rename_i body;have hN:EU N body=true:=hN;obtain⟨h1,h2,h3⟩:=AFX hrec hN m hx hbd;exact⟨h1,h2,fun n ρ σ pre K hρ hk=>h3 n ρ σ pre K hρ hk⟩
 ·exact mZ hP hEE hrec m _ _ _ _ hx hbd hN
theorem T8(hP:D6 P){A:Ann}{kn:CF0}(hkn:HN P kn):∀n,W5 P (AF P A kn n)
 |0=>fun N code st e st' hx=>by cases hx
 |n+1=>fun N=>by have ih:=T8 hP (A:=A) hkn n;exact iP hP ⟨AEE hP hkn ih,AKE hP ih,aO hP hkn ih,AED hP hkn (ko:=fun _ _ _=>none) (fun _ _ _ _ h=>by cases h) ih⟩ (ih N) n
theorem AFY(hP:D6 P){A:Ann}{kn:CF0}(hkn:HN P kn){n:Nat}{f:cx}{args:List V}{r:V}(h:EM P (AF P A kn n) f args=some r)(s:St):E3 P f args s fun r' s'=>r'=r/\s'=s :=
 (aM hP (T8 hP hkn n) f args r h).1 s
section
variable {A:Ann}{kn:CF0}{n N:Nat}{st:XS}
abbrev BH(P:ck)(A:Ann)(kn:CF0)(n:Nat):XE:=A1R P kn (fun _ _ _=>none) (fun _=>false) (AF P A kn n)
theorem AFZ(a b:cw):AF P A kn (n+1) N (.seq a b) st=yP (AF P A kn n N) b (AF P A kn n N a st):=rfl
theorem zO(c:cj)(a b:cw):AF P A kn (n+1) N (.cond c a b) st=mI (AF P A kn n N) a b st (CK st.fr c):=rfl
theorem rV(id:Nat)(b:cw):AF P A kn (n+1) N (.block id b) st=VI id (AF P A kn n N b st):=rfl
theorem zQ(b:cw):AF P A kn (n+1) N (.loop b) st=BM (AF P A kn n N) b (A N (CG b)) n (CL (A N (CG b)) st):=rfl
theorem zR:AF P A kn (n+1) N .skip st=some (.normal,st):=rfl
theorem zS(id:Nat):AF P A kn (n+1) N (.exit id) st=some (.exit id,st):=rfl
theorem AF0:AF P A kn (n+1) N .ret st=some (.ret,st):=rfl
theorem rW(b:cw):AF P A kn (n+1) N (.scope b) st=AF P A kn n N b st:=rfl
theorem M2(g:cj)(ps:Array Tmp)(asg body:cw):AF P A kn (n+1) N (.rangeFunc g ps asg body) st=VJ (BH P A kn n).cf N g ps.toList asg body st:=rfl
theorem AB(rec:cM)(body:cw)(a:Tr):BM rec body a (n+1) st=match rec body st with
 |some (.normal,st')=>BM rec body a n (CL a st')
 |r=>r:=rfl
theorem nF(rec:cM)(b:cw):yP rec b (some (.normal,st))=rec b st:=rfl
theorem AF1(rec:cM)(b:cw):yP rec b (some (.ret,st))=some (.ret,st):=rfl
theorem zT(rec:cM)(b:cw)(i:Nat):yP rec b (some (.exit i,st))=some (.exit i,st):=rfl
theorem cX(id:Nat):VI id (some (.normal,st))=some (.normal,st):=rfl
theorem rX(id:Nat):VI id (some (.ret,st))=some (.ret,st):=rfl
theorem nG(id i:Nat):VI id (some (.exit i,st))=if i=id then some (.normal,st) else some (.exit i,st):=by
 show(Bool.rec _ _ (bx i id):Option (Exit×XS))=_;by_cases h:i=id
 ·subst h;simp
 ·have:bx i id=false:=by
   cases hb:bx i id with
   |false=>rfl
   |true=>exact absurd (Nat.eq_of_beq_eq_true hb) h
  simp[h,this]
def vO:cw->Bool
 |.region ..=>true
 |_=>false
def WS:cw->List cq
 |.region _ ops _=>ops.toList
 |_=>[]
def OW:cw->Bool
 |.region _ _ d=>d
 |_=>false
theorem vP(us:List Nat){E:XE}(h:E.lit=fun _=>false):(cfU us E).lit=fun _=>false:=by cases us<;>exact h
theorem VR{r:cw}(hr:vO r=true){i:IR}(hi:vN P (WS r) (OW r)=i)(hok:okR P (WS r) (OW r)=true){a:Tr}(ha:A N (CG r)=a){ks us:List Nat}(ht:zM (A N (CG r+NE))=ks)(hu:zN (A N (CG r+NE))=us)(hy:isY us=false:=by rfl):AF P A kn (n+1) N r st=TS (J9 P (cfU us (BH P A kn n)) i (CL a (LU ks st))):=by
 cases r with
 |region id ops draw=>
  subst hi ha ht hu
  show TS (AFW P _ N (A N (iO id ops.toList)) ops.toList draw (zN (A N (iO id ops.toList+NE))) (LU (zM (A N (iO id ops.toList+NE))) st))=_
  unfold AFW
  rw[show isY (zN (A N (iO id ops.toList+NE)))=false from hy]
  cases draw with
  |false=>exact congrArg TS (vJ (vP _ rfl) _ _ _)
  |true=>
   show TS (Bool.rec (QD P _ ops.toList _) (Q6 P (IA ops.toList) (some _)) (W6 P ops.toList))=TS (J9 P _ (cond (W6 P ops.toList) (.cls (IA ops.toList)) (.drw ((cK ops.toList).map (vL ops.toList)))) _)
   have hok:cond (W6 P ops.toList) true (inB ops.toList (cK ops.toList))=true:=hok
   cases hc:W6 P ops.toList with
   |true=>rfl
   |false=>
    rw[hc]at hok
    exact congrArg TS (vM (vP _ rfl) _ _ _ hok)
 |_=>cases hr
theorem D3{r:cw}(hr:vO r=true){i:IR}(hi:vN P (WS r) (OW r)=i)(hok:okR P (WS r) (OW r)=true){a:Tr}(ha:A N (CG r)=a){ks:List Nat}(ht:zM (A N (CG r+NE))=ks)(hu:zN (A N (CG r+NE))=[]:=by kernel_rfl):AF P A kn (n+1) N r st=TS (J9 P (BH P A kn n) i (CL a (LU ks st))):=VR hr hi hok ha ht hu rfl
theorem AF2{r:cw}(hr:vO r=true){i:IR}(hi:vN P (WS r) (OW r)=i)(hok:okR P (WS r) (OW r)=true){a:Tr}(ha:A N (CG r)=a)(ht:A N (CG r+NE)=none:=by kernel_rfl):AF P A kn (n+1) N r st=TS (J9 P (BH P A kn n) i (CL a st)):=D3 hr hi hok ha (congrArg zM ht) (congrArg zN ht)
def rY(P:ck)(rs:List ResultVar)(r:Option (Exit×XS)):Option V:=match r with
 |some (.ret,st)=>finV st.s (FM P rs st.fr st.s)
 |some (.normal,st)=>finV st.s (FM P rs st.fr st.s)
 |_=>none
where finV (s:St) (r:Option V):Option V:=match r with
 |some v=>match AY s 4 v with
  |some r'=>Bool.rec none (some r') (AG 9 r')
  |none=>none
 |none=>none
theorem AR{f:cx}{fn:Func}{c:cw}{args:List V}{rec:F8}(hf:P.funcs[f]? = some fn)(hb:fn.body=some c)(hs:bm args.length fn.ntmps=true)(hcl:args.all (AG 9)=true) :
  EM P rec f args=rY P fn.results.toList (rec fn.ntmps c ⟨0,AD 0 args,⟨[],[]⟩⟩):=by
 unfold EM eG WQ mJ
 rw[hcl,hf]
 simp only[hb,hs]
 generalize rec fn.ntmps c ⟨0,AD 0 args,⟨[],[]⟩⟩=q
 have aux:∀st:XS,(match(match FM P fn.results.toList st.fr st.s with
   |some r=>match AY st.s 4 r with
    |some r'=>some (r',st.c,st.s.up.map (AH st.s))
    |none=>none
   | none=>none:Option (V×Nat×List AA))with
  |some (r,_,_)=>(Bool.rec none (some r) (AG 9 r):Option V)
  | none=>none)=rY.finV st.s (FM P fn.results.toList st.fr st.s):=fun st=>by
  unfold rY.finV
  cases FM P fn.results.toList st.fr st.s with
  |none=>rfl
  |some r=>
   cases h:AY st.s 4 r with
   |none=>simp[h]
   |some r'=>simp[h]
 cases q with
 |none=>rfl
 |some q=>
  obtain⟨e,st⟩:=q
  cases e with
  |ret=>exact aux st
  |normal=>exact aux st
  |_=>rfl
end
def K4:cw->List Nat->cw
 |c,[]=>c
 |.seq a b,i::p=>bif bx i 0 then K4 a p else K4 b p
 |.cond _ a b,i::p=>bif bx i 0 then K4 a p else K4 b p
 |.block _ a,_::p=>K4 a p
 |.loop a,_::p=>K4 a p
 |.scope a,_::p=>K4 a p
 |.rangeFunc _ _ a b,i::p=>bif bx i 0 then K4 a p else K4 b p
 |c,_=>c
def ARW(fn:Func):cw:=match fn.body with
 |some c=>c
 |none=>.skip
end Go.Pg
namespace Go.Pg
variable {P:ck}{E:XE}{st:XS}{fr:Fr}{s:St}
@[simp] theorem A21(r:Option XS):T7 P E [] r=r:=rfl
@[simp] theorem AVQ(i:KD)(l:List KD)(r:Option XS):T7 P E (i::l) r=T7 P E l (opO P E i r):=rfl
@[simp] theorem A22(i:KD):opO P E i (some st)=opI P E i st:=rfl
def gI(P:ck)(E:XE)(d:Option Tmp)(k:IK)(st:XS)(w:Bool)(r:Option (Bool×V)):Option XS:=match r with
 |some (c,.bool b)=>Bool.rec (some (IZ d st)) (CX P E d k st) (c&&(b==w))
 |_=>none
@[simp] theorem A23(d:Option Tmp)(k:IK):opI P E ⟨none,d,k⟩ st=CX P E d k st:=rfl
@[simp] theorem AVR(t:Tmp)(w:Bool)(d:Option Tmp)(k:IK):opI P E ⟨some (t,w),d,k⟩ st=gI P E d k st w (BL st.fr t):=by
 show(match(match BL st.fr t with | some (c,.bool b)=>some (c&&(b == w)) | _=>none:Option Bool)with
  |some true=>CX P E d k st
  |some false=>some (IZ d st)
  | none=>none)=_
 unfold gI;cases BL st.fr t with
 |none=>rfl
 |some p=>
  obtain⟨c,v⟩:=p
  cases v with
  |bool b=>cases h:(c&&(b==w))<;>simp[h]
  |_=>rfl
@[simp] theorem BE8(d:Option Tmp)(k:IK):gI P E d k st true (some (true,.bool true))=CX P E d k st:=rfl
@[simp] theorem BE9(d:Option Tmp)(k:IK):gI P E d k st true (some (true,.bool false))=some (IZ d st):=rfl
@[simp] theorem BFA(d:Option Tmp)(k:IK):gI P E d k st false (some (true,.bool true))=some (IZ d st):=rfl
@[simp] theorem BFB(d:Option Tmp)(k:IK):gI P E d k st false (some (true,.bool false))=CX P E d k st:=rfl
@[simp] theorem BFC(d:Option Tmp)(k:IK)(w b:Bool):gI P E d k st w (some (false,.bool b))=some (IZ d st):=rfl
@[simp] theorem A24(d:Tmp)(c:Nat)(fr:Fr)(s:St):IZ (some d) ⟨c,fr,s⟩=⟨c,(d,false,.bool false)::fr,s⟩:=rfl
@[simp] theorem A25(k:Nat):BL [] k=none:=rfl
@[simp] theorem AVS(j:Nat)(x:Bool×V)(fr:Fr)(k:Nat):BL ((j,x)::fr) k=if k=j then some x else BL fr k:=by rw[GH,GH];rfl
@[simp] theorem ARX(j:Nat)(x:Nat×AV)(L:AA)(k:Nat):AA.get ((j,x)::L) k=if k=j then some x else L.get k:=rfl
def rdT:Option (Bool×V)->Option V
 |some (true,v)=>some v
 |_=>none
@[simp] theorem AF3(v:V):rdT (some (true,v))=some v:=rfl
@[simp] theorem AVT(v:V):rdT (some (false,v))=none:=rfl
@[simp] theorem A67(t:Tmp):CK fr (.tmp t)=rdT (BL fr t):=by
 show(match BL fr t with
  |some (true,v)=>some v
  | _=>none)=_
 cases BL fr t with
 |none=>rfl
 |some p=>obtain⟨c,v⟩:=p;cases c<;>rfl
@[simp] theorem AVU(v:Value):CK fr (.const v)=CN v:=rfl
@[simp] theorem A27(f:cx):CK fr (.func f)=some (.fn f [] []):=rfl
@[simp] theorem A68(t:Tmp):rdC fr (.tmp t)=BL fr t:=rfl
@[simp] theorem A28(b:Bool):rdC fr (.const (.bool b))=some (true,.bool b):=rfl
@[simp] theorem ARY(k:cz)(n:Int):CN (.int k n)=some (.int k n):=rfl
@[simp] theorem ANB(b:Bool):CN (.bool b)=some (.bool b):=rfl
@[simp] theorem ARZ:CN (.slice none 0 0)=some .nil:=rfl
@[simp] theorem AVV(d:Tmp)(c:Nat)(fr:Fr)(s:St)(v:V):EV (some d) ⟨c,fr,s⟩ (some v)=some ⟨c,(d,true,v)::fr,s⟩:=rfl
section
variable (d:Option Tmp)(c:Nat)
@[simp] theorem A29(x:cj):CX P E d (.mv x) ⟨c,fr,s⟩=EV d ⟨c,fr,s⟩ (CK fr x):=rfl
def AR0(P:ck)(op:BinOp)(T:bp):Option V->Option V->Option V
 |some a,some b=>HC P op T a b
 |_,_=>none
@[simp] theorem AVW(op:BinOp)(T:bp)(a b:V):AR0 P op T (some a) (some b)=HC P op T a b:=rfl
@[simp] theorem AVX(op:BinOp)(T:bp)(x y:cj):CX P E d (.bin op T x y) ⟨c,fr,s⟩=EV d ⟨c,fr,s⟩ (AR0 P op T (CK fr x) (CK fr y)):=by show EV d _ (yM P fr op T x y)=_;unfold yM AR0;cases CK fr x<;>cases CK fr y<;>rfl
def fa1(P:ck)(T:bp)(f:Nat):Option V->Option V
 |some p=>C5 P T p f
 |none=>none
@[simp] theorem A3A(T:bp)(f:Nat)(p:V):fa1 P T f (some p)=C5 P T p f:=rfl
@[simp] theorem A3B(T:bp)(x:cj)(f:Nat):CX P E d (.fa T x f) ⟨c,fr,s⟩=EV d ⟨c,fr,s⟩ (fa1 P T f (CK fr x)):=by show EV d _ (xFA P fr T x f)=_;unfold xFA fa1;cases CK fr x<;>rfl
def wh1(P:ck)(T:bp):Option (List V)->Option V
 |some cs=>BF P T cs
 |none=>none
@[simp] theorem A3C(T:bp)(cs:List V):wh1 P T (some cs)=BF P T cs:=rfl
def ld1(P:ck)(s:St)(T:bp):Option V->Option V
 |some p=>wh1 P T (A4 s p)
 |none=>none
@[simp] theorem AF4(T:bp)(p:V):ld1 P s T (some p)=wh1 P T (A4 s p):=rfl
@[simp] theorem A3D(T:bp)(x:cj):CX P E d (.ld T x) ⟨c,fr,s⟩=EV d ⟨c,fr,s⟩ (ld1 P s T (CK fr x)):=by
 show EV d _ (NB P fr s T x)=_;unfold NB ld1;cases CK fr x with
 |none=>rfl
 |some p=>unfold wh1;cases A4 s p<;>rfl
def pk3:Option V->Option (Bool×V)->Option (Bool×V)->Option V
 |some (.bool c),some (ca,.bool a),some (cb,.bool b)=>Bool.rec (Bool.rec none (some (.bool b)) cb) (Bool.rec none (some (.bool a)) ca) c
 |_,_,_=>none
@[simp] theorem A3E(a cb b:Bool):pk3 (some (.bool true)) (some (true,.bool a)) (some (cb,.bool b))=some (.bool a):=rfl
@[simp] theorem AVY(ca a b:Bool):pk3 (some (.bool false)) (some (ca,.bool a)) (some (true,.bool b))=some (.bool b):=rfl
@[simp] theorem A3F(c a b:Bool):pk3 (some (.bool c)) (some (true,.bool a)) (some (true,.bool b))=some (.bool (if c then a else b)):=by cases c<;>rfl
@[simp] theorem AR1(x y z:cj):CX P E d (.pick x y z) ⟨c,fr,s⟩=EV d ⟨c,fr,s⟩ (pk3 (CK fr x) (rdC fr y) (rdC fr z)):=rfl
def ba2:Option V->Nat->Option (List (Nat×V))->Option (List (Nat×V))
 |some v,i,some l=>some ((i,v)::l)
 |_,_,_=>none
@[simp] theorem A3G(v:V)(i:Nat)(l:List (Nat×V)):ba2 (some v) i (some l)=some ((i,v)::l):=rfl
@[simp] theorem AR2(r:cj->Option V):C9 r []=some []:=rfl
@[simp] theorem ANC(r:cj->Option V)(i:Nat)(x:cj)(l:List (Nat×cj)):C9 r ((i,x)::l)=ba2 (r x) i (C9 r l):=by simp only[C9];unfold ba2;cases r x<;>cases C9 r l<;>rfl
def bd1(P:ck)(T:bp):Option (List (Nat×V))->Option V
 |some l=>CT P T l
 |none=>none
@[simp] theorem A3H(T:bp)(l:List (Nat×V)):bd1 P T (some l)=CT P T l:=rfl
@[simp] theorem AND(T:bp)(ps:List (Nat×cj)):CX P E d (.build T ps) ⟨c,fr,s⟩=EV d ⟨c,fr,s⟩ (bd1 P T (C9 (CK fr) ps)):=by show EV d _ (VD P fr T ps)=_;unfold VD bd1;cases C9 (CK fr) ps<;>rfl
def bs1(P:ck)(T:bp)(n:Nat):Option (List (Nat×V))->Option V
 |some l=>CD P T n l
 |none=>none
@[simp] theorem A3I(T:bp)(n:Nat)(l:List (Nat×V)):bs1 P T n (some l)=CD P T n l:=rfl
@[simp] theorem AKT(T:bp)(n:Nat)(ps:List (Nat×cj)):CX P E d (.buildS T n ps) ⟨c,fr,s⟩=EV d ⟨c,fr,s⟩ (bs1 P T n (C9 (CK fr) ps)):=by show EV d _ (PF P fr T n ps)=_;unfold PF bs1;cases C9 (CK fr) ps<;>rfl
@[simp] theorem AVZ(op:Op):CX P E d (.oth op) ⟨c,fr,s⟩=EV d ⟨c,fr,s⟩ (JH P (oI op) s (CK fr)):=rfl
def al1(d:Tmp)(c:Nat)(fr:Fr)(s:St):Option (List V)->Option XS
 |some cs=>some ⟨c+1,(d,true,.ptr s.up.length d c 0)::fr,s.put s.up.length d c (.box cs)⟩
 |none=>none
@[simp] theorem A3J(d:Tmp)(cs:List V):al1 d c fr s (some cs)=some ⟨c+1,(d,true,.ptr s.up.length d c 0)::fr,s.put s.up.length d c (.box cs)⟩:=rfl
@[simp] theorem ANE(d:Tmp)(T:bp):CX P E (some d) (.alloc T) ⟨c,fr,s⟩=al1 d c fr s (CA P T):=by show OM P (some d) T _=_;unfold OM al1;cases CA P T<;>rfl
def bx1(d:Tmp)(c:Nat)(fr:Fr)(s:St):Option V->Option XS
 |some v=>Bool.rec none (some ⟨c+1,(d,true,.ptr s.up.length d c 0)::fr,s.put s.up.length d c (.box (A7 v))⟩) (A9 v)
 |none=>none
@[simp] theorem A7C(d:Tmp)(k:cz)(n:Int):bx1 d c fr s (some (.int k n))=some ⟨c+1,(d,true,.ptr s.up.length d c 0)::fr,s.put s.up.length d c (.box [.int k n])⟩:=rfl
@[simp] theorem A7D(d:Tmp)(cs:List V):bx1 d c fr s (some (.agg cs))=some ⟨c+1,(d,true,.ptr s.up.length d c 0)::fr,s.put s.up.length d c (.box cs)⟩:=rfl
@[simp] theorem A3K(d:Tmp)(b:Bool)(es:List (List V)):bx1 d c fr s (some (.list b es))=some ⟨c+1,(d,true,.ptr s.up.length d c 0)::fr,s.put s.up.length d c (.box [.list b es])⟩:=rfl
@[simp] theorem A7E(d:Tmp):bx1 d c fr s (some .nil)=some ⟨c+1,(d,true,.ptr s.up.length d c 0)::fr,s.put s.up.length d c (.box [.nil])⟩:=rfl
@[simp] theorem A7F(d:Tmp)(l k g n:Nat):bx1 d c fr s (some (.vec l k g n))=some ⟨c+1,(d,true,.ptr s.up.length d c 0)::fr,s.put s.up.length d c (.box [.vec l k g n])⟩:=rfl
@[simp] theorem AV0(d:Tmp)(x:cj):CX P E (some d) (.box x) ⟨c,fr,s⟩=bx1 d c fr s (CK fr x):=by show lX (some d) x _=_;unfold lX bx1;cases CK fr x<;>rfl
def st3(γ:Nat)(P:ck)(T:bp)(c:Nat)(fr:Fr)(s:St)(l q off:Nat)(v:V):Option (Nat×AV)->Option XS
 |some (γ',.box cs)=>if γ'=γ/\A9 v=true/\0<P.cellsOf T/\(A7 v).length=P.cellsOf T/\off+P.cellsOf T<=cs.length/\γ<c then some ⟨c,fr,s.put l q γ (.box (AZ cs off (A7 v)))⟩ else none
 |_=>none
def st4(γ:Nat)(P:ck)(T:bp)(c:Nat)(fr:Fr)(s:St)(l q i off:Nat)(v:V):Option (Nat×AV)->Option XS
 |some (γ',.vec U es)=>if γ'=γ/\A9 v=true/\0<P.cellsOf T/\(A7 v).length=P.cellsOf T/\i<es.length/\off+P.cellsOf T<=(es.getD i []).length/\γ<c then some ⟨c,fr,s.put l q γ (.vec U (es.set i (AZ (es.getD i []) off (A7 v))))⟩ else none
 |_=>none
def G6(P:ck)(T:bp)(c:Nat)(fr:Fr)(s:St):Option V->Option V->Option XS
 |some (.ptr l q γ off),some v=>st3 γ P T c fr s l q off v (s.get l q)
 |some (.eptr l q γ i off),some v=>st4 γ P T c fr s l q i off v (s.get l q)
 |_,_=>none
@[simp] theorem AKU(T:bp)(l q γ off:Nat)(v:V):G6 P T c fr s (some (.ptr l q γ off)) (some v)=st3 γ P T c fr s l q off v (s.get l q):=rfl
@[simp] theorem AF5(T:bp)(l q γ i off:Nat)(v:V):G6 P T c fr s (some (.eptr l q γ i off)) (some v)=st4 γ P T c fr s l q i off v (s.get l q):=rfl
@[simp] theorem AKV(γ γ':Nat)(T:bp)(l q off:Nat)(v:V)(cs:List V):st3 γ P T c fr s l q off v (some (γ',.box cs))=if γ'=γ/\A9 v=true/\0<P.cellsOf T/\(A7 v).length=P.cellsOf T/\off+P.cellsOf T<=cs.length/\γ<c then some ⟨c,fr,s.put l q γ (.box (AZ cs off (A7 v)))⟩ else none:=rfl
@[simp] theorem AKW(γ γ':Nat)(T:bp)(l q i off:Nat)(v:V)(U:bp)(es:List (List V)):st4 γ P T c fr s l q i off v (some (γ',.vec U es))=if γ'=γ/\A9 v=true/\0<P.cellsOf T/\(A7 v).length=P.cellsOf T/\i<es.length/\off+P.cellsOf T<=(es.getD i []).length/\γ<c then some ⟨c,fr,s.put l q γ (.vec U (es.set i (AZ (es.getD i []) off (A7 v))))⟩ else none:=rfl
theorem AKX(T:bp)(x y:cj):I7 P none T x y ⟨c,fr,s⟩=G6 P T c fr s (CK fr x) (CK fr y):=by
 unfold I7;simp only;cases CK fr x with
 |none=>rfl
 |some p=>
  cases CK fr y with
  |none=>cases p<;>rfl
  |some v=>
   cases p with
   |ptr l q γ off=>
    simp only[AKU]
    cases s.get l q with
    |none=>rfl
    |some z=>
     obtain⟨γ',r⟩:=z
     cases r with
     |box cs=>
      simp only[AKV,bj,bf,Nat.ble_eq,bg,and_assoc]
     |_=>rfl
   |eptr l q γ i off=>
    simp only[AF5]
    cases s.get l q with
    |none=>rfl
    |some z=>
     obtain⟨γ',r⟩:=z
     cases r with
     |vec U es=>
      simp only[AKW,bj,bf,Nat.ble_eq,bg,and_assoc]
     |_=>rfl
   |_=>rfl
@[simp] theorem AV1(T:bp)(x y:cj):CX P E none (.sto T x y) ⟨c,fr,s⟩=G6 P T c fr s (CK fr x) (CK fr y):=AKX c T x y
def apW(P:ck)(e:bp)(d c:Nat)(fr:Fr)(s:St)(l q γ n:Nat)(ys:List (List V)):Option (Nat×AV)->Option XS
 |some (γ',.vec W es)=>if γ'=γ/\W=e/\n=es.length/\es.all (fun y=>y.length==P.cellsOf e)=true/\B0 P e es.length ys=true then
   some ⟨c+1,(d,true,.vec l q c (es.length+ys.length))::fr,s.put l q c (.vec e (es++ys))⟩ else none
 |_=>none
@[simp] theorem T9(e:bp)(d:Nat)(l q γ γ' n:Nat)(ys es:List (List V))(W:bp):apW P e d c fr s l q γ n ys (some (γ',.vec W es))=if γ'=γ/\W=e/\n=es.length/\es.all (fun y=>y.length==P.cellsOf e)=true/\B0 P e es.length ys=true then
   some ⟨c+1,(d,true,.vec l q c (es.length+ys.length))::fr,s.put l q c (.vec e (es++ys))⟩ else none:=rfl
def apV(P:ck)(e:bp)(d c:Nat)(fr:Fr)(s:St)(xv:V)(ys:List (List V)):Option XS:=match H7 xv ys with
 |some es=>if es.all (fun y=>y.length==P.cellsOf e)=true/\B0 P e es.length ys=true then some ⟨c+1,(d,true,.vec s.up.length d c (es.length+ys.length))::fr,s.put s.up.length d c (.vec e (es++ys))⟩ else none
 |none=>match xv with
  |.vec l q γ n=>apW P e d c fr s l q γ n ys (S6 n ys (s.get l q))
  |_=>none
@[simp] theorem nH(n γ:Nat)(ys es:List (List V))(U:bp):S6 n ys (some (γ,.vec U es))=some (γ,.vec U (ZC n ys es)):=rfl
attribute [simp] UY
@[simp] theorem A7G(e:bp)(d:Nat)(ys:List (List V)):apV P e d c fr s .nil ys=if B0 P e 0 ys=true then some ⟨c+1,(d,true,.vec s.up.length d c ys.length)::fr,s.put s.up.length d c (.vec e ys)⟩ else none:=by simp[apV,H7]
@[simp] theorem A7H(e:bp)(d:Nat)(ys:List (List V)):apV P e d c fr s (.list true []) ys=if B0 P e 0 ys=true then some ⟨c+1,(d,true,.vec s.up.length d c ys.length)::fr,s.put s.up.length d c (.vec e ys)⟩ else none:=by simp[apV,H7]
@[simp] theorem AKY(e:bp)(d:Nat)(l q γ n:Nat)(ys:List (List V)):apV P e d c fr s (.vec l q γ n) ys=apW P e d c fr s l q γ n ys (S6 n ys (s.get l q)):=by simp[apV,H7]
def ap3(P:ck)(d c:Nat)(fr:Fr)(s:St):Option (Option Nat×bp)->Option V->Option V->Option XS
 |some (none,e),some xv,some yv=>ap4 e xv (elemsOf s yv)
 |_,_,_=>none
where ap4 (e:bp) (xv:V):Option (List (List V))->Option XS
 |some ys=>apV P e d c fr s xv ys
 |none=>none
@[simp] theorem AF7(d:Nat)(e:bp)(xv yv:V):ap3 P d c fr s (some (none,e)) (some xv) (some yv)=ap3.ap4 P d c fr s e xv (elemsOf s yv):=rfl
@[simp] theorem AF8(d:Nat)(e:bp)(xv:V)(ys:List (List V)):ap3.ap4 P d c fr s e xv (some ys)=apV P e d c fr s xv ys:=rfl
@[simp] theorem AKZ(b:Bool)(es:List (List V)):elemsOf s (.list b es)=some es:=rfl
theorem ifB{α:Type}{b:Bool}{x y:α}:(Bool.rec y x b:α)=if b=true then x else y:=by cases b<;>rfl
theorem zU{k:Nat}{e:bp}(d:Nat)(x y:Option V):ap3 P d c fr s (some (some k,e)) x y=none:=by cases x<;>cases y<;>rfl
@[simp] theorem AV2(d:Tmp)(x y:cj)(T:bp):CX P E (some d) (.app [x,y] [T,T]) ⟨c,fr,s⟩=ap3 P d c fr s (BQ P T) (CK fr x) (CK fr y):=by
 show xAppend P (some d) [x,y] [T,T] _=_;unfold xAppend xAppG;simp only[Nat.beq_refl];cases hT:BQ P T with
 |none=>cases CK fr x<;>cases CK fr y<;>rfl
 |some p=>
  obtain⟨k,e⟩:=p
  cases k with
  |some k=>rw[zU]
  |none=>
   cases CK fr x with
   |none=>rfl
   |some xv=>
    cases CK fr y with
    |none=>rfl
    |some yv=>
     simp only[AF7]
     cases elemsOf s yv with
     |none=>rfl
     |some ys=>
      simp only[AF8,apV]
      cases H7 xv ys with
      |some es=>
       simp only[ifB,bj,bk]
       by_cases hC:es.all (fun y=>y.length==P.cellsOf e)=true/\B0 P e es.length ys=true
       ·rw[if_pos hC,if_pos hC]
       ·rw[if_neg hC,if_neg hC]
      |none=>
       simp only
       unfold mB
       cases xv with
       |vec l q γ n=>
        simp only
        cases S6 n ys (s.get l q)with
        |none=>rfl
        |some z=>
         obtain⟨γ',r⟩:=z
         cases r with
         |vec W es=>
          simp only[ifB,bj,bk,T9,bg,and_assoc]
          by_cases hC:γ'=γ/\W=e/\n=es.length/\es.all (fun y=>y.length==P.cellsOf e)=true/\B0 P e es.length ys=true
          ·rw[if_pos hC,if_pos hC]
          ·rw[if_neg hC,if_neg hC]
         |_=>rfl
       |_=>rfl
def mc2:Option V->Option (List V)->Option (List V)
 |some v,some l=>some (v::l)
 |_,_=>none
@[simp] theorem A3O(v:V)(l:List V):mc2 (some v) (some l)=some (v::l):=rfl
@[simp] theorem A3P(f:cj->Option V):FQ f []=some []:=rfl
@[simp] theorem AV3(f:cj->Option V)(x:cj)(l:List cj):FQ f (x::l)=mc2 (f x) (FQ f l):=by
 simp only[FQ];cases f x with
 |none=>rfl
 |some v=>cases FQ f l<;>rfl
def G7(E:XE)(d:Option Tmp)(st:XS)(f:cx)(args:List V):Option XS:=match E.cf f args st with
 |some (r,st')=>some ⟨st'.c,putD st'.fr d true r,st'.s⟩
 |none=>none
def ca1(E:XE)(d:Option Tmp)(st:XS):Option V->Option (List V)->Option XS
 |some (.fn f first cap),some vs=>G7 E d st f ((first++vs++cap).map weakV)
 |some (.yld l q γ),some vs=>ca3 (E.cy l q γ vs st)
 |_,_=>none
where ca3:Option (V×XS)->Option XS
 |some (r,st')=>some ⟨st'.c,putD st'.fr d true r,st'.s⟩
 |none=>none
@[simp] theorem AR3(st:XS)(f:cx)(first cap vs:List V):ca1 E d st (some (.fn f first cap)) (some vs)=G7 E d st f ((first++vs++cap).map weakV):=rfl
@[simp] theorem AK0(st:XS)(l q γ:Nat)(vs:List V):ca1 E d st (some (.yld l q γ)) (some vs)=ca1.ca3 d (E.cy l q γ vs st):=rfl
@[simp] theorem A3Q(d:Tmp)(r:V):ca1.ca3 (some d) (some (r,⟨c,fr,s⟩))=some ⟨c,(d,true,r)::fr,s⟩:=rfl
theorem bI(st:XS)(f:cj)(args:List cj):TO E.cf E.cy d f args st=ca1 E d st (CK st.fr f) (FQ (CK st.fr) args):=by
 unfold TO;cases CK st.fr f with
 |none=>rfl
 |some v=>
  cases v with
  |fn f first cap=>
   simp only
   cases FQ (CK st.fr) args with
   |none=>rfl
   |some vs=>simp only[AR3,G7];cases E.cf f ((first++vs++cap).map weakV) st<;>rfl
  |yld l q γ=>
   simp only[qH]
   cases FQ (CK st.fr) args with
   |none=>rfl
   |some vs=>simp only[AK0];cases E.cy l q γ vs st<;>rfl
  |_=>rfl
@[simp] theorem AR4(f:cj)(args:List cj):CX P E d (.call false none f args) ⟨c,fr,s⟩=ca1 E d ⟨c,fr,s⟩ (CK fr f) (FQ (CK fr) args):=bI d ⟨c,fr,s⟩ f args
@[simp] theorem ANH(t:Tmp)(f:cj)(args:List cj):CX P E d (.call false (some t) f args) ⟨c,fr,s⟩=ca1 E d (bG (some t) ⟨c,fr,s⟩) (CK (bG (some t) ⟨c,fr,s⟩).fr f) (FQ (CK (bG (some t) ⟨c,fr,s⟩).fr) args):=bI d _ f args
def orK:Bool->Option V->Option V->Option V
 |true,some r,_=>some r
 |_,_,z=>z
@[simp] theorem A3R(r:V)(z:Option V):orK true (some r) z=some r:=rfl
@[simp] theorem A3S(b:Bool)(z:Option V):orK b z z=z:=by cases b<;>cases z<;>rfl
theorem nI{P:ck}{kn:CF0}{rec:F8}{f:cx}{args:List V}:FI P kn rec f args=orK (args.all (AG 9)) (A3 P kn rec f (args.map weakN)) (A3 P kn rec f args):=by unfold FI orK;cases A3 P kn rec f (args.map weakN)<;>cases args.all (AG 9)<;>rfl
attribute [simp] nI
@[simp] theorem AV4(k:cz)(n:Int):weakN (.int k n)=.int k n:=rfl
@[simp] theorem AR6(b:Bool)(es:List (List V)):weakN (.list b es)=.list b es:=rfl
@[simp] theorem AV5(cs:List V):weakN (.agg cs)=.agg (cs.map weakM):=rfl
@[simp] theorem AV6:weakN .nil=.list false []:=rfl
@[simp] theorem A3T(f:cx)(x y:List V):weakN (.fn f x y)=.fn f x y:=rfl
@[simp] theorem AV7(cs:List V):weakN (.ref cs)=.ref cs:=rfl
@[simp] theorem AV8(k:cz)(n:Int):weakM (.int k n)=.int k n:=rfl
@[simp] theorem AR7(b:Bool):weakM (.bool b)=.bool b:=rfl
@[simp] theorem AR8(b:Bool)(es:List (List V)):weakM (.list b es)=.list b es:=rfl
@[simp] theorem A3U(f:cx)(x y:List V):weakM (.fn f x y)=.fn f x y:=rfl
theorem bJ{A:Ann}{kn:CF0}{n:Nat}{f:cx}{args:List V}(h:args.all (AG 9)=true)(hh:BI P f=false)(st:XS):G7 (BH P A kn n) d st f args=EV d st (orK true (A3 P kn (AF P A kn n) f (args.map weakN)) (A3 P kn (AF P A kn n) f args)):=by
 have e:orK true (A3 P kn (AF P A kn n) f (args.map weakN)) (A3 P kn (AF P A kn n) f args)=FI P kn (AF P A kn n) f args:=by rw[nI,h]
 rw[e];show(match aH P kn (AF P A kn n) f args st with
  |some (r,st')=>some (⟨st'.c,putD st'.fr d true r,st'.s⟩:XS)
  | none=>none)=_
 unfold aH;rw[h,hh];cases FI P kn (AF P A kn n) f args<;>rfl
end
@[simp] theorem A3V(k:cz)(n:Int):weakV (.int k n)=.int k n:=rfl
@[simp] theorem AV9(b:Bool)(es:List (List V)):weakV (.list b es)=.list false es:=rfl
@[simp] theorem A3W(cs:List V):weakV (.agg cs)=.agg (cs.map weakC):=rfl
@[simp] theorem AWA(k:cz)(n:Int):weakC (.int k n)=.int k n:=rfl
@[simp] theorem AR9(b:Bool):weakC (.bool b)=.bool b:=rfl
@[simp] theorem ASA(b:Bool)(es:List (List V)):weakC (.list b es)=.list false es:=rfl
@[simp] theorem A3X:weakV .nil=.nil:=rfl
@[simp] theorem A7I(f:cx)(x y:List V):weakV (.fn f x y)=.fn f x y:=rfl
@[simp] theorem ASB(f:Nat)(k:cz)(n:Int):AG (f+1) (.int k n)=true:=rfl
@[simp] theorem ANI(f:Nat)(b:Bool):AG (f+1) (.bool b)=true:=rfl
@[simp] theorem ASC(f:Nat):AG (f+1) .nil=true:=rfl
@[simp] theorem ASD(f:Nat)(cs:List V):AG (f+1) (.agg cs)=cs.all (AG f):=rfl
@[simp] theorem ASE(f:Nat)(cs:List V):AG (f+1) (.tup cs)=cs.all (AG f):=rfl
@[simp] theorem ASF(f:Nat)(cs:List V):AG (f+1) (.ref cs)=cs.all (AG f):=rfl
@[simp] theorem ANJ(f:Nat)(b:Bool)(es:List (List V)):AG (f+1) (.list b es)=es.all fun e=>e.all (AG f):=rfl
@[simp] theorem AWB(f:Nat)(g:cx)(x y:List V):AG (f+1) (.fn g x y)=(x.all (AG f)&&y.all (AG f)):=rfl
section
variable (r:cj->Option V)
def o1(f:V->Option V):Option V->Option V
 |some v=>f v
 |none=>none
@[simp] theorem A7J(f:V->Option V)(v:V):o1 f (some v)=f v:=rfl
def o2(f:V->V->Option V):Option V->Option V->Option V
 |some a,some b=>f a b
 |_,_=>none
@[simp] theorem A7K(f:V->V->Option V)(a b:V):o2 f (some a) (some b)=f a b:=rfl
theorem UA(f:V->Option V)(x:Option V):x.bind f=o1 f x:=by cases x<;>rfl
theorem iQ(f:V->V->Option V)(x y:Option V):(x.bind fun a=>y.bind fun b=>f a b)=o2 f x y:=by cases x<;>cases y<;>rfl
@[simp] theorem BB8(op:UnOp)(T:bp)(x:cj):JH P (oI (.unOp op T x)) s r=o1 (fZ op) (r x):=UA _ _
@[simp] theorem A3Y(T U:bp)(x:cj):JH P (oI (.convert T U x)) s r=o1 (MD P T U) (r x):=UA _ _
@[simp] theorem A3Z(T:bp)(x i:cj):JH P (oI (.indexAddr T x i)) s r=o2 (BK P s T) (r x) (r i):=iQ _ _ _
@[simp] theorem AWC(T:bp)(x:cj)(f:Nat):JH P (oI (.field T x f)) s r=o1 (fun a=>ID P T a f) (r x):=UA _ _
@[simp] theorem A7L(x:cj)(i:Nat):JH P (oI (.extract x i)) s r=o1 (fun a=>FL a i) (r x):=UA _ _
@[simp] theorem A7M(x:cj)(T:bp):JH P (oI (.call ⟨.builtin .len,#[x],#[T]⟩)) s r=o1 (H0 P T) (r x):=UA _ _
end
@[simp] theorem A30(b:Bool):fZ .not (.bool b)=some (.bool !b):=rfl
@[simp] theorem AG2(vs:List V)(i:Nat):FL (.tup vs) i=vs[i]?:=rfl
@[simp] theorem BB9(up:List AA)(loc:AA)(l k g:Nat)(r:AV):St.put ⟨up,loc⟩ l k g r=if l=up.length then⟨up,(k,g,r)::loc⟩ else⟨up.modify l fun L=>L.put k g r,loc⟩:=rfl
def upG(k:Nat):Option AA->Option (Nat×AV)
 |some L=>L.get k
 |none=>none
@[simp] theorem A31(k:Nat)(L:AA):upG k (some L)=L.get k:=rfl
@[simp] theorem AF9(up:List AA)(loc:AA)(l k:Nat):St.get ⟨up,loc⟩ l k=if l=up.length then loc.get k else upG k up[l]?:=rfl
def kx(k:Nat)(r:Fr):Option (Bool×V)->Fr
 |some (c,v)=>(k,c,v)::r
 |none=>r
@[simp] theorem A7N(k:Nat)(r:Fr)(c:Bool)(v:V):kx k r (some (c,v))=(k,c,v)::r:=rfl
@[simp] theorem A7O(k:Nat)(r:Fr):kx k r none=r:=rfl
@[simp] theorem AWD:QC [] fr=[]:=rfl
@[simp] theorem ASG(k:Nat)(ks:List Nat):QC (k::ks) fr=kx k (QC ks fr) (BL fr k):=by show(match BL fr k with|some (c,v)=>(k,c,v)::QC ks fr|none=>QC ks fr)=_;cases BL fr k<;>rfl
def kl(k:Nat)(r:AA):Option (Nat×AV)->AA
 |some (g,x)=>(k,g,x)::r
 |none=>r
@[simp] theorem A7P(k:Nat)(r:AA)(g:Nat)(x:AV):kl k r (some (g,x))=(k,g,x)::r:=rfl
@[simp] theorem A7Q(k:Nat)(r:AA):kl k r none=r:=rfl
@[simp] theorem AWE(L:AA):IV [] L=[]:=rfl
@[simp] theorem ASH(k:Nat)(ks:List Nat)(L:AA):IV (k::ks) L=kl k (IV ks L) (L.get k):=by unfold kl;simp only[IV];cases L.get k<;>rfl
@[simp] theorem A32(ks ls:List Nat)(c:Nat)(fr:Fr)(up:List AA)(loc:AA):CL (some (ks,ls)) ⟨c,fr,⟨up,loc⟩⟩=⟨c,QC ks fr,⟨up,IV ls loc⟩⟩:=rfl
@[simp] theorem BCA:TS (some st)=some (.normal,st):=rfl
@[simp] theorem A33(l:List KD):J9 P E (.str l) st=T7 P E l (some st):=rfl
@[simp] theorem A34(S:List rT):J9 P E (.drw S) st=cW P E S (some st):=rfl
@[simp] theorem A35(ks:List (Nat×Nat×Nat)):J9 P E (.cls ks) st=Q6 P ks (some st):=rfl
@[simp] theorem A36(o:Option XS):Q6 P [] o=o:=rfl
@[simp] theorem AWF(T a d:Nat)(r:List (Nat×Nat×Nat))(st:XS):Q6 P ((T,a,d)::r) (some st)=Q6 P r (if rH (CK st.fr (.tmp a))=true then EV (some d) st (NB P st.fr st.s T (.tmp a)) else none):=by
 show Q6 P r (Bool.rec _ _ (rH (CK st.fr (.tmp a))))=_;cases rH (CK st.fr (.tmp a))with
 |false=>rfl
 |true=>
  simp only[if_true]
  congr 1
@[simp] theorem A37(l k g o:Nat):rH (some (.ptr l k g o))=true:=rfl
@[simp] theorem A38(rs:List ResultVar):rY P rs (some (.ret,st))=rY.finV st.s (FM P rs st.fr st.s):=rfl
def ASI:Option V->Option V
 |some r=>if AG 9 r=true then some r else none
 |none=>none
@[simp] theorem AWG(r:V):ASI (some r)=if AG 9 r=true then some r else none:=rfl
@[simp] theorem AWH(v:V):rY.finV s (some v)=ASI (AY s 4 v):=by
 unfold rY.finV ASI;simp only;cases AY s 4 v with
 |none=>rfl
 |some r=>simp only[ifB]
@[simp] theorem ASJ(t:Tmp):CP P fr s (.tmp t)=rdT (BL fr t):=by
 rw[GH];show(match fr.get t with
  |some (true,v)=>some v
  | _=>none)=_
 cases fr.get t with
 |none=>rfl
 |some p=>obtain⟨c,v⟩:=p;cases c<;>rfl
@[simp] theorem A39(x:ResultVar):FM P [x] fr s=CP P fr s x:=by unfold FM;simp only[bz,bh];cases CP P fr s x<;>rfl
def re2:Option V->Option V->Option V
 |some a,some b=>some (.tup [a,b])
 |_,_=>none
@[simp] theorem A4A(a b:V):re2 (some a) (some b)=some (.tup [a,b]):=rfl
@[simp] theorem A4B(x y:ResultVar):FM P [x,y] fr s=re2 (CP P fr s x) (CP P fr s y):=by unfold FM;simp only[bz,bh];cases CP P fr s x<;>cases CP P fr s y<;>rfl
def re3:Option V->Option V->Option V->Option V
 |some a,some b,some c=>some (.tup [a,b,c])
 |_,_,_=>none
@[simp] theorem A4C(a b c:V):re3 (some a) (some b) (some c)=some (.tup [a,b,c]):=rfl
@[simp] theorem ASK(x y z:ResultVar):FM P [x,y,z] fr s=re3 (CP P fr s x) (CP P fr s y) (CP P fr s z):=by unfold FM;simp only[bz,bh];cases CP P fr s x<;>cases CP P fr s y<;>cases CP P fr s z<;>rfl
@[simp] theorem ASL(f:Nat)(k:cz)(n:Int):AY s (f+1) (.int k n)=some (.int k n):=rfl
@[simp] theorem ANK(f:Nat)(b:Bool):AY s (f+1) (.bool b)=some (.bool b):=rfl
@[simp] theorem ASM(f:Nat):AY s (f+1) .nil=some .nil:=rfl
@[simp] theorem ANL(f:Nat)(b:Bool)(es:List (List V)):AY s (f+1) (.list b es)=some (.list false es):=rfl
def nJ(mk:List V->V):Option (List V)->Option V
 |some l=>some (mk l)
 |none=>none
@[simp] theorem A4D(mk:List V->V)(l:List V):nJ mk (some l)=some (mk l):=rfl
def P2(f:V->Option V):List V->Option (List V)
 |[]=>some []
 |v::l=>mc2 (f v) (P2 f l)
theorem UB(f:V->Option V):∀(l:List V),l.mapM f=P2 f l
 |[]=>rfl
 |v::l=>by simp only[bz,P2,UB f l];cases f v<;>cases P2 f l<;>rfl
@[simp] theorem A4E(f:V->Option V):P2 f []=some []:=rfl
@[simp] theorem AWI(f:V->Option V)(v:V)(l:List V):P2 f (v::l)=mc2 (f v) (P2 f l):=rfl
@[simp] theorem ASN(f:Nat)(cs:List V):AY s (f+1) (.agg cs)=nJ .agg (P2 (AY s f) cs):=by simp only[AY,UB];cases P2 (AY s f) cs<;>rfl
@[simp] theorem ASO(f:Nat)(cs:List V):AY s (f+1) (.tup cs)=nJ .tup (P2 (AY s f) cs):=by simp only[AY,UB];cases P2 (AY s f) cs<;>rfl
def cv1(g m:Nat):Option (Nat×AV)->Option V
 |some (g',.vec _ es)=>if g'=g/\m<=es.length then some (.list false (es.take m)) else none
 |_=>none
@[simp] theorem AGA(g m g':Nat)(T:bp)(es:List (List V)):cv1 g m (some (g',.vec T es))=if g'=g/\m<=es.length then some (.list false (es.take m)) else none:=rfl
@[simp] theorem bK(f:Nat)(up:List AA)(loc:AA)(l k g m:Nat):AY ⟨up,loc⟩ (f+1) (.vec l k g m)=if l=up.length then cv1 g m (loc.get k) else some (.vec l k g m):=by
 simp only[AY];split
 ·cases loc.get k with
  |none=>rfl
  |some z=>obtain⟨g',r⟩:=z;cases r<;>rfl
 ·rfl
@[simp] theorem ANM(t:Nat)(T:bp):CP P fr s (.cell t T)=ld1 P s T (rdT (BL fr t)):=by
 rw[GH];show(match fr.get t with
  |some (true,p)=>(A4 s p).bind (BF P T)
  | _=>none)=_
 cases fr.get t with
 |none=>rfl
 |some p=>
  obtain⟨c,v⟩:=p
  cases c with
  |false=>rfl
  |true=>
   simp only[AF3,AF4]
   cases A4 s v<;>rfl
section
variable (d:Option Tmp)(c:Nat)
@[simp] theorem A4F(r:Option XS):cW P E [] r=r:=rfl
@[simp] theorem AWJ(p:rT)(S:List rT)(r:Option XS):cW P E (p::S) r=cW P E S (T7 P E p.sq (rS (cV P E p.ph (AFT p.new r)))):=rfl
@[simp] theorem A4G(r:Option (XS×AJ×AJ)):cV P E [] r=r:=rfl
@[simp] theorem AWK(i:KD)(l:List KD)(r:Option (XS×AJ×AJ)):cV P E (i::l) r=cV P E l (AKO P E i r):=rfl
@[simp] theorem A7R(new:List Tmp)(up:List AA)(loc:AA):AFT new (some ⟨c,fr,⟨up,loc⟩⟩)=if (new.all fun d=>(loc.get d).isNone)=true then some (⟨c,fr,⟨up,loc⟩⟩,[],[]) else none:=by show(Bool.rec none _ _:Option _)=_;rw[ifB];rfl
@[simp] theorem AWL(rd wr:AJ):rS (some (st,rd,wr))=if (wr.all fun p=>!(rd.contains p))=true then some st else none:=by show(Bool.rec none _ _:Option _)=_;rw[ifB]
def ph3(rds rd wr:AJ):Option (XS×AJ)->Option (XS×AJ×AJ)
 |some (st,w)=>some (st,rds++rd,w++wr)
 |none=>none
@[simp] theorem A4H(rds rd wr w:AJ):ph3 rds rd wr (some (st,w))=some (st,rds++rd,w++wr):=rfl
@[simp] theorem AWM(i:KD)(rd wr:AJ):AKO P E i (some (st,rd,wr))=ph3 (HX P i.k (CK st.fr)) rd wr (VP P E i st):=by show(match VP P E i st with|some (st',w)=>some (st',HX P i.k (CK st.fr)++rd,w++wr)|none=>none)=_;cases VP P E i st<;>rfl
@[simp] theorem AWN(k:IK):VP P E ⟨none,d,k⟩ st=DG P E d k st:=rfl
def gI0(P:ck)(E:XE)(d:Option Tmp)(k:IK)(st:XS)(w:Bool)(r:Option (Bool×V)):Option (XS×AJ):=match r with
 |some (c,.bool b)=>if (c&&(b==w))=true then DG P E d k st else if plK k=true then none else some (IZ d st,[])
 |_=>none
@[simp] theorem ASP(t:Tmp)(w:Bool)(k:IK):VP P E ⟨some (t,w),d,k⟩ st=gI0 P E d k st w (BL st.fr t):=by
 show(match(match BL st.fr t with | some (c,.bool b)=>some (c&&(b == w)) | _=>none:Option Bool)with
  |some true=>DG P E d k st
  |some false=>Bool.rec (some (IZ d st,[])) none (plK k)
  | none=>none)=_
 unfold gI0;cases BL st.fr t with
 |none=>rfl
 |some p=>
  obtain⟨c,v⟩:=p
  cases v with
  |bool b=>cases h:(c&&(b==w))<;>simp[h,ifB]
  |_=>rfl
@[simp] theorem A4I(k:IK)(w c b:Bool):gI0 P E d k st w (some (c,.bool b))=if (c&&(b==w))=true then DG P E d k st else if plK k=true then none else some (IZ d st,[]):=rfl
@[simp] theorem BCC(T:bp)(x:cj)(f:cj->Option V):HX P (.ld T x) f=B8 (bx (P.cellsOf T) 1) (f x):=rfl
@[simp] theorem ASQ(x y:cj)(f:cj->Option V):J5 f [x,y]=I8 (f y):=rfl
@[simp] theorem AK1(b:Bool)(es:List (List V)):I8 (some (.list b es))=[]:=rfl
@[simp] theorem BCD(x:cj)(f:cj->Option V):HX P (.mv x) f=[]:=rfl
@[simp] theorem A7S(op:BinOp)(T:bp)(x y:cj)(f:cj->Option V):HX P (.bin op T x y) f=[]:=rfl
@[simp] theorem BCE(T:bp)(x:cj)(i:Nat)(f:cj->Option V):HX P (.fa T x i) f=[]:=rfl
@[simp] theorem A4J(x y z:cj)(f:cj->Option V):HX P (.pick x y z) f=[]:=rfl
@[simp] theorem AWO(T:bp)(ps:List (Nat×cj))(f:cj->Option V):HX P (.build T ps) f=[]:=rfl
@[simp] theorem ASR(T:bp)(n:Nat)(ps:List (Nat×cj))(f:cj->Option V):HX P (.buildS T n ps) f=[]:=rfl
@[simp] theorem AWP(T:bp)(f:cj->Option V):HX P (.alloc T) f=[]:=rfl
@[simp] theorem A7T(x:cj)(f:cj->Option V):HX P (.box x) f=[]:=rfl
@[simp] theorem A7U(T:bp)(x y:cj)(f:cj->Option V):HX P (.sto T x y) f=[]:=rfl
@[simp] theorem A7V(x:List cj)(y:List bp)(f:cj->Option V):HX P (.app x y) f=J5 f x:=rfl
@[simp] theorem A4K(b:Bool)(t:Option Tmp)(g:cj)(x:List cj)(f:cj->Option V):HX P (.call b t g x) f=[]:=rfl
@[simp] theorem A4L(T:bp)(x i:cj)(f:cj->Option V):HX P (.oth (.indexAddr T x i)) f=MV (f x):=rfl
@[simp] theorem BCF(op:UnOp)(T:bp)(x:cj)(f:cj->Option V):HX P (.oth (.unOp op T x)) f=[]:=rfl
@[simp] theorem A7W(x:cj)(i:Nat)(f:cj->Option V):HX P (.oth (.extract x i)) f=[]:=rfl
@[simp] theorem A7X(x:cj)(T:bp)(b:Builtin)(f:cj->Option V):HX P (.oth (.call ⟨.builtin b,#[x],#[T]⟩)) f=[]:=by cases b<;>rfl
@[simp] theorem BCG(g:Fn)(x y:Array cj)(f:cj->Option V):HX P (.oth (.makeFunc g x y)) f=[]:=rfl
def nw:Option XS->Option (XS×AJ)
 |some st=>some (st,[])
 |none=>none
@[simp] theorem A7Y:nw (some st)=some (st,[]):=rfl
theorem GP(r:Option XS):TP r=nw r:=by cases r<;>rfl
@[simp] theorem A4M(x:cj):DG P E d (.mv x) st=nw (CX P E d (.mv x) st):=GP _
@[simp] theorem AWQ(op:BinOp)(T:bp)(x y:cj):DG P E d (.bin op T x y) st=nw (CX P E d (.bin op T x y) st):=GP _
@[simp] theorem A4N(T:bp)(x:cj)(f:Nat):DG P E d (.fa T x f) st=nw (CX P E d (.fa T x f) st):=GP _
@[simp] theorem AWR(T:bp)(x:cj):DG P E d (.ldz T x) st=DG P E d (.ld T x) st:=rfl
@[simp] theorem A7Z(T:bp)(x:cj)(f:cj->Option V):HX P (.ldz T x) f=[]:=rfl
@[simp] theorem A4O(T:bp)(x:cj):DG P E d (.ld T x) st=nw (CX P E d (.ld T x) st):=GP _
@[simp] theorem ASS(x y z:cj):DG P E d (.pick x y z) st=nw (CX P E d (.pick x y z) st):=GP _
@[simp] theorem ANN(T:bp)(ps:List (Nat×cj)):DG P E d (.build T ps) st=nw (CX P E d (.build T ps) st):=GP _
@[simp] theorem AK2(T:bp)(n:Nat)(ps:List (Nat×cj)):DG P E d (.buildS T n ps) st=nw (CX P E d (.buildS T n ps) st):=GP _
@[simp] theorem AWS(op:Op):DG P E d (.oth op) st=nw (CX P E d (.oth op) st):=GP _
@[simp] theorem ANO(T:bp):DG P E d (.alloc T) st=nw (CX P E d (.alloc T) st):=GP _
@[simp] theorem AWT(x:cj):DG P E d (.box x) st=nw (CX P E d (.box x) st):=GP _
@[simp] theorem AWU(x:Option cj):DG P E d (.mkM x) st=nw (CX P E d (.mkM x) st):=GP _
@[simp] theorem AWV(T:bp)(x y:cj):DG P E d (.mkS T x y) st=nw (CX P E d (.mkS T x y) st):=GP _
def wp(p:AJ):Option XS->Option (XS×AJ)
 |some st=>some (st,p)
 |none=>none
@[simp] theorem A70(p:AJ):wp p (some st)=some (st,p):=rfl
@[simp] theorem AWW(T:bp)(x y:cj):DG P E d (.sto T x y) st=wp (DF (bx (P.cellsOf T) 1) (CK st.fr x)) (CX P E d (.sto T x y) st):=by show(match I7 P d T x y st with|some st'=>some (st',DF (bx (P.cellsOf T) 1) (CK st.fr x))|none=>none)=wp _ (I7 P d T x y st);cases I7 P d T x y st<;>rfl
@[simp] theorem AST(l k g o:Nat):B8 true (some (.ptr l k g o))=[(l,k+2000000),(l,k+4000000),(l,6000000+1000*k+o)]:=rfl
@[simp] theorem ANP(l k g i o:Nat):B8 true (some (.eptr l k g i o))=[(l,k+2000000),(l,k+4000000),(l,6000000+1000*k+o)]:=rfl
@[simp] theorem ASU(b:Bool)(cs:List V):B8 b (some (.ref cs))=[]:=by cases b<;>rfl
@[simp] theorem ANQ(l k g i o:Nat):DF true (some (.eptr l k g i o))=[(l,k),(l,6000000+1000*k+o)]:=rfl
@[simp] theorem ASV(l k g n:Nat):MV (some (.vec l k g n))=[(l,k+IE)]:=rfl
@[simp] theorem ANR(b:Bool)(es:List (List V)):MV (some (.list b es))=[]:=rfl
@[simp] theorem ASW(cs:List V):MV (some (.ref cs))=[]:=rfl
def c01(E:XE)(d:Option Tmp)(st:XS):Option V->Option (List V)->Option XS
 |some (.fn f first cap),some vs=>EV d st (E.c0 f ((first++vs++cap).map weakV))
 |_,_=>none
@[simp] theorem ASX(f:cx)(first cap vs:List V):c01 E d st (some (.fn f first cap)) (some vs)=EV d st (E.c0 f ((first++vs++cap).map weakV)):=rfl
@[simp] theorem ASY(t:Option Tmp)(f:cj)(args:List cj):DG P E d (.call false t f args) ⟨c,fr,s⟩=nw (c01 E d ⟨c,fr,s⟩ (CK fr f) (FQ (CK fr) args)):=by
 show TP (aE E.c0 d f args ⟨c,fr,s⟩)=_;rw[GP];congr 1;unfold aE;cases hf:CK fr f with
 |none=>simp only[c01]
 |some v=>
  cases v with
  |fn g first cap=>
   simp only
   cases hm:FQ (CK fr) args with
   |none=>simp only[c01]
   |some vs=>
    simp only[ASX]
    cases E.c0 g ((first++vs++cap).map weakV)<;>rfl
  |_=>simp only[c01]
@[simp] theorem BCH{A:Ann}{kn:CF0}{n:Nat}:(BH P A kn n).c0=FI P kn (AF P A kn n):=rfl
end
theorem rZ{A:Ann}{kn:CF0}{n N:Nat}(a b:cw):mI (AF P A kn n N) a b st (some (.bool true))=AF P A kn n N a st:=rfl
theorem nK{A:Ann}{kn:CF0}{n N:Nat}(a b:cw):mI (AF P A kn n N) a b st (some (.bool false))=AF P A kn n N b st:=rfl
attribute [simp] AFZ zO rV zQ zR zS AF0 rW nF AF1 zT cX rX nG rZ nK
end Go.Pg
namespace Go.Pg
variable {P:ck}{E:XE}{st:XS}{fr:Fr}{s:St}
@[simp] theorem ASZ(k:cz)(n:Int):A7 (.int k n)=[.int k n]:=rfl
@[simp] theorem ANS(b:Bool):A7 (.bool b)=[.bool b]:=rfl
@[simp] theorem AS0(cs:List V):A7 (.agg cs)=cs:=rfl
@[simp] theorem ANT(b:Bool)(es:List (List V)):A7 (.list b es)=[.list b es]:=rfl
@[simp] theorem AS1:A7 .nil=[.nil]:=rfl
@[simp] theorem AS2(l k g n:Nat):A7 (.vec l k g n)=[.vec l k g n]:=rfl
@[simp] theorem AWX(l k g:Nat):A7 (.mp l k g)=[.mp l k g]:=rfl
@[simp] theorem AWY(f:cx)(x y:List V):A7 (.fn f x y)=[.fn f x y]:=rfl
@[simp] theorem AS3(l k g n:Nat):A7 (.ptr l k g n)=[.ptr l k g n]:=rfl
@[simp] theorem AS4(k:cz)(n:Int):A9 (.int k n)=true:=rfl
@[simp] theorem ANU(b:Bool):A9 (.bool b)=true:=rfl
@[simp] theorem AS5(cs:List V):A9 (.agg cs)=true:=rfl
@[simp] theorem ANV(b:Bool)(es:List (List V)):A9 (.list b es)=true:=rfl
@[simp] theorem AS6:A9 .nil=true:=rfl
@[simp] theorem AS7(l k g n:Nat):A9 (.vec l k g n)=true:=rfl
@[simp] theorem AWZ(l k g:Nat):A9 (.mp l k g)=true:=rfl
@[simp] theorem AW0(f:cx)(x y:List V):A9 (.fn f x y)=true:=rfl
@[simp] theorem AS8(l k g n:Nat):A9 (.ptr l k g n)=true:=rfl
@[simp] theorem AW1(op:BinOp)(T:bp)(k j:cz)(a b:Int):HC P op T (.int k a) (.int j b)=if k=j then FU op k a b else kG op k a b:=rfl
section
variable (k:cz)(a b:Int)
@[simp] theorem AW2:FU .add k a b=some (.int k (k.wrap (a+b))):=rfl
@[simp] theorem AW3:FU .sub k a b=some (.int k (k.wrap (a-b))):=rfl
@[simp] theorem AW4:FU .mul k a b=some (.int k (k.wrap (a*b))):=rfl
@[simp] theorem AW5:FU .quo k a b=if b=0 then none else some (.int k (k.wrap (a.tdiv b))):=rfl
@[simp] theorem AW6:FU .rem k a b=if b=0 then none else some (.int k (a.tmod b)):=rfl
@[simp] theorem AW7:FU .eql k a b=some (.bool (decide (a=b))):=by show some (V.bool (a==b))=_;congr 2
@[simp] theorem AW8:FU .neq k a b=some (.bool (!decide (a=b))):=by show some (V.bool (a != b))=_;congr 2
@[simp] theorem AW9:FU .lss k a b=some (.bool (decide (a<b))):=rfl
@[simp] theorem AXA:FU .leq k a b=some (.bool (decide (a<=b))):=rfl
@[simp] theorem AXB:FU .gtr k a b=some (.bool (decide (b<a))):=rfl
@[simp] theorem AXC:FU .geq k a b=some (.bool (decide (b<=a))):=rfl
end
theorem AX{x:Int}(h1:-9223372036854775808<=x)(h2:x<9223372036854775808):IntKind.i64.wrap x=x:=by simp only[IntKind.wrap,IntKind.bits,IntKind.signed];simp;omega
def bl1(f:Bool->Bool):Option Bool->Option V
 |some b=>some (.bool (f b))
 |none=>none
@[simp] theorem A4Q(f:Bool->Bool)(b:Bool):bl1 f (some b)=some (.bool (f b)):=rfl
@[simp] theorem AS9(T:bp)(cs ds:List V):HC P .neq T (.agg cs) (.agg ds)=bl1 (fun b=>!b) (WX P T cs ds):=by show(WX P T cs ds).map (fun b=>V.bool !b)=_;cases WX P T cs ds<;>rfl
def faP(P:ck)(x:V):Option (bp×Nat)->Option V
 |some (U,off)=>if P.cellsOf U=0 then none else match x with
  |.ref cs=>some (.ref (cs.drop off))
  |.ptr l k g o=>some (.ptr l k g (o+off))
  |.eptr l k g i o=>some (.eptr l k g i (o+off))
  |_=>none
 |none=>none
@[simp] theorem A71(T:bp)(x:V)(f:Nat):C5 P T x f=faP P x (A0 P T f):=by unfold C5 faP;cases A0 P T f<;>rfl
@[simp] theorem A72(U:bp)(off:Nat)(cs:List V):faP P (.ref cs) (some (U,off))=if P.cellsOf U=0 then none else some (.ref (cs.drop off)):=rfl
@[simp] theorem A73(U:bp)(off l k g o:Nat):faP P (.ptr l k g o) (some (U,off))=if P.cellsOf U=0 then none else some (.ptr l k g (o+off)):=rfl
@[simp] theorem A4S(U:bp)(off l k g i o:Nat):faP P (.eptr l k g i o) (some (U,off))=if P.cellsOf U=0 then none else some (.eptr l k g i (o+off)):=rfl
def fd1(P:ck)(x:V):Option (bp×Nat)->Option V
 |some (U,off)=>match x with
  |.agg cs=>N6 P U cs off
  |_=>none
 |none=>none
@[simp] theorem ATA(T:bp)(x:V)(f:Nat):ID P T x f=fd1 P x (A0 P T f):=by unfold ID fd1;cases x<;>cases A0 P T f<;>rfl
@[simp] theorem A74(U:bp)(off:Nat)(cs:List V):fd1 P (.agg cs) (some (U,off))=N6 P U cs off:=rfl
def cb(g off:Nat):Option (Nat×AV)->Option (List V)
 |some (g',.box cs)=>if g'=g then some (cs.drop off) else none
 |_=>none
@[simp] theorem A75(g g' off:Nat)(cs:List V):cb g off (some (g',.box cs))=if g'=g then some (cs.drop off) else none:=rfl
def ce(g i off:Nat):Option (Nat×AV)->Option (List V)
 |some (g',.vec _ es)=>if g'=g then(es[i]?).map (·.drop off) else none
 |_=>none
@[simp] theorem A76(g g' i off:Nat)(T:bp)(es:List (List V)):ce g i off (some (g',.vec T es))=if g'=g then(es[i]?).map (·.drop off) else none:=rfl
@[simp] theorem ANW(cs:List V):A4 s (.ref cs)=some cs:=rfl
@[simp] theorem ANX(l k g off:Nat):A4 s (.ptr l k g off)=cb g off (s.get l k):=by
 unfold cb;simp only[A4];cases s.get l k with
 |none=>rfl
 |some z=>obtain⟨g',r⟩:=z;cases r<;>rfl
@[simp] theorem AK3(l k g i off:Nat):A4 s (.eptr l k g i off)=ce g i off (s.get l k):=by
 unfold ce;simp only[A4];cases s.get l k with
 |none=>rfl
 |some z=>obtain⟨g',r⟩:=z;cases r<;>rfl
def iv(P:ck)(e:bp)(l k g n:Nat)(j:Int):Option (Nat×AV)->Option V
 |some (g',.vec _ es)=>if g'=g/\0<=j/\j<n/\n<=es.length/\(es.getD j.toNat []).length=P.cellsOf e/\0<P.cellsOf e then some (.eptr l k g j.toNat 0) else none
 |_=>none
@[simp] theorem A77(e:bp)(l k g g' n:Nat)(j:Int)(T:bp)(es:List (List V)):iv P e l k g n j (some (g',.vec T es))=if g'=g/\0<=j/\j<n/\n<=es.length/\(es.getD j.toNat []).length=P.cellsOf e/\0<P.cellsOf e then some (.eptr l k g j.toNat 0) else none:=rfl
def ia(P:ck)(s:St)(x i:V):Option (Option Nat×bp)->Option V
 |some (none,e)=>match x,i with
  |.list _ es,.int _ j=>if 0<=j/\j<es.length/\(es.getD j.toNat []).length=P.cellsOf e/\0<P.cellsOf e then some (.ref (es.getD j.toNat [])) else none
  |.vec l k g n,.int _ j=>iv P e l k g n j (s.get l k)
  |_,_=>none
 |some (some n,e)=>match x,i with
  |.ref cs,.int _ j=>if 0<=j/\j<n/\0<P.cellsOf e then some (.ref (cs.drop (j.toNat*P.cellsOf e))) else none
  |.ptr l k g o,.int _ j=>if 0<=j/\j<n/\0<P.cellsOf e then some (.ptr l k g (o+j.toNat*P.cellsOf e)) else none
  |.eptr l k g i' o,.int _ j=>if 0<=j/\j<n/\0<P.cellsOf e then some (.eptr l k g i' (o+j.toNat*P.cellsOf e)) else none
  |_,_=>none
 |none=>none
@[simp] theorem A78(T:bp)(x i:V):BK P s T x i=ia P s x i (BQ P T):=by
 unfold BK ia;cases BQ P T with
 |none=>rfl
 |some z=>
  obtain⟨n,e⟩:=z
  cases n with
  |some n=>cases x<;>cases i<;>rfl
  |none=>
   cases x with
   |vec l k g n=>
    cases i with
    |int q j=>
     simp only[iv]
     cases s.get l k with
     |none=>rfl
     |some z=>obtain⟨g',r⟩:=z;cases r<;>rfl
    |_=>rfl
   |_=>cases i<;>rfl
@[simp] theorem A79(e:bp)(b:Bool)(es:List (List V))(k:cz)(j:Int):ia P s (.list b es) (.int k j) (some (none,e))=if 0<=j/\j<es.length/\(es.getD j.toNat []).length=P.cellsOf e/\0<P.cellsOf e then some (.ref (es.getD j.toNat [])) else none:=rfl
@[simp] theorem BCJ(e:bp)(l q g n:Nat)(k:cz)(j:Int):ia P s (.vec l q g n) (.int k j) (some (none,e))=iv P e l q g n j (s.get l q):=rfl
@[simp] theorem BCK(n:Nat)(e:bp)(cs:List V)(k:cz)(j:Int):ia P s (.ref cs) (.int k j) (some (some n,e))=if 0<=j/\j<n/\0<P.cellsOf e then some (.ref (cs.drop (j.toNat*P.cellsOf e))) else none:=rfl
@[simp] theorem BCL(n:Nat)(e:bp)(l q g o:Nat)(k:cz)(j:Int):ia P s (.ptr l q g o) (.int k j) (some (some n,e))=if 0<=j/\j<n/\0<P.cellsOf e then some (.ptr l q g (o+j.toNat*P.cellsOf e)) else none:=rfl
theorem OX{T:bp}(h:C8 P T=true):∃e,P.underlying T=some (.slice e):=by
 unfold C8 at h;split at h
 ·rename_i e he;exact⟨e,he⟩
 ·cases h
@[simp] theorem sA{T:bp}(h:C8 P T=true)(b:Bool)(es:List (List V)):H0 P T (.list b es)=some (.int .i64 es.length):=by obtain⟨e,he⟩:=OX h;simp[H0,he]
@[simp] theorem AXD{T:bp}(h:C8 P T=true)(l k g n:Nat):H0 P T (.vec l k g n)=some (.int .i64 n):=by obtain⟨e,he⟩:=OX h;simp[H0,he]
@[simp] theorem zV{T:bp}(h:C8 P T=true):H0 P T .nil=some (.int .i64 0):=by obtain⟨e,he⟩:=OX h;simp[H0,he]
def fv(place:Nat->Option (Nat×Nat))(cs:List V)(v:V)(rest:List (Nat×V)):Option (Nat×Nat)->Option (List V)
 |none=>none
 |some (off,size)=>if (A7 v).length=size/\off+(A7 v).length<=cs.length then C6 place (AZ cs off (A7 v)) rest else none
@[simp] theorem AXE(place:Nat->Option (Nat×Nat))(cs:List V):C6 place cs []=some cs:=rfl
@[simp] theorem ATB(place:Nat->Option (Nat×Nat))(cs:List V)(i:Nat)(v:V)(rest:List (Nat×V)):C6 place cs ((i,v)::rest)=fv place cs v rest (place i):=by simp only[C6];unfold fv;cases place i<;>rfl
@[simp] theorem A8A(place:Nat->Option (Nat×Nat))(cs:List V)(v:V)(rest:List (Nat×V))(off size:Nat):fv place cs v rest (some (off,size))=if (A7 v).length=size/\off+(A7 v).length<=cs.length then C6 place (AZ cs off (A7 v)) rest else none:=rfl
attribute [simp] AZ
@[simp] theorem ANY(size:Nat)(cs:List V):CO size cs 0=[]:=rfl
@[simp] theorem ANZ(size:Nat)(cs:List V)(n:Nat):CO size cs (n+1)=cs.take size::CO size (cs.drop size) n:=rfl
def ch1(size len:Nat):Option (List V)->Option V
 |some cs=>some (.list true (CO size cs len))
 |none=>none
@[simp] theorem A4T(size len:Nat)(cs:List V):ch1 size len (some cs)=some (.list true (CO size cs len)):=rfl
def bsz(P:ck)(e:bp)(len:Nat)(parts:List (Nat×V)):Option (List V)->Option V
 |some z=>if (parts.all fun p=>A9 p.2)=true/\z.length=P.cellsOf e/\0<P.cellsOf e/\len*P.cellsOf e<=2 ^ 24 then
   ch1 (P.cellsOf e) len (C6 (fun i=>some (i*P.cellsOf e,P.cellsOf e)) (bc len z).flatten parts) else none
 |none=>none
@[simp] theorem A4U(e:bp)(len:Nat)(parts:List (Nat×V))(z:List V):bsz P e len parts (some z)=if (parts.all fun p=>A9 p.2)=true/\z.length=P.cellsOf e/\0<P.cellsOf e/\len*P.cellsOf e<=2 ^ 24 then
   ch1 (P.cellsOf e) len (C6 (fun i=>some (i*P.cellsOf e,P.cellsOf e)) (bc len z).flatten parts) else none:=rfl
def bsl(P:ck)(len:Nat)(parts:List (Nat×V)):Option (Option Nat×bp)->Option V
 |some (none,e)=>bsz P e len parts (CA P e)
 |_=>none
@[simp] theorem A4V(e:bp)(len:Nat)(parts:List (Nat×V)):bsl P len parts (some (none,e))=bsz P e len parts (CA P e):=rfl
@[simp] theorem A8C(T:bp)(len:Nat)(parts:List (Nat×V)):CD P T len parts=bsl P len parts (BQ P T):=by
 unfold CD bsl;cases BQ P T with
 |none=>rfl
 |some z=>
  obtain⟨n,e⟩:=z
  cases n with
  |some n=>rfl
  |none=>
   simp only[bsz]
   cases CA P e with
   |none=>rfl
   |some z=>
    simp only
    split
    ·cases C6 (fun i=>some (i*P.cellsOf e,P.cellsOf e)) (bc len z).flatten parts<;>rfl
    ·rfl
def fn2(f:cx):Option (List V)->Option (List V)->Option V
 |some a,some b=>some (.fn f a b)
 |_,_=>none
@[simp] theorem A4W(f:cx)(a b:List V):fn2 f (some a) (some b)=some (.fn f a b):=rfl
@[simp] theorem BCO(f:cx)(x y:Array cj)(r:cj->Option V):JH P (oI (.makeFunc (.func f) x y)) s r=fn2 f (FQ r x.toList) (FQ r y.toList):=by show((x.toList.mapM r).bind fun a=>(y.toList.mapM r).bind fun b=>some (V.fn f a b))=_;rw[<-KT,<-KT];cases FQ r x.toList<;>cases FQ r y.toList<;>rfl
@[simp] theorem A8E(x y:cj)(Ts:Array bp)(r:cj->Option V):JH P (oI (.call ⟨.builtin .max,#[x,y],Ts⟩)) s r=o2 SZ (r x) (r y):=iQ _ _ _
@[simp] theorem A8F(x y:cj)(Ts:Array bp)(r:cj->Option V):JH P (oI (.call ⟨.builtin .min,#[x,y],Ts⟩)) s r=o2 S0 (r x) (r y):=iQ _ _ _
@[simp] theorem AXF(k j:cz)(m n:Int):SZ (.int k m) (.int j n)=if k=j then some (.int k (if n>m then n else m)) else none:=rfl
@[simp] theorem AXG(k j:cz)(m n:Int):S0 (.int k m) (.int j n)=if k=j then some (.int k (if n<m then n else m)) else none:=rfl
theorem CC{e:bp}{n:Nat}{ys:List (List V)}(hc:0<P.cellsOf e)(hz:cD P e=true):B0 P e n ys=true↔(ys.all (fun y=>y.length==P.cellsOf e)=true/\n+ys.length<=maxLen/\(n+ys.length)*P.bytesOf e<=140737488355328):=by simp[B0,hc,hz,and_assoc]
end Go.Pg
namespace Go.Pg
variable {P:ck}{E:XE}{st:XS}{fr:Fr}{s:St}
theorem AQ{P:ck}{kn:CF0}{rec:F8}{f:cx}{args:List V}(h:kn f args=none):A3 P kn rec f args=EM P rec f args:=by unfold A3;rw[h]
def pv(k γ:Nat):List (List V)->V
 |[]=>.nil
 |e::es=>.vec 0 k γ (e::es).length
def pl(k γ:Nat)(T:bp):List (List V)->AA
 |[]=>[]
 |e::es=>[(k,γ,.vec T (e::es))]
def sl:List (List V)->V
 |[]=>.nil
 |e::es=>.list false (e::es)
@[simp] theorem BCP(k γ:Nat):pv k γ []=.nil:=rfl
@[simp] theorem BCQ(k γ:Nat)(T:bp):pl k γ T []=[]:=rfl
@[simp] theorem A8G(k γ:Nat)(T:bp)(es:List (List V))(y:List V)(ys:List (List V)):pl k γ T (es++y::ys)=[(k,γ,.vec T (es++y::ys))]:=by cases es<;>rfl
@[simp] theorem A8H(k γ:Nat)(T:bp)(y:List V)(ys:List (List V)):pl k γ T (y::ys)=[(k,γ,.vec T (y::ys))]:=rfl
@[simp] theorem BFJ(k γ:Nat)(T:bp)(es:List (List V)):kl k [] ((pl k γ T es).get k)=pl k γ T es:=by
 cases es with
 |nil=>rfl
 |cons e es=>simp
@[simp] theorem A4X{k j:Nat}(γ:Nat)(T:bp)(es:List (List V))(h:j≠k):(pl k γ T es).get j=none:=by
 cases es with
 |nil=>rfl
 |cons e es=>simp[h]
@[simp] theorem ATC(e k c γ:Nat)(loc:AA)(es:List (List V))(y:List V)(ys:List (List V))(hl:AA.get loc k=(pl k γ e es).get k)(h1:es.all (fun y=>y.length==P.cellsOf e)=true)(h2:B0 P e es.length (y::ys)=true) :
  apV P e k c fr ⟨[],loc⟩ (pv k γ es) (y::ys)=some ⟨c+1,(k,true,pv k c (es++y::ys))::fr,⟨[],(k,c,.vec e (es++y::ys))::loc⟩⟩:=by
 cases es with
 |nil=>
  simp only[bq]at h2
  simp[h2,pv]
 |cons z es=>
  have hl:AA.get loc k=some (γ,.vec e (z::es)):=by rw[hl];simp
  simp only[pv,AKY,AF9,bq,if_true,hl,nH,UY,T9,true_and,h1,h2]
  simp[Nat.add_comm,Nat.add_left_comm]
theorem PL{T:bp}(f:Nat)(loc:AA)(k γ:Nat)(es:List (List V))(hl:AA.get loc k=(pl k γ T es).get k):AY ⟨[],loc⟩ (f+1) (pv k γ es)=some (sl es):=by
 cases es with
 |nil=>rfl
 |cons z es=>
  have hl:AA.get loc k=some (γ,.vec T (z::es)):=by rw[hl];simp
  simp only[pv,bK,bq,if_true,hl,AGA,sl]
  simp
@[simp] theorem AXH(f k γ:Nat)(T:bp)(es:List (List V)):AY ⟨[],pl k γ T es⟩ (f+1) (pv k γ es)=some (sl es):=PL (T:=T) f _ k γ es rfl
@[simp] theorem A4Y{T:bp}(h:C8 P T=true)(es:List (List V)):H0 P T (sl es)=some (.int .i64 es.length):=by
 cases es with
 |nil=>exact zV h
 |cons e es=>exact sA h _ _
@[simp] theorem fA(f:Nat)(es:List (List V)):AG (f+1) (sl es)=es.all fun e=>e.all (AG f):=by cases es<;>rfl
@[simp] theorem A4Z(es:List (List V)):weakN (sl es)=.list false es:=by cases es<;>rfl
@[simp] theorem A40(es:List (List V)):weakM (sl es)=.list false es:=by cases es<;>rfl
@[simp] theorem A8I(es:List (List V)):weakV (sl es)=sl es:=by cases es<;>rfl
@[simp] theorem A41(es:List (List V)):weakC (sl es)=sl es:=by cases es<;>rfl
@[simp] theorem AXI(es:List (List V)):A7 (sl es)=[sl es]:=by cases es<;>rfl
@[simp] theorem AXJ(es:List (List V)):A9 (sl es)=true:=by cases es<;>rfl
@[simp] theorem AXK(k γ:Nat)(es:List (List V)):A7 (pv k γ es)=[pv k γ es]:=by cases es<;>rfl
@[simp] theorem AXL(k γ:Nat)(es:List (List V)):A9 (pv k γ es)=true:=by cases es<;>rfl
@[simp] theorem AXM(f:Nat)(es:List (List V)):AY s (f+1) (sl es)=some (sl es):=by cases es<;>rfl
def sB(P:ck)(e:bp)(d c:Nat)(fr:Fr)(s:St)(xv:V)(ys:List (List V)):Option (XS×AJ):=match H7 xv ys with
 |some es=>if es.all (fun y=>y.length==P.cellsOf e)=true/\B0 P e es.length ys=true then some (⟨c+1,(d,true,.vec s.up.length d c (es.length+ys.length))::fr,s.put s.up.length d c (.vec e (es++ys))⟩,[(s.up.length,d),(s.up.length,d+IE)]) else none
 |none=>match xv with
  |.vec l q γ n=>wp [(l,q),(l,q+IE)] (apW P e d c fr s l q γ n ys (S6 n ys (s.get l q)))
  |_=>none
def ad4(P:ck)(e:bp)(d c:Nat)(fr:Fr)(s:St)(xv:V):Option (List (List V))->Option (XS×AJ)
 |some ys=>sB P e d c fr s xv ys
 |none=>none
@[simp] theorem AGB(e:bp)(d c:Nat)(xv:V)(ys:List (List V)):ad4 P e d c fr s xv (some ys)=sB P e d c fr s xv ys:=rfl
def ad3(P:ck)(d c:Nat)(fr:Fr)(s:St):Option (Option Nat×bp)->Option V->Option V->Option (XS×AJ)
 |some (none,e),some xv,some yv=>ad4 P e d c fr s xv (elemsOf s yv)
 |_,_,_=>none
@[simp] theorem AGC(d c:Nat)(e:bp)(xv yv:V):ad3 P d c fr s (some (none,e)) (some xv) (some yv)=ad4 P e d c fr s xv (elemsOf s yv):=rfl
@[simp] theorem AXN(d:Tmp)(c:Nat)(x y:cj)(T:bp):DG P E (some d) (.app [x,y] [T,T]) ⟨c,fr,s⟩=ad3 P d c fr s (BQ P T) (CK fr x) (CK fr y):=by
 show xAppD P (some d) [x,y] [T,T] _=_;unfold xAppD xAppG;simp only[Nat.beq_refl];cases hT:BQ P T with
 |none=>cases CK fr x<;>cases CK fr y<;>rfl
 |some p=>
  obtain⟨k,e⟩:=p
  cases k with
  |some k=>cases CK fr x<;>cases CK fr y<;>rfl
  |none=>
   cases CK fr x with
   |none=>rfl
   |some xv=>
    cases CK fr y with
    |none=>rfl
    |some yv=>
     simp only[AGC]
     cases elemsOf s yv with
     |none=>rfl
     |some ys=>
      simp only[AGB,sB]
      cases H7 xv ys with
      |some es=>
       simp only[ifB,bj,bk]
       by_cases hC:es.all (fun y=>y.length==P.cellsOf e)=true/\B0 P e es.length ys=true
       ·rw[if_pos hC,if_pos hC]
       ·rw[if_neg hC,if_neg hC]
      |none=>
       simp only
       unfold mB
       cases xv with
       |vec l q γ n=>
        simp only
        cases S6 n ys (s.get l q)with
        |none=>rfl
        |some z=>
         obtain⟨γ',r⟩:=z
         cases r with
         |vec W es=>
          simp only[ifB,bj,bk,T9,bg,and_assoc]
          by_cases hC:γ'=γ/\W=e/\n=es.length/\es.all (fun y=>y.length==P.cellsOf e)=true/\B0 P e es.length ys=true
          ·rw[if_pos hC,if_pos hC];rfl
          ·rw[if_neg hC,if_neg hC];rfl
         |_=>rfl
       |_=>rfl
@[simp] theorem BCS(e k c γ:Nat)(loc:AA)(es:List (List V))(y:List V)(ys:List (List V))(hl:AA.get loc k=(pl k γ e es).get k)(h1:es.all (fun y=>y.length==P.cellsOf e)=true)(h2:B0 P e es.length (y::ys)=true) :
  sB P e k c fr ⟨[],loc⟩ (pv k γ es) (y::ys)=some (⟨c+1,(k,true,pv k c (es++y::ys))::fr,⟨[],(k,c,.vec e (es++y::ys))::loc⟩⟩,[(0,k),(0,k+IE)]):=by
 cases es with
 |nil=>
  simp only[bq]at h2
  simp[sB,H7,h2,pv]
 |cons z es=>
  have hl:AA.get loc k=some (γ,.vec e (z::es)):=by rw[hl];simp
  simp only[pv,sB,H7,AF9,bq,if_true,hl,nH,UY,T9,true_and,h1,h2]
  simp[Nat.add_comm,Nat.add_left_comm]
end Go.Pg
namespace Go.Pg
variable {P:ck}{E:XE}{st:XS}{fr:Fr}{s:St}
theorem sC{α:Type}(x:α):B9 [x]=some ([],x):=rfl
def un1{α:Type}(x:α):Option (List α×α)->Option (List α×α)
 |some (a,b)=>some (x::a,b)
 |none=>none
@[simp] theorem A42{α:Type}(x:α)(a:List α)(b:α):un1 x (some (a,b))=some (x::a,b):=rfl
theorem WT{α:Type}(x y:α)(l:List α):B9 (x::y::l)=un1 x (B9 (y::l)):=by simp only[B9];unfold un1;cases B9 (y::l)<;>rfl
attribute [simp] sC WT
def UC(d:Option Tmp)(fr:Fr)(c:Nat)(r:V):Option (List AA×AA)->Option XS
 |some (u,l)=>some ⟨c,putD fr d true r,⟨u,l⟩⟩
 |none=>none
@[simp] theorem AXO(d:Tmp)(c:Nat)(r:V)(u:List AA)(l:AA):UC (some d) fr c r (some (u,l))=some ⟨c,(d,true,r)::fr,⟨u,l⟩⟩:=rfl
@[simp] theorem A8J(c:Nat)(r:V)(u:List AA)(l:AA):UC none fr c r (some (u,l))=some ⟨c,fr,⟨u,l⟩⟩:=rfl
def nL(d:Option Tmp)(fr:Fr)(st:XS):Option V->Option XS
 |some r=>UC d fr st.c r (B9 (st.s.up.map (AH st.s)))
 |none=>none
@[simp] theorem AXP(d:Option Tmp)(c:Nat)(fr':Fr)(up:List AA)(loc:AA)(r:V):nL d fr ⟨c,fr',⟨up,loc⟩⟩ (some r)=UC d fr c r (B9 (up.map (AH ⟨up,loc⟩))):=rfl
def clX(s:St):Option V->Option V
 |some r=>AY s 4 r
 |none=>none
@[simp] theorem A43(r:V):clX s (some r)=AY s 4 r:=rfl
def bL(P:ck)(d:Option Tmp)(fr:Fr)(rs:List ResultVar)(r:Option (Exit×XS)):Option XS:=match r with
 |some (.ret,st)=>nL d fr st (clX st.s (FM P rs st.fr st.s))
 |some (.normal,st)=>nL d fr st (clX st.s (FM P rs st.fr st.s))
 |_=>none
@[simp] theorem AGD(d:Option Tmp)(rs:List ResultVar):bL P d fr rs (some (.ret,st))=nL d fr st (clX st.s (FM P rs st.fr st.s)):=rfl
@[simp] theorem nM(d:Option Tmp)(rs:List ResultVar):bL P d fr rs (some (.normal,st))=nL d fr st (clX st.s (FM P rs st.fr st.s)):=rfl
theorem nN{A:Ann}{kn:CF0}{n:Nat}{f:cx}{fn:Func}{code:cw}{args:List V}(hf:P.funcs[f]? = some fn)(hb:fn.body=some code)(hs:bm args.length fn.ntmps=true)(hcl:(args.all (AG 9)&&!(BI P f))=false)(d:Option Tmp)(c:Nat)(fr:Fr)(up:List AA)(loc:AA) :
  G7 (BH P A kn n) d ⟨c,fr,⟨up,loc⟩⟩ f args=bL P d fr fn.results.toList (AF P A kn n fn.ntmps code ⟨c,AD 0 args,⟨up++[loc],[]⟩⟩):=by
 show(match aH P kn (AF P A kn n) f args ⟨c,fr,⟨up,loc⟩⟩ with
  |some (r,st')=>some (⟨st'.c,putD st'.fr d true r,st'.s⟩:XS)
  | none=>none)=_
 unfold aH
 rw[hcl]
 unfold eG WQ mJ
 rw[hf]
 simp only[hb,hs]
 generalize AF P A kn n fn.ntmps code ⟨c,AD 0 args,⟨up++[loc],[]⟩⟩=q
 have aux:∀st:XS,(match(match(match yQ P fn.results.toList st with
   |some (r,c,up)=>match B9 up with
    |some (u,l)=>some (r,(⟨c,fr,⟨u,l⟩⟩:XS))
    |none=>none
   | none=>none:Option (V×XS))with
   |some r=>some r
   | none=>none:Option (V×XS))with
  |some (r,st')=>some (⟨st'.c,putD st'.fr d true r,st'.s⟩:XS)
  | none=>none)=nL d fr st (clX st.s (FM P fn.results.toList st.fr st.s)):=fun st=>by
  unfold yQ clX
  cases FM P fn.results.toList st.fr st.s with
  |none=>rfl
  |some r=>
   cases h:AY st.s 4 r with
   |none=>simp[nL,h]
   |some r'=>
    simp only[h,nL]
    cases B9 (st.s.up.map (AH st.s))with
    |none=>rfl
    |some z=>rfl
 cases q with
 |none=>rfl
 |some q=>
  obtain⟨e,st⟩:=q
  have:=aux st
  cases e with
  |ret=>simp only[AGD,<-this];cases yQ P fn.results.toList st with
   |none=>rfl
   |some z=>
    obtain⟨r,c,up⟩:=z
    simp only
    cases B9 up<;>rfl
  |normal=>simp only[nM,<-this];cases yQ P fn.results.toList st with
   |none=>rfl
   |some z=>
    obtain⟨r,c,up⟩:=z
    simp only
    cases B9 up<;>rfl
  |_=>rfl
theorem A2{A:Ann}{kn:CF0}{n:Nat}{f:cx}{fn:Func}{code:cw}{args:List V}(hf:P.funcs[f]? = some fn)(hb:fn.body=some code)(hs:bm args.length fn.ntmps=true)(hcl:args.all (AG 9)=false)(d:Option Tmp)(c:Nat)(fr:Fr)(up:List AA)(loc:AA) :
  G7 (BH P A kn n) d ⟨c,fr,⟨up,loc⟩⟩ f args=bL P d fr fn.results.toList (AF P A kn n fn.ntmps code ⟨c,AD 0 args,⟨up++[loc],[]⟩⟩) :=
 nN hf hb hs (by rw[hcl,Bool.false_and]) d c fr up loc
theorem vQ{A:Ann}{kn:CF0}{n:Nat}{f:cx}{fn:Func}{code:cw}{args:List V}(hf:P.funcs[f]? = some fn)(hb:fn.body=some code)(hs:bm args.length fn.ntmps=true)(hh:BI P f=true)(d:Option Tmp)(c:Nat)(fr:Fr)(up:List AA)(loc:AA) :
  G7 (BH P A kn n) d ⟨c,fr,⟨up,loc⟩⟩ f args=bL P d fr fn.results.toList (AF P A kn n fn.ntmps code ⟨c,AD 0 args,⟨up++[loc],[]⟩⟩) :=
 nN hf hb hs (by rw[hh,Bool.not_true,Bool.and_false]) d c fr up loc
@[simp] theorem ATE(f l k g o:Nat):AG (f+1) (.ptr l k g o)=false:=rfl
@[simp] theorem ATF(f l k g o:Nat):AG (f+1) (.vec l k g o)=false:=rfl
@[simp] theorem A44(l k g o:Nat):weakV (.ptr l k g o)=.ptr l k g o:=rfl
@[simp] theorem A45(l k g o:Nat):weakV (.vec l k g o)=.vec l k g o:=rfl
@[simp] theorem A46(cs:List V):weakV (.ref cs)=.ref cs:=rfl
@[simp] theorem BCU(d c:Nat)(f:cx)(x y:List V):bx1 d c fr s (some (.fn f x y))=some ⟨c+1,(d,true,.ptr s.up.length d c 0)::fr,s.put s.up.length d c (.box [.fn f x y])⟩:=rfl
@[simp] theorem A8K(d c:Nat)(l k g o:Nat):bx1 d c fr s (some (.ptr l k g o))=some ⟨c+1,(d,true,.ptr s.up.length d c 0)::fr,s.put s.up.length d c (.box [.ptr l k g o])⟩:=rfl
@[simp] theorem FJ:AH s []=[]:=rfl
@[simp] theorem A1(k g:Nat)(r:AV)(L:AA):AH s ((k,g,r)::L)=(k,g,CH s r)::AH s L:=rfl
def sr1(r:AV):Option (List V)->AV
 |some ds=>.box ds
 |none=>r
@[simp] theorem A47(r:AV)(ds:List V):sr1 r (some ds)=.box ds:=rfl
theorem EX(cs:List V):CH s (.box cs)=sr1 (.box cs) (G4 (BW s) cs):=by unfold CH CB sr1;simp only;cases G4 (BW s) cs<;>rfl
attribute [simp] EX
theorem sD(f:V->Option V):G4 f []=some []:=rfl
theorem nO(f:V->Option V)(v:V)(l:List V):G4 f (v::l)=mc2 (f v) (G4 f l):=by
 simp only[G4];cases f v with
 |none=>rfl
 |some x=>cases G4 f l<;>rfl
attribute [simp] sD nO
@[simp] theorem AN0(k:cz)(n:Int):BW s (.int k n)=some (.int k n):=rfl
@[simp] theorem AK4(b:Bool):BW s (.bool b)=some (.bool b):=rfl
@[simp] theorem AK5(b:Bool)(es:List (List V)):BW s (.list b es)=some (.list b es):=rfl
@[simp] theorem AN1:BW s .nil=some .nil:=rfl
@[simp] theorem ATG(es:List (List V)):BW s (sl es)=some (sl es):=by cases es<;>rfl
@[simp] theorem ATH(f:cx)(x y:List V):BW s (.fn f x y)=AY s 4 (.fn f x y):=rfl
@[simp] theorem AN2(l k g o:Nat):BW s (.ptr l k g o)=AY s 4 (.ptr l k g o):=rfl
@[simp] theorem nP(l k g o:Nat):BW s (.vec l k g o)=AY s 4 (.vec l k g o):=rfl
@[simp] theorem AXQ(f:Nat)(g:cx)(x y:List V):AY s (f+1) (.fn g x y)=fn2 g (P2 (AY s f) x) (P2 (AY s f) y):=by simp only[AY,UB,fn2];cases P2 (AY s f) x<;>cases P2 (AY s f) y<;>rfl
def cp1(f:List V->Option (List V))(g off:Nat):Option (Nat×AV)->Option V
 |some (g',.box cs)=>if g'=g then(f cs).map fun ds=>.ref (ds.drop off) else none
 |_=>none
@[simp] theorem ATI(f:Nat)(up:List AA)(loc:AA)(l k g off:Nat):AY ⟨up,loc⟩ (f+1) (.ptr l k g off)=if l=up.length then cp1 (P2 (AY ⟨up,loc⟩ f)) g off (loc.get k) else some (.ptr l k g off):=by
 simp only[AY,UB];split
 ·cases loc.get k with
  |none=>rfl
  |some z=>obtain⟨g',r⟩:=z;cases r<;>rfl
 ·rfl
theorem AK6:CH s .dead=.dead:=rfl
attribute [simp] AK6
end Go.Pg
theorem Go.Pg.qNz (m:Nat)(h:0<m):∃k,m=k+1:=⟨m-1,by omega⟩
