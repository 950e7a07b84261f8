/- Operations of a region with all that hangs on the region alone worked out; running them one after another. No program in sight. -/
import Derived.Test.YthhdhbalenanjaaGreatQ2
noncomputable section
open Go renaming TypeId->bp,Operand->cj,Program->ck,Oper->cq,Code->cw,IntKind->cx,FuncId->cz
open Bool renaming and_eq_true->bj
open List renaming length_nil->bk,length_append->bq,getElem?_eq_getElem->bw,mapM_cons->bz,all_cons->bb,replicate->bc,mapM_nil->bh
open Nat renaming beq->bx,blt_eq->bf,beq_eq->bg,ble->bm,blt->bn
namespace Go.Pg
variable {P:ck}{E:XE}
inductive IK where
 |mv (x:cj)
 |bin (op:BinOp) (T:bp) (x y:cj)
 |fa (T:bp) (x:cj) (f:Nat)
 |ld (T:bp) (x:cj)
 |ldz (T:bp) (x:cj)
 |pick (c a b:cj)
 |build (T:bp) (ps:List (Nat×cj))
 |buildS (T:bp) (n:Nat) (ps:List (Nat×cj))
 |oth (op:Op)
 |alloc (T:bp)
 |box (x:cj)
 |mkM (r:Option cj)
 |mkS (T:bp) (x y:cj)
 |sto (T:bp) (x y:cj)
 |upd (T:bp) (x i y:cj)
 |call (own:Bool) (tk:Option Tmp) (f:cj) (args:List cj)
 |app (args:List cj) (Ts:List bp)
 |clr (args:List cj) (Ts:List bp)
 |cpy (args:List cj) (Ts:List bp)
def lY (op : Op) : cq := { dst := none, op := op, type := 0, pos := "", after := #[], guard := none }
def AEG(all:List cq):List cj->Option Tmp
 |[]=>none
 |x::r=>match x with
  |.tmp t=>cond (AII all t) (some t) (AEG all r)
  |_=>AEG all r
def NA(all:List cq)(o:cq):IK:=match o.op with
 |.move x=>.mv x
 |.assign x=>.mv x
 |.binOp op T x y _=>.bin op T x y
 |.fieldAddr T x f=>.fa T x f
 |.load T x=>.ld T x
 |.pick c a b=>.pick c a b
 |.build T ps=>.build T ps.toList
 |.buildSlice T n ps=>.buildS T n ps.toList
 |.alloc T=>.alloc T
 |.box _ x=>.box x
 |.makeMap _ r=>.mkM r
 |.makeSlice T x y=>.mkS T x y
 |.store T x y=>.sto T x y
 |.mapUpdate T x i y=>.upd T x i y
 |.call c=>match c.callee with
  |.value f=>.call (DM all o) (AEG all c.args.toList) f c.args.toList
  |.builtin .append=>.app c.args.toList c.argTypes.toList
  |.builtin .clear=>.clr c.args.toList c.argTypes.toList
  |.builtin .copy=>.cpy c.args.toList c.argTypes.toList
  |_=>.oth o.op
 |op=>.oth op
structure IW where
 g:Option (Tmp×Bool)
 d:Option Tmp
 k:IK
def comp(all:List cq)(o:cq):IW:=⟨KU all o,o.dst,NA all o⟩
def AEH:IK->IK
 |.ld T x=>.ldz T x
 |k=>k
def dO(all:List cq)(o:cq):IW:=⟨KU all o,o.dst,cond (zB all o) (AEH (NA all o)) (NA all o)⟩
def D0(d:Option Tmp)(st:XS)(r:Option V):Option XS:=match r with
 |some v=>some ⟨st.c,putD st.fr d true v,st.s⟩
 |none=>none
def aA(tk:Option Tmp)(st:XS):XS:=match tk with
 |none=>st
 | some t=>match(match BS st.fr t with
   |some (true,.vec l q γ n)=>match st.s.get l q with
    |some (γ',.vec _ es)=>Bool.rec none (some ⟨st.c,(t,true,.list false (es.take n))::st.fr,st.s.put l q γ .dead⟩) (bx γ' γ&&bm n es.length&&bn γ st.c)
    |_=>none
   | _=>none:Option XS)with
  |some st1=>st1
  |none=>st
def CT(P:ck)(E:XE)(d:Option Tmp)(k:IK)(st:XS):Option XS:=match k with
 |.mv x=>D0 d st (CG st.fr x)
 |.bin op T x y=>D0 d st (wX P st.fr op T x y)
 |.fa T x f=>D0 d st (xFA P st.fr T x f)
 |.ld T x=>D0 d st (M7 P st.fr st.s T x)
 |.ldz T x=>D0 d st (M7 P st.fr st.s T x)
 |.pick c a b=>D0 d st (sU st.fr c a b)
 |.build T ps=>D0 d st (UV P st.fr T ps)
 |.buildS T n ps=>D0 d st (PA P st.fr T n ps)
 |.oth op=>D0 d st (I9 P (lY op) st.s (CG st.fr))
 |.alloc T=>OE P d T st
 |.box x=>kO d x st
 |.mkM r=>wT d r st
 |.mkS T x y=>V3 P d T x y st
 |.sto T x y=>I4 P d T x y st
 |.upd T x i y=>wU P d T x i y st
 |.call own tk f args=>ZF E own d f args (aA tk st)
 |.app args Ts=>xAppend P d args Ts st
 |.clr args Ts=>fC P d args Ts st
 |.cpy args Ts=>sW P d args Ts st
def opI(P:ck)(E:XE)(i:IW)(st:XS):Option XS:=match gdX st.fr i.g with
 |some true=>CT P E i.d i.k st
 |some false=>some (HV i.d st)
 |none=>none
def opO(P:ck)(E:XE)(i:IW)(r:Option XS):Option XS:=match r with
 |some st=>opI P E i st
 |none=>none
def OR(P:ck)(E:XE):List IW->Option XS->Option XS
 |[],r=>r
 |i::l,r=>OR P E l (opO P E i r)
theorem aB(all:List cq)(st:XS):∀(xs:List cj),(match MS all st xs with
  |some st1=>st1
  | none=>st)=aA (AEG all xs) st
 |[]=>rfl
 |x::r=>by
  unfold MS AEG;cases x with
  |tmp t=>
   simp only
   cases AII all t with
   |false=>exact aB all st r
   |true=>rfl
  |_=>exact aB all st r
theorem A26{o:cq}{st:XS}:ACV P (fun _=>false) o st=none:=by unfold ACV;split<;>rfl
theorem AEI(hl:E.lit=fun _=>false)(all:List cq)(o:cq)(st:XS):opX P E all o st=opI P E (comp all o) st:=by
 unfold opX opI;rw[hl];simp only[A26];have:(match ACW all o st with
   |some st1=>P4 P E (DM all) o st1
   | none=>P4 P E (DM all) o st)=CT P E o.dst (NA all o) st:=by
  have ht:∀(r:Option XS),(match r with
   |some st1=>P4 P E (DM all) o st1
   | none=>P4 P E (DM all) o st)=P4 P E (DM all) o (match r with
   |some st1=>st1
   | none=>st):=fun r=>by cases r <;> rfl
  rw[ht]
  obtain⟨d,op,T,pos,af,gd⟩:=o
  cases op with
  |call c=>
   obtain⟨cal,args,Ts⟩:=c
   cases cal with
   |value f=>
    show P4 P E _ _ (match MS all st args.toList with|some st1=>st1|none=>st)=_
    rw[aB]
    rfl
   |builtin b=>cases b<;>rfl
   |_=>rfl
  |_=>rfl
 show _=(match gdX st.fr (KU all o)with
  |some true=>CT P E o.dst (NA all o) st
  |some false=>some (HV o.dst st)
  | none=>none)
 cases gdX st.fr (KU all o)with
 |none=>rfl
 |some b=>
  cases b with
  |false=>rfl
  |true=>exact this
theorem H5:∀(l:List IW),OR P E l none=none
 |[]=>rfl
 |_::l=>H5 l
theorem uA(hl:E.lit=fun _=>false)(all:List cq):∀(l:List cq) (st:XS),fF P E all l st=OR P E (l.map (comp all)) (some st)
 |[],st=>rfl
 |o::l,st=>by
  simp only[fF,List.map_cons,OR,opO];rw[AEI hl];cases opI P E (comp all o) st with
  |none=>exact(H5 _).symm
  |some st'=>exact uA hl all l st'
def HS(P:ck)(k:IK)(r:cj->Option V):AK:=match k with
 |.ld T x=>BV (bx (P.cellsOf T) 1) (r x)
 |.app xs _=>J1 r xs
 |.oth op=>D7 P (lY op) r
 |_=>[]
def DG(P:ck)(E:XE)(d:Option Tmp)(k:IK)(st:XS):Option (XS×AK):=match k with
 |.mv x=>TB (D0 d st (CG st.fr x))
 |.bin op T x y=>TB (D0 d st (wX P st.fr op T x y))
 |.fa T x f=>TB (D0 d st (xFA P st.fr T x f))
 |.ld T x=>TB (D0 d st (M7 P st.fr st.s T x))
 |.ldz T x=>TB (D0 d st (M7 P st.fr st.s T x))
 |.pick c a b=>TB (D0 d st (sU st.fr c a b))
 |.build T ps=>TB (D0 d st (UV P st.fr T ps))
 |.buildS T n ps=>TB (D0 d st (PA P st.fr T n ps))
 |.oth op=>TB (D0 d st (I9 P (lY op) st.s (CG st.fr)))
 |.alloc T=>TB (OE P d T st)
 |.box x=>TB (kO d x st)
 |.mkM r=>TB (wT d r st)
 |.mkS T x y=>TB (V3 P d T x y st)
 |.sto T x y=>ACY P d T x y st
 |.upd ..=>none
 |.call own _ f args=>Bool.rec (TB (ZG E.c0 d f args st)) (TB (HF E.co d f args st)) own
 |.app args Ts=>xAppD P d args Ts st
 |.clr ..=>none
 |.cpy ..=>none
def DV:IK->Bool
 |.alloc _|.box _|.mkM _|.mkS ..|.sto ..|.app ..=>true
 |.call own ..=>own
 |_=>false
def U8(P:ck)(E:XE)(i:IW)(st:XS):Option (XS×AK):=match gdX st.fr i.g with
 |some true=>DG P E i.d i.k st
 |some false=>Bool.rec (some (HV i.d st,[])) none (DV i.k)
 |none=>none
def lZ(P:ck)(E:XE)(i:IW)(r:Option (XS×AK×AK)):Option (XS×AK×AK):=match r with
 |some (st,rd,wr)=>match U8 P E i st with
  |some (st',w)=>some (st',HS P i.k (CG st.fr)++rd,w++wr)
  |none=>none
 |none=>none
def U9(P:ck)(E:XE):List IW->Option (XS×AK×AK)->Option (XS×AK×AK)
 |[],r=>r
 |i::l,r=>U9 P E l (lZ P E i r)
def aC(r:Option (XS×AK×AK)):Option XS:=match r with
 |some (st,rd,wr)=>Bool.rec none (some st) (wr.all fun p=>!(rd.contains p))
 |none=>none
structure mA where
 new:List Tmp
 ph:List IW
 sq:List IW
def gA(new:List Tmp)(st:XS):Bool:=new.all fun d=>(st.s.loc.get d).isNone
def AEJ(new:List Tmp)(r:Option XS):Option (XS×AK×AK):=match r with
 |some st=>Bool.rec none (some (st,[],[])) (gA new st)
 |none=>none
def VA(P:ck)(E:XE):List mA->Option XS->Option XS
 |[],r=>r
 |p::S,r=>VA P E S (OR P E p.sq (aC (U9 P E p.ph (AEJ p.new r))))
def dP(l:List cq)(R:List Nat):List IW:=R.filterMap fun i=>(l[i]?).map (comp l)
def dQ(l:List cq)(R:List Nat):List IW:=R.filterMap fun i=>(l[i]?).map (dO l)
def uB(l:List cq)(R:List Nat):List Tmp:=R.filterMap fun i=>match l[i]? with
 |some o=>cond (kA (DM l) o) o.dst none
 |none=>none
def uC(l:List cq)(p:List Nat×List Nat):mA:=⟨uB l p.1,dQ l p.1,dP l p.2⟩
def inB(l:List cq)(S:WH):Bool:=S.all fun p=>p.1.all (fun i=>bn i l.length)&&p.2.all (fun i=>bn i l.length)
theorem xW(all:List cq)(o:cq)(st:XS):fH P E (DM all) o st=DG P E o.dst (NA all o) st:=by
 obtain⟨d,op,T,pos,af,gd⟩:=o;cases op with
 |call c=>
  obtain⟨cal,args,Ts⟩:=c
  cases cal with
  |builtin b=>cases b<;>rfl
  |_=>rfl
 |_=>rfl
theorem AQ0(all:List cq)(o:cq)(r:cj->Option V):D7 P o r=HS P (NA all o) r:=by
 obtain⟨d,op,T,pos,af,gd⟩:=o;cases op with
 |call c=>
  obtain⟨cal,args,Ts⟩:=c
  cases cal with
  |builtin b=>cases b<;>rfl
  |_=>rfl
 |_=>rfl
theorem A27(all:List cq)(o:cq):(kA (DM all) o||kW o||kP o)=DV (NA all o):=by
 obtain⟨d,op,T,pos,af,gd⟩:=o;cases op with
 |call c=>
  obtain⟨cal,args,Ts⟩:=c
  cases cal with
  |builtin b=>cases b<;>rfl
  |value f=>simp[kA,kW,kP,DV,NA]
  |_=>rfl
 |_=>rfl
theorem AJE(all:List cq)(o:cq)(st:XS):pB P E all o st=U8 P E (comp all o) st:=by unfold pB U8;rw[xW,A27];rfl
theorem qF(d:Option Tmp)(k:IK)(st:XS):DG P E d (AEH k) st=DG P E d k st:=by cases k<;>rfl
theorem AJF(k:IK):DV (AEH k)=DV k:=by cases k<;>rfl
theorem AQ1(all:List cq)(o:cq)(st:XS):U8 P E (dO all o) st=U8 P E (comp all o) st:=by
 unfold dO comp;cases zB all o with
 |false=>rfl
 |true=>
  show U8 P E ⟨KU all o,o.dst,AEH (NA all o)⟩ st=_
  unfold U8
  simp only[qF,AJF]
theorem AQ2(all:List cq)(o:cq)(r:cj->Option V):cond (zB all o) [] (D7 P o r)=HS P (dO all o).k r:=by
 unfold dO;cases hz:zB all o with
 |false=>exact AQ0 all o r
 |true=>
  obtain⟨T,x,ho⟩:=ALK hz
  show[]=HS P (AEH (NA all o)) r
  unfold NA
  rw[ho]
  rfl
theorem PF:∀(l:List IW),U9 P E l none=none
 |[]=>rfl
 |_::l=>PF l
theorem AEK(l:List cq):∀(R:List Nat) (st:XS) (rd wr:AK),R.all (fun i=>bn i l.length)=true->phX P E l R st rd wr=U9 P E (dQ l R) (some (st,rd,wr))
 |[],st,rd,wr,_=>rfl
 |i::R,st,rd,wr,h=>by
  simp only[bb,bj,bf]at h;have hi:=bw h.1;have hp:dQ l (i::R)=dO l l[i]::dQ l R:=by simp[dQ,hi]
  rw[hp];simp only[phX,hi,U9,lZ,AJE,AQ1];cases U8 P E (comp l l[i]) st with
  |none=>exact(PF _).symm
  |some q=>
   obtain⟨st',w⟩:=q
   simp only
   rw[AEK l R _ _ _ h.2,AQ2 l]
theorem AEL(hl:E.lit=fun _=>false)(l:List cq):∀(R:List Nat) (st:XS),R.all (fun i=>bn i l.length)=true->sqX P E l R st=OR P E (dP l R) (some st)
 |[],st,_=>rfl
 |i::R,st,h=>by
  simp only[bb,bj,bf]at h;have hi:=bw h.1;have hp:dP l (i::R)=comp l l[i]::dP l R:=by simp[dP,hi]
  rw[hp];simp only[sqX,hi,OR,opO,AEI hl];cases opI P E (comp l l[i]) st with
  |none=>exact(H5 _).symm
  |some st'=>exact AEL hl l R st' h.2
theorem LP:∀(S:List mA),VA P E S none=none
 |[]=>rfl
 |p::S=>by simp only[VA,AEJ,PF,aC,H5];exact LP S
theorem mB(l:List cq)(st:XS):∀(R:List Nat),Y5 (DM l) l R st.s.loc=gA (uB l R) st
 |[]=>rfl
 |i::R=>by
  have ih:=mB l st R;unfold Y5 gA uB at *;simp only[bb,List.filterMap_cons,ih];cases hi:l[i]? with
  |none=>simp
  |some o=>
   simp only
   cases hk:kA (DM l) o with
   |false=>simp
   |true=>
    cases hd:o.dst with
    |none=>simp
    |some d=>simp
theorem uD(hl:E.lit=fun _=>false)(l:List cq):∀(S:WH) (st:XS),inB l S=true->wZ P E l S st=VA P E (S.map (uC l)) (some st)
 |[],st,_=>rfl
 |p::S,st,h=>by
  simp only[inB,bb,bj]at h;obtain⟨⟨h1,h2⟩,h3⟩:=h;simp only[wZ,List.map_cons,VA,uC,AEJ,mB];cases gA (uB l p.1) st with
  |false=>
   simp only[PF,aC,H5]
   exact(LP _).symm
  |true=>
   simp only[AEK l _ _ _ _ h1]
   cases U9 P E (dQ l p.1) (some (st,[],[]))with
   |none=>simp only[aC,H5];exact(LP _).symm
   |some q=>
    obtain⟨st1,rd,wr⟩:=q
    simp only[aC]
    cases (wr.all fun p=>!rd.contains p)with
    |false=>simp only[H5];exact(LP _).symm
    |true=>
     simp only[AEL hl l _ _ h2]
     cases OR P E (dP l p.2) (some st1)with
     |none=>exact(LP _).symm
     |some GV=>exact uD hl l S GV h3
inductive IR where
 |str (l:List IW)
 |drw (S:List mA)
 |cls (ks:List (Nat×Nat×Nat))
def uE(P:ck)(ops:List cq)(draw:Bool):IR:=cond draw (cond (WK P ops) (.cls (H4 ops)) (.drw ((bH ops).map (uC ops)))) (.str (ops.map (comp ops)))
def okR(P:ck)(ops:List cq)(draw:Bool):Bool:=cond draw (cond (WK P ops) true (inB ops (bH ops))) true
def KW(P:ck)(E:XE)(i:IR)(st:XS):Option XS:=match i with
 |.str l=>OR P E l (some st)
 |.drw S=>VA P E S (some st)
 |.cls ks=>QT P ks (some st)
end Go.Pg
namespace Go.Pg
variable {P:ck}{σ σ':Nat->Nat}{δ:Nat}{pre:List AA}{s:St}{fr:Fr}
abbrev Tr:=Option (List Nat×List Nat)
abbrev Ann:=Nat->Nat->Tr
def CL(a:Tr)(st:XS):XS:=match a with
 |some p=>QO p.1 p.2 st
 |none=>st
theorem LQ{a:Tr}{st:XS}(h:Bd st):KA st (CL a st):=by
 cases a with
 |none=>exact⟨Nat.le_refl _,h,rfl⟩
 |some p=>exact TD h
theorem H8{a:Tr}{st:XS}:(CL a st).c=st.c:=by cases a<;>rfl
theorem J5{n N:Nat}{ρ:Option Nat}{c:cw}{K:Exit->Fr->St->Prop}{a:Tr}{st:XS}(h:BE P n N ρ c K ((CL a st).fr.ren σ pre.length) ((CL a st).s.emb σ pre)):BE P n N ρ c K (st.fr.ren σ pre.length) (st.s.emb σ pre):=by
 cases a with
 |none=>exact h
 |some p=>exact U0 h
def A28(P:ck)(E:XE)(a:Tr)(l:List cq)(draw:Bool)(st:XS):Option XS:=Bool.rec (fF P E l l (CL a st)) (Bool.rec (P6 P E l (CL a st)) (QT P (H4 l) (some (CL a st))) (WK P l)) draw
def isY:List Nat->Bool
 |k::_=>bx k 777
 |[]=>false
def AEM(P:ck)(E:XE)(N:Nat)(a:Tr)(l:List cq)(draw:Bool)(us:List Nat)(st:XS):Option XS:=Bool.rec (A28 P (cfU us E) a l draw st) (Bool.rec none (tP P E N l (CL a st)) draw) (isY us)
def BM(rec:aP)(body:cw)(a:Tr)(n:Nat):XS->Option (Exit×XS):=Nat.rec (motive:=fun _=>XS->Option (Exit×XS)) (fun _=>none) (fun _ ih st=>match rec body st with
 |some (.normal,st')=>ih (CL a st')
 | r=>r) n
def gB(id:Nat)(l:List cq):Nat:=id+1000*l.length+1000000*(match l with
 |o::_=>match o.dst with
  |some d=>d
  |none=>0
 | []=>0)
def B0:cw->Nat
 |.region id ops _=>gB id ops.toList
 |.seq a _=>B0 a
 |.block _ c=>B0 c
 |.loop c=>B0 c
 |.scope c=>B0 c
 |_=>0
def xX:Tr->List Nat
 |some p=>p.1
 |none=>[]
def NB:Nat:=1000000000000000
def xY:Tr->List Nat
 |some p=>p.2
 |none=>[]
def VB(P:ck)(E:XE)(A:Ann)(n N:Nat)(rec:aP):aP:=fun code st=>match code with
 |.region id ops draw=>QP (AEM P E N (A N (gB id ops.toList)) ops.toList draw (xY (A N (gB id ops.toList+NB))) (MV (xX (A N (gB id ops.toList+NB))) st))
 |.loop body=>BM rec body (A N (B0 body)) n (CL (A N (B0 body)) st)
 |c=>ZI P E n N rec c st
def AF(P:ck)(A:Ann)(kn:CF0)(n:Nat):GJ:=Nat.rec (motive:=fun _=>GJ) (fun _ _ _=>none) (fun n ih N=>VB P (A1Y P kn (fun _ _ _=>none) (fun _=>false) ih) A n N (ih N)) n
theorem AJG(hP:D8 P){E:XE}(hEE:J2 P E){a:Tr}{id:Nat}{ops:Array cq}{draw:Bool}{N:Nat}(hN:EM N (.region id ops draw)=true){st st':XS}(hx:A28 P E a ops.toList draw st=some st')(hbd:Bd st):KA st st' /\
  ∀(n:Nat) (ρ:Option Nat) (σ:Nat->Nat) (pre:List AA) (K:Exit->Fr->St->Prop),(∀σ',AO st.c σ σ'->K .normal (st'.fr.ren σ' pre.length) (st'.s.emb σ' pre))->BE P n N ρ (.region id ops draw) K (st.fr.ren σ pre.length) (st.s.emb σ pre):=by
 obtain⟨l⟩:=ops
 have hT:=LQ (a:=a) hbd
 have ext:∀{st'},KA (CL a st) st'->KA st st':=fun h=>⟨by have:=h.c;rwa [H8]at this,h.bd,h.n.trans hT.n⟩
 cases draw with
 |false=>
  simp only[EM,cond_false,bj]at hN
  have hx:fF P E l l (CL a st)=some st':=hx
  obtain⟨hE,hs⟩:=fG hEE hT.bd hx
  refine⟨ext hE,fun n ρ σ pre K hk=>J5 (a:=a) ?_⟩
  exact VX (l.map (KU l)) hN.1 (fA (S7 hN.2)) (hs σ pre _ fun σ' ha=>hk σ' (by rwa [H8]at ha))
 |true=>
  simp only[EM,cond_true]at hN
  cases hc:WK P l with
  |true=>
   have hx:(Bool.rec (P6 P E l (CL a st)) (QT P (H4 l) (some (CL a st))) (WK P l):Option XS)=some st':=hx
   rw[hc]at hx
   obtain⟨hE,hs⟩:=AIZ (id:=id) hP hN hc hx hT.bd
   exact⟨ext hE,fun n ρ σ pre K hk=>J5 (a:=a) (hs n ρ σ pre K fun σ' ha=>hk σ' (by rwa [H8]at ha))⟩
  |false=>
  have hx:(Bool.rec (P6 P E l (CL a st)) (QT P (H4 l) (some (CL a st))) (WK P l):Option XS)=some st':=hx
  rw[hc]at hx
  obtain⟨hE,hs⟩:=Z2 (id:=id) hP hEE hN hx hT.bd
  exact⟨ext hE,fun n ρ σ pre K hk=>J5 (a:=a) (hs n ρ σ pre K fun σ' ha=>hk σ' (by rwa [H8]at ha))⟩
theorem AJH(hP:D8 P){E:XE}(hEE:J2 P E){a:Tr}{us:List Nat}{id:Nat}{ops:Array cq}{draw:Bool}{N:Nat}(hN:EM N (.region id ops draw)=true){st st':XS}(hx:AEM P E N a ops.toList draw us st=some st')(hbd:Bd st):KA st st' /\
  ∀(n:Nat) (ρ:Option Nat) (σ:Nat->Nat) (pre:List AA) (K:Exit->Fr->St->Prop),(∀σ',AO st.c σ σ'->K .normal (st'.fr.ren σ' pre.length) (st'.s.emb σ' pre))->BE P n N ρ (.region id ops draw) K (st.fr.ren σ pre.length) (st.s.emb σ pre):=by
 unfold AEM at hx
 cases hy:isY us with
 |false=>rw[hy]at hx;exact AJG hP (APW hEE _) hN hx hbd
 |true=>
  rw[hy]at hx
  cases draw with
  |false=>cases hx
  |true=>
   have hx:tP P E N ops.toList (CL a st)=some st':=hx
   have hT:=LQ (a:=a) hbd
   obtain⟨hE,hs⟩:=ADS hP hEE (id:=id) hx hT.bd
   refine⟨⟨by have:=hE.c;rwa [H8]at this,hE.bd,hE.n.trans hT.n⟩,fun n ρ σ pre K hk=>J5 (a:=a) ?_⟩
   exact hs n ρ σ pre K fun σ' ha=>hk σ' (by rwa [H8]at ha)
theorem AEN{N:Nat}{rec:aP}(hrec:ZM P N rec){body:cw}{a:Tr}(hN:EM N body=true)(m:Nat){st st':XS}{e:Exit}(hx:BM rec body a m (CL a st)=some (e,st'))(hbd:Bd st):KA st st'/\(∀l,e≠.goto l) /\
  ∀(n:Nat) (ρ:Option Nat) (σ:Nat->Nat) (pre:List AA) (K:Exit->Fr->St->Prop),(ρ=none\/F5 body=true)->(∀σ',AO st.c σ σ'->K e (st'.fr.ren σ' pre.length) (st'.s.emb σ' pre))->BE P n N ρ (.loop body) K (st.fr.ren σ pre.length) (st.s.emb σ pre):=by
 have up:∀{st st':XS},Bd st->KA (CL a st) st'->KA st st':=fun hbd h=>⟨by have:=h.c;rwa [H8]at this,h.bd,h.n.trans (LQ hbd).n⟩
 have ext:∀(m:Nat) {st:XS},BM rec body a m (CL a st)=some (e,st')->Bd st->KA st st'/\(∀l,e≠.goto l):=by
  intro m;induction m with
  |zero=>intro st hx _;cases hx
  |succ m ih=>
   intro st hx hbd
   have hx:(match rec body (CL a st)with
    |some (.normal,st')=>BM rec body a m (CL a st')
    | r=>r)=some (e,st'):=hx
   have hT:=LQ (a:=a) hbd
   split at hx
   ·rename_i st1 h1;obtain⟨hE,_,_⟩:=hrec _ _ _ _ h1 hT.bd hN;obtain⟨hE',hg⟩:=ih hx hE.bd;exact⟨up hbd ⟨Nat.le_trans hE.c hE'.c,hE'.bd,hE'.n.trans hE.n⟩,hg⟩
   ·obtain⟨hE,hg,_⟩:=hrec _ _ _ _ hx hT.bd hN;exact⟨up hbd ⟨hE.c,hE.bd,hE.n⟩,hg⟩
 obtain⟨hE,hg⟩:=ext m hx hbd
 refine⟨hE,hg,fun n ρ σ pre K hρ hk=>?_⟩
 refine cN (fun m fr s=>∃(st:XS) (σ:Nat->Nat),fr=st.fr.ren σ pre.length/\s=st.s.emb σ pre/\Bd st/\BM rec body a m (CL a st)=some (e,st')/\∀σ',AO st.c σ σ'->K e (st'.fr.ren σ' pre.length) (st'.s.emb σ' pre)) m ⟨st,σ,rfl,rfl,hbd,hx,hk⟩ ?_
 rintro m fr s ⟨st,σ,rfl,rfl,hbd,hx,hk⟩
 cases m with
 |zero=>cases hx
 |succ m=>
  have hx:(match rec body (CL a st)with
   |some (.normal,st')=>BM rec body a m (CL a st')
   | r=>r)=some (e,st'):=hx
  have hT:=LQ (a:=a) hbd
  refine J5 (a:=a) ?_
  split at hx
  ·rename_i st1 h1;obtain⟨hE,_,hC⟩:=hrec _ _ _ _ h1 hT.bd hN;refine hC n ρ σ pre _ hρ fun σ' ha=>?_;rw[H8]at ha;exact⟨m,Nat.lt_succ_self _,st1,σ',rfl,rfl,hE.bd,hx,fun σ'' ha'=>hk σ'' (ha.trans ha' (by have:=hE.c;rwa [H8]at this))⟩
  ·rename_i hne;obtain⟨hE,hg,hC⟩:=hrec _ _ _ _ hx hT.bd hN;refine hC n ρ σ pre _ hρ fun σ' ha=>?_;rw[H8]at ha;have:=hk σ' ha;cases e with
   |normal=>exact absurd hx (hne st')
   |_=>exact this
theorem gC(hP:D8 P){E:XE}(hEE:J2 P E){A:Ann}{N:Nat}{rec:aP}(hrec:ZM P N rec)(m:Nat):ZM P N (VB P E A m N rec):=by
 intro code st e st' hx hbd hN;unfold VB at hx;split at hx
 ·rename_i id ops draw;obtain⟨rfl,hx2⟩:=lR hx;have hT:=tK (xX (A N (gB id ops.toList+NB))) hbd;obtain⟨hE,hs⟩:=AJH hP hEE hN hx2 hT.bd;exact⟨⟨Nat.le_trans hT.c hE.c,hE.bd,hE.n.trans hT.n⟩,(by intro l h;cases h),fun n ρ σ pre K _ hk=>lM _ (hs n ρ σ pre K fun σ' ha=>hk σ' (by rwa [ALS]at ha))⟩
 ·rename_i body;have hN:EM N body=true:=hN;obtain⟨h1,h2,h3⟩:=AEN hrec hN m hx hbd;exact⟨h1,h2,fun n ρ σ pre K hρ hk=>h3 n ρ σ pre K hρ hk⟩
 ·exact lS hP hEE hrec m _ _ _ _ hx hbd hN
theorem aD(hP:D8 P){A:Ann}{kn:CF0}(hkn:HE P kn):∀n,ZN P (AF P A kn n)
 |0=>fun N code st e st' hx=>by cases hx
 |n+1=>fun N=>by have ih:=aD hP (A:=A) hkn n;exact gC hP ⟨AC5 hP hkn ih,AI1 hP ih,ZR hP hkn ih,AC4 hP hkn (ko:=fun _ _ _=>none) (fun _ _ _ _ h=>by cases h) ih⟩ (ih N) n
theorem AEO(hP:D8 P){A:Ann}{kn:CF0}(hkn:HE P kn){n:Nat}{f:cz}{args:List V}{r:V}(h:EG P (AF P A kn n) f args=some r)(s:St):E6 P f args s fun r' s'=>r'=r/\s'=s :=
 (ZP hP (aD hP hkn n) f args r h).1 s
section
variable {A:Ann}{kn:CF0}{n N:Nat}{st:XS}
abbrev BI(P:ck)(A:Ann)(kn:CF0)(n:Nat):XE:=A1Y P kn (fun _ _ _=>none) (fun _=>false) (AF P A kn n)
theorem AEP(a b:cw):AF P A kn (n+1) N (.seq a b) st=fI (AF P A kn n N) b (AF P A kn n N a st):=rfl
theorem xZ(c:cj)(a b:cw):AF P A kn (n+1) N (.cond c a b) st=lB (AF P A kn n N) a b st (CG st.fr c):=rfl
theorem qH(id:Nat)(b:cw):AF P A kn (n+1) N (.block id b) st=MU id (AF P A kn n N b st):=rfl
theorem yA(b:cw):AF P A kn (n+1) N (.loop b) st=BM (AF P A kn n N) b (A N (B0 b)) n (CL (A N (B0 b)) st):=rfl
theorem yB:AF P A kn (n+1) N .skip st=some (.normal,st):=rfl
theorem yC(id:Nat):AF P A kn (n+1) N (.exit id) st=some (.exit id,st):=rfl
theorem AEQ:AF P A kn (n+1) N .ret st=some (.ret,st):=rfl
theorem qI(b:cw):AF P A kn (n+1) N (.scope b) st=AF P A kn n N b st:=rfl
theorem MY(g:cj)(ps:Array Tmp)(asg body:cw):AF P A kn (n+1) N (.rangeFunc g ps asg body) st=U1 (BI P A kn n).cf N g ps.toList asg body st:=rfl
theorem AER(a b:cw):B0 (.seq a b)=B0 a:=rfl
theorem qJ(id:Nat)(b:cw):B0 (.block id b)=B0 b:=rfl
theorem yD(b:cw):B0 (.loop b)=B0 b:=rfl
theorem AB(rec:aP)(body:cw)(a:Tr):BM rec body a (n+1) st=match rec body st with
 |some (.normal,st')=>BM rec body a n (CL a st')
 |r=>r:=rfl
theorem mC(rec:aP)(b:cw):fI rec b (some (.normal,st))=rec b st:=rfl
theorem AES(rec:aP)(b:cw):fI rec b (some (.ret,st))=some (.ret,st):=rfl
theorem yE(rec:aP)(b:cw)(i:Nat):fI rec b (some (.exit i,st))=some (.exit i,st):=rfl
theorem AET(rec:aP)(b:cw)(c:Prop)[Decidable c](x y:Option (Exit×XS)):fI rec b (if c then x else y)=if c then fI rec b x else fI rec b y:=by split<;>rfl
theorem bT(id:Nat):MU id (some (.normal,st))=some (.normal,st):=rfl
theorem qK(id:Nat):MU id (some (.ret,st))=some (.ret,st):=rfl
theorem mD(id i:Nat):MU id (some (.exit i,st))=if i=id then some (.normal,st) else some (.exit i,st):=by
 show(Bool.rec _ _ (bx i id):Option (Exit×XS))=_;by_cases h:i=id
 ·subst h;simp
 ·have:bx i id=false:=by
   cases hb:bx i id with
   |false=>rfl
   |true=>exact absurd (Nat.eq_of_beq_eq_true hb) h
  simp[h,this]
theorem qM(id:Nat)(c:Prop)[Decidable c](x y:Option (Exit×XS)):MU id (if c then x else y)=if c then MU id x else MU id y:=by split<;>rfl
def uF:cw->Bool
 |.region ..=>true
 |_=>false
def V7:cw->List cq
 |.region _ ops _=>ops.toList
 |_=>[]
def OS:cw->Bool
 |.region _ _ d=>d
 |_=>false
theorem uG(us:List Nat){E:XE}(h:E.lit=fun _=>false):(cfU us E).lit=fun _=>false:=by cases us<;>exact h
theorem VC{r:cw}(hr:uF r=true){i:IR}(hi:uE P (V7 r) (OS r)=i)(hok:okR P (V7 r) (OS r)=true){a:Tr}(ha:A N (B0 r)=a){ks us:List Nat}(ht:xX (A N (B0 r+NB))=ks)(hu:xY (A N (B0 r+NB))=us)(hy:isY us=false:=by rfl):AF P A kn (n+1) N r st=QP (KW P (cfU us (BI P A kn n)) i (CL a (MV ks st))):=by
 cases r with
 |region id ops draw=>
  subst hi ha ht hu
  show QP (AEM P _ N (A N (gB id ops.toList)) ops.toList draw (xY (A N (gB id ops.toList+NB))) (MV (xX (A N (gB id ops.toList+NB))) st))=_
  unfold AEM
  rw[show isY (xY (A N (gB id ops.toList+NB)))=false from hy]
  cases draw with
  |false=>exact congrArg QP (uA (uG _ rfl) _ _ _)
  |true=>
   show QP (Bool.rec (P6 P _ ops.toList _) (QT P (H4 ops.toList) (some _)) (WK P ops.toList))=QP (KW P _ (cond (WK P ops.toList) (.cls (H4 ops.toList)) (.drw ((bH ops.toList).map (uC ops.toList)))) _)
   have hok:cond (WK P ops.toList) true (inB ops.toList (bH ops.toList))=true:=hok
   cases hc:WK P ops.toList with
   |true=>rfl
   |false=>
    rw[hc]at hok
    exact congrArg QP (uD (uG _ rfl) _ _ _ hok)
 |_=>cases hr
theorem EN{r:cw}(hr:uF r=true){i:IR}(hi:uE P (V7 r) (OS r)=i)(hok:okR P (V7 r) (OS r)=true){a:Tr}(ha:A N (B0 r)=a){ks:List Nat}(ht:xX (A N (B0 r+NB))=ks)(hu:xY (A N (B0 r+NB))=[]:=by kernel_rfl):AF P A kn (n+1) N r st=QP (KW P (BI P A kn n) i (CL a (MV ks st))):=VC hr hi hok ha ht hu rfl
theorem AEU{r:cw}(hr:uF r=true){i:IR}(hi:uE P (V7 r) (OS r)=i)(hok:okR P (V7 r) (OS r)=true){a:Tr}(ha:A N (B0 r)=a)(ht:A N (B0 r+NB)=none:=by kernel_rfl):AF P A kn (n+1) N r st=QP (KW P (BI P A kn n) i (CL a st)):=EN hr hi hok ha (congrArg xX ht) (congrArg xY ht)
def WM(P:ck)(rs:List ResultVar)(r:Option (Exit×XS)):Option V:=match r with
 |some (.ret,st)=>finV st.s (E8 P rs st.fr st.s)
 |some (.normal,st)=>finV st.s (E8 P rs st.fr st.s)
 |_=>none
where finV (s:St) (r:Option V):Option V:=match r with
 |some v=>match AY s 4 v with
  |some r'=>Bool.rec none (some r') (AE 9 r')
  |none=>none
 |none=>none
theorem AQ{f:cz}{fn:Func}{c:cw}{args:List V}{rec:GJ}(hf:P.funcs[f]? = some fn)(hb:fn.body=some c)(hs:bm args.length fn.ntmps=true)(hcl:args.all (AE 9)=true) :
  EG P rec f args=WM P fn.results.toList (rec fn.ntmps c ⟨0,AD 0 args,⟨[],[]⟩⟩):=by
 unfold EG dA V5 lC
 rw[hcl,hf]
 simp only[hb,hs]
 generalize rec fn.ntmps c ⟨0,AD 0 args,⟨[],[]⟩⟩=q
 have aux:∀st:XS,(match(match E8 P fn.results.toList st.fr st.s with
   |some r=>match AY st.s 4 r with
    |some r'=>some (r',st.c,st.s.up.map (AH st.s))
    |none=>none
   | none=>none:Option (V×Nat×List AA))with
  |some (r,_,_)=>(Bool.rec none (some r) (AE 9 r):Option V)
  | none=>none)=WM.finV st.s (E8 P fn.results.toList st.fr st.s):=fun st=>by
  unfold WM.finV
  cases E8 P fn.results.toList st.fr st.s with
  |none=>rfl
  |some r=>
   cases h:AY st.s 4 r with
   |none=>simp[h]
   |some r'=>simp[h]
 cases q with
 |none=>rfl
 |some q=>
  obtain⟨e,st⟩:=q
  cases e with
  |ret=>exact aux st
  |normal=>exact aux st
  |_=>rfl
theorem AEV(rs:List ResultVar)(c:Prop)[Decidable c](x y:Option (Exit×XS)):WM P rs (if c then x else y)=if c then WM P rs x else WM P rs y:=by split<;>rfl
end
def KX:cw->List Nat->cw
 |c,[]=>c
 |.seq a b,i::p=>bif bx i 0 then KX a p else KX b p
 |.cond _ a b,i::p=>bif bx i 0 then KX a p else KX b p
 |.block _ a,_::p=>KX a p
 |.loop a,_::p=>KX a p
 |.scope a,_::p=>KX a p
 |.rangeFunc _ _ a b,i::p=>bif bx i 0 then KX a p else KX b p
 |c,_=>c
def AQ3(fn:Func):cw:=match fn.body with
 |some c=>c
 |none=>.skip
end Go.Pg
namespace Go.Pg
variable {P:ck}{E:XE}{st:XS}{fr:Fr}{s:St}
@[simp] theorem A29(r:Option XS):OR P E [] r=r:=rfl
@[simp] theorem AVN(i:IW)(l:List IW)(r:Option XS):OR P E (i::l) r=OR P E l (opO P E i r):=rfl
@[simp] theorem A3A(i:IW):opO P E i (some st)=opI P E i st:=rfl
@[simp] theorem A3B(i:IW):opO P E i none=none:=rfl
@[simp] theorem A7Z(i:IW)(c:Prop)[Decidable c](x y:Option XS):opO P E i (if c then x else y)=if c then opO P E i x else opO P E i y:=by split<;>rfl
@[simp] theorem A3C(l:List IW)(c:Prop)[Decidable c](x y:Option XS):OR P E l (if c then x else y)=if c then OR P E l x else OR P E l y:=by split<;>rfl
def gI(P:ck)(E:XE)(d:Option Tmp)(k:IK)(st:XS)(w:Bool)(r:Option (Bool×V)):Option XS:=match r with
 |some (c,.bool b)=>Bool.rec (some (HV d st)) (CT P E d k st) (c&&(b==w))
 |_=>none
@[simp] theorem A3D(d:Option Tmp)(k:IK):opI P E ⟨none,d,k⟩ st=CT P E d k st:=rfl
@[simp] theorem AVO(t:Tmp)(w:Bool)(d:Option Tmp)(k:IK):opI P E ⟨some (t,w),d,k⟩ st=gI P E d k st w (BS st.fr t):=by
 show(match(match BS st.fr t with | some (c,.bool b)=>some (c&&(b == w)) | _=>none:Option Bool)with
  |some true=>CT P E d k st
  |some false=>some (HV d st)
  | none=>none)=_
 unfold gI;cases BS st.fr t with
 |none=>rfl
 |some p=>
  obtain⟨c,v⟩:=p
  cases v with
  |bool b=>cases h:(c&&(b==w))<;>simp[h]
  |_=>rfl
@[simp] theorem BF4(d:Option Tmp)(k:IK):gI P E d k st true (some (true,.bool true))=CT P E d k st:=rfl
@[simp] theorem BF5(d:Option Tmp)(k:IK):gI P E d k st true (some (true,.bool false))=some (HV d st):=rfl
@[simp] theorem BF6(d:Option Tmp)(k:IK):gI P E d k st false (some (true,.bool true))=some (HV d st):=rfl
@[simp] theorem BF7(d:Option Tmp)(k:IK):gI P E d k st false (some (true,.bool false))=CT P E d k st:=rfl
@[simp] theorem BF8(d:Option Tmp)(k:IK)(w b:Bool):gI P E d k st w (some (false,.bool b))=some (HV d st):=rfl
@[simp] theorem A3E(d:Tmp)(c:Nat)(fr:Fr)(s:St):HV (some d) ⟨c,fr,s⟩=⟨c,(d,false,.bool false)::fr,s⟩:=rfl
@[simp] theorem A3F(c:Nat)(fr:Fr)(s:St):HV none ⟨c,fr,s⟩=⟨c,fr,s⟩:=rfl
@[simp] theorem A3G(k:Nat):BS [] k=none:=rfl
@[simp] theorem AVP(j:Nat)(x:Bool×V)(fr:Fr)(k:Nat):BS ((j,x)::fr) k=if k=j then some x else BS fr k:=by rw[E2,E2];rfl
@[simp] theorem AQ4(j:Nat)(x:Nat×AX)(L:AA)(k:Nat):AA.get ((j,x)::L) k=if k=j then some x else L.get k:=rfl
def rdT:Option (Bool×V)->Option V
 |some (true,v)=>some v
 |_=>none
@[simp] theorem AEW(v:V):rdT (some (true,v))=some v:=rfl
@[simp] theorem AVR(v:V):rdT (some (false,v))=none:=rfl
@[simp] theorem A3H:rdT none=none:=rfl
@[simp] theorem A70(t:Tmp):CG fr (.tmp t)=rdT (BS fr t):=by
 show(match BS fr t with
  |some (true,v)=>some v
  | _=>none)=_
 cases BS fr t with
 |none=>rfl
 |some p=>obtain⟨c,v⟩:=p;cases c<;>rfl
@[simp] theorem AVS(v:Value):CG fr (.const v)=CM v:=rfl
@[simp] theorem A3I(f:cz):CG fr (.func f)=some (.fn f [] []):=rfl
@[simp] theorem A71(t:Tmp):rdC fr (.tmp t)=BS fr t:=rfl
@[simp] theorem A3J(b:Bool):rdC fr (.const (.bool b))=some (true,.bool b):=rfl
@[simp] theorem AQ5(k:cx)(n:Int):CM (.int k n)=some (.int k n):=rfl
@[simp] theorem AL5(b:Bool):CM (.bool b)=some (.bool b):=rfl
@[simp] theorem AQ6:CM (.slice none 0 0)=some .nil:=rfl
@[simp] theorem AVT(d:Tmp)(c:Nat)(fr:Fr)(s:St)(v:V):D0 (some d) ⟨c,fr,s⟩ (some v)=some ⟨c,(d,true,v)::fr,s⟩:=rfl
@[simp] theorem A72(c:Nat)(fr:Fr)(s:St)(v:V):D0 none ⟨c,fr,s⟩ (some v)=some ⟨c,fr,s⟩:=rfl
@[simp] theorem AVU(d:Option Tmp):D0 d st none=none:=rfl
@[simp] theorem A3K(d:Option Tmp)(c:Prop)[Decidable c](x y:Option V):D0 d st (if c then x else y)=if c then D0 d st x else D0 d st y:=by split<;>rfl
section
variable (d:Option Tmp)(c:Nat)
@[simp] theorem A3L(x:cj):CT P E d (.mv x) ⟨c,fr,s⟩=D0 d ⟨c,fr,s⟩ (CG fr x):=rfl
def AQ7(P:ck)(op:BinOp)(T:bp):Option V->Option V->Option V
 |some a,some b=>GZ P op T a b
 |_,_=>none
@[simp] theorem AVV(op:BinOp)(T:bp)(a b:V):AQ7 P op T (some a) (some b)=GZ P op T a b:=rfl
@[simp] theorem AVW(op:BinOp)(T:bp)(x y:cj):CT P E d (.bin op T x y) ⟨c,fr,s⟩=D0 d ⟨c,fr,s⟩ (AQ7 P op T (CG fr x) (CG fr y)):=by show D0 d _ (wX P fr op T x y)=_;unfold wX AQ7;cases CG fr x<;>cases CG fr y<;>rfl
def fa1(P:ck)(T:bp)(f:Nat):Option V->Option V
 |some p=>C7 P T p f
 |none=>none
@[simp] theorem A3M(T:bp)(f:Nat)(p:V):fa1 P T f (some p)=C7 P T p f:=rfl
@[simp] theorem A3N(T:bp)(x:cj)(f:Nat):CT P E d (.fa T x f) ⟨c,fr,s⟩=D0 d ⟨c,fr,s⟩ (fa1 P T f (CG fr x)):=by show D0 d _ (xFA P fr T x f)=_;unfold xFA fa1;cases CG fr x<;>rfl
def wh1(P:ck)(T:bp):Option (List V)->Option V
 |some cs=>BJ P T cs
 |none=>none
@[simp] theorem A3O(T:bp)(cs:List V):wh1 P T (some cs)=BJ P T cs:=rfl
def ld1(P:ck)(s:St)(T:bp):Option V->Option V
 |some p=>wh1 P T (A5 s p)
 |none=>none
@[simp] theorem AEX(T:bp)(p:V):ld1 P s T (some p)=wh1 P T (A5 s p):=rfl
@[simp] theorem A3P(T:bp)(x:cj):CT P E d (.ld T x) ⟨c,fr,s⟩=D0 d ⟨c,fr,s⟩ (ld1 P s T (CG fr x)):=by
 show D0 d _ (M7 P fr s T x)=_;unfold M7 ld1;cases CG fr x with
 |none=>rfl
 |some p=>unfold wh1;cases A5 s p<;>rfl
def pk3:Option V->Option (Bool×V)->Option (Bool×V)->Option V
 |some (.bool c),some (ca,.bool a),some (cb,.bool b)=>Bool.rec (Bool.rec none (some (.bool b)) cb) (Bool.rec none (some (.bool a)) ca) c
 |_,_,_=>none
@[simp] theorem A3Q(a cb b:Bool):pk3 (some (.bool true)) (some (true,.bool a)) (some (cb,.bool b))=some (.bool a):=rfl
@[simp] theorem AVX(ca a b:Bool):pk3 (some (.bool false)) (some (ca,.bool a)) (some (true,.bool b))=some (.bool b):=rfl
@[simp] theorem A3R(c a b:Bool):pk3 (some (.bool c)) (some (true,.bool a)) (some (true,.bool b))=some (.bool (if c then a else b)):=by cases c<;>rfl
@[simp] theorem AQ8(x y z:cj):CT P E d (.pick x y z) ⟨c,fr,s⟩=D0 d ⟨c,fr,s⟩ (pk3 (CG fr x) (rdC fr y) (rdC fr z)):=rfl
def ba2:Option V->Nat->Option (List (Nat×V))->Option (List (Nat×V))
 |some v,i,some l=>some ((i,v)::l)
 |_,_,_=>none
@[simp] theorem A3S(v:V)(i:Nat)(l:List (Nat×V)):ba2 (some v) i (some l)=some ((i,v)::l):=rfl
@[simp] theorem AQ9(r:cj->Option V):C9 r []=some []:=rfl
@[simp] theorem AL6(r:cj->Option V)(i:Nat)(x:cj)(l:List (Nat×cj)):C9 r ((i,x)::l)=ba2 (r x) i (C9 r l):=by simp only[C9];unfold ba2;cases r x<;>cases C9 r l<;>rfl
def bd1(P:ck)(T:bp):Option (List (Nat×V))->Option V
 |some l=>C4 P T l
 |none=>none
@[simp] theorem A3T(T:bp)(l:List (Nat×V)):bd1 P T (some l)=C4 P T l:=rfl
@[simp] theorem AL7(T:bp)(ps:List (Nat×cj)):CT P E d (.build T ps) ⟨c,fr,s⟩=D0 d ⟨c,fr,s⟩ (bd1 P T (C9 (CG fr) ps)):=by show D0 d _ (UV P fr T ps)=_;unfold UV bd1;cases C9 (CG fr) ps<;>rfl
def bs1(P:ck)(T:bp)(n:Nat):Option (List (Nat×V))->Option V
 |some l=>B8 P T n l
 |none=>none
@[simp] theorem A3U(T:bp)(n:Nat)(l:List (Nat×V)):bs1 P T n (some l)=B8 P T n l:=rfl
@[simp] theorem AJI(T:bp)(n:Nat)(ps:List (Nat×cj)):CT P E d (.buildS T n ps) ⟨c,fr,s⟩=D0 d ⟨c,fr,s⟩ (bs1 P T n (C9 (CG fr) ps)):=by show D0 d _ (PA P fr T n ps)=_;unfold PA bs1;cases C9 (CG fr) ps<;>rfl
@[simp] theorem AVY(op:Op):CT P E d (.oth op) ⟨c,fr,s⟩=D0 d ⟨c,fr,s⟩ (I9 P (lY op) s (CG fr)):=rfl
def al1(d:Tmp)(c:Nat)(fr:Fr)(s:St):Option (List V)->Option XS
 |some cs=>some ⟨c+1,(d,true,.ptr s.up.length d c 0)::fr,s.put s.up.length d c (.box cs)⟩
 |none=>none
@[simp] theorem A3V(d:Tmp)(cs:List V):al1 d c fr s (some cs)=some ⟨c+1,(d,true,.ptr s.up.length d c 0)::fr,s.put s.up.length d c (.box cs)⟩:=rfl
@[simp] theorem AL8(d:Tmp)(T:bp):CT P E (some d) (.alloc T) ⟨c,fr,s⟩=al1 d c fr s (CB P T):=by show OE P (some d) T _=_;unfold OE al1;cases CB P T<;>rfl
def yF(d:Tmp)(c:Nat)(fr:Fr)(s:St):Option V->Option XS
 |some v=>Bool.rec none (some ⟨c+1,(d,true,.ptr s.up.length d c 0)::fr,s.put s.up.length d c (.box (A7 v))⟩) (BC v)
 |none=>none
@[simp] theorem A76(d:Tmp)(k:cx)(n:Int):yF d c fr s (some (.int k n))=some ⟨c+1,(d,true,.ptr s.up.length d c 0)::fr,s.put s.up.length d c (.box [.int k n])⟩:=rfl
@[simp] theorem A3W(d:Tmp)(b:Bool):yF d c fr s (some (.bool b))=some ⟨c+1,(d,true,.ptr s.up.length d c 0)::fr,s.put s.up.length d c (.box [.bool b])⟩:=rfl
@[simp] theorem A77(d:Tmp)(cs:List V):yF d c fr s (some (.agg cs))=some ⟨c+1,(d,true,.ptr s.up.length d c 0)::fr,s.put s.up.length d c (.box cs)⟩:=rfl
@[simp] theorem A3X(d:Tmp)(b:Bool)(es:List (List V)):yF d c fr s (some (.list b es))=some ⟨c+1,(d,true,.ptr s.up.length d c 0)::fr,s.put s.up.length d c (.box [.list b es])⟩:=rfl
@[simp] theorem A78(d:Tmp):yF d c fr s (some .nil)=some ⟨c+1,(d,true,.ptr s.up.length d c 0)::fr,s.put s.up.length d c (.box [.nil])⟩:=rfl
@[simp] theorem A79(d:Tmp)(l k g n:Nat):yF d c fr s (some (.vec l k g n))=some ⟨c+1,(d,true,.ptr s.up.length d c 0)::fr,s.put s.up.length d c (.box [.vec l k g n])⟩:=rfl
@[simp] theorem BCY(d:Tmp)(l k g:Nat):yF d c fr s (some (.mp l k g))=some ⟨c+1,(d,true,.ptr s.up.length d c 0)::fr,s.put s.up.length d c (.box [.mp l k g])⟩:=rfl
@[simp] theorem AVZ(d:Tmp)(x:cj):CT P E (some d) (.box x) ⟨c,fr,s⟩=yF d c fr s (CG fr x):=by show kO (some d) x _=_;unfold kO yF;cases CG fr x<;>rfl
def st3(γ:Nat)(P:ck)(T:bp)(c:Nat)(fr:Fr)(s:St)(l q off:Nat)(v:V):Option (Nat×AX)->Option XS
 |some (γ',.box cs)=>if γ'=γ/\BC v=true/\0<P.cellsOf T/\(A7 v).length=P.cellsOf T/\off+P.cellsOf T<=cs.length/\γ<c then some ⟨c,fr,s.put l q γ (.box (A0 cs off (A7 v)))⟩ else none
 |_=>none
def st4(γ:Nat)(P:ck)(T:bp)(c:Nat)(fr:Fr)(s:St)(l q i off:Nat)(v:V):Option (Nat×AX)->Option XS
 |some (γ',.vec U es)=>if γ'=γ/\BC v=true/\0<P.cellsOf T/\(A7 v).length=P.cellsOf T/\i<es.length/\off+P.cellsOf T<=(es.getD i []).length/\γ<c then some ⟨c,fr,s.put l q γ (.vec U (es.set i (A0 (es.getD i []) off (A7 v))))⟩ else none
 |_=>none
def GV(P:ck)(T:bp)(c:Nat)(fr:Fr)(s:St):Option V->Option V->Option XS
 |some (.ptr l q γ off),some v=>st3 γ P T c fr s l q off v (s.get l q)
 |some (.eptr l q γ i off),some v=>st4 γ P T c fr s l q i off v (s.get l q)
 |_,_=>none
@[simp] theorem AJJ(T:bp)(l q γ off:Nat)(v:V):GV P T c fr s (some (.ptr l q γ off)) (some v)=st3 γ P T c fr s l q off v (s.get l q):=rfl
@[simp] theorem AEY(T:bp)(l q γ i off:Nat)(v:V):GV P T c fr s (some (.eptr l q γ i off)) (some v)=st4 γ P T c fr s l q i off v (s.get l q):=rfl
@[simp] theorem AJK(γ γ':Nat)(T:bp)(l q off:Nat)(v:V)(cs:List V):st3 γ P T c fr s l q off v (some (γ',.box cs))=if γ'=γ/\BC v=true/\0<P.cellsOf T/\(A7 v).length=P.cellsOf T/\off+P.cellsOf T<=cs.length/\γ<c then some ⟨c,fr,s.put l q γ (.box (A0 cs off (A7 v)))⟩ else none:=rfl
@[simp] theorem AJL(γ γ':Nat)(T:bp)(l q i off:Nat)(v:V)(U:bp)(es:List (List V)):st4 γ P T c fr s l q i off v (some (γ',.vec U es))=if γ'=γ/\BC v=true/\0<P.cellsOf T/\(A7 v).length=P.cellsOf T/\i<es.length/\off+P.cellsOf T<=(es.getD i []).length/\γ<c then some ⟨c,fr,s.put l q γ (.vec U (es.set i (A0 (es.getD i []) off (A7 v))))⟩ else none:=rfl
theorem AJM(T:bp)(x y:cj):I4 P none T x y ⟨c,fr,s⟩=GV P T c fr s (CG fr x) (CG fr y):=by
 unfold I4;simp only;cases CG fr x with
 |none=>rfl
 |some p=>
  cases CG fr y with
  |none=>cases p<;>rfl
  |some v=>
   cases p with
   |ptr l q γ off=>
    simp only[AJJ]
    cases s.get l q with
    |none=>rfl
    |some z=>
     obtain⟨γ',r⟩:=z
     cases r with
     |box cs=>
      simp only[AJK,bj,bf,Nat.ble_eq,bg,and_assoc]
     |_=>rfl
   |eptr l q γ i off=>
    simp only[AEY]
    cases s.get l q with
    |none=>rfl
    |some z=>
     obtain⟨γ',r⟩:=z
     cases r with
     |vec U es=>
      simp only[AJL,bj,bf,Nat.ble_eq,bg,and_assoc]
     |_=>rfl
   |_=>rfl
@[simp] theorem AV0(T:bp)(x y:cj):CT P E none (.sto T x y) ⟨c,fr,s⟩=GV P T c fr s (CG fr x) (CG fr y):=AJM c T x y
def apW(P:ck)(e:bp)(d c:Nat)(fr:Fr)(s:St)(l q γ n:Nat)(ys:List (List V)):Option (Nat×AX)->Option XS
 |some (γ',.vec W es)=>if γ'=γ/\W=e/\n=es.length/\es.all (fun y=>y.length==P.cellsOf e)=true/\B9 P e es.length ys=true then
   some ⟨c+1,(d,true,.vec l q c (es.length+ys.length))::fr,s.put l q c (.vec e (es++ys))⟩ else none
 |_=>none
@[simp] theorem TM(e:bp)(d:Nat)(l q γ γ' n:Nat)(ys es:List (List V))(W:bp):apW P e d c fr s l q γ n ys (some (γ',.vec W es))=if γ'=γ/\W=e/\n=es.length/\es.all (fun y=>y.length==P.cellsOf e)=true/\B9 P e es.length ys=true then
   some ⟨c+1,(d,true,.vec l q c (es.length+ys.length))::fr,s.put l q c (.vec e (es++ys))⟩ else none:=rfl
def yZ(P:ck)(e:bp)(d c:Nat)(fr:Fr)(s:St)(xv:V)(ys:List (List V)):Option XS:=match IJ xv ys with
 |some es=>if es.all (fun y=>y.length==P.cellsOf e)=true/\B9 P e es.length ys=true then some ⟨c+1,(d,true,.vec s.up.length d c (es.length+ys.length))::fr,s.put s.up.length d c (.vec e (es++ys))⟩ else none
 |none=>match xv with
  |.vec l q γ n=>apW P e d c fr s l q γ n ys (QE n ys (s.get l q))
  |_=>none
@[simp] theorem mE(n γ:Nat)(ys es:List (List V))(U:bp):QE n ys (some (γ,.vec U es))=some (γ,.vec U (YD n ys es)):=rfl
@[simp] theorem AV1(n:Nat)(ys:List (List V)):QE n ys none=none:=rfl
attribute [simp] UG
@[simp] theorem A8A(e:bp)(d:Nat)(ys:List (List V)):yZ P e d c fr s .nil ys=if B9 P e 0 ys=true then some ⟨c+1,(d,true,.vec s.up.length d c ys.length)::fr,s.put s.up.length d c (.vec e ys)⟩ else none:=by simp[yZ,IJ]
@[simp] theorem A8B(e:bp)(d:Nat)(ys:List (List V)):yZ P e d c fr s (.list true []) ys=if B9 P e 0 ys=true then some ⟨c+1,(d,true,.vec s.up.length d c ys.length)::fr,s.put s.up.length d c (.vec e ys)⟩ else none:=by simp[yZ,IJ]
@[simp] theorem A3Z(e:bp)(d:Nat)(z y:List V)(es ys:List (List V)):yZ P e d c fr s (.list true (z::es)) (y::ys)=if (z::es).all (fun y=>y.length==P.cellsOf e)=true/\B9 P e (z::es).length (y::ys)=true then
   some ⟨c+1,(d,true,.vec s.up.length d c ((z::es).length+(y::ys).length))::fr,s.put s.up.length d c (.vec e ((z::es)++(y::ys)))⟩ else none:=rfl
@[simp] theorem AJN(e:bp)(d:Nat)(l q γ n:Nat)(ys:List (List V)):yZ P e d c fr s (.vec l q γ n) ys=apW P e d c fr s l q γ n ys (QE n ys (s.get l q)):=by simp[yZ,IJ]
def ap3(P:ck)(d c:Nat)(fr:Fr)(s:St):Option (Option Nat×bp)->Option V->Option V->Option XS
 |some (none,e),some xv,some yv=>ap4 e xv (elemsOf s yv)
 |_,_,_=>none
where ap4 (e:bp) (xv:V):Option (List (List V))->Option XS
 |some ys=>yZ P e d c fr s xv ys
 |none=>none
@[simp] theorem AEZ(d:Nat)(e:bp)(xv yv:V):ap3 P d c fr s (some (none,e)) (some xv) (some yv)=ap3.ap4 P d c fr s e xv (elemsOf s yv):=rfl
@[simp] theorem AE0(d:Nat)(e:bp)(xv:V)(ys:List (List V)):ap3.ap4 P d c fr s e xv (some ys)=yZ P e d c fr s xv ys:=rfl
@[simp] theorem AJO(b:Bool)(es:List (List V)):elemsOf s (.list b es)=some es:=rfl
@[simp] theorem AL9:elemsOf s .nil=some []:=rfl
theorem ifB{α:Type}{b:Bool}{x y:α}:(Bool.rec y x b:α)=if b=true then x else y:=by cases b<;>rfl
theorem yG{k:Nat}{e:bp}(d:Nat)(x y:Option V):ap3 P d c fr s (some (some k,e)) x y=none:=by cases x<;>cases y<;>rfl
@[simp] theorem AV2(d:Tmp)(x y:cj)(T:bp):CT P E (some d) (.app [x,y] [T,T]) ⟨c,fr,s⟩=ap3 P d c fr s (BO P T) (CG fr x) (CG fr y):=by
 show xAppend P (some d) [x,y] [T,T] _=_;unfold xAppend xAppG;simp only[Nat.beq_refl];cases hT:BO P T with
 |none=>cases CG fr x<;>cases CG fr y<;>rfl
 |some p=>
  obtain⟨k,e⟩:=p
  cases k with
  |some k=>rw[yG]
  |none=>
   cases CG fr x with
   |none=>rfl
   |some xv=>
    cases CG fr y with
    |none=>rfl
    |some yv=>
     simp only[AEZ]
     cases elemsOf s yv with
     |none=>rfl
     |some ys=>
      simp only[AE0,yZ]
      cases IJ xv ys with
      |some es=>
       simp only[ifB,bj,bq]
       by_cases hC:es.all (fun y=>y.length==P.cellsOf e)=true/\B9 P e es.length ys=true
       ·rw[if_pos hC,if_pos hC]
       ·rw[if_neg hC,if_neg hC]
      |none=>
       simp only
       unfold kU
       cases xv with
       |vec l q γ n=>
        simp only
        cases QE n ys (s.get l q)with
        |none=>rfl
        |some z=>
         obtain⟨γ',r⟩:=z
         cases r with
         |vec W es=>
          simp only[ifB,bj,bq,TM,bg,and_assoc]
          by_cases hC:γ'=γ/\W=e/\n=es.length/\es.all (fun y=>y.length==P.cellsOf e)=true/\B9 P e es.length ys=true
          ·rw[if_pos hC,if_pos hC]
          ·rw[if_neg hC,if_neg hC]
         |_=>rfl
       |_=>rfl
def mc2:Option V->Option (List V)->Option (List V)
 |some v,some l=>some (v::l)
 |_,_=>none
@[simp] theorem A32(v:V)(l:List V):mc2 (some v) (some l)=some (v::l):=rfl
@[simp] theorem A33(f:cj->Option V):E5 f []=some []:=rfl
@[simp] theorem AV3(f:cj->Option V)(x:cj)(l:List cj):E5 f (x::l)=mc2 (f x) (E5 f l):=by
 simp only[E5];cases f x with
 |none=>rfl
 |some v=>cases E5 f l<;>rfl
def HK(E:XE)(d:Option Tmp)(st:XS)(f:cz)(args:List V):Option XS:=match E.cf f args st with
 |some (r,st')=>some ⟨st'.c,putD st'.fr d true r,st'.s⟩
 |none=>none
def ca1(E:XE)(d:Option Tmp)(st:XS):Option V->Option (List V)->Option XS
 |some (.fn f first cap),some vs=>HK E d st f ((first++vs++cap).map weakV)
 |some (.yld l q γ),some vs=>ca3 (E.cy l q γ vs st)
 |_,_=>none
where ca3:Option (V×XS)->Option XS
 |some (r,st')=>some ⟨st'.c,putD st'.fr d true r,st'.s⟩
 |none=>none
@[simp] theorem ARA(st:XS)(f:cz)(first cap vs:List V):ca1 E d st (some (.fn f first cap)) (some vs)=HK E d st f ((first++vs++cap).map weakV):=rfl
@[simp] theorem AJP(st:XS)(l q γ:Nat)(vs:List V):ca1 E d st (some (.yld l q γ)) (some vs)=ca1.ca3 d (E.cy l q γ vs st):=rfl
@[simp] theorem A34(d:Tmp)(r:V):ca1.ca3 (some d) (some (r,⟨c,fr,s⟩))=some ⟨c,(d,true,r)::fr,s⟩:=rfl
theorem aE(st:XS)(f:cj)(args:List cj):P3 E.cf E.cy d f args st=ca1 E d st (CG st.fr f) (E5 (CG st.fr) args):=by
 unfold P3;cases CG st.fr f with
 |none=>rfl
 |some v=>
  cases v with
  |fn f first cap=>
   simp only
   cases E5 (CG st.fr) args with
   |none=>rfl
   |some vs=>simp only[ARA,HK];cases E.cf f ((first++vs++cap).map weakV) st<;>rfl
  |yld l q γ=>
   simp only[oZ]
   cases E5 (CG st.fr) args with
   |none=>rfl
   |some vs=>simp only[AJP];cases E.cy l q γ vs st<;>rfl
  |_=>rfl
@[simp] theorem ARB(f:cj)(args:List cj):CT P E d (.call false none f args) ⟨c,fr,s⟩=ca1 E d ⟨c,fr,s⟩ (CG fr f) (E5 (CG fr) args):=aE d ⟨c,fr,s⟩ f args
@[simp] theorem AMC(t:Tmp)(f:cj)(args:List cj):CT P E d (.call false (some t) f args) ⟨c,fr,s⟩=ca1 E d (aA (some t) ⟨c,fr,s⟩) (CG (aA (some t) ⟨c,fr,s⟩).fr f) (E5 (CG (aA (some t) ⟨c,fr,s⟩).fr) args):=aE d _ f args
def orK:Bool->Option V->Option V->Option V
 |true,some r,_=>some r
 |_,_,z=>z
@[simp] theorem A35(r:V)(z:Option V):orK true (some r) z=some r:=rfl
@[simp] theorem A36(b:Bool)(z:Option V):orK b z z=z:=by cases b<;>cases z<;>rfl
theorem mF{P:ck}{kn:CF0}{rec:GJ}{f:cz}{args:List V}:FC P kn rec f args=orK (args.all (AE 9)) (A8 P kn rec f (args.map weakN)) (A8 P kn rec f args):=by unfold FC orK;cases A8 P kn rec f (args.map weakN)<;>cases args.all (AE 9)<;>rfl
attribute [simp] mF
@[simp] theorem AV4(k:cx)(n:Int):weakN (.int k n)=.int k n:=rfl
@[simp] theorem ARD(b:Bool):weakN (.bool b)=.bool b:=rfl
@[simp] theorem AV5(v:Value):weakN (.raw v)=.raw v:=rfl
@[simp] theorem ARE(b:Bool)(es:List (List V)):weakN (.list b es)=.list b es:=rfl
@[simp] theorem AV6(cs:List V):weakN (.agg cs)=.agg (cs.map weakM):=rfl
@[simp] theorem AV7:weakN .nil=.list false []:=rfl
@[simp] theorem A37(f:cz)(x y:List V):weakN (.fn f x y)=.fn f x y:=rfl
@[simp] theorem AV8(cs:List V):weakN (.ref cs)=.ref cs:=rfl
@[simp] theorem AV9(k:cx)(n:Int):weakM (.int k n)=.int k n:=rfl
@[simp] theorem ARF(b:Bool):weakM (.bool b)=.bool b:=rfl
@[simp] theorem ARG(b:Bool)(es:List (List V)):weakM (.list b es)=.list b es:=rfl
@[simp] theorem AWA:weakM .nil=.list false []:=rfl
@[simp] theorem A38(f:cz)(x y:List V):weakM (.fn f x y)=.fn f x y:=rfl
@[simp] theorem AWB(cs:List V):weakM (.ref cs)=.ref cs:=rfl
theorem aF{A:Ann}{kn:CF0}{n:Nat}{f:cz}{args:List V}(h:args.all (AE 9)=true)(hh:BL P f=false)(st:XS):HK (BI P A kn n) d st f args=D0 d st (orK true (A8 P kn (AF P A kn n) f (args.map weakN)) (A8 P kn (AF P A kn n) f args)):=by
 have e:orK true (A8 P kn (AF P A kn n) f (args.map weakN)) (A8 P kn (AF P A kn n) f args)=FC P kn (AF P A kn n) f args:=by rw[mF,h]
 rw[e];show(match ZJ P kn (AF P A kn n) f args st with
  |some (r,st')=>some (⟨st'.c,putD st'.fr d true r,st'.s⟩:XS)
  | none=>none)=_
 unfold ZJ;rw[h,hh];cases FC P kn (AF P A kn n) f args<;>rfl
end
@[simp] theorem A39(k:cx)(n:Int):weakV (.int k n)=.int k n:=rfl
@[simp] theorem AWC(b:Bool):weakV (.bool b)=.bool b:=rfl
@[simp] theorem AWD(b:Bool)(es:List (List V)):weakV (.list b es)=.list false es:=rfl
@[simp] theorem A4A(cs:List V):weakV (.agg cs)=.agg (cs.map weakC):=rfl
@[simp] theorem AWE(k:cx)(n:Int):weakC (.int k n)=.int k n:=rfl
@[simp] theorem ARH(b:Bool):weakC (.bool b)=.bool b:=rfl
@[simp] theorem ARI(b:Bool)(es:List (List V)):weakC (.list b es)=.list false es:=rfl
@[simp] theorem AWF:weakC .nil=.nil:=rfl
@[simp] theorem A4B:weakV .nil=.nil:=rfl
@[simp] theorem A8C(f:cz)(x y:List V):weakV (.fn f x y)=.fn f x y:=rfl
@[simp] theorem ARJ(f:Nat)(k:cx)(n:Int):AE (f+1) (.int k n)=true:=rfl
@[simp] theorem AMD(f:Nat)(b:Bool):AE (f+1) (.bool b)=true:=rfl
@[simp] theorem ARK(f:Nat):AE (f+1) .nil=true:=rfl
@[simp] theorem ARL(f:Nat)(cs:List V):AE (f+1) (.agg cs)=cs.all (AE f):=rfl
@[simp] theorem ARM(f:Nat)(cs:List V):AE (f+1) (.tup cs)=cs.all (AE f):=rfl
@[simp] theorem ARN(f:Nat)(cs:List V):AE (f+1) (.ref cs)=cs.all (AE f):=rfl
@[simp] theorem AME(f:Nat)(b:Bool)(es:List (List V)):AE (f+1) (.list b es)=es.all fun e=>e.all (AE f):=rfl
@[simp] theorem AWG(f:Nat)(g:cz)(x y:List V):AE (f+1) (.fn g x y)=(x.all (AE f)&&y.all (AE f)):=rfl
section
variable (r:cj->Option V)
def o1(f:V->Option V):Option V->Option V
 |some v=>f v
 |none=>none
@[simp] theorem A8D(f:V->Option V)(v:V):o1 f (some v)=f v:=rfl
def o2(f:V->V->Option V):Option V->Option V->Option V
 |some a,some b=>f a b
 |_,_=>none
@[simp] theorem A8E(f:V->V->Option V)(a b:V):o2 f (some a) (some b)=f a b:=rfl
theorem TN(f:V->Option V)(x:Option V):x.bind f=o1 f x:=by cases x<;>rfl
theorem gD(f:V->V->Option V)(x y:Option V):(x.bind fun a=>y.bind fun b=>f a b)=o2 f x y:=by cases x<;>cases y<;>rfl
@[simp] theorem BC1(op:UnOp)(T:bp)(x:cj):I9 P (lY (.unOp op T x)) s r=o1 (aX op) (r x):=TN _ _
@[simp] theorem A4C(T U:bp)(x:cj):I9 P (lY (.convert T U x)) s r=o1 (KS P T U) (r x):=TN _ _
@[simp] theorem A4D(T:bp)(x i:cj):I9 P (lY (.indexAddr T x i)) s r=o2 (BK P s T) (r x) (r i):=gD _ _ _
@[simp] theorem AWH(T:bp)(x:cj)(f:Nat):I9 P (lY (.field T x f)) s r=o1 (fun a=>H7 P T a f) (r x):=TN _ _
@[simp] theorem A8F(x:cj)(i:Nat):I9 P (lY (.extract x i)) s r=o1 (fun a=>FI a i) (r x):=TN _ _
@[simp] theorem A8G(x:cj)(T:bp):I9 P (lY (.call ⟨.builtin .len,#[x],#[T]⟩)) s r=o1 (HU P T) (r x):=TN _ _
end
@[simp] theorem A4E(b:Bool):aX .not (.bool b)=some (.bool !b):=rfl
@[simp] theorem A4F(k:cx)(n:Int):aX .neg (.int k n)=some (.int k (k.wrap (0-n))):=rfl
@[simp] theorem AFR(vs:List V)(i:Nat):FI (.tup vs) i=vs[i]?:=rfl
@[simp] theorem BC2(up:List AA)(loc:AA)(l k g:Nat)(r:AX):St.put ⟨up,loc⟩ l k g r=if l=up.length then⟨up,(k,g,r)::loc⟩ else⟨up.modify l fun L=>L.put k g r,loc⟩:=rfl
def upG(k:Nat):Option AA->Option (Nat×AX)
 |some L=>L.get k
 |none=>none
@[simp] theorem A4G(k:Nat)(L:AA):upG k (some L)=L.get k:=rfl
@[simp] theorem AE1(up:List AA)(loc:AA)(l k:Nat):St.get ⟨up,loc⟩ l k=if l=up.length then loc.get k else upG k up[l]?:=rfl
def kx(k:Nat)(r:Fr):Option (Bool×V)->Fr
 |some (c,v)=>(k,c,v)::r
 |none=>r
@[simp] theorem A8H(k:Nat)(r:Fr)(c:Bool)(v:V):kx k r (some (c,v))=(k,c,v)::r:=rfl
@[simp] theorem A8I(k:Nat)(r:Fr):kx k r none=r:=rfl
@[simp] theorem AWI:P5 [] fr=[]:=rfl
@[simp] theorem ARO(k:Nat)(ks:List Nat):P5 (k::ks) fr=kx k (P5 ks fr) (BS fr k):=by show(match BS fr k with|some (c,v)=>(k,c,v)::P5 ks fr|none=>P5 ks fr)=_;cases BS fr k<;>rfl
def kl(k:Nat)(r:AA):Option (Nat×AX)->AA
 |some (g,x)=>(k,g,x)::r
 |none=>r
@[simp] theorem A8J(k:Nat)(r:AA)(g:Nat)(x:AX):kl k r (some (g,x))=(k,g,x)::r:=rfl
@[simp] theorem A8K(k:Nat)(r:AA):kl k r none=r:=rfl
@[simp] theorem AWJ(L:AA):IL [] L=[]:=rfl
@[simp] theorem ARP(k:Nat)(ks:List Nat)(L:AA):IL (k::ks) L=kl k (IL ks L) (L.get k):=by unfold kl;simp only[IL];cases L.get k<;>rfl
@[simp] theorem A4H(ks ls:List Nat)(c:Nat)(fr:Fr)(up:List AA)(loc:AA):CL (some (ks,ls)) ⟨c,fr,⟨up,loc⟩⟩=⟨c,P5 ks fr,⟨up,IL ls loc⟩⟩:=rfl
@[simp] theorem ARQ:CL none st=st:=rfl
@[simp] theorem BC3:QP (some st)=some (.normal,st):=rfl
@[simp] theorem A4I:QP none=none:=rfl
@[simp] theorem A8L(c:Prop)[Decidable c](x y:Option XS):QP (if c then x else y)=if c then QP x else QP y:=by split<;>rfl
@[simp] theorem A4J(l:List IW):KW P E (.str l) st=OR P E l (some st):=rfl
@[simp] theorem A4K(S:List mA):KW P E (.drw S) st=VA P E S (some st):=rfl
@[simp] theorem A4L(ks:List (Nat×Nat×Nat)):KW P E (.cls ks) st=QT P ks (some st):=rfl
@[simp] theorem A4M(o:Option XS):QT P [] o=o:=rfl
@[simp] theorem AWK(T a d:Nat)(r:List (Nat×Nat×Nat))(st:XS):QT P ((T,a,d)::r) (some st)=QT P r (if pS (CG st.fr (.tmp a))=true then D0 (some d) st (M7 P st.fr st.s T (.tmp a)) else none):=by
 show QT P r (Bool.rec _ _ (pS (CG st.fr (.tmp a))))=_;cases pS (CG st.fr (.tmp a))with
 |false=>rfl
 |true=>
  simp only[if_true]
  congr 1
@[simp] theorem A4N(l k g o:Nat):pS (some (.ptr l k g o))=true:=rfl
@[simp] theorem A4O(rs:List ResultVar):WM P rs (some (.ret,st))=WM.finV st.s (E8 P rs st.fr st.s):=rfl
@[simp] theorem AMF(rs:List ResultVar):WM P rs (some (.normal,st))=WM.finV st.s (E8 P rs st.fr st.s):=rfl
def ARR:Option V->Option V
 |some r=>if AE 9 r=true then some r else none
 |none=>none
@[simp] theorem AWL(r:V):ARR (some r)=if AE 9 r=true then some r else none:=rfl
@[simp] theorem AWM(v:V):WM.finV s (some v)=ARR (AY s 4 v):=by
 unfold WM.finV ARR;simp only;cases AY s 4 v with
 |none=>rfl
 |some r=>simp only[ifB]
@[simp] theorem ARS(t:Tmp):CO P fr s (.tmp t)=rdT (BS fr t):=by
 rw[E2];show(match fr.get t with
  |some (true,v)=>some v
  | _=>none)=_
 cases fr.get t with
 |none=>rfl
 |some p=>obtain⟨c,v⟩:=p;cases c<;>rfl
@[simp] theorem A4P(x:ResultVar):E8 P [x] fr s=CO P fr s x:=by unfold E8;simp only[bz,bh];cases CO P fr s x<;>rfl
def re2:Option V->Option V->Option V
 |some a,some b=>some (.tup [a,b])
 |_,_=>none
@[simp] theorem A4Q(a b:V):re2 (some a) (some b)=some (.tup [a,b]):=rfl
@[simp] theorem A4R(x y:ResultVar):E8 P [x,y] fr s=re2 (CO P fr s x) (CO P fr s y):=by unfold E8;simp only[bz,bh];cases CO P fr s x<;>cases CO P fr s y<;>rfl
def re3:Option V->Option V->Option V->Option V
 |some a,some b,some c=>some (.tup [a,b,c])
 |_,_,_=>none
@[simp] theorem A4S(a b c:V):re3 (some a) (some b) (some c)=some (.tup [a,b,c]):=rfl
@[simp] theorem ART(x y z:ResultVar):E8 P [x,y,z] fr s=re3 (CO P fr s x) (CO P fr s y) (CO P fr s z):=by unfold E8;simp only[bz,bh];cases CO P fr s x<;>cases CO P fr s y<;>cases CO P fr s z<;>rfl
@[simp] theorem ARU(f:Nat)(k:cx)(n:Int):AY s (f+1) (.int k n)=some (.int k n):=rfl
@[simp] theorem AMG(f:Nat)(b:Bool):AY s (f+1) (.bool b)=some (.bool b):=rfl
@[simp] theorem ARV(f:Nat):AY s (f+1) .nil=some .nil:=rfl
@[simp] theorem AMH(f:Nat)(b:Bool)(es:List (List V)):AY s (f+1) (.list b es)=some (.list false es):=rfl
def nA(mk:List V->V):Option (List V)->Option V
 |some l=>some (mk l)
 |none=>none
@[simp] theorem A4T(mk:List V->V)(l:List V):nA mk (some l)=some (mk l):=rfl
def PW(f:V->Option V):List V->Option (List V)
 |[]=>some []
 |v::l=>mc2 (f v) (PW f l)
theorem TO(f:V->Option V):∀(l:List V),l.mapM f=PW f l
 |[]=>rfl
 |v::l=>by simp only[bz,PW,TO f l];cases f v<;>cases PW f l<;>rfl
@[simp] theorem A4U(f:V->Option V):PW f []=some []:=rfl
@[simp] theorem AWN(f:V->Option V)(v:V)(l:List V):PW f (v::l)=mc2 (f v) (PW f l):=rfl
@[simp] theorem ARW(f:Nat)(cs:List V):AY s (f+1) (.agg cs)=nA .agg (PW (AY s f) cs):=by simp only[AY,TO];cases PW (AY s f) cs<;>rfl
@[simp] theorem ARX(f:Nat)(cs:List V):AY s (f+1) (.tup cs)=nA .tup (PW (AY s f) cs):=by simp only[AY,TO];cases PW (AY s f) cs<;>rfl
def cv1(g m:Nat):Option (Nat×AX)->Option V
 |some (g',.vec _ es)=>if g'=g/\m<=es.length then some (.list false (es.take m)) else none
 |_=>none
@[simp] theorem AE2(g m g':Nat)(T:bp)(es:List (List V)):cv1 g m (some (g',.vec T es))=if g'=g/\m<=es.length then some (.list false (es.take m)) else none:=rfl
@[simp] theorem aG(f:Nat)(up:List AA)(loc:AA)(l k g m:Nat):AY ⟨up,loc⟩ (f+1) (.vec l k g m)=if l=up.length then cv1 g m (loc.get k) else some (.vec l k g m):=by
 simp only[AY];split
 ·cases loc.get k with
  |none=>rfl
  |some z=>obtain⟨g',r⟩:=z;cases r<;>rfl
 ·rfl
@[simp] theorem AMI(t:Nat)(T:bp):CO P fr s (.cell t T)=ld1 P s T (rdT (BS fr t)):=by
 rw[E2];show(match fr.get t with
  |some (true,p)=>(A5 s p).bind (BJ P T)
  | _=>none)=_
 cases fr.get t with
 |none=>rfl
 |some p=>
  obtain⟨c,v⟩:=p
  cases c with
  |false=>rfl
  |true=>
   simp only[AEW,AEX]
   cases A5 s v<;>rfl
section
variable (d:Option Tmp)(c:Nat)
@[simp] theorem A4V(r:Option XS):VA P E [] r=r:=rfl
@[simp] theorem AWO(p:mA)(S:List mA)(r:Option XS):VA P E (p::S) r=VA P E S (OR P E p.sq (aC (U9 P E p.ph (AEJ p.new r)))):=rfl
@[simp] theorem A4W(r:Option (XS×AK×AK)):U9 P E [] r=r:=rfl
@[simp] theorem AWP(i:IW)(l:List IW)(r:Option (XS×AK×AK)):U9 P E (i::l) r=U9 P E l (lZ P E i r):=rfl
@[simp] theorem A8M(new:List Tmp)(up:List AA)(loc:AA):AEJ new (some ⟨c,fr,⟨up,loc⟩⟩)=if (new.all fun d=>(loc.get d).isNone)=true then some (⟨c,fr,⟨up,loc⟩⟩,[],[]) else none:=by show(Bool.rec none _ _:Option _)=_;rw[ifB];rfl
@[simp] theorem AWQ(rd wr:AK):aC (some (st,rd,wr))=if (wr.all fun p=>!(rd.contains p))=true then some st else none:=by show(Bool.rec none _ _:Option _)=_;rw[ifB]
@[simp] theorem AWR:aC none=none:=rfl
@[simp] theorem A4X(c:Prop)[Decidable c](x y:Option (XS×AK×AK)):aC (if c then x else y)=if c then aC x else aC y:=by split<;>rfl
@[simp] theorem AWS(i:IW):lZ P E i none=none:=rfl
@[simp] theorem A4Y(i:IW)(c:Prop)[Decidable c](x y:Option (XS×AK×AK)):lZ P E i (if c then x else y)=if c then lZ P E i x else lZ P E i y:=by split<;>rfl
@[simp] theorem A4Z(l:List IW)(c:Prop)[Decidable c](x y:Option (XS×AK×AK)):U9 P E l (if c then x else y)=if c then U9 P E l x else U9 P E l y:=by split<;>rfl
@[simp] theorem A40(l:List mA)(c:Prop)[Decidable c](x y:Option XS):VA P E l (if c then x else y)=if c then VA P E l x else VA P E l y:=by split<;>rfl
def ph3(rds rd wr:AK):Option (XS×AK)->Option (XS×AK×AK)
 |some (st,w)=>some (st,rds++rd,w++wr)
 |none=>none
@[simp] theorem A41(rds rd wr w:AK):ph3 rds rd wr (some (st,w))=some (st,rds++rd,w++wr):=rfl
@[simp] theorem A42(rds rd wr:AK):ph3 rds rd wr none=none:=rfl
@[simp] theorem A8N(rds rd wr:AK)(c:Prop)[Decidable c](x y:Option (XS×AK)):ph3 rds rd wr (if c then x else y)=if c then ph3 rds rd wr x else ph3 rds rd wr y:=by split<;>rfl
@[simp] theorem AWU(i:IW)(rd wr:AK):lZ P E i (some (st,rd,wr))=ph3 (HS P i.k (CG st.fr)) rd wr (U8 P E i st):=by show(match U8 P E i st with|some (st',w)=>some (st',HS P i.k (CG st.fr)++rd,w++wr)|none=>none)=_;cases U8 P E i st<;>rfl
@[simp] theorem AWV(k:IK):U8 P E ⟨none,d,k⟩ st=DG P E d k st:=rfl
def gI0(P:ck)(E:XE)(d:Option Tmp)(k:IK)(st:XS)(w:Bool)(r:Option (Bool×V)):Option (XS×AK):=match r with
 |some (c,.bool b)=>if (c&&(b==w))=true then DG P E d k st else if DV k=true then none else some (HV d st,[])
 |_=>none
@[simp] theorem ARY(t:Tmp)(w:Bool)(k:IK):U8 P E ⟨some (t,w),d,k⟩ st=gI0 P E d k st w (BS st.fr t):=by
 show(match(match BS st.fr t with | some (c,.bool b)=>some (c&&(b == w)) | _=>none:Option Bool)with
  |some true=>DG P E d k st
  |some false=>Bool.rec (some (HV d st,[])) none (DV k)
  | none=>none)=_
 unfold gI0;cases BS st.fr t with
 |none=>rfl
 |some p=>
  obtain⟨c,v⟩:=p
  cases v with
  |bool b=>cases h:(c&&(b==w))<;>simp[h,ifB]
  |_=>rfl
@[simp] theorem A43(k:IK)(w c b:Bool):gI0 P E d k st w (some (c,.bool b))=if (c&&(b==w))=true then DG P E d k st else if DV k=true then none else some (HV d st,[]):=rfl
@[simp] theorem BC5(T:bp)(x:cj)(f:cj->Option V):HS P (.ld T x) f=BV (bx (P.cellsOf T) 1) (f x):=rfl
@[simp] theorem ARZ(x y:cj)(f:cj->Option V):J1 f [x,y]=GI (f y):=rfl
@[simp] theorem AJQ(b:Bool)(es:List (List V)):GI (some (.list b es))=[]:=rfl
@[simp] theorem AMJ:GI (some .nil)=[]:=rfl
@[simp] theorem AMK(l k γ n:Nat):GI (some (.vec l k γ n))=[(l,k)]:=rfl
@[simp] theorem BC6(x:cj)(f:cj->Option V):HS P (.mv x) f=[]:=rfl
@[simp] theorem A8O(op:BinOp)(T:bp)(x y:cj)(f:cj->Option V):HS P (.bin op T x y) f=[]:=rfl
@[simp] theorem BC7(T:bp)(x:cj)(i:Nat)(f:cj->Option V):HS P (.fa T x i) f=[]:=rfl
@[simp] theorem A44(x y z:cj)(f:cj->Option V):HS P (.pick x y z) f=[]:=rfl
@[simp] theorem AWW(T:bp)(ps:List (Nat×cj))(f:cj->Option V):HS P (.build T ps) f=[]:=rfl
@[simp] theorem AR0(T:bp)(n:Nat)(ps:List (Nat×cj))(f:cj->Option V):HS P (.buildS T n ps) f=[]:=rfl
@[simp] theorem AWX(T:bp)(f:cj->Option V):HS P (.alloc T) f=[]:=rfl
@[simp] theorem A8P(x:cj)(f:cj->Option V):HS P (.box x) f=[]:=rfl
@[simp] theorem A8Q(T:bp)(x y:cj)(f:cj->Option V):HS P (.sto T x y) f=[]:=rfl
@[simp] theorem A8R(x:List cj)(y:List bp)(f:cj->Option V):HS P (.app x y) f=J1 f x:=rfl
@[simp] theorem A45(b:Bool)(t:Option Tmp)(g:cj)(x:List cj)(f:cj->Option V):HS P (.call b t g x) f=[]:=rfl
@[simp] theorem A46(T:bp)(x i:cj)(f:cj->Option V):HS P (.oth (.indexAddr T x i)) f=J0 (f x):=rfl
@[simp] theorem BC8(op:UnOp)(T:bp)(x:cj)(f:cj->Option V):HS P (.oth (.unOp op T x)) f=[]:=rfl
@[simp] theorem A8S(x:cj)(i:Nat)(f:cj->Option V):HS P (.oth (.extract x i)) f=[]:=rfl
@[simp] theorem A8T(x:cj)(T:bp)(b:Builtin)(f:cj->Option V):HS P (.oth (.call ⟨.builtin b,#[x],#[T]⟩)) f=[]:=by cases b<;>rfl
@[simp] theorem BC9(g:Fn)(x y:Array cj)(f:cj->Option V):HS P (.oth (.makeFunc g x y)) f=[]:=rfl
def nw:Option XS->Option (XS×AK)
 |some st=>some (st,[])
 |none=>none
@[simp] theorem A8U:nw (some st)=some (st,[]):=rfl
@[simp] theorem A8V:nw none=none:=rfl
@[simp] theorem BDA(c:Prop)[Decidable c](x y:Option XS):nw (if c then x else y)=if c then nw x else nw y:=by split<;>rfl
theorem GL(r:Option XS):TB r=nw r:=by cases r<;>rfl
@[simp] theorem A47(x:cj):DG P E d (.mv x) st=nw (CT P E d (.mv x) st):=GL _
@[simp] theorem AWY(op:BinOp)(T:bp)(x y:cj):DG P E d (.bin op T x y) st=nw (CT P E d (.bin op T x y) st):=GL _
@[simp] theorem A48(T:bp)(x:cj)(f:Nat):DG P E d (.fa T x f) st=nw (CT P E d (.fa T x f) st):=GL _
@[simp] theorem AWZ(T:bp)(x:cj):DG P E d (.ldz T x) st=DG P E d (.ld T x) st:=rfl
@[simp] theorem AW0(T:bp)(x:cj):CT P E d (.ldz T x) st=CT P E d (.ld T x) st:=rfl
@[simp] theorem A8W(T:bp)(x:cj)(f:cj->Option V):HS P (.ldz T x) f=[]:=rfl
@[simp] theorem A49(T:bp)(x:cj):DG P E d (.ld T x) st=nw (CT P E d (.ld T x) st):=GL _
@[simp] theorem AR1(x y z:cj):DG P E d (.pick x y z) st=nw (CT P E d (.pick x y z) st):=GL _
@[simp] theorem AML(T:bp)(ps:List (Nat×cj)):DG P E d (.build T ps) st=nw (CT P E d (.build T ps) st):=GL _
@[simp] theorem AJR(T:bp)(n:Nat)(ps:List (Nat×cj)):DG P E d (.buildS T n ps) st=nw (CT P E d (.buildS T n ps) st):=GL _
@[simp] theorem AW1(op:Op):DG P E d (.oth op) st=nw (CT P E d (.oth op) st):=GL _
@[simp] theorem AMM(T:bp):DG P E d (.alloc T) st=nw (CT P E d (.alloc T) st):=GL _
@[simp] theorem AW2(x:cj):DG P E d (.box x) st=nw (CT P E d (.box x) st):=GL _
@[simp] theorem AW3(x:Option cj):DG P E d (.mkM x) st=nw (CT P E d (.mkM x) st):=GL _
@[simp] theorem AW4(T:bp)(x y:cj):DG P E d (.mkS T x y) st=nw (CT P E d (.mkS T x y) st):=GL _
def wp(p:AK):Option XS->Option (XS×AK)
 |some st=>some (st,p)
 |none=>none
@[simp] theorem A8X(p:AK):wp p (some st)=some (st,p):=rfl
@[simp] theorem A8Y(p:AK):wp p none=none:=rfl
@[simp] theorem BDB(p:AK)(c:Prop)[Decidable c](x y:Option XS):wp p (if c then x else y)=if c then wp p x else wp p y:=by split<;>rfl
@[simp] theorem AW5(T:bp)(x y:cj):DG P E d (.sto T x y) st=wp (CC (bx (P.cellsOf T) 1) (CG st.fr x)) (CT P E d (.sto T x y) st):=by show(match I4 P d T x y st with|some st'=>some (st',CC (bx (P.cellsOf T) 1) (CG st.fr x))|none=>none)=wp _ (I4 P d T x y st);cases I4 P d T x y st<;>rfl
@[simp] theorem A5A(x:Option V):BV false x=BF x:=by cases x<;>rfl
@[simp] theorem AR2(l k g o:Nat):BV true (some (.ptr l k g o))=[(l,k+2000000),(l,k+4000000),(l,6000000+1000*k+o)]:=rfl
@[simp] theorem AMN(l k g i o:Nat):BV true (some (.eptr l k g i o))=[(l,k+2000000),(l,k+4000000),(l,6000000+1000*k+o)]:=rfl
@[simp] theorem AR3(b:Bool)(cs:List V):BV b (some (.ref cs))=[]:=by cases b<;>rfl
@[simp] theorem AR4(l k g o:Nat):CC true (some (.ptr l k g o))=[(l,k),(l,6000000+1000*k+o)]:=rfl
@[simp] theorem AMO(l k g i o:Nat):CC true (some (.eptr l k g i o))=[(l,k),(l,6000000+1000*k+o)]:=rfl
@[simp] theorem AMP(l k g o:Nat):CC false (some (.ptr l k g o))=[(l,k),(l,k+4000000)]:=rfl
@[simp] theorem AJS(l k g i o:Nat):CC false (some (.eptr l k g i o))=[(l,k),(l,k+4000000)]:=rfl
@[simp] theorem AMQ(l k g o:Nat):BF (some (.ptr l k g o))=[(l,k)]:=rfl
@[simp] theorem AJT(l k g i o:Nat):BF (some (.eptr l k g i o))=[(l,k)]:=rfl
@[simp] theorem AMR(cs:List V):BF (some (.ref cs))=[]:=rfl
@[simp] theorem AR5(l k g o:Nat):J0 (some (.ptr l k g o))=[]:=rfl
@[simp] theorem AR6(l k g n:Nat):J0 (some (.vec l k g n))=[(l,k+HO)]:=rfl
@[simp] theorem AMS(b:Bool)(es:List (List V)):J0 (some (.list b es))=[]:=rfl
@[simp] theorem AR7(cs:List V):J0 (some (.ref cs))=[]:=rfl
def c01(E:XE)(d:Option Tmp)(st:XS):Option V->Option (List V)->Option XS
 |some (.fn f first cap),some vs=>D0 d st (E.c0 f ((first++vs++cap).map weakV))
 |_,_=>none
@[simp] theorem AR8(f:cz)(first cap vs:List V):c01 E d st (some (.fn f first cap)) (some vs)=D0 d st (E.c0 f ((first++vs++cap).map weakV)):=rfl
@[simp] theorem AR9(t:Option Tmp)(f:cj)(args:List cj):DG P E d (.call false t f args) ⟨c,fr,s⟩=nw (c01 E d ⟨c,fr,s⟩ (CG fr f) (E5 (CG fr) args)):=by
 show TB (ZG E.c0 d f args ⟨c,fr,s⟩)=_;rw[GL];congr 1;unfold ZG;cases hf:CG fr f with
 |none=>simp only[c01]
 |some v=>
  cases v with
  |fn g first cap=>
   simp only
   cases hm:E5 (CG fr) args with
   |none=>simp only[c01]
   |some vs=>
    simp only[AR8]
    cases E.c0 g ((first++vs++cap).map weakV)<;>rfl
  |_=>simp only[c01]
@[simp] theorem BDC{A:Ann}{kn:CF0}{n:Nat}:(BI P A kn n).c0=FC P kn (AF P A kn n):=rfl
end
theorem qN{A:Ann}{kn:CF0}{n N:Nat}(a b:cw):lB (AF P A kn n N) a b st (some (.bool true))=AF P A kn n N a st:=rfl
theorem mG{A:Ann}{kn:CF0}{n N:Nat}(a b:cw):lB (AF P A kn n N) a b st (some (.bool false))=AF P A kn n N b st:=rfl
attribute [simp] AER qJ yD AEP xZ qH yA yB yC AEQ qI mC AES yE AET bT qK mD qM qN mG AEV
end Go.Pg
namespace Go.Pg
variable {P:ck}{E:XE}{st:XS}{fr:Fr}{s:St}
@[simp] theorem ASA(k:cx)(n:Int):A7 (.int k n)=[.int k n]:=rfl
@[simp] theorem AMT(b:Bool):A7 (.bool b)=[.bool b]:=rfl
@[simp] theorem ASB(cs:List V):A7 (.agg cs)=cs:=rfl
@[simp] theorem AMU(b:Bool)(es:List (List V)):A7 (.list b es)=[.list b es]:=rfl
@[simp] theorem ASC:A7 .nil=[.nil]:=rfl
@[simp] theorem ASD(l k g n:Nat):A7 (.vec l k g n)=[.vec l k g n]:=rfl
@[simp] theorem AW6(l k g:Nat):A7 (.mp l k g)=[.mp l k g]:=rfl
@[simp] theorem AW7(f:cz)(x y:List V):A7 (.fn f x y)=[.fn f x y]:=rfl
@[simp] theorem ASE(l k g n:Nat):A7 (.ptr l k g n)=[.ptr l k g n]:=rfl
@[simp] theorem ASF(cs:List V):A7 (.ref cs)=[.ref cs]:=rfl
@[simp] theorem ASG(k:cx)(n:Int):BC (.int k n)=true:=rfl
@[simp] theorem AMV(b:Bool):BC (.bool b)=true:=rfl
@[simp] theorem ASH(cs:List V):BC (.agg cs)=true:=rfl
@[simp] theorem AMW(b:Bool)(es:List (List V)):BC (.list b es)=true:=rfl
@[simp] theorem ASI:BC .nil=true:=rfl
@[simp] theorem ASJ(l k g n:Nat):BC (.vec l k g n)=true:=rfl
@[simp] theorem AW8(l k g:Nat):BC (.mp l k g)=true:=rfl
@[simp] theorem AW9(f:cz)(x y:List V):BC (.fn f x y)=true:=rfl
@[simp] theorem ASK(l k g n:Nat):BC (.ptr l k g n)=true:=rfl
@[simp] theorem ASL(cs:List V):BC (.ref cs)=true:=rfl
@[simp] theorem AXA(op:BinOp)(T:bp)(k j:cx)(a b:Int):GZ P op T (.int k a) (.int j b)=if k=j then EJ op k a b else SH op k a b:=rfl
@[simp] theorem aH(k:cx)(a b:Int):SH .shl k a b=if b<0 then none else some (.int k (k.wrap (a*2 ^ (min b.toNat k.bits)))):=rfl
@[simp] theorem aI(k:cx)(a b:Int):SH .shr k a b=if b<0 then none else some (.int k (a.fdiv (2 ^ (min b.toNat k.bits)))):=rfl
section
variable (k:cx)(a b:Int)
@[simp] theorem AXB:EJ .add k a b=some (.int k (k.wrap (a+b))):=rfl
@[simp] theorem AXC:EJ .sub k a b=some (.int k (k.wrap (a-b))):=rfl
@[simp] theorem AXD:EJ .mul k a b=some (.int k (k.wrap (a*b))):=rfl
@[simp] theorem AXE:EJ .quo k a b=if b=0 then none else some (.int k (k.wrap (a.tdiv b))):=rfl
@[simp] theorem AXF:EJ .rem k a b=if b=0 then none else some (.int k (a.tmod b)):=rfl
@[simp] theorem AXG:EJ .and k a b=some (.int k (k.wrap (BitVec.ofInt k.bits a &&& BitVec.ofInt k.bits b).toNat)):=rfl
@[simp] theorem A5C:EJ .or k a b=some (.int k (k.wrap (BitVec.ofInt k.bits a ||| BitVec.ofInt k.bits b).toNat)):=rfl
@[simp] theorem AJU:EJ .andNot k a b=some (.int k (k.wrap (BitVec.ofInt k.bits a &&& ~~~ BitVec.ofInt k.bits b).toNat)):=rfl
@[simp] theorem AXH:EJ .shl k a b=if b<0 then none else some (.int k (k.wrap (a*2 ^ (min b.toNat k.bits)))):=rfl
@[simp] theorem AXI:EJ .shr k a b=if b<0 then none else some (.int k (a.fdiv (2 ^ (min b.toNat k.bits)))):=rfl
@[simp] theorem AXJ:EJ .eql k a b=some (.bool (decide (a=b))):=by show some (V.bool (a==b))=_;congr 2
@[simp] theorem AXK:EJ .neq k a b=some (.bool (!decide (a=b))):=by show some (V.bool (a != b))=_;congr 2
@[simp] theorem AXL:EJ .lss k a b=some (.bool (decide (a<b))):=rfl
@[simp] theorem AXM:EJ .leq k a b=some (.bool (decide (a<=b))):=rfl
@[simp] theorem AXN:EJ .gtr k a b=some (.bool (decide (b<a))):=rfl
@[simp] theorem AXO:EJ .geq k a b=some (.bool (decide (b<=a))):=rfl
end
theorem AZ{x:Int}(h1:-9223372036854775808<=x)(h2:x<9223372036854775808):IntKind.i64.wrap x=x:=by simp only[IntKind.wrap,IntKind.bits,IntKind.signed];simp;omega
@[simp] theorem AMX(T:bp)(a b:Bool):GZ P .eql T (.bool a) (.bool b)=if sN P T=true then some (.bool (a==b)) else none:=rfl
@[simp] theorem AMY(T:bp)(a b:Bool):GZ P .neq T (.bool a) (.bool b)=if sN P T=true then some (.bool (a != b)) else none:=rfl
def bl1(f:Bool->Bool):Option Bool->Option V
 |some b=>some (.bool (f b))
 |none=>none
@[simp] theorem A5D(f:Bool->Bool)(b:Bool):bl1 f (some b)=some (.bool (f b)):=rfl
@[simp] theorem ASM(T:bp)(cs ds:List V):GZ P .eql T (.agg cs) (.agg ds)=bl1 (fun b=>b) (UD P T cs ds):=by show(UD P T cs ds).map V.bool=_;cases UD P T cs ds<;>rfl
@[simp] theorem ASN(T:bp)(cs ds:List V):GZ P .neq T (.agg cs) (.agg ds)=bl1 (fun b=>!b) (UD P T cs ds):=by show(UD P T cs ds).map (fun b=>V.bool !b)=_;cases UD P T cs ds<;>rfl
def faP(P:ck)(x:V):Option (bp×Nat)->Option V
 |some (U,off)=>if P.cellsOf U=0 then none else match x with
  |.ref cs=>some (.ref (cs.drop off))
  |.ptr l k g o=>some (.ptr l k g (o+off))
  |.eptr l k g i o=>some (.eptr l k g i (o+off))
  |_=>none
 |none=>none
@[simp] theorem A8Z(T:bp)(x:V)(f:Nat):C7 P T x f=faP P x (A1 P T f):=by unfold C7 faP;cases A1 P T f<;>rfl
@[simp] theorem A80(U:bp)(off:Nat)(cs:List V):faP P (.ref cs) (some (U,off))=if P.cellsOf U=0 then none else some (.ref (cs.drop off)):=rfl
@[simp] theorem A81(U:bp)(off l k g o:Nat):faP P (.ptr l k g o) (some (U,off))=if P.cellsOf U=0 then none else some (.ptr l k g (o+off)):=rfl
@[simp] theorem A5F(U:bp)(off l k g i o:Nat):faP P (.eptr l k g i o) (some (U,off))=if P.cellsOf U=0 then none else some (.eptr l k g i (o+off)):=rfl
def fd1(P:ck)(x:V):Option (bp×Nat)->Option V
 |some (U,off)=>match x with
  |.agg cs=>LF P U cs off
  |_=>none
 |none=>none
@[simp] theorem ASO(T:bp)(x:V)(f:Nat):H7 P T x f=fd1 P x (A1 P T f):=by unfold H7 fd1;cases x<;>cases A1 P T f<;>rfl
@[simp] theorem A82(U:bp)(off:Nat)(cs:List V):fd1 P (.agg cs) (some (U,off))=LF P U cs off:=rfl
def cb(g off:Nat):Option (Nat×AX)->Option (List V)
 |some (g',.box cs)=>if g'=g then some (cs.drop off) else none
 |_=>none
@[simp] theorem A83(g g' off:Nat)(cs:List V):cb g off (some (g',.box cs))=if g'=g then some (cs.drop off) else none:=rfl
def ce(g i off:Nat):Option (Nat×AX)->Option (List V)
 |some (g',.vec _ es)=>if g'=g then(es[i]?).map (·.drop off) else none
 |_=>none
@[simp] theorem A84(g g' i off:Nat)(T:bp)(es:List (List V)):ce g i off (some (g',.vec T es))=if g'=g then(es[i]?).map (·.drop off) else none:=rfl
@[simp] theorem AMZ(cs:List V):A5 s (.ref cs)=some cs:=rfl
@[simp] theorem AM0(l k g off:Nat):A5 s (.ptr l k g off)=cb g off (s.get l k):=by
 unfold cb;simp only[A5];cases s.get l k with
 |none=>rfl
 |some z=>obtain⟨g',r⟩:=z;cases r<;>rfl
@[simp] theorem AJV(l k g i off:Nat):A5 s (.eptr l k g i off)=ce g i off (s.get l k):=by
 unfold ce;simp only[A5];cases s.get l k with
 |none=>rfl
 |some z=>obtain⟨g',r⟩:=z;cases r<;>rfl
def iv(P:ck)(e:bp)(l k g n:Nat)(j:Int):Option (Nat×AX)->Option V
 |some (g',.vec _ es)=>if g'=g/\0<=j/\j<n/\n<=es.length/\(es.getD j.toNat []).length=P.cellsOf e/\0<P.cellsOf e then some (.eptr l k g j.toNat 0) else none
 |_=>none
@[simp] theorem A85(e:bp)(l k g g' n:Nat)(j:Int)(T:bp)(es:List (List V)):iv P e l k g n j (some (g',.vec T es))=if g'=g/\0<=j/\j<n/\n<=es.length/\(es.getD j.toNat []).length=P.cellsOf e/\0<P.cellsOf e then some (.eptr l k g j.toNat 0) else none:=rfl
def ia(P:ck)(s:St)(x i:V):Option (Option Nat×bp)->Option V
 |some (none,e)=>match x,i with
  |.list _ es,.int _ j=>if 0<=j/\j<es.length/\(es.getD j.toNat []).length=P.cellsOf e/\0<P.cellsOf e then some (.ref (es.getD j.toNat [])) else none
  |.vec l k g n,.int _ j=>iv P e l k g n j (s.get l k)
  |_,_=>none
 |some (some n,e)=>match x,i with
  |.ref cs,.int _ j=>if 0<=j/\j<n/\0<P.cellsOf e then some (.ref (cs.drop (j.toNat*P.cellsOf e))) else none
  |.ptr l k g o,.int _ j=>if 0<=j/\j<n/\0<P.cellsOf e then some (.ptr l k g (o+j.toNat*P.cellsOf e)) else none
  |.eptr l k g i' o,.int _ j=>if 0<=j/\j<n/\0<P.cellsOf e then some (.eptr l k g i' (o+j.toNat*P.cellsOf e)) else none
  |_,_=>none
 |none=>none
@[simp] theorem A86(T:bp)(x i:V):BK P s T x i=ia P s x i (BO P T):=by
 unfold BK ia;cases BO P T with
 |none=>rfl
 |some z=>
  obtain⟨n,e⟩:=z
  cases n with
  |some n=>cases x<;>cases i<;>rfl
  |none=>
   cases x with
   |vec l k g n=>
    cases i with
    |int q j=>
     simp only[iv]
     cases s.get l k with
     |none=>rfl
     |some z=>obtain⟨g',r⟩:=z;cases r<;>rfl
    |_=>rfl
   |_=>cases i<;>rfl
@[simp] theorem A87(e:bp)(b:Bool)(es:List (List V))(k:cx)(j:Int):ia P s (.list b es) (.int k j) (some (none,e))=if 0<=j/\j<es.length/\(es.getD j.toNat []).length=P.cellsOf e/\0<P.cellsOf e then some (.ref (es.getD j.toNat [])) else none:=rfl
@[simp] theorem BDF(e:bp)(l q g n:Nat)(k:cx)(j:Int):ia P s (.vec l q g n) (.int k j) (some (none,e))=iv P e l q g n j (s.get l q):=rfl
@[simp] theorem BDG(n:Nat)(e:bp)(cs:List V)(k:cx)(j:Int):ia P s (.ref cs) (.int k j) (some (some n,e))=if 0<=j/\j<n/\0<P.cellsOf e then some (.ref (cs.drop (j.toNat*P.cellsOf e))) else none:=rfl
@[simp] theorem BDH(n:Nat)(e:bp)(l q g o:Nat)(k:cx)(j:Int):ia P s (.ptr l q g o) (.int k j) (some (some n,e))=if 0<=j/\j<n/\0<P.cellsOf e then some (.ptr l q g (o+j.toNat*P.cellsOf e)) else none:=rfl
@[simp] theorem A88(n:Nat)(e:bp)(l q g i o:Nat)(k:cx)(j:Int):ia P s (.eptr l q g i o) (.int k j) (some (some n,e))=if 0<=j/\j<n/\0<P.cellsOf e then some (.eptr l q g i (o+j.toNat*P.cellsOf e)) else none:=rfl
def ix(P:ck)(x i:V):Option (Option Nat×bp)->Option V
 |some (some n,e)=>match x,i with
  |.agg cs,.int _ j=>if 0<=j/\j<n/\0<P.cellsOf e then LF P e cs (j.toNat*P.cellsOf e) else none
  |_,_=>none
 |_=>none
@[simp] theorem ASP(T:bp)(x i:V):JD P T x i=ix P x i (BO P T):=by
 unfold JD ix;cases BO P T with
 |none=>rfl
 |some z=>obtain⟨n,e⟩:=z;cases n<;>cases x<;>cases i<;>rfl
@[simp] theorem BDI(n:Nat)(e:bp)(cs:List V)(k:cx)(j:Int):ix P (.agg cs) (.int k j) (some (some n,e))=if 0<=j/\j<n/\0<P.cellsOf e then LF P e cs (j.toNat*P.cellsOf e) else none:=rfl
theorem OT{T:bp}(h:DZ P T=true):∃e,P.underlying T=some (.slice e):=by
 unfold DZ at h;split at h
 ·rename_i e he;exact⟨e,he⟩
 ·cases h
@[simp] theorem qO{T:bp}(h:DZ P T=true)(b:Bool)(es:List (List V)):HU P T (.list b es)=some (.int .i64 es.length):=by obtain⟨e,he⟩:=OT h;simp[HU,he]
@[simp] theorem AXP{T:bp}(h:DZ P T=true)(l k g n:Nat):HU P T (.vec l k g n)=some (.int .i64 n):=by obtain⟨e,he⟩:=OT h;simp[HU,he]
@[simp] theorem yH{T:bp}(h:DZ P T=true):HU P T .nil=some (.int .i64 0):=by obtain⟨e,he⟩:=OT h;simp[HU,he]
def fv(place:Nat->Option (Nat×Nat))(cs:List V)(v:V)(rest:List (Nat×V)):Option (Nat×Nat)->Option (List V)
 |none=>none
 |some (off,size)=>if (A7 v).length=size/\off+(A7 v).length<=cs.length then DC place (A0 cs off (A7 v)) rest else none
@[simp] theorem AXQ(place:Nat->Option (Nat×Nat))(cs:List V):DC place cs []=some cs:=rfl
@[simp] theorem ASQ(place:Nat->Option (Nat×Nat))(cs:List V)(i:Nat)(v:V)(rest:List (Nat×V)):DC place cs ((i,v)::rest)=fv place cs v rest (place i):=by simp only[DC];unfold fv;cases place i<;>rfl
@[simp] theorem A89(place:Nat->Option (Nat×Nat))(cs:List V)(v:V)(rest:List (Nat×V))(off size:Nat):fv place cs v rest (some (off,size))=if (A7 v).length=size/\off+(A7 v).length<=cs.length then DC place (A0 cs off (A7 v)) rest else none:=rfl
attribute [simp] A0
@[simp] theorem AM1(size:Nat)(cs:List V):CN size cs 0=[]:=rfl
@[simp] theorem AM2(size:Nat)(cs:List V)(n:Nat):CN size cs (n+1)=cs.take size::CN size (cs.drop size) n:=rfl
def ch1(size len:Nat):Option (List V)->Option V
 |some cs=>some (.list true (CN size cs len))
 |none=>none
@[simp] theorem A5G(size len:Nat)(cs:List V):ch1 size len (some cs)=some (.list true (CN size cs len)):=rfl
def bsz(P:ck)(e:bp)(len:Nat)(parts:List (Nat×V)):Option (List V)->Option V
 |some z=>if (parts.all fun p=>BC p.2)=true/\z.length=P.cellsOf e/\0<P.cellsOf e/\len*P.cellsOf e<=2 ^ 24 then
   ch1 (P.cellsOf e) len (DC (fun i=>some (i*P.cellsOf e,P.cellsOf e)) (bc len z).flatten parts) else none
 |none=>none
@[simp] theorem A5H(e:bp)(len:Nat)(parts:List (Nat×V))(z:List V):bsz P e len parts (some z)=if (parts.all fun p=>BC p.2)=true/\z.length=P.cellsOf e/\0<P.cellsOf e/\len*P.cellsOf e<=2 ^ 24 then
   ch1 (P.cellsOf e) len (DC (fun i=>some (i*P.cellsOf e,P.cellsOf e)) (bc len z).flatten parts) else none:=rfl
def bsl(P:ck)(len:Nat)(parts:List (Nat×V)):Option (Option Nat×bp)->Option V
 |some (none,e)=>bsz P e len parts (CB P e)
 |_=>none
@[simp] theorem A5I(e:bp)(len:Nat)(parts:List (Nat×V)):bsl P len parts (some (none,e))=bsz P e len parts (CB P e):=rfl
@[simp] theorem A9B(T:bp)(len:Nat)(parts:List (Nat×V)):B8 P T len parts=bsl P len parts (BO P T):=by
 unfold B8 bsl;cases BO P T with
 |none=>rfl
 |some z=>
  obtain⟨n,e⟩:=z
  cases n with
  |some n=>rfl
  |none=>
   simp only[bsz]
   cases CB P e with
   |none=>rfl
   |some z=>
    simp only
    split
    ·cases DC (fun i=>some (i*P.cellsOf e,P.cellsOf e)) (bc len z).flatten parts<;>rfl
    ·rfl
def fn2(f:cz):Option (List V)->Option (List V)->Option V
 |some a,some b=>some (.fn f a b)
 |_,_=>none
@[simp] theorem A5J(f:cz)(a b:List V):fn2 f (some a) (some b)=some (.fn f a b):=rfl
@[simp] theorem BDL(f:cz)(x y:Array cj)(r:cj->Option V):I9 P (lY (.makeFunc (.func f) x y)) s r=fn2 f (E5 r x.toList) (E5 r y.toList):=by show((x.toList.mapM r).bind fun a=>(y.toList.mapM r).bind fun b=>some (V.fn f a b))=_;rw[<-KL,<-KL];cases E5 r x.toList<;>cases E5 r y.toList<;>rfl
@[simp] theorem A9D(x y:cj)(Ts:Array bp)(r:cj->Option V):I9 P (lY (.call ⟨.builtin .max,#[x,y],Ts⟩)) s r=o2 SK (r x) (r y):=gD _ _ _
@[simp] theorem A9E(x y:cj)(Ts:Array bp)(r:cj->Option V):I9 P (lY (.call ⟨.builtin .min,#[x,y],Ts⟩)) s r=o2 SL (r x) (r y):=gD _ _ _
@[simp] theorem AXR(k j:cx)(m n:Int):SK (.int k m) (.int j n)=if k=j then some (.int k (if n>m then n else m)) else none:=rfl
@[simp] theorem AXS(k j:cx)(m n:Int):SL (.int k m) (.int j n)=if k=j then some (.int k (if n<m then n else m)) else none:=rfl
theorem CQ{e:bp}{n:Nat}{ys:List (List V)}(hc:0<P.cellsOf e)(hz:bA P e=true):B9 P e n ys=true↔(ys.all (fun y=>y.length==P.cellsOf e)=true/\n+ys.length<=maxLen/\(n+ys.length)*P.bytesOf e<=140737488355328):=by simp[B9,hc,hz,and_assoc]
end Go.Pg
namespace Go.Pg
variable {P:ck}{E:XE}{st:XS}{fr:Fr}{s:St}
theorem AP{P:ck}{kn:CF0}{rec:GJ}{f:cz}{args:List V}(h:kn f args=none):A8 P kn rec f args=EG P rec f args:=by unfold A8;rw[h]
def pv(k γ:Nat):List (List V)->V
 |[]=>.nil
 |e::es=>.vec 0 k γ (e::es).length
def pl(k γ:Nat)(T:bp):List (List V)->AA
 |[]=>[]
 |e::es=>[(k,γ,.vec T (e::es))]
def sl:List (List V)->V
 |[]=>.nil
 |e::es=>.list false (e::es)
@[simp] theorem BDM(k γ:Nat):pv k γ []=.nil:=rfl
@[simp] theorem BDN(k γ:Nat)(T:bp):pl k γ T []=[]:=rfl
@[simp] theorem A9F(k γ:Nat)(T:bp)(es:List (List V))(y:List V)(ys:List (List V)):pl k γ T (es++y::ys)=[(k,γ,.vec T (es++y::ys))]:=by cases es<;>rfl
@[simp] theorem A9G(k γ:Nat)(T:bp)(y:List V)(ys:List (List V)):pl k γ T (y::ys)=[(k,γ,.vec T (y::ys))]:=rfl
@[simp] theorem BGD(k γ:Nat)(T:bp)(es:List (List V)):kl k [] ((pl k γ T es).get k)=pl k γ T es:=by
 cases es with
 |nil=>rfl
 |cons e es=>simp
@[simp] theorem A5K{k j:Nat}(γ:Nat)(T:bp)(es:List (List V))(h:j≠k):(pl k γ T es).get j=none:=by
 cases es with
 |nil=>rfl
 |cons e es=>simp[h]
@[simp] theorem ASR(e k c γ:Nat)(loc:AA)(es:List (List V))(y:List V)(ys:List (List V))(hl:AA.get loc k=(pl k γ e es).get k)(h1:es.all (fun y=>y.length==P.cellsOf e)=true)(h2:B9 P e es.length (y::ys)=true) :
  yZ P e k c fr ⟨[],loc⟩ (pv k γ es) (y::ys)=some ⟨c+1,(k,true,pv k c (es++y::ys))::fr,⟨[],(k,c,.vec e (es++y::ys))::loc⟩⟩:=by
 cases es with
 |nil=>
  simp only[bk]at h2
  simp[h2,pv]
 |cons z es=>
  have hl:AA.get loc k=some (γ,.vec e (z::es)):=by rw[hl];simp
  simp only[pv,AJN,AE1,bk,if_true,hl,mE,UG,TM,true_and,h1,h2]
  simp[Nat.add_comm,Nat.add_left_comm]
theorem LR{T:bp}(f:Nat)(loc:AA)(k γ:Nat)(es:List (List V))(hl:AA.get loc k=(pl k γ T es).get k):AY ⟨[],loc⟩ (f+1) (pv k γ es)=some (sl es):=by
 cases es with
 |nil=>rfl
 |cons z es=>
  have hl:AA.get loc k=some (γ,.vec T (z::es)):=by rw[hl];simp
  simp only[pv,aG,bk,if_true,hl,AE2,sl]
  simp
@[simp] theorem AXT(f k γ:Nat)(T:bp)(es:List (List V)):AY ⟨[],pl k γ T es⟩ (f+1) (pv k γ es)=some (sl es):=LR (T:=T) f _ k γ es rfl
@[simp] theorem A5L{T:bp}(h:DZ P T=true)(es:List (List V)):HU P T (sl es)=some (.int .i64 es.length):=by
 cases es with
 |nil=>exact yH h
 |cons e es=>exact qO h _ _
@[simp] theorem BGE(e:bp)(es:List (List V))(k:cx)(j:Int):ia P s (sl es) (.int k j) (some (none,e))=if 0<=j/\j<es.length/\(es.getD j.toNat []).length=P.cellsOf e/\0<P.cellsOf e then some (.ref (es.getD j.toNat [])) else none:=by
 cases es with
 |nil=>
  rw[if_neg (by simp only[bk];omega)]
  rfl
 |cons z es=>rfl
@[simp] theorem dR(f:Nat)(es:List (List V)):AE (f+1) (sl es)=es.all fun e=>e.all (AE f):=by cases es<;>rfl
@[simp] theorem A5M(es:List (List V)):weakN (sl es)=.list false es:=by cases es<;>rfl
@[simp] theorem A5N(es:List (List V)):weakM (sl es)=.list false es:=by cases es<;>rfl
@[simp] theorem A9H(es:List (List V)):weakV (sl es)=sl es:=by cases es<;>rfl
@[simp] theorem A5O(es:List (List V)):weakC (sl es)=sl es:=by cases es<;>rfl
@[simp] theorem AXU(es:List (List V)):A7 (sl es)=[sl es]:=by cases es<;>rfl
@[simp] theorem AXV(es:List (List V)):BC (sl es)=true:=by cases es<;>rfl
@[simp] theorem AXW(k γ:Nat)(es:List (List V)):A7 (pv k γ es)=[pv k γ es]:=by cases es<;>rfl
@[simp] theorem AXX(k γ:Nat)(es:List (List V)):BC (pv k γ es)=true:=by cases es<;>rfl
@[simp] theorem ASS(es:List (List V)):elemsOf s (sl es)=some es:=by cases es<;>rfl
@[simp] theorem AXY(f:Nat)(es:List (List V)):AY s (f+1) (sl es)=some (sl es):=by cases es<;>rfl
@[simp] theorem AXZ(es:List (List V)):GI (some (sl es))=[]:=by cases es<;>rfl
@[simp] theorem AX0(es:List (List V)):J0 (some (sl es))=[]:=by cases es<;>rfl
def yI(P:ck)(e:bp)(d c:Nat)(fr:Fr)(s:St)(xv:V)(ys:List (List V)):Option (XS×AK):=match IJ xv ys with
 |some es=>if es.all (fun y=>y.length==P.cellsOf e)=true/\B9 P e es.length ys=true then some (⟨c+1,(d,true,.vec s.up.length d c (es.length+ys.length))::fr,s.put s.up.length d c (.vec e (es++ys))⟩,[(s.up.length,d),(s.up.length,d+HO)]) else none
 |none=>match xv with
  |.vec l q γ n=>wp [(l,q),(l,q+HO)] (apW P e d c fr s l q γ n ys (QE n ys (s.get l q)))
  |_=>none
def ad4(P:ck)(e:bp)(d c:Nat)(fr:Fr)(s:St)(xv:V):Option (List (List V))->Option (XS×AK)
 |some ys=>yI P e d c fr s xv ys
 |none=>none
@[simp] theorem AE3(e:bp)(d c:Nat)(xv:V)(ys:List (List V)):ad4 P e d c fr s xv (some ys)=yI P e d c fr s xv ys:=rfl
def ad3(P:ck)(d c:Nat)(fr:Fr)(s:St):Option (Option Nat×bp)->Option V->Option V->Option (XS×AK)
 |some (none,e),some xv,some yv=>ad4 P e d c fr s xv (elemsOf s yv)
 |_,_,_=>none
@[simp] theorem AE4(d c:Nat)(e:bp)(xv yv:V):ad3 P d c fr s (some (none,e)) (some xv) (some yv)=ad4 P e d c fr s xv (elemsOf s yv):=rfl
@[simp] theorem AM3(b:Bool)(es:List (List V)):oH (.list b es)=some es:=rfl
@[simp] theorem AST:oH .nil=some []:=rfl
@[simp] theorem AX1(es:List (List V)):oH (sl es)=some es:=by cases es<;>rfl
@[simp] theorem AX2(d:Tmp)(c:Nat)(x y:cj)(T:bp):DG P E (some d) (.app [x,y] [T,T]) ⟨c,fr,s⟩=ad3 P d c fr s (BO P T) (CG fr x) (CG fr y):=by
 show xAppD P (some d) [x,y] [T,T] _=_;unfold xAppD xAppG;simp only[Nat.beq_refl];cases hT:BO P T with
 |none=>cases CG fr x<;>cases CG fr y<;>rfl
 |some p=>
  obtain⟨k,e⟩:=p
  cases k with
  |some k=>cases CG fr x<;>cases CG fr y<;>rfl
  |none=>
   cases CG fr x with
   |none=>rfl
   |some xv=>
    cases CG fr y with
    |none=>rfl
    |some yv=>
     simp only[AE4]
     cases elemsOf s yv with
     |none=>rfl
     |some ys=>
      simp only[AE3,yI]
      cases IJ xv ys with
      |some es=>
       simp only[ifB,bj,bq]
       by_cases hC:es.all (fun y=>y.length==P.cellsOf e)=true/\B9 P e es.length ys=true
       ·rw[if_pos hC,if_pos hC]
       ·rw[if_neg hC,if_neg hC]
      |none=>
       simp only
       unfold kU
       cases xv with
       |vec l q γ n=>
        simp only
        cases QE n ys (s.get l q)with
        |none=>rfl
        |some z=>
         obtain⟨γ',r⟩:=z
         cases r with
         |vec W es=>
          simp only[ifB,bj,bq,TM,bg,and_assoc]
          by_cases hC:γ'=γ/\W=e/\n=es.length/\es.all (fun y=>y.length==P.cellsOf e)=true/\B9 P e es.length ys=true
          ·rw[if_pos hC,if_pos hC];rfl
          ·rw[if_neg hC,if_neg hC];rfl
         |_=>rfl
       |_=>rfl
@[simp] theorem BDP(e k c γ:Nat)(loc:AA)(es:List (List V))(y:List V)(ys:List (List V))(hl:AA.get loc k=(pl k γ e es).get k)(h1:es.all (fun y=>y.length==P.cellsOf e)=true)(h2:B9 P e es.length (y::ys)=true) :
  yI P e k c fr ⟨[],loc⟩ (pv k γ es) (y::ys)=some (⟨c+1,(k,true,pv k c (es++y::ys))::fr,⟨[],(k,c,.vec e (es++y::ys))::loc⟩⟩,[(0,k),(0,k+HO)]):=by
 cases es with
 |nil=>
  simp only[bk]at h2
  simp[yI,IJ,h2,pv]
 |cons z es=>
  have hl:AA.get loc k=some (γ,.vec e (z::es)):=by rw[hl];simp
  simp only[pv,yI,IJ,AE1,bk,if_true,hl,mE,UG,TM,true_and,h1,h2]
  simp[Nat.add_comm,Nat.add_left_comm]
end Go.Pg
namespace Go.Pg
variable {P:ck}{E:XE}{st:XS}{fr:Fr}{s:St}
theorem qP{α:Type}(x:α):BZ [x]=some ([],x):=rfl
def un1{α:Type}(x:α):Option (List α×α)->Option (List α×α)
 |some (a,b)=>some (x::a,b)
 |none=>none
@[simp] theorem A5P{α:Type}(x:α)(a:List α)(b:α):un1 x (some (a,b))=some (x::a,b):=rfl
theorem V8{α:Type}(x y:α)(l:List α):BZ (x::y::l)=un1 x (BZ (y::l)):=by simp only[BZ];unfold un1;cases BZ (y::l)<;>rfl
attribute [simp] qP V8
def TP(d:Option Tmp)(fr:Fr)(c:Nat)(r:V):Option (List AA×AA)->Option XS
 |some (u,l)=>some ⟨c,putD fr d true r,⟨u,l⟩⟩
 |none=>none
@[simp] theorem AX3(d:Tmp)(c:Nat)(r:V)(u:List AA)(l:AA):TP (some d) fr c r (some (u,l))=some ⟨c,(d,true,r)::fr,⟨u,l⟩⟩:=rfl
@[simp] theorem A9I(c:Nat)(r:V)(u:List AA)(l:AA):TP none fr c r (some (u,l))=some ⟨c,fr,⟨u,l⟩⟩:=rfl
def mH(d:Option Tmp)(fr:Fr)(st:XS):Option V->Option XS
 |some r=>TP d fr st.c r (BZ (st.s.up.map (AH st.s)))
 |none=>none
@[simp] theorem AX4(d:Option Tmp)(c:Nat)(fr':Fr)(up:List AA)(loc:AA)(r:V):mH d fr ⟨c,fr',⟨up,loc⟩⟩ (some r)=TP d fr c r (BZ (up.map (AH ⟨up,loc⟩))):=rfl
def clX(s:St):Option V->Option V
 |some r=>AY s 4 r
 |none=>none
@[simp] theorem A5Q(r:V):clX s (some r)=AY s 4 r:=rfl
def aJ(P:ck)(d:Option Tmp)(fr:Fr)(rs:List ResultVar)(r:Option (Exit×XS)):Option XS:=match r with
 |some (.ret,st)=>mH d fr st (clX st.s (E8 P rs st.fr st.s))
 |some (.normal,st)=>mH d fr st (clX st.s (E8 P rs st.fr st.s))
 |_=>none
@[simp] theorem AE5(d:Option Tmp)(rs:List ResultVar):aJ P d fr rs (some (.ret,st))=mH d fr st (clX st.s (E8 P rs st.fr st.s)):=rfl
@[simp] theorem mI(d:Option Tmp)(rs:List ResultVar):aJ P d fr rs (some (.normal,st))=mH d fr st (clX st.s (E8 P rs st.fr st.s)):=rfl
theorem mJ{A:Ann}{kn:CF0}{n:Nat}{f:cz}{fn:Func}{code:cw}{args:List V}(hf:P.funcs[f]? = some fn)(hb:fn.body=some code)(hs:bm args.length fn.ntmps=true)(hcl:(args.all (AE 9)&&!(BL P f))=false)(d:Option Tmp)(c:Nat)(fr:Fr)(up:List AA)(loc:AA) :
  HK (BI P A kn n) d ⟨c,fr,⟨up,loc⟩⟩ f args=aJ P d fr fn.results.toList (AF P A kn n fn.ntmps code ⟨c,AD 0 args,⟨up++[loc],[]⟩⟩):=by
 show(match ZJ P kn (AF P A kn n) f args ⟨c,fr,⟨up,loc⟩⟩ with
  |some (r,st')=>some (⟨st'.c,putD st'.fr d true r,st'.s⟩:XS)
  | none=>none)=_
 unfold ZJ
 rw[hcl]
 unfold dA V5 lC
 rw[hf]
 simp only[hb,hs]
 generalize AF P A kn n fn.ntmps code ⟨c,AD 0 args,⟨up++[loc],[]⟩⟩=q
 have aux:∀st:XS,(match(match(match xA P fn.results.toList st with
   |some (r,c,up)=>match BZ up with
    |some (u,l)=>some (r,(⟨c,fr,⟨u,l⟩⟩:XS))
    |none=>none
   | none=>none:Option (V×XS))with
   |some r=>some r
   | none=>none:Option (V×XS))with
  |some (r,st')=>some (⟨st'.c,putD st'.fr d true r,st'.s⟩:XS)
  | none=>none)=mH d fr st (clX st.s (E8 P fn.results.toList st.fr st.s)):=fun st=>by
  unfold xA clX
  cases E8 P fn.results.toList st.fr st.s with
  |none=>rfl
  |some r=>
   cases h:AY st.s 4 r with
   |none=>simp[mH,h]
   |some r'=>
    simp only[h,mH]
    cases BZ (st.s.up.map (AH st.s))with
    |none=>rfl
    |some z=>rfl
 cases q with
 |none=>rfl
 |some q=>
  obtain⟨e,st⟩:=q
  have:=aux st
  cases e with
  |ret=>simp only[AE5,<-this];cases xA P fn.results.toList st with
   |none=>rfl
   |some z=>
    obtain⟨r,c,up⟩:=z
    simp only
    cases BZ up<;>rfl
  |normal=>simp only[mI,<-this];cases xA P fn.results.toList st with
   |none=>rfl
   |some z=>
    obtain⟨r,c,up⟩:=z
    simp only
    cases BZ up<;>rfl
  |_=>rfl
theorem A3{A:Ann}{kn:CF0}{n:Nat}{f:cz}{fn:Func}{code:cw}{args:List V}(hf:P.funcs[f]? = some fn)(hb:fn.body=some code)(hs:bm args.length fn.ntmps=true)(hcl:args.all (AE 9)=false)(d:Option Tmp)(c:Nat)(fr:Fr)(up:List AA)(loc:AA) :
  HK (BI P A kn n) d ⟨c,fr,⟨up,loc⟩⟩ f args=aJ P d fr fn.results.toList (AF P A kn n fn.ntmps code ⟨c,AD 0 args,⟨up++[loc],[]⟩⟩) :=
 mJ hf hb hs (by rw[hcl,Bool.false_and]) d c fr up loc
theorem uH{A:Ann}{kn:CF0}{n:Nat}{f:cz}{fn:Func}{code:cw}{args:List V}(hf:P.funcs[f]? = some fn)(hb:fn.body=some code)(hs:bm args.length fn.ntmps=true)(hh:BL P f=true)(d:Option Tmp)(c:Nat)(fr:Fr)(up:List AA)(loc:AA) :
  HK (BI P A kn n) d ⟨c,fr,⟨up,loc⟩⟩ f args=aJ P d fr fn.results.toList (AF P A kn n fn.ntmps code ⟨c,AD 0 args,⟨up++[loc],[]⟩⟩) :=
 mJ hf hb hs (by rw[hh,Bool.not_true,Bool.and_false]) d c fr up loc
@[simp] theorem ASV(f l k g o:Nat):AE (f+1) (.ptr l k g o)=false:=rfl
@[simp] theorem ASW(f l k g o:Nat):AE (f+1) (.vec l k g o)=false:=rfl
@[simp] theorem AX5(f l k g:Nat):AE (f+1) (.mp l k g)=false:=rfl
@[simp] theorem A5R(l k g o:Nat):weakV (.ptr l k g o)=.ptr l k g o:=rfl
@[simp] theorem A5S(l k g o:Nat):weakV (.vec l k g o)=.vec l k g o:=rfl
@[simp] theorem A5T(cs:List V):weakV (.ref cs)=.ref cs:=rfl
@[simp] theorem BDR(d c:Nat)(f:cz)(x y:List V):yF d c fr s (some (.fn f x y))=some ⟨c+1,(d,true,.ptr s.up.length d c 0)::fr,s.put s.up.length d c (.box [.fn f x y])⟩:=rfl
@[simp] theorem A9J(d c:Nat)(l k g o:Nat):yF d c fr s (some (.ptr l k g o))=some ⟨c+1,(d,true,.ptr s.up.length d c 0)::fr,s.put s.up.length d c (.box [.ptr l k g o])⟩:=rfl
@[simp] theorem BDS(d c:Nat)(es:List (List V)):yF d c fr s (some (sl es))=some ⟨c+1,(d,true,.ptr s.up.length d c 0)::fr,s.put s.up.length d c (.box [sl es])⟩:=by cases es<;>rfl
@[simp] theorem FD:AH s []=[]:=rfl
@[simp] theorem A2(k g:Nat)(r:AX)(L:AA):AH s ((k,g,r)::L)=(k,g,CE s r)::AH s L:=rfl
def sr1(r:AX):Option (List V)->AX
 |some ds=>.box ds
 |none=>r
@[simp] theorem A5U(r:AX)(ds:List V):sr1 r (some ds)=.box ds:=rfl
theorem EQ(cs:List V):CE s (.box cs)=sr1 (.box cs) (GR (BU s) cs):=by unfold CE B7 sr1;simp only;cases GR (BU s) cs<;>rfl
attribute [simp] EQ
theorem qQ(f:V->Option V):GR f []=some []:=rfl
theorem mK(f:V->Option V)(v:V)(l:List V):GR f (v::l)=mc2 (f v) (GR f l):=by
 simp only[GR];cases f v with
 |none=>rfl
 |some x=>cases GR f l<;>rfl
attribute [simp] qQ mK
@[simp] theorem AM4(k:cx)(n:Int):BU s (.int k n)=some (.int k n):=rfl
@[simp] theorem AJW(b:Bool):BU s (.bool b)=some (.bool b):=rfl
@[simp] theorem AJX(b:Bool)(es:List (List V)):BU s (.list b es)=some (.list b es):=rfl
@[simp] theorem AM5:BU s .nil=some .nil:=rfl
@[simp] theorem ASX(es:List (List V)):BU s (sl es)=some (sl es):=by cases es<;>rfl
@[simp] theorem ASY(f:cz)(x y:List V):BU s (.fn f x y)=AY s 4 (.fn f x y):=rfl
@[simp] theorem AM6(l k g o:Nat):BU s (.ptr l k g o)=AY s 4 (.ptr l k g o):=rfl
@[simp] theorem mL(l k g o:Nat):BU s (.vec l k g o)=AY s 4 (.vec l k g o):=rfl
@[simp] theorem AM7(cs:List V):BU s (.agg cs)=AY s 4 (.agg cs):=rfl
@[simp] theorem AX6(f:Nat)(g:cz)(x y:List V):AY s (f+1) (.fn g x y)=fn2 g (PW (AY s f) x) (PW (AY s f) y):=by simp only[AY,TO,fn2];cases PW (AY s f) x<;>cases PW (AY s f) y<;>rfl
def cp1(f:List V->Option (List V))(g off:Nat):Option (Nat×AX)->Option V
 |some (g',.box cs)=>if g'=g then(f cs).map fun ds=>.ref (ds.drop off) else none
 |_=>none
@[simp] theorem ASZ(f:Nat)(up:List AA)(loc:AA)(l k g off:Nat):AY ⟨up,loc⟩ (f+1) (.ptr l k g off)=if l=up.length then cp1 (PW (AY ⟨up,loc⟩ f)) g off (loc.get k) else some (.ptr l k g off):=by
 simp only[AY,TO];split
 ·cases loc.get k with
  |none=>rfl
  |some z=>obtain⟨g',r⟩:=z;cases r<;>rfl
 ·rfl
def ow3(d c:Nat)(fr:Fr)(s:St):Option V->Option XS
 |some r=>some ⟨c+1,(d,true,r)::fr,s.put s.up.length d c .dead⟩
 |none=>none
@[simp] theorem A5V(d c:Nat)(r:V):ow3 d c fr s (some r)=some ⟨c+1,(d,true,r)::fr,s.put s.up.length d c .dead⟩:=rfl
theorem AJY:CE s .dead=.dead:=rfl
attribute [simp] AJY
end Go.Pg
theorem Go.Pg.qNz (m:Nat)(h:0<m):∃k,m=k+1:=⟨m-1,by omega⟩
