/- Operations of a region with all that hangs on the region alone worked out; running them one after another. No program in sight. -/
import Derived.Test.YthhdhbalenanjaaGreatQ2
noncomputable section
open Go renaming TypeId->cj,Operand->ck,Program->cq,Oper->cw,Code->cx,IntKind->cz,FuncId->cd
open Bool renaming and_eq_true->bj
open List renaming length_nil->bk,length_append->bq,getElem?_eq_getElem->bw,mapM_cons->bz,all_cons->bc,replicate->bf,mapM_nil->bm
open Nat renaming beq->bx,blt_eq->bg,beq_eq->bh,ble->bn,blt->bp
namespace Go.Pg
variable {P:cq}{E:XE}
inductive IK where
 |mv (x:ck)
 |bin (op:BinOp) (T:cj) (x y:ck)
 |fa (T:cj) (x:ck) (f:Nat)
 |ld (T:cj) (x:ck)
 |ldz (T:cj) (x:ck)
 |pick (c a b:ck)
 |build (T:cj) (ps:List (Nat×ck))
 |buildS (T:cj) (n:Nat) (ps:List (Nat×ck))
 |oth (op:Op)
 |alloc (T:cj)
 |box (x:ck)
 |mkM (r:Option ck)
 |mkS (T:cj) (x y:ck)
 |sto (T:cj) (x y:ck)
 |upd (T:cj) (x i y:ck)
 |call (own:Bool) (tk:Option Tmp) (f:ck) (args:List ck)
 |app (args:List ck) (Ts:List cj)
 |clr (args:List ck) (Ts:List cj)
 |cpy (args:List ck) (Ts:List cj)
def nN (op : Op) : cw := { dst := none, op := op, type := 0, pos := "", after := #[], guard := none }
def AF2(all:List cw):List ck->Option Tmp
 |[]=>none
 |x::r=>match x with
  |.tmp t=>cond (AJ8 all t) (some t) (AF2 all r)
  |_=>AF2 all r
def NW(all:List cw)(o:cw):IK:=match o.op with
 |.move x=>.mv x
 |.assign x=>.mv x
 |.binOp op T x y _=>.bin op T x y
 |.fieldAddr T x f=>.fa T x f
 |.load T x=>.ld T x
 |.pick c a b=>.pick c a b
 |.build T ps=>.build T ps.toList
 |.buildSlice T n ps=>.buildS T n ps.toList
 |.alloc T=>.alloc T
 |.box _ x=>.box x
 |.makeMap _ r=>.mkM r
 |.makeSlice T x y=>.mkS T x y
 |.store T x y=>.sto T x y
 |.mapUpdate T x i y=>.upd T x i y
 |.call c=>match c.callee with
  |.value f=>.call (DV all o) (AF2 all c.args.toList) f c.args.toList
  |.builtin .append=>.app c.args.toList c.argTypes.toList
  |.builtin .clear=>.clr c.args.toList c.argTypes.toList
  |.builtin .copy=>.cpy c.args.toList c.argTypes.toList
  |_=>.oth o.op
 |op=>.oth op
structure JQ where
 g:Option (Tmp×Bool)
 d:Option Tmp
 k:IK
def comp(all:List cw)(o:cw):JQ:=⟨LP all o,o.dst,NW all o⟩
def AF3:IK->IK
 |.ld T x=>.ldz T x
 |k=>k
def fE(all:List cw)(o:cw):JQ:=⟨LP all o,o.dst,cond (zB all o) (AF3 (NW all o)) (NW all o)⟩
def EG(d:Option Tmp)(st:XS)(r:Option V):Option XS:=match r with
 |some v=>some ⟨st.c,putD st.fr d true v,st.s⟩
 |none=>none
def bM(tk:Option Tmp)(st:XS):XS:=match tk with
 |none=>st
 | some t=>match(match BS st.fr t with
   |some (true,.vec l q γ n)=>match st.s.get l q with
    |some (γ',.vec _ es)=>Bool.rec none (some ⟨st.c,(t,true,.list false (es.take n))::st.fr,st.s.put l q γ .dead⟩) (bx γ' γ&&bn n es.length&&bp γ st.c)
    |_=>none
   | _=>none:Option XS)with
  |some st1=>st1
  |none=>st
def CX(P:cq)(E:XE)(d:Option Tmp)(k:IK)(st:XS):Option XS:=match k with
 |.mv x=>EG d st (CI st.fr x)
 |.bin op T x y=>EG d st (yY P st.fr op T x y)
 |.fa T x f=>EG d st (xFA P st.fr T x f)
 |.ld T x=>EG d st (NT P st.fr st.s T x)
 |.ldz T x=>EG d st (NT P st.fr st.s T x)
 |.pick c a b=>EG d st (uS st.fr c a b)
 |.build T ps=>EG d st (VJ P st.fr T ps)
 |.buildS T n ps=>EG d st (PW P st.fr T n ps)
 |.oth op=>EG d st (J0 P (nN op) st.s (CI st.fr))
 |.alloc T=>O2 P d T st
 |.box x=>mH d x st
 |.mkM r=>yU d r st
 |.mkS T x y=>WX P d T x y st
 |.sto T x y=>JW P d T x y st
 |.upd T x i y=>yV P d T x i y st
 |.call own tk f args=>aE E own d f args (bM tk st)
 |.app args Ts=>xAppend P d args Ts st
 |.clr args Ts=>gZ P d args Ts st
 |.cpy args Ts=>uU P d args Ts st
def opI(P:cq)(E:XE)(i:JQ)(st:XS):Option XS:=match gdX st.fr i.g with
 |some true=>CX P E i.d i.k st
 |some false=>some (IQ i.d st)
 |none=>none
def opO(P:cq)(E:XE)(i:JQ)(r:Option XS):Option XS:=match r with
 |some st=>opI P E i st
 |none=>none
def PD(P:cq)(E:XE):List JQ->Option XS->Option XS
 |[],r=>r
 |i::l,r=>PD P E l (opO P E i r)
theorem bN(all:List cw)(st:XS):∀(xs:List ck),(match NE all st xs with
  |some st1=>st1
  | none=>st)=bM (AF2 all xs) st
 |[]=>rfl
 |x::r=>by
  unfold NE AF2;cases x with
  |tmp t=>
   simp only
   cases AJ8 all t with
   |false=>exact bN all st r
   |true=>rfl
  |_=>exact bN all st r
theorem A41{o:cw}{st:XS}:AEI P (fun _=>false) o st=none:=by unfold AEI;split<;>rfl
theorem AF4(hl:E.lit=fun _=>false)(all:List cw)(o:cw)(st:XS):opX P E all o st=opI P E (comp all o) st:=by
 unfold opX opI;rw[hl];simp only[A41];have:(match AEJ all o st with
   |some st1=>QU P E (DV all) o st1
   | none=>QU P E (DV all) o st)=CX P E o.dst (NW all o) st:=by
  have ht:∀(r:Option XS),(match r with
   |some st1=>QU P E (DV all) o st1
   | none=>QU P E (DV all) o st)=QU P E (DV all) o (match r with
   |some st1=>st1
   | none=>st):=fun r=>by cases r <;> rfl
  rw[ht]
  obtain⟨d,op,T,pos,af,gd⟩:=o
  cases op with
  |call c=>
   obtain⟨cal,args,Ts⟩:=c
   cases cal with
   |value f=>
    show QU P E _ _ (match NE all st args.toList with|some st1=>st1|none=>st)=_
    rw[bN]
    rfl
   |builtin b=>cases b<;>rfl
   |_=>rfl
  |_=>rfl
 show _=(match gdX st.fr (LP all o)with
  |some true=>CX P E o.dst (NW all o) st
  |some false=>some (IQ o.dst st)
  | none=>none)
 cases gdX st.fr (LP all o)with
 |none=>rfl
 |some b=>
  cases b with
  |false=>rfl
  |true=>exact this
theorem I7:∀(l:List JQ),PD P E l none=none
 |[]=>rfl
 |_::l=>I7 l
theorem vV(hl:E.lit=fun _=>false)(all:List cw):∀(l:List cw) (st:XS),iA P E all l st=PD P E (l.map (comp all)) (some st)
 |[],st=>rfl
 |o::l,st=>by
  simp only[iA,List.map_cons,PD,opO];rw[AF4 hl];cases opI P E (comp all o) st with
  |none=>exact(I7 _).symm
  |some st'=>exact vV hl all l st'
def IL(P:cq)(k:IK)(r:ck->Option V):AK:=match k with
 |.ld T x=>BH (bx (P.cellsOf T) 1) (r x)
 |.app xs _=>KV r xs
 |.oth op=>EM P (nN op) r
 |_=>[]
def DP(P:cq)(E:XE)(d:Option Tmp)(k:IK)(st:XS):Option (XS×AK):=match k with
 |.mv x=>T3 (EG d st (CI st.fr x))
 |.bin op T x y=>T3 (EG d st (yY P st.fr op T x y))
 |.fa T x f=>T3 (EG d st (xFA P st.fr T x f))
 |.ld T x=>T3 (EG d st (NT P st.fr st.s T x))
 |.ldz T x=>T3 (EG d st (NT P st.fr st.s T x))
 |.pick c a b=>T3 (EG d st (uS st.fr c a b))
 |.build T ps=>T3 (EG d st (VJ P st.fr T ps))
 |.buildS T n ps=>T3 (EG d st (PW P st.fr T n ps))
 |.oth op=>T3 (EG d st (J0 P (nN op) st.s (CI st.fr)))
 |.alloc T=>T3 (O2 P d T st)
 |.box x=>T3 (mH d x st)
 |.mkM r=>T3 (yU d r st)
 |.mkS T x y=>T3 (WX P d T x y st)
 |.sto T x y=>AEL P d T x y st
 |.upd ..=>none
 |.call own _ f args=>Bool.rec (T3 (aF E.c0 d f args st)) (T3 (H5 E.co d f args st)) own
 |.app args Ts=>xAppD P d args Ts st
 |.clr ..=>none
 |.cpy ..=>none
def DJ:IK->Bool
 |.alloc _|.box _|.mkM _|.mkS ..|.sto ..|.app ..=>true
 |.call own ..=>own
 |_=>false
def VV(P:cq)(E:XE)(i:JQ)(st:XS):Option (XS×AK):=match gdX st.fr i.g with
 |some true=>DP P E i.d i.k st
 |some false=>Bool.rec (some (IQ i.d st,[])) none (DJ i.k)
 |none=>none
def nO(P:cq)(E:XE)(i:JQ)(r:Option (XS×AK×AK)):Option (XS×AK×AK):=match r with
 |some (st,rd,wr)=>match VV P E i st with
  |some (st',w)=>some (st',IL P i.k (CI st.fr)++rd,w++wr)
  |none=>none
 |none=>none
def VW(P:cq)(E:XE):List JQ->Option (XS×AK×AK)->Option (XS×AK×AK)
 |[],r=>r
 |i::l,r=>VW P E l (nO P E i r)
def bO(r:Option (XS×AK×AK)):Option XS:=match r with
 |some (st,rd,wr)=>Bool.rec none (some st) (wr.all fun p=>!(rd.contains p))
 |none=>none
structure nP where
 new:List Tmp
 ph:List JQ
 sq:List JQ
def iV(new:List Tmp)(st:XS):Bool:=new.all fun d=>(st.s.loc.get d).isNone
def AF5(new:List Tmp)(r:Option XS):Option (XS×AK×AK):=match r with
 |some st=>Bool.rec none (some (st,[],[])) (iV new st)
 |none=>none
def VX(P:cq)(E:XE):List nP->Option XS->Option XS
 |[],r=>r
 |p::S,r=>VX P E S (PD P E p.sq (bO (VW P E p.ph (AF5 p.new r))))
def fF(l:List cw)(R:List Nat):List JQ:=R.filterMap fun i=>(l[i]?).map (comp l)
def fG(l:List cw)(R:List Nat):List JQ:=R.filterMap fun i=>(l[i]?).map (fE l)
def vW(l:List cw)(R:List Nat):List Tmp:=R.filterMap fun i=>match l[i]? with
 |some o=>cond (kA (DV l) o) o.dst none
 |none=>none
def vX(l:List cw)(p:List Nat×List Nat):nP:=⟨vW l p.1,fG l p.1,fF l p.2⟩
def inB(l:List cw)(S:XB):Bool:=S.all fun p=>p.1.all (fun i=>bp i l.length)&&p.2.all (fun i=>bp i l.length)
theorem zZ(all:List cw)(o:cw)(st:XS):iC P E (DV all) o st=DP P E o.dst (NW all o) st:=by
 obtain⟨d,op,T,pos,af,gd⟩:=o;cases op with
 |call c=>
  obtain⟨cal,args,Ts⟩:=c
  cases cal with
  |builtin b=>cases b<;>rfl
  |_=>rfl
 |_=>rfl
theorem ASN(all:List cw)(o:cw)(r:ck->Option V):EM P o r=IL P (NW all o) r:=by
 obtain⟨d,op,T,pos,af,gd⟩:=o;cases op with
 |call c=>
  obtain⟨cal,args,Ts⟩:=c
  cases cal with
  |builtin b=>cases b<;>rfl
  |_=>rfl
 |_=>rfl
theorem A42(all:List cw)(o:cw):(kA (DV all) o||kW o||kP o)=DJ (NW all o):=by
 obtain⟨d,op,T,pos,af,gd⟩:=o;cases op with
 |call c=>
  obtain⟨cal,args,Ts⟩:=c
  cases cal with
  |builtin b=>cases b<;>rfl
  |value f=>simp[kA,kW,kP,DJ,NW]
  |_=>rfl
 |_=>rfl
theorem AK4(all:List cw)(o:cw)(st:XS):qS P E all o st=VV P E (comp all o) st:=by unfold qS VV;rw[zZ,A42];rfl
theorem rZ(d:Option Tmp)(k:IK)(st:XS):DP P E d (AF3 k) st=DP P E d k st:=by cases k<;>rfl
theorem AK5(k:IK):DJ (AF3 k)=DJ k:=by cases k<;>rfl
theorem ASO(all:List cw)(o:cw)(st:XS):VV P E (fE all o) st=VV P E (comp all o) st:=by
 unfold fE comp;cases zB all o with
 |false=>rfl
 |true=>
  show VV P E ⟨LP all o,o.dst,AF3 (NW all o)⟩ st=_
  unfold VV
  simp only[rZ,AK5]
theorem ASP(all:List cw)(o:cw)(r:ck->Option V):cond (zB all o) [] (EM P o r)=IL P (fE all o).k r:=by
 unfold fE;cases hz:zB all o with
 |false=>exact ASN all o r
 |true=>
  obtain⟨T,x,ho⟩:=AM8 hz
  show[]=IL P (AF3 (NW all o)) r
  unfold NW
  rw[ho]
  rfl
theorem P1:∀(l:List JQ),VW P E l none=none
 |[]=>rfl
 |_::l=>P1 l
theorem AF6(l:List cw):∀(R:List Nat) (st:XS) (rd wr:AK),R.all (fun i=>bp i l.length)=true->phX P E l R st rd wr=VW P E (fG l R) (some (st,rd,wr))
 |[],st,rd,wr,_=>rfl
 |i::R,st,rd,wr,h=>by
  simp only[bc,bj,bg]at h;have hi:=bw h.1;have hp:fG l (i::R)=fE l l[i]::fG l R:=by simp[fG,hi]
  rw[hp];simp only[phX,hi,VW,nO,AK4,ASO];cases VV P E (comp l l[i]) st with
  |none=>exact(P1 _).symm
  |some q=>
   obtain⟨st',w⟩:=q
   simp only
   rw[AF6 l R _ _ _ h.2,ASP l]
theorem AF7(hl:E.lit=fun _=>false)(l:List cw):∀(R:List Nat) (st:XS),R.all (fun i=>bp i l.length)=true->sqX P E l R st=PD P E (fF l R) (some st)
 |[],st,_=>rfl
 |i::R,st,h=>by
  simp only[bc,bj,bg]at h;have hi:=bw h.1;have hp:fF l (i::R)=comp l l[i]::fF l R:=by simp[fF,hi]
  rw[hp];simp only[sqX,hi,PD,opO,AF4 hl];cases opI P E (comp l l[i]) st with
  |none=>exact(I7 _).symm
  |some st'=>exact AF7 hl l R st' h.2
theorem MM:∀(S:List nP),VX P E S none=none
 |[]=>rfl
 |p::S=>by simp only[VX,AF5,P1,bO,I7];exact MM S
theorem nQ(l:List cw)(st:XS):∀(R:List Nat),Z4 (DV l) l R st.s.loc=iV (vW l R) st
 |[]=>rfl
 |i::R=>by
  have ih:=nQ l st R;unfold Z4 iV vW at *;simp only[bc,List.filterMap_cons,ih];cases hi:l[i]? with
  |none=>simp
  |some o=>
   simp only
   cases hk:kA (DV l) o with
   |false=>simp
   |true=>
    cases hd:o.dst with
    |none=>simp
    |some d=>simp
theorem vY(hl:E.lit=fun _=>false)(l:List cw):∀(S:XB) (st:XS),inB l S=true->zA P E l S st=VX P E (S.map (vX l)) (some st)
 |[],st,_=>rfl
 |p::S,st,h=>by
  simp only[inB,bc,bj]at h;obtain⟨⟨h1,h2⟩,h3⟩:=h;simp only[zA,List.map_cons,VX,vX,AF5,nQ];cases iV (vW l p.1) st with
  |false=>
   simp only[P1,bO,I7]
   exact(MM _).symm
  |true=>
   simp only[AF6 l _ _ _ _ h1]
   cases VW P E (fG l p.1) (some (st,[],[]))with
   |none=>simp only[bO,I7];exact(MM _).symm
   |some q=>
    obtain⟨st1,rd,wr⟩:=q
    simp only[bO]
    cases (wr.all fun p=>!rd.contains p)with
    |false=>simp only[I7];exact(MM _).symm
    |true=>
     simp only[AF7 hl l _ _ h2]
     cases PD P E (fF l p.2) (some st1)with
     |none=>exact(MM _).symm
     |some HP=>exact vY hl l S HP h3
inductive IR where
 |str (l:List JQ)
 |drw (S:List nP)
 |cls (ks:List (Nat×Nat×Nat))
def vZ(P:cq)(ops:List cw)(draw:Bool):IR:=cond draw (cond (XF P ops) (.cls (I6 ops)) (.drw ((cX ops).map (vX ops)))) (.str (ops.map (comp ops)))
def okR(P:cq)(ops:List cw)(draw:Bool):Bool:=cond draw (cond (XF P ops) true (inB ops (cX ops))) true
def K0(P:cq)(E:XE)(i:IR)(st:XS):Option XS:=match i with
 |.str l=>PD P E l (some st)
 |.drw S=>VX P E S (some st)
 |.cls ks=>RM P ks (some st)
end Go.Pg
namespace Go.Pg
variable {P:cq}{σ σ':Nat->Nat}{δ:Nat}{pre:List AA}{s:St}{fr:Fr}
abbrev Tr:=Option (List Nat×List Nat)
abbrev Ann:=Nat->Nat->Tr
def CJ(a:Tr)(st:XS):XS:=match a with
 |some p=>RK p.1 p.2 st
 |none=>st
theorem MN{a:Tr}{st:XS}(h:Bd st):K6 st (CJ a st):=by
 cases a with
 |none=>exact⟨Nat.le_refl _,h,rfl⟩
 |some p=>exact T5 h
theorem JC{a:Tr}{st:XS}:(CJ a st).c=st.c:=by cases a<;>rfl
theorem K1{n N:Nat}{ρ:Option Nat}{c:cx}{K:Exit->Fr->St->Prop}{a:Tr}{st:XS}(h:BI P n N ρ c K ((CJ a st).fr.ren σ pre.length) ((CJ a st).s.emb σ pre)):BI P n N ρ c K (st.fr.ren σ pre.length) (st.s.emb σ pre):=by
 cases a with
 |none=>exact h
 |some p=>exact VN h
def A43(P:cq)(E:XE)(a:Tr)(l:List cw)(draw:Bool)(st:XS):Option XS:=Bool.rec (iA P E l l (CJ a st)) (Bool.rec (QW P E l (CJ a st)) (RM P (I6 l) (some (CJ a st))) (XF P l)) draw
def isY:List Nat->Bool
 |k::_=>bx k 777
 |[]=>false
def AF8(P:cq)(E:XE)(N:Nat)(a:Tr)(l:List cw)(draw:Bool)(us:List Nat)(st:XS):Option XS:=Bool.rec (A43 P (cfU us E) a l draw st) (Bool.rec none (vK P E N l (CJ a st)) draw) (isY us)
def BT(rec:cD)(body:cx)(a:Tr)(n:Nat):XS->Option (Exit×XS):=Nat.rec (motive:=fun _=>XS->Option (Exit×XS)) (fun _=>none) (fun _ ih st=>match rec body st with
 |some (.normal,st')=>ih (CJ a st')
 | r=>r) n
def iW(id:Nat)(l:List cw):Nat:=id+1000*l.length+1000000*(match l with
 |o::_=>match o.dst with
  |some d=>d
  |none=>0
 | []=>0)
def CA:cx->Nat
 |.region id ops _=>iW id ops.toList
 |.seq a _=>CA a
 |.block _ c=>CA c
 |.loop c=>CA c
 |.scope c=>CA c
 |_=>0
def AAA:Tr->List Nat
 |some p=>p.1
 |none=>[]
def NX:Nat:=1000000000000000
def AAB:Tr->List Nat
 |some p=>p.2
 |none=>[]
def VY(P:cq)(E:XE)(A:Ann)(n N:Nat)(rec:cD):cD:=fun code st=>match code with
 |.region id ops draw=>QJ (AF8 P E N (A N (iW id ops.toList)) ops.toList draw (AAB (A N (iW id ops.toList+NX))) (LR (AAA (A N (iW id ops.toList+NX))) st))
 |.loop body=>BT rec body (A N (CA body)) n (CJ (A N (CA body)) st)
 |c=>aH P E n N rec c st
def AF(P:cq)(A:Ann)(kn:CF0)(n:Nat):HD:=Nat.rec (motive:=fun _=>HD) (fun _ _ _=>none) (fun n ih N=>VY P (A3R P kn (fun _ _ _=>none) (fun _=>false) ih) A n N (ih N)) n
theorem AK6(hP:EN P){E:XE}(hEE:KW P E){a:Tr}{id:Nat}{ops:Array cw}{draw:Bool}{N:Nat}(hN:E4 N (.region id ops draw)=true){st st':XS}(hx:A43 P E a ops.toList draw st=some st')(hbd:Bd st):K6 st st' /\
  ∀(n:Nat) (ρ:Option Nat) (σ:Nat->Nat) (pre:List AA) (K:Exit->Fr->St->Prop),(∀σ',AQ st.c σ σ'->K .normal (st'.fr.ren σ' pre.length) (st'.s.emb σ' pre))->BI P n N ρ (.region id ops draw) K (st.fr.ren σ pre.length) (st.s.emb σ pre):=by
 obtain⟨l⟩:=ops
 have hT:=MN (a:=a) hbd
 have ext:∀{st'},K6 (CJ a st) st'->K6 st st':=fun h=>⟨by have:=h.c;rwa [JC]at this,h.bd,h.n.trans hT.n⟩
 cases draw with
 |false=>
  simp only[E4,cond_false,bj]at hN
  have hx:iA P E l l (CJ a st)=some st':=hx
  obtain⟨hE,hs⟩:=iB hEE hT.bd hx
  refine⟨ext hE,fun n ρ σ pre K hk=>K1 (a:=a) ?_⟩
  exact WR (l.map (LP l)) hN.1 (gX (TW hN.2)) (hs σ pre _ fun σ' ha=>hk σ' (by rwa [JC]at ha))
 |true=>
  simp only[E4,cond_true]at hN
  cases hc:XF P l with
  |true=>
   have hx:(Bool.rec (QW P E l (CJ a st)) (RM P (I6 l) (some (CJ a st))) (XF P l):Option XS)=some st':=hx
   rw[hc]at hx
   obtain⟨hE,hs⟩:=AKQ (id:=id) hP hN hc hx hT.bd
   exact⟨ext hE,fun n ρ σ pre K hk=>K1 (a:=a) (hs n ρ σ pre K fun σ' ha=>hk σ' (by rwa [JC]at ha))⟩
  |false=>
  have hx:(Bool.rec (QW P E l (CJ a st)) (RM P (I6 l) (some (CJ a st))) (XF P l):Option XS)=some st':=hx
  rw[hc]at hx
  obtain⟨hE,hs⟩:=bE (id:=id) hP hEE hN hx hT.bd
  exact⟨ext hE,fun n ρ σ pre K hk=>K1 (a:=a) (hs n ρ σ pre K fun σ' ha=>hk σ' (by rwa [JC]at ha))⟩
theorem AK7(hP:EN P){E:XE}(hEE:KW P E){a:Tr}{us:List Nat}{id:Nat}{ops:Array cw}{draw:Bool}{N:Nat}(hN:E4 N (.region id ops draw)=true){st st':XS}(hx:AF8 P E N a ops.toList draw us st=some st')(hbd:Bd st):K6 st st' /\
  ∀(n:Nat) (ρ:Option Nat) (σ:Nat->Nat) (pre:List AA) (K:Exit->Fr->St->Prop),(∀σ',AQ st.c σ σ'->K .normal (st'.fr.ren σ' pre.length) (st'.s.emb σ' pre))->BI P n N ρ (.region id ops draw) K (st.fr.ren σ pre.length) (st.s.emb σ pre):=by
 unfold AF8 at hx
 cases hy:isY us with
 |false=>rw[hy]at hx;exact AK6 hP (ARJ hEE _) hN hx hbd
 |true=>
  rw[hy]at hx
  cases draw with
  |false=>cases hx
  |true=>
   have hx:vK P E N ops.toList (CJ a st)=some st':=hx
   have hT:=MN (a:=a) hbd
   obtain⟨hE,hs⟩:=AFF hP hEE (id:=id) hx hT.bd
   refine⟨⟨by have:=hE.c;rwa [JC]at this,hE.bd,hE.n.trans hT.n⟩,fun n ρ σ pre K hk=>K1 (a:=a) ?_⟩
   exact hs n ρ σ pre K fun σ' ha=>hk σ' (by rwa [JC]at ha)
theorem AF9{N:Nat}{rec:cD}(hrec:aL P N rec){body:cx}{a:Tr}(hN:E4 N body=true)(m:Nat){st st':XS}{e:Exit}(hx:BT rec body a m (CJ a st)=some (e,st'))(hbd:Bd st):K6 st st'/\(∀l,e≠.goto l) /\
  ∀(n:Nat) (ρ:Option Nat) (σ:Nat->Nat) (pre:List AA) (K:Exit->Fr->St->Prop),(ρ=none\/GY body=true)->(∀σ',AQ st.c σ σ'->K e (st'.fr.ren σ' pre.length) (st'.s.emb σ' pre))->BI P n N ρ (.loop body) K (st.fr.ren σ pre.length) (st.s.emb σ pre):=by
 have up:∀{st st':XS},Bd st->K6 (CJ a st) st'->K6 st st':=fun hbd h=>⟨by have:=h.c;rwa [JC]at this,h.bd,h.n.trans (MN hbd).n⟩
 have ext:∀(m:Nat) {st:XS},BT rec body a m (CJ a st)=some (e,st')->Bd st->K6 st st'/\(∀l,e≠.goto l):=by
  intro m;induction m with
  |zero=>intro st hx _;cases hx
  |succ m ih=>
   intro st hx hbd
   have hx:(match rec body (CJ a st)with
    |some (.normal,st')=>BT rec body a m (CJ a st')
    | r=>r)=some (e,st'):=hx
   have hT:=MN (a:=a) hbd
   split at hx
   ·rename_i st1 h1;obtain⟨hE,_,_⟩:=hrec _ _ _ _ h1 hT.bd hN;obtain⟨hE',hg⟩:=ih hx hE.bd;exact⟨up hbd ⟨Nat.le_trans hE.c hE'.c,hE'.bd,hE'.n.trans hE.n⟩,hg⟩
   ·obtain⟨hE,hg,_⟩:=hrec _ _ _ _ hx hT.bd hN;exact⟨up hbd ⟨hE.c,hE.bd,hE.n⟩,hg⟩
 obtain⟨hE,hg⟩:=ext m hx hbd
 refine⟨hE,hg,fun n ρ σ pre K hρ hk=>?_⟩
 refine eD (fun m fr s=>∃(st:XS) (σ:Nat->Nat),fr=st.fr.ren σ pre.length/\s=st.s.emb σ pre/\Bd st/\BT rec body a m (CJ a st)=some (e,st')/\∀σ',AQ st.c σ σ'->K e (st'.fr.ren σ' pre.length) (st'.s.emb σ' pre)) m ⟨st,σ,rfl,rfl,hbd,hx,hk⟩ ?_
 rintro m fr s ⟨st,σ,rfl,rfl,hbd,hx,hk⟩
 cases m with
 |zero=>cases hx
 |succ m=>
  have hx:(match rec body (CJ a st)with
   |some (.normal,st')=>BT rec body a m (CJ a st')
   | r=>r)=some (e,st'):=hx
  have hT:=MN (a:=a) hbd
  refine K1 (a:=a) ?_
  split at hx
  ·rename_i st1 h1;obtain⟨hE,_,hC⟩:=hrec _ _ _ _ h1 hT.bd hN;refine hC n ρ σ pre _ hρ fun σ' ha=>?_;rw[JC]at ha;exact⟨m,Nat.lt_succ_self _,st1,σ',rfl,rfl,hE.bd,hx,fun σ'' ha'=>hk σ'' (ha.trans ha' (by have:=hE.c;rwa [JC]at this))⟩
  ·rename_i hne;obtain⟨hE,hg,hC⟩:=hrec _ _ _ _ hx hT.bd hN;refine hC n ρ σ pre _ hρ fun σ' ha=>?_;rw[JC]at ha;have:=hk σ' ha;cases e with
   |normal=>exact absurd hx (hne st')
   |_=>exact this
theorem iX(hP:EN P){E:XE}(hEE:KW P E){A:Ann}{N:Nat}{rec:cD}(hrec:aL P N rec)(m:Nat):aL P N (VY P E A m N rec):=by
 intro code st e st' hx hbd hN;unfold VY at hx;split at hx
 ·rename_i id ops draw;obtain⟨rfl,hx2⟩:=nH hx;have hT:=vF (AAA (A N (iW id ops.toList+NX))) hbd;obtain⟨hE,hs⟩:=AK7 hP hEE hN hx2 hT.bd;exact⟨⟨Nat.le_trans hT.c hE.c,hE.bd,hE.n.trans hT.n⟩,(by intro l h;cases h),fun n ρ σ pre K _ hk=>nC _ (hs n ρ σ pre K fun σ' ha=>hk σ' (by rwa [ANG]at ha))⟩
 ·rename_i body;have hN:E4 N body=true:=hN;obtain⟨h1,h2,h3⟩:=AF9 hrec hN m hx hbd;exact⟨h1,h2,fun n ρ σ pre K hρ hk=>h3 n ρ σ pre K hρ hk⟩
 ·exact nI hP hEE hrec m _ _ _ _ hx hbd hN
theorem bP(hP:EN P){A:Ann}{kn:CF0}(hkn:H4 P kn):∀n,aM P (AF P A kn n)
 |0=>fun N code st e st' hx=>by cases hx
 |n+1=>fun N=>by have ih:=bP hP (A:=A) hkn n;exact iX hP ⟨AES hP hkn ih,AKS hP ih,aQ hP hkn ih,AER hP hkn (ko:=fun _ _ _=>none) (fun _ _ _ _ h=>by cases h) ih⟩ (ih N) n
theorem AGA(hP:EN P){A:Ann}{kn:CF0}(hkn:H4 P kn){n:Nat}{f:cd}{args:List V}{r:V}(h:EZ P (AF P A kn n) f args=some r)(s:St):FD P f args s fun r' s'=>r'=r/\s'=s :=
 (aO hP (bP hP hkn n) f args r h).1 s
section
variable {A:Ann}{kn:CF0}{n N:Nat}{st:XS}
abbrev BL(P:cq)(A:Ann)(kn:CF0)(n:Nat):XE:=A3R P kn (fun _ _ _=>none) (fun _=>false) (AF P A kn n)
theorem AGB(a b:cx):AF P A kn (n+1) N (.seq a b) st=cZ (AF P A kn n N) b (AF P A kn n N a st):=rfl
theorem AAC(c:ck)(a b:cx):AF P A kn (n+1) N (.cond c a b) st=mR (AF P A kn n N) a b st (CI st.fr c):=rfl
theorem sA(id:Nat)(b:cx):AF P A kn (n+1) N (.block id b) st=LQ id (AF P A kn n N b st):=rfl
theorem AAD(b:cx):AF P A kn (n+1) N (.loop b) st=BT (AF P A kn n N) b (A N (CA b)) n (CJ (A N (CA b)) st):=rfl
theorem AAE:AF P A kn (n+1) N .skip st=some (.normal,st):=rfl
theorem AAF(id:Nat):AF P A kn (n+1) N (.exit id) st=some (.exit id,st):=rfl
theorem AGC:AF P A kn (n+1) N .ret st=some (.ret,st):=rfl
theorem sB(b:cx):AF P A kn (n+1) N (.scope b) st=AF P A kn n N b st:=rfl
theorem NI(g:ck)(ps:Array Tmp)(asg body:cx):AF P A kn (n+1) N (.rangeFunc g ps asg body) st=VO (BL P A kn n).cf N g ps.toList asg body st:=rfl
theorem AGD(a b:cx):CA (.seq a b)=CA a:=rfl
theorem sC(id:Nat)(b:cx):CA (.block id b)=CA b:=rfl
theorem AAG(b:cx):CA (.loop b)=CA b:=rfl
theorem AB(rec:cD)(body:cx)(a:Tr):BT rec body a (n+1) st=match rec body st with
 |some (.normal,st')=>BT rec body a n (CJ a st')
 |r=>r:=rfl
theorem nR(rec:cD)(b:cx):cZ rec b (some (.normal,st))=rec b st:=rfl
theorem AGE(rec:cD)(b:cx):cZ rec b (some (.ret,st))=some (.ret,st):=rfl
theorem AAH(rec:cD)(b:cx)(i:Nat):cZ rec b (some (.exit i,st))=some (.exit i,st):=rfl
theorem AGF(rec:cD)(b:cx)(c:Prop)[Decidable c](x y:Option (Exit×XS)):cZ rec b (if c then x else y)=if c then cZ rec b x else cZ rec b y:=by split<;>rfl
theorem dI(id:Nat):LQ id (some (.normal,st))=some (.normal,st):=rfl
theorem sD(id:Nat):LQ id (some (.ret,st))=some (.ret,st):=rfl
theorem nS(id i:Nat):LQ id (some (.exit i,st))=if i=id then some (.normal,st) else some (.exit i,st):=by
 show(Bool.rec _ _ (bx i id):Option (Exit×XS))=_;by_cases h:i=id
 ·subst h;simp
 ·have:bx i id=false:=by
   cases hb:bx i id with
   |false=>rfl
   |true=>exact absurd (Nat.eq_of_beq_eq_true hb) h
  simp[h,this]
theorem sE(id:Nat)(c:Prop)[Decidable c](x y:Option (Exit×XS)):LQ id (if c then x else y)=if c then LQ id x else LQ id y:=by split<;>rfl
def wA:cx->Bool
 |.region ..=>true
 |_=>false
def W1:cx->List cw
 |.region _ ops _=>ops.toList
 |_=>[]
def PE:cx->Bool
 |.region _ _ d=>d
 |_=>false
theorem wB(us:List Nat){E:XE}(h:E.lit=fun _=>false):(cfU us E).lit=fun _=>false:=by cases us<;>exact h
theorem VZ{r:cx}(hr:wA r=true){i:IR}(hi:vZ P (W1 r) (PE r)=i)(hok:okR P (W1 r) (PE r)=true){a:Tr}(ha:A N (CA r)=a){ks us:List Nat}(ht:AAA (A N (CA r+NX))=ks)(hu:AAB (A N (CA r+NX))=us)(hy:isY us=false:=by rfl):AF P A kn (n+1) N r st=QJ (K0 P (cfU us (BL P A kn n)) i (CJ a (LR ks st))):=by
 cases r with
 |region id ops draw=>
  subst hi ha ht hu
  show QJ (AF8 P _ N (A N (iW id ops.toList)) ops.toList draw (AAB (A N (iW id ops.toList+NX))) (LR (AAA (A N (iW id ops.toList+NX))) st))=_
  unfold AF8
  rw[show isY (AAB (A N (iW id ops.toList+NX)))=false from hy]
  cases draw with
  |false=>exact congrArg QJ (vV (wB _ rfl) _ _ _)
  |true=>
   show QJ (Bool.rec (QW P _ ops.toList _) (RM P (I6 ops.toList) (some _)) (XF P ops.toList))=QJ (K0 P _ (cond (XF P ops.toList) (.cls (I6 ops.toList)) (.drw ((cX ops.toList).map (vX ops.toList)))) _)
   have hok:cond (XF P ops.toList) true (inB ops.toList (cX ops.toList))=true:=hok
   cases hc:XF P ops.toList with
   |true=>rfl
   |false=>
    rw[hc]at hok
    exact congrArg QJ (vY (wB _ rfl) _ _ _ hok)
 |_=>cases hr
theorem EC{r:cx}(hr:wA r=true){i:IR}(hi:vZ P (W1 r) (PE r)=i)(hok:okR P (W1 r) (PE r)=true){a:Tr}(ha:A N (CA r)=a){ks:List Nat}(ht:AAA (A N (CA r+NX))=ks)(hu:AAB (A N (CA r+NX))=[]:=by kernel_rfl):AF P A kn (n+1) N r st=QJ (K0 P (BL P A kn n) i (CJ a (LR ks st))):=VZ hr hi hok ha ht hu rfl
theorem AGG{r:cx}(hr:wA r=true){i:IR}(hi:vZ P (W1 r) (PE r)=i)(hok:okR P (W1 r) (PE r)=true){a:Tr}(ha:A N (CA r)=a)(ht:A N (CA r+NX)=none:=by kernel_rfl):AF P A kn (n+1) N r st=QJ (K0 P (BL P A kn n) i (CJ a st)):=EC hr hi hok ha (congrArg AAA ht) (congrArg AAB ht)
def V0(P:cq)(rs:List ResultVar)(r:Option (Exit×XS)):Option V:=match r with
 |some (.ret,st)=>finV st.s (F0 P rs st.fr st.s)
 |some (.normal,st)=>finV st.s (F0 P rs st.fr st.s)
 |_=>none
where finV (s:St) (r:Option V):Option V:=match r with
 |some v=>match A1 s 4 v with
  |some r'=>Bool.rec none (some r') (AG 9 r')
  |none=>none
 |none=>none
theorem AS{f:cd}{fn:Func}{c:cx}{args:List V}{rec:HD}(hf:P.funcs[f]? = some fn)(hb:fn.body=some c)(hs:bn args.length fn.ntmps=true)(hcl:args.all (AG 9)=true) :
  EZ P rec f args=V0 P fn.results.toList (rec fn.ntmps c ⟨0,AD 0 args,⟨[],[]⟩⟩):=by
 unfold EZ eQ WZ mS
 rw[hcl,hf]
 simp only[hb,hs]
 generalize rec fn.ntmps c ⟨0,AD 0 args,⟨[],[]⟩⟩=q
 have aux:∀st:XS,(match(match F0 P fn.results.toList st.fr st.s with
   |some r=>match A1 st.s 4 r with
    |some r'=>some (r',st.c,st.s.up.map (AJ st.s))
    |none=>none
   | none=>none:Option (V×Nat×List AA))with
  |some (r,_,_)=>(Bool.rec none (some r) (AG 9 r):Option V)
  | none=>none)=V0.finV st.s (F0 P fn.results.toList st.fr st.s):=fun st=>by
  unfold V0.finV
  cases F0 P fn.results.toList st.fr st.s with
  |none=>rfl
  |some r=>
   cases h:A1 st.s 4 r with
   |none=>simp[h]
   |some r'=>simp[h]
 cases q with
 |none=>rfl
 |some q=>
  obtain⟨e,st⟩:=q
  cases e with
  |ret=>exact aux st
  |normal=>exact aux st
  |_=>rfl
theorem AGH(rs:List ResultVar)(c:Prop)[Decidable c](x y:Option (Exit×XS)):V0 P rs (if c then x else y)=if c then V0 P rs x else V0 P rs y:=by split<;>rfl
end
def LU:cx->List Nat->cx
 |c,[]=>c
 |.seq a b,i::p=>bif bx i 0 then LU a p else LU b p
 |.cond _ a b,i::p=>bif bx i 0 then LU a p else LU b p
 |.block _ a,_::p=>LU a p
 |.loop a,_::p=>LU a p
 |.scope a,_::p=>LU a p
 |.rangeFunc _ _ a b,i::p=>bif bx i 0 then LU a p else LU b p
 |c,_=>c
def ASQ(fn:Func):cx:=match fn.body with
 |some c=>c
 |none=>.skip
end Go.Pg
namespace Go.Pg
variable {P:cq}{E:XE}{st:XS}{fr:Fr}{s:St}
@[simp] theorem A44(r:Option XS):PD P E [] r=r:=rfl
@[simp] theorem AXB(i:JQ)(l:List JQ)(r:Option XS):PD P E (i::l) r=PD P E l (opO P E i r):=rfl
@[simp] theorem A45(i:JQ):opO P E i (some st)=opI P E i st:=rfl
@[simp] theorem A46(i:JQ):opO P E i none=none:=rfl
@[simp] theorem A9X(i:JQ)(c:Prop)[Decidable c](x y:Option XS):opO P E i (if c then x else y)=if c then opO P E i x else opO P E i y:=by split<;>rfl
@[simp] theorem A47(l:List JQ)(c:Prop)[Decidable c](x y:Option XS):PD P E l (if c then x else y)=if c then PD P E l x else PD P E l y:=by split<;>rfl
def gI(P:cq)(E:XE)(d:Option Tmp)(k:IK)(st:XS)(w:Bool)(r:Option (Bool×V)):Option XS:=match r with
 |some (c,.bool b)=>Bool.rec (some (IQ d st)) (CX P E d k st) (c&&(b==w))
 |_=>none
@[simp] theorem A48(d:Option Tmp)(k:IK):opI P E ⟨none,d,k⟩ st=CX P E d k st:=rfl
@[simp] theorem AXC(t:Tmp)(w:Bool)(d:Option Tmp)(k:IK):opI P E ⟨some (t,w),d,k⟩ st=gI P E d k st w (BS st.fr t):=by
 show(match(match BS st.fr t with | some (c,.bool b)=>some (c&&(b == w)) | _=>none:Option Bool)with
  |some true=>CX P E d k st
  |some false=>some (IQ d st)
  | none=>none)=_
 unfold gI;cases BS st.fr t with
 |none=>rfl
 |some p=>
  obtain⟨c,v⟩:=p
  cases v with
  |bool b=>cases h:(c&&(b==w))<;>simp[h]
  |_=>rfl
@[simp] theorem BH6(d:Option Tmp)(k:IK):gI P E d k st true (some (true,.bool true))=CX P E d k st:=rfl
@[simp] theorem BH7(d:Option Tmp)(k:IK):gI P E d k st true (some (true,.bool false))=some (IQ d st):=rfl
@[simp] theorem BH8(d:Option Tmp)(k:IK):gI P E d k st false (some (true,.bool true))=some (IQ d st):=rfl
@[simp] theorem BH9(d:Option Tmp)(k:IK):gI P E d k st false (some (true,.bool false))=CX P E d k st:=rfl
@[simp] theorem BIA(d:Option Tmp)(k:IK)(w b:Bool):gI P E d k st w (some (false,.bool b))=some (IQ d st):=rfl
@[simp] theorem A49(d:Tmp)(c:Nat)(fr:Fr)(s:St):IQ (some d) ⟨c,fr,s⟩=⟨c,(d,false,.bool false)::fr,s⟩:=rfl
@[simp] theorem A5A(c:Nat)(fr:Fr)(s:St):IQ none ⟨c,fr,s⟩=⟨c,fr,s⟩:=rfl
@[simp] theorem A5B(k:Nat):BS [] k=none:=rfl
@[simp] theorem AXD(j:Nat)(x:Bool×V)(fr:Fr)(k:Nat):BS ((j,x)::fr) k=if k=j then some x else BS fr k:=by rw[FM,FM];rfl
@[simp] theorem ASR(j:Nat)(x:Nat×AX)(L:AA)(k:Nat):AA.get ((j,x)::L) k=if k=j then some x else L.get k:=rfl
def rdT:Option (Bool×V)->Option V
 |some (true,v)=>some v
 |_=>none
@[simp] theorem AGI(v:V):rdT (some (true,v))=some v:=rfl
@[simp] theorem AXF(v:V):rdT (some (false,v))=none:=rfl
@[simp] theorem A5C:rdT none=none:=rfl
@[simp] theorem A9Y(t:Tmp):CI fr (.tmp t)=rdT (BS fr t):=by
 show(match BS fr t with
  |some (true,v)=>some v
  | _=>none)=_
 cases BS fr t with
 |none=>rfl
 |some p=>obtain⟨c,v⟩:=p;cases c<;>rfl
@[simp] theorem AXG(v:Value):CI fr (.const v)=CP v:=rfl
@[simp] theorem A5D(f:cd):CI fr (.func f)=some (.fn f [] []):=rfl
@[simp] theorem A9Z(t:Tmp):rdC fr (.tmp t)=BS fr t:=rfl
@[simp] theorem A5E(b:Bool):rdC fr (.const (.bool b))=some (true,.bool b):=rfl
@[simp] theorem ASS(k:cz)(n:Int):CP (.int k n)=some (.int k n):=rfl
@[simp] theorem ANT(b:Bool):CP (.bool b)=some (.bool b):=rfl
@[simp] theorem AST:CP (.slice none 0 0)=some .nil:=rfl
@[simp] theorem AXH(d:Tmp)(c:Nat)(fr:Fr)(s:St)(v:V):EG (some d) ⟨c,fr,s⟩ (some v)=some ⟨c,(d,true,v)::fr,s⟩:=rfl
@[simp] theorem A90(c:Nat)(fr:Fr)(s:St)(v:V):EG none ⟨c,fr,s⟩ (some v)=some ⟨c,fr,s⟩:=rfl
@[simp] theorem AXI(d:Option Tmp):EG d st none=none:=rfl
@[simp] theorem A5F(d:Option Tmp)(c:Prop)[Decidable c](x y:Option V):EG d st (if c then x else y)=if c then EG d st x else EG d st y:=by split<;>rfl
section
variable (d:Option Tmp)(c:Nat)
@[simp] theorem A5G(x:ck):CX P E d (.mv x) ⟨c,fr,s⟩=EG d ⟨c,fr,s⟩ (CI fr x):=rfl
def ASU(P:cq)(op:BinOp)(T:cj):Option V->Option V->Option V
 |some a,some b=>GS P op T a b
 |_,_=>none
@[simp] theorem AXJ(op:BinOp)(T:cj)(a b:V):ASU P op T (some a) (some b)=GS P op T a b:=rfl
@[simp] theorem AXK(op:BinOp)(T:cj)(x y:ck):CX P E d (.bin op T x y) ⟨c,fr,s⟩=EG d ⟨c,fr,s⟩ (ASU P op T (CI fr x) (CI fr y)):=by show EG d _ (yY P fr op T x y)=_;unfold yY ASU;cases CI fr x<;>cases CI fr y<;>rfl
def fa1(P:cq)(T:cj)(f:Nat):Option V->Option V
 |some p=>DC P T p f
 |none=>none
@[simp] theorem A5H(T:cj)(f:Nat)(p:V):fa1 P T f (some p)=DC P T p f:=rfl
@[simp] theorem A5I(T:cj)(x:ck)(f:Nat):CX P E d (.fa T x f) ⟨c,fr,s⟩=EG d ⟨c,fr,s⟩ (fa1 P T f (CI fr x)):=by show EG d _ (xFA P fr T x f)=_;unfold xFA fa1;cases CI fr x<;>rfl
def wh1(P:cq)(T:cj):Option (List V)->Option V
 |some cs=>BM P T cs
 |none=>none
@[simp] theorem A5J(T:cj)(cs:List V):wh1 P T (some cs)=BM P T cs:=rfl
def ld1(P:cq)(s:St)(T:cj):Option V->Option V
 |some p=>wh1 P T (A8 s p)
 |none=>none
@[simp] theorem AGJ(T:cj)(p:V):ld1 P s T (some p)=wh1 P T (A8 s p):=rfl
@[simp] theorem A5K(T:cj)(x:ck):CX P E d (.ld T x) ⟨c,fr,s⟩=EG d ⟨c,fr,s⟩ (ld1 P s T (CI fr x)):=by
 show EG d _ (NT P fr s T x)=_;unfold NT ld1;cases CI fr x with
 |none=>rfl
 |some p=>unfold wh1;cases A8 s p<;>rfl
def pk3:Option V->Option (Bool×V)->Option (Bool×V)->Option V
 |some (.bool c),some (ca,.bool a),some (cb,.bool b)=>Bool.rec (Bool.rec none (some (.bool b)) cb) (Bool.rec none (some (.bool a)) ca) c
 |_,_,_=>none
@[simp] theorem A5L(a cb b:Bool):pk3 (some (.bool true)) (some (true,.bool a)) (some (cb,.bool b))=some (.bool a):=rfl
@[simp] theorem AXL(ca a b:Bool):pk3 (some (.bool false)) (some (ca,.bool a)) (some (true,.bool b))=some (.bool b):=rfl
@[simp] theorem A5M(c a b:Bool):pk3 (some (.bool c)) (some (true,.bool a)) (some (true,.bool b))=some (.bool (if c then a else b)):=by cases c<;>rfl
@[simp] theorem ASV(x y z:ck):CX P E d (.pick x y z) ⟨c,fr,s⟩=EG d ⟨c,fr,s⟩ (pk3 (CI fr x) (rdC fr y) (rdC fr z)):=rfl
def ba2:Option V->Nat->Option (List (Nat×V))->Option (List (Nat×V))
 |some v,i,some l=>some ((i,v)::l)
 |_,_,_=>none
@[simp] theorem A5N(v:V)(i:Nat)(l:List (Nat×V)):ba2 (some v) i (some l)=some ((i,v)::l):=rfl
@[simp] theorem ASW(r:ck->Option V):DF r []=some []:=rfl
@[simp] theorem ANU(r:ck->Option V)(i:Nat)(x:ck)(l:List (Nat×ck)):DF r ((i,x)::l)=ba2 (r x) i (DF r l):=by simp only[DF];unfold ba2;cases r x<;>cases DF r l<;>rfl
def bd1(P:cq)(T:cj):Option (List (Nat×V))->Option V
 |some l=>C9 P T l
 |none=>none
@[simp] theorem A5O(T:cj)(l:List (Nat×V)):bd1 P T (some l)=C9 P T l:=rfl
@[simp] theorem ANV(T:cj)(ps:List (Nat×ck)):CX P E d (.build T ps) ⟨c,fr,s⟩=EG d ⟨c,fr,s⟩ (bd1 P T (DF (CI fr) ps)):=by show EG d _ (VJ P fr T ps)=_;unfold VJ bd1;cases DF (CI fr) ps<;>rfl
def bs1(P:cq)(T:cj)(n:Nat):Option (List (Nat×V))->Option V
 |some l=>B8 P T n l
 |none=>none
@[simp] theorem A5P(T:cj)(n:Nat)(l:List (Nat×V)):bs1 P T n (some l)=B8 P T n l:=rfl
@[simp] theorem AK8(T:cj)(n:Nat)(ps:List (Nat×ck)):CX P E d (.buildS T n ps) ⟨c,fr,s⟩=EG d ⟨c,fr,s⟩ (bs1 P T n (DF (CI fr) ps)):=by show EG d _ (PW P fr T n ps)=_;unfold PW bs1;cases DF (CI fr) ps<;>rfl
@[simp] theorem AXM(op:Op):CX P E d (.oth op) ⟨c,fr,s⟩=EG d ⟨c,fr,s⟩ (J0 P (nN op) s (CI fr)):=rfl
def al1(d:Tmp)(c:Nat)(fr:Fr)(s:St):Option (List V)->Option XS
 |some cs=>some ⟨c+1,(d,true,.ptr s.up.length d c 0)::fr,s.put s.up.length d c (.box cs)⟩
 |none=>none
@[simp] theorem A5Q(d:Tmp)(cs:List V):al1 d c fr s (some cs)=some ⟨c+1,(d,true,.ptr s.up.length d c 0)::fr,s.put s.up.length d c (.box cs)⟩:=rfl
@[simp] theorem ANW(d:Tmp)(T:cj):CX P E (some d) (.alloc T) ⟨c,fr,s⟩=al1 d c fr s (B9 P T):=by show O2 P (some d) T _=_;unfold O2 al1;cases B9 P T<;>rfl
def bx1(d:Tmp)(c:Nat)(fr:Fr)(s:St):Option V->Option XS
 |some v=>Bool.rec none (some ⟨c+1,(d,true,.ptr s.up.length d c 0)::fr,s.put s.up.length d c (.box (A7 v))⟩) (BD v)
 |none=>none
@[simp] theorem A94(d:Tmp)(k:cz)(n:Int):bx1 d c fr s (some (.int k n))=some ⟨c+1,(d,true,.ptr s.up.length d c 0)::fr,s.put s.up.length d c (.box [.int k n])⟩:=rfl
@[simp] theorem A5R(d:Tmp)(b:Bool):bx1 d c fr s (some (.bool b))=some ⟨c+1,(d,true,.ptr s.up.length d c 0)::fr,s.put s.up.length d c (.box [.bool b])⟩:=rfl
@[simp] theorem A95(d:Tmp)(cs:List V):bx1 d c fr s (some (.agg cs))=some ⟨c+1,(d,true,.ptr s.up.length d c 0)::fr,s.put s.up.length d c (.box cs)⟩:=rfl
@[simp] theorem A5S(d:Tmp)(b:Bool)(es:List (List V)):bx1 d c fr s (some (.list b es))=some ⟨c+1,(d,true,.ptr s.up.length d c 0)::fr,s.put s.up.length d c (.box [.list b es])⟩:=rfl
@[simp] theorem A96(d:Tmp):bx1 d c fr s (some .nil)=some ⟨c+1,(d,true,.ptr s.up.length d c 0)::fr,s.put s.up.length d c (.box [.nil])⟩:=rfl
@[simp] theorem A97(d:Tmp)(l k g n:Nat):bx1 d c fr s (some (.vec l k g n))=some ⟨c+1,(d,true,.ptr s.up.length d c 0)::fr,s.put s.up.length d c (.box [.vec l k g n])⟩:=rfl
@[simp] theorem BE2(d:Tmp)(l k g:Nat):bx1 d c fr s (some (.mp l k g))=some ⟨c+1,(d,true,.ptr s.up.length d c 0)::fr,s.put s.up.length d c (.box [.mp l k g])⟩:=rfl
@[simp] theorem AXN(d:Tmp)(x:ck):CX P E (some d) (.box x) ⟨c,fr,s⟩=bx1 d c fr s (CI fr x):=by show mH (some d) x _=_;unfold mH bx1;cases CI fr x<;>rfl
def st3(γ:Nat)(P:cq)(T:cj)(c:Nat)(fr:Fr)(s:St)(l q off:Nat)(v:V):Option (Nat×AX)->Option XS
 |some (γ',.box cs)=>if γ'=γ/\BD v=true/\0<P.cellsOf T/\(A7 v).length=P.cellsOf T/\off+P.cellsOf T<=cs.length/\γ<c then some ⟨c,fr,s.put l q γ (.box (A2 cs off (A7 v)))⟩ else none
 |_=>none
def st4(γ:Nat)(P:cq)(T:cj)(c:Nat)(fr:Fr)(s:St)(l q i off:Nat)(v:V):Option (Nat×AX)->Option XS
 |some (γ',.vec U es)=>if γ'=γ/\BD v=true/\0<P.cellsOf T/\(A7 v).length=P.cellsOf T/\i<es.length/\off+P.cellsOf T<=(es.getD i []).length/\γ<c then some ⟨c,fr,s.put l q γ (.vec U (es.set i (A2 (es.getD i []) off (A7 v))))⟩ else none
 |_=>none
def HP(P:cq)(T:cj)(c:Nat)(fr:Fr)(s:St):Option V->Option V->Option XS
 |some (.ptr l q γ off),some v=>st3 γ P T c fr s l q off v (s.get l q)
 |some (.eptr l q γ i off),some v=>st4 γ P T c fr s l q i off v (s.get l q)
 |_,_=>none
@[simp] theorem AK9(T:cj)(l q γ off:Nat)(v:V):HP P T c fr s (some (.ptr l q γ off)) (some v)=st3 γ P T c fr s l q off v (s.get l q):=rfl
@[simp] theorem AGK(T:cj)(l q γ i off:Nat)(v:V):HP P T c fr s (some (.eptr l q γ i off)) (some v)=st4 γ P T c fr s l q i off v (s.get l q):=rfl
@[simp] theorem ALA(γ γ':Nat)(T:cj)(l q off:Nat)(v:V)(cs:List V):st3 γ P T c fr s l q off v (some (γ',.box cs))=if γ'=γ/\BD v=true/\0<P.cellsOf T/\(A7 v).length=P.cellsOf T/\off+P.cellsOf T<=cs.length/\γ<c then some ⟨c,fr,s.put l q γ (.box (A2 cs off (A7 v)))⟩ else none:=rfl
@[simp] theorem ALB(γ γ':Nat)(T:cj)(l q i off:Nat)(v:V)(U:cj)(es:List (List V)):st4 γ P T c fr s l q i off v (some (γ',.vec U es))=if γ'=γ/\BD v=true/\0<P.cellsOf T/\(A7 v).length=P.cellsOf T/\i<es.length/\off+P.cellsOf T<=(es.getD i []).length/\γ<c then some ⟨c,fr,s.put l q γ (.vec U (es.set i (A2 (es.getD i []) off (A7 v))))⟩ else none:=rfl
theorem ALC(T:cj)(x y:ck):JW P none T x y ⟨c,fr,s⟩=HP P T c fr s (CI fr x) (CI fr y):=by
 unfold JW;simp only;cases CI fr x with
 |none=>rfl
 |some p=>
  cases CI fr y with
  |none=>cases p<;>rfl
  |some v=>
   cases p with
   |ptr l q γ off=>
    simp only[AK9]
    cases s.get l q with
    |none=>rfl
    |some z=>
     obtain⟨γ',r⟩:=z
     cases r with
     |box cs=>
      simp only[ALA,bj,bg,Nat.ble_eq,bh,and_assoc]
     |_=>rfl
   |eptr l q γ i off=>
    simp only[AGK]
    cases s.get l q with
    |none=>rfl
    |some z=>
     obtain⟨γ',r⟩:=z
     cases r with
     |vec U es=>
      simp only[ALB,bj,bg,Nat.ble_eq,bh,and_assoc]
     |_=>rfl
   |_=>rfl
@[simp] theorem AXO(T:cj)(x y:ck):CX P E none (.sto T x y) ⟨c,fr,s⟩=HP P T c fr s (CI fr x) (CI fr y):=ALC c T x y
def apW(P:cq)(e:cj)(d c:Nat)(fr:Fr)(s:St)(l q γ n:Nat)(ys:List (List V)):Option (Nat×AX)->Option XS
 |some (γ',.vec W es)=>if γ'=γ/\W=e/\n=es.length/\es.all (fun y=>y.length==P.cellsOf e)=true/\BZ P e es.length ys=true then
   some ⟨c+1,(d,true,.vec l q c (es.length+ys.length))::fr,s.put l q c (.vec e (es++ys))⟩ else none
 |_=>none
@[simp] theorem UD(e:cj)(d:Nat)(l q γ γ' n:Nat)(ys es:List (List V))(W:cj):apW P e d c fr s l q γ n ys (some (γ',.vec W es))=if γ'=γ/\W=e/\n=es.length/\es.all (fun y=>y.length==P.cellsOf e)=true/\BZ P e es.length ys=true then
   some ⟨c+1,(d,true,.vec l q c (es.length+ys.length))::fr,s.put l q c (.vec e (es++ys))⟩ else none:=rfl
def apV(P:cq)(e:cj)(d c:Nat)(fr:Fr)(s:St)(xv:V)(ys:List (List V)):Option XS:=match I3 xv ys with
 |some es=>if es.all (fun y=>y.length==P.cellsOf e)=true/\BZ P e es.length ys=true then some ⟨c+1,(d,true,.vec s.up.length d c (es.length+ys.length))::fr,s.put s.up.length d c (.vec e (es++ys))⟩ else none
 |none=>match xv with
  |.vec l q γ n=>apW P e d c fr s l q γ n ys (RA n ys (s.get l q))
  |_=>none
@[simp] theorem nT(n γ:Nat)(ys es:List (List V))(U:cj):RA n ys (some (γ,.vec U es))=some (γ,.vec U (ZC n ys es)):=rfl
@[simp] theorem AXP(n:Nat)(ys:List (List V)):RA n ys none=none:=rfl
attribute [simp] U4
@[simp] theorem A98(e:cj)(d:Nat)(ys:List (List V)):apV P e d c fr s .nil ys=if BZ P e 0 ys=true then some ⟨c+1,(d,true,.vec s.up.length d c ys.length)::fr,s.put s.up.length d c (.vec e ys)⟩ else none:=by simp[apV,I3]
@[simp] theorem A99(e:cj)(d:Nat)(ys:List (List V)):apV P e d c fr s (.list true []) ys=if BZ P e 0 ys=true then some ⟨c+1,(d,true,.vec s.up.length d c ys.length)::fr,s.put s.up.length d c (.vec e ys)⟩ else none:=by simp[apV,I3]
@[simp] theorem A5U(e:cj)(d:Nat)(z y:List V)(es ys:List (List V)):apV P e d c fr s (.list true (z::es)) (y::ys)=if (z::es).all (fun y=>y.length==P.cellsOf e)=true/\BZ P e (z::es).length (y::ys)=true then
   some ⟨c+1,(d,true,.vec s.up.length d c ((z::es).length+(y::ys).length))::fr,s.put s.up.length d c (.vec e ((z::es)++(y::ys)))⟩ else none:=rfl
@[simp] theorem ALD(e:cj)(d:Nat)(l q γ n:Nat)(ys:List (List V)):apV P e d c fr s (.vec l q γ n) ys=apW P e d c fr s l q γ n ys (RA n ys (s.get l q)):=by simp[apV,I3]
def ap3(P:cq)(d c:Nat)(fr:Fr)(s:St):Option (Option Nat×cj)->Option V->Option V->Option XS
 |some (none,e),some xv,some yv=>ap4 e xv (elemsOf s yv)
 |_,_,_=>none
where ap4 (e:cj) (xv:V):Option (List (List V))->Option XS
 |some ys=>apV P e d c fr s xv ys
 |none=>none
@[simp] theorem AGL(d:Nat)(e:cj)(xv yv:V):ap3 P d c fr s (some (none,e)) (some xv) (some yv)=ap3.ap4 P d c fr s e xv (elemsOf s yv):=rfl
@[simp] theorem AGM(d:Nat)(e:cj)(xv:V)(ys:List (List V)):ap3.ap4 P d c fr s e xv (some ys)=apV P e d c fr s xv ys:=rfl
@[simp] theorem ALE(b:Bool)(es:List (List V)):elemsOf s (.list b es)=some es:=rfl
@[simp] theorem ANX:elemsOf s .nil=some []:=rfl
theorem ifB{α:Type}{b:Bool}{x y:α}:(Bool.rec y x b:α)=if b=true then x else y:=by cases b<;>rfl
theorem AAJ{k:Nat}{e:cj}(d:Nat)(x y:Option V):ap3 P d c fr s (some (some k,e)) x y=none:=by cases x<;>cases y<;>rfl
@[simp] theorem AXQ(d:Tmp)(x y:ck)(T:cj):CX P E (some d) (.app [x,y] [T,T]) ⟨c,fr,s⟩=ap3 P d c fr s (BO P T) (CI fr x) (CI fr y):=by
 show xAppend P (some d) [x,y] [T,T] _=_;unfold xAppend xAppG;simp only[Nat.beq_refl];cases hT:BO P T with
 |none=>cases CI fr x<;>cases CI fr y<;>rfl
 |some p=>
  obtain⟨k,e⟩:=p
  cases k with
  |some k=>rw[AAJ]
  |none=>
   cases CI fr x with
   |none=>rfl
   |some xv=>
    cases CI fr y with
    |none=>rfl
    |some yv=>
     simp only[AGL]
     cases elemsOf s yv with
     |none=>rfl
     |some ys=>
      simp only[AGM,apV]
      cases I3 xv ys with
      |some es=>
       simp only[ifB,bj,bq]
       by_cases hC:es.all (fun y=>y.length==P.cellsOf e)=true/\BZ P e es.length ys=true
       ·rw[if_pos hC,if_pos hC]
       ·rw[if_neg hC,if_neg hC]
      |none=>
       simp only
       unfold mL
       cases xv with
       |vec l q γ n=>
        simp only
        cases RA n ys (s.get l q)with
        |none=>rfl
        |some z=>
         obtain⟨γ',r⟩:=z
         cases r with
         |vec W es=>
          simp only[ifB,bj,bq,UD,bh,and_assoc]
          by_cases hC:γ'=γ/\W=e/\n=es.length/\es.all (fun y=>y.length==P.cellsOf e)=true/\BZ P e es.length ys=true
          ·rw[if_pos hC,if_pos hC]
          ·rw[if_neg hC,if_neg hC]
         |_=>rfl
       |_=>rfl
def mc2:Option V->Option (List V)->Option (List V)
 |some v,some l=>some (v::l)
 |_,_=>none
@[simp] theorem A5X(v:V)(l:List V):mc2 (some v) (some l)=some (v::l):=rfl
@[simp] theorem A5Y(f:ck->Option V):FT f []=some []:=rfl
@[simp] theorem AXR(f:ck->Option V)(x:ck)(l:List ck):FT f (x::l)=mc2 (f x) (FT f l):=by
 simp only[FT];cases f x with
 |none=>rfl
 |some v=>cases FT f l<;>rfl
def HQ(E:XE)(d:Option Tmp)(st:XS)(f:cd)(args:List V):Option XS:=match E.cf f args st with
 |some (r,st')=>some ⟨st'.c,putD st'.fr d true r,st'.s⟩
 |none=>none
def ca1(E:XE)(d:Option Tmp)(st:XS):Option V->Option (List V)->Option XS
 |some (.fn f first cap),some vs=>HQ E d st f ((first++vs++cap).map weakV)
 |some (.yld l q γ),some vs=>ca3 (E.cy l q γ vs st)
 |_,_=>none
where ca3:Option (V×XS)->Option XS
 |some (r,st')=>some ⟨st'.c,putD st'.fr d true r,st'.s⟩
 |none=>none
@[simp] theorem ASX(st:XS)(f:cd)(first cap vs:List V):ca1 E d st (some (.fn f first cap)) (some vs)=HQ E d st f ((first++vs++cap).map weakV):=rfl
@[simp] theorem ALF(st:XS)(l q γ:Nat)(vs:List V):ca1 E d st (some (.yld l q γ)) (some vs)=ca1.ca3 d (E.cy l q γ vs st):=rfl
@[simp] theorem A5Z(d:Tmp)(r:V):ca1.ca3 (some d) (some (r,⟨c,fr,s⟩))=some ⟨c,(d,true,r)::fr,s⟩:=rfl
theorem bQ(st:XS)(f:ck)(args:List ck):QT E.cf E.cy d f args st=ca1 E d st (CI st.fr f) (FT (CI st.fr) args):=by
 unfold QT;cases CI st.fr f with
 |none=>rfl
 |some v=>
  cases v with
  |fn f first cap=>
   simp only
   cases FT (CI st.fr) args with
   |none=>rfl
   |some vs=>simp only[ASX,HQ];cases E.cf f ((first++vs++cap).map weakV) st<;>rfl
  |yld l q γ=>
   simp only[qQ]
   cases FT (CI st.fr) args with
   |none=>rfl
   |some vs=>simp only[ALF];cases E.cy l q γ vs st<;>rfl
  |_=>rfl
@[simp] theorem ASY(f:ck)(args:List ck):CX P E d (.call false none f args) ⟨c,fr,s⟩=ca1 E d ⟨c,fr,s⟩ (CI fr f) (FT (CI fr) args):=bQ d ⟨c,fr,s⟩ f args
@[simp] theorem AN0(t:Tmp)(f:ck)(args:List ck):CX P E d (.call false (some t) f args) ⟨c,fr,s⟩=ca1 E d (bM (some t) ⟨c,fr,s⟩) (CI (bM (some t) ⟨c,fr,s⟩).fr f) (FT (CI (bM (some t) ⟨c,fr,s⟩).fr) args):=bQ d _ f args
def orK:Bool->Option V->Option V->Option V
 |true,some r,_=>some r
 |_,_,z=>z
@[simp] theorem A50(r:V)(z:Option V):orK true (some r) z=some r:=rfl
@[simp] theorem A51(b:Bool)(z:Option V):orK b z z=z:=by cases b<;>cases z<;>rfl
theorem nU{P:cq}{kn:CF0}{rec:HD}{f:cd}{args:List V}:F4 P kn rec f args=orK (args.all (AG 9)) (BA P kn rec f (args.map weakN)) (BA P kn rec f args):=by unfold F4 orK;cases BA P kn rec f (args.map weakN)<;>cases args.all (AG 9)<;>rfl
attribute [simp] nU
@[simp] theorem AXS(k:cz)(n:Int):weakN (.int k n)=.int k n:=rfl
@[simp] theorem AS0(b:Bool):weakN (.bool b)=.bool b:=rfl
@[simp] theorem AXT(v:Value):weakN (.raw v)=.raw v:=rfl
@[simp] theorem AS1(b:Bool)(es:List (List V)):weakN (.list b es)=.list b es:=rfl
@[simp] theorem AXU(cs:List V):weakN (.agg cs)=.agg (cs.map weakM):=rfl
@[simp] theorem AXV:weakN .nil=.list false []:=rfl
@[simp] theorem A52(f:cd)(x y:List V):weakN (.fn f x y)=.fn f x y:=rfl
@[simp] theorem AXW(cs:List V):weakN (.ref cs)=.ref cs:=rfl
@[simp] theorem AXX(k:cz)(n:Int):weakM (.int k n)=.int k n:=rfl
@[simp] theorem AS2(b:Bool):weakM (.bool b)=.bool b:=rfl
@[simp] theorem AS3(b:Bool)(es:List (List V)):weakM (.list b es)=.list b es:=rfl
@[simp] theorem AXY:weakM .nil=.list false []:=rfl
@[simp] theorem A53(f:cd)(x y:List V):weakM (.fn f x y)=.fn f x y:=rfl
@[simp] theorem AXZ(cs:List V):weakM (.ref cs)=.ref cs:=rfl
theorem bR{A:Ann}{kn:CF0}{n:Nat}{f:cd}{args:List V}(h:args.all (AG 9)=true)(hh:BQ P f=false)(st:XS):HQ (BL P A kn n) d st f args=EG d st (orK true (BA P kn (AF P A kn n) f (args.map weakN)) (BA P kn (AF P A kn n) f args)):=by
 have e:orK true (BA P kn (AF P A kn n) f (args.map weakN)) (BA P kn (AF P A kn n) f args)=F4 P kn (AF P A kn n) f args:=by rw[nU,h]
 rw[e];show(match aI P kn (AF P A kn n) f args st with
  |some (r,st')=>some (⟨st'.c,putD st'.fr d true r,st'.s⟩:XS)
  | none=>none)=_
 unfold aI;rw[h,hh];cases F4 P kn (AF P A kn n) f args<;>rfl
end
@[simp] theorem A54(k:cz)(n:Int):weakV (.int k n)=.int k n:=rfl
@[simp] theorem AX0(b:Bool):weakV (.bool b)=.bool b:=rfl
@[simp] theorem AX1(b:Bool)(es:List (List V)):weakV (.list b es)=.list false es:=rfl
@[simp] theorem A55(cs:List V):weakV (.agg cs)=.agg (cs.map weakC):=rfl
@[simp] theorem AX2(k:cz)(n:Int):weakC (.int k n)=.int k n:=rfl
@[simp] theorem AS4(b:Bool):weakC (.bool b)=.bool b:=rfl
@[simp] theorem AS5(b:Bool)(es:List (List V)):weakC (.list b es)=.list false es:=rfl
@[simp] theorem AX3:weakC .nil=.nil:=rfl
@[simp] theorem A56:weakV .nil=.nil:=rfl
@[simp] theorem BAA(f:cd)(x y:List V):weakV (.fn f x y)=.fn f x y:=rfl
@[simp] theorem AS6(f:Nat)(k:cz)(n:Int):AG (f+1) (.int k n)=true:=rfl
@[simp] theorem AN1(f:Nat)(b:Bool):AG (f+1) (.bool b)=true:=rfl
@[simp] theorem AS7(f:Nat):AG (f+1) .nil=true:=rfl
@[simp] theorem AS8(f:Nat)(cs:List V):AG (f+1) (.agg cs)=cs.all (AG f):=rfl
@[simp] theorem AS9(f:Nat)(cs:List V):AG (f+1) (.tup cs)=cs.all (AG f):=rfl
@[simp] theorem ATA(f:Nat)(cs:List V):AG (f+1) (.ref cs)=cs.all (AG f):=rfl
@[simp] theorem AN2(f:Nat)(b:Bool)(es:List (List V)):AG (f+1) (.list b es)=es.all fun e=>e.all (AG f):=rfl
@[simp] theorem AX4(f:Nat)(g:cd)(x y:List V):AG (f+1) (.fn g x y)=(x.all (AG f)&&y.all (AG f)):=rfl
section
variable (r:ck->Option V)
def o1(f:V->Option V):Option V->Option V
 |some v=>f v
 |none=>none
@[simp] theorem BAB(f:V->Option V)(v:V):o1 f (some v)=f v:=rfl
def o2(f:V->V->Option V):Option V->Option V->Option V
 |some a,some b=>f a b
 |_,_=>none
@[simp] theorem BAC(f:V->V->Option V)(a b:V):o2 f (some a) (some b)=f a b:=rfl
theorem UE(f:V->Option V)(x:Option V):x.bind f=o1 f x:=by cases x<;>rfl
theorem iY(f:V->V->Option V)(x y:Option V):(x.bind fun a=>y.bind fun b=>f a b)=o2 f x y:=by cases x<;>cases y<;>rfl
@[simp] theorem BE5(op:UnOp)(T:cj)(x:ck):J0 P (nN (.unOp op T x)) s r=o1 (cN op) (r x):=UE _ _
@[simp] theorem A57(T U:cj)(x:ck):J0 P (nN (.convert T U x)) s r=o1 (MU P T U) (r x):=UE _ _
@[simp] theorem A58(T:cj)(x i:ck):J0 P (nN (.indexAddr T x i)) s r=o2 (BN P s T) (r x) (r i):=iY _ _ _
@[simp] theorem AX5(T:cj)(x:ck)(f:Nat):J0 P (nN (.field T x f)) s r=o1 (fun a=>JB P T a f) (r x):=UE _ _
@[simp] theorem BAD(x:ck)(i:Nat):J0 P (nN (.extract x i)) s r=o1 (fun a=>F9 a i) (r x):=UE _ _
@[simp] theorem BAE(x:ck)(T:cj):J0 P (nN (.call ⟨.builtin .len,#[x],#[T]⟩)) s r=o1 (IP P T) (r x):=UE _ _
end
@[simp] theorem A59(b:Bool):cN .not (.bool b)=some (.bool !b):=rfl
@[simp] theorem A6A(k:cz)(n:Int):cN .neg (.int k n)=some (.int k (k.wrap (0-n))):=rfl
@[simp] theorem AHI(vs:List V)(i:Nat):F9 (.tup vs) i=vs[i]?:=rfl
@[simp] theorem BE6(up:List AA)(loc:AA)(l k g:Nat)(r:AX):St.put ⟨up,loc⟩ l k g r=if l=up.length then⟨up,(k,g,r)::loc⟩ else⟨up.modify l fun L=>L.put k g r,loc⟩:=rfl
def upG(k:Nat):Option AA->Option (Nat×AX)
 |some L=>L.get k
 |none=>none
@[simp] theorem A6B(k:Nat)(L:AA):upG k (some L)=L.get k:=rfl
@[simp] theorem AGN(up:List AA)(loc:AA)(l k:Nat):St.get ⟨up,loc⟩ l k=if l=up.length then loc.get k else upG k up[l]?:=rfl
def kx(k:Nat)(r:Fr):Option (Bool×V)->Fr
 |some (c,v)=>(k,c,v)::r
 |none=>r
@[simp] theorem BAF(k:Nat)(r:Fr)(c:Bool)(v:V):kx k r (some (c,v))=(k,c,v)::r:=rfl
@[simp] theorem BAG(k:Nat)(r:Fr):kx k r none=r:=rfl
@[simp] theorem AX6:QV [] fr=[]:=rfl
@[simp] theorem ATB(k:Nat)(ks:List Nat):QV (k::ks) fr=kx k (QV ks fr) (BS fr k):=by show(match BS fr k with|some (c,v)=>(k,c,v)::QV ks fr|none=>QV ks fr)=_;cases BS fr k<;>rfl
def kl(k:Nat)(r:AA):Option (Nat×AX)->AA
 |some (g,x)=>(k,g,x)::r
 |none=>r
@[simp] theorem BAH(k:Nat)(r:AA)(g:Nat)(x:AX):kl k r (some (g,x))=(k,g,x)::r:=rfl
@[simp] theorem BAI(k:Nat)(r:AA):kl k r none=r:=rfl
@[simp] theorem AX7(L:AA):JL [] L=[]:=rfl
@[simp] theorem ATC(k:Nat)(ks:List Nat)(L:AA):JL (k::ks) L=kl k (JL ks L) (L.get k):=by unfold kl;simp only[JL];cases L.get k<;>rfl
@[simp] theorem A6C(ks ls:List Nat)(c:Nat)(fr:Fr)(up:List AA)(loc:AA):CJ (some (ks,ls)) ⟨c,fr,⟨up,loc⟩⟩=⟨c,QV ks fr,⟨up,JL ls loc⟩⟩:=rfl
@[simp] theorem ATD:CJ none st=st:=rfl
@[simp] theorem BE7:QJ (some st)=some (.normal,st):=rfl
@[simp] theorem A6D:QJ none=none:=rfl
@[simp] theorem BAJ(c:Prop)[Decidable c](x y:Option XS):QJ (if c then x else y)=if c then QJ x else QJ y:=by split<;>rfl
@[simp] theorem A6E(l:List JQ):K0 P E (.str l) st=PD P E l (some st):=rfl
@[simp] theorem A6F(S:List nP):K0 P E (.drw S) st=VX P E S (some st):=rfl
@[simp] theorem A6G(ks:List (Nat×Nat×Nat)):K0 P E (.cls ks) st=RM P ks (some st):=rfl
@[simp] theorem A6H(o:Option XS):RM P [] o=o:=rfl
@[simp] theorem AX8(T a d:Nat)(r:List (Nat×Nat×Nat))(st:XS):RM P ((T,a,d)::r) (some st)=RM P r (if rM (CI st.fr (.tmp a))=true then EG (some d) st (NT P st.fr st.s T (.tmp a)) else none):=by
 show RM P r (Bool.rec _ _ (rM (CI st.fr (.tmp a))))=_;cases rM (CI st.fr (.tmp a))with
 |false=>rfl
 |true=>
  simp only[if_true]
  congr 1
@[simp] theorem A6I(l k g o:Nat):rM (some (.ptr l k g o))=true:=rfl
@[simp] theorem A6J(rs:List ResultVar):V0 P rs (some (.ret,st))=V0.finV st.s (F0 P rs st.fr st.s):=rfl
@[simp] theorem AN3(rs:List ResultVar):V0 P rs (some (.normal,st))=V0.finV st.s (F0 P rs st.fr st.s):=rfl
def ATE:Option V->Option V
 |some r=>if AG 9 r=true then some r else none
 |none=>none
@[simp] theorem AX9(r:V):ATE (some r)=if AG 9 r=true then some r else none:=rfl
@[simp] theorem AYA(v:V):V0.finV s (some v)=ATE (A1 s 4 v):=by
 unfold V0.finV ATE;simp only;cases A1 s 4 v with
 |none=>rfl
 |some r=>simp only[ifB]
@[simp] theorem ATF(t:Tmp):CR P fr s (.tmp t)=rdT (BS fr t):=by
 rw[FM];show(match fr.get t with
  |some (true,v)=>some v
  | _=>none)=_
 cases fr.get t with
 |none=>rfl
 |some p=>obtain⟨c,v⟩:=p;cases c<;>rfl
@[simp] theorem A6K(x:ResultVar):F0 P [x] fr s=CR P fr s x:=by unfold F0;simp only[bz,bm];cases CR P fr s x<;>rfl
def re2:Option V->Option V->Option V
 |some a,some b=>some (.tup [a,b])
 |_,_=>none
@[simp] theorem A6L(a b:V):re2 (some a) (some b)=some (.tup [a,b]):=rfl
@[simp] theorem A6M(x y:ResultVar):F0 P [x,y] fr s=re2 (CR P fr s x) (CR P fr s y):=by unfold F0;simp only[bz,bm];cases CR P fr s x<;>cases CR P fr s y<;>rfl
def re3:Option V->Option V->Option V->Option V
 |some a,some b,some c=>some (.tup [a,b,c])
 |_,_,_=>none
@[simp] theorem A6N(a b c:V):re3 (some a) (some b) (some c)=some (.tup [a,b,c]):=rfl
@[simp] theorem ATG(x y z:ResultVar):F0 P [x,y,z] fr s=re3 (CR P fr s x) (CR P fr s y) (CR P fr s z):=by unfold F0;simp only[bz,bm];cases CR P fr s x<;>cases CR P fr s y<;>cases CR P fr s z<;>rfl
@[simp] theorem ATH(f:Nat)(k:cz)(n:Int):A1 s (f+1) (.int k n)=some (.int k n):=rfl
@[simp] theorem AN4(f:Nat)(b:Bool):A1 s (f+1) (.bool b)=some (.bool b):=rfl
@[simp] theorem ATI(f:Nat):A1 s (f+1) .nil=some .nil:=rfl
@[simp] theorem AN5(f:Nat)(b:Bool)(es:List (List V)):A1 s (f+1) (.list b es)=some (.list false es):=rfl
def oO(mk:List V->V):Option (List V)->Option V
 |some l=>some (mk l)
 |none=>none
@[simp] theorem A6O(mk:List V->V)(l:List V):oO mk (some l)=some (mk l):=rfl
def QL(f:V->Option V):List V->Option (List V)
 |[]=>some []
 |v::l=>mc2 (f v) (QL f l)
theorem UF(f:V->Option V):∀(l:List V),l.mapM f=QL f l
 |[]=>rfl
 |v::l=>by simp only[bz,QL,UF f l];cases f v<;>cases QL f l<;>rfl
@[simp] theorem A6P(f:V->Option V):QL f []=some []:=rfl
@[simp] theorem AYB(f:V->Option V)(v:V)(l:List V):QL f (v::l)=mc2 (f v) (QL f l):=rfl
@[simp] theorem ATJ(f:Nat)(cs:List V):A1 s (f+1) (.agg cs)=oO .agg (QL (A1 s f) cs):=by simp only[A1,UF];cases QL (A1 s f) cs<;>rfl
@[simp] theorem ATK(f:Nat)(cs:List V):A1 s (f+1) (.tup cs)=oO .tup (QL (A1 s f) cs):=by simp only[A1,UF];cases QL (A1 s f) cs<;>rfl
def cv1(g m:Nat):Option (Nat×AX)->Option V
 |some (g',.vec _ es)=>if g'=g/\m<=es.length then some (.list false (es.take m)) else none
 |_=>none
@[simp] theorem AGO(g m g':Nat)(T:cj)(es:List (List V)):cv1 g m (some (g',.vec T es))=if g'=g/\m<=es.length then some (.list false (es.take m)) else none:=rfl
@[simp] theorem bS(f:Nat)(up:List AA)(loc:AA)(l k g m:Nat):A1 ⟨up,loc⟩ (f+1) (.vec l k g m)=if l=up.length then cv1 g m (loc.get k) else some (.vec l k g m):=by
 simp only[A1];split
 ·cases loc.get k with
  |none=>rfl
  |some z=>obtain⟨g',r⟩:=z;cases r<;>rfl
 ·rfl
@[simp] theorem AN6(t:Nat)(T:cj):CR P fr s (.cell t T)=ld1 P s T (rdT (BS fr t)):=by
 rw[FM];show(match fr.get t with
  |some (true,p)=>(A8 s p).bind (BM P T)
  | _=>none)=_
 cases fr.get t with
 |none=>rfl
 |some p=>
  obtain⟨c,v⟩:=p
  cases c with
  |false=>rfl
  |true=>
   simp only[AGI,AGJ]
   cases A8 s v<;>rfl
section
variable (d:Option Tmp)(c:Nat)
@[simp] theorem A6Q(r:Option XS):VX P E [] r=r:=rfl
@[simp] theorem AYC(p:nP)(S:List nP)(r:Option XS):VX P E (p::S) r=VX P E S (PD P E p.sq (bO (VW P E p.ph (AF5 p.new r)))):=rfl
@[simp] theorem A6R(r:Option (XS×AK×AK)):VW P E [] r=r:=rfl
@[simp] theorem AYD(i:JQ)(l:List JQ)(r:Option (XS×AK×AK)):VW P E (i::l) r=VW P E l (nO P E i r):=rfl
@[simp] theorem BAK(new:List Tmp)(up:List AA)(loc:AA):AF5 new (some ⟨c,fr,⟨up,loc⟩⟩)=if (new.all fun d=>(loc.get d).isNone)=true then some (⟨c,fr,⟨up,loc⟩⟩,[],[]) else none:=by show(Bool.rec none _ _:Option _)=_;rw[ifB];rfl
@[simp] theorem AYE(rd wr:AK):bO (some (st,rd,wr))=if (wr.all fun p=>!(rd.contains p))=true then some st else none:=by show(Bool.rec none _ _:Option _)=_;rw[ifB]
@[simp] theorem AYF:bO none=none:=rfl
@[simp] theorem A6S(c:Prop)[Decidable c](x y:Option (XS×AK×AK)):bO (if c then x else y)=if c then bO x else bO y:=by split<;>rfl
@[simp] theorem AYG(i:JQ):nO P E i none=none:=rfl
@[simp] theorem A6T(i:JQ)(c:Prop)[Decidable c](x y:Option (XS×AK×AK)):nO P E i (if c then x else y)=if c then nO P E i x else nO P E i y:=by split<;>rfl
@[simp] theorem A6U(l:List JQ)(c:Prop)[Decidable c](x y:Option (XS×AK×AK)):VW P E l (if c then x else y)=if c then VW P E l x else VW P E l y:=by split<;>rfl
@[simp] theorem A6V(l:List nP)(c:Prop)[Decidable c](x y:Option XS):VX P E l (if c then x else y)=if c then VX P E l x else VX P E l y:=by split<;>rfl
def ph3(rds rd wr:AK):Option (XS×AK)->Option (XS×AK×AK)
 |some (st,w)=>some (st,rds++rd,w++wr)
 |none=>none
@[simp] theorem A6W(rds rd wr w:AK):ph3 rds rd wr (some (st,w))=some (st,rds++rd,w++wr):=rfl
@[simp] theorem A6X(rds rd wr:AK):ph3 rds rd wr none=none:=rfl
@[simp] theorem BAL(rds rd wr:AK)(c:Prop)[Decidable c](x y:Option (XS×AK)):ph3 rds rd wr (if c then x else y)=if c then ph3 rds rd wr x else ph3 rds rd wr y:=by split<;>rfl
@[simp] theorem AYI(i:JQ)(rd wr:AK):nO P E i (some (st,rd,wr))=ph3 (IL P i.k (CI st.fr)) rd wr (VV P E i st):=by show(match VV P E i st with|some (st',w)=>some (st',IL P i.k (CI st.fr)++rd,w++wr)|none=>none)=_;cases VV P E i st<;>rfl
@[simp] theorem AYJ(k:IK):VV P E ⟨none,d,k⟩ st=DP P E d k st:=rfl
def gI0(P:cq)(E:XE)(d:Option Tmp)(k:IK)(st:XS)(w:Bool)(r:Option (Bool×V)):Option (XS×AK):=match r with
 |some (c,.bool b)=>if (c&&(b==w))=true then DP P E d k st else if DJ k=true then none else some (IQ d st,[])
 |_=>none
@[simp] theorem ATL(t:Tmp)(w:Bool)(k:IK):VV P E ⟨some (t,w),d,k⟩ st=gI0 P E d k st w (BS st.fr t):=by
 show(match(match BS st.fr t with | some (c,.bool b)=>some (c&&(b == w)) | _=>none:Option Bool)with
  |some true=>DP P E d k st
  |some false=>Bool.rec (some (IQ d st,[])) none (DJ k)
  | none=>none)=_
 unfold gI0;cases BS st.fr t with
 |none=>rfl
 |some p=>
  obtain⟨c,v⟩:=p
  cases v with
  |bool b=>cases h:(c&&(b==w))<;>simp[h,ifB]
  |_=>rfl
@[simp] theorem A6Y(k:IK)(w c b:Bool):gI0 P E d k st w (some (c,.bool b))=if (c&&(b==w))=true then DP P E d k st else if DJ k=true then none else some (IQ d st,[]):=rfl
@[simp] theorem BE9(T:cj)(x:ck)(f:ck->Option V):IL P (.ld T x) f=BH (bx (P.cellsOf T) 1) (f x):=rfl
@[simp] theorem ATM(x y:ck)(f:ck->Option V):KV f [x,y]=HC (f y):=rfl
@[simp] theorem ALG(b:Bool)(es:List (List V)):HC (some (.list b es))=[]:=rfl
@[simp] theorem AN7:HC (some .nil)=[]:=rfl
@[simp] theorem AN8(l k γ n:Nat):HC (some (.vec l k γ n))=[(l,k)]:=rfl
@[simp] theorem BFA(x:ck)(f:ck->Option V):IL P (.mv x) f=[]:=rfl
@[simp] theorem BAM(op:BinOp)(T:cj)(x y:ck)(f:ck->Option V):IL P (.bin op T x y) f=[]:=rfl
@[simp] theorem BFB(T:cj)(x:ck)(i:Nat)(f:ck->Option V):IL P (.fa T x i) f=[]:=rfl
@[simp] theorem A6Z(x y z:ck)(f:ck->Option V):IL P (.pick x y z) f=[]:=rfl
@[simp] theorem AYK(T:cj)(ps:List (Nat×ck))(f:ck->Option V):IL P (.build T ps) f=[]:=rfl
@[simp] theorem ATN(T:cj)(n:Nat)(ps:List (Nat×ck))(f:ck->Option V):IL P (.buildS T n ps) f=[]:=rfl
@[simp] theorem AYL(T:cj)(f:ck->Option V):IL P (.alloc T) f=[]:=rfl
@[simp] theorem BAN(x:ck)(f:ck->Option V):IL P (.box x) f=[]:=rfl
@[simp] theorem BAO(T:cj)(x y:ck)(f:ck->Option V):IL P (.sto T x y) f=[]:=rfl
@[simp] theorem BAP(x:List ck)(y:List cj)(f:ck->Option V):IL P (.app x y) f=KV f x:=rfl
@[simp] theorem A60(b:Bool)(t:Option Tmp)(g:ck)(x:List ck)(f:ck->Option V):IL P (.call b t g x) f=[]:=rfl
@[simp] theorem A61(T:cj)(x i:ck)(f:ck->Option V):IL P (.oth (.indexAddr T x i)) f=KU (f x):=rfl
@[simp] theorem BFC(op:UnOp)(T:cj)(x:ck)(f:ck->Option V):IL P (.oth (.unOp op T x)) f=[]:=rfl
@[simp] theorem BAQ(x:ck)(i:Nat)(f:ck->Option V):IL P (.oth (.extract x i)) f=[]:=rfl
@[simp] theorem BAR(x:ck)(T:cj)(b:Builtin)(f:ck->Option V):IL P (.oth (.call ⟨.builtin b,#[x],#[T]⟩)) f=[]:=by cases b<;>rfl
@[simp] theorem BFD(g:Fn)(x y:Array ck)(f:ck->Option V):IL P (.oth (.makeFunc g x y)) f=[]:=rfl
def nw:Option XS->Option (XS×AK)
 |some st=>some (st,[])
 |none=>none
@[simp] theorem BAS:nw (some st)=some (st,[]):=rfl
@[simp] theorem BAT:nw none=none:=rfl
@[simp] theorem BFE(c:Prop)[Decidable c](x y:Option XS):nw (if c then x else y)=if c then nw x else nw y:=by split<;>rfl
theorem HE(r:Option XS):T3 r=nw r:=by cases r<;>rfl
@[simp] theorem A62(x:ck):DP P E d (.mv x) st=nw (CX P E d (.mv x) st):=HE _
@[simp] theorem AYM(op:BinOp)(T:cj)(x y:ck):DP P E d (.bin op T x y) st=nw (CX P E d (.bin op T x y) st):=HE _
@[simp] theorem A63(T:cj)(x:ck)(f:Nat):DP P E d (.fa T x f) st=nw (CX P E d (.fa T x f) st):=HE _
@[simp] theorem AYN(T:cj)(x:ck):DP P E d (.ldz T x) st=DP P E d (.ld T x) st:=rfl
@[simp] theorem AYO(T:cj)(x:ck):CX P E d (.ldz T x) st=CX P E d (.ld T x) st:=rfl
@[simp] theorem BAU(T:cj)(x:ck)(f:ck->Option V):IL P (.ldz T x) f=[]:=rfl
@[simp] theorem A64(T:cj)(x:ck):DP P E d (.ld T x) st=nw (CX P E d (.ld T x) st):=HE _
@[simp] theorem ATO(x y z:ck):DP P E d (.pick x y z) st=nw (CX P E d (.pick x y z) st):=HE _
@[simp] theorem AN9(T:cj)(ps:List (Nat×ck)):DP P E d (.build T ps) st=nw (CX P E d (.build T ps) st):=HE _
@[simp] theorem ALH(T:cj)(n:Nat)(ps:List (Nat×ck)):DP P E d (.buildS T n ps) st=nw (CX P E d (.buildS T n ps) st):=HE _
@[simp] theorem AYP(op:Op):DP P E d (.oth op) st=nw (CX P E d (.oth op) st):=HE _
@[simp] theorem AOA(T:cj):DP P E d (.alloc T) st=nw (CX P E d (.alloc T) st):=HE _
@[simp] theorem AYQ(x:ck):DP P E d (.box x) st=nw (CX P E d (.box x) st):=HE _
@[simp] theorem AYR(x:Option ck):DP P E d (.mkM x) st=nw (CX P E d (.mkM x) st):=HE _
@[simp] theorem AYS(T:cj)(x y:ck):DP P E d (.mkS T x y) st=nw (CX P E d (.mkS T x y) st):=HE _
def wp(p:AK):Option XS->Option (XS×AK)
 |some st=>some (st,p)
 |none=>none
@[simp] theorem BAV(p:AK):wp p (some st)=some (st,p):=rfl
@[simp] theorem BAW(p:AK):wp p none=none:=rfl
@[simp] theorem BFF(p:AK)(c:Prop)[Decidable c](x y:Option XS):wp p (if c then x else y)=if c then wp p x else wp p y:=by split<;>rfl
@[simp] theorem AYT(T:cj)(x y:ck):DP P E d (.sto T x y) st=wp (BJ (bx (P.cellsOf T) 1) (CI st.fr x)) (CX P E d (.sto T x y) st):=by show(match JW P d T x y st with|some st'=>some (st',BJ (bx (P.cellsOf T) 1) (CI st.fr x))|none=>none)=wp _ (JW P d T x y st);cases JW P d T x y st<;>rfl
@[simp] theorem A65(x:Option V):BH false x=A0 x:=by cases x<;>rfl
@[simp] theorem ATP(l k g o:Nat):BH true (some (.ptr l k g o))=[(l,k+2000000),(l,k+4000000),(l,6000000+1000*k+o)]:=rfl
@[simp] theorem AOB(l k g i o:Nat):BH true (some (.eptr l k g i o))=[(l,k+2000000),(l,k+4000000),(l,6000000+1000*k+o)]:=rfl
@[simp] theorem ATQ(b:Bool)(cs:List V):BH b (some (.ref cs))=[]:=by cases b<;>rfl
@[simp] theorem ATR(l k g o:Nat):BJ true (some (.ptr l k g o))=[(l,k),(l,6000000+1000*k+o)]:=rfl
@[simp] theorem AOC(l k g i o:Nat):BJ true (some (.eptr l k g i o))=[(l,k),(l,6000000+1000*k+o)]:=rfl
@[simp] theorem AOD(l k g o:Nat):BJ false (some (.ptr l k g o))=[(l,k),(l,k+4000000)]:=rfl
@[simp] theorem ALI(l k g i o:Nat):BJ false (some (.eptr l k g i o))=[(l,k),(l,k+4000000)]:=rfl
@[simp] theorem AOE(l k g o:Nat):A0 (some (.ptr l k g o))=[(l,k)]:=rfl
@[simp] theorem ALJ(l k g i o:Nat):A0 (some (.eptr l k g i o))=[(l,k)]:=rfl
@[simp] theorem AOF(cs:List V):A0 (some (.ref cs))=[]:=rfl
@[simp] theorem ATS(l k g o:Nat):KU (some (.ptr l k g o))=[]:=rfl
@[simp] theorem ATT(l k g n:Nat):KU (some (.vec l k g n))=[(l,k+FE)]:=rfl
@[simp] theorem AOG(b:Bool)(es:List (List V)):KU (some (.list b es))=[]:=rfl
@[simp] theorem ATU(cs:List V):KU (some (.ref cs))=[]:=rfl
def c01(E:XE)(d:Option Tmp)(st:XS):Option V->Option (List V)->Option XS
 |some (.fn f first cap),some vs=>EG d st (E.c0 f ((first++vs++cap).map weakV))
 |_,_=>none
@[simp] theorem ATV(f:cd)(first cap vs:List V):c01 E d st (some (.fn f first cap)) (some vs)=EG d st (E.c0 f ((first++vs++cap).map weakV)):=rfl
@[simp] theorem ATW(t:Option Tmp)(f:ck)(args:List ck):DP P E d (.call false t f args) ⟨c,fr,s⟩=nw (c01 E d ⟨c,fr,s⟩ (CI fr f) (FT (CI fr) args)):=by
 show T3 (aF E.c0 d f args ⟨c,fr,s⟩)=_;rw[HE];congr 1;unfold aF;cases hf:CI fr f with
 |none=>simp only[c01]
 |some v=>
  cases v with
  |fn g first cap=>
   simp only
   cases hm:FT (CI fr) args with
   |none=>simp only[c01]
   |some vs=>
    simp only[ATV]
    cases E.c0 g ((first++vs++cap).map weakV)<;>rfl
  |_=>simp only[c01]
@[simp] theorem BFG{A:Ann}{kn:CF0}{n:Nat}:(BL P A kn n).c0=F4 P kn (AF P A kn n):=rfl
end
theorem sF{A:Ann}{kn:CF0}{n N:Nat}(a b:cx):mR (AF P A kn n N) a b st (some (.bool true))=AF P A kn n N a st:=rfl
theorem nV{A:Ann}{kn:CF0}{n N:Nat}(a b:cx):mR (AF P A kn n N) a b st (some (.bool false))=AF P A kn n N b st:=rfl
attribute [simp] AGD sC AAG AGB AAC sA AAD AAE AAF AGC sB nR AGE AAH AGF dI sD nS sE sF nV AGH
end Go.Pg
namespace Go.Pg
variable {P:cq}{E:XE}{st:XS}{fr:Fr}{s:St}
@[simp] theorem ATX(k:cz)(n:Int):A7 (.int k n)=[.int k n]:=rfl
@[simp] theorem AOH(b:Bool):A7 (.bool b)=[.bool b]:=rfl
@[simp] theorem ATY(cs:List V):A7 (.agg cs)=cs:=rfl
@[simp] theorem AOI(b:Bool)(es:List (List V)):A7 (.list b es)=[.list b es]:=rfl
@[simp] theorem ATZ:A7 .nil=[.nil]:=rfl
@[simp] theorem AT0(l k g n:Nat):A7 (.vec l k g n)=[.vec l k g n]:=rfl
@[simp] theorem AYU(l k g:Nat):A7 (.mp l k g)=[.mp l k g]:=rfl
@[simp] theorem AYV(f:cd)(x y:List V):A7 (.fn f x y)=[.fn f x y]:=rfl
@[simp] theorem AT1(l k g n:Nat):A7 (.ptr l k g n)=[.ptr l k g n]:=rfl
@[simp] theorem AT2(cs:List V):A7 (.ref cs)=[.ref cs]:=rfl
@[simp] theorem AT3(k:cz)(n:Int):BD (.int k n)=true:=rfl
@[simp] theorem AOJ(b:Bool):BD (.bool b)=true:=rfl
@[simp] theorem AT4(cs:List V):BD (.agg cs)=true:=rfl
@[simp] theorem AOK(b:Bool)(es:List (List V)):BD (.list b es)=true:=rfl
@[simp] theorem AT5:BD .nil=true:=rfl
@[simp] theorem AT6(l k g n:Nat):BD (.vec l k g n)=true:=rfl
@[simp] theorem AYW(l k g:Nat):BD (.mp l k g)=true:=rfl
@[simp] theorem AYX(f:cd)(x y:List V):BD (.fn f x y)=true:=rfl
@[simp] theorem AT7(l k g n:Nat):BD (.ptr l k g n)=true:=rfl
@[simp] theorem AT8(cs:List V):BD (.ref cs)=true:=rfl
@[simp] theorem AYY(op:BinOp)(T:cj)(k j:cz)(a b:Int):GS P op T (.int k a) (.int j b)=if k=j then E1 op k a b else cM op k a b:=rfl
@[simp] theorem A67(k:cz)(a b:Int):cM .shl k a b=if b<0 then none else some (.int k (k.wrap (a*2 ^ (min b.toNat k.bits)))):=rfl
@[simp] theorem A68(k:cz)(a b:Int):cM .shr k a b=if b<0 then none else some (.int k (a.fdiv (2 ^ (min b.toNat k.bits)))):=rfl
section
variable (k:cz)(a b:Int)
@[simp] theorem AYZ:E1 .add k a b=some (.int k (k.wrap (a+b))):=rfl
@[simp] theorem AY0:E1 .sub k a b=some (.int k (k.wrap (a-b))):=rfl
@[simp] theorem AY1:E1 .mul k a b=some (.int k (k.wrap (a*b))):=rfl
@[simp] theorem AY2:E1 .quo k a b=if b=0 then none else some (.int k (k.wrap (a.tdiv b))):=rfl
@[simp] theorem AY3:E1 .rem k a b=if b=0 then none else some (.int k (a.tmod b)):=rfl
@[simp] theorem AY4:E1 .and k a b=some (.int k (k.wrap (BitVec.ofInt k.bits a &&& BitVec.ofInt k.bits b).toNat)):=rfl
@[simp] theorem A69:E1 .or k a b=some (.int k (k.wrap (BitVec.ofInt k.bits a ||| BitVec.ofInt k.bits b).toNat)):=rfl
@[simp] theorem ALK:E1 .andNot k a b=some (.int k (k.wrap (BitVec.ofInt k.bits a &&& ~~~ BitVec.ofInt k.bits b).toNat)):=rfl
@[simp] theorem AY5:E1 .shl k a b=if b<0 then none else some (.int k (k.wrap (a*2 ^ (min b.toNat k.bits)))):=rfl
@[simp] theorem AY6:E1 .shr k a b=if b<0 then none else some (.int k (a.fdiv (2 ^ (min b.toNat k.bits)))):=rfl
@[simp] theorem AY7:E1 .eql k a b=some (.bool (decide (a=b))):=by show some (V.bool (a==b))=_;congr 2
@[simp] theorem AY8:E1 .neq k a b=some (.bool (!decide (a=b))):=by show some (V.bool (a != b))=_;congr 2
@[simp] theorem AY9:E1 .lss k a b=some (.bool (decide (a<b))):=rfl
@[simp] theorem AZA:E1 .leq k a b=some (.bool (decide (a<=b))):=rfl
@[simp] theorem AZB:E1 .gtr k a b=some (.bool (decide (b<a))):=rfl
@[simp] theorem AZC:E1 .geq k a b=some (.bool (decide (b<=a))):=rfl
end
theorem AY{x:Int}(h1:-9223372036854775808<=x)(h2:x<9223372036854775808):IntKind.i64.wrap x=x:=by simp only[IntKind.wrap,IntKind.bits,IntKind.signed];simp;omega
@[simp] theorem AOL(T:cj)(a b:Bool):GS P .eql T (.bool a) (.bool b)=if uN P T=true then some (.bool (a==b)) else none:=rfl
@[simp] theorem AOM(T:cj)(a b:Bool):GS P .neq T (.bool a) (.bool b)=if uN P T=true then some (.bool (a != b)) else none:=rfl
def bl1(f:Bool->Bool):Option Bool->Option V
 |some b=>some (.bool (f b))
 |none=>none
@[simp] theorem A7A(f:Bool->Bool)(b:Bool):bl1 f (some b)=some (.bool (f b)):=rfl
@[simp] theorem AT9(T:cj)(cs ds:List V):GS P .eql T (.agg cs) (.agg ds)=bl1 (fun b=>b) (U1 P T cs ds):=by show(U1 P T cs ds).map V.bool=_;cases U1 P T cs ds<;>rfl
@[simp] theorem AUA(T:cj)(cs ds:List V):GS P .neq T (.agg cs) (.agg ds)=bl1 (fun b=>!b) (U1 P T cs ds):=by show(U1 P T cs ds).map (fun b=>V.bool !b)=_;cases U1 P T cs ds<;>rfl
def faP(P:cq)(x:V):Option (cj×Nat)->Option V
 |some (U,off)=>if P.cellsOf U=0 then none else match x with
  |.ref cs=>some (.ref (cs.drop off))
  |.ptr l k g o=>some (.ptr l k g (o+off))
  |.eptr l k g i o=>some (.eptr l k g i (o+off))
  |_=>none
 |none=>none
@[simp] theorem BAX(T:cj)(x:V)(f:Nat):DC P T x f=faP P x (A3 P T f):=by unfold DC faP;cases A3 P T f<;>rfl
@[simp] theorem BAY(U:cj)(off:Nat)(cs:List V):faP P (.ref cs) (some (U,off))=if P.cellsOf U=0 then none else some (.ref (cs.drop off)):=rfl
@[simp] theorem BAZ(U:cj)(off l k g o:Nat):faP P (.ptr l k g o) (some (U,off))=if P.cellsOf U=0 then none else some (.ptr l k g (o+off)):=rfl
@[simp] theorem A7C(U:cj)(off l k g i o:Nat):faP P (.eptr l k g i o) (some (U,off))=if P.cellsOf U=0 then none else some (.eptr l k g i (o+off)):=rfl
def fd1(P:cq)(x:V):Option (cj×Nat)->Option V
 |some (U,off)=>match x with
  |.agg cs=>MD P U cs off
  |_=>none
 |none=>none
@[simp] theorem AUB(T:cj)(x:V)(f:Nat):JB P T x f=fd1 P x (A3 P T f):=by unfold JB fd1;cases x<;>cases A3 P T f<;>rfl
@[simp] theorem BA0(U:cj)(off:Nat)(cs:List V):fd1 P (.agg cs) (some (U,off))=MD P U cs off:=rfl
def cb(g off:Nat):Option (Nat×AX)->Option (List V)
 |some (g',.box cs)=>if g'=g then some (cs.drop off) else none
 |_=>none
@[simp] theorem BA1(g g' off:Nat)(cs:List V):cb g off (some (g',.box cs))=if g'=g then some (cs.drop off) else none:=rfl
def ce(g i off:Nat):Option (Nat×AX)->Option (List V)
 |some (g',.vec _ es)=>if g'=g then(es[i]?).map (·.drop off) else none
 |_=>none
@[simp] theorem BA2(g g' i off:Nat)(T:cj)(es:List (List V)):ce g i off (some (g',.vec T es))=if g'=g then(es[i]?).map (·.drop off) else none:=rfl
@[simp] theorem AON(cs:List V):A8 s (.ref cs)=some cs:=rfl
@[simp] theorem AOO(l k g off:Nat):A8 s (.ptr l k g off)=cb g off (s.get l k):=by
 unfold cb;simp only[A8];cases s.get l k with
 |none=>rfl
 |some z=>obtain⟨g',r⟩:=z;cases r<;>rfl
@[simp] theorem ALL(l k g i off:Nat):A8 s (.eptr l k g i off)=ce g i off (s.get l k):=by
 unfold ce;simp only[A8];cases s.get l k with
 |none=>rfl
 |some z=>obtain⟨g',r⟩:=z;cases r<;>rfl
def iv(P:cq)(e:cj)(l k g n:Nat)(j:Int):Option (Nat×AX)->Option V
 |some (g',.vec _ es)=>if g'=g/\0<=j/\j<n/\n<=es.length/\(es.getD j.toNat []).length=P.cellsOf e/\0<P.cellsOf e then some (.eptr l k g j.toNat 0) else none
 |_=>none
@[simp] theorem BA3(e:cj)(l k g g' n:Nat)(j:Int)(T:cj)(es:List (List V)):iv P e l k g n j (some (g',.vec T es))=if g'=g/\0<=j/\j<n/\n<=es.length/\(es.getD j.toNat []).length=P.cellsOf e/\0<P.cellsOf e then some (.eptr l k g j.toNat 0) else none:=rfl
def ia(P:cq)(s:St)(x i:V):Option (Option Nat×cj)->Option V
 |some (none,e)=>match x,i with
  |.list _ es,.int _ j=>if 0<=j/\j<es.length/\(es.getD j.toNat []).length=P.cellsOf e/\0<P.cellsOf e then some (.ref (es.getD j.toNat [])) else none
  |.vec l k g n,.int _ j=>iv P e l k g n j (s.get l k)
  |_,_=>none
 |some (some n,e)=>match x,i with
  |.ref cs,.int _ j=>if 0<=j/\j<n/\0<P.cellsOf e then some (.ref (cs.drop (j.toNat*P.cellsOf e))) else none
  |.ptr l k g o,.int _ j=>if 0<=j/\j<n/\0<P.cellsOf e then some (.ptr l k g (o+j.toNat*P.cellsOf e)) else none
  |.eptr l k g i' o,.int _ j=>if 0<=j/\j<n/\0<P.cellsOf e then some (.eptr l k g i' (o+j.toNat*P.cellsOf e)) else none
  |_,_=>none
 |none=>none
@[simp] theorem BA4(T:cj)(x i:V):BN P s T x i=ia P s x i (BO P T):=by
 unfold BN ia;cases BO P T with
 |none=>rfl
 |some z=>
  obtain⟨n,e⟩:=z
  cases n with
  |some n=>cases x<;>cases i<;>rfl
  |none=>
   cases x with
   |vec l k g n=>
    cases i with
    |int q j=>
     simp only[iv]
     cases s.get l k with
     |none=>rfl
     |some z=>obtain⟨g',r⟩:=z;cases r<;>rfl
    |_=>rfl
   |_=>cases i<;>rfl
@[simp] theorem BA5(e:cj)(b:Bool)(es:List (List V))(k:cz)(j:Int):ia P s (.list b es) (.int k j) (some (none,e))=if 0<=j/\j<es.length/\(es.getD j.toNat []).length=P.cellsOf e/\0<P.cellsOf e then some (.ref (es.getD j.toNat [])) else none:=rfl
@[simp] theorem BFJ(e:cj)(l q g n:Nat)(k:cz)(j:Int):ia P s (.vec l q g n) (.int k j) (some (none,e))=iv P e l q g n j (s.get l q):=rfl
@[simp] theorem BFK(n:Nat)(e:cj)(cs:List V)(k:cz)(j:Int):ia P s (.ref cs) (.int k j) (some (some n,e))=if 0<=j/\j<n/\0<P.cellsOf e then some (.ref (cs.drop (j.toNat*P.cellsOf e))) else none:=rfl
@[simp] theorem BFL(n:Nat)(e:cj)(l q g o:Nat)(k:cz)(j:Int):ia P s (.ptr l q g o) (.int k j) (some (some n,e))=if 0<=j/\j<n/\0<P.cellsOf e then some (.ptr l q g (o+j.toNat*P.cellsOf e)) else none:=rfl
@[simp] theorem BA6(n:Nat)(e:cj)(l q g i o:Nat)(k:cz)(j:Int):ia P s (.eptr l q g i o) (.int k j) (some (some n,e))=if 0<=j/\j<n/\0<P.cellsOf e then some (.eptr l q g i (o+j.toNat*P.cellsOf e)) else none:=rfl
def ix(P:cq)(x i:V):Option (Option Nat×cj)->Option V
 |some (some n,e)=>match x,i with
  |.agg cs,.int _ j=>if 0<=j/\j<n/\0<P.cellsOf e then MD P e cs (j.toNat*P.cellsOf e) else none
  |_,_=>none
 |_=>none
@[simp] theorem AUC(T:cj)(x i:V):J4 P T x i=ix P x i (BO P T):=by
 unfold J4 ix;cases BO P T with
 |none=>rfl
 |some z=>obtain⟨n,e⟩:=z;cases n<;>cases x<;>cases i<;>rfl
@[simp] theorem BFM(n:Nat)(e:cj)(cs:List V)(k:cz)(j:Int):ix P (.agg cs) (.int k j) (some (some n,e))=if 0<=j/\j<n/\0<P.cellsOf e then MD P e cs (j.toNat*P.cellsOf e) else none:=rfl
theorem PF{T:cj}(h:D0 P T=true):∃e,P.underlying T=some (.slice e):=by
 unfold D0 at h;split at h
 ·rename_i e he;exact⟨e,he⟩
 ·cases h
@[simp] theorem sG{T:cj}(h:D0 P T=true)(b:Bool)(es:List (List V)):IP P T (.list b es)=some (.int .i64 es.length):=by obtain⟨e,he⟩:=PF h;simp[IP,he]
@[simp] theorem AZD{T:cj}(h:D0 P T=true)(l k g n:Nat):IP P T (.vec l k g n)=some (.int .i64 n):=by obtain⟨e,he⟩:=PF h;simp[IP,he]
@[simp] theorem AAK{T:cj}(h:D0 P T=true):IP P T .nil=some (.int .i64 0):=by obtain⟨e,he⟩:=PF h;simp[IP,he]
def fv(place:Nat->Option (Nat×Nat))(cs:List V)(v:V)(rest:List (Nat×V)):Option (Nat×Nat)->Option (List V)
 |none=>none
 |some (off,size)=>if (A7 v).length=size/\off+(A7 v).length<=cs.length then DK place (A2 cs off (A7 v)) rest else none
@[simp] theorem AZE(place:Nat->Option (Nat×Nat))(cs:List V):DK place cs []=some cs:=rfl
@[simp] theorem AUD(place:Nat->Option (Nat×Nat))(cs:List V)(i:Nat)(v:V)(rest:List (Nat×V)):DK place cs ((i,v)::rest)=fv place cs v rest (place i):=by simp only[DK];unfold fv;cases place i<;>rfl
@[simp] theorem BA7(place:Nat->Option (Nat×Nat))(cs:List V)(v:V)(rest:List (Nat×V))(off size:Nat):fv place cs v rest (some (off,size))=if (A7 v).length=size/\off+(A7 v).length<=cs.length then DK place (A2 cs off (A7 v)) rest else none:=rfl
attribute [simp] A2
@[simp] theorem AOP(size:Nat)(cs:List V):CQ size cs 0=[]:=rfl
@[simp] theorem AOQ(size:Nat)(cs:List V)(n:Nat):CQ size cs (n+1)=cs.take size::CQ size (cs.drop size) n:=rfl
def ch1(size len:Nat):Option (List V)->Option V
 |some cs=>some (.list true (CQ size cs len))
 |none=>none
@[simp] theorem A7D(size len:Nat)(cs:List V):ch1 size len (some cs)=some (.list true (CQ size cs len)):=rfl
def bsz(P:cq)(e:cj)(len:Nat)(parts:List (Nat×V)):Option (List V)->Option V
 |some z=>if (parts.all fun p=>BD p.2)=true/\z.length=P.cellsOf e/\0<P.cellsOf e/\len*P.cellsOf e<=2 ^ 24 then
   ch1 (P.cellsOf e) len (DK (fun i=>some (i*P.cellsOf e,P.cellsOf e)) (bf len z).flatten parts) else none
 |none=>none
@[simp] theorem A7E(e:cj)(len:Nat)(parts:List (Nat×V))(z:List V):bsz P e len parts (some z)=if (parts.all fun p=>BD p.2)=true/\z.length=P.cellsOf e/\0<P.cellsOf e/\len*P.cellsOf e<=2 ^ 24 then
   ch1 (P.cellsOf e) len (DK (fun i=>some (i*P.cellsOf e,P.cellsOf e)) (bf len z).flatten parts) else none:=rfl
def bsl(P:cq)(len:Nat)(parts:List (Nat×V)):Option (Option Nat×cj)->Option V
 |some (none,e)=>bsz P e len parts (B9 P e)
 |_=>none
@[simp] theorem A7F(e:cj)(len:Nat)(parts:List (Nat×V)):bsl P len parts (some (none,e))=bsz P e len parts (B9 P e):=rfl
@[simp] theorem BA9(T:cj)(len:Nat)(parts:List (Nat×V)):B8 P T len parts=bsl P len parts (BO P T):=by
 unfold B8 bsl;cases BO P T with
 |none=>rfl
 |some z=>
  obtain⟨n,e⟩:=z
  cases n with
  |some n=>rfl
  |none=>
   simp only[bsz]
   cases B9 P e with
   |none=>rfl
   |some z=>
    simp only
    split
    ·cases DK (fun i=>some (i*P.cellsOf e,P.cellsOf e)) (bf len z).flatten parts<;>rfl
    ·rfl
def fn2(f:cd):Option (List V)->Option (List V)->Option V
 |some a,some b=>some (.fn f a b)
 |_,_=>none
@[simp] theorem A7G(f:cd)(a b:List V):fn2 f (some a) (some b)=some (.fn f a b):=rfl
@[simp] theorem BFP(f:cd)(x y:Array ck)(r:ck->Option V):J0 P (nN (.makeFunc (.func f) x y)) s r=fn2 f (FT r x.toList) (FT r y.toList):=by show((x.toList.mapM r).bind fun a=>(y.toList.mapM r).bind fun b=>some (V.fn f a b))=_;rw[<-LI,<-LI];cases FT r x.toList<;>cases FT r y.toList<;>rfl
@[simp] theorem BBB(x y:ck)(Ts:Array cj)(r:ck->Option V):J0 P (nN (.call ⟨.builtin .max,#[x,y],Ts⟩)) s r=o2 TE (r x) (r y):=iY _ _ _
@[simp] theorem BBC(x y:ck)(Ts:Array cj)(r:ck->Option V):J0 P (nN (.call ⟨.builtin .min,#[x,y],Ts⟩)) s r=o2 TF (r x) (r y):=iY _ _ _
@[simp] theorem AZF(k j:cz)(m n:Int):TE (.int k m) (.int j n)=if k=j then some (.int k (if n>m then n else m)) else none:=rfl
@[simp] theorem AZG(k j:cz)(m n:Int):TF (.int k m) (.int j n)=if k=j then some (.int k (if n<m then n else m)) else none:=rfl
theorem CC{e:cj}{n:Nat}{ys:List (List V)}(hc:0<P.cellsOf e)(hz:cQ P e=true):BZ P e n ys=true↔(ys.all (fun y=>y.length==P.cellsOf e)=true/\n+ys.length<=maxLen/\(n+ys.length)*P.bytesOf e<=140737488355328):=by simp[BZ,hc,hz,and_assoc]
end Go.Pg
namespace Go.Pg
variable {P:cq}{E:XE}{st:XS}{fr:Fr}{s:St}
theorem AR{P:cq}{kn:CF0}{rec:HD}{f:cd}{args:List V}(h:kn f args=none):BA P kn rec f args=EZ P rec f args:=by unfold BA;rw[h]
def pv(k γ:Nat):List (List V)->V
 |[]=>.nil
 |e::es=>.vec 0 k γ (e::es).length
def pl(k γ:Nat)(T:cj):List (List V)->AA
 |[]=>[]
 |e::es=>[(k,γ,.vec T (e::es))]
def sl:List (List V)->V
 |[]=>.nil
 |e::es=>.list false (e::es)
@[simp] theorem BFQ(k γ:Nat):pv k γ []=.nil:=rfl
@[simp] theorem BFR(k γ:Nat)(T:cj):pl k γ T []=[]:=rfl
@[simp] theorem BBD(k γ:Nat)(T:cj)(es:List (List V))(y:List V)(ys:List (List V)):pl k γ T (es++y::ys)=[(k,γ,.vec T (es++y::ys))]:=by cases es<;>rfl
@[simp] theorem BBE(k γ:Nat)(T:cj)(y:List V)(ys:List (List V)):pl k γ T (y::ys)=[(k,γ,.vec T (y::ys))]:=rfl
@[simp] theorem BIF(k γ:Nat)(T:cj)(es:List (List V)):kl k [] ((pl k γ T es).get k)=pl k γ T es:=by
 cases es with
 |nil=>rfl
 |cons e es=>simp
@[simp] theorem A7H{k j:Nat}(γ:Nat)(T:cj)(es:List (List V))(h:j≠k):(pl k γ T es).get j=none:=by
 cases es with
 |nil=>rfl
 |cons e es=>simp[h]
@[simp] theorem AUE(e k c γ:Nat)(loc:AA)(es:List (List V))(y:List V)(ys:List (List V))(hl:AA.get loc k=(pl k γ e es).get k)(h1:es.all (fun y=>y.length==P.cellsOf e)=true)(h2:BZ P e es.length (y::ys)=true) :
  apV P e k c fr ⟨[],loc⟩ (pv k γ es) (y::ys)=some ⟨c+1,(k,true,pv k c (es++y::ys))::fr,⟨[],(k,c,.vec e (es++y::ys))::loc⟩⟩:=by
 cases es with
 |nil=>
  simp only[bk]at h2
  simp[h2,pv]
 |cons z es=>
  have hl:AA.get loc k=some (γ,.vec e (z::es)):=by rw[hl];simp
  simp only[pv,ALD,AGN,bk,if_true,hl,nT,U4,UD,true_and,h1,h2]
  simp[Nat.add_comm,Nat.add_left_comm]
theorem P2{T:cj}(f:Nat)(loc:AA)(k γ:Nat)(es:List (List V))(hl:AA.get loc k=(pl k γ T es).get k):A1 ⟨[],loc⟩ (f+1) (pv k γ es)=some (sl es):=by
 cases es with
 |nil=>rfl
 |cons z es=>
  have hl:AA.get loc k=some (γ,.vec T (z::es)):=by rw[hl];simp
  simp only[pv,bS,bk,if_true,hl,AGO,sl]
  simp
@[simp] theorem AZH(f k γ:Nat)(T:cj)(es:List (List V)):A1 ⟨[],pl k γ T es⟩ (f+1) (pv k γ es)=some (sl es):=P2 (T:=T) f _ k γ es rfl
@[simp] theorem A7I{T:cj}(h:D0 P T=true)(es:List (List V)):IP P T (sl es)=some (.int .i64 es.length):=by
 cases es with
 |nil=>exact AAK h
 |cons e es=>exact sG h _ _
@[simp] theorem BIG(e:cj)(es:List (List V))(k:cz)(j:Int):ia P s (sl es) (.int k j) (some (none,e))=if 0<=j/\j<es.length/\(es.getD j.toNat []).length=P.cellsOf e/\0<P.cellsOf e then some (.ref (es.getD j.toNat [])) else none:=by
 cases es with
 |nil=>
  rw[if_neg (by simp only[bk];omega)]
  rfl
 |cons z es=>rfl
@[simp] theorem fH(f:Nat)(es:List (List V)):AG (f+1) (sl es)=es.all fun e=>e.all (AG f):=by cases es<;>rfl
@[simp] theorem A7J(es:List (List V)):weakN (sl es)=.list false es:=by cases es<;>rfl
@[simp] theorem A7K(es:List (List V)):weakM (sl es)=.list false es:=by cases es<;>rfl
@[simp] theorem BBF(es:List (List V)):weakV (sl es)=sl es:=by cases es<;>rfl
@[simp] theorem A7L(es:List (List V)):weakC (sl es)=sl es:=by cases es<;>rfl
@[simp] theorem AZI(es:List (List V)):A7 (sl es)=[sl es]:=by cases es<;>rfl
@[simp] theorem AZJ(es:List (List V)):BD (sl es)=true:=by cases es<;>rfl
@[simp] theorem AZK(k γ:Nat)(es:List (List V)):A7 (pv k γ es)=[pv k γ es]:=by cases es<;>rfl
@[simp] theorem AZL(k γ:Nat)(es:List (List V)):BD (pv k γ es)=true:=by cases es<;>rfl
@[simp] theorem AUF(es:List (List V)):elemsOf s (sl es)=some es:=by cases es<;>rfl
@[simp] theorem AZM(f:Nat)(es:List (List V)):A1 s (f+1) (sl es)=some (sl es):=by cases es<;>rfl
@[simp] theorem AZN(es:List (List V)):HC (some (sl es))=[]:=by cases es<;>rfl
@[simp] theorem AZO(es:List (List V)):KU (some (sl es))=[]:=by cases es<;>rfl
def sH(P:cq)(e:cj)(d c:Nat)(fr:Fr)(s:St)(xv:V)(ys:List (List V)):Option (XS×AK):=match I3 xv ys with
 |some es=>if es.all (fun y=>y.length==P.cellsOf e)=true/\BZ P e es.length ys=true then some (⟨c+1,(d,true,.vec s.up.length d c (es.length+ys.length))::fr,s.put s.up.length d c (.vec e (es++ys))⟩,[(s.up.length,d),(s.up.length,d+FE)]) else none
 |none=>match xv with
  |.vec l q γ n=>wp [(l,q),(l,q+FE)] (apW P e d c fr s l q γ n ys (RA n ys (s.get l q)))
  |_=>none
def ad4(P:cq)(e:cj)(d c:Nat)(fr:Fr)(s:St)(xv:V):Option (List (List V))->Option (XS×AK)
 |some ys=>sH P e d c fr s xv ys
 |none=>none
@[simp] theorem AGP(e:cj)(d c:Nat)(xv:V)(ys:List (List V)):ad4 P e d c fr s xv (some ys)=sH P e d c fr s xv ys:=rfl
def ad3(P:cq)(d c:Nat)(fr:Fr)(s:St):Option (Option Nat×cj)->Option V->Option V->Option (XS×AK)
 |some (none,e),some xv,some yv=>ad4 P e d c fr s xv (elemsOf s yv)
 |_,_,_=>none
@[simp] theorem AGQ(d c:Nat)(e:cj)(xv yv:V):ad3 P d c fr s (some (none,e)) (some xv) (some yv)=ad4 P e d c fr s xv (elemsOf s yv):=rfl
@[simp] theorem AOR(b:Bool)(es:List (List V)):pT (.list b es)=some es:=rfl
@[simp] theorem AUG:pT .nil=some []:=rfl
@[simp] theorem AZP(es:List (List V)):pT (sl es)=some es:=by cases es<;>rfl
@[simp] theorem AZQ(d:Tmp)(c:Nat)(x y:ck)(T:cj):DP P E (some d) (.app [x,y] [T,T]) ⟨c,fr,s⟩=ad3 P d c fr s (BO P T) (CI fr x) (CI fr y):=by
 show xAppD P (some d) [x,y] [T,T] _=_;unfold xAppD xAppG;simp only[Nat.beq_refl];cases hT:BO P T with
 |none=>cases CI fr x<;>cases CI fr y<;>rfl
 |some p=>
  obtain⟨k,e⟩:=p
  cases k with
  |some k=>cases CI fr x<;>cases CI fr y<;>rfl
  |none=>
   cases CI fr x with
   |none=>rfl
   |some xv=>
    cases CI fr y with
    |none=>rfl
    |some yv=>
     simp only[AGQ]
     cases elemsOf s yv with
     |none=>rfl
     |some ys=>
      simp only[AGP,sH]
      cases I3 xv ys with
      |some es=>
       simp only[ifB,bj,bq]
       by_cases hC:es.all (fun y=>y.length==P.cellsOf e)=true/\BZ P e es.length ys=true
       ·rw[if_pos hC,if_pos hC]
       ·rw[if_neg hC,if_neg hC]
      |none=>
       simp only
       unfold mL
       cases xv with
       |vec l q γ n=>
        simp only
        cases RA n ys (s.get l q)with
        |none=>rfl
        |some z=>
         obtain⟨γ',r⟩:=z
         cases r with
         |vec W es=>
          simp only[ifB,bj,bq,UD,bh,and_assoc]
          by_cases hC:γ'=γ/\W=e/\n=es.length/\es.all (fun y=>y.length==P.cellsOf e)=true/\BZ P e es.length ys=true
          ·rw[if_pos hC,if_pos hC];rfl
          ·rw[if_neg hC,if_neg hC];rfl
         |_=>rfl
       |_=>rfl
@[simp] theorem BFT(e k c γ:Nat)(loc:AA)(es:List (List V))(y:List V)(ys:List (List V))(hl:AA.get loc k=(pl k γ e es).get k)(h1:es.all (fun y=>y.length==P.cellsOf e)=true)(h2:BZ P e es.length (y::ys)=true) :
  sH P e k c fr ⟨[],loc⟩ (pv k γ es) (y::ys)=some (⟨c+1,(k,true,pv k c (es++y::ys))::fr,⟨[],(k,c,.vec e (es++y::ys))::loc⟩⟩,[(0,k),(0,k+FE)]):=by
 cases es with
 |nil=>
  simp only[bk]at h2
  simp[sH,I3,h2,pv]
 |cons z es=>
  have hl:AA.get loc k=some (γ,.vec e (z::es)):=by rw[hl];simp
  simp only[pv,sH,I3,AGN,bk,if_true,hl,nT,U4,UD,true_and,h1,h2]
  simp[Nat.add_comm,Nat.add_left_comm]
end Go.Pg
namespace Go.Pg
variable {P:cq}{E:XE}{st:XS}{fr:Fr}{s:St}
theorem sI{α:Type}(x:α):B5 [x]=some ([],x):=rfl
def un1{α:Type}(x:α):Option (List α×α)->Option (List α×α)
 |some (a,b)=>some (x::a,b)
 |none=>none
@[simp] theorem A7M{α:Type}(x:α)(a:List α)(b:α):un1 x (some (a,b))=some (x::a,b):=rfl
theorem W2{α:Type}(x y:α)(l:List α):B5 (x::y::l)=un1 x (B5 (y::l)):=by simp only[B5];unfold un1;cases B5 (y::l)<;>rfl
attribute [simp] sI W2
def UG(d:Option Tmp)(fr:Fr)(c:Nat)(r:V):Option (List AA×AA)->Option XS
 |some (u,l)=>some ⟨c,putD fr d true r,⟨u,l⟩⟩
 |none=>none
@[simp] theorem AZR(d:Tmp)(c:Nat)(r:V)(u:List AA)(l:AA):UG (some d) fr c r (some (u,l))=some ⟨c,(d,true,r)::fr,⟨u,l⟩⟩:=rfl
@[simp] theorem BBG(c:Nat)(r:V)(u:List AA)(l:AA):UG none fr c r (some (u,l))=some ⟨c,fr,⟨u,l⟩⟩:=rfl
def nW(d:Option Tmp)(fr:Fr)(st:XS):Option V->Option XS
 |some r=>UG d fr st.c r (B5 (st.s.up.map (AJ st.s)))
 |none=>none
@[simp] theorem AZS(d:Option Tmp)(c:Nat)(fr':Fr)(up:List AA)(loc:AA)(r:V):nW d fr ⟨c,fr',⟨up,loc⟩⟩ (some r)=UG d fr c r (B5 (up.map (AJ ⟨up,loc⟩))):=rfl
def clX(s:St):Option V->Option V
 |some r=>A1 s 4 r
 |none=>none
@[simp] theorem A7N(r:V):clX s (some r)=A1 s 4 r:=rfl
def bT(P:cq)(d:Option Tmp)(fr:Fr)(rs:List ResultVar)(r:Option (Exit×XS)):Option XS:=match r with
 |some (.ret,st)=>nW d fr st (clX st.s (F0 P rs st.fr st.s))
 |some (.normal,st)=>nW d fr st (clX st.s (F0 P rs st.fr st.s))
 |_=>none
@[simp] theorem AGR(d:Option Tmp)(rs:List ResultVar):bT P d fr rs (some (.ret,st))=nW d fr st (clX st.s (F0 P rs st.fr st.s)):=rfl
@[simp] theorem nX(d:Option Tmp)(rs:List ResultVar):bT P d fr rs (some (.normal,st))=nW d fr st (clX st.s (F0 P rs st.fr st.s)):=rfl
theorem nY{A:Ann}{kn:CF0}{n:Nat}{f:cd}{fn:Func}{code:cx}{args:List V}(hf:P.funcs[f]? = some fn)(hb:fn.body=some code)(hs:bn args.length fn.ntmps=true)(hcl:(args.all (AG 9)&&!(BQ P f))=false)(d:Option Tmp)(c:Nat)(fr:Fr)(up:List AA)(loc:AA) :
  HQ (BL P A kn n) d ⟨c,fr,⟨up,loc⟩⟩ f args=bT P d fr fn.results.toList (AF P A kn n fn.ntmps code ⟨c,AD 0 args,⟨up++[loc],[]⟩⟩):=by
 show(match aI P kn (AF P A kn n) f args ⟨c,fr,⟨up,loc⟩⟩ with
  |some (r,st')=>some (⟨st'.c,putD st'.fr d true r,st'.s⟩:XS)
  | none=>none)=_
 unfold aI
 rw[hcl]
 unfold eQ WZ mS
 rw[hf]
 simp only[hb,hs]
 generalize AF P A kn n fn.ntmps code ⟨c,AD 0 args,⟨up++[loc],[]⟩⟩=q
 have aux:∀st:XS,(match(match(match zC P fn.results.toList st with
   |some (r,c,up)=>match B5 up with
    |some (u,l)=>some (r,(⟨c,fr,⟨u,l⟩⟩:XS))
    |none=>none
   | none=>none:Option (V×XS))with
   |some r=>some r
   | none=>none:Option (V×XS))with
  |some (r,st')=>some (⟨st'.c,putD st'.fr d true r,st'.s⟩:XS)
  | none=>none)=nW d fr st (clX st.s (F0 P fn.results.toList st.fr st.s)):=fun st=>by
  unfold zC clX
  cases F0 P fn.results.toList st.fr st.s with
  |none=>rfl
  |some r=>
   cases h:A1 st.s 4 r with
   |none=>simp[nW,h]
   |some r'=>
    simp only[h,nW]
    cases B5 (st.s.up.map (AJ st.s))with
    |none=>rfl
    |some z=>rfl
 cases q with
 |none=>rfl
 |some q=>
  obtain⟨e,st⟩:=q
  have:=aux st
  cases e with
  |ret=>simp only[AGR,<-this];cases zC P fn.results.toList st with
   |none=>rfl
   |some z=>
    obtain⟨r,c,up⟩:=z
    simp only
    cases B5 up<;>rfl
  |normal=>simp only[nX,<-this];cases zC P fn.results.toList st with
   |none=>rfl
   |some z=>
    obtain⟨r,c,up⟩:=z
    simp only
    cases B5 up<;>rfl
  |_=>rfl
theorem A5{A:Ann}{kn:CF0}{n:Nat}{f:cd}{fn:Func}{code:cx}{args:List V}(hf:P.funcs[f]? = some fn)(hb:fn.body=some code)(hs:bn args.length fn.ntmps=true)(hcl:args.all (AG 9)=false)(d:Option Tmp)(c:Nat)(fr:Fr)(up:List AA)(loc:AA) :
  HQ (BL P A kn n) d ⟨c,fr,⟨up,loc⟩⟩ f args=bT P d fr fn.results.toList (AF P A kn n fn.ntmps code ⟨c,AD 0 args,⟨up++[loc],[]⟩⟩) :=
 nY hf hb hs (by rw[hcl,Bool.false_and]) d c fr up loc
theorem wC{A:Ann}{kn:CF0}{n:Nat}{f:cd}{fn:Func}{code:cx}{args:List V}(hf:P.funcs[f]? = some fn)(hb:fn.body=some code)(hs:bn args.length fn.ntmps=true)(hh:BQ P f=true)(d:Option Tmp)(c:Nat)(fr:Fr)(up:List AA)(loc:AA) :
  HQ (BL P A kn n) d ⟨c,fr,⟨up,loc⟩⟩ f args=bT P d fr fn.results.toList (AF P A kn n fn.ntmps code ⟨c,AD 0 args,⟨up++[loc],[]⟩⟩) :=
 nY hf hb hs (by rw[hh,Bool.not_true,Bool.and_false]) d c fr up loc
@[simp] theorem AUI(f l k g o:Nat):AG (f+1) (.ptr l k g o)=false:=rfl
@[simp] theorem AUJ(f l k g o:Nat):AG (f+1) (.vec l k g o)=false:=rfl
@[simp] theorem AZT(f l k g:Nat):AG (f+1) (.mp l k g)=false:=rfl
@[simp] theorem A7O(l k g o:Nat):weakV (.ptr l k g o)=.ptr l k g o:=rfl
@[simp] theorem A7P(l k g o:Nat):weakV (.vec l k g o)=.vec l k g o:=rfl
@[simp] theorem A7Q(cs:List V):weakV (.ref cs)=.ref cs:=rfl
@[simp] theorem BFV(d c:Nat)(f:cd)(x y:List V):bx1 d c fr s (some (.fn f x y))=some ⟨c+1,(d,true,.ptr s.up.length d c 0)::fr,s.put s.up.length d c (.box [.fn f x y])⟩:=rfl
@[simp] theorem BBH(d c:Nat)(l k g o:Nat):bx1 d c fr s (some (.ptr l k g o))=some ⟨c+1,(d,true,.ptr s.up.length d c 0)::fr,s.put s.up.length d c (.box [.ptr l k g o])⟩:=rfl
@[simp] theorem BFW(d c:Nat)(es:List (List V)):bx1 d c fr s (some (sl es))=some ⟨c+1,(d,true,.ptr s.up.length d c 0)::fr,s.put s.up.length d c (.box [sl es])⟩:=by cases es<;>rfl
@[simp] theorem F5:AJ s []=[]:=rfl
@[simp] theorem A4(k g:Nat)(r:AX)(L:AA):AJ s ((k,g,r)::L)=(k,g,CG s r)::AJ s L:=rfl
def sr1(r:AX):Option (List V)->AX
 |some ds=>.box ds
 |none=>r
@[simp] theorem A7R(r:AX)(ds:List V):sr1 r (some ds)=.box ds:=rfl
theorem E6(cs:List V):CG s (.box cs)=sr1 (.box cs) (HM (BV s) cs):=by unfold CG B7 sr1;simp only;cases HM (BV s) cs<;>rfl
attribute [simp] E6
theorem sJ(f:V->Option V):HM f []=some []:=rfl
theorem nZ(f:V->Option V)(v:V)(l:List V):HM f (v::l)=mc2 (f v) (HM f l):=by
 simp only[HM];cases f v with
 |none=>rfl
 |some x=>cases HM f l<;>rfl
attribute [simp] sJ nZ
@[simp] theorem AOS(k:cz)(n:Int):BV s (.int k n)=some (.int k n):=rfl
@[simp] theorem ALM(b:Bool):BV s (.bool b)=some (.bool b):=rfl
@[simp] theorem ALN(b:Bool)(es:List (List V)):BV s (.list b es)=some (.list b es):=rfl
@[simp] theorem AOT:BV s .nil=some .nil:=rfl
@[simp] theorem AUK(es:List (List V)):BV s (sl es)=some (sl es):=by cases es<;>rfl
@[simp] theorem AUL(f:cd)(x y:List V):BV s (.fn f x y)=A1 s 4 (.fn f x y):=rfl
@[simp] theorem AOU(l k g o:Nat):BV s (.ptr l k g o)=A1 s 4 (.ptr l k g o):=rfl
@[simp] theorem oA(l k g o:Nat):BV s (.vec l k g o)=A1 s 4 (.vec l k g o):=rfl
@[simp] theorem AOV(cs:List V):BV s (.agg cs)=A1 s 4 (.agg cs):=rfl
@[simp] theorem AZU(f:Nat)(g:cd)(x y:List V):A1 s (f+1) (.fn g x y)=fn2 g (QL (A1 s f) x) (QL (A1 s f) y):=by simp only[A1,UF,fn2];cases QL (A1 s f) x<;>cases QL (A1 s f) y<;>rfl
def cp1(f:List V->Option (List V))(g off:Nat):Option (Nat×AX)->Option V
 |some (g',.box cs)=>if g'=g then(f cs).map fun ds=>.ref (ds.drop off) else none
 |_=>none
@[simp] theorem AUM(f:Nat)(up:List AA)(loc:AA)(l k g off:Nat):A1 ⟨up,loc⟩ (f+1) (.ptr l k g off)=if l=up.length then cp1 (QL (A1 ⟨up,loc⟩ f)) g off (loc.get k) else some (.ptr l k g off):=by
 simp only[A1,UF];split
 ·cases loc.get k with
  |none=>rfl
  |some z=>obtain⟨g',r⟩:=z;cases r<;>rfl
 ·rfl
def ow3(d c:Nat)(fr:Fr)(s:St):Option V->Option XS
 |some r=>some ⟨c+1,(d,true,r)::fr,s.put s.up.length d c .dead⟩
 |none=>none
@[simp] theorem A7S(d c:Nat)(r:V):ow3 d c fr s (some r)=some ⟨c+1,(d,true,r)::fr,s.put s.up.length d c .dead⟩:=rfl
theorem ALO:CG s .dead=.dead:=rfl
attribute [simp] ALO
end Go.Pg
theorem Go.Pg.qNz (m:Nat)(h:0<m):∃k,m=k+1:=⟨m-1,by omega⟩
