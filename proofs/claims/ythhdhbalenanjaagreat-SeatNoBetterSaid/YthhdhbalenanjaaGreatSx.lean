/- Operations of a region with all that hangs on the region alone worked out; running them one after another. No program in sight. -/
import Derived.Test.YthhdhbalenanjaaGreatQ2
namespace Go.Pg
variable {P:Program}{E:XE}
inductive IK where
 |mv (x:Operand)
 |bin (op:BinOp) (T:TypeId) (x y:Operand)
 |fa (T:TypeId) (x:Operand) (f:Nat)
 |ld (T:TypeId) (x:Operand)
 |ldz (T:TypeId) (x:Operand)
 |pick (c a b:Operand)
 |build (T:TypeId) (ps:List (Nat×Operand))
 |buildS (T:TypeId) (n:Nat) (ps:List (Nat×Operand))
 |oth (op:Op)
 |alloc (T:TypeId)
 |box (x:Operand)
 |mkM (r:Option Operand)
 |mkS (T:TypeId) (x y:Operand)
 |sto (T:TypeId) (x y:Operand)
 |upd (T:TypeId) (x i y:Operand)
 |call (own:Bool) (tk:Option Tmp) (f:Operand) (args:List Operand)
 |app (args:List Operand) (Ts:List TypeId)
 |clr (args:List Operand) (Ts:List TypeId)
 |cpy (args:List Operand) (Ts:List TypeId)
def kL (op : Op) : Oper := { dst := none, op := op, type := 0, pos := "", after := #[], guard := none }
def AKK(all:List Oper):List Operand→Option Tmp
 |[]=>none
 |x::r=>match x with
  |.tmp t=>cond (APC all t) (some t) (AKK all r)
  |_=>AKK all r
def OY(all:List Oper)(o:Oper):IK:=match o.op with
 |.move x=>.mv x
 |.assign x=>.mv x
 |.binOp op T x y _=>.bin op T x y
 |.fieldAddr T x f=>.fa T x f
 |.load T x=>.ld T x
 |.pick c a b=>.pick c a b
 |.build T ps=>.build T ps.toList
 |.buildSlice T n ps=>.buildS T n ps.toList
 |.alloc T=>.alloc T
 |.box _ x=>.box x
 |.makeMap _ r=>.mkM r
 |.makeSlice T x y=>.mkS T x y
 |.store T x y=>.sto T x y
 |.mapUpdate T x i y=>.upd T x i y
 |.call c=>match c.callee with
  |.value f=>.call (EB all o) (AKK all c.args.toList) f c.args.toList
  |.builtin .append=>.app c.args.toList c.argTypes.toList
  |.builtin .clear=>.clr c.args.toList c.argTypes.toList
  |.builtin .copy=>.cpy c.args.toList c.argTypes.toList
  |_=>.oth o.op
 |op=>.oth op
structure I5 where
 g:Option (Tmp×Bool)
 d:Option Tmp
 k:IK
def comp(all:List Oper)(o:Oper):I5:=⟨MC all o,o.dst,OY all o⟩
def AKL:IK→IK
 |.ld T x=>.ldz T x
 |k=>k
def kM(all:List Oper)(o:Oper):I5:=⟨MC all o,o.dst,cond (zB all o) (AKL (OY all o)) (OY all o)⟩
noncomputable def DY(d:Option Tmp)(st:XS)(r:Option V):Option XS:=match r with
 |some v=>some ⟨st.c,putD st.fr d true v,st.s⟩
 |none=>none
noncomputable def ATX(tk:Option Tmp)(st:XS):XS:=match tk with
 |none=>st
 | some t=>match(match BE st.fr t with
   |some (true,.vec l q γ n)=>match st.s.get l q with
    |some (γ',.vec _ es)=>Bool.rec none (some ⟨st.c,(t,true,.list false (es.take n))::st.fr,st.s.put l q γ .dead⟩) (Nat.beq γ' γ&&Nat.ble n es.length&&Nat.blt γ st.c)
    |_=>none
   | _=>none:Option XS)with
  |some st1=>st1
  |none=>st
noncomputable def DD(P:Program)(E:XE)(d:Option Tmp)(k:IK)(st:XS):Option XS:=match k with
 |.mv x=>DY d st (CO st.fr x)
 |.bin op T x y=>DY d st (wC P st.fr op T x y)
 |.fa T x f=>DY d st (xFA P st.fr T x f)
 |.ld T x=>DY d st (ME P st.fr st.s T x)
 |.ldz T x=>DY d st (ME P st.fr st.s T x)
 |.pick c a b=>DY d st (rV st.fr c a b)
 |.build T ps=>DY d st (TG P st.fr T ps)
 |.buildS T n ps=>DY d st (OD P st.fr T n ps)
 |.oth op=>DY d st (JR P (kL op) st.s (CO st.fr))
 |.alloc T=>QA P d T st
 |.box x=>rR d x st
 |.mkM r=>ADZ d r st
 |.mkS T x y=>Y0 P d T x y st
 |.sto T x y=>J4 P d T x y st
 |.upd T x i y=>AD0 P d T x i y st
 |.call own tk f args=>dY E own d f args (ATX tk st)
 |.app args Ts=>xAppend P d args Ts st
 |.clr args Ts=>mC P d args Ts st
 |.cpy args Ts=>AAR P d args Ts st
noncomputable def opI(P:Program)(E:XE)(i:I5)(st:XS):Option XS:=match gdX st.fr i.g with
 |some true=>DD P E i.d i.k st
 |some false=>some (IY i.d st)
 |none=>none
noncomputable def opO(P:Program)(E:XE)(i:I5)(r:Option XS):Option XS:=match r with
 |some st=>opI P E i st
 |none=>none
noncomputable def QL(P:Program)(E:XE):List I5→Option XS→Option XS
 |[],r=>r
 |i::l,r=>QL P E l (opO P E i r)
theorem fH(all:List Oper)(st:XS):∀(xs:List Operand),(match OG all st xs with
  |some st1=>st1
  | none=>st)=ATX (AKK all xs) st
 |[]=>rfl
 |x::r=>by
  unfold OG AKK;cases x with
  |tmp t=>
   simp only
   cases APC all t with
   |false=>exact fH all st r
   |true=>rfl
  |_=>exact fH all st r
theorem BC0{o:Oper}{st:XS}:AIY P (fun _=>false) o st=none:=by unfold AIY;split<;>rfl
theorem AKM(hl:E.lit=fun _=>false)(all:List Oper)(o:Oper)(st:XS):opX P E all o st=opI P E (comp all o) st:=by
 unfold opX opI;rw[hl];simp only[BC0];have:(match AIZ all o st with
   |some st1=>SA P E (EB all) o st1
   | none=>SA P E (EB all) o st)=DD P E o.dst (OY all o) st:=by
  have ht:∀(r:Option XS),(match r with
   |some st1=>SA P E (EB all) o st1
   | none=>SA P E (EB all) o st)=SA P E (EB all) o (match r with
   |some st1=>st1
   | none=>st):=fun r=>by cases r <;> rfl
  rw[ht]
  obtain⟨d,op,T,pos,af,gd⟩:=o
  cases op with
  |call c=>
   obtain⟨cal,args,Ts⟩:=c
   cases cal with
   |value f=>
    show SA P E _ _ (match OG all st args.toList with|some st1=>st1|none=>st)=_
    rw[fH]
    rfl
   |builtin b=>cases b<;>rfl
   |_=>rfl
  |_=>rfl
 show _=(match gdX st.fr (MC all o)with
  |some true=>DD P E o.dst (OY all o) st
  |some false=>some (IY o.dst st)
  | none=>none)
 cases gdX st.fr (MC all o)with
 |none=>rfl
 |some b=>
  cases b with
  |false=>rfl
  |true=>exact this
theorem JE:∀(l:List I5),QL P E l none=none
 |[]=>rfl
 |_::l=>JE l
theorem ABL(hl:E.lit=fun _=>false)(all:List Oper):∀(l:List Oper) (st:XS),mG P E all l st=QL P E (l.map (comp all)) (some st)
 |[],st=>rfl
 |o::l,st=>by
  simp only[mG,List.map_cons,QL,opO];rw[AKM hl];cases opI P E (comp all o) st with
  |none=>exact(JE _).symm
  |some st'=>exact ABL hl all l st'
def II(P:Program)(k:IK)(r:Operand→Option V):AN:=match k with
 |.ld T x=>BU (Nat.beq (P.cellsOf T) 1) (r x)
 |.app xs _=>K5 r xs
 |.oth op=>E1 P (kL op) r
 |_=>[]
noncomputable def D3(P:Program)(E:XE)(d:Option Tmp)(k:IK)(st:XS):Option (XS×AN):=match k with
 |.mv x=>VZ (DY d st (CO st.fr x))
 |.bin op T x y=>VZ (DY d st (wC P st.fr op T x y))
 |.fa T x f=>VZ (DY d st (xFA P st.fr T x f))
 |.ld T x=>VZ (DY d st (ME P st.fr st.s T x))
 |.ldz T x=>VZ (DY d st (ME P st.fr st.s T x))
 |.pick c a b=>VZ (DY d st (rV st.fr c a b))
 |.build T ps=>VZ (DY d st (TG P st.fr T ps))
 |.buildS T n ps=>VZ (DY d st (OD P st.fr T n ps))
 |.oth op=>VZ (DY d st (JR P (kL op) st.s (CO st.fr)))
 |.alloc T=>VZ (QA P d T st)
 |.box x=>VZ (rR d x st)
 |.mkM r=>VZ (ADZ d r st)
 |.mkS T x y=>VZ (Y0 P d T x y st)
 |.sto T x y=>AI1 P d T x y st
 |.upd ..=>none
 |.call own _ f args=>Bool.rec (VZ (dZ E.c0 d f args st)) (VZ (IC E.co d f args st)) own
 |.app args Ts=>xAppD P d args Ts st
 |.clr ..=>none
 |.cpy ..=>none
def C5:IK→Bool
 |.alloc _|.box _|.mkM _|.mkS ..|.sto ..|.app ..=>true
 |.call own ..=>own
 |_=>false
noncomputable def XZ(P:Program)(E:XE)(i:I5)(st:XS):Option (XS×AN):=match gdX st.fr i.g with
 |some true=>D3 P E i.d i.k st
 |some false=>Bool.rec (some (IY i.d st,[])) none (C5 i.k)
 |none=>none
noncomputable def tA(P:Program)(E:XE)(i:I5)(r:Option (XS×AN×AN)):Option (XS×AN×AN):=match r with
 |some (st,rd,wr)=>match XZ P E i st with
  |some (st',w)=>some (st',II P i.k (CO st.fr)++rd,w++wr)
  |none=>none
 |none=>none
noncomputable def X0(P:Program)(E:XE):List I5→Option (XS×AN×AN)→Option (XS×AN×AN)
 |[],r=>r
 |i::l,r=>X0 P E l (tA P E i r)
noncomputable def fI(r:Option (XS×AN×AN)):Option XS:=match r with
 |some (st,rd,wr)=>Bool.rec none (some st) (wr.all fun p=>!(rd.contains p))
 |none=>none
structure tB where
 new:List Tmp
 ph:List I5
 sq:List I5
noncomputable def nA(new:List Tmp)(st:XS):Bool:=new.all fun d=>(st.s.loc.get d).isNone
noncomputable def AKN(new:List Tmp)(r:Option XS):Option (XS×AN×AN):=match r with
 |some st=>Bool.rec none (some (st,[],[])) (nA new st)
 |none=>none
noncomputable def X3(P:Program)(E:XE):List tB→Option XS→Option XS
 |[],r=>r
 |p::S,r=>X3 P E S (QL P E p.sq (fI (X0 P E p.ph (AKN p.new r))))
def kN(l:List Oper)(R:List Nat):List I5:=R.filterMap fun i=>(l[i]?).map (comp l)
def kO(l:List Oper)(R:List Nat):List I5:=R.filterMap fun i=>(l[i]?).map (kM l)
def ABM(l:List Oper)(R:List Nat):List Tmp:=R.filterMap fun i=>match l[i]? with
 |some o=>cond (kA (EB l) o) o.dst none
 |none=>none
def ABN(l:List Oper)(p:List Nat×List Nat):tB:=⟨ABM l p.1,kO l p.1,kN l p.2⟩
def inB(l:List Oper)(S:ZD):Bool:=S.all fun p=>p.1.all (fun i=>Nat.blt i l.length)&&p.2.all (fun i=>Nat.blt i l.length)
theorem AEO(all:List Oper)(o:Oper)(st:XS):mI P E (EB all) o st=D3 P E o.dst (OY all o) st:=by
 obtain⟨d,op,T,pos,af,gd⟩:=o;cases op with
 |call c=>
  obtain⟨cal,args,Ts⟩:=c
  cases cal with
  |builtin b=>cases b<;>rfl
  |_=>rfl
 |_=>rfl
theorem AY9(all:List Oper)(o:Oper)(r:Operand→Option V):E1 P o r=II P (OY all o) r:=by
 obtain⟨d,op,T,pos,af,gd⟩:=o;cases op with
 |call c=>
  obtain⟨cal,args,Ts⟩:=c
  cases cal with
  |builtin b=>cases b<;>rfl
  |_=>rfl
 |_=>rfl
theorem BC1(all:List Oper)(o:Oper):(kA (EB all) o||kW o||kP o)=C5 (OY all o):=by
 obtain⟨d,op,T,pos,af,gd⟩:=o;cases op with
 |call c=>
  obtain⟨cal,args,Ts⟩:=c
  cases cal with
  |builtin b=>cases b<;>rfl
  |value f=>simp[kA,kW,kP,C5,OY]
  |_=>rfl
 |_=>rfl
theorem AQA(all:List Oper)(o:Oper)(st:XS):wI P E all o st=XZ P E (comp all o) st:=by unfold wI XZ;rw[AEO,BC1];rfl
theorem xQ(d:Option Tmp)(k:IK)(st:XS):D3 P E d (AKL k) st=D3 P E d k st:=by cases k<;>rfl
theorem AQB(k:IK):C5 (AKL k)=C5 k:=by cases k<;>rfl
theorem AZA(all:List Oper)(o:Oper)(st:XS):XZ P E (kM all o) st=XZ P E (comp all o) st:=by
 unfold kM comp;cases zB all o with
 |false=>rfl
 |true=>
  show XZ P E ⟨MC all o,o.dst,AKL (OY all o)⟩ st=_
  unfold XZ
  simp only[xQ,AQB]
theorem AZB(all:List Oper)(o:Oper)(r:Operand→Option V):cond (zB all o) [] (E1 P o r)=II P (kM all o).k r:=by
 unfold kM;cases hz:zB all o with
 |false=>exact AY9 all o r
 |true=>
  obtain⟨T,x,ho⟩:=ATC hz
  show[]=II P (AKL (OY all o)) r
  unfold OY
  rw[ho]
  rfl
theorem RB:∀(l:List I5),X0 P E l none=none
 |[]=>rfl
 |_::l=>RB l
theorem AKO(l:List Oper):∀(R:List Nat) (st:XS) (rd wr:AN),R.all (fun i=>Nat.blt i l.length)=true→phX P E l R st rd wr=X0 P E (kO l R) (some (st,rd,wr))
 |[],st,rd,wr,_=>rfl
 |i::R,st,rd,wr,h=>by
  simp only[List.all_cons,Bool.and_eq_true,Nat.blt_eq]at h;have hi:=List.getElem?_eq_getElem h.1;have hp:kO l (i::R)=kM l l[i]::kO l R:=by simp[kO,hi]
  rw[hp];simp only[phX,hi,X0,tA,AQA,AZA];cases XZ P E (comp l l[i]) st with
  |none=>exact(RB _).symm
  |some q=>
   obtain⟨st',w⟩:=q
   simp only
   rw[AKO l R _ _ _ h.2,AZB l]
theorem AKP(hl:E.lit=fun _=>false)(l:List Oper):∀(R:List Nat) (st:XS),R.all (fun i=>Nat.blt i l.length)=true→sqX P E l R st=QL P E (kN l R) (some st)
 |[],st,_=>rfl
 |i::R,st,h=>by
  simp only[List.all_cons,Bool.and_eq_true,Nat.blt_eq]at h;have hi:=List.getElem?_eq_getElem h.1;have hp:kN l (i::R)=comp l l[i]::kN l R:=by simp[kN,hi]
  rw[hp];simp only[sqX,hi,QL,opO,AKM hl];cases opI P E (comp l l[i]) st with
  |none=>exact(JE _).symm
  |some st'=>exact AKP hl l R st' h.2
theorem NC:∀(S:List tB),X3 P E S none=none
 |[]=>rfl
 |p::S=>by simp only[X3,AKN,RB,fI,JE];exact NC S
theorem tC(l:List Oper)(st:XS):∀(R:List Nat),dO (EB l) l R st.s.loc=nA (ABM l R) st
 |[]=>rfl
 |i::R=>by
  have ih:=tC l st R;unfold dO nA ABM at *;simp only[List.all_cons,List.filterMap_cons,ih];cases hi:l[i]? with
  |none=>simp
  |some o=>
   simp only
   cases hk:kA (EB l) o with
   |false=>simp
   |true=>
    cases hd:o.dst with
    |none=>simp
    |some d=>simp
theorem ABO(hl:E.lit=fun _=>false)(l:List Oper):∀(S:ZD) (st:XS),inB l S=true→AD4 P E l S st=X3 P E (S.map (ABN l)) (some st)
 |[],st,_=>rfl
 |p::S,st,h=>by
  simp only[inB,List.all_cons,Bool.and_eq_true]at h;obtain⟨⟨h1,h2⟩,h3⟩:=h;simp only[AD4,List.map_cons,X3,ABN,AKN,tC];cases nA (ABM l p.1) st with
  |false=>
   simp only[RB,fI,JE]
   exact(NC _).symm
  |true=>
   simp only[AKO l _ _ _ _ h1]
   cases X0 P E (kO l p.1) (some (st,[],[]))with
   |none=>simp only[fI,JE];exact(NC _).symm
   |some q=>
    obtain⟨st1,rd,wr⟩:=q
    simp only[fI]
    cases (wr.all fun p=>!rd.contains p)with
    |false=>simp only[JE];exact(NC _).symm
    |true=>
     simp only[AKP hl l _ _ h2]
     cases QL P E (kN l p.2) (some st1)with
     |none=>exact(NC _).symm
     |some HP=>exact ABO hl l S HP h3
noncomputable def BN3(P:Program)(d:Option Tmp)(k:IK)(st:XS):Option XS:=match k with
 |.mv x=>DY d st (CO st.fr x)
 |.bin op T x y=>DY d st (wC P st.fr op T x y)
 |.fa T x f=>DY d st (xFA P st.fr T x f)
 |.ld T x=>DY d st (ME P st.fr st.s T x)
 |.ldz T x=>DY d st (ME P st.fr st.s T x)
 |.pick c a b=>DY d st (rV st.fr c a b)
 |.build T ps=>DY d st (TG P st.fr T ps)
 |.buildS T n ps=>DY d st (OD P st.fr T n ps)
 |.oth op=>DY d st (JR P (kL op) st.s (CO st.fr))
 |_=>none
noncomputable def BN4(E:XE)(d:Option Tmp)(k:IK)(st:XS):Option XS:=match k with
 |.call _ _ f args=>cY1 E d st (CO st.fr f) (F3 (CO st.fr) args)
 |_=>none
noncomputable def BN5(P:Program)(E:XE)(b:Bool)(i:I5)(st:XS):Option XS:=match gdX st.fr i.g with
 |some true=>Bool.rec (AJT st (BN3 P i.d i.k ⟨st.c,st.fr,⟨[],[]⟩⟩)) (BN4 E i.d i.k st) b
 |_=>none
noncomputable def BN6(P:Program)(E:XE):List (Bool×I5)→Option XS→Option XS
 |[],r=>r
 | i :: l,r=>BN6 P E l (match r with
  |some st=>BN5 P E i.1 i.2 st
  | none=>none)
def BC2(l:List Oper)(e:Nat)(R:List Nat):List (Bool×I5):=R.filterMap fun i=>(l[i]?).map fun o=>(Nat.beq i e,comp l o)
def BSA(l:List Oper):List (Bool×I5):=(kB l).flatMap fun p=>BC2 l p.2 p.1
def okY(N:Nat)(l:List Oper):Bool:=ZU N (l.map (MC l)) (kB l) l&&(kB l).all fun p=>p.1.all fun i=>Nat.blt i l.length
inductive IR where
 |str (l:List I5)
 |drw (S:List tB)
 |cls (ks:List (Nat×Nat×Nat))
def ABP(P:Program)(ops:List Oper)(draw:Bool):IR:=cond draw (cond (ZG P ops) (.cls (JD ops)) (.drw ((gV ops).map (ABN ops)))) (.str (ops.map (comp ops)))
def okR(P:Program)(ops:List Oper)(draw:Bool):Bool:=cond draw (cond (ZG P ops) true (inB ops (gV ops))) true
noncomputable def IU(P:Program)(E:XE)(i:IR)(st:XS):Option XS:=match i with
 |.str l=>QL P E l (some st)
 |.drw S=>X3 P E S (some st)
 |.cls ks=>TJ P ks (some st)
end Go.Pg
namespace Go.Pg
variable {P:Program}{σ σ':Nat→Nat}{δ:Nat}{pre:List AA}{s:St}{fr:Fr}
abbrev Tr:=Option (List Nat×List Nat)
abbrev Ann:=Nat→Nat→Tr
noncomputable def CI(a:Tr)(st:XS):XS:=match a with
 |some p=>TH p.1 p.2 st
 |none=>st
theorem ND{a:Tr}{st:XS}(h:Bd st):LM st (CI a st):=by
 cases a with
 |none=>exact⟨Nat.le_refl _,h,rfl⟩
 |some p=>exact V1 h
theorem JK{a:Tr}{st:XS}:(CI a st).c=st.c:=by cases a<;>rfl
theorem LF{n N:Nat}{ρ:Option Nat}{c:Code}{K:Exit→Fr→St→Prop}{a:Tr}{st:XS}(h:BQ P n N ρ c K ((CI a st).fr.ren σ pre.length) ((CI a st).s.emb σ pre)):BQ P n N ρ c K (st.fr.ren σ pre.length) (st.s.emb σ pre):=by
 cases a with
 |none=>exact h
 |some p=>exact XM h
noncomputable def BC3(P:Program)(E:XE)(a:Tr)(l:List Oper)(draw:Bool)(st:XS):Option XS:=Bool.rec (mG P E l l (CI a st)) (Bool.rec (SD P E l (CI a st)) (TJ P (JD l) (some (CI a st))) (ZG P l)) draw
def isY:List Nat→Bool
 |k::_=>Nat.beq k 777
 |[]=>false
noncomputable def AKQ(P:Program)(E:XE)(N:Nat)(a:Tr)(l:List Oper)(draw:Bool)(us:List Nat)(st:XS):Option XS:=Bool.rec (BC3 P (cfU us E) a l draw st) (Bool.rec none (ABA P E N l (CI a st)) draw) (isY us)
noncomputable def BF(rec:gC)(body:Code)(a:Tr)(n:Nat):XS→Option (Exit×XS):=Nat.rec (motive:=fun _=>XS→Option (Exit×XS)) (fun _=>none) (fun _ ih st=>match rec body st with
 |some (.normal,st')=>ih (CI a st')
 | r=>r) n
def nB(id:Nat)(l:List Oper):Nat:=id+1000*l.length+1000000*(match l with
 |o::_=>match o.dst with
  |some d=>d
  |none=>0
 | []=>0)
def BW:Code→Nat
 |.region id ops _=>nB id ops.toList
 |.seq a _=>BW a
 |.block _ c=>BW c
 |.loop c=>BW c
 |.scope c=>BW c
 |_=>0
def AEP:Tr→List Nat
 |some p=>p.1
 |none=>[]
def OZ:Nat:=1000000000000000
def AEQ:Tr→List Nat
 |some p=>p.2
 |none=>[]
noncomputable def X4(P:Program)(E:XE)(A:Ann)(n N:Nat)(rec:gC):gC:=fun code st=>match code with
 |.region id ops draw=>OW (AKQ P E N (A N (nB id ops.toList)) ops.toList draw (AEQ (A N (nB id ops.toList+OZ))) (KI (AEP (A N (nB id ops.toList+OZ))) st))
 |.loop body=>BF rec body (A N (BW body)) n (CI (A N (BW body)) st)
 |c=>V2 P E n N rec c st
noncomputable def AE(P:Program)(A:Ann)(kn:CF0)(n:Nat):GU:=Nat.rec (motive:=fun _=>GU) (fun _ _ _=>none) (fun n ih N=>X4 P (AX2 P kn (fun _ _ _=>none) (fun _=>false) ih) A n N (ih N)) n
theorem AQC(hP:E2 P){E:XE}(hEE:K6 P E){a:Tr}{id:Nat}{ops:Array Oper}{draw:Bool}{N:Nat}(hN:FJ N (.region id ops draw)=true){st st':XS}(hx:BC3 P E a ops.toList draw st=some st')(hbd:Bd st):LM st st' ∧
  ∀(n:Nat) (ρ:Option Nat) (σ:Nat→Nat) (pre:List AA) (K:Exit→Fr→St→Prop),(∀σ',AX st.c σ σ'→K .normal (st'.fr.ren σ' pre.length) (st'.s.emb σ' pre))→BQ P n N ρ (.region id ops draw) K (st.fr.ren σ pre.length) (st.s.emb σ pre):=by
 obtain⟨l⟩:=ops
 have hT:=ND (a:=a) hbd
 have ext:∀{st'},LM (CI a st) st'→LM st st':=fun h=>⟨by have:=h.c;rwa [JK]at this,h.bd,h.n.trans hT.n⟩
 cases draw with
 |false=>
  simp only[FJ,cond_false,Bool.and_eq_true]at hN
  have hx:mG P E l l (CI a st)=some st':=hx
  obtain⟨hE,hs⟩:=mH hEE hT.bd hx
  refine⟨ext hE,fun n ρ σ pre K hk=>LF (a:=a) ?_⟩
  exact YU (l.map (MC l)) hN.1 (mA (VV hN.2)) (hs σ pre _ fun σ' ha=>hk σ' (by rwa [JK]at ha))
 |true=>
  simp only[FJ,cond_true]at hN
  cases hc:ZG P l with
  |true=>
   have hx:(Bool.rec (SD P E l (CI a st)) (TJ P (JD l) (some (CI a st))) (ZG P l):Option XS)=some st':=hx
   rw[hc]at hx
   obtain⟨hE,hs⟩:=APU (id:=id) hP hN hc hx hT.bd
   exact⟨ext hE,fun n ρ σ pre K hk=>LF (a:=a) (hs n ρ σ pre K fun σ' ha=>hk σ' (by rwa [JK]at ha))⟩
  |false=>
  have hx:(Bool.rec (SD P E l (CI a st)) (TJ P (JD l) (some (CI a st))) (ZG P l):Option XS)=some st':=hx
  rw[hc]at hx
  obtain⟨hE,hs⟩:=eW (id:=id) hP hEE hN hx hT.bd
  exact⟨ext hE,fun n ρ σ pre K hk=>LF (a:=a) (hs n ρ σ pre K fun σ' ha=>hk σ' (by rwa [JK]at ha))⟩
theorem AQD(hP:E2 P){E:XE}(hEE:K6 P E){a:Tr}{us:List Nat}{id:Nat}{ops:Array Oper}{draw:Bool}{N:Nat}(hN:FJ N (.region id ops draw)=true){st st':XS}(hx:AKQ P E N a ops.toList draw us st=some st')(hbd:Bd st):LM st st' ∧
  ∀(n:Nat) (ρ:Option Nat) (σ:Nat→Nat) (pre:List AA) (K:Exit→Fr→St→Prop),(∀σ',AX st.c σ σ'→K .normal (st'.fr.ren σ' pre.length) (st'.s.emb σ' pre))→BQ P n N ρ (.region id ops draw) K (st.fr.ren σ pre.length) (st.s.emb σ pre):=by
 unfold AKQ at hx
 cases hy:isY us with
 |false=>rw[hy]at hx;exact AQC hP (AX6 hEE _) hN hx hbd
 |true=>
  rw[hy]at hx
  cases draw with
  |false=>cases hx
  |true=>
   have hx:ABA P E N ops.toList (CI a st)=some st':=hx
   have hT:=ND (a:=a) hbd
   obtain⟨hE,hs⟩:=AJV hP hEE (id:=id) hx hT.bd
   refine⟨⟨by have:=hE.c;rwa [JK]at this,hE.bd,hE.n.trans hT.n⟩,fun n ρ σ pre K hk=>LF (a:=a) ?_⟩
   exact hs n ρ σ pre K fun σ' ha=>hk σ' (by rwa [JK]at ha)
theorem AKR{N:Nat}{rec:gC}(hrec:eE P N rec){body:Code}{a:Tr}(hN:FJ N body=true)(m:Nat){st st':XS}{e:Exit}(hx:BF rec body a m (CI a st)=some (e,st'))(hbd:Bd st):LM st st'∧(∀l,e≠.goto l) ∧
  ∀(n:Nat) (ρ:Option Nat) (σ:Nat→Nat) (pre:List AA) (K:Exit→Fr→St→Prop),(ρ=none∨GY body=true)→(∀σ',AX st.c σ σ'→K e (st'.fr.ren σ' pre.length) (st'.s.emb σ' pre))→BQ P n N ρ (.loop body) K (st.fr.ren σ pre.length) (st.s.emb σ pre):=by
 have up:∀{st st':XS},Bd st→LM (CI a st) st'→LM st st':=fun hbd h=>⟨by have:=h.c;rwa [JK]at this,h.bd,h.n.trans (ND hbd).n⟩
 have ext:∀(m:Nat) {st:XS},BF rec body a m (CI a st)=some (e,st')→Bd st→LM st st'∧(∀l,e≠.goto l):=by
  intro m;induction m with
  |zero=>intro st hx _;cases hx
  |succ m ih=>
   intro st hx hbd
   have hx:(match rec body (CI a st)with
    |some (.normal,st')=>BF rec body a m (CI a st')
    | r=>r)=some (e,st'):=hx
   have hT:=ND (a:=a) hbd
   split at hx
   ·rename_i st1 h1;obtain⟨hE,_,_⟩:=hrec _ _ _ _ h1 hT.bd hN;obtain⟨hE',hg⟩:=ih hx hE.bd;exact⟨up hbd ⟨Nat.le_trans hE.c hE'.c,hE'.bd,hE'.n.trans hE.n⟩,hg⟩
   ·obtain⟨hE,hg,_⟩:=hrec _ _ _ _ hx hT.bd hN;exact⟨up hbd ⟨hE.c,hE.bd,hE.n⟩,hg⟩
 obtain⟨hE,hg⟩:=ext m hx hbd
 refine⟨hE,hg,fun n ρ σ pre K hρ hk=>?_⟩
 refine jE (fun m fr s=>∃(st:XS) (σ:Nat→Nat),fr=st.fr.ren σ pre.length∧s=st.s.emb σ pre∧Bd st∧BF rec body a m (CI a st)=some (e,st')∧∀σ',AX st.c σ σ'→K e (st'.fr.ren σ' pre.length) (st'.s.emb σ' pre)) m ⟨st,σ,rfl,rfl,hbd,hx,hk⟩ ?_
 rintro m fr s ⟨st,σ,rfl,rfl,hbd,hx,hk⟩
 cases m with
 |zero=>cases hx
 |succ m=>
  have hx:(match rec body (CI a st)with
   |some (.normal,st')=>BF rec body a m (CI a st')
   | r=>r)=some (e,st'):=hx
  have hT:=ND (a:=a) hbd
  refine LF (a:=a) ?_
  split at hx
  ·rename_i st1 h1;obtain⟨hE,_,hC⟩:=hrec _ _ _ _ h1 hT.bd hN;refine hC n ρ σ pre _ hρ fun σ' ha=>?_;rw[JK]at ha;exact⟨m,Nat.lt_succ_self _,st1,σ',rfl,rfl,hE.bd,hx,fun σ'' ha'=>hk σ'' (ha.trans ha' (by have:=hE.c;rwa [JK]at this))⟩
  ·rename_i hne;obtain⟨hE,hg,hC⟩:=hrec _ _ _ _ hx hT.bd hN;refine hC n ρ σ pre _ hρ fun σ' ha=>?_;rw[JK]at ha;have:=hk σ' ha;cases e with
   |normal=>exact absurd hx (hne st')
   |_=>exact this
theorem nC(hP:E2 P){E:XE}(hEE:K6 P E){A:Ann}{N:Nat}{rec:gC}(hrec:eE P N rec)(m:Nat):eE P N (X4 P E A m N rec):=by
 intro code st e st' hx hbd hN;unfold X4 at hx;split at hx
 ·rename_i id ops draw;obtain⟨rfl,hx2⟩:=sT hx;have hT:=AA5 (AEP (A N (nB id ops.toList+OZ))) hbd;obtain⟨hE,hs⟩:=AQD hP hEE hN hx2 hT.bd;exact⟨⟨Nat.le_trans hT.c hE.c,hE.bd,hE.n.trans hT.n⟩,(by intro l h;cases h),fun n ρ σ pre K _ hk=>sM _ (hs n ρ σ pre K fun σ' ha=>hk σ' (by rwa [ATJ]at ha))⟩
 ·rename_i body;have hN:FJ N body=true:=hN;obtain⟨h1,h2,h3⟩:=AKR hrec hN m hx hbd;exact⟨h1,h2,fun n ρ σ pre K hρ hk=>h3 n ρ σ pre K hρ hk⟩
 ·exact sU hP hEE hrec m _ _ _ _ hx hbd hN
theorem fJ(hP:E2 P){A:Ann}{kn:CF0}(hkn:IB P kn):∀n,eF P (AE P A kn n)
 |0=>fun N code st e st' hx=>by cases hx
 |n+1=>fun N=>by have ih:=fJ hP (A:=A) hkn n;exact nC hP ⟨AI8 hP hkn ih,APW hP ih,eJ hP hkn ih,AI7 hP hkn (ko:=fun _ _ _=>none) (fun _ _ _ _ h=>by cases h) ih⟩ (ih N) n
theorem AKS(hP:E2 P){A:Ann}{kn:CF0}(hkn:IB P kn){n:Nat}{f:FuncId}{args:List V}{r:V}(h:FB P (AE P A kn n) f args=some r)(s:St):F6 P f args s fun r' s'=>r'=r∧s'=s :=
 (eH hP (fJ hP hkn n) f args r h).1 s
section
variable {A:Ann}{kn:CF0}{n N:Nat}{st:XS}
noncomputable abbrev BN(P:Program)(A:Ann)(kn:CF0)(n:Nat):XE:=AX2 P kn (fun _ _ _=>none) (fun _=>false) (AE P A kn n)
theorem AKT(a b:Code):AE P A kn (n+1) N (.seq a b) st=mJ (AE P A kn n N) b (AE P A kn n N a st):=rfl
theorem AER(c:Operand)(a b:Code):AE P A kn (n+1) N (.cond c a b) st=sC (AE P A kn n N) a b st (CO st.fr c):=rfl
theorem xR(id:Nat)(b:Code):AE P A kn (n+1) N (.block id b) st=OI id (AE P A kn n N b st):=rfl
theorem AES(b:Code):AE P A kn (n+1) N (.loop b) st=BF (AE P A kn n N) b (A N (BW b)) n (CI (A N (BW b)) st):=rfl
theorem AET:AE P A kn (n+1) N .skip st=some (.normal,st):=rfl
theorem AEU(id:Nat):AE P A kn (n+1) N (.exit id) st=some (.exit id,st):=rfl
theorem AKU:AE P A kn (n+1) N .ret st=some (.ret,st):=rfl
theorem xS(b:Code):AE P A kn (n+1) N (.scope b) st=AE P A kn n N b st:=rfl
theorem TM(g:Operand)(ps:Array Tmp)(asg body:Code):AE P A kn (n+1) N (.rangeFunc g ps asg body) st=XN (BN P A kn n).cf N g ps.toList asg body st:=rfl
theorem AKV(a b:Code):BW (.seq a b)=BW a:=rfl
theorem xT(id:Nat)(b:Code):BW (.block id b)=BW b:=rfl
theorem AEV(b:Code):BW (.loop b)=BW b:=rfl
theorem AB(rec:gC)(body:Code)(a:Tr):BF rec body a (n+1) st=match rec body st with
 |some (.normal,st')=>BF rec body a n (CI a st')
 |r=>r:=rfl
theorem tD(rec:gC)(b:Code):mJ rec b (some (.normal,st))=rec b st:=rfl
theorem AKW(rec:gC)(b:Code):mJ rec b (some (.ret,st))=some (.ret,st):=rfl
theorem AEW(rec:gC)(b:Code)(i:Nat):mJ rec b (some (.exit i,st))=some (.exit i,st):=rfl
theorem AKX(rec:gC)(b:Code)(c:Prop)[Decidable c](x y:Option (Exit×XS)):mJ rec b (if c then x else y)=if c then mJ rec b x else mJ rec b y:=by split<;>rfl
theorem iB(id:Nat):OI id (some (.normal,st))=some (.normal,st):=rfl
theorem xU(id:Nat):OI id (some (.ret,st))=some (.ret,st):=rfl
theorem tE(id i:Nat):OI id (some (.exit i,st))=if i=id then some (.normal,st) else some (.exit i,st):=by
 show(Bool.rec _ _ (Nat.beq i id):Option (Exit×XS))=_;by_cases h:i=id
 ·subst h;simp
 ·have:Nat.beq i id=false:=by
   cases hb:Nat.beq i id with
   |false=>rfl
   |true=>exact absurd (Nat.eq_of_beq_eq_true hb) h
  simp[h,this]
theorem xV(id:Nat)(c:Prop)[Decidable c](x y:Option (Exit×XS)):OI id (if c then x else y)=if c then OI id x else OI id y:=by split<;>rfl
def ABQ:Code→Bool
 |.region ..=>true
 |_=>false
def Y4:Code→List Oper
 |.region _ ops _=>ops.toList
 |_=>[]
def QM:Code→Bool
 |.region _ _ d=>d
 |_=>false
theorem ABR(us:List Nat){E:XE}(h:E.lit=fun _=>false):(cfU us E).lit=fun _=>false:=by cases us<;>exact h
theorem RD{r:Code}(hr:ABQ r=true){i:IR}(hi:ABP P (Y4 r) (QM r)=i)(hok:okR P (Y4 r) (QM r)=true){a:Tr}(ha:A N (BW r)=a){ks us:List Nat}(ht:AEP (A N (BW r+OZ))=ks)(hu:AEQ (A N (BW r+OZ))=us)(hy:isY us=false:=by rfl):AE P A kn (n+1) N r st=OW (IU P (cfU us (BN P A kn n)) i (CI a (KI ks st))):=by
 cases r with
 |region id ops draw=>
  subst hi ha ht hu
  show OW (AKQ P _ N (A N (nB id ops.toList)) ops.toList draw (AEQ (A N (nB id ops.toList+OZ))) (KI (AEP (A N (nB id ops.toList+OZ))) st))=_
  unfold AKQ
  rw[show isY (AEQ (A N (nB id ops.toList+OZ)))=false from hy]
  cases draw with
  |false=>exact congrArg OW (ABL (ABR _ rfl) _ _ _)
  |true=>
   show OW (Bool.rec (SD P _ ops.toList _) (TJ P (JD ops.toList) (some _)) (ZG P ops.toList))=OW (IU P _ (cond (ZG P ops.toList) (.cls (JD ops.toList)) (.drw ((gV ops.toList).map (ABN ops.toList)))) _)
   have hok:cond (ZG P ops.toList) true (inB ops.toList (gV ops.toList))=true:=hok
   cases hc:ZG P ops.toList with
   |true=>rfl
   |false=>
    rw[hc]at hok
    exact congrArg OW (ABO (ABR _ rfl) _ _ _ hok)
 |_=>cases hr
theorem DH{r:Code}(hr:ABQ r=true){i:IR}(hi:ABP P (Y4 r) (QM r)=i)(hok:okR P (Y4 r) (QM r)=true){a:Tr}(ha:A N (BW r)=a){ks:List Nat}(ht:AEP (A N (BW r+OZ))=ks)(hu:AEQ (A N (BW r+OZ))=[]:=by kernel_rfl):AE P A kn (n+1) N r st=OW (IU P (BN P A kn n) i (CI a (KI ks st))):=RD hr hi hok ha ht hu rfl
theorem AKY{r:Code}(hr:ABQ r=true){i:IR}(hi:ABP P (Y4 r) (QM r)=i)(hok:okR P (Y4 r) (QM r)=true){a:Tr}(ha:A N (BW r)=a)(ht:A N (BW r+OZ)=none:=by kernel_rfl):AE P A kn (n+1) N r st=OW (IU P (BN P A kn n) i (CI a st)):=DH hr hi hok ha (congrArg AEP ht) (congrArg AEQ ht)
noncomputable def ZH(P:Program)(rs:List ResultVar)(r:Option (Exit×XS)):Option V:=match r with
 |some (.ret,st)=>finV st.s (F8 P rs st.fr st.s)
 |some (.normal,st)=>finV st.s (F8 P rs st.fr st.s)
 |_=>none
where finV (s:St) (r:Option V):Option V:=match r with
 |some v=>match A9 s 4 v with
  |some r'=>Bool.rec none (some r') (AH 9 r')
  |none=>none
 |none=>none
theorem AR{f:FuncId}{fn:Func}{c:Code}{args:List V}{rec:GU}(hf:P.funcs[f]? = some fn)(hb:fn.body=some c)(hs:Nat.ble args.length fn.ntmps=true)(hcl:args.all (AH 9)=true) :
  FB P rec f args=ZH P fn.results.toList (rec fn.ntmps c ⟨0,AG 0 args,⟨[],[]⟩⟩):=by
 unfold FB jR Y2 AAT
 rw[hcl,hf]
 simp only[hb,hs]
 generalize rec fn.ntmps c ⟨0,AG 0 args,⟨[],[]⟩⟩=q
 have aux:∀st:XS,(match(match F8 P fn.results.toList st.fr st.s with
   |some r=>match A9 st.s 4 r with
    |some r'=>some (r',st.c,st.s.up.map (AL st.s))
    |none=>none
   | none=>none:Option (V×Nat×List AA))with
  |some (r,_,_)=>(Bool.rec none (some r) (AH 9 r):Option V)
  | none=>none)=ZH.finV st.s (F8 P fn.results.toList st.fr st.s):=fun st=>by
  unfold ZH.finV
  cases F8 P fn.results.toList st.fr st.s with
  |none=>rfl
  |some r=>
   cases h:A9 st.s 4 r with
   |none=>simp[h]
   |some r'=>simp[h]
 cases q with
 |none=>rfl
 |some q=>
  obtain⟨e,st⟩:=q
  cases e with
  |ret=>exact aux st
  |normal=>exact aux st
  |_=>rfl
theorem AKZ(rs:List ResultVar)(c:Prop)[Decidable c](x y:Option (Exit×XS)):ZH P rs (if c then x else y)=if c then ZH P rs x else ZH P rs y:=by split<;>rfl
end
def MO:Code→List Nat→Code
 |c,[]=>c
 |.seq a b,i::p=>bif Nat.beq i 0 then MO a p else MO b p
 |.cond _ a b,i::p=>bif Nat.beq i 0 then MO a p else MO b p
 |.block _ a,_::p=>MO a p
 |.loop a,_::p=>MO a p
 |.scope a,_::p=>MO a p
 |.rangeFunc _ _ a b,i::p=>bif Nat.beq i 0 then MO a p else MO b p
 |c,_=>c
def AZC(fn:Func):Code:=match fn.body with
 |some c=>c
 |none=>.skip
end Go.Pg
namespace Go.Pg
variable {P:Program}{E:XE}{st:XS}{fr:Fr}{s:St}
@[simp] theorem BC4(r:Option XS):QL P E [] r=r:=rfl
@[simp] theorem A38(i:I5)(l:List I5)(r:Option XS):QL P E (i::l) r=QL P E l (opO P E i r):=rfl
@[simp] theorem BC5(i:I5):opO P E i (some st)=opI P E i st:=rfl
@[simp] theorem BC6(i:I5):opO P E i none=none:=rfl
@[simp] theorem BIA(i:I5)(c:Prop)[Decidable c](x y:Option XS):opO P E i (if c then x else y)=if c then opO P E i x else opO P E i y:=by split<;>rfl
@[simp] theorem BC7(l:List I5)(c:Prop)[Decidable c](x y:Option XS):QL P E l (if c then x else y)=if c then QL P E l x else QL P E l y:=by split<;>rfl
noncomputable def gI(P:Program)(E:XE)(d:Option Tmp)(k:IK)(st:XS)(w:Bool)(r:Option (Bool×V)):Option XS:=match r with
 |some (c,.bool b)=>Bool.rec (some (IY d st)) (DD P E d k st) (c&&(b==w))
 |_=>none
@[simp] theorem BC8(d:Option Tmp)(k:IK):opI P E ⟨none,d,k⟩ st=DD P E d k st:=rfl
@[simp] theorem A39(t:Tmp)(w:Bool)(d:Option Tmp)(k:IK):opI P E ⟨some (t,w),d,k⟩ st=gI P E d k st w (BE st.fr t):=by
 show(match(match BE st.fr t with | some (c,.bool b)=>some (c&&(b == w)) | _=>none:Option Bool)with
  |some true=>DD P E d k st
  |some false=>some (IY d st)
  | none=>none)=_
 unfold gI;cases BE st.fr t with
 |none=>rfl
 |some p=>
  obtain⟨c,v⟩:=p
  cases v with
  |bool b=>cases h:(c&&(b==w))<;>simp[h]
  |_=>rfl
@[simp] theorem BSB(d:Option Tmp)(k:IK):gI P E d k st true (some (true,.bool true))=DD P E d k st:=rfl
@[simp] theorem BSC(d:Option Tmp)(k:IK):gI P E d k st true (some (true,.bool false))=some (IY d st):=rfl
@[simp] theorem BSD(d:Option Tmp)(k:IK):gI P E d k st false (some (true,.bool true))=some (IY d st):=rfl
@[simp] theorem BSE(d:Option Tmp)(k:IK):gI P E d k st false (some (true,.bool false))=DD P E d k st:=rfl
@[simp] theorem BSF(d:Option Tmp)(k:IK)(w b:Bool):gI P E d k st w (some (false,.bool b))=some (IY d st):=rfl
@[simp] theorem BC9(d:Tmp)(c:Nat)(fr:Fr)(s:St):IY (some d) ⟨c,fr,s⟩=⟨c,(d,false,.bool false)::fr,s⟩:=rfl
@[simp] theorem BDA(c:Nat)(fr:Fr)(s:St):IY none ⟨c,fr,s⟩=⟨c,fr,s⟩:=rfl
@[simp] theorem BDB(k:Nat):BE [] k=none:=rfl
@[simp] theorem A4A(j:Nat)(x:Bool×V)(fr:Fr)(k:Nat):BE ((j,x)::fr) k=if k=j then some x else BE fr k:=by rw[F0,F0];rfl
@[simp] theorem AZD(j:Nat)(x:Nat×A6)(L:AA)(k:Nat):AA.get ((j,x)::L) k=if k=j then some x else L.get k:=rfl
def rdT:Option (Bool×V)→Option V
 |some (true,v)=>some v
 |_=>none
@[simp] theorem AK0(v:V):rdT (some (true,v))=some v:=rfl
@[simp] theorem A4C(v:V):rdT (some (false,v))=none:=rfl
@[simp] theorem BDC:rdT none=none:=rfl
@[simp] theorem BIB(t:Tmp):CO fr (.tmp t)=rdT (BE fr t):=by
 show(match BE fr t with
  |some (true,v)=>some v
  | _=>none)=_
 cases BE fr t with
 |none=>rfl
 |some p=>obtain⟨c,v⟩:=p;cases c<;>rfl
@[simp] theorem A4D(v:Value):CO fr (.const v)=CX v:=rfl
@[simp] theorem BDD(f:FuncId):CO fr (.func f)=some (.fn f [] []):=rfl
@[simp] theorem BIC(t:Tmp):rdC fr (.tmp t)=BE fr t:=rfl
@[simp] theorem BDE(b:Bool):rdC fr (.const (.bool b))=some (true,.bool b):=rfl
@[simp] theorem AZE(k:IntKind)(n:Int):CX (.int k n)=some (.int k n):=rfl
@[simp] theorem ATZ(b:Bool):CX (.bool b)=some (.bool b):=rfl
@[simp] theorem AZF:CX (.slice none 0 0)=some .nil:=rfl
@[simp] theorem A4E(d:Tmp)(c:Nat)(fr:Fr)(s:St)(v:V):DY (some d) ⟨c,fr,s⟩ (some v)=some ⟨c,(d,true,v)::fr,s⟩:=rfl
@[simp] theorem BID(c:Nat)(fr:Fr)(s:St)(v:V):DY none ⟨c,fr,s⟩ (some v)=some ⟨c,fr,s⟩:=rfl
@[simp] theorem A4F(d:Option Tmp):DY d st none=none:=rfl
@[simp] theorem BDF(d:Option Tmp)(c:Prop)[Decidable c](x y:Option V):DY d st (if c then x else y)=if c then DY d st x else DY d st y:=by split<;>rfl
section
variable (d:Option Tmp)(c:Nat)
@[simp] theorem BDG(x:Operand):DD P E d (.mv x) ⟨c,fr,s⟩=DY d ⟨c,fr,s⟩ (CO fr x):=rfl
def AZG(P:Program)(op:BinOp)(T:TypeId):Option V→Option V→Option V
 |some a,some b=>H0 P op T a b
 |_,_=>none
@[simp] theorem A4G(op:BinOp)(T:TypeId)(a b:V):AZG P op T (some a) (some b)=H0 P op T a b:=rfl
@[simp] theorem A4H(op:BinOp)(T:TypeId)(x y:Operand):DD P E d (.bin op T x y) ⟨c,fr,s⟩=DY d ⟨c,fr,s⟩ (AZG P op T (CO fr x) (CO fr y)):=by show DY d _ (wC P fr op T x y)=_;unfold wC AZG;cases CO fr x<;>cases CO fr y<;>rfl
def fa1(P:Program)(T:TypeId)(f:Nat):Option V→Option V
 |some p=>DP P T p f
 |none=>none
@[simp] theorem BDH(T:TypeId)(f:Nat)(p:V):fa1 P T f (some p)=DP P T p f:=rfl
@[simp] theorem BDI(T:TypeId)(x:Operand)(f:Nat):DD P E d (.fa T x f) ⟨c,fr,s⟩=DY d ⟨c,fr,s⟩ (fa1 P T f (CO fr x)):=by show DY d _ (xFA P fr T x f)=_;unfold xFA fa1;cases CO fr x<;>rfl
def wh1(P:Program)(T:TypeId):Option (List V)→Option V
 |some cs=>BS P T cs
 |none=>none
@[simp] theorem BDJ(T:TypeId)(cs:List V):wh1 P T (some cs)=BS P T cs:=rfl
def ld1(P:Program)(s:St)(T:TypeId):Option V→Option V
 |some p=>wh1 P T (BH s p)
 |none=>none
@[simp] theorem AK1(T:TypeId)(p:V):ld1 P s T (some p)=wh1 P T (BH s p):=rfl
@[simp] theorem BDK(T:TypeId)(x:Operand):DD P E d (.ld T x) ⟨c,fr,s⟩=DY d ⟨c,fr,s⟩ (ld1 P s T (CO fr x)):=by
 show DY d _ (ME P fr s T x)=_;unfold ME ld1;cases CO fr x with
 |none=>rfl
 |some p=>unfold wh1;cases BH s p<;>rfl
noncomputable def pk3:Option V→Option (Bool×V)→Option (Bool×V)→Option V
 |some (.bool c),some (ca,.bool a),some (cb,.bool b)=>Bool.rec (Bool.rec none (some (.bool b)) cb) (Bool.rec none (some (.bool a)) ca) c
 |_,_,_=>none
@[simp] theorem BDL(a cb b:Bool):pk3 (some (.bool true)) (some (true,.bool a)) (some (cb,.bool b))=some (.bool a):=rfl
@[simp] theorem A4I(ca a b:Bool):pk3 (some (.bool false)) (some (ca,.bool a)) (some (true,.bool b))=some (.bool b):=rfl
@[simp] theorem BDM(c a b:Bool):pk3 (some (.bool c)) (some (true,.bool a)) (some (true,.bool b))=some (.bool (if c then a else b)):=by cases c<;>rfl
@[simp] theorem AZH(x y z:Operand):DD P E d (.pick x y z) ⟨c,fr,s⟩=DY d ⟨c,fr,s⟩ (pk3 (CO fr x) (rdC fr y) (rdC fr z)):=rfl
def BN8(f:Operand→Option V):List (Nat×Operand)→Option (List (Nat×V)):=DN f
def ba2:Option V→Nat→Option (List (Nat×V))→Option (List (Nat×V))
 |some v,i,some l=>some ((i,v)::l)
 |_,_,_=>none
@[simp] theorem BDN(v:V)(i:Nat)(l:List (Nat×V)):ba2 (some v) i (some l)=some ((i,v)::l):=rfl
@[simp] theorem AZI(r:Operand→Option V):DN r []=some []:=rfl
@[simp] theorem AT0(r:Operand→Option V)(i:Nat)(x:Operand)(l:List (Nat×Operand)):DN r ((i,x)::l)=ba2 (r x) i (DN r l):=by simp only[DN];unfold ba2;cases r x<;>cases DN r l<;>rfl
def bd1(P:Program)(T:TypeId):Option (List (Nat×V))→Option V
 |some l=>CZ P T l
 |none=>none
@[simp] theorem BDO(T:TypeId)(l:List (Nat×V)):bd1 P T (some l)=CZ P T l:=rfl
@[simp] theorem AT1(T:TypeId)(ps:List (Nat×Operand)):DD P E d (.build T ps) ⟨c,fr,s⟩=DY d ⟨c,fr,s⟩ (bd1 P T (DN (CO fr) ps)):=by show DY d _ (TG P fr T ps)=_;unfold TG bd1;cases DN (CO fr) ps<;>rfl
def bs1(P:Program)(T:TypeId)(n:Nat):Option (List (Nat×V))→Option V
 |some l=>CK P T n l
 |none=>none
@[simp] theorem BDP(T:TypeId)(n:Nat)(l:List (Nat×V)):bs1 P T n (some l)=CK P T n l:=rfl
@[simp] theorem AQE(T:TypeId)(n:Nat)(ps:List (Nat×Operand)):DD P E d (.buildS T n ps) ⟨c,fr,s⟩=DY d ⟨c,fr,s⟩ (bs1 P T n (DN (CO fr) ps)):=by show DY d _ (OD P fr T n ps)=_;unfold OD bs1;cases DN (CO fr) ps<;>rfl
@[simp] theorem A4J(op:Op):DD P E d (.oth op) ⟨c,fr,s⟩=DY d ⟨c,fr,s⟩ (JR P (kL op) s (CO fr)):=rfl
def al1(d:Tmp)(c:Nat)(fr:Fr)(s:St):Option (List V)→Option XS
 |some cs=>some ⟨c+1,(d,true,.ptr s.up.length d c 0)::fr,s.put s.up.length d c (.box cs)⟩
 |none=>none
@[simp] theorem BDQ(d:Tmp)(cs:List V):al1 d c fr s (some cs)=some ⟨c+1,(d,true,.ptr s.up.length d c 0)::fr,s.put s.up.length d c (.box cs)⟩:=rfl
@[simp] theorem AT2(d:Tmp)(T:TypeId):DD P E (some d) (.alloc T) ⟨c,fr,s⟩=al1 d c fr s (CG P T):=by show QA P (some d) T _=_;unfold QA al1;cases CG P T<;>rfl
noncomputable def bx1(d:Tmp)(c:Nat)(fr:Fr)(s:St):Option V→Option XS
 |some v=>Bool.rec none (some ⟨c+1,(d,true,.ptr s.up.length d c 0)::fr,s.put s.up.length d c (.box (BI v))⟩) (BJ v)
 |none=>none
@[simp] theorem BIH(d:Tmp)(k:IntKind)(n:Int):bx1 d c fr s (some (.int k n))=some ⟨c+1,(d,true,.ptr s.up.length d c 0)::fr,s.put s.up.length d c (.box [.int k n])⟩:=rfl
@[simp] theorem BDR(d:Tmp)(b:Bool):bx1 d c fr s (some (.bool b))=some ⟨c+1,(d,true,.ptr s.up.length d c 0)::fr,s.put s.up.length d c (.box [.bool b])⟩:=rfl
@[simp] theorem BII(d:Tmp)(cs:List V):bx1 d c fr s (some (.agg cs))=some ⟨c+1,(d,true,.ptr s.up.length d c 0)::fr,s.put s.up.length d c (.box cs)⟩:=rfl
@[simp] theorem BDS(d:Tmp)(b:Bool)(es:List (List V)):bx1 d c fr s (some (.list b es))=some ⟨c+1,(d,true,.ptr s.up.length d c 0)::fr,s.put s.up.length d c (.box [.list b es])⟩:=rfl
@[simp] theorem BIJ(d:Tmp):bx1 d c fr s (some .nil)=some ⟨c+1,(d,true,.ptr s.up.length d c 0)::fr,s.put s.up.length d c (.box [.nil])⟩:=rfl
@[simp] theorem BIK(d:Tmp)(l k g n:Nat):bx1 d c fr s (some (.vec l k g n))=some ⟨c+1,(d,true,.ptr s.up.length d c 0)::fr,s.put s.up.length d c (.box [.vec l k g n])⟩:=rfl
@[simp] theorem BOD(d:Tmp)(l k g:Nat):bx1 d c fr s (some (.mp l k g))=some ⟨c+1,(d,true,.ptr s.up.length d c 0)::fr,s.put s.up.length d c (.box [.mp l k g])⟩:=rfl
@[simp] theorem A4K(d:Tmp)(x:Operand):DD P E (some d) (.box x) ⟨c,fr,s⟩=bx1 d c fr s (CO fr x):=by show rR (some d) x _=_;unfold rR bx1;cases CO fr x<;>rfl
def st3(γ:Nat)(P:Program)(T:TypeId)(c:Nat)(fr:Fr)(s:St)(l q off:Nat)(v:V):Option (Nat×A6)→Option XS
 |some (γ',.box cs)=>if γ'=γ∧BJ v=true∧0<P.cellsOf T∧(BI v).length=P.cellsOf T∧off+P.cellsOf T≤cs.length∧γ<c then some ⟨c,fr,s.put l q γ (.box (BC cs off (BI v)))⟩ else none
 |_=>none
def st4(γ:Nat)(P:Program)(T:TypeId)(c:Nat)(fr:Fr)(s:St)(l q i off:Nat)(v:V):Option (Nat×A6)→Option XS
 |some (γ',.vec U es)=>if γ'=γ∧BJ v=true∧0<P.cellsOf T∧(BI v).length=P.cellsOf T∧i<es.length∧off+P.cellsOf T≤(es.getD i []).length∧γ<c then some ⟨c,fr,s.put l q γ (.vec U (es.set i (BC (es.getD i []) off (BI v))))⟩ else none
 |_=>none
def HP(P:Program)(T:TypeId)(c:Nat)(fr:Fr)(s:St):Option V→Option V→Option XS
 |some (.ptr l q γ off),some v=>st3 γ P T c fr s l q off v (s.get l q)
 |some (.eptr l q γ i off),some v=>st4 γ P T c fr s l q i off v (s.get l q)
 |_,_=>none
@[simp] theorem AQF(T:TypeId)(l q γ off:Nat)(v:V):HP P T c fr s (some (.ptr l q γ off)) (some v)=st3 γ P T c fr s l q off v (s.get l q):=rfl
@[simp] theorem AK2(T:TypeId)(l q γ i off:Nat)(v:V):HP P T c fr s (some (.eptr l q γ i off)) (some v)=st4 γ P T c fr s l q i off v (s.get l q):=rfl
@[simp] theorem AQG(γ γ':Nat)(T:TypeId)(l q off:Nat)(v:V)(cs:List V):st3 γ P T c fr s l q off v (some (γ',.box cs))=if γ'=γ∧BJ v=true∧0<P.cellsOf T∧(BI v).length=P.cellsOf T∧off+P.cellsOf T≤cs.length∧γ<c then some ⟨c,fr,s.put l q γ (.box (BC cs off (BI v)))⟩ else none:=rfl
@[simp] theorem AQH(γ γ':Nat)(T:TypeId)(l q i off:Nat)(v:V)(U:TypeId)(es:List (List V)):st4 γ P T c fr s l q i off v (some (γ',.vec U es))=if γ'=γ∧BJ v=true∧0<P.cellsOf T∧(BI v).length=P.cellsOf T∧i<es.length∧off+P.cellsOf T≤(es.getD i []).length∧γ<c then some ⟨c,fr,s.put l q γ (.vec U (es.set i (BC (es.getD i []) off (BI v))))⟩ else none:=rfl
theorem AQI(T:TypeId)(x y:Operand):J4 P none T x y ⟨c,fr,s⟩=HP P T c fr s (CO fr x) (CO fr y):=by
 unfold J4;simp only;cases CO fr x with
 |none=>rfl
 |some p=>
  cases CO fr y with
  |none=>cases p<;>rfl
  |some v=>
   cases p with
   |ptr l q γ off=>
    simp only[AQF]
    cases s.get l q with
    |none=>rfl
    |some z=>
     obtain⟨γ',r⟩:=z
     cases r with
     |box cs=>
      simp only[AQG,Bool.and_eq_true,Nat.blt_eq,Nat.ble_eq,Nat.beq_eq,and_assoc]
     |_=>rfl
   |eptr l q γ i off=>
    simp only[AK2]
    cases s.get l q with
    |none=>rfl
    |some z=>
     obtain⟨γ',r⟩:=z
     cases r with
     |vec U es=>
      simp only[AQH,Bool.and_eq_true,Nat.blt_eq,Nat.ble_eq,Nat.beq_eq,and_assoc]
     |_=>rfl
   |_=>rfl
@[simp] theorem A4L(T:TypeId)(x y:Operand):DD P E none (.sto T x y) ⟨c,fr,s⟩=HP P T c fr s (CO fr x) (CO fr y):=AQI c T x y
noncomputable def apW(P:Program)(e:TypeId)(d c:Nat)(fr:Fr)(s:St)(l q γ n:Nat)(ys:List (List V)):Option (Nat×A6)→Option XS
 |some (γ',.vec W es)=>if γ'=γ∧W=e∧n=es.length∧es.all (fun y=>y.length==P.cellsOf e)=true∧B9 P e es.length ys=true then
   some ⟨c+1,(d,true,.vec l q c (es.length+ys.length))::fr,s.put l q c (.vec e (es++ys))⟩ else none
 |_=>none
@[simp] theorem V9(e:TypeId)(d:Nat)(l q γ γ' n:Nat)(ys es:List (List V))(W:TypeId):apW P e d c fr s l q γ n ys (some (γ',.vec W es))=if γ'=γ∧W=e∧n=es.length∧es.all (fun y=>y.length==P.cellsOf e)=true∧B9 P e es.length ys=true then
   some ⟨c+1,(d,true,.vec l q c (es.length+ys.length))::fr,s.put l q c (.vec e (es++ys))⟩ else none:=rfl
noncomputable def apV(P:Program)(e:TypeId)(d c:Nat)(fr:Fr)(s:St)(xv:V)(ys:List (List V)):Option XS:=match JA xv ys with
 |some es=>if es.all (fun y=>y.length==P.cellsOf e)=true∧B9 P e es.length ys=true then some ⟨c+1,(d,true,.vec s.up.length d c (es.length+ys.length))::fr,s.put s.up.length d c (.vec e (es++ys))⟩ else none
 |none=>match xv with
  |.vec l q γ n=>apW P e d c fr s l q γ n ys (S6 n ys (s.get l q))
  |_=>none
@[simp] theorem tF(n γ:Nat)(ys es:List (List V))(U:TypeId):S6 n ys (some (γ,.vec U es))=some (γ,.vec U (cL n ys es)):=rfl
@[simp] theorem A4M(n:Nat)(ys:List (List V)):S6 n ys none=none:=rfl
attribute [simp] W3
@[simp] theorem BIL(e:TypeId)(d:Nat)(ys:List (List V)):apV P e d c fr s .nil ys=if B9 P e 0 ys=true then some ⟨c+1,(d,true,.vec s.up.length d c ys.length)::fr,s.put s.up.length d c (.vec e ys)⟩ else none:=by simp[apV,JA]
@[simp] theorem BIM(e:TypeId)(d:Nat)(ys:List (List V)):apV P e d c fr s (.list true []) ys=if B9 P e 0 ys=true then some ⟨c+1,(d,true,.vec s.up.length d c ys.length)::fr,s.put s.up.length d c (.vec e ys)⟩ else none:=by simp[apV,JA]
@[simp] theorem BDU(e:TypeId)(d:Nat)(z y:List V)(es ys:List (List V)):apV P e d c fr s (.list true (z::es)) (y::ys)=if (z::es).all (fun y=>y.length==P.cellsOf e)=true∧B9 P e (z::es).length (y::ys)=true then
   some ⟨c+1,(d,true,.vec s.up.length d c ((z::es).length+(y::ys).length))::fr,s.put s.up.length d c (.vec e ((z::es)++(y::ys)))⟩ else none:=rfl
@[simp] theorem AQJ(e:TypeId)(d:Nat)(l q γ n:Nat)(ys:List (List V)):apV P e d c fr s (.vec l q γ n) ys=apW P e d c fr s l q γ n ys (S6 n ys (s.get l q)):=by simp[apV,JA]
noncomputable def ap3(P:Program)(d c:Nat)(fr:Fr)(s:St):Option (Option Nat×TypeId)→Option V→Option V→Option XS
 |some (none,e),some xv,some yv=>ap4 e xv (elemsOf s yv)
 |_,_,_=>none
where ap4 (e:TypeId) (xv:V):Option (List (List V))→Option XS
 |some ys=>apV P e d c fr s xv ys
 |none=>none
@[simp] theorem AK3(d:Nat)(e:TypeId)(xv yv:V):ap3 P d c fr s (some (none,e)) (some xv) (some yv)=ap3.ap4 P d c fr s e xv (elemsOf s yv):=rfl
@[simp] theorem AK4(d:Nat)(e:TypeId)(xv:V)(ys:List (List V)):ap3.ap4 P d c fr s e xv (some ys)=apV P e d c fr s xv ys:=rfl
@[simp] theorem AQK(b:Bool)(es:List (List V)):elemsOf s (.list b es)=some es:=rfl
@[simp] theorem AT3:elemsOf s .nil=some []:=rfl
theorem ifB{α:Type}{b:Bool}{x y:α}:(Bool.rec y x b:α)=if b=true then x else y:=by cases b<;>rfl
theorem AEY{k:Nat}{e:TypeId}(d:Nat)(x y:Option V):ap3 P d c fr s (some (some k,e)) x y=none:=by cases x<;>cases y<;>rfl
@[simp] theorem A4N(d:Tmp)(x y:Operand)(T:TypeId):DD P E (some d) (.app [x,y] [T,T]) ⟨c,fr,s⟩=ap3 P d c fr s (B0 P T) (CO fr x) (CO fr y):=by
 show xAppend P (some d) [x,y] [T,T] _=_;unfold xAppend xAppG;simp only[Nat.beq_refl];cases hT:B0 P T with
 |none=>cases CO fr x<;>cases CO fr y<;>rfl
 |some p=>
  obtain⟨k,e⟩:=p
  cases k with
  |some k=>rw[AEY]
  |none=>
   cases CO fr x with
   |none=>rfl
   |some xv=>
    cases CO fr y with
    |none=>rfl
    |some yv=>
     simp only[AK3]
     cases elemsOf s yv with
     |none=>rfl
     |some ys=>
      simp only[AK4,apV]
      cases JA xv ys with
      |some es=>
       simp only[ifB,Bool.and_eq_true,List.length_append]
       by_cases hC:es.all (fun y=>y.length==P.cellsOf e)=true∧B9 P e es.length ys=true
       ·rw[if_pos hC,if_pos hC]
       ·rw[if_neg hC,if_neg hC]
      |none=>
       simp only
       unfold rW
       cases xv with
       |vec l q γ n=>
        simp only
        cases S6 n ys (s.get l q)with
        |none=>rfl
        |some z=>
         obtain⟨γ',r⟩:=z
         cases r with
         |vec W es=>
          simp only[ifB,Bool.and_eq_true,List.length_append,V9,Nat.beq_eq,and_assoc]
          by_cases hC:γ'=γ∧W=e∧n=es.length∧es.all (fun y=>y.length==P.cellsOf e)=true∧B9 P e es.length ys=true
          ·rw[if_pos hC,if_pos hC]
          ·rw[if_neg hC,if_neg hC]
         |_=>rfl
       |_=>rfl
def mc2:Option V→Option (List V)→Option (List V)
 |some v,some l=>some (v::l)
 |_,_=>none
@[simp] theorem BDX(v:V)(l:List V):mc2 (some v) (some l)=some (v::l):=rfl
@[simp] theorem BDY(f:Operand→Option V):F3 f []=some []:=rfl
@[simp] theorem A4O(f:Operand→Option V)(x:Operand)(l:List Operand):F3 f (x::l)=mc2 (f x) (F3 f l):=by
 simp only[F3];cases f x with
 |none=>rfl
 |some v=>cases F3 f l<;>rfl
noncomputable def G4(E:XE)(d:Option Tmp)(st:XS)(f:FuncId)(args:List V):Option XS:=match E.cf f args st with
 |some (r,st')=>some ⟨st'.c,putD st'.fr d true r,st'.s⟩
 |none=>none
noncomputable def ca1(E:XE)(d:Option Tmp)(st:XS):Option V→Option (List V)→Option XS
 |some (.fn f first cap),some vs=>G4 E d st f ((first++vs++cap).map weakV)
 |some (.yld l q γ),some vs=>ca3 (E.cy l q γ vs st)
 |_,_=>none
where ca3:Option (V×XS)→Option XS
 |some (r,st')=>some ⟨st'.c,putD st'.fr d true r,st'.s⟩
 |none=>none
@[simp] theorem AZK(st:XS)(f:FuncId)(first cap vs:List V):ca1 E d st (some (.fn f first cap)) (some vs)=G4 E d st f ((first++vs++cap).map weakV):=rfl
@[simp] theorem AQL(st:XS)(l q γ:Nat)(vs:List V):ca1 E d st (some (.yld l q γ)) (some vs)=ca1.ca3 d (E.cy l q γ vs st):=rfl
@[simp] theorem BDZ(d:Tmp)(r:V):ca1.ca3 (some d) (some (r,⟨c,fr,s⟩))=some ⟨c,(d,true,r)::fr,s⟩:=rfl
theorem tG(st:XS)(f:Operand)(args:List Operand):R9 E.cf E.cy d f args st=ca1 E d st (CO st.fr f) (F3 (CO st.fr) args):=by
 unfold R9;cases CO st.fr f with
 |none=>rfl
 |some v=>
  cases v with
  |fn f first cap=>
   simp only
   cases F3 (CO st.fr) args with
   |none=>rfl
   |some vs=>simp only[AZK,G4];cases E.cf f ((first++vs++cap).map weakV) st<;>rfl
  |yld l q γ=>
   simp only[wG]
   cases F3 (CO st.fr) args with
   |none=>rfl
   |some vs=>simp only[AQL];cases E.cy l q γ vs st<;>rfl
  |_=>rfl
@[simp] theorem AZL(f:Operand)(args:List Operand):DD P E d (.call false none f args) ⟨c,fr,s⟩=ca1 E d ⟨c,fr,s⟩ (CO fr f) (F3 (CO fr) args):=tG d ⟨c,fr,s⟩ f args
def orK:Bool→Option V→Option V→Option V
 |true,some r,_=>some r
 |_,_,z=>z
@[simp] theorem BD0(r:V)(z:Option V):orK true (some r) z=some r:=rfl
@[simp] theorem BD1(b:Bool)(z:Option V):orK b z z=z:=by cases b<;>cases z<;>rfl
theorem tH{P:Program}{kn:CF0}{rec:GU}{f:FuncId}{args:List V}:GC P kn rec f args=orK (args.all (AH 9)) (A0 P kn rec f (args.map weakN)) (A0 P kn rec f args):=by unfold GC orK;cases A0 P kn rec f (args.map weakN)<;>cases args.all (AH 9)<;>rfl
attribute [simp] tH
@[simp] theorem A4P(k:IntKind)(n:Int):weakN (.int k n)=.int k n:=rfl
@[simp] theorem AZN(b:Bool):weakN (.bool b)=.bool b:=rfl
@[simp] theorem A4Q(v:Value):weakN (.raw v)=.raw v:=rfl
@[simp] theorem AZO(b:Bool)(es:List (List V)):weakN (.list b es)=.list b es:=rfl
@[simp] theorem A4R(cs:List V):weakN (.agg cs)=.agg (cs.map weakM):=rfl
@[simp] theorem A4S:weakN .nil=.list false []:=rfl
@[simp] theorem BD2(f:FuncId)(x y:List V):weakN (.fn f x y)=.fn f x y:=rfl
@[simp] theorem A4T(cs:List V):weakN (.ref cs)=.ref cs:=rfl
@[simp] theorem A4U(k:IntKind)(n:Int):weakM (.int k n)=.int k n:=rfl
@[simp] theorem AZP(b:Bool):weakM (.bool b)=.bool b:=rfl
@[simp] theorem AZQ(b:Bool)(es:List (List V)):weakM (.list b es)=.list b es:=rfl
@[simp] theorem A4V:weakM .nil=.list false []:=rfl
@[simp] theorem BD3(f:FuncId)(x y:List V):weakM (.fn f x y)=.fn f x y:=rfl
@[simp] theorem A4W(cs:List V):weakM (.ref cs)=.ref cs:=rfl
theorem fK{A:Ann}{kn:CF0}{n:Nat}{f:FuncId}{args:List V}(h:args.all (AH 9)=true)(hh:BL P f=false)(st:XS):G4 (BN P A kn n) d st f args=DY d st (orK true (A0 P kn (AE P A kn n) f (args.map weakN)) (A0 P kn (AE P A kn n) f args)):=by
 have e:orK true (A0 P kn (AE P A kn n) f (args.map weakN)) (A0 P kn (AE P A kn n) f args)=GC P kn (AE P A kn n) f args:=by rw[tH,h]
 rw[e];show(match eB P kn (AE P A kn n) f args st with
  |some (r,st')=>some (⟨st'.c,putD st'.fr d true r,st'.s⟩:XS)
  | none=>none)=_
 unfold eB;rw[h,hh];cases GC P kn (AE P A kn n) f args<;>rfl
end
@[simp] theorem BD4(k:IntKind)(n:Int):weakV (.int k n)=.int k n:=rfl
@[simp] theorem A4X(b:Bool):weakV (.bool b)=.bool b:=rfl
@[simp] theorem A4Y(b:Bool)(es:List (List V)):weakV (.list b es)=.list false es:=rfl
@[simp] theorem BD5(cs:List V):weakV (.agg cs)=.agg (cs.map weakC):=rfl
@[simp] theorem A4Z(k:IntKind)(n:Int):weakC (.int k n)=.int k n:=rfl
@[simp] theorem AZR(b:Bool):weakC (.bool b)=.bool b:=rfl
@[simp] theorem AZS(b:Bool)(es:List (List V)):weakC (.list b es)=.list false es:=rfl
@[simp] theorem A40:weakC .nil=.nil:=rfl
@[simp] theorem BD6:weakV .nil=.nil:=rfl
@[simp] theorem BIN(f:FuncId)(x y:List V):weakV (.fn f x y)=.fn f x y:=rfl
@[simp] theorem AZT(f:Nat)(k:IntKind)(n:Int):AH (f+1) (.int k n)=true:=rfl
@[simp] theorem AT5(f:Nat)(b:Bool):AH (f+1) (.bool b)=true:=rfl
@[simp] theorem AZU(f:Nat):AH (f+1) .nil=true:=rfl
@[simp] theorem AZV(f:Nat)(cs:List V):AH (f+1) (.agg cs)=cs.all (AH f):=rfl
@[simp] theorem AZW(f:Nat)(cs:List V):AH (f+1) (.tup cs)=cs.all (AH f):=rfl
@[simp] theorem AZX(f:Nat)(cs:List V):AH (f+1) (.ref cs)=cs.all (AH f):=rfl
@[simp] theorem AT6(f:Nat)(b:Bool)(es:List (List V)):AH (f+1) (.list b es)=es.all fun e=>e.all (AH f):=rfl
@[simp] theorem A41(f:Nat)(g:FuncId)(x y:List V):AH (f+1) (.fn g x y)=(x.all (AH f)&&y.all (AH f)):=rfl
section
variable (r:Operand→Option V)
def o1(f:V→Option V):Option V→Option V
 |some v=>f v
 |none=>none
@[simp] theorem BIO(f:V→Option V)(v:V):o1 f (some v)=f v:=rfl
def o2(f:V→V→Option V):Option V→Option V→Option V
 |some a,some b=>f a b
 |_,_=>none
@[simp] theorem BIP(f:V→V→Option V)(a b:V):o2 f (some a) (some b)=f a b:=rfl
theorem WA(f:V→Option V)(x:Option V):x.bind f=o1 f x:=by cases x<;>rfl
theorem nD(f:V→V→Option V)(x y:Option V):(x.bind fun a=>y.bind fun b=>f a b)=o2 f x y:=by cases x<;>cases y<;>rfl
@[simp] theorem BOG(op:UnOp)(T:TypeId)(x:Operand):JR P (kL (.unOp op T x)) s r=o1 (gM op) (r x):=WA _ _
@[simp] theorem BD7(T U:TypeId)(x:Operand):JR P (kL (.convert T U x)) s r=o1 (J1 P T U) (r x):=WA _ _
@[simp] theorem BD8(T:TypeId)(x i:Operand):JR P (kL (.indexAddr T x i)) s r=o2 (B7 P s T) (r x) (r i):=nD _ _ _
@[simp] theorem A42(T:TypeId)(x:Operand)(f:Nat):JR P (kL (.field T x f)) s r=o1 (fun a=>JI P T a f) (r x):=WA _ _
@[simp] theorem BIQ(x:Operand)(i:Nat):JR P (kL (.extract x i)) s r=o1 (fun a=>GL a i) (r x):=WA _ _
@[simp] theorem BIR(x:Operand)(T:TypeId):JR P (kL (.call ⟨.builtin .len,#[x],#[T]⟩)) s r=o1 (IX P T) (r x):=WA _ _
end
@[simp] theorem BD9(b:Bool):gM .not (.bool b)=some (.bool !b):=rfl
@[simp] theorem BEA(k:IntKind)(n:Int):gM .neg (.int k n)=some (.int k (k.wrap (0-n))):=rfl
@[simp] theorem AL4(vs:List V)(i:Nat):GL (.tup vs) i=vs[i]?:=rfl
@[simp] theorem BOH(up:List AA)(loc:AA)(l k g:Nat)(r:A6):St.put ⟨up,loc⟩ l k g r=if l=up.length then⟨up,(k,g,r)::loc⟩ else⟨up.modify l fun L=>L.put k g r,loc⟩:=rfl
def upG(k:Nat):Option AA→Option (Nat×A6)
 |some L=>L.get k
 |none=>none
@[simp] theorem BEB(k:Nat)(L:AA):upG k (some L)=L.get k:=rfl
@[simp] theorem AK5(up:List AA)(loc:AA)(l k:Nat):St.get ⟨up,loc⟩ l k=if l=up.length then loc.get k else upG k up[l]?:=rfl
def kx(k:Nat)(r:Fr):Option (Bool×V)→Fr
 |some (c,v)=>(k,c,v)::r
 |none=>r
@[simp] theorem BIS(k:Nat)(r:Fr)(c:Bool)(v:V):kx k r (some (c,v))=(k,c,v)::r:=rfl
@[simp] theorem BIT(k:Nat)(r:Fr):kx k r none=r:=rfl
@[simp] theorem A43:SB [] fr=[]:=rfl
@[simp] theorem AZY(k:Nat)(ks:List Nat):SB (k::ks) fr=kx k (SB ks fr) (BE fr k):=by show(match BE fr k with|some (c,v)=>(k,c,v)::SB ks fr|none=>SB ks fr)=_;cases BE fr k<;>rfl
def kl(k:Nat)(r:AA):Option (Nat×A6)→AA
 |some (g,x)=>(k,g,x)::r
 |none=>r
@[simp] theorem BIU(k:Nat)(r:AA)(g:Nat)(x:A6):kl k r (some (g,x))=(k,g,x)::r:=rfl
@[simp] theorem BIV(k:Nat)(r:AA):kl k r none=r:=rfl
@[simp] theorem A44(L:AA):JT [] L=[]:=rfl
@[simp] theorem AZZ(k:Nat)(ks:List Nat)(L:AA):JT (k::ks) L=kl k (JT ks L) (L.get k):=by unfold kl;simp only[JT];cases L.get k<;>rfl
@[simp] theorem BEC(ks ls:List Nat)(c:Nat)(fr:Fr)(up:List AA)(loc:AA):CI (some (ks,ls)) ⟨c,fr,⟨up,loc⟩⟩=⟨c,SB ks fr,⟨up,JT ls loc⟩⟩:=rfl
@[simp] theorem AZ0:CI none st=st:=rfl
@[simp] theorem BOI:OW (some st)=some (.normal,st):=rfl
@[simp] theorem BED:OW none=none:=rfl
@[simp] theorem BIW(c:Prop)[Decidable c](x y:Option XS):OW (if c then x else y)=if c then OW x else OW y:=by split<;>rfl
@[simp] theorem BEE(l:List I5):IU P E (.str l) st=QL P E l (some st):=rfl
@[simp] theorem BEF(S:List tB):IU P E (.drw S) st=X3 P E S (some st):=rfl
@[simp] theorem BEG(ks:List (Nat×Nat×Nat)):IU P E (.cls ks) st=TJ P ks (some st):=rfl
@[simp] theorem BEH(o:Option XS):TJ P [] o=o:=rfl
@[simp] theorem A45(T a d:Nat)(r:List (Nat×Nat×Nat))(st:XS):TJ P ((T,a,d)::r) (some st)=TJ P r (if xC (CO st.fr (.tmp a))=true then DY (some d) st (ME P st.fr st.s T (.tmp a)) else none):=by
 show TJ P r (Bool.rec _ _ (xC (CO st.fr (.tmp a))))=_;cases xC (CO st.fr (.tmp a))with
 |false=>rfl
 |true=>
  simp only[if_true]
  congr 1
@[simp] theorem BEI(l k g o:Nat):xC (some (.ptr l k g o))=true:=rfl
@[simp] theorem BEJ(rs:List ResultVar):ZH P rs (some (.ret,st))=ZH.finV st.s (F8 P rs st.fr st.s):=rfl
@[simp] theorem AT7(rs:List ResultVar):ZH P rs (some (.normal,st))=ZH.finV st.s (F8 P rs st.fr st.s):=rfl
def AZ1:Option V→Option V
 |some r=>if AH 9 r=true then some r else none
 |none=>none
@[simp] theorem A46(r:V):AZ1 (some r)=if AH 9 r=true then some r else none:=rfl
@[simp] theorem A47(v:V):ZH.finV s (some v)=AZ1 (A9 s 4 v):=by
 unfold ZH.finV AZ1;simp only;cases A9 s 4 v with
 |none=>rfl
 |some r=>simp only[ifB]
@[simp] theorem AZ2(t:Tmp):C3 P fr s (.tmp t)=rdT (BE fr t):=by
 rw[F0];show(match fr.get t with
  |some (true,v)=>some v
  | _=>none)=_
 cases fr.get t with
 |none=>rfl
 |some p=>obtain⟨c,v⟩:=p;cases c<;>rfl
@[simp] theorem BEK(x:ResultVar):F8 P [x] fr s=C3 P fr s x:=by unfold F8;simp only[List.mapM_cons,List.mapM_nil];cases C3 P fr s x<;>rfl
def re2:Option V→Option V→Option V
 |some a,some b=>some (.tup [a,b])
 |_,_=>none
@[simp] theorem BEL(a b:V):re2 (some a) (some b)=some (.tup [a,b]):=rfl
@[simp] theorem BEM(x y:ResultVar):F8 P [x,y] fr s=re2 (C3 P fr s x) (C3 P fr s y):=by unfold F8;simp only[List.mapM_cons,List.mapM_nil];cases C3 P fr s x<;>cases C3 P fr s y<;>rfl
def re3:Option V→Option V→Option V→Option V
 |some a,some b,some c=>some (.tup [a,b,c])
 |_,_,_=>none
@[simp] theorem BEN(a b c:V):re3 (some a) (some b) (some c)=some (.tup [a,b,c]):=rfl
@[simp] theorem AZ3(x y z:ResultVar):F8 P [x,y,z] fr s=re3 (C3 P fr s x) (C3 P fr s y) (C3 P fr s z):=by unfold F8;simp only[List.mapM_cons,List.mapM_nil];cases C3 P fr s x<;>cases C3 P fr s y<;>cases C3 P fr s z<;>rfl
@[simp] theorem AZ4(f:Nat)(k:IntKind)(n:Int):A9 s (f+1) (.int k n)=some (.int k n):=rfl
@[simp] theorem AT8(f:Nat)(b:Bool):A9 s (f+1) (.bool b)=some (.bool b):=rfl
@[simp] theorem AZ5(f:Nat):A9 s (f+1) .nil=some .nil:=rfl
@[simp] theorem AT9(f:Nat)(b:Bool)(es:List (List V)):A9 s (f+1) (.list b es)=some (.list false es):=rfl
def nE(mk:List V→V):Option (List V)→Option V
 |some l=>some (mk l)
 |none=>none
@[simp] theorem BEO(mk:List V→V)(l:List V):nE mk (some l)=some (mk l):=rfl
def R3(f:V→Option V):List V→Option (List V)
 |[]=>some []
 |v::l=>mc2 (f v) (R3 f l)
theorem WB(f:V→Option V):∀(l:List V),l.mapM f=R3 f l
 |[]=>rfl
 |v::l=>by simp only[List.mapM_cons,R3,WB f l];cases f v<;>cases R3 f l<;>rfl
@[simp] theorem BEP(f:V→Option V):R3 f []=some []:=rfl
@[simp] theorem A48(f:V→Option V)(v:V)(l:List V):R3 f (v::l)=mc2 (f v) (R3 f l):=rfl
@[simp] theorem AZ6(f:Nat)(cs:List V):A9 s (f+1) (.agg cs)=nE .agg (R3 (A9 s f) cs):=by simp only[A9,WB];cases R3 (A9 s f) cs<;>rfl
@[simp] theorem AZ7(f:Nat)(cs:List V):A9 s (f+1) (.tup cs)=nE .tup (R3 (A9 s f) cs):=by simp only[A9,WB];cases R3 (A9 s f) cs<;>rfl
def cv1(g m:Nat):Option (Nat×A6)→Option V
 |some (g',.vec _ es)=>if g'=g∧m≤es.length then some (.list false (es.take m)) else none
 |_=>none
@[simp] theorem AK6(g m g':Nat)(T:TypeId)(es:List (List V)):cv1 g m (some (g',.vec T es))=if g'=g∧m≤es.length then some (.list false (es.take m)) else none:=rfl
@[simp] theorem fL(f:Nat)(up:List AA)(loc:AA)(l k g m:Nat):A9 ⟨up,loc⟩ (f+1) (.vec l k g m)=if l=up.length then cv1 g m (loc.get k) else some (.vec l k g m):=by
 simp only[A9];split
 ·cases loc.get k with
  |none=>rfl
  |some z=>obtain⟨g',r⟩:=z;cases r<;>rfl
 ·rfl
@[simp] theorem AUA(t:Nat)(T:TypeId):C3 P fr s (.cell t T)=ld1 P s T (rdT (BE fr t)):=by
 rw[F0];show(match fr.get t with
  |some (true,p)=>(BH s p).bind (BS P T)
  | _=>none)=_
 cases fr.get t with
 |none=>rfl
 |some p=>
  obtain⟨c,v⟩:=p
  cases c with
  |false=>rfl
  |true=>
   simp only[AK0,AK1]
   cases BH s v<;>rfl
section
variable (d:Option Tmp)(c:Nat)
@[simp] theorem BEQ(r:Option XS):X3 P E [] r=r:=rfl
@[simp] theorem A49(p:tB)(S:List tB)(r:Option XS):X3 P E (p::S) r=X3 P E S (QL P E p.sq (fI (X0 P E p.ph (AKN p.new r)))):=rfl
@[simp] theorem BER(r:Option (XS×AN×AN)):X0 P E [] r=r:=rfl
@[simp] theorem A5A(i:I5)(l:List I5)(r:Option (XS×AN×AN)):X0 P E (i::l) r=X0 P E l (tA P E i r):=rfl
@[simp] theorem BIX(new:List Tmp)(up:List AA)(loc:AA):AKN new (some ⟨c,fr,⟨up,loc⟩⟩)=if (new.all fun d=>(loc.get d).isNone)=true then some (⟨c,fr,⟨up,loc⟩⟩,[],[]) else none:=by show(Bool.rec none _ _:Option _)=_;rw[ifB];rfl
@[simp] theorem A5B(rd wr:AN):fI (some (st,rd,wr))=if (wr.all fun p=>!(rd.contains p))=true then some st else none:=by show(Bool.rec none _ _:Option _)=_;rw[ifB]
@[simp] theorem A5C:fI none=none:=rfl
@[simp] theorem BES(c:Prop)[Decidable c](x y:Option (XS×AN×AN)):fI (if c then x else y)=if c then fI x else fI y:=by split<;>rfl
@[simp] theorem A5D(i:I5):tA P E i none=none:=rfl
@[simp] theorem BET(i:I5)(c:Prop)[Decidable c](x y:Option (XS×AN×AN)):tA P E i (if c then x else y)=if c then tA P E i x else tA P E i y:=by split<;>rfl
@[simp] theorem BEU(l:List I5)(c:Prop)[Decidable c](x y:Option (XS×AN×AN)):X0 P E l (if c then x else y)=if c then X0 P E l x else X0 P E l y:=by split<;>rfl
@[simp] theorem BEV(l:List tB)(c:Prop)[Decidable c](x y:Option XS):X3 P E l (if c then x else y)=if c then X3 P E l x else X3 P E l y:=by split<;>rfl
def ph3(rds rd wr:AN):Option (XS×AN)→Option (XS×AN×AN)
 |some (st,w)=>some (st,rds++rd,w++wr)
 |none=>none
@[simp] theorem BEW(rds rd wr w:AN):ph3 rds rd wr (some (st,w))=some (st,rds++rd,w++wr):=rfl
@[simp] theorem BEX(rds rd wr:AN):ph3 rds rd wr none=none:=rfl
@[simp] theorem BIY(rds rd wr:AN)(c:Prop)[Decidable c](x y:Option (XS×AN)):ph3 rds rd wr (if c then x else y)=if c then ph3 rds rd wr x else ph3 rds rd wr y:=by split<;>rfl
@[simp] theorem A5F(i:I5)(rd wr:AN):tA P E i (some (st,rd,wr))=ph3 (II P i.k (CO st.fr)) rd wr (XZ P E i st):=by show(match XZ P E i st with|some (st',w)=>some (st',II P i.k (CO st.fr)++rd,w++wr)|none=>none)=_;cases XZ P E i st<;>rfl
@[simp] theorem A5G(k:IK):XZ P E ⟨none,d,k⟩ st=D3 P E d k st:=rfl
noncomputable def gI0(P:Program)(E:XE)(d:Option Tmp)(k:IK)(st:XS)(w:Bool)(r:Option (Bool×V)):Option (XS×AN):=match r with
 |some (c,.bool b)=>if (c&&(b==w))=true then D3 P E d k st else if C5 k=true then none else some (IY d st,[])
 |_=>none
@[simp] theorem AZ8(t:Tmp)(w:Bool)(k:IK):XZ P E ⟨some (t,w),d,k⟩ st=gI0 P E d k st w (BE st.fr t):=by
 show(match(match BE st.fr t with | some (c,.bool b)=>some (c&&(b == w)) | _=>none:Option Bool)with
  |some true=>D3 P E d k st
  |some false=>Bool.rec (some (IY d st,[])) none (C5 k)
  | none=>none)=_
 unfold gI0;cases BE st.fr t with
 |none=>rfl
 |some p=>
  obtain⟨c,v⟩:=p
  cases v with
  |bool b=>cases h:(c&&(b==w))<;>simp[h,ifB]
  |_=>rfl
@[simp] theorem BEY(k:IK)(w c b:Bool):gI0 P E d k st w (some (c,.bool b))=if (c&&(b==w))=true then D3 P E d k st else if C5 k=true then none else some (IY d st,[]):=rfl
@[simp] theorem BOK(T:TypeId)(x:Operand)(f:Operand→Option V):II P (.ld T x) f=BU (Nat.beq (P.cellsOf T) 1) (f x):=rfl
@[simp] theorem AZ9(x y:Operand)(f:Operand→Option V):K5 f [x,y]=FK (f y):=rfl
@[simp] theorem AQM(b:Bool)(es:List (List V)):FK (some (.list b es))=[]:=rfl
@[simp] theorem AUB:FK (some .nil)=[]:=rfl
@[simp] theorem AUC(l k γ n:Nat):FK (some (.vec l k γ n))=[(l,k)]:=rfl
@[simp] theorem BOL(x:Operand)(f:Operand→Option V):II P (.mv x) f=[]:=rfl
@[simp] theorem BIZ(op:BinOp)(T:TypeId)(x y:Operand)(f:Operand→Option V):II P (.bin op T x y) f=[]:=rfl
@[simp] theorem BOM(T:TypeId)(x:Operand)(i:Nat)(f:Operand→Option V):II P (.fa T x i) f=[]:=rfl
@[simp] theorem BEZ(x y z:Operand)(f:Operand→Option V):II P (.pick x y z) f=[]:=rfl
@[simp] theorem A5H(T:TypeId)(ps:List (Nat×Operand))(f:Operand→Option V):II P (.build T ps) f=[]:=rfl
@[simp] theorem A0A(T:TypeId)(n:Nat)(ps:List (Nat×Operand))(f:Operand→Option V):II P (.buildS T n ps) f=[]:=rfl
@[simp] theorem A5I(T:TypeId)(f:Operand→Option V):II P (.alloc T) f=[]:=rfl
@[simp] theorem BI0(x:Operand)(f:Operand→Option V):II P (.box x) f=[]:=rfl
@[simp] theorem BI1(T:TypeId)(x y:Operand)(f:Operand→Option V):II P (.sto T x y) f=[]:=rfl
@[simp] theorem BI2(x:List Operand)(y:List TypeId)(f:Operand→Option V):II P (.app x y) f=K5 f x:=rfl
@[simp] theorem BE0(b:Bool)(t:Option Tmp)(g:Operand)(x:List Operand)(f:Operand→Option V):II P (.call b t g x) f=[]:=rfl
@[simp] theorem BE1(T:TypeId)(x i:Operand)(f:Operand→Option V):II P (.oth (.indexAddr T x i)) f=K4 (f x):=rfl
@[simp] theorem BON(op:UnOp)(T:TypeId)(x:Operand)(f:Operand→Option V):II P (.oth (.unOp op T x)) f=[]:=rfl
@[simp] theorem BI3(x:Operand)(i:Nat)(f:Operand→Option V):II P (.oth (.extract x i)) f=[]:=rfl
@[simp] theorem BI4(x:Operand)(T:TypeId)(b:Builtin)(f:Operand→Option V):II P (.oth (.call ⟨.builtin b,#[x],#[T]⟩)) f=[]:=by cases b<;>rfl
@[simp] theorem BOO(g:Fn)(x y:Array Operand)(f:Operand→Option V):II P (.oth (.makeFunc g x y)) f=[]:=rfl
def nw:Option XS→Option (XS×AN)
 |some st=>some (st,[])
 |none=>none
@[simp] theorem BI5:nw (some st)=some (st,[]):=rfl
@[simp] theorem BI6:nw none=none:=rfl
@[simp] theorem BOP(c:Prop)[Decidable c](x y:Option XS):nw (if c then x else y)=if c then nw x else nw y:=by split<;>rfl
theorem HD(r:Option XS):VZ r=nw r:=by cases r<;>rfl
@[simp] theorem BE2(x:Operand):D3 P E d (.mv x) st=nw (DD P E d (.mv x) st):=HD _
@[simp] theorem A5J(op:BinOp)(T:TypeId)(x y:Operand):D3 P E d (.bin op T x y) st=nw (DD P E d (.bin op T x y) st):=HD _
@[simp] theorem BE3(T:TypeId)(x:Operand)(f:Nat):D3 P E d (.fa T x f) st=nw (DD P E d (.fa T x f) st):=HD _
@[simp] theorem A5K(T:TypeId)(x:Operand):D3 P E d (.ldz T x) st=D3 P E d (.ld T x) st:=rfl
@[simp] theorem A5L(T:TypeId)(x:Operand):DD P E d (.ldz T x) st=DD P E d (.ld T x) st:=rfl
@[simp] theorem BI7(T:TypeId)(x:Operand)(f:Operand→Option V):II P (.ldz T x) f=[]:=rfl
@[simp] theorem BE4(T:TypeId)(x:Operand):D3 P E d (.ld T x) st=nw (DD P E d (.ld T x) st):=HD _
@[simp] theorem A0B(x y z:Operand):D3 P E d (.pick x y z) st=nw (DD P E d (.pick x y z) st):=HD _
@[simp] theorem AUD(T:TypeId)(ps:List (Nat×Operand)):D3 P E d (.build T ps) st=nw (DD P E d (.build T ps) st):=HD _
@[simp] theorem AQN(T:TypeId)(n:Nat)(ps:List (Nat×Operand)):D3 P E d (.buildS T n ps) st=nw (DD P E d (.buildS T n ps) st):=HD _
@[simp] theorem A5M(op:Op):D3 P E d (.oth op) st=nw (DD P E d (.oth op) st):=HD _
@[simp] theorem AUE(T:TypeId):D3 P E d (.alloc T) st=nw (DD P E d (.alloc T) st):=HD _
@[simp] theorem A5N(x:Operand):D3 P E d (.box x) st=nw (DD P E d (.box x) st):=HD _
@[simp] theorem A5O(x:Option Operand):D3 P E d (.mkM x) st=nw (DD P E d (.mkM x) st):=HD _
@[simp] theorem A5P(T:TypeId)(x y:Operand):D3 P E d (.mkS T x y) st=nw (DD P E d (.mkS T x y) st):=HD _
def wp(p:AN):Option XS→Option (XS×AN)
 |some st=>some (st,p)
 |none=>none
@[simp] theorem BI8(p:AN):wp p (some st)=some (st,p):=rfl
@[simp] theorem BI9(p:AN):wp p none=none:=rfl
@[simp] theorem BOQ(p:AN)(c:Prop)[Decidable c](x y:Option XS):wp p (if c then x else y)=if c then wp p x else wp p y:=by split<;>rfl
@[simp] theorem A5Q(T:TypeId)(x y:Operand):D3 P E d (.sto T x y) st=wp (B5 (Nat.beq (P.cellsOf T) 1) (CO st.fr x)) (DD P E d (.sto T x y) st):=by show(match J4 P d T x y st with|some st'=>some (st',B5 (Nat.beq (P.cellsOf T) 1) (CO st.fr x))|none=>none)=wp _ (J4 P d T x y st);cases J4 P d T x y st<;>rfl
@[simp] theorem BE5(x:Option V):BU false x=BD x:=by cases x<;>rfl
@[simp] theorem A0C(l k g o:Nat):BU true (some (.ptr l k g o))=[(l,k+2000000),(l,k+4000000),(l,6000000+1000*k+o)]:=rfl
@[simp] theorem AUF(l k g i o:Nat):BU true (some (.eptr l k g i o))=[(l,k+2000000),(l,k+4000000),(l,6000000+1000*k+o)]:=rfl
@[simp] theorem A0D(b:Bool)(cs:List V):BU b (some (.ref cs))=[]:=by cases b<;>rfl
@[simp] theorem A0E(l k g o:Nat):B5 true (some (.ptr l k g o))=[(l,k),(l,6000000+1000*k+o)]:=rfl
@[simp] theorem AUG(l k g i o:Nat):B5 true (some (.eptr l k g i o))=[(l,k),(l,6000000+1000*k+o)]:=rfl
@[simp] theorem AUH(l k g o:Nat):B5 false (some (.ptr l k g o))=[(l,k),(l,k+4000000)]:=rfl
@[simp] theorem AQO(l k g i o:Nat):B5 false (some (.eptr l k g i o))=[(l,k),(l,k+4000000)]:=rfl
@[simp] theorem AUI(l k g o:Nat):BD (some (.ptr l k g o))=[(l,k)]:=rfl
@[simp] theorem AQP(l k g i o:Nat):BD (some (.eptr l k g i o))=[(l,k)]:=rfl
@[simp] theorem AUJ(cs:List V):BD (some (.ref cs))=[]:=rfl
@[simp] theorem A0F(l k g o:Nat):K4 (some (.ptr l k g o))=[]:=rfl
@[simp] theorem A0G(l k g n:Nat):K4 (some (.vec l k g n))=[(l,k+GD)]:=rfl
@[simp] theorem AUK(b:Bool)(es:List (List V)):K4 (some (.list b es))=[]:=rfl
@[simp] theorem A0H(cs:List V):K4 (some (.ref cs))=[]:=rfl
noncomputable def c01(E:XE)(d:Option Tmp)(st:XS):Option V→Option (List V)→Option XS
 |some (.fn f first cap),some vs=>DY d st (E.c0 f ((first++vs++cap).map weakV))
 |_,_=>none
@[simp] theorem A0I(f:FuncId)(first cap vs:List V):c01 E d st (some (.fn f first cap)) (some vs)=DY d st (E.c0 f ((first++vs++cap).map weakV)):=rfl
@[simp] theorem A0J(t:Option Tmp)(f:Operand)(args:List Operand):D3 P E d (.call false t f args) ⟨c,fr,s⟩=nw (c01 E d ⟨c,fr,s⟩ (CO fr f) (F3 (CO fr) args)):=by
 show VZ (dZ E.c0 d f args ⟨c,fr,s⟩)=_;rw[HD];congr 1;unfold dZ;cases hf:CO fr f with
 |none=>simp only[c01]
 |some v=>
  cases v with
  |fn g first cap=>
   simp only
   cases hm:F3 (CO fr) args with
   |none=>simp only[c01]
   |some vs=>
    simp only[A0I]
    cases E.c0 g ((first++vs++cap).map weakV)<;>rfl
  |_=>simp only[c01]
@[simp] theorem BOR{A:Ann}{kn:CF0}{n:Nat}:(BN P A kn n).c0=GC P kn (AE P A kn n):=rfl
end
theorem xW{A:Ann}{kn:CF0}{n N:Nat}(a b:Code):sC (AE P A kn n N) a b st (some (.bool true))=AE P A kn n N a st:=rfl
theorem tI{A:Ann}{kn:CF0}{n N:Nat}(a b:Code):sC (AE P A kn n N) a b st (some (.bool false))=AE P A kn n N b st:=rfl
attribute [simp] AKV xT AEV AKT AER xR AES AET AEU AKU xS tD AKW AEW AKX iB xU tE xV xW tI AKZ
end Go.Pg
namespace Go.Pg
variable {P:Program}{E:XE}{st:XS}{fr:Fr}{s:St}
@[simp] theorem A0K(k:IntKind)(n:Int):BI (.int k n)=[.int k n]:=rfl
@[simp] theorem AUL(b:Bool):BI (.bool b)=[.bool b]:=rfl
@[simp] theorem A0L(cs:List V):BI (.agg cs)=cs:=rfl
@[simp] theorem AUM(b:Bool)(es:List (List V)):BI (.list b es)=[.list b es]:=rfl
@[simp] theorem A0M:BI .nil=[.nil]:=rfl
@[simp] theorem A0N(l k g n:Nat):BI (.vec l k g n)=[.vec l k g n]:=rfl
@[simp] theorem A5R(l k g:Nat):BI (.mp l k g)=[.mp l k g]:=rfl
@[simp] theorem A5S(f:FuncId)(x y:List V):BI (.fn f x y)=[.fn f x y]:=rfl
@[simp] theorem A0O(l k g n:Nat):BI (.ptr l k g n)=[.ptr l k g n]:=rfl
@[simp] theorem A0P(cs:List V):BI (.ref cs)=[.ref cs]:=rfl
@[simp] theorem A0Q(k:IntKind)(n:Int):BJ (.int k n)=true:=rfl
@[simp] theorem AUN(b:Bool):BJ (.bool b)=true:=rfl
@[simp] theorem A0R(cs:List V):BJ (.agg cs)=true:=rfl
@[simp] theorem AUO(b:Bool)(es:List (List V)):BJ (.list b es)=true:=rfl
@[simp] theorem A0S:BJ .nil=true:=rfl
@[simp] theorem A0T(l k g n:Nat):BJ (.vec l k g n)=true:=rfl
@[simp] theorem A5T(l k g:Nat):BJ (.mp l k g)=true:=rfl
@[simp] theorem A5U(f:FuncId)(x y:List V):BJ (.fn f x y)=true:=rfl
@[simp] theorem A0U(l k g n:Nat):BJ (.ptr l k g n)=true:=rfl
@[simp] theorem A0V(cs:List V):BJ (.ref cs)=true:=rfl
@[simp] theorem A5V(op:BinOp)(T:TypeId)(k j:IntKind)(a b:Int):H0 P op T (.int k a) (.int j b)=if k=j then FG op k a b else cC op k a b:=rfl
@[simp] theorem BE7(k:IntKind)(a b:Int):cC .shl k a b=if b<0 then none else some (.int k (k.wrap (a*2 ^ (min b.toNat k.bits)))):=rfl
@[simp] theorem WC(k:IntKind)(a b:Int):cC .shr k a b=if b<0 then none else some (.int k (a.fdiv (2 ^ (min b.toNat k.bits)))):=rfl
section
variable (k:IntKind)(a b:Int)
@[simp] theorem A5W:FG .add k a b=some (.int k (k.wrap (a+b))):=rfl
@[simp] theorem A5X:FG .sub k a b=some (.int k (k.wrap (a-b))):=rfl
@[simp] theorem A5Y:FG .mul k a b=some (.int k (k.wrap (a*b))):=rfl
@[simp] theorem A5Z:FG .quo k a b=if b=0 then none else some (.int k (k.wrap (a.tdiv b))):=rfl
@[simp] theorem A50:FG .rem k a b=if b=0 then none else some (.int k (a.tmod b)):=rfl
@[simp] theorem A51:FG .and k a b=some (.int k (k.wrap (BitVec.ofInt k.bits a &&& BitVec.ofInt k.bits b).toNat)):=rfl
@[simp] theorem BE8:FG .or k a b=some (.int k (k.wrap (BitVec.ofInt k.bits a ||| BitVec.ofInt k.bits b).toNat)):=rfl
@[simp] theorem AQQ:FG .andNot k a b=some (.int k (k.wrap (BitVec.ofInt k.bits a &&& ~~~ BitVec.ofInt k.bits b).toNat)):=rfl
@[simp] theorem A52:FG .shl k a b=if b<0 then none else some (.int k (k.wrap (a*2 ^ (min b.toNat k.bits)))):=rfl
@[simp] theorem A53:FG .shr k a b=if b<0 then none else some (.int k (a.fdiv (2 ^ (min b.toNat k.bits)))):=rfl
@[simp] theorem A54:FG .eql k a b=some (.bool (decide (a=b))):=by show some (V.bool (a==b))=_;congr 2
@[simp] theorem A55:FG .neq k a b=some (.bool (!decide (a=b))):=by show some (V.bool (a != b))=_;congr 2
@[simp] theorem A56:FG .lss k a b=some (.bool (decide (a<b))):=rfl
@[simp] theorem A57:FG .leq k a b=some (.bool (decide (a≤b))):=rfl
@[simp] theorem A58:FG .gtr k a b=some (.bool (decide (b<a))):=rfl
@[simp] theorem A59:FG .geq k a b=some (.bool (decide (b≤a))):=rfl
end
theorem AV{x:Int}(h1:-9223372036854775808≤x)(h2:x<9223372036854775808):IntKind.i64.wrap x=x:=by simp only[IntKind.wrap,IntKind.bits,IntKind.signed];simp;omega
@[simp] theorem AUP(T:TypeId)(a b:Bool):H0 P .eql T (.bool a) (.bool b)=if AAL P T=true then some (.bool (a==b)) else none:=rfl
@[simp] theorem AUQ(T:TypeId)(a b:Bool):H0 P .neq T (.bool a) (.bool b)=if AAL P T=true then some (.bool (a != b)) else none:=rfl
def bl1(f:Bool→Bool):Option Bool→Option V
 |some b=>some (.bool (f b))
 |none=>none
@[simp] theorem BE9(f:Bool→Bool)(b:Bool):bl1 f (some b)=some (.bool (f b)):=rfl
@[simp] theorem A0W(T:TypeId)(cs ds:List V):H0 P .eql T (.agg cs) (.agg ds)=bl1 (fun b=>b) (S5 P T cs ds):=by show(S5 P T cs ds).map V.bool=_;cases S5 P T cs ds<;>rfl
@[simp] theorem A0X(T:TypeId)(cs ds:List V):H0 P .neq T (.agg cs) (.agg ds)=bl1 (fun b=>!b) (S5 P T cs ds):=by show(S5 P T cs ds).map (fun b=>V.bool !b)=_;cases S5 P T cs ds<;>rfl
def faP(P:Program)(x:V):Option (TypeId×Nat)→Option V
 |some (U,off)=>if P.cellsOf U=0 then none else match x with
  |.ref cs=>some (.ref (cs.drop off))
  |.ptr l k g o=>some (.ptr l k g (o+off))
  |.eptr l k g i o=>some (.eptr l k g i (o+off))
  |_=>none
 |none=>none
@[simp] theorem BJA(T:TypeId)(x:V)(f:Nat):DP P T x f=faP P x (A8 P T f):=by unfold DP faP;cases A8 P T f<;>rfl
@[simp] theorem BJB(U:TypeId)(off:Nat)(cs:List V):faP P (.ref cs) (some (U,off))=if P.cellsOf U=0 then none else some (.ref (cs.drop off)):=rfl
@[simp] theorem BJC(U:TypeId)(off l k g o:Nat):faP P (.ptr l k g o) (some (U,off))=if P.cellsOf U=0 then none else some (.ptr l k g (o+off)):=rfl
@[simp] theorem BFB(U:TypeId)(off l k g i o:Nat):faP P (.eptr l k g i o) (some (U,off))=if P.cellsOf U=0 then none else some (.eptr l k g i (o+off)):=rfl
def fd1(P:Program)(x:V):Option (TypeId×Nat)→Option V
 |some (U,off)=>match x with
  |.agg cs=>M2 P U cs off
  |_=>none
 |none=>none
@[simp] theorem A0Y(T:TypeId)(x:V)(f:Nat):JI P T x f=fd1 P x (A8 P T f):=by unfold JI fd1;cases x<;>cases A8 P T f<;>rfl
@[simp] theorem BJD(U:TypeId)(off:Nat)(cs:List V):fd1 P (.agg cs) (some (U,off))=M2 P U cs off:=rfl
def cb(g off:Nat):Option (Nat×A6)→Option (List V)
 |some (g',.box cs)=>if g'=g then some (cs.drop off) else none
 |_=>none
@[simp] theorem BJE(g g' off:Nat)(cs:List V):cb g off (some (g',.box cs))=if g'=g then some (cs.drop off) else none:=rfl
def ce(g i off:Nat):Option (Nat×A6)→Option (List V)
 |some (g',.vec _ es)=>if g'=g then(es[i]?).map (·.drop off) else none
 |_=>none
@[simp] theorem BJF(g g' i off:Nat)(T:TypeId)(es:List (List V)):ce g i off (some (g',.vec T es))=if g'=g then(es[i]?).map (·.drop off) else none:=rfl
@[simp] theorem AUR(cs:List V):BH s (.ref cs)=some cs:=rfl
@[simp] theorem AUS(l k g off:Nat):BH s (.ptr l k g off)=cb g off (s.get l k):=by
 unfold cb;simp only[BH];cases s.get l k with
 |none=>rfl
 |some z=>obtain⟨g',r⟩:=z;cases r<;>rfl
@[simp] theorem AQR(l k g i off:Nat):BH s (.eptr l k g i off)=ce g i off (s.get l k):=by
 unfold ce;simp only[BH];cases s.get l k with
 |none=>rfl
 |some z=>obtain⟨g',r⟩:=z;cases r<;>rfl
def iv(P:Program)(e:TypeId)(l k g n:Nat)(j:Int):Option (Nat×A6)→Option V
 |some (g',.vec _ es)=>if g'=g∧0≤j∧j<n∧n≤es.length∧(es.getD j.toNat []).length=P.cellsOf e∧0<P.cellsOf e then some (.eptr l k g j.toNat 0) else none
 |_=>none
@[simp] theorem BJG(e:TypeId)(l k g g' n:Nat)(j:Int)(T:TypeId)(es:List (List V)):iv P e l k g n j (some (g',.vec T es))=if g'=g∧0≤j∧j<n∧n≤es.length∧(es.getD j.toNat []).length=P.cellsOf e∧0<P.cellsOf e then some (.eptr l k g j.toNat 0) else none:=rfl
def ia(P:Program)(s:St)(x i:V):Option (Option Nat×TypeId)→Option V
 |some (none,e)=>match x,i with
  |.list _ es,.int _ j=>if 0≤j∧j<es.length∧(es.getD j.toNat []).length=P.cellsOf e∧0<P.cellsOf e then some (.ref (es.getD j.toNat [])) else none
  |.vec l k g n,.int _ j=>iv P e l k g n j (s.get l k)
  |_,_=>none
 |some (some n,e)=>match x,i with
  |.ref cs,.int _ j=>if 0≤j∧j<n∧0<P.cellsOf e then some (.ref (cs.drop (j.toNat*P.cellsOf e))) else none
  |.ptr l k g o,.int _ j=>if 0≤j∧j<n∧0<P.cellsOf e then some (.ptr l k g (o+j.toNat*P.cellsOf e)) else none
  |.eptr l k g i' o,.int _ j=>if 0≤j∧j<n∧0<P.cellsOf e then some (.eptr l k g i' (o+j.toNat*P.cellsOf e)) else none
  |_,_=>none
 |none=>none
@[simp] theorem BJH(T:TypeId)(x i:V):B7 P s T x i=ia P s x i (B0 P T):=by
 unfold B7 ia;cases B0 P T with
 |none=>rfl
 |some z=>
  obtain⟨n,e⟩:=z
  cases n with
  |some n=>cases x<;>cases i<;>rfl
  |none=>
   cases x with
   |vec l k g n=>
    cases i with
    |int q j=>
     simp only[iv]
     cases s.get l k with
     |none=>rfl
     |some z=>obtain⟨g',r⟩:=z;cases r<;>rfl
    |_=>rfl
   |_=>cases i<;>rfl
@[simp] theorem BJI(e:TypeId)(b:Bool)(es:List (List V))(k:IntKind)(j:Int):ia P s (.list b es) (.int k j) (some (none,e))=if 0≤j∧j<es.length∧(es.getD j.toNat []).length=P.cellsOf e∧0<P.cellsOf e then some (.ref (es.getD j.toNat [])) else none:=rfl
@[simp] theorem BOU(e:TypeId)(l q g n:Nat)(k:IntKind)(j:Int):ia P s (.vec l q g n) (.int k j) (some (none,e))=iv P e l q g n j (s.get l q):=rfl
@[simp] theorem BOV(n:Nat)(e:TypeId)(cs:List V)(k:IntKind)(j:Int):ia P s (.ref cs) (.int k j) (some (some n,e))=if 0≤j∧j<n∧0<P.cellsOf e then some (.ref (cs.drop (j.toNat*P.cellsOf e))) else none:=rfl
@[simp] theorem BOW(n:Nat)(e:TypeId)(l q g o:Nat)(k:IntKind)(j:Int):ia P s (.ptr l q g o) (.int k j) (some (some n,e))=if 0≤j∧j<n∧0<P.cellsOf e then some (.ptr l q g (o+j.toNat*P.cellsOf e)) else none:=rfl
@[simp] theorem BJJ(n:Nat)(e:TypeId)(l q g i o:Nat)(k:IntKind)(j:Int):ia P s (.eptr l q g i o) (.int k j) (some (some n,e))=if 0≤j∧j<n∧0<P.cellsOf e then some (.eptr l q g i (o+j.toNat*P.cellsOf e)) else none:=rfl
def ix(P:Program)(x i:V):Option (Option Nat×TypeId)→Option V
 |some (some n,e)=>match x,i with
  |.agg cs,.int _ j=>if 0≤j∧j<n∧0<P.cellsOf e then M2 P e cs (j.toNat*P.cellsOf e) else none
  |_,_=>none
 |_=>none
@[simp] theorem A0Z(T:TypeId)(x i:V):KE P T x i=ix P x i (B0 P T):=by
 unfold KE ix;cases B0 P T with
 |none=>rfl
 |some z=>obtain⟨n,e⟩:=z;cases n<;>cases x<;>cases i<;>rfl
@[simp] theorem BOX(n:Nat)(e:TypeId)(cs:List V)(k:IntKind)(j:Int):ix P (.agg cs) (.int k j) (some (some n,e))=if 0≤j∧j<n∧0<P.cellsOf e then M2 P e cs (j.toNat*P.cellsOf e) else none:=rfl
theorem QN{T:TypeId}(h:EG P T=true):∃e,P.underlying T=some (.slice e):=by
 unfold EG at h;split at h
 ·rename_i e he;exact⟨e,he⟩
 ·cases h
@[simp] theorem xX{T:TypeId}(h:EG P T=true)(b:Bool)(es:List (List V)):IX P T (.list b es)=some (.int .i64 es.length):=by obtain⟨e,he⟩:=QN h;simp[IX,he]
@[simp] theorem A6A{T:TypeId}(h:EG P T=true)(l k g n:Nat):IX P T (.vec l k g n)=some (.int .i64 n):=by obtain⟨e,he⟩:=QN h;simp[IX,he]
@[simp] theorem AEZ{T:TypeId}(h:EG P T=true):IX P T .nil=some (.int .i64 0):=by obtain⟨e,he⟩:=QN h;simp[IX,he]
def fv(place:Nat→Option (Nat×Nat))(cs:List V)(v:V)(rest:List (Nat×V)):Option (Nat×Nat)→Option (List V)
 |none=>none
 |some (off,size)=>if (BI v).length=size∧off+(BI v).length≤cs.length then DI place (BC cs off (BI v)) rest else none
@[simp] theorem A6B(place:Nat→Option (Nat×Nat))(cs:List V):DI place cs []=some cs:=rfl
@[simp] theorem A00(place:Nat→Option (Nat×Nat))(cs:List V)(i:Nat)(v:V)(rest:List (Nat×V)):DI place cs ((i,v)::rest)=fv place cs v rest (place i):=by simp only[DI];unfold fv;cases place i<;>rfl
@[simp] theorem BJK(place:Nat→Option (Nat×Nat))(cs:List V)(v:V)(rest:List (Nat×V))(off size:Nat):fv place cs v rest (some (off,size))=if (BI v).length=size∧off+(BI v).length≤cs.length then DI place (BC cs off (BI v)) rest else none:=rfl
attribute [simp] BC
@[simp] theorem AUT(size:Nat)(cs:List V):C0 size cs 0=[]:=rfl
@[simp] theorem AUU(size:Nat)(cs:List V)(n:Nat):C0 size cs (n+1)=cs.take size::C0 size (cs.drop size) n:=rfl
def ch1(size len:Nat):Option (List V)→Option V
 |some cs=>some (.list true (C0 size cs len))
 |none=>none
@[simp] theorem BFC(size len:Nat)(cs:List V):ch1 size len (some cs)=some (.list true (C0 size cs len)):=rfl
def bsz(P:Program)(e:TypeId)(len:Nat)(parts:List (Nat×V)):Option (List V)→Option V
 |some z=>if (parts.all fun p=>BJ p.2)=true∧z.length=P.cellsOf e∧0<P.cellsOf e∧len*P.cellsOf e≤2 ^ 24 then
   ch1 (P.cellsOf e) len (DI (fun i=>some (i*P.cellsOf e,P.cellsOf e)) (List.replicate len z).flatten parts) else none
 |none=>none
@[simp] theorem BFD(e:TypeId)(len:Nat)(parts:List (Nat×V))(z:List V):bsz P e len parts (some z)=if (parts.all fun p=>BJ p.2)=true∧z.length=P.cellsOf e∧0<P.cellsOf e∧len*P.cellsOf e≤2 ^ 24 then
   ch1 (P.cellsOf e) len (DI (fun i=>some (i*P.cellsOf e,P.cellsOf e)) (List.replicate len z).flatten parts) else none:=rfl
def bsl(P:Program)(len:Nat)(parts:List (Nat×V)):Option (Option Nat×TypeId)→Option V
 |some (none,e)=>bsz P e len parts (CG P e)
 |_=>none
@[simp] theorem BFE(e:TypeId)(len:Nat)(parts:List (Nat×V)):bsl P len parts (some (none,e))=bsz P e len parts (CG P e):=rfl
@[simp] theorem BJM(T:TypeId)(len:Nat)(parts:List (Nat×V)):CK P T len parts=bsl P len parts (B0 P T):=by
 unfold CK bsl;cases B0 P T with
 |none=>rfl
 |some z=>
  obtain⟨n,e⟩:=z
  cases n with
  |some n=>rfl
  |none=>
   simp only[bsz]
   cases CG P e with
   |none=>rfl
   |some z=>
    simp only
    split
    ·cases DI (fun i=>some (i*P.cellsOf e,P.cellsOf e)) (List.replicate len z).flatten parts<;>rfl
    ·rfl
def fn2(f:FuncId):Option (List V)→Option (List V)→Option V
 |some a,some b=>some (.fn f a b)
 |_,_=>none
@[simp] theorem BFF(f:FuncId)(a b:List V):fn2 f (some a) (some b)=some (.fn f a b):=rfl
@[simp] theorem BO0(f:FuncId)(x y:Array Operand)(r:Operand→Option V):JR P (kL (.makeFunc (.func f) x y)) s r=fn2 f (F3 r x.toList) (F3 r y.toList):=by show((x.toList.mapM r).bind fun a=>(y.toList.mapM r).bind fun b=>some (V.fn f a b))=_;rw[←MF,←MF];cases F3 r x.toList<;>cases F3 r y.toList<;>rfl
@[simp] theorem BJO(x y:Operand)(Ts:Array TypeId)(r:Operand→Option V):JR P (kL (.call ⟨.builtin .max,#[x,y],Ts⟩)) s r=o2 VE (r x) (r y):=nD _ _ _
@[simp] theorem BJP(x y:Operand)(Ts:Array TypeId)(r:Operand→Option V):JR P (kL (.call ⟨.builtin .min,#[x,y],Ts⟩)) s r=o2 VF (r x) (r y):=nD _ _ _
@[simp] theorem A6C(k j:IntKind)(m n:Int):VE (.int k m) (.int j n)=if k=j then some (.int k (if n>m then n else m)) else none:=rfl
@[simp] theorem A6D(k j:IntKind)(m n:Int):VF (.int k m) (.int j n)=if k=j then some (.int k (if n<m then n else m)) else none:=rfl
theorem CA{e:TypeId}{n:Nat}{ys:List (List V)}(hc:0<P.cellsOf e)(hz:ZN P e=true):B9 P e n ys=true↔(ys.all (fun y=>y.length==P.cellsOf e)=true∧n+ys.length≤maxLen∧(n+ys.length)*P.bytesOf e≤140737488355328):=by simp[B9,hc,hz,and_assoc]
end Go.Pg
namespace Go.Pg
variable {P:Program}{E:XE}{st:XS}{fr:Fr}{s:St}
theorem AP{P:Program}{kn:CF0}{rec:GU}{f:FuncId}{args:List V}(h:kn f args=none):A0 P kn rec f args=FB P rec f args:=by unfold A0;rw[h]
def pv(k γ:Nat):List (List V)→V
 |[]=>.nil
 |e::es=>.vec 0 k γ (e::es).length
def pl(k γ:Nat)(T:TypeId):List (List V)→AA
 |[]=>[]
 |e::es=>[(k,γ,.vec T (e::es))]
def sl:List (List V)→V
 |[]=>.nil
 |e::es=>.list false (e::es)
@[simp] theorem BO1(k γ:Nat):pv k γ []=.nil:=rfl
@[simp] theorem BO2(k γ:Nat)(T:TypeId):pl k γ T []=[]:=rfl
@[simp] theorem BJQ(k γ:Nat)(T:TypeId)(es:List (List V))(y:List V)(ys:List (List V)):pl k γ T (es++y::ys)=[(k,γ,.vec T (es++y::ys))]:=by cases es<;>rfl
@[simp] theorem BJR(k γ:Nat)(T:TypeId)(y:List V)(ys:List (List V)):pl k γ T (y::ys)=[(k,γ,.vec T (y::ys))]:=rfl
@[simp] theorem BSK(k γ:Nat)(T:TypeId)(es:List (List V)):kl k [] ((pl k γ T es).get k)=pl k γ T es:=by
 cases es with
 |nil=>rfl
 |cons e es=>simp
@[simp] theorem BFG{k j:Nat}(γ:Nat)(T:TypeId)(es:List (List V))(h:j≠k):(pl k γ T es).get j=none:=by
 cases es with
 |nil=>rfl
 |cons e es=>simp[h]
@[simp] theorem A01(e k c γ:Nat)(loc:AA)(es:List (List V))(y:List V)(ys:List (List V))(hl:AA.get loc k=(pl k γ e es).get k)(h1:es.all (fun y=>y.length==P.cellsOf e)=true)(h2:B9 P e es.length (y::ys)=true) :
  apV P e k c fr ⟨[],loc⟩ (pv k γ es) (y::ys)=some ⟨c+1,(k,true,pv k c (es++y::ys))::fr,⟨[],(k,c,.vec e (es++y::ys))::loc⟩⟩:=by
 cases es with
 |nil=>
  simp only[List.length_nil]at h2
  simp[h2,pv]
 |cons z es=>
  have hl:AA.get loc k=some (γ,.vec e (z::es)):=by rw[hl];simp
  simp only[pv,AQJ,AK5,List.length_nil,if_true,hl,tF,W3,V9,true_and,h1,h2]
  simp[Nat.add_comm,Nat.add_left_comm]
theorem RE{T:TypeId}(f:Nat)(loc:AA)(k γ:Nat)(es:List (List V))(hl:AA.get loc k=(pl k γ T es).get k):A9 ⟨[],loc⟩ (f+1) (pv k γ es)=some (sl es):=by
 cases es with
 |nil=>rfl
 |cons z es=>
  have hl:AA.get loc k=some (γ,.vec T (z::es)):=by rw[hl];simp
  simp only[pv,fL,List.length_nil,if_true,hl,AK6,sl]
  simp
@[simp] theorem A6E(f k γ:Nat)(T:TypeId)(es:List (List V)):A9 ⟨[],pl k γ T es⟩ (f+1) (pv k γ es)=some (sl es):=RE (T:=T) f _ k γ es rfl
@[simp] theorem BFH{T:TypeId}(h:EG P T=true)(es:List (List V)):IX P T (sl es)=some (.int .i64 es.length):=by
 cases es with
 |nil=>exact AEZ h
 |cons e es=>exact xX h _ _
@[simp] theorem BSL(e:TypeId)(es:List (List V))(k:IntKind)(j:Int):ia P s (sl es) (.int k j) (some (none,e))=if 0≤j∧j<es.length∧(es.getD j.toNat []).length=P.cellsOf e∧0<P.cellsOf e then some (.ref (es.getD j.toNat [])) else none:=by
 cases es with
 |nil=>
  rw[if_neg (by simp only[List.length_nil];omega)]
  rfl
 |cons z es=>rfl
@[simp] theorem kQ(f:Nat)(es:List (List V)):AH (f+1) (sl es)=es.all fun e=>e.all (AH f):=by cases es<;>rfl
@[simp] theorem BFI(es:List (List V)):weakN (sl es)=.list false es:=by cases es<;>rfl
@[simp] theorem BFJ(es:List (List V)):weakM (sl es)=.list false es:=by cases es<;>rfl
@[simp] theorem BJS(es:List (List V)):weakV (sl es)=sl es:=by cases es<;>rfl
@[simp] theorem BFK(es:List (List V)):weakC (sl es)=sl es:=by cases es<;>rfl
@[simp] theorem A6F(es:List (List V)):BI (sl es)=[sl es]:=by cases es<;>rfl
@[simp] theorem A6G(es:List (List V)):BJ (sl es)=true:=by cases es<;>rfl
@[simp] theorem A6H(k γ:Nat)(es:List (List V)):BI (pv k γ es)=[pv k γ es]:=by cases es<;>rfl
@[simp] theorem A6I(k γ:Nat)(es:List (List V)):BJ (pv k γ es)=true:=by cases es<;>rfl
@[simp] theorem A02(es:List (List V)):elemsOf s (sl es)=some es:=by cases es<;>rfl
@[simp] theorem A6J(f:Nat)(es:List (List V)):A9 s (f+1) (sl es)=some (sl es):=by cases es<;>rfl
@[simp] theorem A6K(es:List (List V)):FK (some (sl es))=[]:=by cases es<;>rfl
@[simp] theorem A6L(es:List (List V)):K4 (some (sl es))=[]:=by cases es<;>rfl
noncomputable def xY(P:Program)(e:TypeId)(d c:Nat)(fr:Fr)(s:St)(xv:V)(ys:List (List V)):Option (XS×AN):=match JA xv ys with
 |some es=>if es.all (fun y=>y.length==P.cellsOf e)=true∧B9 P e es.length ys=true then some (⟨c+1,(d,true,.vec s.up.length d c (es.length+ys.length))::fr,s.put s.up.length d c (.vec e (es++ys))⟩,[(s.up.length,d),(s.up.length,d+GD)]) else none
 |none=>match xv with
  |.vec l q γ n=>wp [(l,q),(l,q+GD)] (apW P e d c fr s l q γ n ys (S6 n ys (s.get l q)))
  |_=>none
noncomputable def ad4(P:Program)(e:TypeId)(d c:Nat)(fr:Fr)(s:St)(xv:V):Option (List (List V))→Option (XS×AN)
 |some ys=>xY P e d c fr s xv ys
 |none=>none
@[simp] theorem AK7(e:TypeId)(d c:Nat)(xv:V)(ys:List (List V)):ad4 P e d c fr s xv (some ys)=xY P e d c fr s xv ys:=rfl
noncomputable def ad3(P:Program)(d c:Nat)(fr:Fr)(s:St):Option (Option Nat×TypeId)→Option V→Option V→Option (XS×AN)
 |some (none,e),some xv,some yv=>ad4 P e d c fr s xv (elemsOf s yv)
 |_,_,_=>none
@[simp] theorem AK8(d c:Nat)(e:TypeId)(xv yv:V):ad3 P d c fr s (some (none,e)) (some xv) (some yv)=ad4 P e d c fr s xv (elemsOf s yv):=rfl
@[simp] theorem AUV(b:Bool)(es:List (List V)):vO (.list b es)=some es:=rfl
@[simp] theorem A03:vO .nil=some []:=rfl
@[simp] theorem A6M(es:List (List V)):vO (sl es)=some es:=by cases es<;>rfl
@[simp] theorem A6N(d:Tmp)(c:Nat)(x y:Operand)(T:TypeId):D3 P E (some d) (.app [x,y] [T,T]) ⟨c,fr,s⟩=ad3 P d c fr s (B0 P T) (CO fr x) (CO fr y):=by
 show xAppD P (some d) [x,y] [T,T] _=_;unfold xAppD xAppG;simp only[Nat.beq_refl];cases hT:B0 P T with
 |none=>cases CO fr x<;>cases CO fr y<;>rfl
 |some p=>
  obtain⟨k,e⟩:=p
  cases k with
  |some k=>cases CO fr x<;>cases CO fr y<;>rfl
  |none=>
   cases CO fr x with
   |none=>rfl
   |some xv=>
    cases CO fr y with
    |none=>rfl
    |some yv=>
     simp only[AK8]
     cases elemsOf s yv with
     |none=>rfl
     |some ys=>
      simp only[AK7,xY]
      cases JA xv ys with
      |some es=>
       simp only[ifB,Bool.and_eq_true,List.length_append]
       by_cases hC:es.all (fun y=>y.length==P.cellsOf e)=true∧B9 P e es.length ys=true
       ·rw[if_pos hC,if_pos hC]
       ·rw[if_neg hC,if_neg hC]
      |none=>
       simp only
       unfold rW
       cases xv with
       |vec l q γ n=>
        simp only
        cases S6 n ys (s.get l q)with
        |none=>rfl
        |some z=>
         obtain⟨γ',r⟩:=z
         cases r with
         |vec W es=>
          simp only[ifB,Bool.and_eq_true,List.length_append,V9,Nat.beq_eq,and_assoc]
          by_cases hC:γ'=γ∧W=e∧n=es.length∧es.all (fun y=>y.length==P.cellsOf e)=true∧B9 P e es.length ys=true
          ·rw[if_pos hC,if_pos hC];rfl
          ·rw[if_neg hC,if_neg hC];rfl
         |_=>rfl
       |_=>rfl
@[simp] theorem BO4(e k c γ:Nat)(loc:AA)(es:List (List V))(y:List V)(ys:List (List V))(hl:AA.get loc k=(pl k γ e es).get k)(h1:es.all (fun y=>y.length==P.cellsOf e)=true)(h2:B9 P e es.length (y::ys)=true) :
  xY P e k c fr ⟨[],loc⟩ (pv k γ es) (y::ys)=some (⟨c+1,(k,true,pv k c (es++y::ys))::fr,⟨[],(k,c,.vec e (es++y::ys))::loc⟩⟩,[(0,k),(0,k+GD)]):=by
 cases es with
 |nil=>
  simp only[List.length_nil]at h2
  simp[xY,JA,h2,pv]
 |cons z es=>
  have hl:AA.get loc k=some (γ,.vec e (z::es)):=by rw[hl];simp
  simp only[pv,xY,JA,AK5,List.length_nil,if_true,hl,tF,W3,V9,true_and,h1,h2]
  simp[Nat.add_comm,Nat.add_left_comm]
end Go.Pg
namespace Go.Pg
variable {P:Program}{E:XE}{st:XS}{fr:Fr}{s:St}
theorem xZ{α:Type}(x:α):CL [x]=some ([],x):=rfl
def un1{α:Type}(x:α):Option (List α×α)→Option (List α×α)
 |some (a,b)=>some (x::a,b)
 |none=>none
@[simp] theorem BFL{α:Type}(x:α)(a:List α)(b:α):un1 x (some (a,b))=some (x::a,b):=rfl
theorem Y5{α:Type}(x y:α)(l:List α):CL (x::y::l)=un1 x (CL (y::l)):=by simp only[CL];unfold un1;cases CL (y::l)<;>rfl
attribute [simp] xZ Y5
noncomputable def X5(d:Option Tmp)(fr:Fr)(c:Nat)(r:V):Option (List AA×AA)→Option XS
 |some (u,l)=>some ⟨c,putD fr d true r,⟨u,l⟩⟩
 |none=>none
@[simp] theorem A6O(d:Tmp)(c:Nat)(r:V)(u:List AA)(l:AA):X5 (some d) fr c r (some (u,l))=some ⟨c,(d,true,r)::fr,⟨u,l⟩⟩:=rfl
@[simp] theorem BJT(c:Nat)(r:V)(u:List AA)(l:AA):X5 none fr c r (some (u,l))=some ⟨c,fr,⟨u,l⟩⟩:=rfl
noncomputable def tJ(d:Option Tmp)(fr:Fr)(st:XS):Option V→Option XS
 |some r=>X5 d fr st.c r (CL (st.s.up.map (AL st.s)))
 |none=>none
@[simp] theorem A6P(d:Option Tmp)(c:Nat)(fr':Fr)(up:List AA)(loc:AA)(r:V):tJ d fr ⟨c,fr',⟨up,loc⟩⟩ (some r)=X5 d fr c r (CL (up.map (AL ⟨up,loc⟩))):=rfl
noncomputable def clX(s:St):Option V→Option V
 |some r=>A9 s 4 r
 |none=>none
@[simp] theorem BFM(r:V):clX s (some r)=A9 s 4 r:=rfl
noncomputable def fM(P:Program)(d:Option Tmp)(fr:Fr)(rs:List ResultVar)(r:Option (Exit×XS)):Option XS:=match r with
 |some (.ret,st)=>tJ d fr st (clX st.s (F8 P rs st.fr st.s))
 |some (.normal,st)=>tJ d fr st (clX st.s (F8 P rs st.fr st.s))
 |_=>none
@[simp] theorem AK9(d:Option Tmp)(rs:List ResultVar):fM P d fr rs (some (.ret,st))=tJ d fr st (clX st.s (F8 P rs st.fr st.s)):=rfl
@[simp] theorem tK(d:Option Tmp)(rs:List ResultVar):fM P d fr rs (some (.normal,st))=tJ d fr st (clX st.s (F8 P rs st.fr st.s)):=rfl
theorem tL{A:Ann}{kn:CF0}{n:Nat}{f:FuncId}{fn:Func}{code:Code}{args:List V}(hf:P.funcs[f]? = some fn)(hb:fn.body=some code)(hs:Nat.ble args.length fn.ntmps=true)(hcl:(args.all (AH 9)&&!(BL P f))=false)(d:Option Tmp)(c:Nat)(fr:Fr)(up:List AA)(loc:AA) :
  G4 (BN P A kn n) d ⟨c,fr,⟨up,loc⟩⟩ f args=fM P d fr fn.results.toList (AE P A kn n fn.ntmps code ⟨c,AG 0 args,⟨up++[loc],[]⟩⟩):=by
 show(match eB P kn (AE P A kn n) f args ⟨c,fr,⟨up,loc⟩⟩ with
  |some (r,st')=>some (⟨st'.c,putD st'.fr d true r,st'.s⟩:XS)
  | none=>none)=_
 unfold eB
 rw[hcl]
 unfold jR Y2 AAT
 rw[hf]
 simp only[hb,hs]
 generalize AE P A kn n fn.ntmps code ⟨c,AG 0 args,⟨up++[loc],[]⟩⟩=q
 have aux:∀st:XS,(match(match(match AD5 P fn.results.toList st with
   |some (r,c,up)=>match CL up with
    |some (u,l)=>some (r,(⟨c,fr,⟨u,l⟩⟩:XS))
    |none=>none
   | none=>none:Option (V×XS))with
   |some r=>some r
   | none=>none:Option (V×XS))with
  |some (r,st')=>some (⟨st'.c,putD st'.fr d true r,st'.s⟩:XS)
  | none=>none)=tJ d fr st (clX st.s (F8 P fn.results.toList st.fr st.s)):=fun st=>by
  unfold AD5 clX
  cases F8 P fn.results.toList st.fr st.s with
  |none=>rfl
  |some r=>
   cases h:A9 st.s 4 r with
   |none=>simp[tJ,h]
   |some r'=>
    simp only[h,tJ]
    cases CL (st.s.up.map (AL st.s))with
    |none=>rfl
    |some z=>rfl
 cases q with
 |none=>rfl
 |some q=>
  obtain⟨e,st⟩:=q
  have:=aux st
  cases e with
  |ret=>simp only[AK9,←this];cases AD5 P fn.results.toList st with
   |none=>rfl
   |some z=>
    obtain⟨r,c,up⟩:=z
    simp only
    cases CL up<;>rfl
  |normal=>simp only[tK,←this];cases AD5 P fn.results.toList st with
   |none=>rfl
   |some z=>
    obtain⟨r,c,up⟩:=z
    simp only
    cases CL up<;>rfl
  |_=>rfl
theorem BA{A:Ann}{kn:CF0}{n:Nat}{f:FuncId}{fn:Func}{code:Code}{args:List V}(hf:P.funcs[f]? = some fn)(hb:fn.body=some code)(hs:Nat.ble args.length fn.ntmps=true)(hcl:args.all (AH 9)=false)(d:Option Tmp)(c:Nat)(fr:Fr)(up:List AA)(loc:AA) :
  G4 (BN P A kn n) d ⟨c,fr,⟨up,loc⟩⟩ f args=fM P d fr fn.results.toList (AE P A kn n fn.ntmps code ⟨c,AG 0 args,⟨up++[loc],[]⟩⟩) :=
 tL hf hb hs (by rw[hcl,Bool.false_and]) d c fr up loc
theorem ABS{A:Ann}{kn:CF0}{n:Nat}{f:FuncId}{fn:Func}{code:Code}{args:List V}(hf:P.funcs[f]? = some fn)(hb:fn.body=some code)(hs:Nat.ble args.length fn.ntmps=true)(hh:BL P f=true)(d:Option Tmp)(c:Nat)(fr:Fr)(up:List AA)(loc:AA) :
  G4 (BN P A kn n) d ⟨c,fr,⟨up,loc⟩⟩ f args=fM P d fr fn.results.toList (AE P A kn n fn.ntmps code ⟨c,AG 0 args,⟨up++[loc],[]⟩⟩) :=
 tL hf hb hs (by rw[hh,Bool.not_true,Bool.and_false]) d c fr up loc
@[simp] theorem A05(f l k g o:Nat):AH (f+1) (.ptr l k g o)=false:=rfl
@[simp] theorem A06(f l k g o:Nat):AH (f+1) (.vec l k g o)=false:=rfl
@[simp] theorem A6Q(f l k g:Nat):AH (f+1) (.mp l k g)=false:=rfl
@[simp] theorem BFN(l k g o:Nat):weakV (.ptr l k g o)=.ptr l k g o:=rfl
@[simp] theorem BFO(l k g o:Nat):weakV (.vec l k g o)=.vec l k g o:=rfl
@[simp] theorem BFP(cs:List V):weakV (.ref cs)=.ref cs:=rfl
@[simp] theorem BO6(d c:Nat)(f:FuncId)(x y:List V):bx1 d c fr s (some (.fn f x y))=some ⟨c+1,(d,true,.ptr s.up.length d c 0)::fr,s.put s.up.length d c (.box [.fn f x y])⟩:=rfl
@[simp] theorem BJU(d c:Nat)(l k g o:Nat):bx1 d c fr s (some (.ptr l k g o))=some ⟨c+1,(d,true,.ptr s.up.length d c 0)::fr,s.put s.up.length d c (.box [.ptr l k g o])⟩:=rfl
@[simp] theorem BO7(d c:Nat)(es:List (List V)):bx1 d c fr s (some (sl es))=some ⟨c+1,(d,true,.ptr s.up.length d c 0)::fr,s.put s.up.length d c (.box [sl es])⟩:=by cases es<;>rfl
@[simp] theorem FT:AL s []=[]:=rfl
@[simp] theorem A1(k g:Nat)(r:A6)(L:AA):AL s ((k,g,r)::L)=(k,g,CM s r)::AL s L:=rfl
def sr1(r:A6):Option (List V)→A6
 |some ds=>.box ds
 |none=>r
@[simp] theorem BFQ(r:A6)(ds:List V):sr1 r (some ds)=.box ds:=rfl
theorem EO(cs:List V):CM s (.box cs)=sr1 (.box cs) (HM (CD s) cs):=by unfold CM CJ sr1;simp only;cases HM (CD s) cs<;>rfl
attribute [simp] EO
theorem yA(f:V→Option V):HM f []=some []:=rfl
theorem tM(f:V→Option V)(v:V)(l:List V):HM f (v::l)=mc2 (f v) (HM f l):=by
 simp only[HM];cases f v with
 |none=>rfl
 |some x=>cases HM f l<;>rfl
attribute [simp] yA tM
@[simp] theorem AUW(k:IntKind)(n:Int):CD s (.int k n)=some (.int k n):=rfl
@[simp] theorem AQS(b:Bool):CD s (.bool b)=some (.bool b):=rfl
@[simp] theorem AQT(b:Bool)(es:List (List V)):CD s (.list b es)=some (.list b es):=rfl
@[simp] theorem AUX:CD s .nil=some .nil:=rfl
@[simp] theorem A07(es:List (List V)):CD s (sl es)=some (sl es):=by cases es<;>rfl
@[simp] theorem A08(f:FuncId)(x y:List V):CD s (.fn f x y)=A9 s 4 (.fn f x y):=rfl
@[simp] theorem AUY(l k g o:Nat):CD s (.ptr l k g o)=A9 s 4 (.ptr l k g o):=rfl
@[simp] theorem tN(l k g o:Nat):CD s (.vec l k g o)=A9 s 4 (.vec l k g o):=rfl
@[simp] theorem AUZ(cs:List V):CD s (.agg cs)=A9 s 4 (.agg cs):=rfl
@[simp] theorem A6R(f:Nat)(g:FuncId)(x y:List V):A9 s (f+1) (.fn g x y)=fn2 g (R3 (A9 s f) x) (R3 (A9 s f) y):=by simp only[A9,WB,fn2];cases R3 (A9 s f) x<;>cases R3 (A9 s f) y<;>rfl
def cp1(f:List V→Option (List V))(g off:Nat):Option (Nat×A6)→Option V
 |some (g',.box cs)=>if g'=g then(f cs).map fun ds=>.ref (ds.drop off) else none
 |_=>none
@[simp] theorem A09(f:Nat)(up:List AA)(loc:AA)(l k g off:Nat):A9 ⟨up,loc⟩ (f+1) (.ptr l k g off)=if l=up.length then cp1 (R3 (A9 ⟨up,loc⟩ f)) g off (loc.get k) else some (.ptr l k g off):=by
 simp only[A9,WB];split
 ·cases loc.get k with
  |none=>rfl
  |some z=>obtain⟨g',r⟩:=z;cases r<;>rfl
 ·rfl
noncomputable def ow3(d c:Nat)(fr:Fr)(s:St):Option V→Option XS
 |some r=>some ⟨c+1,(d,true,r)::fr,s.put s.up.length d c .dead⟩
 |none=>none
@[simp] theorem BFR(d c:Nat)(r:V):ow3 d c fr s (some r)=some ⟨c+1,(d,true,r)::fr,s.put s.up.length d c .dead⟩:=rfl
theorem AQU:CM s .dead=.dead:=rfl
attribute [simp] AQU
end Go.Pg
