/- Operations of a region with all that hangs on the region alone worked out; running them one after another. No program in sight. -/
import Derived.Test.YthhdhbalenanjaaGreatQ2
namespace Go.Pg
variable {P:Program}{E:XE}
inductive IK where
 |mv (x:Operand)
 |bin (op:BinOp) (T:TypeId) (x y:Operand)
 |fa (T:TypeId) (x:Operand) (f:Nat)
 |ld (T:TypeId) (x:Operand)
 |ldz (T:TypeId) (x:Operand)
 |pick (c a b:Operand)
 |build (T:TypeId) (ps:List (Nat×Operand))
 |buildS (T:TypeId) (n:Nat) (ps:List (Nat×Operand))
 |oth (op:Op)
 |alloc (T:TypeId)
 |box (x:Operand)
 |mkM (r:Option Operand)
 |mkS (T:TypeId) (x y:Operand)
 |sto (T:TypeId) (x y:Operand)
 |upd (T:TypeId) (x i y:Operand)
 |call (own:Bool) (tk:Option Tmp) (f:Operand) (args:List Operand)
 |app (args:List Operand) (Ts:List TypeId)
 |clr (args:List Operand) (Ts:List TypeId)
 |cpy (args:List Operand) (Ts:List TypeId)
def eI (op : Op) : Oper := { dst := none, op := op, type := 0, pos := "", after := #[], guard := none }
def AEL(all:List Oper):List Operand→Option Tmp
 |[]=>none
 |x::r=>match x with
  |.tmp t=>cond (AI9 all t) (some t) (AEL all r)
  |_=>AEL all r
def NC(all:List Oper)(o:Oper):IK:=match o.op with
 |.move x=>.mv x
 |.assign x=>.mv x
 |.binOp op T x y _=>.bin op T x y
 |.fieldAddr T x f=>.fa T x f
 |.load T x=>.ld T x
 |.pick c a b=>.pick c a b
 |.build T ps=>.build T ps.toList
 |.buildSlice T n ps=>.buildS T n ps.toList
 |.alloc T=>.alloc T
 |.box _ x=>.box x
 |.makeMap _ r=>.mkM r
 |.makeSlice T x y=>.mkS T x y
 |.store T x y=>.sto T x y
 |.mapUpdate T x i y=>.upd T x i y
 |.call c=>match c.callee with
  |.value f=>.call (DQ all o) (AEL all c.args.toList) f c.args.toList
  |.builtin .append=>.app c.args.toList c.argTypes.toList
  |.builtin .clear=>.clr c.args.toList c.argTypes.toList
  |.builtin .copy=>.cpy c.args.toList c.argTypes.toList
  |_=>.oth o.op
 |op=>.oth op
structure HX where
 g:Option (Tmp×Bool)
 d:Option Tmp
 k:IK
def comp(all:List Oper)(o:Oper):HX:=⟨KX all o,o.dst,NC all o⟩
def AEM:IK→IK
 |.ld T x=>.ldz T x
 |k=>k
def eJ(all:List Oper)(o:Oper):HX:=⟨KX all o,o.dst,cond (zB all o) (AEM (NC all o)) (NC all o)⟩
noncomputable def DG(d:Option Tmp)(st:XS)(r:Option V):Option XS:=match r with
 |some v=>some ⟨st.c,putD st.fr d true v,st.s⟩
 |none=>none
noncomputable def AM9(tk:Option Tmp)(st:XS):XS:=match tk with
 |none=>st
 | some t=>match(match BQ st.fr t with
   |some (true,.vec l q γ n)=>match st.s.get l q with
    |some (γ',.vec _ es)=>Bool.rec none (some ⟨st.c,(t,true,.list false (es.take n))::st.fr,st.s.put l q γ .dead⟩) (Nat.beq γ' γ&&Nat.ble n es.length&&Nat.blt γ st.c)
    |_=>none
   | _=>none:Option XS)with
  |some st1=>st1
  |none=>st
noncomputable def C0(P:Program)(E:XE)(d:Option Tmp)(k:IK)(st:XS):Option XS:=match k with
 |.mv x=>DG d st (CO st.fr x)
 |.bin op T x y=>DG d st (pP P st.fr op T x y)
 |.fa T x f=>DG d st (xFA P st.fr T x f)
 |.ld T x=>DG d st (LW P st.fr st.s T x)
 |.ldz T x=>DG d st (LW P st.fr st.s T x)
 |.pick c a b=>DG d st (lS st.fr c a b)
 |.build T ps=>DG d st (Q8 P st.fr T ps)
 |.buildS T n ps=>DG d st (MX P st.fr T n ps)
 |.oth op=>DG d st (IL P (eI op) st.s (CO st.fr))
 |.alloc T=>OR P d T st
 |.box x=>lO d x st
 |.mkM r=>xM d r st
 |.mkS T x y=>WB P d T x y st
 |.sto T x y=>I3 P d T x y st
 |.upd T x i y=>AI3 P d T x i y st
 |.call own tk f args=>ZY E own d f args (AM9 tk st)
 |.app args Ts=>xAppend P d args Ts st
 |.clr args Ts=>gB P d args Ts st
 |.cpy args Ts=>tT P d args Ts st
noncomputable def opI(P:Program)(E:XE)(i:HX)(st:XS):Option XS:=match gdX st.fr i.g with
 |some true=>C0 P E i.d i.k st
 |some false=>some (HR i.d st)
 |none=>none
noncomputable def opO(P:Program)(E:XE)(i:HX)(r:Option XS):Option XS:=match r with
 |some st=>opI P E i st
 |none=>none
noncomputable def O4(P:Program)(E:XE):List HX→Option XS→Option XS
 |[],r=>r
 |i::l,r=>O4 P E l (opO P E i r)
theorem aT(all:List Oper)(st:XS):∀(xs:List Operand),(match MZ all st xs with
  |some st1=>st1
  | none=>st)=AM9 (AEL all xs) st
 |[]=>rfl
 |x::r=>by
  unfold MZ AEL;cases x with
  |tmp t=>
   simp only
   cases AI9 all t with
   |false=>exact aT all st r
   |true=>rfl
  |_=>exact aT all st r
theorem A47{o:Oper}{st:XS}:AC4 P (fun _=>false) o st=none:=by unfold AC4;split<;>rfl
theorem AEN(hl:E.lit=fun _=>false)(all:List Oper)(o:Oper)(st:XS):opX P E all o st=opI P E (comp all o) st:=by
 unfold opX opI;rw[hl];simp only[A47];have:(match AC5 all o st with
   |some st1=>QJ P E (DQ all) o st1
   | none=>QJ P E (DQ all) o st)=C0 P E o.dst (NC all o) st:=by
  have ht:∀(r:Option XS),(match r with
   |some st1=>QJ P E (DQ all) o st1
   | none=>QJ P E (DQ all) o st)=QJ P E (DQ all) o (match r with
   |some st1=>st1
   | none=>st):=fun r=>by cases r <;> rfl
  rw[ht]
  obtain⟨d,op,T,pos,af,gd⟩:=o
  cases op with
  |call c=>
   obtain⟨cal,args,Ts⟩:=c
   cases cal with
   |value f=>
    show QJ P E _ _ (match MZ all st args.toList with|some st1=>st1|none=>st)=_
    rw[aT]
    rfl
   |builtin b=>cases b<;>rfl
   |_=>rfl
  |_=>rfl
 show _=(match gdX st.fr (KX all o)with
  |some true=>C0 P E o.dst (NC all o) st
  |some false=>some (HR o.dst st)
  | none=>none)
 cases gdX st.fr (KX all o)with
 |none=>rfl
 |some b=>
  cases b with
  |false=>rfl
  |true=>exact this
theorem H8:∀(l:List HX),O4 P E l none=none
 |[]=>rfl
 |_::l=>H8 l
theorem uT(hl:E.lit=fun _=>false)(all:List Oper):∀(l:List Oper) (st:XS),gF P E all l st=O4 P E (l.map (comp all)) (some st)
 |[],st=>rfl
 |o::l,st=>by
  simp only[gF,List.map_cons,O4,opO];rw[AEN hl];cases opI P E (comp all o) st with
  |none=>exact(H8 _).symm
  |some st'=>exact uT hl all l st'
def HI(P:Program)(k:IK)(r:Operand→Option V):AM:=match k with
 |.ld T x=>BR (Nat.beq (P.cellsOf T) 1) (r x)
 |.app xs _=>J3 r xs
 |.oth op=>EA P (eI op) r
 |_=>[]
noncomputable def DH(P:Program)(E:XE)(d:Option Tmp)(k:IK)(st:XS):Option (XS×AM):=match k with
 |.mv x=>TW (DG d st (CO st.fr x))
 |.bin op T x y=>TW (DG d st (pP P st.fr op T x y))
 |.fa T x f=>TW (DG d st (xFA P st.fr T x f))
 |.ld T x=>TW (DG d st (LW P st.fr st.s T x))
 |.ldz T x=>TW (DG d st (LW P st.fr st.s T x))
 |.pick c a b=>TW (DG d st (lS st.fr c a b))
 |.build T ps=>TW (DG d st (Q8 P st.fr T ps))
 |.buildS T n ps=>TW (DG d st (MX P st.fr T n ps))
 |.oth op=>TW (DG d st (IL P (eI op) st.s (CO st.fr)))
 |.alloc T=>TW (OR P d T st)
 |.box x=>TW (lO d x st)
 |.mkM r=>TW (xM d r st)
 |.mkS T x y=>TW (WB P d T x y st)
 |.sto T x y=>AC7 P d T x y st
 |.upd ..=>none
 |.call own _ f args=>Bool.rec (TW (ZZ E.c0 d f args st)) (TW (HE E.co d f args st)) own
 |.app args Ts=>xAppD P d args Ts st
 |.clr ..=>none
 |.cpy ..=>none
def E1:IK→Bool
 |.alloc _|.box _|.mkM _|.mkS ..|.sto ..|.app ..=>true
 |.call own ..=>own
 |_=>false
noncomputable def VK(P:Program)(E:XE)(i:HX)(st:XS):Option (XS×AM):=match gdX st.fr i.g with
 |some true=>DH P E i.d i.k st
 |some false=>Bool.rec (some (HR i.d st,[])) none (E1 i.k)
 |none=>none
noncomputable def mT(P:Program)(E:XE)(i:HX)(r:Option (XS×AM×AM)):Option (XS×AM×AM):=match r with
 |some (st,rd,wr)=>match VK P E i st with
  |some (st',w)=>some (st',HI P i.k (CO st.fr)++rd,w++wr)
  |none=>none
 |none=>none
noncomputable def VL(P:Program)(E:XE):List HX→Option (XS×AM×AM)→Option (XS×AM×AM)
 |[],r=>r
 |i::l,r=>VL P E l (mT P E i r)
noncomputable def aU(r:Option (XS×AM×AM)):Option XS:=match r with
 |some (st,rd,wr)=>Bool.rec none (some st) (wr.all fun p=>!(rd.contains p))
 |none=>none
structure mU where
 new:List Tmp
 ph:List HX
 sq:List HX
noncomputable def gZ(new:List Tmp)(st:XS):Bool:=new.all fun d=>(st.s.loc.get d).isNone
noncomputable def AEO(new:List Tmp)(r:Option XS):Option (XS×AM×AM):=match r with
 |some st=>Bool.rec none (some (st,[],[])) (gZ new st)
 |none=>none
noncomputable def VM(P:Program)(E:XE):List mU→Option XS→Option XS
 |[],r=>r
 |p::S,r=>VM P E S (O4 P E p.sq (aU (VL P E p.ph (AEO p.new r))))
def eK(l:List Oper)(R:List Nat):List HX:=R.filterMap fun i=>(l[i]?).map (comp l)
def eL(l:List Oper)(R:List Nat):List HX:=R.filterMap fun i=>(l[i]?).map (eJ l)
def uU(l:List Oper)(R:List Nat):List Tmp:=R.filterMap fun i=>match l[i]? with
 |some o=>cond (kA (DQ l) o) o.dst none
 |none=>none
def uV(l:List Oper)(p:List Nat×List Nat):mU:=⟨uU l p.1,eL l p.1,eK l p.2⟩
def inB(l:List Oper)(S:WN):Bool:=S.all fun p=>p.1.all (fun i=>Nat.blt i l.length)&&p.2.all (fun i=>Nat.blt i l.length)
theorem yJ(all:List Oper)(o:Oper)(st:XS):gH P E (DQ all) o st=DH P E o.dst (NC all o) st:=by
 obtain⟨d,op,T,pos,af,gd⟩:=o;cases op with
 |call c=>
  obtain⟨cal,args,Ts⟩:=c
  cases cal with
  |builtin b=>cases b<;>rfl
  |_=>rfl
 |_=>rfl
theorem AR5(all:List Oper)(o:Oper)(r:Operand→Option V):EA P o r=HI P (NC all o) r:=by
 obtain⟨d,op,T,pos,af,gd⟩:=o;cases op with
 |call c=>
  obtain⟨cal,args,Ts⟩:=c
  cases cal with
  |builtin b=>cases b<;>rfl
  |_=>rfl
 |_=>rfl
theorem A48(all:List Oper)(o:Oper):(kA (DQ all) o||kW o||kP o)=E1 (NC all o):=by
 obtain⟨d,op,T,pos,af,gd⟩:=o;cases op with
 |call c=>
  obtain⟨cal,args,Ts⟩:=c
  cases cal with
  |builtin b=>cases b<;>rfl
  |value f=>simp[kA,kW,kP,E1,NC]
  |_=>rfl
 |_=>rfl
theorem AJ1(all:List Oper)(o:Oper)(st:XS):pV P E all o st=VK P E (comp all o) st:=by unfold pV VK;rw[yJ,A48];rfl
theorem rG(d:Option Tmp)(k:IK)(st:XS):DH P E d (AEM k) st=DH P E d k st:=by cases k<;>rfl
theorem AJ2(k:IK):E1 (AEM k)=E1 k:=by cases k<;>rfl
theorem AR6(all:List Oper)(o:Oper)(st:XS):VK P E (eJ all o) st=VK P E (comp all o) st:=by
 unfold eJ comp;cases zB all o with
 |false=>rfl
 |true=>
  show VK P E ⟨KX all o,o.dst,AEM (NC all o)⟩ st=_
  unfold VK
  simp only[rG,AJ2]
theorem AR7(all:List Oper)(o:Oper)(r:Operand→Option V):cond (zB all o) [] (EA P o r)=HI P (eJ all o).k r:=by
 unfold eJ;cases hz:zB all o with
 |false=>exact AR5 all o r
 |true=>
  obtain⟨T,x,ho⟩:=AMT hz
  show[]=HI P (AEM (NC all o)) r
  unfold NC
  rw[ho]
  rfl
theorem PX:∀(l:List HX),VL P E l none=none
 |[]=>rfl
 |_::l=>PX l
theorem AEP(l:List Oper):∀(R:List Nat) (st:XS) (rd wr:AM),R.all (fun i=>Nat.blt i l.length)=true→phX P E l R st rd wr=VL P E (eL l R) (some (st,rd,wr))
 |[],st,rd,wr,_=>rfl
 |i::R,st,rd,wr,h=>by
  simp only[List.all_cons,Bool.and_eq_true,Nat.blt_eq]at h;have hi:=List.getElem?_eq_getElem h.1;have hp:eL l (i::R)=eJ l l[i]::eL l R:=by simp[eL,hi]
  rw[hp];simp only[phX,hi,VL,mT,AJ1,AR6];cases VK P E (comp l l[i]) st with
  |none=>exact(PX _).symm
  |some q=>
   obtain⟨st',w⟩:=q
   simp only
   rw[AEP l R _ _ _ h.2,AR7 l]
theorem AEQ(hl:E.lit=fun _=>false)(l:List Oper):∀(R:List Nat) (st:XS),R.all (fun i=>Nat.blt i l.length)=true→sqX P E l R st=O4 P E (eK l R) (some st)
 |[],st,_=>rfl
 |i::R,st,h=>by
  simp only[List.all_cons,Bool.and_eq_true,Nat.blt_eq]at h;have hi:=List.getElem?_eq_getElem h.1;have hp:eK l (i::R)=comp l l[i]::eK l R:=by simp[eK,hi]
  rw[hp];simp only[sqX,hi,O4,opO,AEN hl];cases opI P E (comp l l[i]) st with
  |none=>exact(H8 _).symm
  |some st'=>exact AEQ hl l R st' h.2
theorem LZ:∀(S:List mU),VM P E S none=none
 |[]=>rfl
 |p::S=>by simp only[VM,AEO,PX,aU,H8];exact LZ S
theorem mV(l:List Oper)(st:XS):∀(R:List Nat),ZO (DQ l) l R st.s.loc=gZ (uU l R) st
 |[]=>rfl
 |i::R=>by
  have ih:=mV l st R;unfold ZO gZ uU at *;simp only[List.all_cons,List.filterMap_cons,ih];cases hi:l[i]? with
  |none=>simp
  |some o=>
   simp only
   cases hk:kA (DQ l) o with
   |false=>simp
   |true=>
    cases hd:o.dst with
    |none=>simp
    |some d=>simp
theorem uW(hl:E.lit=fun _=>false)(l:List Oper):∀(S:WN) (st:XS),inB l S=true→xQ P E l S st=VM P E (S.map (uV l)) (some st)
 |[],st,_=>rfl
 |p::S,st,h=>by
  simp only[inB,List.all_cons,Bool.and_eq_true]at h;obtain⟨⟨h1,h2⟩,h3⟩:=h;simp only[xQ,List.map_cons,VM,uV,AEO,mV];cases gZ (uU l p.1) st with
  |false=>
   simp only[PX,aU,H8]
   exact(LZ _).symm
  |true=>
   simp only[AEP l _ _ _ _ h1]
   cases VL P E (eL l p.1) (some (st,[],[]))with
   |none=>simp only[aU,H8];exact(LZ _).symm
   |some q=>
    obtain⟨st1,rd,wr⟩:=q
    simp only[aU]
    cases (wr.all fun p=>!rd.contains p)with
    |false=>simp only[H8];exact(LZ _).symm
    |true=>
     simp only[AEQ hl l _ _ h2]
     cases O4 P E (eK l p.2) (some st1)with
     |none=>exact(LZ _).symm
     |some GR=>exact uW hl l S GR h3
noncomputable def BF1(P:Program)(d:Option Tmp)(k:IK)(st:XS):Option XS:=match k with
 |.mv x=>DG d st (CO st.fr x)
 |.bin op T x y=>DG d st (pP P st.fr op T x y)
 |.fa T x f=>DG d st (xFA P st.fr T x f)
 |.ld T x=>DG d st (LW P st.fr st.s T x)
 |.ldz T x=>DG d st (LW P st.fr st.s T x)
 |.pick c a b=>DG d st (lS st.fr c a b)
 |.build T ps=>DG d st (Q8 P st.fr T ps)
 |.buildS T n ps=>DG d st (MX P st.fr T n ps)
 |.oth op=>DG d st (IL P (eI op) st.s (CO st.fr))
 |_=>none
noncomputable def BF2(E:XE)(d:Option Tmp)(k:IK)(st:XS):Option XS:=match k with
 |.call _ _ f args=>cY1 E d st (CO st.fr f) (FK (CO st.fr) args)
 |_=>none
noncomputable def BF3(P:Program)(E:XE)(b:Bool)(i:HX)(st:XS):Option XS:=match gdX st.fr i.g with
 |some true=>Bool.rec (ADZ st (BF1 P i.d i.k ⟨st.c,st.fr,⟨[],[]⟩⟩)) (BF2 E i.d i.k st) b
 |_=>none
noncomputable def BF4(P:Program)(E:XE):List (Bool×HX)→Option XS→Option XS
 |[],r=>r
 | i :: l,r=>BF4 P E l (match r with
  |some st=>BF3 P E i.1 i.2 st
  | none=>none)
def A49(l:List Oper)(e:Nat)(R:List Nat):List (Bool×HX):=R.filterMap fun i=>(l[i]?).map fun o=>(Nat.beq i e,comp l o)
def BJ8(l:List Oper):List (Bool×HX):=(eA l).flatMap fun p=>A49 l p.2 p.1
def okY(N:Nat)(l:List Oper):Bool:=W4 N (l.map (KX l)) (eA l) l&&(eA l).all fun p=>p.1.all fun i=>Nat.blt i l.length
inductive IR where
 |str (l:List HX)
 |drw (S:List mU)
 |cls (ks:List (Nat×Nat×Nat))
def uX(P:Program)(ops:List Oper)(draw:Bool):IR:=cond draw (cond (WR P ops) (.cls (H7 ops)) (.drw ((cA ops).map (uV ops)))) (.str (ops.map (comp ops)))
def okR(P:Program)(ops:List Oper)(draw:Bool):Bool:=cond draw (cond (WR P ops) true (inB ops (cA ops))) true
noncomputable def IW(P:Program)(E:XE)(i:IR)(st:XS):Option XS:=match i with
 |.str l=>O4 P E l (some st)
 |.drw S=>VM P E S (some st)
 |.cls ks=>RB P ks (some st)
end Go.Pg
namespace Go.Pg
variable {P:Program}{σ σ':Nat→Nat}{δ:Nat}{pre:List AA}{s:St}{fr:Fr}
abbrev Tr:=Option (List Nat×List Nat)
abbrev Ann:=Nat→Nat→Tr
noncomputable def CE(a:Tr)(st:XS):XS:=match a with
 |some p=>Q9 p.1 p.2 st
 |none=>st
theorem L5{a:Tr}{st:XS}(h:Bd st):KG st (CE a st):=by
 cases a with
 |none=>exact⟨Nat.le_refl _,h,rfl⟩
 |some p=>exact TY h
theorem IE{a:Tr}{st:XS}:(CE a st).c=st.c:=by cases a<;>rfl
theorem J8{n N:Nat}{ρ:Option Nat}{c:Code}{K:Exit→Fr→St→Prop}{a:Tr}{st:XS}(h:BH P n N ρ c K ((CE a st).fr.ren σ pre.length) ((CE a st).s.emb σ pre)):BH P n N ρ c K (st.fr.ren σ pre.length) (st.s.emb σ pre):=by
 cases a with
 |none=>exact h
 |some p=>exact VA h
noncomputable def A5A(P:Program)(E:XE)(a:Tr)(l:List Oper)(draw:Bool)(st:XS):Option XS:=Bool.rec (gF P E l l (CE a st)) (Bool.rec (QL P E l (CE a st)) (RB P (H7 l) (some (CE a st))) (WR P l)) draw
def isY:List Nat→Bool
 |k::_=>Nat.beq k 777
 |[]=>false
noncomputable def AER(P:Program)(E:XE)(N:Nat)(a:Tr)(l:List Oper)(draw:Bool)(us:List Nat)(st:XS):Option XS:=Bool.rec (A5A P (cfU us E) a l draw st) (Bool.rec none (uL P E N l (CE a st)) draw) (isY us)
noncomputable def A9(rec:bJ)(body:Code)(a:Tr)(n:Nat):XS→Option (Exit×XS):=Nat.rec (motive:=fun _=>XS→Option (Exit×XS)) (fun _=>none) (fun _ ih st=>match rec body st with
 |some (.normal,st')=>ih (CE a st')
 | r=>r) n
def hJ(id:Nat)(l:List Oper):Nat:=id+1000*l.length+1000000*(match l with
 |o::_=>match o.dst with
  |some d=>d
  |none=>0
 | []=>0)
def BS:Code→Nat
 |.region id ops _=>hJ id ops.toList
 |.seq a _=>BS a
 |.block _ c=>BS c
 |.loop c=>BS c
 |.scope c=>BS c
 |_=>0
def yK:Tr→List Nat
 |some p=>p.1
 |none=>[]
def ND:Nat:=1000000000000000
def yL:Tr→List Nat
 |some p=>p.2
 |none=>[]
noncomputable def VN(P:Program)(E:XE)(A:Ann)(n N:Nat)(rec:bJ):bJ:=fun code st=>match code with
 |.region id ops draw=>NN (AER P E N (A N (hJ id ops.toList)) ops.toList draw (yL (A N (hJ id ops.toList+ND))) (LY (yK (A N (hJ id ops.toList+ND))) st))
 |.loop body=>A9 rec body (A N (BS body)) n (CE (A N (BS body)) st)
 |c=>TZ P E n N rec c st
noncomputable def AE(P:Program)(A:Ann)(kn:CF0)(n:Nat):GD:=Nat.rec (motive:=fun _=>GD) (fun _ _ _=>none) (fun n ih N=>VN P (AQ6 P kn (fun _ _ _=>none) (fun _=>false) ih) A n N (ih N)) n
theorem AJ3(hP:EB P){E:XE}(hEE:J4 P E){a:Tr}{id:Nat}{ops:Array Oper}{draw:Bool}{N:Nat}(hN:EU N (.region id ops draw)=true){st st':XS}(hx:A5A P E a ops.toList draw st=some st')(hbd:Bd st):KG st st' ∧
  ∀(n:Nat) (ρ:Option Nat) (σ:Nat→Nat) (pre:List AA) (K:Exit→Fr→St→Prop),(∀σ',AU st.c σ σ'→K .normal (st'.fr.ren σ' pre.length) (st'.s.emb σ' pre))→BH P n N ρ (.region id ops draw) K (st.fr.ren σ pre.length) (st.s.emb σ pre):=by
 obtain⟨l⟩:=ops
 have hT:=L5 (a:=a) hbd
 have ext:∀{st'},KG (CE a st) st'→KG st st':=fun h=>⟨by have:=h.c;rwa [IE]at this,h.bd,h.n.trans hT.n⟩
 cases draw with
 |false=>
  simp only[EU,cond_false,Bool.and_eq_true]at hN
  have hx:gF P E l l (CE a st)=some st':=hx
  obtain⟨hE,hs⟩:=gG hEE hT.bd hx
  refine⟨ext hE,fun n ρ σ pre K hk=>J8 (a:=a) ?_⟩
  exact V5 (l.map (KX l)) hN.1 (fZ (TQ hN.2)) (hs σ pre _ fun σ' ha=>hk σ' (by rwa [IE]at ha))
 |true=>
  simp only[EU,cond_true]at hN
  cases hc:WR P l with
  |true=>
   have hx:(Bool.rec (QL P E l (CE a st)) (RB P (H7 l) (some (CE a st))) (WR P l):Option XS)=some st':=hx
   rw[hc]at hx
   obtain⟨hE,hs⟩:=AJQ (id:=id) hP hN hc hx hT.bd
   exact⟨ext hE,fun n ρ σ pre K hk=>J8 (a:=a) (hs n ρ σ pre K fun σ' ha=>hk σ' (by rwa [IE]at ha))⟩
  |false=>
  have hx:(Bool.rec (QL P E l (CE a st)) (RB P (H7 l) (some (CE a st))) (WR P l):Option XS)=some st':=hx
  rw[hc]at hx
  obtain⟨hE,hs⟩:=aK (id:=id) hP hEE hN hx hT.bd
  exact⟨ext hE,fun n ρ σ pre K hk=>J8 (a:=a) (hs n ρ σ pre K fun σ' ha=>hk σ' (by rwa [IE]at ha))⟩
theorem AJ4(hP:EB P){E:XE}(hEE:J4 P E){a:Tr}{us:List Nat}{id:Nat}{ops:Array Oper}{draw:Bool}{N:Nat}(hN:EU N (.region id ops draw)=true){st st':XS}(hx:AER P E N a ops.toList draw us st=some st')(hbd:Bd st):KG st st' ∧
  ∀(n:Nat) (ρ:Option Nat) (σ:Nat→Nat) (pre:List AA) (K:Exit→Fr→St→Prop),(∀σ',AU st.c σ σ'→K .normal (st'.fr.ren σ' pre.length) (st'.s.emb σ' pre))→BH P n N ρ (.region id ops draw) K (st.fr.ren σ pre.length) (st.s.emb σ pre):=by
 unfold AER at hx
 cases hy:isY us with
 |false=>rw[hy]at hx;exact AJ3 hP (ARA hEE _) hN hx hbd
 |true=>
  rw[hy]at hx
  cases draw with
  |false=>cases hx
  |true=>
   have hx:uL P E N ops.toList (CE a st)=some st':=hx
   have hT:=L5 (a:=a) hbd
   obtain⟨hE,hs⟩:=AD1 hP hEE (id:=id) hx hT.bd
   refine⟨⟨by have:=hE.c;rwa [IE]at this,hE.bd,hE.n.trans hT.n⟩,fun n ρ σ pre K hk=>J8 (a:=a) ?_⟩
   exact hs n ρ σ pre K fun σ' ha=>hk σ' (by rwa [IE]at ha)
theorem AES{N:Nat}{rec:bJ}(hrec:Z4 P N rec){body:Code}{a:Tr}(hN:EU N body=true)(m:Nat){st st':XS}{e:Exit}(hx:A9 rec body a m (CE a st)=some (e,st'))(hbd:Bd st):KG st st'∧(∀l,e≠.goto l) ∧
  ∀(n:Nat) (ρ:Option Nat) (σ:Nat→Nat) (pre:List AA) (K:Exit→Fr→St→Prop),(ρ=none∨F5 body=true)→(∀σ',AU st.c σ σ'→K e (st'.fr.ren σ' pre.length) (st'.s.emb σ' pre))→BH P n N ρ (.loop body) K (st.fr.ren σ pre.length) (st.s.emb σ pre):=by
 have up:∀{st st':XS},Bd st→KG (CE a st) st'→KG st st':=fun hbd h=>⟨by have:=h.c;rwa [IE]at this,h.bd,h.n.trans (L5 hbd).n⟩
 have ext:∀(m:Nat) {st:XS},A9 rec body a m (CE a st)=some (e,st')→Bd st→KG st st'∧(∀l,e≠.goto l):=by
  intro m;induction m with
  |zero=>intro st hx _;cases hx
  |succ m ih=>
   intro st hx hbd
   have hx:(match rec body (CE a st)with
    |some (.normal,st')=>A9 rec body a m (CE a st')
    | r=>r)=some (e,st'):=hx
   have hT:=L5 (a:=a) hbd
   split at hx
   ·rename_i st1 h1;obtain⟨hE,_,_⟩:=hrec _ _ _ _ h1 hT.bd hN;obtain⟨hE',hg⟩:=ih hx hE.bd;exact⟨up hbd ⟨Nat.le_trans hE.c hE'.c,hE'.bd,hE'.n.trans hE.n⟩,hg⟩
   ·obtain⟨hE,hg,_⟩:=hrec _ _ _ _ hx hT.bd hN;exact⟨up hbd ⟨hE.c,hE.bd,hE.n⟩,hg⟩
 obtain⟨hE,hg⟩:=ext m hx hbd
 refine⟨hE,hg,fun n ρ σ pre K hρ hk=>?_⟩
 refine dD (fun m fr s=>∃(st:XS) (σ:Nat→Nat),fr=st.fr.ren σ pre.length∧s=st.s.emb σ pre∧Bd st∧A9 rec body a m (CE a st)=some (e,st')∧∀σ',AU st.c σ σ'→K e (st'.fr.ren σ' pre.length) (st'.s.emb σ' pre)) m ⟨st,σ,rfl,rfl,hbd,hx,hk⟩ ?_
 rintro m fr s ⟨st,σ,rfl,rfl,hbd,hx,hk⟩
 cases m with
 |zero=>cases hx
 |succ m=>
  have hx:(match rec body (CE a st)with
   |some (.normal,st')=>A9 rec body a m (CE a st')
   | r=>r)=some (e,st'):=hx
  have hT:=L5 (a:=a) hbd
  refine J8 (a:=a) ?_
  split at hx
  ·rename_i st1 h1;obtain⟨hE,_,hC⟩:=hrec _ _ _ _ h1 hT.bd hN;refine hC n ρ σ pre _ hρ fun σ' ha=>?_;rw[IE]at ha;exact⟨m,Nat.lt_succ_self _,st1,σ',rfl,rfl,hE.bd,hx,fun σ'' ha'=>hk σ'' (ha.trans ha' (by have:=hE.c;rwa [IE]at this))⟩
  ·rename_i hne;obtain⟨hE,hg,hC⟩:=hrec _ _ _ _ hx hT.bd hN;refine hC n ρ σ pre _ hρ fun σ' ha=>?_;rw[IE]at ha;have:=hk σ' ha;cases e with
   |normal=>exact absurd hx (hne st')
   |_=>exact this
theorem hQ(hP:EB P){E:XE}(hEE:J4 P E){A:Ann}{N:Nat}{rec:bJ}(hrec:Z4 P N rec)(m:Nat):Z4 P N (VN P E A m N rec):=by
 intro code st e st' hx hbd hN;unfold VN at hx;split at hx
 ·rename_i id ops draw;obtain⟨rfl,hx2⟩:=mO hx;have hT:=uG (yK (A N (hJ id ops.toList+ND))) hbd;obtain⟨hE,hs⟩:=AJ4 hP hEE hN hx2 hT.bd;exact⟨⟨Nat.le_trans hT.c hE.c,hE.bd,hE.n.trans hT.n⟩,(by intro l h;cases h),fun n ρ σ pre K _ hk=>mJ _ (hs n ρ σ pre K fun σ' ha=>hk σ' (by rwa [AM0]at ha))⟩
 ·rename_i body;have hN:EU N body=true:=hN;obtain⟨h1,h2,h3⟩:=AES hrec hN m hx hbd;exact⟨h1,h2,fun n ρ σ pre K hρ hk=>h3 n ρ σ pre K hρ hk⟩
 ·exact mP hP hEE hrec m _ _ _ _ hx hbd hN
theorem aV(hP:EB P){A:Ann}{kn:CF0}(hkn:HD P kn):∀n,Z5 P (AE P A kn n)
 |0=>fun N code st e st' hx=>by cases hx
 |n+1=>fun N=>by have ih:=aV hP (A:=A) hkn n;exact hQ hP ⟨ADE hP hkn ih,AJS hP ih,Z9 hP hkn ih,ADD hP hkn (ko:=fun _ _ _=>none) (fun _ _ _ _ h=>by cases h) ih⟩ (ih N) n
theorem AET(hP:EB P){A:Ann}{kn:CF0}(hkn:HD P kn){n:Nat}{f:FuncId}{args:List V}{r:V}(h:EX P (AE P A kn n) f args=some r)(s:St):FE P f args s fun r' s'=>r'=r∧s'=s :=
 (Z7 hP (aV hP hkn n) f args r h).1 s
section
variable {A:Ann}{kn:CF0}{n N:Nat}{st:XS}
noncomputable abbrev BN(P:Program)(A:Ann)(kn:CF0)(n:Nat):XE:=AQ6 P kn (fun _ _ _=>none) (fun _=>false) (AE P A kn n)
theorem AEU(a b:Code):AE P A kn (n+1) N (.seq a b) st=gJ (AE P A kn n N) b (AE P A kn n N a st):=rfl
theorem yM(c:Operand)(a b:Code):AE P A kn (n+1) N (.cond c a b) st=lZ (AE P A kn n N) a b st (CO st.fr c):=rfl
theorem rH(id:Nat)(b:Code):AE P A kn (n+1) N (.block id b) st=M1 id (AE P A kn n N b st):=rfl
theorem yN(b:Code):AE P A kn (n+1) N (.loop b) st=A9 (AE P A kn n N) b (A N (BS b)) n (CE (A N (BS b)) st):=rfl
theorem yO:AE P A kn (n+1) N .skip st=some (.normal,st):=rfl
theorem yP(id:Nat):AE P A kn (n+1) N (.exit id) st=some (.exit id,st):=rfl
theorem AEV:AE P A kn (n+1) N .ret st=some (.ret,st):=rfl
theorem rI(b:Code):AE P A kn (n+1) N (.scope b) st=AE P A kn n N b st:=rfl
theorem aW(g:Operand)(ps:Array Tmp)(asg body:Code):AE P A kn (n+1) N (.rangeFunc g ps asg body) st=VB (BN P A kn n).cf N g ps.toList asg body st:=rfl
theorem AEW(a b:Code):BS (.seq a b)=BS a:=rfl
theorem rJ(id:Nat)(b:Code):BS (.block id b)=BS b:=rfl
theorem yQ(b:Code):BS (.loop b)=BS b:=rfl
theorem AB(rec:bJ)(body:Code)(a:Tr):A9 rec body a (n+1) st=match rec body st with
 |some (.normal,st')=>A9 rec body a n (CE a st')
 |r=>r:=rfl
theorem mW(rec:bJ)(b:Code):gJ rec b (some (.normal,st))=rec b st:=rfl
theorem AEX(rec:bJ)(b:Code):gJ rec b (some (.ret,st))=some (.ret,st):=rfl
theorem yR(rec:bJ)(b:Code)(i:Nat):gJ rec b (some (.exit i,st))=some (.exit i,st):=rfl
theorem AEY(rec:bJ)(b:Code)(c:Prop)[Decidable c](x y:Option (Exit×XS)):gJ rec b (if c then x else y)=if c then gJ rec b x else gJ rec b y:=by split<;>rfl
theorem cI(id:Nat):M1 id (some (.normal,st))=some (.normal,st):=rfl
theorem rK(id:Nat):M1 id (some (.ret,st))=some (.ret,st):=rfl
theorem mX(id i:Nat):M1 id (some (.exit i,st))=if i=id then some (.normal,st) else some (.exit i,st):=by
 show(Bool.rec _ _ (Nat.beq i id):Option (Exit×XS))=_;by_cases h:i=id
 ·subst h;simp
 ·have:Nat.beq i id=false:=by
   cases hb:Nat.beq i id with
   |false=>rfl
   |true=>exact absurd (Nat.eq_of_beq_eq_true hb) h
  simp[h,this]
theorem rL(id:Nat)(c:Prop)[Decidable c](x y:Option (Exit×XS)):M1 id (if c then x else y)=if c then M1 id x else M1 id y:=by split<;>rfl
def uY:Code→Bool
 |.region ..=>true
 |_=>false
def WF:Code→List Oper
 |.region _ ops _=>ops.toList
 |_=>[]
def O5:Code→Bool
 |.region _ _ d=>d
 |_=>false
theorem uZ(us:List Nat){E:XE}(h:E.lit=fun _=>false):(cfU us E).lit=fun _=>false:=by cases us<;>exact h
theorem L6{r:Code}(hr:uY r=true){i:IR}(hi:uX P (WF r) (O5 r)=i)(hok:okR P (WF r) (O5 r)=true){a:Tr}(ha:A N (BS r)=a){ks us:List Nat}(ht:yK (A N (BS r+ND))=ks)(hu:yL (A N (BS r+ND))=us)(hy:isY us=false:=by rfl):AE P A kn (n+1) N r st=NN (IW P (cfU us (BN P A kn n)) i (CE a (LY ks st))):=by
 cases r with
 |region id ops draw=>
  subst hi ha ht hu
  show NN (AER P _ N (A N (hJ id ops.toList)) ops.toList draw (yL (A N (hJ id ops.toList+ND))) (LY (yK (A N (hJ id ops.toList+ND))) st))=_
  unfold AER
  rw[show isY (yL (A N (hJ id ops.toList+ND)))=false from hy]
  cases draw with
  |false=>exact congrArg NN (uT (uZ _ rfl) _ _ _)
  |true=>
   show NN (Bool.rec (QL P _ ops.toList _) (RB P (H7 ops.toList) (some _)) (WR P ops.toList))=NN (IW P _ (cond (WR P ops.toList) (.cls (H7 ops.toList)) (.drw ((cA ops.toList).map (uV ops.toList)))) _)
   have hok:cond (WR P ops.toList) true (inB ops.toList (cA ops.toList))=true:=hok
   cases hc:WR P ops.toList with
   |true=>rfl
   |false=>
    rw[hc]at hok
    exact congrArg NN (uW (uZ _ rfl) _ _ _ hok)
 |_=>cases hr
theorem DT{r:Code}(hr:uY r=true){i:IR}(hi:uX P (WF r) (O5 r)=i)(hok:okR P (WF r) (O5 r)=true){a:Tr}(ha:A N (BS r)=a){ks:List Nat}(ht:yK (A N (BS r+ND))=ks)(hu:yL (A N (BS r+ND))=[]:=by kernel_rfl):AE P A kn (n+1) N r st=NN (IW P (BN P A kn n) i (CE a (LY ks st))):=L6 hr hi hok ha ht hu rfl
theorem AEZ{r:Code}(hr:uY r=true){i:IR}(hi:uX P (WF r) (O5 r)=i)(hok:okR P (WF r) (O5 r)=true){a:Tr}(ha:A N (BS r)=a)(ht:A N (BS r+ND)=none:=by kernel_rfl):AE P A kn (n+1) N r st=NN (IW P (BN P A kn n) i (CE a st)):=DT hr hi hok ha (congrArg yK ht) (congrArg yL ht)
noncomputable def WS(P:Program)(rs:List ResultVar)(r:Option (Exit×XS)):Option V:=match r with
 |some (.ret,st)=>finV st.s (F0 P rs st.fr st.s)
 |some (.normal,st)=>finV st.s (F0 P rs st.fr st.s)
 |_=>none
where finV (s:St) (r:Option V):Option V:=match r with
 |some v=>match AZ s 4 v with
  |some r'=>Bool.rec none (some r') (AK 9 r')
  |none=>none
 |none=>none
theorem AO{f:FuncId}{fn:Func}{c:Code}{args:List V}{rec:GD}(hf:P.funcs[f]? = some fn)(hb:fn.body=some c)(hs:Nat.ble args.length fn.ntmps=true)(hcl:args.all (AK 9)=true) :
  EX P rec f args=WS P fn.results.toList (rec fn.ntmps c ⟨0,AG 0 args,⟨[],[]⟩⟩):=by
 unfold EX dR WD tV
 rw[hcl,hf]
 simp only[hb,hs]
 generalize rec fn.ntmps c ⟨0,AG 0 args,⟨[],[]⟩⟩=q
 have aux:∀st:XS,(match(match F0 P fn.results.toList st.fr st.s with
   |some r=>match AZ st.s 4 r with
    |some r'=>some (r',st.c,st.s.up.map (AN st.s))
    |none=>none
   | none=>none:Option (V×Nat×List AA))with
  |some (r,_,_)=>(Bool.rec none (some r) (AK 9 r):Option V)
  | none=>none)=WS.finV st.s (F0 P fn.results.toList st.fr st.s):=fun st=>by
  unfold WS.finV
  cases F0 P fn.results.toList st.fr st.s with
  |none=>rfl
  |some r=>
   cases h:AZ st.s 4 r with
   |none=>simp[h]
   |some r'=>simp[h]
 cases q with
 |none=>rfl
 |some q=>
  obtain⟨e,st⟩:=q
  cases e with
  |ret=>exact aux st
  |normal=>exact aux st
  |_=>rfl
theorem AE0(rs:List ResultVar)(c:Prop)[Decidable c](x y:Option (Exit×XS)):WS P rs (if c then x else y)=if c then WS P rs x else WS P rs y:=by split<;>rfl
end
def K8:Code→List Nat→Code
 |c,[]=>c
 |.seq a b,i::p=>bif Nat.beq i 0 then K8 a p else K8 b p
 |.cond _ a b,i::p=>bif Nat.beq i 0 then K8 a p else K8 b p
 |.block _ a,_::p=>K8 a p
 |.loop a,_::p=>K8 a p
 |.scope a,_::p=>K8 a p
 |.rangeFunc _ _ a b,i::p=>bif Nat.beq i 0 then K8 a p else K8 b p
 |c,_=>c
def AR8(fn:Func):Code:=match fn.body with
 |some c=>c
 |none=>.skip
end Go.Pg
namespace Go.Pg
variable {P:Program}{E:XE}{st:XS}{fr:Fr}{s:St}
@[simp] theorem A5B(r:Option XS):O4 P E [] r=r:=rfl
@[simp] theorem AWP(i:HX)(l:List HX)(r:Option XS):O4 P E (i::l) r=O4 P E l (opO P E i r):=rfl
@[simp] theorem A5C(i:HX):opO P E i (some st)=opI P E i st:=rfl
@[simp] theorem A5D(i:HX):opO P E i none=none:=rfl
@[simp] theorem BAG(i:HX)(c:Prop)[Decidable c](x y:Option XS):opO P E i (if c then x else y)=if c then opO P E i x else opO P E i y:=by split<;>rfl
@[simp] theorem A5E(l:List HX)(c:Prop)[Decidable c](x y:Option XS):O4 P E l (if c then x else y)=if c then O4 P E l x else O4 P E l y:=by split<;>rfl
noncomputable def gI(P:Program)(E:XE)(d:Option Tmp)(k:IK)(st:XS)(w:Bool)(r:Option (Bool×V)):Option XS:=match r with
 |some (c,.bool b)=>Bool.rec (some (HR d st)) (C0 P E d k st) (c&&(b==w))
 |_=>none
@[simp] theorem A5F(d:Option Tmp)(k:IK):opI P E ⟨none,d,k⟩ st=C0 P E d k st:=rfl
@[simp] theorem AWQ(t:Tmp)(w:Bool)(d:Option Tmp)(k:IK):opI P E ⟨some (t,w),d,k⟩ st=gI P E d k st w (BQ st.fr t):=by
 show(match(match BQ st.fr t with | some (c,.bool b)=>some (c&&(b == w)) | _=>none:Option Bool)with
  |some true=>C0 P E d k st
  |some false=>some (HR d st)
  | none=>none)=_
 unfold gI;cases BQ st.fr t with
 |none=>rfl
 |some p=>
  obtain⟨c,v⟩:=p
  cases v with
  |bool b=>cases h:(c&&(b==w))<;>simp[h]
  |_=>rfl
@[simp] theorem BJ9(d:Option Tmp)(k:IK):gI P E d k st true (some (true,.bool true))=C0 P E d k st:=rfl
@[simp] theorem BKA(d:Option Tmp)(k:IK):gI P E d k st true (some (true,.bool false))=some (HR d st):=rfl
@[simp] theorem BKB(d:Option Tmp)(k:IK):gI P E d k st false (some (true,.bool true))=some (HR d st):=rfl
@[simp] theorem BKC(d:Option Tmp)(k:IK):gI P E d k st false (some (true,.bool false))=C0 P E d k st:=rfl
@[simp] theorem BKD(d:Option Tmp)(k:IK)(w b:Bool):gI P E d k st w (some (false,.bool b))=some (HR d st):=rfl
@[simp] theorem A5G(d:Tmp)(c:Nat)(fr:Fr)(s:St):HR (some d) ⟨c,fr,s⟩=⟨c,(d,false,.bool false)::fr,s⟩:=rfl
@[simp] theorem A5H(c:Nat)(fr:Fr)(s:St):HR none ⟨c,fr,s⟩=⟨c,fr,s⟩:=rfl
@[simp] theorem A5I(k:Nat):BQ [] k=none:=rfl
@[simp] theorem AWR(j:Nat)(x:Bool×V)(fr:Fr)(k:Nat):BQ ((j,x)::fr) k=if k=j then some x else BQ fr k:=by rw[E9,E9];rfl
@[simp] theorem AR9(j:Nat)(x:Nat×AX)(L:AA)(k:Nat):AA.get ((j,x)::L) k=if k=j then some x else L.get k:=rfl
def rdT:Option (Bool×V)→Option V
 |some (true,v)=>some v
 |_=>none
@[simp] theorem AE1(v:V):rdT (some (true,v))=some v:=rfl
@[simp] theorem AWT(v:V):rdT (some (false,v))=none:=rfl
@[simp] theorem A5J:rdT none=none:=rfl
@[simp] theorem BAH(t:Tmp):CO fr (.tmp t)=rdT (BQ fr t):=by
 show(match BQ fr t with
  |some (true,v)=>some v
  | _=>none)=_
 cases BQ fr t with
 |none=>rfl
 |some p=>obtain⟨c,v⟩:=p;cases c<;>rfl
@[simp] theorem AWU(v:Value):CO fr (.const v)=CP v:=rfl
@[simp] theorem A5K(f:FuncId):CO fr (.func f)=some (.fn f [] []):=rfl
@[simp] theorem BAI(t:Tmp):rdC fr (.tmp t)=BQ fr t:=rfl
@[simp] theorem A5L(b:Bool):rdC fr (.const (.bool b))=some (true,.bool b):=rfl
@[simp] theorem ASA(k:IntKind)(n:Int):CP (.int k n)=some (.int k n):=rfl
@[simp] theorem ANB(b:Bool):CP (.bool b)=some (.bool b):=rfl
@[simp] theorem ASB:CP (.slice none 0 0)=some .nil:=rfl
@[simp] theorem AWV(d:Tmp)(c:Nat)(fr:Fr)(s:St)(v:V):DG (some d) ⟨c,fr,s⟩ (some v)=some ⟨c,(d,true,v)::fr,s⟩:=rfl
@[simp] theorem BAJ(c:Nat)(fr:Fr)(s:St)(v:V):DG none ⟨c,fr,s⟩ (some v)=some ⟨c,fr,s⟩:=rfl
@[simp] theorem AWW(d:Option Tmp):DG d st none=none:=rfl
@[simp] theorem A5M(d:Option Tmp)(c:Prop)[Decidable c](x y:Option V):DG d st (if c then x else y)=if c then DG d st x else DG d st y:=by split<;>rfl
section
variable (d:Option Tmp)(c:Nat)
@[simp] theorem A5N(x:Operand):C0 P E d (.mv x) ⟨c,fr,s⟩=DG d ⟨c,fr,s⟩ (CO fr x):=rfl
def ASC(P:Program)(op:BinOp)(T:TypeId):Option V→Option V→Option V
 |some a,some b=>GY P op T a b
 |_,_=>none
@[simp] theorem AWX(op:BinOp)(T:TypeId)(a b:V):ASC P op T (some a) (some b)=GY P op T a b:=rfl
@[simp] theorem AWY(op:BinOp)(T:TypeId)(x y:Operand):C0 P E d (.bin op T x y) ⟨c,fr,s⟩=DG d ⟨c,fr,s⟩ (ASC P op T (CO fr x) (CO fr y)):=by show DG d _ (pP P fr op T x y)=_;unfold pP ASC;cases CO fr x<;>cases CO fr y<;>rfl
def fa1(P:Program)(T:TypeId)(f:Nat):Option V→Option V
 |some p=>C6 P T p f
 |none=>none
@[simp] theorem A5O(T:TypeId)(f:Nat)(p:V):fa1 P T f (some p)=C6 P T p f:=rfl
@[simp] theorem A5P(T:TypeId)(x:Operand)(f:Nat):C0 P E d (.fa T x f) ⟨c,fr,s⟩=DG d ⟨c,fr,s⟩ (fa1 P T f (CO fr x)):=by show DG d _ (xFA P fr T x f)=_;unfold xFA fa1;cases CO fr x<;>rfl
def wh1(P:Program)(T:TypeId):Option (List V)→Option V
 |some cs=>BL P T cs
 |none=>none
@[simp] theorem A5Q(T:TypeId)(cs:List V):wh1 P T (some cs)=BL P T cs:=rfl
def ld1(P:Program)(s:St)(T:TypeId):Option V→Option V
 |some p=>wh1 P T (A5 s p)
 |none=>none
@[simp] theorem AE2(T:TypeId)(p:V):ld1 P s T (some p)=wh1 P T (A5 s p):=rfl
@[simp] theorem A5R(T:TypeId)(x:Operand):C0 P E d (.ld T x) ⟨c,fr,s⟩=DG d ⟨c,fr,s⟩ (ld1 P s T (CO fr x)):=by
 show DG d _ (LW P fr s T x)=_;unfold LW ld1;cases CO fr x with
 |none=>rfl
 |some p=>unfold wh1;cases A5 s p<;>rfl
noncomputable def pk3:Option V→Option (Bool×V)→Option (Bool×V)→Option V
 |some (.bool c),some (ca,.bool a),some (cb,.bool b)=>Bool.rec (Bool.rec none (some (.bool b)) cb) (Bool.rec none (some (.bool a)) ca) c
 |_,_,_=>none
@[simp] theorem A5S(a cb b:Bool):pk3 (some (.bool true)) (some (true,.bool a)) (some (cb,.bool b))=some (.bool a):=rfl
@[simp] theorem AWZ(ca a b:Bool):pk3 (some (.bool false)) (some (ca,.bool a)) (some (true,.bool b))=some (.bool b):=rfl
@[simp] theorem A5T(c a b:Bool):pk3 (some (.bool c)) (some (true,.bool a)) (some (true,.bool b))=some (.bool (if c then a else b)):=by cases c<;>rfl
@[simp] theorem ASD(x y z:Operand):C0 P E d (.pick x y z) ⟨c,fr,s⟩=DG d ⟨c,fr,s⟩ (pk3 (CO fr x) (rdC fr y) (rdC fr z)):=rfl
def BF6(f:Operand→Option V):List (Nat×Operand)→Option (List (Nat×V)):=C4 f
def ba2:Option V→Nat→Option (List (Nat×V))→Option (List (Nat×V))
 |some v,i,some l=>some ((i,v)::l)
 |_,_,_=>none
@[simp] theorem A5U(v:V)(i:Nat)(l:List (Nat×V)):ba2 (some v) i (some l)=some ((i,v)::l):=rfl
@[simp] theorem ASE(r:Operand→Option V):C4 r []=some []:=rfl
@[simp] theorem ANC(r:Operand→Option V)(i:Nat)(x:Operand)(l:List (Nat×Operand)):C4 r ((i,x)::l)=ba2 (r x) i (C4 r l):=by simp only[C4];unfold ba2;cases r x<;>cases C4 r l<;>rfl
def bd1(P:Program)(T:TypeId):Option (List (Nat×V))→Option V
 |some l=>CV P T l
 |none=>none
@[simp] theorem A5V(T:TypeId)(l:List (Nat×V)):bd1 P T (some l)=CV P T l:=rfl
@[simp] theorem AND(T:TypeId)(ps:List (Nat×Operand)):C0 P E d (.build T ps) ⟨c,fr,s⟩=DG d ⟨c,fr,s⟩ (bd1 P T (C4 (CO fr) ps)):=by show DG d _ (Q8 P fr T ps)=_;unfold Q8 bd1;cases C4 (CO fr) ps<;>rfl
def bs1(P:Program)(T:TypeId)(n:Nat):Option (List (Nat×V))→Option V
 |some l=>CC P T n l
 |none=>none
@[simp] theorem A5W(T:TypeId)(n:Nat)(l:List (Nat×V)):bs1 P T n (some l)=CC P T n l:=rfl
@[simp] theorem AJ5(T:TypeId)(n:Nat)(ps:List (Nat×Operand)):C0 P E d (.buildS T n ps) ⟨c,fr,s⟩=DG d ⟨c,fr,s⟩ (bs1 P T n (C4 (CO fr) ps)):=by show DG d _ (MX P fr T n ps)=_;unfold MX bs1;cases C4 (CO fr) ps<;>rfl
@[simp] theorem AW0(op:Op):C0 P E d (.oth op) ⟨c,fr,s⟩=DG d ⟨c,fr,s⟩ (IL P (eI op) s (CO fr)):=rfl
def al1(d:Tmp)(c:Nat)(fr:Fr)(s:St):Option (List V)→Option XS
 |some cs=>some ⟨c+1,(d,true,.ptr s.up.length d c 0)::fr,s.put s.up.length d c (.box cs)⟩
 |none=>none
@[simp] theorem A5X(d:Tmp)(cs:List V):al1 d c fr s (some cs)=some ⟨c+1,(d,true,.ptr s.up.length d c 0)::fr,s.put s.up.length d c (.box cs)⟩:=rfl
@[simp] theorem ANE(d:Tmp)(T:TypeId):C0 P E (some d) (.alloc T) ⟨c,fr,s⟩=al1 d c fr s (B7 P T):=by show OR P (some d) T _=_;unfold OR al1;cases B7 P T<;>rfl
noncomputable def yS(d:Tmp)(c:Nat)(fr:Fr)(s:St):Option V→Option XS
 |some v=>Bool.rec none (some ⟨c+1,(d,true,.ptr s.up.length d c 0)::fr,s.put s.up.length d c (.box (A6 v))⟩) (A7 v)
 |none=>none
@[simp] theorem BAN(d:Tmp)(k:IntKind)(n:Int):yS d c fr s (some (.int k n))=some ⟨c+1,(d,true,.ptr s.up.length d c 0)::fr,s.put s.up.length d c (.box [.int k n])⟩:=rfl
@[simp] theorem A5Y(d:Tmp)(b:Bool):yS d c fr s (some (.bool b))=some ⟨c+1,(d,true,.ptr s.up.length d c 0)::fr,s.put s.up.length d c (.box [.bool b])⟩:=rfl
@[simp] theorem BAO(d:Tmp)(cs:List V):yS d c fr s (some (.agg cs))=some ⟨c+1,(d,true,.ptr s.up.length d c 0)::fr,s.put s.up.length d c (.box cs)⟩:=rfl
@[simp] theorem A5Z(d:Tmp)(b:Bool)(es:List (List V)):yS d c fr s (some (.list b es))=some ⟨c+1,(d,true,.ptr s.up.length d c 0)::fr,s.put s.up.length d c (.box [.list b es])⟩:=rfl
@[simp] theorem BAP(d:Tmp):yS d c fr s (some .nil)=some ⟨c+1,(d,true,.ptr s.up.length d c 0)::fr,s.put s.up.length d c (.box [.nil])⟩:=rfl
@[simp] theorem BAQ(d:Tmp)(l k g n:Nat):yS d c fr s (some (.vec l k g n))=some ⟨c+1,(d,true,.ptr s.up.length d c 0)::fr,s.put s.up.length d c (.box [.vec l k g n])⟩:=rfl
@[simp] theorem BGB(d:Tmp)(l k g:Nat):yS d c fr s (some (.mp l k g))=some ⟨c+1,(d,true,.ptr s.up.length d c 0)::fr,s.put s.up.length d c (.box [.mp l k g])⟩:=rfl
@[simp] theorem AW1(d:Tmp)(x:Operand):C0 P E (some d) (.box x) ⟨c,fr,s⟩=yS d c fr s (CO fr x):=by show lO (some d) x _=_;unfold lO yS;cases CO fr x<;>rfl
def st3(γ:Nat)(P:Program)(T:TypeId)(c:Nat)(fr:Fr)(s:St)(l q off:Nat)(v:V):Option (Nat×AX)→Option XS
 |some (γ',.box cs)=>if γ'=γ∧A7 v=true∧0<P.cellsOf T∧(A6 v).length=P.cellsOf T∧off+P.cellsOf T≤cs.length∧γ<c then some ⟨c,fr,s.put l q γ (.box (A3 cs off (A6 v)))⟩ else none
 |_=>none
def st4(γ:Nat)(P:Program)(T:TypeId)(c:Nat)(fr:Fr)(s:St)(l q i off:Nat)(v:V):Option (Nat×AX)→Option XS
 |some (γ',.vec U es)=>if γ'=γ∧A7 v=true∧0<P.cellsOf T∧(A6 v).length=P.cellsOf T∧i<es.length∧off+P.cellsOf T≤(es.getD i []).length∧γ<c then some ⟨c,fr,s.put l q γ (.vec U (es.set i (A3 (es.getD i []) off (A6 v))))⟩ else none
 |_=>none
def GR(P:Program)(T:TypeId)(c:Nat)(fr:Fr)(s:St):Option V→Option V→Option XS
 |some (.ptr l q γ off),some v=>st3 γ P T c fr s l q off v (s.get l q)
 |some (.eptr l q γ i off),some v=>st4 γ P T c fr s l q i off v (s.get l q)
 |_,_=>none
@[simp] theorem AJ6(T:TypeId)(l q γ off:Nat)(v:V):GR P T c fr s (some (.ptr l q γ off)) (some v)=st3 γ P T c fr s l q off v (s.get l q):=rfl
@[simp] theorem AE3(T:TypeId)(l q γ i off:Nat)(v:V):GR P T c fr s (some (.eptr l q γ i off)) (some v)=st4 γ P T c fr s l q i off v (s.get l q):=rfl
@[simp] theorem AJ7(γ γ':Nat)(T:TypeId)(l q off:Nat)(v:V)(cs:List V):st3 γ P T c fr s l q off v (some (γ',.box cs))=if γ'=γ∧A7 v=true∧0<P.cellsOf T∧(A6 v).length=P.cellsOf T∧off+P.cellsOf T≤cs.length∧γ<c then some ⟨c,fr,s.put l q γ (.box (A3 cs off (A6 v)))⟩ else none:=rfl
@[simp] theorem AJ8(γ γ':Nat)(T:TypeId)(l q i off:Nat)(v:V)(U:TypeId)(es:List (List V)):st4 γ P T c fr s l q i off v (some (γ',.vec U es))=if γ'=γ∧A7 v=true∧0<P.cellsOf T∧(A6 v).length=P.cellsOf T∧i<es.length∧off+P.cellsOf T≤(es.getD i []).length∧γ<c then some ⟨c,fr,s.put l q γ (.vec U (es.set i (A3 (es.getD i []) off (A6 v))))⟩ else none:=rfl
theorem AJ9(T:TypeId)(x y:Operand):I3 P none T x y ⟨c,fr,s⟩=GR P T c fr s (CO fr x) (CO fr y):=by
 unfold I3;simp only;cases CO fr x with
 |none=>rfl
 |some p=>
  cases CO fr y with
  |none=>cases p<;>rfl
  |some v=>
   cases p with
   |ptr l q γ off=>
    simp only[AJ6]
    cases s.get l q with
    |none=>rfl
    |some z=>
     obtain⟨γ',r⟩:=z
     cases r with
     |box cs=>
      simp only[AJ7,Bool.and_eq_true,Nat.blt_eq,Nat.ble_eq,Nat.beq_eq,and_assoc]
     |_=>rfl
   |eptr l q γ i off=>
    simp only[AE3]
    cases s.get l q with
    |none=>rfl
    |some z=>
     obtain⟨γ',r⟩:=z
     cases r with
     |vec U es=>
      simp only[AJ8,Bool.and_eq_true,Nat.blt_eq,Nat.ble_eq,Nat.beq_eq,and_assoc]
     |_=>rfl
   |_=>rfl
@[simp] theorem AW2(T:TypeId)(x y:Operand):C0 P E none (.sto T x y) ⟨c,fr,s⟩=GR P T c fr s (CO fr x) (CO fr y):=AJ9 c T x y
noncomputable def apW(P:Program)(e:TypeId)(d c:Nat)(fr:Fr)(s:St)(l q γ n:Nat)(ys:List (List V)):Option (Nat×AX)→Option XS
 |some (γ',.vec W es)=>if γ'=γ∧W=e∧n=es.length∧es.all (fun y=>y.length==P.cellsOf e)=true∧B4 P e es.length ys=true then
   some ⟨c+1,(d,true,.vec l q c (es.length+ys.length))::fr,s.put l q c (.vec e (es++ys))⟩ else none
 |_=>none
@[simp] theorem T6(e:TypeId)(d:Nat)(l q γ γ' n:Nat)(ys es:List (List V))(W:TypeId):apW P e d c fr s l q γ n ys (some (γ',.vec W es))=if γ'=γ∧W=e∧n=es.length∧es.all (fun y=>y.length==P.cellsOf e)=true∧B4 P e es.length ys=true then
   some ⟨c+1,(d,true,.vec l q c (es.length+ys.length))::fr,s.put l q c (.vec e (es++ys))⟩ else none:=rfl
noncomputable def zU(P:Program)(e:TypeId)(d c:Nat)(fr:Fr)(s:St)(xv:V)(ys:List (List V)):Option XS:=match H4 xv ys with
 |some es=>if es.all (fun y=>y.length==P.cellsOf e)=true∧B4 P e es.length ys=true then some ⟨c+1,(d,true,.vec s.up.length d c (es.length+ys.length))::fr,s.put s.up.length d c (.vec e (es++ys))⟩ else none
 |none=>match xv with
  |.vec l q γ n=>apW P e d c fr s l q γ n ys (QY n ys (s.get l q))
  |_=>none
@[simp] theorem mY(n γ:Nat)(ys es:List (List V))(U:TypeId):QY n ys (some (γ,.vec U es))=some (γ,.vec U (fP n ys es)):=rfl
@[simp] theorem AW3(n:Nat)(ys:List (List V)):QY n ys none=none:=rfl
attribute [simp] UR
@[simp] theorem BAR(e:TypeId)(d:Nat)(ys:List (List V)):zU P e d c fr s .nil ys=if B4 P e 0 ys=true then some ⟨c+1,(d,true,.vec s.up.length d c ys.length)::fr,s.put s.up.length d c (.vec e ys)⟩ else none:=by simp[zU,H4]
@[simp] theorem BAS(e:TypeId)(d:Nat)(ys:List (List V)):zU P e d c fr s (.list true []) ys=if B4 P e 0 ys=true then some ⟨c+1,(d,true,.vec s.up.length d c ys.length)::fr,s.put s.up.length d c (.vec e ys)⟩ else none:=by simp[zU,H4]
@[simp] theorem A51(e:TypeId)(d:Nat)(z y:List V)(es ys:List (List V)):zU P e d c fr s (.list true (z::es)) (y::ys)=if (z::es).all (fun y=>y.length==P.cellsOf e)=true∧B4 P e (z::es).length (y::ys)=true then
   some ⟨c+1,(d,true,.vec s.up.length d c ((z::es).length+(y::ys).length))::fr,s.put s.up.length d c (.vec e ((z::es)++(y::ys)))⟩ else none:=rfl
@[simp] theorem AKA(e:TypeId)(d:Nat)(l q γ n:Nat)(ys:List (List V)):zU P e d c fr s (.vec l q γ n) ys=apW P e d c fr s l q γ n ys (QY n ys (s.get l q)):=by simp[zU,H4]
noncomputable def ap3(P:Program)(d c:Nat)(fr:Fr)(s:St):Option (Option Nat×TypeId)→Option V→Option V→Option XS
 |some (none,e),some xv,some yv=>ap4 e xv (elemsOf s yv)
 |_,_,_=>none
where ap4 (e:TypeId) (xv:V):Option (List (List V))→Option XS
 |some ys=>zU P e d c fr s xv ys
 |none=>none
@[simp] theorem AE4(d:Nat)(e:TypeId)(xv yv:V):ap3 P d c fr s (some (none,e)) (some xv) (some yv)=ap3.ap4 P d c fr s e xv (elemsOf s yv):=rfl
@[simp] theorem AE5(d:Nat)(e:TypeId)(xv:V)(ys:List (List V)):ap3.ap4 P d c fr s e xv (some ys)=zU P e d c fr s xv ys:=rfl
@[simp] theorem AKB(b:Bool)(es:List (List V)):elemsOf s (.list b es)=some es:=rfl
@[simp] theorem ANF:elemsOf s .nil=some []:=rfl
theorem ifB{α:Type}{b:Bool}{x y:α}:(Bool.rec y x b:α)=if b=true then x else y:=by cases b<;>rfl
theorem yT{k:Nat}{e:TypeId}(d:Nat)(x y:Option V):ap3 P d c fr s (some (some k,e)) x y=none:=by cases x<;>cases y<;>rfl
@[simp] theorem AW4(d:Tmp)(x y:Operand)(T:TypeId):C0 P E (some d) (.app [x,y] [T,T]) ⟨c,fr,s⟩=ap3 P d c fr s (BM P T) (CO fr x) (CO fr y):=by
 show xAppend P (some d) [x,y] [T,T] _=_;unfold xAppend xAppG;simp only[Nat.beq_refl];cases hT:BM P T with
 |none=>cases CO fr x<;>cases CO fr y<;>rfl
 |some p=>
  obtain⟨k,e⟩:=p
  cases k with
  |some k=>rw[yT]
  |none=>
   cases CO fr x with
   |none=>rfl
   |some xv=>
    cases CO fr y with
    |none=>rfl
    |some yv=>
     simp only[AE4]
     cases elemsOf s yv with
     |none=>rfl
     |some ys=>
      simp only[AE5,zU]
      cases H4 xv ys with
      |some es=>
       simp only[ifB,Bool.and_eq_true,List.length_append]
       by_cases hC:es.all (fun y=>y.length==P.cellsOf e)=true∧B4 P e es.length ys=true
       ·rw[if_pos hC,if_pos hC]
       ·rw[if_neg hC,if_neg hC]
      |none=>
       simp only
       unfold lT
       cases xv with
       |vec l q γ n=>
        simp only
        cases QY n ys (s.get l q)with
        |none=>rfl
        |some z=>
         obtain⟨γ',r⟩:=z
         cases r with
         |vec W es=>
          simp only[ifB,Bool.and_eq_true,List.length_append,T6,Nat.beq_eq,and_assoc]
          by_cases hC:γ'=γ∧W=e∧n=es.length∧es.all (fun y=>y.length==P.cellsOf e)=true∧B4 P e es.length ys=true
          ·rw[if_pos hC,if_pos hC]
          ·rw[if_neg hC,if_neg hC]
         |_=>rfl
       |_=>rfl
def mc2:Option V→Option (List V)→Option (List V)
 |some v,some l=>some (v::l)
 |_,_=>none
@[simp] theorem A54(v:V)(l:List V):mc2 (some v) (some l)=some (v::l):=rfl
@[simp] theorem A55(f:Operand→Option V):FK f []=some []:=rfl
@[simp] theorem AW5(f:Operand→Option V)(x:Operand)(l:List Operand):FK f (x::l)=mc2 (f x) (FK f l):=by
 simp only[FK];cases f x with
 |none=>rfl
 |some v=>cases FK f l<;>rfl
noncomputable def H9(E:XE)(d:Option Tmp)(st:XS)(f:FuncId)(args:List V):Option XS:=match E.cf f args st with
 |some (r,st')=>some ⟨st'.c,putD st'.fr d true r,st'.s⟩
 |none=>none
noncomputable def ca1(E:XE)(d:Option Tmp)(st:XS):Option V→Option (List V)→Option XS
 |some (.fn f first cap),some vs=>H9 E d st f ((first++vs++cap).map weakV)
 |some (.yld l q γ),some vs=>ca3 (E.cy l q γ vs st)
 |_,_=>none
where ca3:Option (V×XS)→Option XS
 |some (r,st')=>some ⟨st'.c,putD st'.fr d true r,st'.s⟩
 |none=>none
@[simp] theorem ASF(st:XS)(f:FuncId)(first cap vs:List V):ca1 E d st (some (.fn f first cap)) (some vs)=H9 E d st f ((first++vs++cap).map weakV):=rfl
@[simp] theorem AKC(st:XS)(l q γ:Nat)(vs:List V):ca1 E d st (some (.yld l q γ)) (some vs)=ca1.ca3 d (E.cy l q γ vs st):=rfl
@[simp] theorem A56(d:Tmp)(r:V):ca1.ca3 (some d) (some (r,⟨c,fr,s⟩))=some ⟨c,(d,true,r)::fr,s⟩:=rfl
theorem AE6(st:XS)(f:Operand)(args:List Operand):TV E.cf E.cy d f args st=ca1 E d st (CO st.fr f) (FK (CO st.fr) args):=by
 unfold TV;cases CO st.fr f with
 |none=>rfl
 |some v=>
  cases v with
  |fn f first cap=>
   simp only
   cases FK (CO st.fr) args with
   |none=>rfl
   |some vs=>simp only[ASF,H9];cases E.cf f ((first++vs++cap).map weakV) st<;>rfl
  |yld l q γ=>
   simp only[pT]
   cases FK (CO st.fr) args with
   |none=>rfl
   |some vs=>simp only[AKC];cases E.cy l q γ vs st<;>rfl
  |_=>rfl
@[simp] theorem ASG(f:Operand)(args:List Operand):C0 P E d (.call false none f args) ⟨c,fr,s⟩=ca1 E d ⟨c,fr,s⟩ (CO fr f) (FK (CO fr) args):=AE6 d ⟨c,fr,s⟩ f args
def orK:Bool→Option V→Option V→Option V
 |true,some r,_=>some r
 |_,_,z=>z
@[simp] theorem A57(r:V)(z:Option V):orK true (some r) z=some r:=rfl
@[simp] theorem A58(b:Bool)(z:Option V):orK b z z=z:=by cases b<;>cases z<;>rfl
theorem mZ{P:Program}{kn:CF0}{rec:GD}{f:FuncId}{args:List V}:FL P kn rec f args=orK (args.all (AK 9)) (AW P kn rec f (args.map weakN)) (AW P kn rec f args):=by unfold FL orK;cases AW P kn rec f (args.map weakN)<;>cases args.all (AK 9)<;>rfl
attribute [simp] mZ
@[simp] theorem AW8(k:IntKind)(n:Int):weakN (.int k n)=.int k n:=rfl
@[simp] theorem ASH(b:Bool):weakN (.bool b)=.bool b:=rfl
@[simp] theorem AW9(v:Value):weakN (.raw v)=.raw v:=rfl
@[simp] theorem ASI(b:Bool)(es:List (List V)):weakN (.list b es)=.list b es:=rfl
@[simp] theorem AXA(cs:List V):weakN (.agg cs)=.agg (cs.map weakM):=rfl
@[simp] theorem AXB:weakN .nil=.list false []:=rfl
@[simp] theorem A59(f:FuncId)(x y:List V):weakN (.fn f x y)=.fn f x y:=rfl
@[simp] theorem AXC(cs:List V):weakN (.ref cs)=.ref cs:=rfl
@[simp] theorem AXD(k:IntKind)(n:Int):weakM (.int k n)=.int k n:=rfl
@[simp] theorem ASJ(b:Bool):weakM (.bool b)=.bool b:=rfl
@[simp] theorem ASK(b:Bool)(es:List (List V)):weakM (.list b es)=.list b es:=rfl
@[simp] theorem AXE:weakM .nil=.list false []:=rfl
@[simp] theorem A6A(f:FuncId)(x y:List V):weakM (.fn f x y)=.fn f x y:=rfl
@[simp] theorem AXF(cs:List V):weakM (.ref cs)=.ref cs:=rfl
theorem aX{A:Ann}{kn:CF0}{n:Nat}{f:FuncId}{args:List V}(h:args.all (AK 9)=true)(hh:BC P f=false)(st:XS):H9 (BN P A kn n) d st f args=DG d st (orK true (AW P kn (AE P A kn n) f (args.map weakN)) (AW P kn (AE P A kn n) f args)):=by
 have e:orK true (AW P kn (AE P A kn n) f (args.map weakN)) (AW P kn (AE P A kn n) f args)=FL P kn (AE P A kn n) f args:=by rw[mZ,h]
 rw[e];show(match Z1 P kn (AE P A kn n) f args st with
  |some (r,st')=>some (⟨st'.c,putD st'.fr d true r,st'.s⟩:XS)
  | none=>none)=_
 unfold Z1;rw[h,hh];cases FL P kn (AE P A kn n) f args<;>rfl
end
@[simp] theorem A6B(k:IntKind)(n:Int):weakV (.int k n)=.int k n:=rfl
@[simp] theorem AXG(b:Bool):weakV (.bool b)=.bool b:=rfl
@[simp] theorem AXH(b:Bool)(es:List (List V)):weakV (.list b es)=.list false es:=rfl
@[simp] theorem A6C(cs:List V):weakV (.agg cs)=.agg (cs.map weakC):=rfl
@[simp] theorem AXI(k:IntKind)(n:Int):weakC (.int k n)=.int k n:=rfl
@[simp] theorem ASL(b:Bool):weakC (.bool b)=.bool b:=rfl
@[simp] theorem ASM(b:Bool)(es:List (List V)):weakC (.list b es)=.list false es:=rfl
@[simp] theorem AXJ:weakC .nil=.nil:=rfl
@[simp] theorem A6D:weakV .nil=.nil:=rfl
@[simp] theorem BAT(f:FuncId)(x y:List V):weakV (.fn f x y)=.fn f x y:=rfl
@[simp] theorem ASN(f:Nat)(k:IntKind)(n:Int):AK (f+1) (.int k n)=true:=rfl
@[simp] theorem ANH(f:Nat)(b:Bool):AK (f+1) (.bool b)=true:=rfl
@[simp] theorem ASO(f:Nat):AK (f+1) .nil=true:=rfl
@[simp] theorem ASP(f:Nat)(cs:List V):AK (f+1) (.agg cs)=cs.all (AK f):=rfl
@[simp] theorem ASQ(f:Nat)(cs:List V):AK (f+1) (.tup cs)=cs.all (AK f):=rfl
@[simp] theorem ASR(f:Nat)(cs:List V):AK (f+1) (.ref cs)=cs.all (AK f):=rfl
@[simp] theorem ANI(f:Nat)(b:Bool)(es:List (List V)):AK (f+1) (.list b es)=es.all fun e=>e.all (AK f):=rfl
@[simp] theorem AXK(f:Nat)(g:FuncId)(x y:List V):AK (f+1) (.fn g x y)=(x.all (AK f)&&y.all (AK f)):=rfl
section
variable (r:Operand→Option V)
def o1(f:V→Option V):Option V→Option V
 |some v=>f v
 |none=>none
@[simp] theorem BAU(f:V→Option V)(v:V):o1 f (some v)=f v:=rfl
def o2(f:V→V→Option V):Option V→Option V→Option V
 |some a,some b=>f a b
 |_,_=>none
@[simp] theorem BAV(f:V→V→Option V)(a b:V):o2 f (some a) (some b)=f a b:=rfl
theorem T7(f:V→Option V)(x:Option V):x.bind f=o1 f x:=by cases x<;>rfl
theorem iA(f:V→V→Option V)(x y:Option V):(x.bind fun a=>y.bind fun b=>f a b)=o2 f x y:=by cases x<;>cases y<;>rfl
@[simp] theorem BGE(op:UnOp)(T:TypeId)(x:Operand):IL P (eI (.unOp op T x)) s r=o1 (bQ op) (r x):=T7 _ _
@[simp] theorem A6E(T U:TypeId)(x:Operand):IL P (eI (.convert T U x)) s r=o1 (H3 P T U) (r x):=T7 _ _
@[simp] theorem A6F(T:TypeId)(x i:Operand):IL P (eI (.indexAddr T x i)) s r=o2 (BT P s T) (r x) (r i):=iA _ _ _
@[simp] theorem AXL(T:TypeId)(x:Operand)(f:Nat):IL P (eI (.field T x f)) s r=o1 (fun a=>ID P T a f) (r x):=T7 _ _
@[simp] theorem BAW(x:Operand)(i:Nat):IL P (eI (.extract x i)) s r=o1 (fun a=>FP a i) (r x):=T7 _ _
@[simp] theorem BAX(x:Operand)(T:TypeId):IL P (eI (.call ⟨.builtin .len,#[x],#[T]⟩)) s r=o1 (HQ P T) (r x):=T7 _ _
end
@[simp] theorem A6G(b:Bool):bQ .not (.bool b)=some (.bool !b):=rfl
@[simp] theorem A6H(k:IntKind)(n:Int):bQ .neg (.int k n)=some (.int k (k.wrap (0-n))):=rfl
@[simp] theorem AF9(vs:List V)(i:Nat):FP (.tup vs) i=vs[i]?:=rfl
@[simp] theorem BGF(up:List AA)(loc:AA)(l k g:Nat)(r:AX):St.put ⟨up,loc⟩ l k g r=if l=up.length then⟨up,(k,g,r)::loc⟩ else⟨up.modify l fun L=>L.put k g r,loc⟩:=rfl
def upG(k:Nat):Option AA→Option (Nat×AX)
 |some L=>L.get k
 |none=>none
@[simp] theorem A6I(k:Nat)(L:AA):upG k (some L)=L.get k:=rfl
@[simp] theorem AE7(up:List AA)(loc:AA)(l k:Nat):St.get ⟨up,loc⟩ l k=if l=up.length then loc.get k else upG k up[l]?:=rfl
def kx(k:Nat)(r:Fr):Option (Bool×V)→Fr
 |some (c,v)=>(k,c,v)::r
 |none=>r
@[simp] theorem BAY(k:Nat)(r:Fr)(c:Bool)(v:V):kx k r (some (c,v))=(k,c,v)::r:=rfl
@[simp] theorem BAZ(k:Nat)(r:Fr):kx k r none=r:=rfl
@[simp] theorem AXM:QK [] fr=[]:=rfl
@[simp] theorem ASS(k:Nat)(ks:List Nat):QK (k::ks) fr=kx k (QK ks fr) (BQ fr k):=by show(match BQ fr k with|some (c,v)=>(k,c,v)::QK ks fr|none=>QK ks fr)=_;cases BQ fr k<;>rfl
def kl(k:Nat)(r:AA):Option (Nat×AX)→AA
 |some (g,x)=>(k,g,x)::r
 |none=>r
@[simp] theorem BA0(k:Nat)(r:AA)(g:Nat)(x:AX):kl k r (some (g,x))=(k,g,x)::r:=rfl
@[simp] theorem BA1(k:Nat)(r:AA):kl k r none=r:=rfl
@[simp] theorem AXN(L:AA):IP [] L=[]:=rfl
@[simp] theorem AST(k:Nat)(ks:List Nat)(L:AA):IP (k::ks) L=kl k (IP ks L) (L.get k):=by unfold kl;simp only[IP];cases L.get k<;>rfl
@[simp] theorem A6J(ks ls:List Nat)(c:Nat)(fr:Fr)(up:List AA)(loc:AA):CE (some (ks,ls)) ⟨c,fr,⟨up,loc⟩⟩=⟨c,QK ks fr,⟨up,IP ls loc⟩⟩:=rfl
@[simp] theorem ASU:CE none st=st:=rfl
@[simp] theorem BGG:NN (some st)=some (.normal,st):=rfl
@[simp] theorem A6K:NN none=none:=rfl
@[simp] theorem BA2(c:Prop)[Decidable c](x y:Option XS):NN (if c then x else y)=if c then NN x else NN y:=by split<;>rfl
@[simp] theorem A6L(l:List HX):IW P E (.str l) st=O4 P E l (some st):=rfl
@[simp] theorem A6M(S:List mU):IW P E (.drw S) st=VM P E S (some st):=rfl
@[simp] theorem A6N(ks:List (Nat×Nat×Nat)):IW P E (.cls ks) st=RB P ks (some st):=rfl
@[simp] theorem A6O(o:Option XS):RB P [] o=o:=rfl
@[simp] theorem AXO(T a d:Nat)(r:List (Nat×Nat×Nat))(st:XS):RB P ((T,a,d)::r) (some st)=RB P r (if qX (CO st.fr (.tmp a))=true then DG (some d) st (LW P st.fr st.s T (.tmp a)) else none):=by
 show RB P r (Bool.rec _ _ (qX (CO st.fr (.tmp a))))=_;cases qX (CO st.fr (.tmp a))with
 |false=>rfl
 |true=>
  simp only[if_true]
  congr 1
@[simp] theorem A6P(l k g o:Nat):qX (some (.ptr l k g o))=true:=rfl
@[simp] theorem A6Q(rs:List ResultVar):WS P rs (some (.ret,st))=WS.finV st.s (F0 P rs st.fr st.s):=rfl
@[simp] theorem ANJ(rs:List ResultVar):WS P rs (some (.normal,st))=WS.finV st.s (F0 P rs st.fr st.s):=rfl
def ASV:Option V→Option V
 |some r=>if AK 9 r=true then some r else none
 |none=>none
@[simp] theorem AXP(r:V):ASV (some r)=if AK 9 r=true then some r else none:=rfl
@[simp] theorem AXQ(v:V):WS.finV s (some v)=ASV (AZ s 4 v):=by
 unfold WS.finV ASV;simp only;cases AZ s 4 v with
 |none=>rfl
 |some r=>simp only[ifB]
@[simp] theorem ASW(t:Tmp):DO P fr s (.tmp t)=rdT (BQ fr t):=by
 rw[E9];show(match fr.get t with
  |some (true,v)=>some v
  | _=>none)=_
 cases fr.get t with
 |none=>rfl
 |some p=>obtain⟨c,v⟩:=p;cases c<;>rfl
@[simp] theorem A6R(x:ResultVar):F0 P [x] fr s=DO P fr s x:=by unfold F0;simp only[List.mapM_cons,List.mapM_nil];cases DO P fr s x<;>rfl
def re2:Option V→Option V→Option V
 |some a,some b=>some (.tup [a,b])
 |_,_=>none
@[simp] theorem A6S(a b:V):re2 (some a) (some b)=some (.tup [a,b]):=rfl
@[simp] theorem A6T(x y:ResultVar):F0 P [x,y] fr s=re2 (DO P fr s x) (DO P fr s y):=by unfold F0;simp only[List.mapM_cons,List.mapM_nil];cases DO P fr s x<;>cases DO P fr s y<;>rfl
def re3:Option V→Option V→Option V→Option V
 |some a,some b,some c=>some (.tup [a,b,c])
 |_,_,_=>none
@[simp] theorem A6U(a b c:V):re3 (some a) (some b) (some c)=some (.tup [a,b,c]):=rfl
@[simp] theorem ASX(x y z:ResultVar):F0 P [x,y,z] fr s=re3 (DO P fr s x) (DO P fr s y) (DO P fr s z):=by unfold F0;simp only[List.mapM_cons,List.mapM_nil];cases DO P fr s x<;>cases DO P fr s y<;>cases DO P fr s z<;>rfl
@[simp] theorem ASY(f:Nat)(k:IntKind)(n:Int):AZ s (f+1) (.int k n)=some (.int k n):=rfl
@[simp] theorem ANK(f:Nat)(b:Bool):AZ s (f+1) (.bool b)=some (.bool b):=rfl
@[simp] theorem ASZ(f:Nat):AZ s (f+1) .nil=some .nil:=rfl
@[simp] theorem ANL(f:Nat)(b:Bool)(es:List (List V)):AZ s (f+1) (.list b es)=some (.list false es):=rfl
def iK(mk:List V→V):Option (List V)→Option V
 |some l=>some (mk l)
 |none=>none
@[simp] theorem A6V(mk:List V→V)(l:List V):iK mk (some l)=some (mk l):=rfl
def O6(f:V→Option V):List V→Option (List V)
 |[]=>some []
 |v::l=>mc2 (f v) (O6 f l)
theorem T8(f:V→Option V):∀(l:List V),l.mapM f=O6 f l
 |[]=>rfl
 |v::l=>by simp only[List.mapM_cons,O6,T8 f l];cases f v<;>cases O6 f l<;>rfl
@[simp] theorem A6W(f:V→Option V):O6 f []=some []:=rfl
@[simp] theorem AXR(f:V→Option V)(v:V)(l:List V):O6 f (v::l)=mc2 (f v) (O6 f l):=rfl
@[simp] theorem AS0(f:Nat)(cs:List V):AZ s (f+1) (.agg cs)=iK .agg (O6 (AZ s f) cs):=by simp only[AZ,T8];cases O6 (AZ s f) cs<;>rfl
@[simp] theorem AS1(f:Nat)(cs:List V):AZ s (f+1) (.tup cs)=iK .tup (O6 (AZ s f) cs):=by simp only[AZ,T8];cases O6 (AZ s f) cs<;>rfl
def cv1(g m:Nat):Option (Nat×AX)→Option V
 |some (g',.vec _ es)=>if g'=g∧m≤es.length then some (.list false (es.take m)) else none
 |_=>none
@[simp] theorem AE8(g m g':Nat)(T:TypeId)(es:List (List V)):cv1 g m (some (g',.vec T es))=if g'=g∧m≤es.length then some (.list false (es.take m)) else none:=rfl
@[simp] theorem aY(f:Nat)(up:List AA)(loc:AA)(l k g m:Nat):AZ ⟨up,loc⟩ (f+1) (.vec l k g m)=if l=up.length then cv1 g m (loc.get k) else some (.vec l k g m):=by
 simp only[AZ];split
 ·cases loc.get k with
  |none=>rfl
  |some z=>obtain⟨g',r⟩:=z;cases r<;>rfl
 ·rfl
@[simp] theorem ANM(t:Nat)(T:TypeId):DO P fr s (.cell t T)=ld1 P s T (rdT (BQ fr t)):=by
 rw[E9];show(match fr.get t with
  |some (true,p)=>(A5 s p).bind (BL P T)
  | _=>none)=_
 cases fr.get t with
 |none=>rfl
 |some p=>
  obtain⟨c,v⟩:=p
  cases c with
  |false=>rfl
  |true=>
   simp only[AE1,AE2]
   cases A5 s v<;>rfl
section
variable (d:Option Tmp)(c:Nat)
@[simp] theorem A6X(r:Option XS):VM P E [] r=r:=rfl
@[simp] theorem AXS(p:mU)(S:List mU)(r:Option XS):VM P E (p::S) r=VM P E S (O4 P E p.sq (aU (VL P E p.ph (AEO p.new r)))):=rfl
@[simp] theorem A6Y(r:Option (XS×AM×AM)):VL P E [] r=r:=rfl
@[simp] theorem AXT(i:HX)(l:List HX)(r:Option (XS×AM×AM)):VL P E (i::l) r=VL P E l (mT P E i r):=rfl
@[simp] theorem BA3(new:List Tmp)(up:List AA)(loc:AA):AEO new (some ⟨c,fr,⟨up,loc⟩⟩)=if (new.all fun d=>(loc.get d).isNone)=true then some (⟨c,fr,⟨up,loc⟩⟩,[],[]) else none:=by show(Bool.rec none _ _:Option _)=_;rw[ifB];rfl
@[simp] theorem AXU(rd wr:AM):aU (some (st,rd,wr))=if (wr.all fun p=>!(rd.contains p))=true then some st else none:=by show(Bool.rec none _ _:Option _)=_;rw[ifB]
@[simp] theorem AXV:aU none=none:=rfl
@[simp] theorem A6Z(c:Prop)[Decidable c](x y:Option (XS×AM×AM)):aU (if c then x else y)=if c then aU x else aU y:=by split<;>rfl
@[simp] theorem AXW(i:HX):mT P E i none=none:=rfl
@[simp] theorem A60(i:HX)(c:Prop)[Decidable c](x y:Option (XS×AM×AM)):mT P E i (if c then x else y)=if c then mT P E i x else mT P E i y:=by split<;>rfl
@[simp] theorem A61(l:List HX)(c:Prop)[Decidable c](x y:Option (XS×AM×AM)):VL P E l (if c then x else y)=if c then VL P E l x else VL P E l y:=by split<;>rfl
@[simp] theorem A62(l:List mU)(c:Prop)[Decidable c](x y:Option XS):VM P E l (if c then x else y)=if c then VM P E l x else VM P E l y:=by split<;>rfl
def ph3(rds rd wr:AM):Option (XS×AM)→Option (XS×AM×AM)
 |some (st,w)=>some (st,rds++rd,w++wr)
 |none=>none
@[simp] theorem A63(rds rd wr w:AM):ph3 rds rd wr (some (st,w))=some (st,rds++rd,w++wr):=rfl
@[simp] theorem A64(rds rd wr:AM):ph3 rds rd wr none=none:=rfl
@[simp] theorem BA4(rds rd wr:AM)(c:Prop)[Decidable c](x y:Option (XS×AM)):ph3 rds rd wr (if c then x else y)=if c then ph3 rds rd wr x else ph3 rds rd wr y:=by split<;>rfl
@[simp] theorem AXY(i:HX)(rd wr:AM):mT P E i (some (st,rd,wr))=ph3 (HI P i.k (CO st.fr)) rd wr (VK P E i st):=by show(match VK P E i st with|some (st',w)=>some (st',HI P i.k (CO st.fr)++rd,w++wr)|none=>none)=_;cases VK P E i st<;>rfl
@[simp] theorem AXZ(k:IK):VK P E ⟨none,d,k⟩ st=DH P E d k st:=rfl
noncomputable def gI0(P:Program)(E:XE)(d:Option Tmp)(k:IK)(st:XS)(w:Bool)(r:Option (Bool×V)):Option (XS×AM):=match r with
 |some (c,.bool b)=>if (c&&(b==w))=true then DH P E d k st else if E1 k=true then none else some (HR d st,[])
 |_=>none
@[simp] theorem AS2(t:Tmp)(w:Bool)(k:IK):VK P E ⟨some (t,w),d,k⟩ st=gI0 P E d k st w (BQ st.fr t):=by
 show(match(match BQ st.fr t with | some (c,.bool b)=>some (c&&(b == w)) | _=>none:Option Bool)with
  |some true=>DH P E d k st
  |some false=>Bool.rec (some (HR d st,[])) none (E1 k)
  | none=>none)=_
 unfold gI0;cases BQ st.fr t with
 |none=>rfl
 |some p=>
  obtain⟨c,v⟩:=p
  cases v with
  |bool b=>cases h:(c&&(b==w))<;>simp[h,ifB]
  |_=>rfl
@[simp] theorem A65(k:IK)(w c b:Bool):gI0 P E d k st w (some (c,.bool b))=if (c&&(b==w))=true then DH P E d k st else if E1 k=true then none else some (HR d st,[]):=rfl
@[simp] theorem BGI(T:TypeId)(x:Operand)(f:Operand→Option V):HI P (.ld T x) f=BR (Nat.beq (P.cellsOf T) 1) (f x):=rfl
@[simp] theorem AS3(x y:Operand)(f:Operand→Option V):J3 f [x,y]=EV (f y):=rfl
@[simp] theorem AKD(b:Bool)(es:List (List V)):EV (some (.list b es))=[]:=rfl
@[simp] theorem ANN:EV (some .nil)=[]:=rfl
@[simp] theorem ANO(l k γ n:Nat):EV (some (.vec l k γ n))=[(l,k)]:=rfl
@[simp] theorem BGJ(x:Operand)(f:Operand→Option V):HI P (.mv x) f=[]:=rfl
@[simp] theorem BA5(op:BinOp)(T:TypeId)(x y:Operand)(f:Operand→Option V):HI P (.bin op T x y) f=[]:=rfl
@[simp] theorem BGK(T:TypeId)(x:Operand)(i:Nat)(f:Operand→Option V):HI P (.fa T x i) f=[]:=rfl
@[simp] theorem A66(x y z:Operand)(f:Operand→Option V):HI P (.pick x y z) f=[]:=rfl
@[simp] theorem AX0(T:TypeId)(ps:List (Nat×Operand))(f:Operand→Option V):HI P (.build T ps) f=[]:=rfl
@[simp] theorem AS4(T:TypeId)(n:Nat)(ps:List (Nat×Operand))(f:Operand→Option V):HI P (.buildS T n ps) f=[]:=rfl
@[simp] theorem AX1(T:TypeId)(f:Operand→Option V):HI P (.alloc T) f=[]:=rfl
@[simp] theorem BA6(x:Operand)(f:Operand→Option V):HI P (.box x) f=[]:=rfl
@[simp] theorem BA7(T:TypeId)(x y:Operand)(f:Operand→Option V):HI P (.sto T x y) f=[]:=rfl
@[simp] theorem BA8(x:List Operand)(y:List TypeId)(f:Operand→Option V):HI P (.app x y) f=J3 f x:=rfl
@[simp] theorem A67(b:Bool)(t:Option Tmp)(g:Operand)(x:List Operand)(f:Operand→Option V):HI P (.call b t g x) f=[]:=rfl
@[simp] theorem A68(T:TypeId)(x i:Operand)(f:Operand→Option V):HI P (.oth (.indexAddr T x i)) f=J2 (f x):=rfl
@[simp] theorem BGL(op:UnOp)(T:TypeId)(x:Operand)(f:Operand→Option V):HI P (.oth (.unOp op T x)) f=[]:=rfl
@[simp] theorem BA9(x:Operand)(i:Nat)(f:Operand→Option V):HI P (.oth (.extract x i)) f=[]:=rfl
@[simp] theorem BBA(x:Operand)(T:TypeId)(b:Builtin)(f:Operand→Option V):HI P (.oth (.call ⟨.builtin b,#[x],#[T]⟩)) f=[]:=by cases b<;>rfl
@[simp] theorem BGM(g:Fn)(x y:Array Operand)(f:Operand→Option V):HI P (.oth (.makeFunc g x y)) f=[]:=rfl
def nw:Option XS→Option (XS×AM)
 |some st=>some (st,[])
 |none=>none
@[simp] theorem BBB:nw (some st)=some (st,[]):=rfl
@[simp] theorem BBC:nw none=none:=rfl
@[simp] theorem BGN(c:Prop)[Decidable c](x y:Option XS):nw (if c then x else y)=if c then nw x else nw y:=by split<;>rfl
theorem GF(r:Option XS):TW r=nw r:=by cases r<;>rfl
@[simp] theorem A69(x:Operand):DH P E d (.mv x) st=nw (C0 P E d (.mv x) st):=GF _
@[simp] theorem AX2(op:BinOp)(T:TypeId)(x y:Operand):DH P E d (.bin op T x y) st=nw (C0 P E d (.bin op T x y) st):=GF _
@[simp] theorem A7A(T:TypeId)(x:Operand)(f:Nat):DH P E d (.fa T x f) st=nw (C0 P E d (.fa T x f) st):=GF _
@[simp] theorem AX3(T:TypeId)(x:Operand):DH P E d (.ldz T x) st=DH P E d (.ld T x) st:=rfl
@[simp] theorem AX4(T:TypeId)(x:Operand):C0 P E d (.ldz T x) st=C0 P E d (.ld T x) st:=rfl
@[simp] theorem BBD(T:TypeId)(x:Operand)(f:Operand→Option V):HI P (.ldz T x) f=[]:=rfl
@[simp] theorem A7B(T:TypeId)(x:Operand):DH P E d (.ld T x) st=nw (C0 P E d (.ld T x) st):=GF _
@[simp] theorem AS5(x y z:Operand):DH P E d (.pick x y z) st=nw (C0 P E d (.pick x y z) st):=GF _
@[simp] theorem ANP(T:TypeId)(ps:List (Nat×Operand)):DH P E d (.build T ps) st=nw (C0 P E d (.build T ps) st):=GF _
@[simp] theorem AKE(T:TypeId)(n:Nat)(ps:List (Nat×Operand)):DH P E d (.buildS T n ps) st=nw (C0 P E d (.buildS T n ps) st):=GF _
@[simp] theorem AX5(op:Op):DH P E d (.oth op) st=nw (C0 P E d (.oth op) st):=GF _
@[simp] theorem ANQ(T:TypeId):DH P E d (.alloc T) st=nw (C0 P E d (.alloc T) st):=GF _
@[simp] theorem AX6(x:Operand):DH P E d (.box x) st=nw (C0 P E d (.box x) st):=GF _
@[simp] theorem AX7(x:Option Operand):DH P E d (.mkM x) st=nw (C0 P E d (.mkM x) st):=GF _
@[simp] theorem AX8(T:TypeId)(x y:Operand):DH P E d (.mkS T x y) st=nw (C0 P E d (.mkS T x y) st):=GF _
def wp(p:AM):Option XS→Option (XS×AM)
 |some st=>some (st,p)
 |none=>none
@[simp] theorem BBE(p:AM):wp p (some st)=some (st,p):=rfl
@[simp] theorem BBF(p:AM):wp p none=none:=rfl
@[simp] theorem BGO(p:AM)(c:Prop)[Decidable c](x y:Option XS):wp p (if c then x else y)=if c then wp p x else wp p y:=by split<;>rfl
@[simp] theorem AX9(T:TypeId)(x y:Operand):DH P E d (.sto T x y) st=wp (BW (Nat.beq (P.cellsOf T) 1) (CO st.fr x)) (C0 P E d (.sto T x y) st):=by show(match I3 P d T x y st with|some st'=>some (st',BW (Nat.beq (P.cellsOf T) 1) (CO st.fr x))|none=>none)=wp _ (I3 P d T x y st);cases I3 P d T x y st<;>rfl
@[simp] theorem A7C(x:Option V):BR false x=A8 x:=by cases x<;>rfl
@[simp] theorem AS6(l k g o:Nat):BR true (some (.ptr l k g o))=[(l,k+2000000),(l,k+4000000),(l,6000000+1000*k+o)]:=rfl
@[simp] theorem ANR(l k g i o:Nat):BR true (some (.eptr l k g i o))=[(l,k+2000000),(l,k+4000000),(l,6000000+1000*k+o)]:=rfl
@[simp] theorem AS7(b:Bool)(cs:List V):BR b (some (.ref cs))=[]:=by cases b<;>rfl
@[simp] theorem AS8(l k g o:Nat):BW true (some (.ptr l k g o))=[(l,k),(l,6000000+1000*k+o)]:=rfl
@[simp] theorem ANS(l k g i o:Nat):BW true (some (.eptr l k g i o))=[(l,k),(l,6000000+1000*k+o)]:=rfl
@[simp] theorem ANT(l k g o:Nat):BW false (some (.ptr l k g o))=[(l,k),(l,k+4000000)]:=rfl
@[simp] theorem AKF(l k g i o:Nat):BW false (some (.eptr l k g i o))=[(l,k),(l,k+4000000)]:=rfl
@[simp] theorem ANU(l k g o:Nat):A8 (some (.ptr l k g o))=[(l,k)]:=rfl
@[simp] theorem AKG(l k g i o:Nat):A8 (some (.eptr l k g i o))=[(l,k)]:=rfl
@[simp] theorem ANV(cs:List V):A8 (some (.ref cs))=[]:=rfl
@[simp] theorem AS9(l k g o:Nat):J2 (some (.ptr l k g o))=[]:=rfl
@[simp] theorem ATA(l k g n:Nat):J2 (some (.vec l k g n))=[(l,k+F9)]:=rfl
@[simp] theorem ANW(b:Bool)(es:List (List V)):J2 (some (.list b es))=[]:=rfl
@[simp] theorem ATB(cs:List V):J2 (some (.ref cs))=[]:=rfl
noncomputable def c01(E:XE)(d:Option Tmp)(st:XS):Option V→Option (List V)→Option XS
 |some (.fn f first cap),some vs=>DG d st (E.c0 f ((first++vs++cap).map weakV))
 |_,_=>none
@[simp] theorem ATC(f:FuncId)(first cap vs:List V):c01 E d st (some (.fn f first cap)) (some vs)=DG d st (E.c0 f ((first++vs++cap).map weakV)):=rfl
@[simp] theorem ATD(t:Option Tmp)(f:Operand)(args:List Operand):DH P E d (.call false t f args) ⟨c,fr,s⟩=nw (c01 E d ⟨c,fr,s⟩ (CO fr f) (FK (CO fr) args)):=by
 show TW (ZZ E.c0 d f args ⟨c,fr,s⟩)=_;rw[GF];congr 1;unfold ZZ;cases hf:CO fr f with
 |none=>simp only[c01]
 |some v=>
  cases v with
  |fn g first cap=>
   simp only
   cases hm:FK (CO fr) args with
   |none=>simp only[c01]
   |some vs=>
    simp only[ATC]
    cases E.c0 g ((first++vs++cap).map weakV)<;>rfl
  |_=>simp only[c01]
@[simp] theorem BGP{A:Ann}{kn:CF0}{n:Nat}:(BN P A kn n).c0=FL P kn (AE P A kn n):=rfl
end
theorem rM{A:Ann}{kn:CF0}{n N:Nat}(a b:Code):lZ (AE P A kn n N) a b st (some (.bool true))=AE P A kn n N a st:=rfl
theorem nA{A:Ann}{kn:CF0}{n N:Nat}(a b:Code):lZ (AE P A kn n N) a b st (some (.bool false))=AE P A kn n N b st:=rfl
attribute [simp] AEW rJ yQ AEU yM rH yN yO yP AEV rI mW AEX yR AEY cI rK mX rL rM nA AE0
end Go.Pg
namespace Go.Pg
variable {P:Program}{E:XE}{st:XS}{fr:Fr}{s:St}
@[simp] theorem ATE(k:IntKind)(n:Int):A6 (.int k n)=[.int k n]:=rfl
@[simp] theorem ANX(b:Bool):A6 (.bool b)=[.bool b]:=rfl
@[simp] theorem ATF(cs:List V):A6 (.agg cs)=cs:=rfl
@[simp] theorem ANY(b:Bool)(es:List (List V)):A6 (.list b es)=[.list b es]:=rfl
@[simp] theorem ATG:A6 .nil=[.nil]:=rfl
@[simp] theorem ATH(l k g n:Nat):A6 (.vec l k g n)=[.vec l k g n]:=rfl
@[simp] theorem AYA(l k g:Nat):A6 (.mp l k g)=[.mp l k g]:=rfl
@[simp] theorem AYB(f:FuncId)(x y:List V):A6 (.fn f x y)=[.fn f x y]:=rfl
@[simp] theorem ATI(l k g n:Nat):A6 (.ptr l k g n)=[.ptr l k g n]:=rfl
@[simp] theorem ATJ(cs:List V):A6 (.ref cs)=[.ref cs]:=rfl
@[simp] theorem ATK(k:IntKind)(n:Int):A7 (.int k n)=true:=rfl
@[simp] theorem ANZ(b:Bool):A7 (.bool b)=true:=rfl
@[simp] theorem ATL(cs:List V):A7 (.agg cs)=true:=rfl
@[simp] theorem AN0(b:Bool)(es:List (List V)):A7 (.list b es)=true:=rfl
@[simp] theorem ATM:A7 .nil=true:=rfl
@[simp] theorem ATN(l k g n:Nat):A7 (.vec l k g n)=true:=rfl
@[simp] theorem AYC(l k g:Nat):A7 (.mp l k g)=true:=rfl
@[simp] theorem AYD(f:FuncId)(x y:List V):A7 (.fn f x y)=true:=rfl
@[simp] theorem ATO(l k g n:Nat):A7 (.ptr l k g n)=true:=rfl
@[simp] theorem ATP(cs:List V):A7 (.ref cs)=true:=rfl
@[simp] theorem AYE(op:BinOp)(T:TypeId)(k j:IntKind)(a b:Int):GY P op T (.int k a) (.int j b)=if k=j then ER op k a b else YN op k a b:=rfl
@[simp] theorem A7E(k:IntKind)(a b:Int):YN .shl k a b=if b<0 then none else some (.int k (k.wrap (a*2 ^ (min b.toNat k.bits)))):=rfl
@[simp] theorem T9(k:IntKind)(a b:Int):YN .shr k a b=if b<0 then none else some (.int k (a.fdiv (2 ^ (min b.toNat k.bits)))):=rfl
section
variable (k:IntKind)(a b:Int)
@[simp] theorem AYF:ER .add k a b=some (.int k (k.wrap (a+b))):=rfl
@[simp] theorem AYG:ER .sub k a b=some (.int k (k.wrap (a-b))):=rfl
@[simp] theorem AYH:ER .mul k a b=some (.int k (k.wrap (a*b))):=rfl
@[simp] theorem AYI:ER .quo k a b=if b=0 then none else some (.int k (k.wrap (a.tdiv b))):=rfl
@[simp] theorem AYJ:ER .rem k a b=if b=0 then none else some (.int k (a.tmod b)):=rfl
@[simp] theorem AYK:ER .and k a b=some (.int k (k.wrap (BitVec.ofInt k.bits a &&& BitVec.ofInt k.bits b).toNat)):=rfl
@[simp] theorem A7F:ER .or k a b=some (.int k (k.wrap (BitVec.ofInt k.bits a ||| BitVec.ofInt k.bits b).toNat)):=rfl
@[simp] theorem AKH:ER .andNot k a b=some (.int k (k.wrap (BitVec.ofInt k.bits a &&& ~~~ BitVec.ofInt k.bits b).toNat)):=rfl
@[simp] theorem AYL:ER .shl k a b=if b<0 then none else some (.int k (k.wrap (a*2 ^ (min b.toNat k.bits)))):=rfl
@[simp] theorem AYM:ER .shr k a b=if b<0 then none else some (.int k (a.fdiv (2 ^ (min b.toNat k.bits)))):=rfl
@[simp] theorem AYN:ER .eql k a b=some (.bool (decide (a=b))):=by show some (V.bool (a==b))=_;congr 2
@[simp] theorem AYO:ER .neq k a b=some (.bool (!decide (a=b))):=by show some (V.bool (a != b))=_;congr 2
@[simp] theorem AYP:ER .lss k a b=some (.bool (decide (a<b))):=rfl
@[simp] theorem AYQ:ER .leq k a b=some (.bool (decide (a≤b))):=rfl
@[simp] theorem AYR:ER .gtr k a b=some (.bool (decide (b<a))):=rfl
@[simp] theorem AYS:ER .geq k a b=some (.bool (decide (b≤a))):=rfl
end
theorem AS{x:Int}(h1:-9223372036854775808≤x)(h2:x<9223372036854775808):IntKind.i64.wrap x=x:=by simp only[IntKind.wrap,IntKind.bits,IntKind.signed];simp;omega
@[simp] theorem AN1(T:TypeId)(a b:Bool):GY P .eql T (.bool a) (.bool b)=if tN P T=true then some (.bool (a==b)) else none:=rfl
@[simp] theorem AN2(T:TypeId)(a b:Bool):GY P .neq T (.bool a) (.bool b)=if tN P T=true then some (.bool (a != b)) else none:=rfl
def bl1(f:Bool→Bool):Option Bool→Option V
 |some b=>some (.bool (f b))
 |none=>none
@[simp] theorem A7G(f:Bool→Bool)(b:Bool):bl1 f (some b)=some (.bool (f b)):=rfl
@[simp] theorem ATQ(T:TypeId)(cs ds:List V):GY P .eql T (.agg cs) (.agg ds)=bl1 (fun b=>b) (QX P T cs ds):=by show(QX P T cs ds).map V.bool=_;cases QX P T cs ds<;>rfl
@[simp] theorem ATR(T:TypeId)(cs ds:List V):GY P .neq T (.agg cs) (.agg ds)=bl1 (fun b=>!b) (QX P T cs ds):=by show(QX P T cs ds).map (fun b=>V.bool !b)=_;cases QX P T cs ds<;>rfl
def faP(P:Program)(x:V):Option (TypeId×Nat)→Option V
 |some (U,off)=>if P.cellsOf U=0 then none else match x with
  |.ref cs=>some (.ref (cs.drop off))
  |.ptr l k g o=>some (.ptr l k g (o+off))
  |.eptr l k g i o=>some (.eptr l k g i (o+off))
  |_=>none
 |none=>none
@[simp] theorem BBG(T:TypeId)(x:V)(f:Nat):C6 P T x f=faP P x (A2 P T f):=by unfold C6 faP;cases A2 P T f<;>rfl
@[simp] theorem BBH(U:TypeId)(off:Nat)(cs:List V):faP P (.ref cs) (some (U,off))=if P.cellsOf U=0 then none else some (.ref (cs.drop off)):=rfl
@[simp] theorem BBI(U:TypeId)(off l k g o:Nat):faP P (.ptr l k g o) (some (U,off))=if P.cellsOf U=0 then none else some (.ptr l k g (o+off)):=rfl
@[simp] theorem A7I(U:TypeId)(off l k g i o:Nat):faP P (.eptr l k g i o) (some (U,off))=if P.cellsOf U=0 then none else some (.eptr l k g i (o+off)):=rfl
def fd1(P:Program)(x:V):Option (TypeId×Nat)→Option V
 |some (U,off)=>match x with
  |.agg cs=>M5 P U cs off
  |_=>none
 |none=>none
@[simp] theorem ATS(T:TypeId)(x:V)(f:Nat):ID P T x f=fd1 P x (A2 P T f):=by unfold ID fd1;cases x<;>cases A2 P T f<;>rfl
@[simp] theorem BBJ(U:TypeId)(off:Nat)(cs:List V):fd1 P (.agg cs) (some (U,off))=M5 P U cs off:=rfl
def cb(g off:Nat):Option (Nat×AX)→Option (List V)
 |some (g',.box cs)=>if g'=g then some (cs.drop off) else none
 |_=>none
@[simp] theorem BBK(g g' off:Nat)(cs:List V):cb g off (some (g',.box cs))=if g'=g then some (cs.drop off) else none:=rfl
def ce(g i off:Nat):Option (Nat×AX)→Option (List V)
 |some (g',.vec _ es)=>if g'=g then(es[i]?).map (·.drop off) else none
 |_=>none
@[simp] theorem BBL(g g' i off:Nat)(T:TypeId)(es:List (List V)):ce g i off (some (g',.vec T es))=if g'=g then(es[i]?).map (·.drop off) else none:=rfl
@[simp] theorem AN3(cs:List V):A5 s (.ref cs)=some cs:=rfl
@[simp] theorem AN4(l k g off:Nat):A5 s (.ptr l k g off)=cb g off (s.get l k):=by
 unfold cb;simp only[A5];cases s.get l k with
 |none=>rfl
 |some z=>obtain⟨g',r⟩:=z;cases r<;>rfl
@[simp] theorem AKI(l k g i off:Nat):A5 s (.eptr l k g i off)=ce g i off (s.get l k):=by
 unfold ce;simp only[A5];cases s.get l k with
 |none=>rfl
 |some z=>obtain⟨g',r⟩:=z;cases r<;>rfl
def iv(P:Program)(e:TypeId)(l k g n:Nat)(j:Int):Option (Nat×AX)→Option V
 |some (g',.vec _ es)=>if g'=g∧0≤j∧j<n∧n≤es.length∧(es.getD j.toNat []).length=P.cellsOf e∧0<P.cellsOf e then some (.eptr l k g j.toNat 0) else none
 |_=>none
@[simp] theorem BBM(e:TypeId)(l k g g' n:Nat)(j:Int)(T:TypeId)(es:List (List V)):iv P e l k g n j (some (g',.vec T es))=if g'=g∧0≤j∧j<n∧n≤es.length∧(es.getD j.toNat []).length=P.cellsOf e∧0<P.cellsOf e then some (.eptr l k g j.toNat 0) else none:=rfl
def ia(P:Program)(s:St)(x i:V):Option (Option Nat×TypeId)→Option V
 |some (none,e)=>match x,i with
  |.list _ es,.int _ j=>if 0≤j∧j<es.length∧(es.getD j.toNat []).length=P.cellsOf e∧0<P.cellsOf e then some (.ref (es.getD j.toNat [])) else none
  |.vec l k g n,.int _ j=>iv P e l k g n j (s.get l k)
  |_,_=>none
 |some (some n,e)=>match x,i with
  |.ref cs,.int _ j=>if 0≤j∧j<n∧0<P.cellsOf e then some (.ref (cs.drop (j.toNat*P.cellsOf e))) else none
  |.ptr l k g o,.int _ j=>if 0≤j∧j<n∧0<P.cellsOf e then some (.ptr l k g (o+j.toNat*P.cellsOf e)) else none
  |.eptr l k g i' o,.int _ j=>if 0≤j∧j<n∧0<P.cellsOf e then some (.eptr l k g i' (o+j.toNat*P.cellsOf e)) else none
  |_,_=>none
 |none=>none
@[simp] theorem BBN(T:TypeId)(x i:V):BT P s T x i=ia P s x i (BM P T):=by
 unfold BT ia;cases BM P T with
 |none=>rfl
 |some z=>
  obtain⟨n,e⟩:=z
  cases n with
  |some n=>cases x<;>cases i<;>rfl
  |none=>
   cases x with
   |vec l k g n=>
    cases i with
    |int q j=>
     simp only[iv]
     cases s.get l k with
     |none=>rfl
     |some z=>obtain⟨g',r⟩:=z;cases r<;>rfl
    |_=>rfl
   |_=>cases i<;>rfl
@[simp] theorem BBO(e:TypeId)(b:Bool)(es:List (List V))(k:IntKind)(j:Int):ia P s (.list b es) (.int k j) (some (none,e))=if 0≤j∧j<es.length∧(es.getD j.toNat []).length=P.cellsOf e∧0<P.cellsOf e then some (.ref (es.getD j.toNat [])) else none:=rfl
@[simp] theorem BGS(e:TypeId)(l q g n:Nat)(k:IntKind)(j:Int):ia P s (.vec l q g n) (.int k j) (some (none,e))=iv P e l q g n j (s.get l q):=rfl
@[simp] theorem BGT(n:Nat)(e:TypeId)(cs:List V)(k:IntKind)(j:Int):ia P s (.ref cs) (.int k j) (some (some n,e))=if 0≤j∧j<n∧0<P.cellsOf e then some (.ref (cs.drop (j.toNat*P.cellsOf e))) else none:=rfl
@[simp] theorem BGU(n:Nat)(e:TypeId)(l q g o:Nat)(k:IntKind)(j:Int):ia P s (.ptr l q g o) (.int k j) (some (some n,e))=if 0≤j∧j<n∧0<P.cellsOf e then some (.ptr l q g (o+j.toNat*P.cellsOf e)) else none:=rfl
@[simp] theorem BBP(n:Nat)(e:TypeId)(l q g i o:Nat)(k:IntKind)(j:Int):ia P s (.eptr l q g i o) (.int k j) (some (some n,e))=if 0≤j∧j<n∧0<P.cellsOf e then some (.eptr l q g i (o+j.toNat*P.cellsOf e)) else none:=rfl
def ix(P:Program)(x i:V):Option (Option Nat×TypeId)→Option V
 |some (some n,e)=>match x,i with
  |.agg cs,.int _ j=>if 0≤j∧j<n∧0<P.cellsOf e then M5 P e cs (j.toNat*P.cellsOf e) else none
  |_,_=>none
 |_=>none
@[simp] theorem ATT(T:TypeId)(x i:V):JC P T x i=ix P x i (BM P T):=by
 unfold JC ix;cases BM P T with
 |none=>rfl
 |some z=>obtain⟨n,e⟩:=z;cases n<;>cases x<;>cases i<;>rfl
@[simp] theorem BGV(n:Nat)(e:TypeId)(cs:List V)(k:IntKind)(j:Int):ix P (.agg cs) (.int k j) (some (some n,e))=if 0≤j∧j<n∧0<P.cellsOf e then M5 P e cs (j.toNat*P.cellsOf e) else none:=rfl
theorem O7{T:TypeId}(h:DE P T=true):∃e,P.underlying T=some (.slice e):=by
 unfold DE at h;split at h
 ·rename_i e he;exact⟨e,he⟩
 ·cases h
@[simp] theorem rN{T:TypeId}(h:DE P T=true)(b:Bool)(es:List (List V)):HQ P T (.list b es)=some (.int .i64 es.length):=by obtain⟨e,he⟩:=O7 h;simp[HQ,he]
@[simp] theorem AYT{T:TypeId}(h:DE P T=true)(l k g n:Nat):HQ P T (.vec l k g n)=some (.int .i64 n):=by obtain⟨e,he⟩:=O7 h;simp[HQ,he]
@[simp] theorem yU{T:TypeId}(h:DE P T=true):HQ P T .nil=some (.int .i64 0):=by obtain⟨e,he⟩:=O7 h;simp[HQ,he]
def fv(place:Nat→Option (Nat×Nat))(cs:List V)(v:V)(rest:List (Nat×V)):Option (Nat×Nat)→Option (List V)
 |none=>none
 |some (off,size)=>if (A6 v).length=size∧off+(A6 v).length≤cs.length then C3 place (A3 cs off (A6 v)) rest else none
@[simp] theorem AYU(place:Nat→Option (Nat×Nat))(cs:List V):C3 place cs []=some cs:=rfl
@[simp] theorem ATU(place:Nat→Option (Nat×Nat))(cs:List V)(i:Nat)(v:V)(rest:List (Nat×V)):C3 place cs ((i,v)::rest)=fv place cs v rest (place i):=by simp only[C3];unfold fv;cases place i<;>rfl
@[simp] theorem BBQ(place:Nat→Option (Nat×Nat))(cs:List V)(v:V)(rest:List (Nat×V))(off size:Nat):fv place cs v rest (some (off,size))=if (A6 v).length=size∧off+(A6 v).length≤cs.length then C3 place (A3 cs off (A6 v)) rest else none:=rfl
attribute [simp] A3
@[simp] theorem AN5(size:Nat)(cs:List V):CQ size cs 0=[]:=rfl
@[simp] theorem AN6(size:Nat)(cs:List V)(n:Nat):CQ size cs (n+1)=cs.take size::CQ size (cs.drop size) n:=rfl
def ch1(size len:Nat):Option (List V)→Option V
 |some cs=>some (.list true (CQ size cs len))
 |none=>none
@[simp] theorem A7J(size len:Nat)(cs:List V):ch1 size len (some cs)=some (.list true (CQ size cs len)):=rfl
def bsz(P:Program)(e:TypeId)(len:Nat)(parts:List (Nat×V)):Option (List V)→Option V
 |some z=>if (parts.all fun p=>A7 p.2)=true∧z.length=P.cellsOf e∧0<P.cellsOf e∧len*P.cellsOf e≤2 ^ 24 then
   ch1 (P.cellsOf e) len (C3 (fun i=>some (i*P.cellsOf e,P.cellsOf e)) (List.replicate len z).flatten parts) else none
 |none=>none
@[simp] theorem A7K(e:TypeId)(len:Nat)(parts:List (Nat×V))(z:List V):bsz P e len parts (some z)=if (parts.all fun p=>A7 p.2)=true∧z.length=P.cellsOf e∧0<P.cellsOf e∧len*P.cellsOf e≤2 ^ 24 then
   ch1 (P.cellsOf e) len (C3 (fun i=>some (i*P.cellsOf e,P.cellsOf e)) (List.replicate len z).flatten parts) else none:=rfl
def bsl(P:Program)(len:Nat)(parts:List (Nat×V)):Option (Option Nat×TypeId)→Option V
 |some (none,e)=>bsz P e len parts (B7 P e)
 |_=>none
@[simp] theorem A7L(e:TypeId)(len:Nat)(parts:List (Nat×V)):bsl P len parts (some (none,e))=bsz P e len parts (B7 P e):=rfl
@[simp] theorem BBS(T:TypeId)(len:Nat)(parts:List (Nat×V)):CC P T len parts=bsl P len parts (BM P T):=by
 unfold CC bsl;cases BM P T with
 |none=>rfl
 |some z=>
  obtain⟨n,e⟩:=z
  cases n with
  |some n=>rfl
  |none=>
   simp only[bsz]
   cases B7 P e with
   |none=>rfl
   |some z=>
    simp only
    split
    ·cases C3 (fun i=>some (i*P.cellsOf e,P.cellsOf e)) (List.replicate len z).flatten parts<;>rfl
    ·rfl
def fn2(f:FuncId):Option (List V)→Option (List V)→Option V
 |some a,some b=>some (.fn f a b)
 |_,_=>none
@[simp] theorem A7M(f:FuncId)(a b:List V):fn2 f (some a) (some b)=some (.fn f a b):=rfl
@[simp] theorem BGY(f:FuncId)(x y:Array Operand)(r:Operand→Option V):IL P (eI (.makeFunc (.func f) x y)) s r=fn2 f (FK r x.toList) (FK r y.toList):=by show((x.toList.mapM r).bind fun a=>(y.toList.mapM r).bind fun b=>some (V.fn f a b))=_;rw[←KZ,←KZ];cases FK r x.toList<;>cases FK r y.toList<;>rfl
@[simp] theorem BBU(x y:Operand)(Ts:Array TypeId)(r:Operand→Option V):IL P (eI (.call ⟨.builtin .max,#[x,y],Ts⟩)) s r=o2 S9 (r x) (r y):=iA _ _ _
@[simp] theorem BBV(x y:Operand)(Ts:Array TypeId)(r:Operand→Option V):IL P (eI (.call ⟨.builtin .min,#[x,y],Ts⟩)) s r=o2 TA (r x) (r y):=iA _ _ _
@[simp] theorem AYV(k j:IntKind)(m n:Int):S9 (.int k m) (.int j n)=if k=j then some (.int k (if n>m then n else m)) else none:=rfl
@[simp] theorem AYW(k j:IntKind)(m n:Int):TA (.int k m) (.int j n)=if k=j then some (.int k (if n<m then n else m)) else none:=rfl
theorem CA{e:TypeId}{n:Nat}{ys:List (List V)}(hc:0<P.cellsOf e)(hz:V0 P e=true):B4 P e n ys=true↔(ys.all (fun y=>y.length==P.cellsOf e)=true∧n+ys.length≤maxLen∧(n+ys.length)*P.bytesOf e≤140737488355328):=by simp[B4,hc,hz,and_assoc]
end Go.Pg
namespace Go.Pg
variable {P:Program}{E:XE}{st:XS}{fr:Fr}{s:St}
theorem AP{P:Program}{kn:CF0}{rec:GD}{f:FuncId}{args:List V}(h:kn f args=none):AW P kn rec f args=EX P rec f args:=by unfold AW;rw[h]
def pv(k γ:Nat):List (List V)→V
 |[]=>.nil
 |e::es=>.vec 0 k γ (e::es).length
def pl(k γ:Nat)(T:TypeId):List (List V)→AA
 |[]=>[]
 |e::es=>[(k,γ,.vec T (e::es))]
def sl:List (List V)→V
 |[]=>.nil
 |e::es=>.list false (e::es)
@[simp] theorem BGZ(k γ:Nat):pv k γ []=.nil:=rfl
@[simp] theorem BG0(k γ:Nat)(T:TypeId):pl k γ T []=[]:=rfl
@[simp] theorem BBW(k γ:Nat)(T:TypeId)(es:List (List V))(y:List V)(ys:List (List V)):pl k γ T (es++y::ys)=[(k,γ,.vec T (es++y::ys))]:=by cases es<;>rfl
@[simp] theorem BBX(k γ:Nat)(T:TypeId)(y:List V)(ys:List (List V)):pl k γ T (y::ys)=[(k,γ,.vec T (y::ys))]:=rfl
@[simp] theorem BKI(k γ:Nat)(T:TypeId)(es:List (List V)):kl k [] ((pl k γ T es).get k)=pl k γ T es:=by
 cases es with
 |nil=>rfl
 |cons e es=>simp
@[simp] theorem A7N{k j:Nat}(γ:Nat)(T:TypeId)(es:List (List V))(h:j≠k):(pl k γ T es).get j=none:=by
 cases es with
 |nil=>rfl
 |cons e es=>simp[h]
@[simp] theorem ATV(e k c γ:Nat)(loc:AA)(es:List (List V))(y:List V)(ys:List (List V))(hl:AA.get loc k=(pl k γ e es).get k)(h1:es.all (fun y=>y.length==P.cellsOf e)=true)(h2:B4 P e es.length (y::ys)=true) :
  zU P e k c fr ⟨[],loc⟩ (pv k γ es) (y::ys)=some ⟨c+1,(k,true,pv k c (es++y::ys))::fr,⟨[],(k,c,.vec e (es++y::ys))::loc⟩⟩:=by
 cases es with
 |nil=>
  simp only[List.length_nil]at h2
  simp[h2,pv]
 |cons z es=>
  have hl:AA.get loc k=some (γ,.vec e (z::es)):=by rw[hl];simp
  simp only[pv,AKA,AE7,List.length_nil,if_true,hl,mY,UR,T6,true_and,h1,h2]
  simp[Nat.add_comm,Nat.add_left_comm]
theorem PY{T:TypeId}(f:Nat)(loc:AA)(k γ:Nat)(es:List (List V))(hl:AA.get loc k=(pl k γ T es).get k):AZ ⟨[],loc⟩ (f+1) (pv k γ es)=some (sl es):=by
 cases es with
 |nil=>rfl
 |cons z es=>
  have hl:AA.get loc k=some (γ,.vec T (z::es)):=by rw[hl];simp
  simp only[pv,aY,List.length_nil,if_true,hl,AE8,sl]
  simp
@[simp] theorem AYX(f k γ:Nat)(T:TypeId)(es:List (List V)):AZ ⟨[],pl k γ T es⟩ (f+1) (pv k γ es)=some (sl es):=PY (T:=T) f _ k γ es rfl
@[simp] theorem A7O{T:TypeId}(h:DE P T=true)(es:List (List V)):HQ P T (sl es)=some (.int .i64 es.length):=by
 cases es with
 |nil=>exact yU h
 |cons e es=>exact rN h _ _
@[simp] theorem BKJ(e:TypeId)(es:List (List V))(k:IntKind)(j:Int):ia P s (sl es) (.int k j) (some (none,e))=if 0≤j∧j<es.length∧(es.getD j.toNat []).length=P.cellsOf e∧0<P.cellsOf e then some (.ref (es.getD j.toNat [])) else none:=by
 cases es with
 |nil=>
  rw[if_neg (by simp only[List.length_nil];omega)]
  rfl
 |cons z es=>rfl
@[simp] theorem eM(f:Nat)(es:List (List V)):AK (f+1) (sl es)=es.all fun e=>e.all (AK f):=by cases es<;>rfl
@[simp] theorem A7P(es:List (List V)):weakN (sl es)=.list false es:=by cases es<;>rfl
@[simp] theorem A7Q(es:List (List V)):weakM (sl es)=.list false es:=by cases es<;>rfl
@[simp] theorem BBY(es:List (List V)):weakV (sl es)=sl es:=by cases es<;>rfl
@[simp] theorem A7R(es:List (List V)):weakC (sl es)=sl es:=by cases es<;>rfl
@[simp] theorem AYY(es:List (List V)):A6 (sl es)=[sl es]:=by cases es<;>rfl
@[simp] theorem AYZ(es:List (List V)):A7 (sl es)=true:=by cases es<;>rfl
@[simp] theorem AY0(k γ:Nat)(es:List (List V)):A6 (pv k γ es)=[pv k γ es]:=by cases es<;>rfl
@[simp] theorem AY1(k γ:Nat)(es:List (List V)):A7 (pv k γ es)=true:=by cases es<;>rfl
@[simp] theorem ATW(es:List (List V)):elemsOf s (sl es)=some es:=by cases es<;>rfl
@[simp] theorem AY2(f:Nat)(es:List (List V)):AZ s (f+1) (sl es)=some (sl es):=by cases es<;>rfl
@[simp] theorem AY3(es:List (List V)):EV (some (sl es))=[]:=by cases es<;>rfl
@[simp] theorem AY4(es:List (List V)):J2 (some (sl es))=[]:=by cases es<;>rfl
noncomputable def rP(P:Program)(e:TypeId)(d c:Nat)(fr:Fr)(s:St)(xv:V)(ys:List (List V)):Option (XS×AM):=match H4 xv ys with
 |some es=>if es.all (fun y=>y.length==P.cellsOf e)=true∧B4 P e es.length ys=true then some (⟨c+1,(d,true,.vec s.up.length d c (es.length+ys.length))::fr,s.put s.up.length d c (.vec e (es++ys))⟩,[(s.up.length,d),(s.up.length,d+F9)]) else none
 |none=>match xv with
  |.vec l q γ n=>wp [(l,q),(l,q+F9)] (apW P e d c fr s l q γ n ys (QY n ys (s.get l q)))
  |_=>none
noncomputable def ad4(P:Program)(e:TypeId)(d c:Nat)(fr:Fr)(s:St)(xv:V):Option (List (List V))→Option (XS×AM)
 |some ys=>rP P e d c fr s xv ys
 |none=>none
@[simp] theorem AE9(e:TypeId)(d c:Nat)(xv:V)(ys:List (List V)):ad4 P e d c fr s xv (some ys)=rP P e d c fr s xv ys:=rfl
noncomputable def ad3(P:Program)(d c:Nat)(fr:Fr)(s:St):Option (Option Nat×TypeId)→Option V→Option V→Option (XS×AM)
 |some (none,e),some xv,some yv=>ad4 P e d c fr s xv (elemsOf s yv)
 |_,_,_=>none
@[simp] theorem AFA(d c:Nat)(e:TypeId)(xv yv:V):ad3 P d c fr s (some (none,e)) (some xv) (some yv)=ad4 P e d c fr s xv (elemsOf s yv):=rfl
@[simp] theorem AN7(b:Bool)(es:List (List V)):pB (.list b es)=some es:=rfl
@[simp] theorem ATX:pB .nil=some []:=rfl
@[simp] theorem AY5(es:List (List V)):pB (sl es)=some es:=by cases es<;>rfl
@[simp] theorem AY6(d:Tmp)(c:Nat)(x y:Operand)(T:TypeId):DH P E (some d) (.app [x,y] [T,T]) ⟨c,fr,s⟩=ad3 P d c fr s (BM P T) (CO fr x) (CO fr y):=by
 show xAppD P (some d) [x,y] [T,T] _=_;unfold xAppD xAppG;simp only[Nat.beq_refl];cases hT:BM P T with
 |none=>cases CO fr x<;>cases CO fr y<;>rfl
 |some p=>
  obtain⟨k,e⟩:=p
  cases k with
  |some k=>cases CO fr x<;>cases CO fr y<;>rfl
  |none=>
   cases CO fr x with
   |none=>rfl
   |some xv=>
    cases CO fr y with
    |none=>rfl
    |some yv=>
     simp only[AFA]
     cases elemsOf s yv with
     |none=>rfl
     |some ys=>
      simp only[AE9,rP]
      cases H4 xv ys with
      |some es=>
       simp only[ifB,Bool.and_eq_true,List.length_append]
       by_cases hC:es.all (fun y=>y.length==P.cellsOf e)=true∧B4 P e es.length ys=true
       ·rw[if_pos hC,if_pos hC]
       ·rw[if_neg hC,if_neg hC]
      |none=>
       simp only
       unfold lT
       cases xv with
       |vec l q γ n=>
        simp only
        cases QY n ys (s.get l q)with
        |none=>rfl
        |some z=>
         obtain⟨γ',r⟩:=z
         cases r with
         |vec W es=>
          simp only[ifB,Bool.and_eq_true,List.length_append,T6,Nat.beq_eq,and_assoc]
          by_cases hC:γ'=γ∧W=e∧n=es.length∧es.all (fun y=>y.length==P.cellsOf e)=true∧B4 P e es.length ys=true
          ·rw[if_pos hC,if_pos hC];rfl
          ·rw[if_neg hC,if_neg hC];rfl
         |_=>rfl
       |_=>rfl
@[simp] theorem BG2(e k c γ:Nat)(loc:AA)(es:List (List V))(y:List V)(ys:List (List V))(hl:AA.get loc k=(pl k γ e es).get k)(h1:es.all (fun y=>y.length==P.cellsOf e)=true)(h2:B4 P e es.length (y::ys)=true) :
  rP P e k c fr ⟨[],loc⟩ (pv k γ es) (y::ys)=some (⟨c+1,(k,true,pv k c (es++y::ys))::fr,⟨[],(k,c,.vec e (es++y::ys))::loc⟩⟩,[(0,k),(0,k+F9)]):=by
 cases es with
 |nil=>
  simp only[List.length_nil]at h2
  simp[rP,H4,h2,pv]
 |cons z es=>
  have hl:AA.get loc k=some (γ,.vec e (z::es)):=by rw[hl];simp
  simp only[pv,rP,H4,AE7,List.length_nil,if_true,hl,mY,UR,T6,true_and,h1,h2]
  simp[Nat.add_comm,Nat.add_left_comm]
end Go.Pg
namespace Go.Pg
variable {P:Program}{E:XE}{st:XS}{fr:Fr}{s:St}
theorem rQ{α:Type}(x:α):C5 [x]=some ([],x):=rfl
def un1{α:Type}(x:α):Option (List α×α)→Option (List α×α)
 |some (a,b)=>some (x::a,b)
 |none=>none
@[simp] theorem A7S{α:Type}(x:α)(a:List α)(b:α):un1 x (some (a,b))=some (x::a,b):=rfl
theorem WG{α:Type}(x y:α)(l:List α):C5 (x::y::l)=un1 x (C5 (y::l)):=by simp only[C5];unfold un1;cases C5 (y::l)<;>rfl
attribute [simp] rQ WG
noncomputable def rR(d:Option Tmp)(fr:Fr)(c:Nat)(r:V):Option (List AA×AA)→Option XS
 |some (u,l)=>some ⟨c,putD fr d true r,⟨u,l⟩⟩
 |none=>none
@[simp] theorem AY7(d:Tmp)(c:Nat)(r:V)(u:List AA)(l:AA):rR (some d) fr c r (some (u,l))=some ⟨c,(d,true,r)::fr,⟨u,l⟩⟩:=rfl
@[simp] theorem BBZ(c:Nat)(r:V)(u:List AA)(l:AA):rR none fr c r (some (u,l))=some ⟨c,fr,⟨u,l⟩⟩:=rfl
noncomputable def nB(d:Option Tmp)(fr:Fr)(st:XS):Option V→Option XS
 |some r=>rR d fr st.c r (C5 (st.s.up.map (AN st.s)))
 |none=>none
@[simp] theorem AY8(d:Option Tmp)(c:Nat)(fr':Fr)(up:List AA)(loc:AA)(r:V):nB d fr ⟨c,fr',⟨up,loc⟩⟩ (some r)=rR d fr c r (C5 (up.map (AN ⟨up,loc⟩))):=rfl
noncomputable def clX(s:St):Option V→Option V
 |some r=>AZ s 4 r
 |none=>none
@[simp] theorem A7T(r:V):clX s (some r)=AZ s 4 r:=rfl
noncomputable def nC(P:Program)(d:Option Tmp)(fr:Fr)(rs:List ResultVar)(r:Option (Exit×XS)):Option XS:=match r with
 |some (.ret,st)=>nB d fr st (clX st.s (F0 P rs st.fr st.s))
 |some (.normal,st)=>nB d fr st (clX st.s (F0 P rs st.fr st.s))
 |_=>none
@[simp] theorem AFB(d:Option Tmp)(rs:List ResultVar):nC P d fr rs (some (.ret,st))=nB d fr st (clX st.s (F0 P rs st.fr st.s)):=rfl
@[simp] theorem nD(d:Option Tmp)(rs:List ResultVar):nC P d fr rs (some (.normal,st))=nB d fr st (clX st.s (F0 P rs st.fr st.s)):=rfl
theorem nE{A:Ann}{kn:CF0}{n:Nat}{f:FuncId}{fn:Func}{code:Code}{args:List V}(hf:P.funcs[f]? = some fn)(hb:fn.body=some code)(hs:Nat.ble args.length fn.ntmps=true)(hcl:(args.all (AK 9)&&!(BC P f))=false)(d:Option Tmp)(c:Nat)(fr:Fr)(up:List AA)(loc:AA) :
  H9 (BN P A kn n) d ⟨c,fr,⟨up,loc⟩⟩ f args=nC P d fr fn.results.toList (AE P A kn n fn.ntmps code ⟨c,AG 0 args,⟨up++[loc],[]⟩⟩):=by
 show(match Z1 P kn (AE P A kn n) f args ⟨c,fr,⟨up,loc⟩⟩ with
  |some (r,st')=>some (⟨st'.c,putD st'.fr d true r,st'.s⟩:XS)
  | none=>none)=_
 unfold Z1
 rw[hcl]
 unfold dR WD tV
 rw[hf]
 simp only[hb,hs]
 generalize AE P A kn n fn.ntmps code ⟨c,AG 0 args,⟨up++[loc],[]⟩⟩=q
 have aux:∀st:XS,(match(match(match xR P fn.results.toList st with
   |some (r,c,up)=>match C5 up with
    |some (u,l)=>some (r,(⟨c,fr,⟨u,l⟩⟩:XS))
    |none=>none
   | none=>none:Option (V×XS))with
   |some r=>some r
   | none=>none:Option (V×XS))with
  |some (r,st')=>some (⟨st'.c,putD st'.fr d true r,st'.s⟩:XS)
  | none=>none)=nB d fr st (clX st.s (F0 P fn.results.toList st.fr st.s)):=fun st=>by
  unfold xR clX
  cases F0 P fn.results.toList st.fr st.s with
  |none=>rfl
  |some r=>
   cases h:AZ st.s 4 r with
   |none=>simp[nB,h]
   |some r'=>
    simp only[h,nB]
    cases C5 (st.s.up.map (AN st.s))with
    |none=>rfl
    |some z=>rfl
 cases q with
 |none=>rfl
 |some q=>
  obtain⟨e,st⟩:=q
  have:=aux st
  cases e with
  |ret=>simp only[AFB,←this];cases xR P fn.results.toList st with
   |none=>rfl
   |some z=>
    obtain⟨r,c,up⟩:=z
    simp only
    cases C5 up<;>rfl
  |normal=>simp only[nD,←this];cases xR P fn.results.toList st with
   |none=>rfl
   |some z=>
    obtain⟨r,c,up⟩:=z
    simp only
    cases C5 up<;>rfl
  |_=>rfl
theorem BG{A:Ann}{kn:CF0}{n:Nat}{f:FuncId}{fn:Func}{code:Code}{args:List V}(hf:P.funcs[f]? = some fn)(hb:fn.body=some code)(hs:Nat.ble args.length fn.ntmps=true)(hcl:args.all (AK 9)=false)(d:Option Tmp)(c:Nat)(fr:Fr)(up:List AA)(loc:AA) :
  H9 (BN P A kn n) d ⟨c,fr,⟨up,loc⟩⟩ f args=nC P d fr fn.results.toList (AE P A kn n fn.ntmps code ⟨c,AG 0 args,⟨up++[loc],[]⟩⟩) :=
 nE hf hb hs (by rw[hcl,Bool.false_and]) d c fr up loc
theorem vA{A:Ann}{kn:CF0}{n:Nat}{f:FuncId}{fn:Func}{code:Code}{args:List V}(hf:P.funcs[f]? = some fn)(hb:fn.body=some code)(hs:Nat.ble args.length fn.ntmps=true)(hh:BC P f=true)(d:Option Tmp)(c:Nat)(fr:Fr)(up:List AA)(loc:AA) :
  H9 (BN P A kn n) d ⟨c,fr,⟨up,loc⟩⟩ f args=nC P d fr fn.results.toList (AE P A kn n fn.ntmps code ⟨c,AG 0 args,⟨up++[loc],[]⟩⟩) :=
 nE hf hb hs (by rw[hh,Bool.not_true,Bool.and_false]) d c fr up loc
@[simp] theorem ATZ(f l k g o:Nat):AK (f+1) (.ptr l k g o)=false:=rfl
@[simp] theorem AT0(f l k g o:Nat):AK (f+1) (.vec l k g o)=false:=rfl
@[simp] theorem AY9(f l k g:Nat):AK (f+1) (.mp l k g)=false:=rfl
@[simp] theorem A7U(l k g o:Nat):weakV (.ptr l k g o)=.ptr l k g o:=rfl
@[simp] theorem A7V(l k g o:Nat):weakV (.vec l k g o)=.vec l k g o:=rfl
@[simp] theorem A7W(cs:List V):weakV (.ref cs)=.ref cs:=rfl
@[simp] theorem BG4(d c:Nat)(f:FuncId)(x y:List V):yS d c fr s (some (.fn f x y))=some ⟨c+1,(d,true,.ptr s.up.length d c 0)::fr,s.put s.up.length d c (.box [.fn f x y])⟩:=rfl
@[simp] theorem BB0(d c:Nat)(l k g o:Nat):yS d c fr s (some (.ptr l k g o))=some ⟨c+1,(d,true,.ptr s.up.length d c 0)::fr,s.put s.up.length d c (.box [.ptr l k g o])⟩:=rfl
@[simp] theorem BG5(d c:Nat)(es:List (List V)):yS d c fr s (some (sl es))=some ⟨c+1,(d,true,.ptr s.up.length d c 0)::fr,s.put s.up.length d c (.box [sl es])⟩:=by cases es<;>rfl
@[simp] theorem D4:AN s []=[]:=rfl
@[simp] theorem BE(k g:Nat)(r:AX)(L:AA):AN s ((k,g,r)::L)=(k,g,CK s r)::AN s L:=rfl
def sr1(r:AX):Option (List V)→AX
 |some ds=>.box ds
 |none=>r
@[simp] theorem A7X(r:AX)(ds:List V):sr1 r (some ds)=.box ds:=rfl
theorem K2(cs:List V):CK s (.box cs)=sr1 (.box cs) (GN (BV s) cs):=by unfold CK CJ sr1;simp only;cases GN (BV s) cs<;>rfl
attribute [simp] K2
theorem rS(f:V→Option V):GN f []=some []:=rfl
theorem nF(f:V→Option V)(v:V)(l:List V):GN f (v::l)=mc2 (f v) (GN f l):=by
 simp only[GN];cases f v with
 |none=>rfl
 |some x=>cases GN f l<;>rfl
attribute [simp] rS nF
@[simp] theorem AN8(k:IntKind)(n:Int):BV s (.int k n)=some (.int k n):=rfl
@[simp] theorem AKJ(b:Bool):BV s (.bool b)=some (.bool b):=rfl
@[simp] theorem AKK(b:Bool)(es:List (List V)):BV s (.list b es)=some (.list b es):=rfl
@[simp] theorem AN9:BV s .nil=some .nil:=rfl
@[simp] theorem AT1(es:List (List V)):BV s (sl es)=some (sl es):=by cases es<;>rfl
@[simp] theorem AT2(f:FuncId)(x y:List V):BV s (.fn f x y)=AZ s 4 (.fn f x y):=rfl
@[simp] theorem AOA(l k g o:Nat):BV s (.ptr l k g o)=AZ s 4 (.ptr l k g o):=rfl
@[simp] theorem nG(l k g o:Nat):BV s (.vec l k g o)=AZ s 4 (.vec l k g o):=rfl
@[simp] theorem AOB(cs:List V):BV s (.agg cs)=AZ s 4 (.agg cs):=rfl
@[simp] theorem AZA(f:Nat)(g:FuncId)(x y:List V):AZ s (f+1) (.fn g x y)=fn2 g (O6 (AZ s f) x) (O6 (AZ s f) y):=by simp only[AZ,T8,fn2];cases O6 (AZ s f) x<;>cases O6 (AZ s f) y<;>rfl
def cp1(f:List V→Option (List V))(g off:Nat):Option (Nat×AX)→Option V
 |some (g',.box cs)=>if g'=g then(f cs).map fun ds=>.ref (ds.drop off) else none
 |_=>none
@[simp] theorem AT3(f:Nat)(up:List AA)(loc:AA)(l k g off:Nat):AZ ⟨up,loc⟩ (f+1) (.ptr l k g off)=if l=up.length then cp1 (O6 (AZ ⟨up,loc⟩ f)) g off (loc.get k) else some (.ptr l k g off):=by
 simp only[AZ,T8];split
 ·cases loc.get k with
  |none=>rfl
  |some z=>obtain⟨g',r⟩:=z;cases r<;>rfl
 ·rfl
noncomputable def ow3(d c:Nat)(fr:Fr)(s:St):Option V→Option XS
 |some r=>some ⟨c+1,(d,true,r)::fr,s.put s.up.length d c .dead⟩
 |none=>none
@[simp] theorem A7Y(d c:Nat)(r:V):ow3 d c fr s (some r)=some ⟨c+1,(d,true,r)::fr,s.put s.up.length d c .dead⟩:=rfl
theorem AKL:CK s .dead=.dead:=rfl
attribute [simp] AKL
end Go.Pg
