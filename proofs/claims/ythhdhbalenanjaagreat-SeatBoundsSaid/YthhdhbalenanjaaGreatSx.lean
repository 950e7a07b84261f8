/- Operations of a region with all that hangs on the region alone worked out; running them one after another. No program in sight. -/
import Derived.Test.YthhdhbalenanjaaGreatQ2
namespace Go.Pg
variable {P:Program}{E:XE}
inductive IK where
 |mv (x:Operand)
 |bin (op:BinOp) (T:TypeId) (x y:Operand)
 |fa (T:TypeId) (x:Operand) (f:Nat)
 |ld (T:TypeId) (x:Operand)
 |ldz (T:TypeId) (x:Operand)
 |pick (c a b:Operand)
 |build (T:TypeId) (ps:List (Nat×Operand))
 |buildS (T:TypeId) (n:Nat) (ps:List (Nat×Operand))
 |oth (op:Op)
 |alloc (T:TypeId)
 |box (x:Operand)
 |mkM (r:Option Operand)
 |mkS (T:TypeId) (x y:Operand)
 |sto (T:TypeId) (x y:Operand)
 |upd (T:TypeId) (x i y:Operand)
 |call (own:Bool) (tk:Option Tmp) (f:Operand) (args:List Operand)
 |app (args:List Operand) (Ts:List TypeId)
 |clr (args:List Operand) (Ts:List TypeId)
 |cpy (args:List Operand) (Ts:List TypeId)
def eP (op : Op) : Oper := { dst := none, op := op, type := 0, pos := "", after := #[], guard := none }
def AE2(all:List Oper):List Operand→Option Tmp
 |[]=>none
 |x::r=>match x with
  |.tmp t=>cond (AJU all t) (some t) (AE2 all r)
  |_=>AE2 all r
def NF(all:List Oper)(o:Oper):IK:=match o.op with
 |.move x=>.mv x
 |.assign x=>.mv x
 |.binOp op T x y _=>.bin op T x y
 |.fieldAddr T x f=>.fa T x f
 |.load T x=>.ld T x
 |.pick c a b=>.pick c a b
 |.build T ps=>.build T ps.toList
 |.buildSlice T n ps=>.buildS T n ps.toList
 |.alloc T=>.alloc T
 |.box _ x=>.box x
 |.makeMap _ r=>.mkM r
 |.makeSlice T x y=>.mkS T x y
 |.store T x y=>.sto T x y
 |.mapUpdate T x i y=>.upd T x i y
 |.call c=>match c.callee with
  |.value f=>.call (DR all o) (AE2 all c.args.toList) f c.args.toList
  |.builtin .append=>.app c.args.toList c.argTypes.toList
  |.builtin .clear=>.clr c.args.toList c.argTypes.toList
  |.builtin .copy=>.cpy c.args.toList c.argTypes.toList
  |_=>.oth o.op
 |op=>.oth op
structure H4 where
 g:Option (Tmp×Bool)
 d:Option Tmp
 k:IK
def comp(all:List Oper)(o:Oper):H4:=⟨KX all o,o.dst,NF all o⟩
def AE3:IK→IK
 |.ld T x=>.ldz T x
 |k=>k
def eQ(all:List Oper)(o:Oper):H4:=⟨KX all o,o.dst,cond (zB all o) (AE3 (NF all o)) (NF all o)⟩
noncomputable def DE(d:Option Tmp)(st:XS)(r:Option V):Option XS:=match r with
 |some v=>some ⟨st.c,putD st.fr d true v,st.s⟩
 |none=>none
noncomputable def ANQ(tk:Option Tmp)(st:XS):XS:=match tk with
 |none=>st
 | some t=>match(match BZ st.fr t with
   |some (true,.vec l q γ n)=>match st.s.get l q with
    |some (γ',.vec _ es)=>Bool.rec none (some ⟨st.c,(t,true,.list false (es.take n))::st.fr,st.s.put l q γ .dead⟩) (Nat.beq γ' γ&&Nat.ble n es.length&&Nat.blt γ st.c)
    |_=>none
   | _=>none:Option XS)with
  |some st1=>st1
  |none=>st
noncomputable def C3(P:Program)(E:XE)(d:Option Tmp)(k:IK)(st:XS):Option XS:=match k with
 |.mv x=>DE d st (CM st.fr x)
 |.bin op T x y=>DE d st (qA P st.fr op T x y)
 |.fa T x f=>DE d st (xFA P st.fr T x f)
 |.ld T x=>DE d st (LW P st.fr st.s T x)
 |.ldz T x=>DE d st (LW P st.fr st.s T x)
 |.pick c a b=>DE d st (lY st.fr c a b)
 |.build T ps=>DE d st (RC P st.fr T ps)
 |.buildS T n ps=>DE d st (MY P st.fr T n ps)
 |.oth op=>DE d st (IQ P (eP op) st.s (CM st.fr))
 |.alloc T=>OV P d T st
 |.box x=>lU d x st
 |.mkM r=>yA d r st
 |.mkS T x y=>WG P d T x y st
 |.sto T x y=>I6 P d T x y st
 |.upd T x i y=>AJO P d T x i y st
 |.call own tk f args=>Z7 E own d f args (ANQ tk st)
 |.app args Ts=>xAppend P d args Ts st
 |.clr args Ts=>gH P d args Ts st
 |.cpy args Ts=>uF P d args Ts st
noncomputable def opI(P:Program)(E:XE)(i:H4)(st:XS):Option XS:=match gdX st.fr i.g with
 |some true=>C3 P E i.d i.k st
 |some false=>some (HY i.d st)
 |none=>none
noncomputable def opO(P:Program)(E:XE)(i:H4)(r:Option XS):Option XS:=match r with
 |some st=>opI P E i st
 |none=>none
noncomputable def PA(P:Program)(E:XE):List H4→Option XS→Option XS
 |[],r=>r
 |i::l,r=>PA P E l (opO P E i r)
theorem bB(all:List Oper)(st:XS):∀(xs:List Operand),(match M0 all st xs with
  |some st1=>st1
  | none=>st)=ANQ (AE2 all xs) st
 |[]=>rfl
 |x::r=>by
  unfold M0 AE2;cases x with
  |tmp t=>
   simp only
   cases AJU all t with
   |false=>exact bB all st r
   |true=>rfl
  |_=>exact bB all st r
theorem A5S{o:Oper}{st:XS}:ADJ P (fun _=>false) o st=none:=by unfold ADJ;split<;>rfl
theorem AE4(hl:E.lit=fun _=>false)(all:List Oper)(o:Oper)(st:XS):opX P E all o st=opI P E (comp all o) st:=by
 unfold opX opI;rw[hl];simp only[A5S];have:(match ADK all o st with
   |some st1=>QR P E (DR all) o st1
   | none=>QR P E (DR all) o st)=C3 P E o.dst (NF all o) st:=by
  have ht:∀(r:Option XS),(match r with
   |some st1=>QR P E (DR all) o st1
   | none=>QR P E (DR all) o st)=QR P E (DR all) o (match r with
   |some st1=>st1
   | none=>st):=fun r=>by cases r <;> rfl
  rw[ht]
  obtain⟨d,op,T,pos,af,gd⟩:=o
  cases op with
  |call c=>
   obtain⟨cal,args,Ts⟩:=c
   cases cal with
   |value f=>
    show QR P E _ _ (match M0 all st args.toList with|some st1=>st1|none=>st)=_
    rw[bB]
    rfl
   |builtin b=>cases b<;>rfl
   |_=>rfl
  |_=>rfl
 show _=(match gdX st.fr (KX all o)with
  |some true=>C3 P E o.dst (NF all o) st
  |some false=>some (HY o.dst st)
  | none=>none)
 cases gdX st.fr (KX all o)with
 |none=>rfl
 |some b=>
  cases b with
  |false=>rfl
  |true=>exact this
theorem IB:∀(l:List H4),PA P E l none=none
 |[]=>rfl
 |_::l=>IB l
theorem vH(hl:E.lit=fun _=>false)(all:List Oper):∀(l:List Oper) (st:XS),gM P E all l st=PA P E (l.map (comp all)) (some st)
 |[],st=>rfl
 |o::l,st=>by
  simp only[gM,List.map_cons,PA,opO];rw[AE4 hl];cases opI P E (comp all o) st with
  |none=>exact(IB _).symm
  |some st'=>exact vH hl all l st'
def HQ(P:Program)(k:IK)(r:Operand→Option V):AN:=match k with
 |.ld T x=>BV (Nat.beq (P.cellsOf T) 1) (r x)
 |.app xs _=>J4 r xs
 |.oth op=>ED P (eP op) r
 |_=>[]
noncomputable def DF(P:Program)(E:XE)(d:Option Tmp)(k:IK)(st:XS):Option (XS×AN):=match k with
 |.mv x=>T1 (DE d st (CM st.fr x))
 |.bin op T x y=>T1 (DE d st (qA P st.fr op T x y))
 |.fa T x f=>T1 (DE d st (xFA P st.fr T x f))
 |.ld T x=>T1 (DE d st (LW P st.fr st.s T x))
 |.ldz T x=>T1 (DE d st (LW P st.fr st.s T x))
 |.pick c a b=>T1 (DE d st (lY st.fr c a b))
 |.build T ps=>T1 (DE d st (RC P st.fr T ps))
 |.buildS T n ps=>T1 (DE d st (MY P st.fr T n ps))
 |.oth op=>T1 (DE d st (IQ P (eP op) st.s (CM st.fr)))
 |.alloc T=>T1 (OV P d T st)
 |.box x=>T1 (lU d x st)
 |.mkM r=>T1 (yA d r st)
 |.mkS T x y=>T1 (WG P d T x y st)
 |.sto T x y=>ADM P d T x y st
 |.upd ..=>none
 |.call own _ f args=>Bool.rec (T1 (Z8 E.c0 d f args st)) (T1 (HK E.co d f args st)) own
 |.app args Ts=>xAppD P d args Ts st
 |.clr ..=>none
 |.cpy ..=>none
def ET:IK→Bool
 |.alloc _|.box _|.mkM _|.mkS ..|.sto ..|.app ..=>true
 |.call own ..=>own
 |_=>false
noncomputable def VP(P:Program)(E:XE)(i:H4)(st:XS):Option (XS×AN):=match gdX st.fr i.g with
 |some true=>DF P E i.d i.k st
 |some false=>Bool.rec (some (HY i.d st,[])) none (ET i.k)
 |none=>none
noncomputable def nF(P:Program)(E:XE)(i:H4)(r:Option (XS×AN×AN)):Option (XS×AN×AN):=match r with
 |some (st,rd,wr)=>match VP P E i st with
  |some (st',w)=>some (st',HQ P i.k (CM st.fr)++rd,w++wr)
  |none=>none
 |none=>none
noncomputable def VQ(P:Program)(E:XE):List H4→Option (XS×AN×AN)→Option (XS×AN×AN)
 |[],r=>r
 |i::l,r=>VQ P E l (nF P E i r)
noncomputable def bC(r:Option (XS×AN×AN)):Option XS:=match r with
 |some (st,rd,wr)=>Bool.rec none (some st) (wr.all fun p=>!(rd.contains p))
 |none=>none
structure nG where
 new:List Tmp
 ph:List H4
 sq:List H4
noncomputable def iE(new:List Tmp)(st:XS):Bool:=new.all fun d=>(st.s.loc.get d).isNone
noncomputable def AE5(new:List Tmp)(r:Option XS):Option (XS×AN×AN):=match r with
 |some st=>Bool.rec none (some (st,[],[])) (iE new st)
 |none=>none
noncomputable def VR(P:Program)(E:XE):List nG→Option XS→Option XS
 |[],r=>r
 |p::S,r=>VR P E S (PA P E p.sq (bC (VQ P E p.ph (AE5 p.new r))))
def eR(l:List Oper)(R:List Nat):List H4:=R.filterMap fun i=>(l[i]?).map (comp l)
def eS(l:List Oper)(R:List Nat):List H4:=R.filterMap fun i=>(l[i]?).map (eQ l)
def vI(l:List Oper)(R:List Nat):List Tmp:=R.filterMap fun i=>match l[i]? with
 |some o=>cond (kA (DR l) o) o.dst none
 |none=>none
def vJ(l:List Oper)(p:List Nat×List Nat):nG:=⟨vI l p.1,eS l p.1,eR l p.2⟩
def inB(l:List Oper)(S:WS):Bool:=S.all fun p=>p.1.all (fun i=>Nat.blt i l.length)&&p.2.all (fun i=>Nat.blt i l.length)
theorem yZ(all:List Oper)(o:Oper)(st:XS):gO P E (DR all) o st=DF P E o.dst (NF all o) st:=by
 obtain⟨d,op,T,pos,af,gd⟩:=o;cases op with
 |call c=>
  obtain⟨cal,args,Ts⟩:=c
  cases cal with
  |builtin b=>cases b<;>rfl
  |_=>rfl
 |_=>rfl
theorem ASO(all:List Oper)(o:Oper)(r:Operand→Option V):ED P o r=HQ P (NF all o) r:=by
 obtain⟨d,op,T,pos,af,gd⟩:=o;cases op with
 |call c=>
  obtain⟨cal,args,Ts⟩:=c
  cases cal with
  |builtin b=>cases b<;>rfl
  |_=>rfl
 |_=>rfl
theorem A5T(all:List Oper)(o:Oper):(kA (DR all) o||kW o||kP o)=ET (NF all o):=by
 obtain⟨d,op,T,pos,af,gd⟩:=o;cases op with
 |call c=>
  obtain⟨cal,args,Ts⟩:=c
  cases cal with
  |builtin b=>cases b<;>rfl
  |value f=>simp[kA,kW,kP,ET,NF]
  |_=>rfl
 |_=>rfl
theorem AKN(all:List Oper)(o:Oper)(st:XS):qM P E all o st=VP P E (comp all o) st:=by unfold qM VP;rw[yZ,A5T];rfl
theorem rS(d:Option Tmp)(k:IK)(st:XS):DF P E d (AE3 k) st=DF P E d k st:=by cases k<;>rfl
theorem AKO(k:IK):ET (AE3 k)=ET k:=by cases k<;>rfl
theorem ASP(all:List Oper)(o:Oper)(st:XS):VP P E (eQ all o) st=VP P E (comp all o) st:=by
 unfold eQ comp;cases zB all o with
 |false=>rfl
 |true=>
  show VP P E ⟨KX all o,o.dst,AE3 (NF all o)⟩ st=_
  unfold VP
  simp only[rS,AKO]
theorem ASQ(all:List Oper)(o:Oper)(r:Operand→Option V):cond (zB all o) [] (ED P o r)=HQ P (eQ all o).k r:=by
 unfold eQ;cases hz:zB all o with
 |false=>exact ASO all o r
 |true=>
  obtain⟨T,x,ho⟩:=ANB hz
  show[]=HQ P (AE3 (NF all o)) r
  unfold NF
  rw[ho]
  rfl
theorem P1:∀(l:List H4),VQ P E l none=none
 |[]=>rfl
 |_::l=>P1 l
theorem AE6(l:List Oper):∀(R:List Nat) (st:XS) (rd wr:AN),R.all (fun i=>Nat.blt i l.length)=true→phX P E l R st rd wr=VQ P E (eS l R) (some (st,rd,wr))
 |[],st,rd,wr,_=>rfl
 |i::R,st,rd,wr,h=>by
  simp only[List.all_cons,Bool.and_eq_true,Nat.blt_eq]at h;have hi:=List.getElem?_eq_getElem h.1;have hp:eS l (i::R)=eQ l l[i]::eS l R:=by simp[eS,hi]
  rw[hp];simp only[phX,hi,VQ,nF,AKN,ASP];cases VP P E (comp l l[i]) st with
  |none=>exact(P1 _).symm
  |some q=>
   obtain⟨st',w⟩:=q
   simp only
   rw[AE6 l R _ _ _ h.2,ASQ l]
theorem AE7(hl:E.lit=fun _=>false)(l:List Oper):∀(R:List Nat) (st:XS),R.all (fun i=>Nat.blt i l.length)=true→sqX P E l R st=PA P E (eR l R) (some st)
 |[],st,_=>rfl
 |i::R,st,h=>by
  simp only[List.all_cons,Bool.and_eq_true,Nat.blt_eq]at h;have hi:=List.getElem?_eq_getElem h.1;have hp:eR l (i::R)=comp l l[i]::eR l R:=by simp[eR,hi]
  rw[hp];simp only[sqX,hi,PA,opO,AE4 hl];cases opI P E (comp l l[i]) st with
  |none=>exact(IB _).symm
  |some st'=>exact AE7 hl l R st' h.2
theorem LY:∀(S:List nG),VR P E S none=none
 |[]=>rfl
 |p::S=>by simp only[VR,AE5,P1,bC,IB];exact LY S
theorem nH(l:List Oper)(st:XS):∀(R:List Nat),ZX (DR l) l R st.s.loc=iE (vI l R) st
 |[]=>rfl
 |i::R=>by
  have ih:=nH l st R;unfold ZX iE vI at *;simp only[List.all_cons,List.filterMap_cons,ih];cases hi:l[i]? with
  |none=>simp
  |some o=>
   simp only
   cases hk:kA (DR l) o with
   |false=>simp
   |true=>
    cases hd:o.dst with
    |none=>simp
    |some d=>simp
theorem vK(hl:E.lit=fun _=>false)(l:List Oper):∀(S:WS) (st:XS),inB l S=true→yE P E l S st=VR P E (S.map (vJ l)) (some st)
 |[],st,_=>rfl
 |p::S,st,h=>by
  simp only[inB,List.all_cons,Bool.and_eq_true]at h;obtain⟨⟨h1,h2⟩,h3⟩:=h;simp only[yE,List.map_cons,VR,vJ,AE5,nH];cases iE (vI l p.1) st with
  |false=>
   simp only[P1,bC,IB]
   exact(LY _).symm
  |true=>
   simp only[AE6 l _ _ _ _ h1]
   cases VQ P E (eS l p.1) (some (st,[],[]))with
   |none=>simp only[bC,IB];exact(LY _).symm
   |some q=>
    obtain⟨st1,rd,wr⟩:=q
    simp only[bC]
    cases (wr.all fun p=>!rd.contains p)with
    |false=>simp only[IB];exact(LY _).symm
    |true=>
     simp only[AE7 hl l _ _ h2]
     cases PA P E (eR l p.2) (some st1)with
     |none=>exact(LY _).symm
     |some GZ=>exact vK hl l S GZ h3
noncomputable def BGK(P:Program)(d:Option Tmp)(k:IK)(st:XS):Option XS:=match k with
 |.mv x=>DE d st (CM st.fr x)
 |.bin op T x y=>DE d st (qA P st.fr op T x y)
 |.fa T x f=>DE d st (xFA P st.fr T x f)
 |.ld T x=>DE d st (LW P st.fr st.s T x)
 |.ldz T x=>DE d st (LW P st.fr st.s T x)
 |.pick c a b=>DE d st (lY st.fr c a b)
 |.build T ps=>DE d st (RC P st.fr T ps)
 |.buildS T n ps=>DE d st (MY P st.fr T n ps)
 |.oth op=>DE d st (IQ P (eP op) st.s (CM st.fr))
 |_=>none
noncomputable def BGL(E:XE)(d:Option Tmp)(k:IK)(st:XS):Option XS:=match k with
 |.call _ _ f args=>cY1 E d st (CM st.fr f) (FQ (CM st.fr) args)
 |_=>none
noncomputable def BGM(P:Program)(E:XE)(b:Bool)(i:H4)(st:XS):Option XS:=match gdX st.fr i.g with
 |some true=>Bool.rec (AEE st (BGK P i.d i.k ⟨st.c,st.fr,⟨[],[]⟩⟩)) (BGL E i.d i.k st) b
 |_=>none
noncomputable def BGN(P:Program)(E:XE):List (Bool×H4)→Option XS→Option XS
 |[],r=>r
 | i :: l,r=>BGN P E l (match r with
  |some st=>BGM P E i.1 i.2 st
  | none=>none)
def A5U(l:List Oper)(e:Nat)(R:List Nat):List (Bool×H4):=R.filterMap fun i=>(l[i]?).map fun o=>(Nat.beq i e,comp l o)
def BKW(l:List Oper):List (Bool×H4):=(eH l).flatMap fun p=>A5U l p.2 p.1
def okY(N:Nat)(l:List Oper):Bool:=XA N (l.map (KX l)) (eH l) l&&(eH l).all fun p=>p.1.all fun i=>Nat.blt i l.length
inductive IR where
 |str (l:List H4)
 |drw (S:List nG)
 |cls (ks:List (Nat×Nat×Nat))
def vL(P:Program)(ops:List Oper)(draw:Bool):IR:=cond draw (cond (WW P ops) (.cls (IA ops)) (.drw ((cG ops).map (vJ ops)))) (.str (ops.map (comp ops)))
def okR(P:Program)(ops:List Oper)(draw:Bool):Bool:=cond draw (cond (WW P ops) true (inB ops (cG ops))) true
noncomputable def I7(P:Program)(E:XE)(i:IR)(st:XS):Option XS:=match i with
 |.str l=>PA P E l (some st)
 |.drw S=>VR P E S (some st)
 |.cls ks=>RF P ks (some st)
end Go.Pg
namespace Go.Pg
variable {P:Program}{σ σ':Nat→Nat}{δ:Nat}{pre:List AA}{s:St}{fr:Fr}
abbrev Tr:=Option (List Nat×List Nat)
abbrev Ann:=Nat→Nat→Tr
noncomputable def CC(a:Tr)(st:XS):XS:=match a with
 |some p=>RD p.1 p.2 st
 |none=>st
theorem LZ{a:Tr}{st:XS}(h:Bd st):KH st (CC a st):=by
 cases a with
 |none=>exact⟨Nat.le_refl _,h,rfl⟩
 |some p=>exact T4 h
theorem IH{a:Tr}{st:XS}:(CC a st).c=st.c:=by cases a<;>rfl
theorem KB{n N:Nat}{ρ:Option Nat}{c:Code}{K:Exit→Fr→St→Prop}{a:Tr}{st:XS}(h:BG P n N ρ c K ((CC a st).fr.ren σ pre.length) ((CC a st).s.emb σ pre)):BG P n N ρ c K (st.fr.ren σ pre.length) (st.s.emb σ pre):=by
 cases a with
 |none=>exact h
 |some p=>exact VG h
noncomputable def A5V(P:Program)(E:XE)(a:Tr)(l:List Oper)(draw:Bool)(st:XS):Option XS:=Bool.rec (gM P E l l (CC a st)) (Bool.rec (QT P E l (CC a st)) (RF P (IA l) (some (CC a st))) (WW P l)) draw
def isY:List Nat→Bool
 |k::_=>Nat.beq k 777
 |[]=>false
noncomputable def AE8(P:Program)(E:XE)(N:Nat)(a:Tr)(l:List Oper)(draw:Bool)(us:List Nat)(st:XS):Option XS:=Bool.rec (A5V P (cfU us E) a l draw st) (Bool.rec none (uX P E N l (CC a st)) draw) (isY us)
noncomputable def BC(rec:bO)(body:Code)(a:Tr)(n:Nat):XS→Option (Exit×XS):=Nat.rec (motive:=fun _=>XS→Option (Exit×XS)) (fun _=>none) (fun _ ih st=>match rec body st with
 |some (.normal,st')=>ih (CC a st')
 | r=>r) n
def iF(id:Nat)(l:List Oper):Nat:=id+1000*l.length+1000000*(match l with
 |o::_=>match o.dst with
  |some d=>d
  |none=>0
 | []=>0)
def BR:Code→Nat
 |.region id ops _=>iF id ops.toList
 |.seq a _=>BR a
 |.block _ c=>BR c
 |.loop c=>BR c
 |.scope c=>BR c
 |_=>0
def zA:Tr→List Nat
 |some p=>p.1
 |none=>[]
def NG:Nat:=1000000000000000
def zC:Tr→List Nat
 |some p=>p.2
 |none=>[]
noncomputable def VS(P:Program)(E:XE)(A:Ann)(n N:Nat)(rec:bO):bO:=fun code st=>match code with
 |.region id ops draw=>OW (AE8 P E N (A N (iF id ops.toList)) ops.toList draw (zC (A N (iF id ops.toList+NG))) (L8 (zA (A N (iF id ops.toList+NG))) st))
 |.loop body=>BC rec body (A N (BR body)) n (CC (A N (BR body)) st)
 |c=>T5 P E n N rec c st
noncomputable def AE(P:Program)(A:Ann)(kn:CF0)(n:Nat):GL:=Nat.rec (motive:=fun _=>GL) (fun _ _ _=>none) (fun n ih N=>VS P (ARO P kn (fun _ _ _=>none) (fun _=>false) ih) A n N (ih N)) n
theorem AKP(hP:EE P){E:XE}(hEE:J5 P E){a:Tr}{id:Nat}{ops:Array Oper}{draw:Bool}{N:Nat}(hN:E0 N (.region id ops draw)=true){st st':XS}(hx:A5V P E a ops.toList draw st=some st')(hbd:Bd st):KH st st' ∧
  ∀(n:Nat) (ρ:Option Nat) (σ:Nat→Nat) (pre:List AA) (K:Exit→Fr→St→Prop),(∀σ',AS st.c σ σ'→K .normal (st'.fr.ren σ' pre.length) (st'.s.emb σ' pre))→BG P n N ρ (.region id ops draw) K (st.fr.ren σ pre.length) (st.s.emb σ pre):=by
 obtain⟨l⟩:=ops
 have hT:=LZ (a:=a) hbd
 have ext:∀{st'},KH (CC a st) st'→KH st st':=fun h=>⟨by have:=h.c;rwa [IH]at this,h.bd,h.n.trans hT.n⟩
 cases draw with
 |false=>
  simp only[E0,cond_false,Bool.and_eq_true]at hN
  have hx:gM P E l l (CC a st)=some st':=hx
  obtain⟨hE,hs⟩:=gN hEE hT.bd hx
  refine⟨ext hE,fun n ρ σ pre K hk=>KB (a:=a) ?_⟩
  exact WA (l.map (KX l)) hN.1 (gF (TV hN.2)) (hs σ pre _ fun σ' ha=>hk σ' (by rwa [IH]at ha))
 |true=>
  simp only[E0,cond_true]at hN
  cases hc:WW P l with
  |true=>
   have hx:(Bool.rec (QT P E l (CC a st)) (RF P (IA l) (some (CC a st))) (WW P l):Option XS)=some st':=hx
   rw[hc]at hx
   obtain⟨hE,hs⟩:=AKB (id:=id) hP hN hc hx hT.bd
   exact⟨ext hE,fun n ρ σ pre K hk=>KB (a:=a) (hs n ρ σ pre K fun σ' ha=>hk σ' (by rwa [IH]at ha))⟩
  |false=>
  have hx:(Bool.rec (QT P E l (CC a st)) (RF P (IA l) (some (CC a st))) (WW P l):Option XS)=some st':=hx
  rw[hc]at hx
  obtain⟨hE,hs⟩:=aT (id:=id) hP hEE hN hx hT.bd
  exact⟨ext hE,fun n ρ σ pre K hk=>KB (a:=a) (hs n ρ σ pre K fun σ' ha=>hk σ' (by rwa [IH]at ha))⟩
theorem AKQ(hP:EE P){E:XE}(hEE:J5 P E){a:Tr}{us:List Nat}{id:Nat}{ops:Array Oper}{draw:Bool}{N:Nat}(hN:E0 N (.region id ops draw)=true){st st':XS}(hx:AE8 P E N a ops.toList draw us st=some st')(hbd:Bd st):KH st st' ∧
  ∀(n:Nat) (ρ:Option Nat) (σ:Nat→Nat) (pre:List AA) (K:Exit→Fr→St→Prop),(∀σ',AS st.c σ σ'→K .normal (st'.fr.ren σ' pre.length) (st'.s.emb σ' pre))→BG P n N ρ (.region id ops draw) K (st.fr.ren σ pre.length) (st.s.emb σ pre):=by
 unfold AE8 at hx
 cases hy:isY us with
 |false=>rw[hy]at hx;exact AKP hP (ARS hEE _) hN hx hbd
 |true=>
  rw[hy]at hx
  cases draw with
  |false=>cases hx
  |true=>
   have hx:uX P E N ops.toList (CC a st)=some st':=hx
   have hT:=LZ (a:=a) hbd
   obtain⟨hE,hs⟩:=AEG hP hEE (id:=id) hx hT.bd
   refine⟨⟨by have:=hE.c;rwa [IH]at this,hE.bd,hE.n.trans hT.n⟩,fun n ρ σ pre K hk=>KB (a:=a) ?_⟩
   exact hs n ρ σ pre K fun σ' ha=>hk σ' (by rwa [IH]at ha)
theorem AE9{N:Nat}{rec:bO}(hrec:aD P N rec){body:Code}{a:Tr}(hN:E0 N body=true)(m:Nat){st st':XS}{e:Exit}(hx:BC rec body a m (CC a st)=some (e,st'))(hbd:Bd st):KH st st'∧(∀l,e≠.goto l) ∧
  ∀(n:Nat) (ρ:Option Nat) (σ:Nat→Nat) (pre:List AA) (K:Exit→Fr→St→Prop),(ρ=none∨GB body=true)→(∀σ',AS st.c σ σ'→K e (st'.fr.ren σ' pre.length) (st'.s.emb σ' pre))→BG P n N ρ (.loop body) K (st.fr.ren σ pre.length) (st.s.emb σ pre):=by
 have up:∀{st st':XS},Bd st→KH (CC a st) st'→KH st st':=fun hbd h=>⟨by have:=h.c;rwa [IH]at this,h.bd,h.n.trans (LZ hbd).n⟩
 have ext:∀(m:Nat) {st:XS},BC rec body a m (CC a st)=some (e,st')→Bd st→KH st st'∧(∀l,e≠.goto l):=by
  intro m;induction m with
  |zero=>intro st hx _;cases hx
  |succ m ih=>
   intro st hx hbd
   have hx:(match rec body (CC a st)with
    |some (.normal,st')=>BC rec body a m (CC a st')
    | r=>r)=some (e,st'):=hx
   have hT:=LZ (a:=a) hbd
   split at hx
   ·rename_i st1 h1;obtain⟨hE,_,_⟩:=hrec _ _ _ _ h1 hT.bd hN;obtain⟨hE',hg⟩:=ih hx hE.bd;exact⟨up hbd ⟨Nat.le_trans hE.c hE'.c,hE'.bd,hE'.n.trans hE.n⟩,hg⟩
   ·obtain⟨hE,hg,_⟩:=hrec _ _ _ _ hx hT.bd hN;exact⟨up hbd ⟨hE.c,hE.bd,hE.n⟩,hg⟩
 obtain⟨hE,hg⟩:=ext m hx hbd
 refine⟨hE,hg,fun n ρ σ pre K hρ hk=>?_⟩
 refine dK (fun m fr s=>∃(st:XS) (σ:Nat→Nat),fr=st.fr.ren σ pre.length∧s=st.s.emb σ pre∧Bd st∧BC rec body a m (CC a st)=some (e,st')∧∀σ',AS st.c σ σ'→K e (st'.fr.ren σ' pre.length) (st'.s.emb σ' pre)) m ⟨st,σ,rfl,rfl,hbd,hx,hk⟩ ?_
 rintro m fr s ⟨st,σ,rfl,rfl,hbd,hx,hk⟩
 cases m with
 |zero=>cases hx
 |succ m=>
  have hx:(match rec body (CC a st)with
   |some (.normal,st')=>BC rec body a m (CC a st')
   | r=>r)=some (e,st'):=hx
  have hT:=LZ (a:=a) hbd
  refine KB (a:=a) ?_
  split at hx
  ·rename_i st1 h1;obtain⟨hE,_,hC⟩:=hrec _ _ _ _ h1 hT.bd hN;refine hC n ρ σ pre _ hρ fun σ' ha=>?_;rw[IH]at ha;exact⟨m,Nat.lt_succ_self _,st1,σ',rfl,rfl,hE.bd,hx,fun σ'' ha'=>hk σ'' (ha.trans ha' (by have:=hE.c;rwa [IH]at this))⟩
  ·rename_i hne;obtain⟨hE,hg,hC⟩:=hrec _ _ _ _ hx hT.bd hN;refine hC n ρ σ pre _ hρ fun σ' ha=>?_;rw[IH]at ha;have:=hk σ' ha;cases e with
   |normal=>exact absurd hx (hne st')
   |_=>exact this
theorem iG(hP:EE P){E:XE}(hEE:J5 P E){A:Ann}{N:Nat}{rec:bO}(hrec:aD P N rec)(m:Nat):aD P N (VS P E A m N rec):=by
 intro code st e st' hx hbd hN;unfold VS at hx;split at hx
 ·rename_i id ops draw;obtain⟨rfl,hx2⟩:=mU hx;have hT:=uS (zA (A N (iF id ops.toList+NG))) hbd;obtain⟨hE,hs⟩:=AKQ hP hEE hN hx2 hT.bd;exact⟨⟨Nat.le_trans hT.c hE.c,hE.bd,hE.n.trans hT.n⟩,(by intro l h;cases h),fun n ρ σ pre K _ hk=>mP _ (hs n ρ σ pre K fun σ' ha=>hk σ' (by rwa [ANI]at ha))⟩
 ·rename_i body;have hN:E0 N body=true:=hN;obtain⟨h1,h2,h3⟩:=AE9 hrec hN m hx hbd;exact⟨h1,h2,fun n ρ σ pre K hρ hk=>h3 n ρ σ pre K hρ hk⟩
 ·exact mV hP hEE hrec m _ _ _ _ hx hbd hN
theorem bD(hP:EE P){A:Ann}{kn:CF0}(hkn:HJ P kn):∀n,aE P (AE P A kn n)
 |0=>fun N code st e st' hx=>by cases hx
 |n+1=>fun N=>by have ih:=bD hP (A:=A) hkn n;exact iG hP ⟨ADT hP hkn ih,AKD hP ih,aI hP hkn ih,ADS hP hkn (ko:=fun _ _ _=>none) (fun _ _ _ _ h=>by cases h) ih⟩ (ih N) n
theorem AFA(hP:EE P){A:Ann}{kn:CF0}(hkn:HJ P kn){n:Nat}{f:FuncId}{args:List V}{r:V}(h:E4 P (AE P A kn n) f args=some r)(s:St):FL P f args s fun r' s'=>r'=r∧s'=s :=
 (aG hP (bD hP hkn n) f args r h).1 s
section
variable {A:Ann}{kn:CF0}{n N:Nat}{st:XS}
noncomputable abbrev BN(P:Program)(A:Ann)(kn:CF0)(n:Nat):XE:=ARO P kn (fun _ _ _=>none) (fun _=>false) (AE P A kn n)
theorem AFB(a b:Code):AE P A kn (n+1) N (.seq a b) st=gP (AE P A kn n N) b (AE P A kn n N a st):=rfl
theorem zD(c:Operand)(a b:Code):AE P A kn (n+1) N (.cond c a b) st=mF (AE P A kn n N) a b st (CM st.fr c):=rfl
theorem rT(id:Nat)(b:Code):AE P A kn (n+1) N (.block id b) st=M2 id (AE P A kn n N b st):=rfl
theorem zE(b:Code):AE P A kn (n+1) N (.loop b) st=BC (AE P A kn n N) b (A N (BR b)) n (CC (A N (BR b)) st):=rfl
theorem zF:AE P A kn (n+1) N .skip st=some (.normal,st):=rfl
theorem zG(id:Nat):AE P A kn (n+1) N (.exit id) st=some (.exit id,st):=rfl
theorem AFC:AE P A kn (n+1) N .ret st=some (.ret,st):=rfl
theorem rU(b:Code):AE P A kn (n+1) N (.scope b) st=AE P A kn n N b st:=rfl
theorem bE(g:Operand)(ps:Array Tmp)(asg body:Code):AE P A kn (n+1) N (.rangeFunc g ps asg body) st=VH (BN P A kn n).cf N g ps.toList asg body st:=rfl
theorem AFD(a b:Code):BR (.seq a b)=BR a:=rfl
theorem rV(id:Nat)(b:Code):BR (.block id b)=BR b:=rfl
theorem zH(b:Code):BR (.loop b)=BR b:=rfl
theorem AC(rec:bO)(body:Code)(a:Tr):BC rec body a (n+1) st=match rec body st with
 |some (.normal,st')=>BC rec body a n (CC a st')
 |r=>r:=rfl
theorem nI(rec:bO)(b:Code):gP rec b (some (.normal,st))=rec b st:=rfl
theorem AFE(rec:bO)(b:Code):gP rec b (some (.ret,st))=some (.ret,st):=rfl
theorem zI(rec:bO)(b:Code)(i:Nat):gP rec b (some (.exit i,st))=some (.exit i,st):=rfl
theorem AFF(rec:bO)(b:Code)(c:Prop)[Decidable c](x y:Option (Exit×XS)):gP rec b (if c then x else y)=if c then gP rec b x else gP rec b y:=by split<;>rfl
theorem cN(id:Nat):M2 id (some (.normal,st))=some (.normal,st):=rfl
theorem rW(id:Nat):M2 id (some (.ret,st))=some (.ret,st):=rfl
theorem nJ(id i:Nat):M2 id (some (.exit i,st))=if i=id then some (.normal,st) else some (.exit i,st):=by
 show(Bool.rec _ _ (Nat.beq i id):Option (Exit×XS))=_;by_cases h:i=id
 ·subst h;simp
 ·have:Nat.beq i id=false:=by
   cases hb:Nat.beq i id with
   |false=>rfl
   |true=>exact absurd (Nat.eq_of_beq_eq_true hb) h
  simp[h,this]
theorem rX(id:Nat)(c:Prop)[Decidable c](x y:Option (Exit×XS)):M2 id (if c then x else y)=if c then M2 id x else M2 id y:=by split<;>rfl
def vM:Code→Bool
 |.region ..=>true
 |_=>false
def WK:Code→List Oper
 |.region _ ops _=>ops.toList
 |_=>[]
def PB:Code→Bool
 |.region _ _ d=>d
 |_=>false
theorem vN(us:List Nat){E:XE}(h:E.lit=fun _=>false):(cfU us E).lit=fun _=>false:=by cases us<;>exact h
theorem L5{r:Code}(hr:vM r=true){i:IR}(hi:vL P (WK r) (PB r)=i)(hok:okR P (WK r) (PB r)=true){a:Tr}(ha:A N (BR r)=a){ks us:List Nat}(ht:zA (A N (BR r+NG))=ks)(hu:zC (A N (BR r+NG))=us)(hy:isY us=false:=by rfl):AE P A kn (n+1) N r st=OW (I7 P (cfU us (BN P A kn n)) i (CC a (L8 ks st))):=by
 cases r with
 |region id ops draw=>
  subst hi ha ht hu
  show OW (AE8 P _ N (A N (iF id ops.toList)) ops.toList draw (zC (A N (iF id ops.toList+NG))) (L8 (zA (A N (iF id ops.toList+NG))) st))=_
  unfold AE8
  rw[show isY (zC (A N (iF id ops.toList+NG)))=false from hy]
  cases draw with
  |false=>exact congrArg OW (vH (vN _ rfl) _ _ _)
  |true=>
   show OW (Bool.rec (QT P _ ops.toList _) (RF P (IA ops.toList) (some _)) (WW P ops.toList))=OW (I7 P _ (cond (WW P ops.toList) (.cls (IA ops.toList)) (.drw ((cG ops.toList).map (vJ ops.toList)))) _)
   have hok:cond (WW P ops.toList) true (inB ops.toList (cG ops.toList))=true:=hok
   cases hc:WW P ops.toList with
   |true=>rfl
   |false=>
    rw[hc]at hok
    exact congrArg OW (vK (vN _ rfl) _ _ _ hok)
 |_=>cases hr
theorem D6{r:Code}(hr:vM r=true){i:IR}(hi:vL P (WK r) (PB r)=i)(hok:okR P (WK r) (PB r)=true){a:Tr}(ha:A N (BR r)=a){ks:List Nat}(ht:zA (A N (BR r+NG))=ks)(hu:zC (A N (BR r+NG))=[]:=by kernel_rfl):AE P A kn (n+1) N r st=OW (I7 P (BN P A kn n) i (CC a (L8 ks st))):=L5 hr hi hok ha ht hu rfl
theorem AFG{r:Code}(hr:vM r=true){i:IR}(hi:vL P (WK r) (PB r)=i)(hok:okR P (WK r) (PB r)=true){a:Tr}(ha:A N (BR r)=a)(ht:A N (BR r+NG)=none:=by kernel_rfl):AE P A kn (n+1) N r st=OW (I7 P (BN P A kn n) i (CC a st)):=D6 hr hi hok ha (congrArg zA ht) (congrArg zC ht)
noncomputable def WZ(P:Program)(rs:List ResultVar)(r:Option (Exit×XS)):Option V:=match r with
 |some (.ret,st)=>finV st.s (F7 P rs st.fr st.s)
 |some (.normal,st)=>finV st.s (F7 P rs st.fr st.s)
 |_=>none
where finV (s:St) (r:Option V):Option V:=match r with
 |some v=>match A2 s 4 v with
  |some r'=>Bool.rec none (some r') (AK 9 r')
  |none=>none
 |none=>none
theorem AP{f:FuncId}{fn:Func}{c:Code}{args:List V}{rec:GL}(hf:P.funcs[f]? = some fn)(hb:fn.body=some c)(hs:Nat.ble args.length fn.ntmps=true)(hcl:args.all (AK 9)=true) :
  E4 P rec f args=WZ P fn.results.toList (rec fn.ntmps c ⟨0,AF 0 args,⟨[],[]⟩⟩):=by
 unfold E4 dY WI uH
 rw[hcl,hf]
 simp only[hb,hs]
 generalize rec fn.ntmps c ⟨0,AF 0 args,⟨[],[]⟩⟩=q
 have aux:∀st:XS,(match(match F7 P fn.results.toList st.fr st.s with
   |some r=>match A2 st.s 4 r with
    |some r'=>some (r',st.c,st.s.up.map (AL st.s))
    |none=>none
   | none=>none:Option (V×Nat×List AA))with
  |some (r,_,_)=>(Bool.rec none (some r) (AK 9 r):Option V)
  | none=>none)=WZ.finV st.s (F7 P fn.results.toList st.fr st.s):=fun st=>by
  unfold WZ.finV
  cases F7 P fn.results.toList st.fr st.s with
  |none=>rfl
  |some r=>
   cases h:A2 st.s 4 r with
   |none=>simp[h]
   |some r'=>simp[h]
 cases q with
 |none=>rfl
 |some q=>
  obtain⟨e,st⟩:=q
  cases e with
  |ret=>exact aux st
  |normal=>exact aux st
  |_=>rfl
theorem AFH(rs:List ResultVar)(c:Prop)[Decidable c](x y:Option (Exit×XS)):WZ P rs (if c then x else y)=if c then WZ P rs x else WZ P rs y:=by split<;>rfl
end
def K7:Code→List Nat→Code
 |c,[]=>c
 |.seq a b,i::p=>bif Nat.beq i 0 then K7 a p else K7 b p
 |.cond _ a b,i::p=>bif Nat.beq i 0 then K7 a p else K7 b p
 |.block _ a,_::p=>K7 a p
 |.loop a,_::p=>K7 a p
 |.scope a,_::p=>K7 a p
 |.rangeFunc _ _ a b,i::p=>bif Nat.beq i 0 then K7 a p else K7 b p
 |c,_=>c
def ASR(fn:Func):Code:=match fn.body with
 |some c=>c
 |none=>.skip
end Go.Pg
namespace Go.Pg
variable {P:Program}{E:XE}{st:XS}{fr:Fr}{s:St}
@[simp] theorem A5W(r:Option XS):PA P E [] r=r:=rfl
@[simp] theorem AW9(i:H4)(l:List H4)(r:Option XS):PA P E (i::l) r=PA P E l (opO P E i r):=rfl
@[simp] theorem A5X(i:H4):opO P E i (some st)=opI P E i st:=rfl
@[simp] theorem A5Y(i:H4):opO P E i none=none:=rfl
@[simp] theorem BA1(i:H4)(c:Prop)[Decidable c](x y:Option XS):opO P E i (if c then x else y)=if c then opO P E i x else opO P E i y:=by split<;>rfl
@[simp] theorem A5Z(l:List H4)(c:Prop)[Decidable c](x y:Option XS):PA P E l (if c then x else y)=if c then PA P E l x else PA P E l y:=by split<;>rfl
noncomputable def gI(P:Program)(E:XE)(d:Option Tmp)(k:IK)(st:XS)(w:Bool)(r:Option (Bool×V)):Option XS:=match r with
 |some (c,.bool b)=>Bool.rec (some (HY d st)) (C3 P E d k st) (c&&(b==w))
 |_=>none
@[simp] theorem A50(d:Option Tmp)(k:IK):opI P E ⟨none,d,k⟩ st=C3 P E d k st:=rfl
@[simp] theorem AXA(t:Tmp)(w:Bool)(d:Option Tmp)(k:IK):opI P E ⟨some (t,w),d,k⟩ st=gI P E d k st w (BZ st.fr t):=by
 show(match(match BZ st.fr t with | some (c,.bool b)=>some (c&&(b == w)) | _=>none:Option Bool)with
  |some true=>C3 P E d k st
  |some false=>some (HY d st)
  | none=>none)=_
 unfold gI;cases BZ st.fr t with
 |none=>rfl
 |some p=>
  obtain⟨c,v⟩:=p
  cases v with
  |bool b=>cases h:(c&&(b==w))<;>simp[h]
  |_=>rfl
@[simp] theorem BKX(d:Option Tmp)(k:IK):gI P E d k st true (some (true,.bool true))=C3 P E d k st:=rfl
@[simp] theorem BKY(d:Option Tmp)(k:IK):gI P E d k st true (some (true,.bool false))=some (HY d st):=rfl
@[simp] theorem BKZ(d:Option Tmp)(k:IK):gI P E d k st false (some (true,.bool true))=some (HY d st):=rfl
@[simp] theorem BK0(d:Option Tmp)(k:IK):gI P E d k st false (some (true,.bool false))=C3 P E d k st:=rfl
@[simp] theorem BK1(d:Option Tmp)(k:IK)(w b:Bool):gI P E d k st w (some (false,.bool b))=some (HY d st):=rfl
@[simp] theorem A51(d:Tmp)(c:Nat)(fr:Fr)(s:St):HY (some d) ⟨c,fr,s⟩=⟨c,(d,false,.bool false)::fr,s⟩:=rfl
@[simp] theorem A52(c:Nat)(fr:Fr)(s:St):HY none ⟨c,fr,s⟩=⟨c,fr,s⟩:=rfl
@[simp] theorem A53(k:Nat):BZ [] k=none:=rfl
@[simp] theorem AXB(j:Nat)(x:Bool×V)(fr:Fr)(k:Nat):BZ ((j,x)::fr) k=if k=j then some x else BZ fr k:=by rw[FG,FG];rfl
@[simp] theorem ASS(j:Nat)(x:Nat×AZ)(L:AA)(k:Nat):AA.get ((j,x)::L) k=if k=j then some x else L.get k:=rfl
def rdT:Option (Bool×V)→Option V
 |some (true,v)=>some v
 |_=>none
@[simp] theorem AFI(v:V):rdT (some (true,v))=some v:=rfl
@[simp] theorem AXD(v:V):rdT (some (false,v))=none:=rfl
@[simp] theorem A54:rdT none=none:=rfl
@[simp] theorem BA2(t:Tmp):CM fr (.tmp t)=rdT (BZ fr t):=by
 show(match BZ fr t with
  |some (true,v)=>some v
  | _=>none)=_
 cases BZ fr t with
 |none=>rfl
 |some p=>obtain⟨c,v⟩:=p;cases c<;>rfl
@[simp] theorem AXE(v:Value):CM fr (.const v)=CP v:=rfl
@[simp] theorem A55(f:FuncId):CM fr (.func f)=some (.fn f [] []):=rfl
@[simp] theorem BA3(t:Tmp):rdC fr (.tmp t)=BZ fr t:=rfl
@[simp] theorem A56(b:Bool):rdC fr (.const (.bool b))=some (true,.bool b):=rfl
@[simp] theorem AST(k:IntKind)(n:Int):CP (.int k n)=some (.int k n):=rfl
@[simp] theorem ANS(b:Bool):CP (.bool b)=some (.bool b):=rfl
@[simp] theorem ASU:CP (.slice none 0 0)=some .nil:=rfl
@[simp] theorem AXF(d:Tmp)(c:Nat)(fr:Fr)(s:St)(v:V):DE (some d) ⟨c,fr,s⟩ (some v)=some ⟨c,(d,true,v)::fr,s⟩:=rfl
@[simp] theorem BA4(c:Nat)(fr:Fr)(s:St)(v:V):DE none ⟨c,fr,s⟩ (some v)=some ⟨c,fr,s⟩:=rfl
@[simp] theorem AXG(d:Option Tmp):DE d st none=none:=rfl
@[simp] theorem A57(d:Option Tmp)(c:Prop)[Decidable c](x y:Option V):DE d st (if c then x else y)=if c then DE d st x else DE d st y:=by split<;>rfl
section
variable (d:Option Tmp)(c:Nat)
@[simp] theorem A58(x:Operand):C3 P E d (.mv x) ⟨c,fr,s⟩=DE d ⟨c,fr,s⟩ (CM fr x):=rfl
def ASV(P:Program)(op:BinOp)(T:TypeId):Option V→Option V→Option V
 |some a,some b=>G8 P op T a b
 |_,_=>none
@[simp] theorem AXH(op:BinOp)(T:TypeId)(a b:V):ASV P op T (some a) (some b)=G8 P op T a b:=rfl
@[simp] theorem AXI(op:BinOp)(T:TypeId)(x y:Operand):C3 P E d (.bin op T x y) ⟨c,fr,s⟩=DE d ⟨c,fr,s⟩ (ASV P op T (CM fr x) (CM fr y)):=by show DE d _ (qA P fr op T x y)=_;unfold qA ASV;cases CM fr x<;>cases CM fr y<;>rfl
def fa1(P:Program)(T:TypeId)(f:Nat):Option V→Option V
 |some p=>C7 P T p f
 |none=>none
@[simp] theorem A59(T:TypeId)(f:Nat)(p:V):fa1 P T f (some p)=C7 P T p f:=rfl
@[simp] theorem A6A(T:TypeId)(x:Operand)(f:Nat):C3 P E d (.fa T x f) ⟨c,fr,s⟩=DE d ⟨c,fr,s⟩ (fa1 P T f (CM fr x)):=by show DE d _ (xFA P fr T x f)=_;unfold xFA fa1;cases CM fr x<;>rfl
def wh1(P:Program)(T:TypeId):Option (List V)→Option V
 |some cs=>BL P T cs
 |none=>none
@[simp] theorem A6B(T:TypeId)(cs:List V):wh1 P T (some cs)=BL P T cs:=rfl
def ld1(P:Program)(s:St)(T:TypeId):Option V→Option V
 |some p=>wh1 P T (A8 s p)
 |none=>none
@[simp] theorem AFJ(T:TypeId)(p:V):ld1 P s T (some p)=wh1 P T (A8 s p):=rfl
@[simp] theorem A6C(T:TypeId)(x:Operand):C3 P E d (.ld T x) ⟨c,fr,s⟩=DE d ⟨c,fr,s⟩ (ld1 P s T (CM fr x)):=by
 show DE d _ (LW P fr s T x)=_;unfold LW ld1;cases CM fr x with
 |none=>rfl
 |some p=>unfold wh1;cases A8 s p<;>rfl
noncomputable def pk3:Option V→Option (Bool×V)→Option (Bool×V)→Option V
 |some (.bool c),some (ca,.bool a),some (cb,.bool b)=>Bool.rec (Bool.rec none (some (.bool b)) cb) (Bool.rec none (some (.bool a)) ca) c
 |_,_,_=>none
@[simp] theorem A6D(a cb b:Bool):pk3 (some (.bool true)) (some (true,.bool a)) (some (cb,.bool b))=some (.bool a):=rfl
@[simp] theorem AXJ(ca a b:Bool):pk3 (some (.bool false)) (some (ca,.bool a)) (some (true,.bool b))=some (.bool b):=rfl
@[simp] theorem A6E(c a b:Bool):pk3 (some (.bool c)) (some (true,.bool a)) (some (true,.bool b))=some (.bool (if c then a else b)):=by cases c<;>rfl
@[simp] theorem ASW(x y z:Operand):C3 P E d (.pick x y z) ⟨c,fr,s⟩=DE d ⟨c,fr,s⟩ (pk3 (CM fr x) (rdC fr y) (rdC fr z)):=rfl
def BGP(f:Operand→Option V):List (Nat×Operand)→Option (List (Nat×V)):=C4 f
def ba2:Option V→Nat→Option (List (Nat×V))→Option (List (Nat×V))
 |some v,i,some l=>some ((i,v)::l)
 |_,_,_=>none
@[simp] theorem A6F(v:V)(i:Nat)(l:List (Nat×V)):ba2 (some v) i (some l)=some ((i,v)::l):=rfl
@[simp] theorem ASX(r:Operand→Option V):C4 r []=some []:=rfl
@[simp] theorem ANT(r:Operand→Option V)(i:Nat)(x:Operand)(l:List (Nat×Operand)):C4 r ((i,x)::l)=ba2 (r x) i (C4 r l):=by simp only[C4];unfold ba2;cases r x<;>cases C4 r l<;>rfl
def bd1(P:Program)(T:TypeId):Option (List (Nat×V))→Option V
 |some l=>CI P T l
 |none=>none
@[simp] theorem A6G(T:TypeId)(l:List (Nat×V)):bd1 P T (some l)=CI P T l:=rfl
@[simp] theorem ANU(T:TypeId)(ps:List (Nat×Operand)):C3 P E d (.build T ps) ⟨c,fr,s⟩=DE d ⟨c,fr,s⟩ (bd1 P T (C4 (CM fr) ps)):=by show DE d _ (RC P fr T ps)=_;unfold RC bd1;cases C4 (CM fr) ps<;>rfl
def bs1(P:Program)(T:TypeId)(n:Nat):Option (List (Nat×V))→Option V
 |some l=>B8 P T n l
 |none=>none
@[simp] theorem A6H(T:TypeId)(n:Nat)(l:List (Nat×V)):bs1 P T n (some l)=B8 P T n l:=rfl
@[simp] theorem AKR(T:TypeId)(n:Nat)(ps:List (Nat×Operand)):C3 P E d (.buildS T n ps) ⟨c,fr,s⟩=DE d ⟨c,fr,s⟩ (bs1 P T n (C4 (CM fr) ps)):=by show DE d _ (MY P fr T n ps)=_;unfold MY bs1;cases C4 (CM fr) ps<;>rfl
@[simp] theorem AXK(op:Op):C3 P E d (.oth op) ⟨c,fr,s⟩=DE d ⟨c,fr,s⟩ (IQ P (eP op) s (CM fr)):=rfl
def al1(d:Tmp)(c:Nat)(fr:Fr)(s:St):Option (List V)→Option XS
 |some cs=>some ⟨c+1,(d,true,.ptr s.up.length d c 0)::fr,s.put s.up.length d c (.box cs)⟩
 |none=>none
@[simp] theorem A6I(d:Tmp)(cs:List V):al1 d c fr s (some cs)=some ⟨c+1,(d,true,.ptr s.up.length d c 0)::fr,s.put s.up.length d c (.box cs)⟩:=rfl
@[simp] theorem ANV(d:Tmp)(T:TypeId):C3 P E (some d) (.alloc T) ⟨c,fr,s⟩=al1 d c fr s (BW P T):=by show OV P (some d) T _=_;unfold OV al1;cases BW P T<;>rfl
noncomputable def zJ(d:Tmp)(c:Nat)(fr:Fr)(s:St):Option V→Option XS
 |some v=>Bool.rec none (some ⟨c+1,(d,true,.ptr s.up.length d c 0)::fr,s.put s.up.length d c (.box (A9 v))⟩) (BA v)
 |none=>none
@[simp] theorem BA8(d:Tmp)(k:IntKind)(n:Int):zJ d c fr s (some (.int k n))=some ⟨c+1,(d,true,.ptr s.up.length d c 0)::fr,s.put s.up.length d c (.box [.int k n])⟩:=rfl
@[simp] theorem A6J(d:Tmp)(b:Bool):zJ d c fr s (some (.bool b))=some ⟨c+1,(d,true,.ptr s.up.length d c 0)::fr,s.put s.up.length d c (.box [.bool b])⟩:=rfl
@[simp] theorem BA9(d:Tmp)(cs:List V):zJ d c fr s (some (.agg cs))=some ⟨c+1,(d,true,.ptr s.up.length d c 0)::fr,s.put s.up.length d c (.box cs)⟩:=rfl
@[simp] theorem A6K(d:Tmp)(b:Bool)(es:List (List V)):zJ d c fr s (some (.list b es))=some ⟨c+1,(d,true,.ptr s.up.length d c 0)::fr,s.put s.up.length d c (.box [.list b es])⟩:=rfl
@[simp] theorem BBA(d:Tmp):zJ d c fr s (some .nil)=some ⟨c+1,(d,true,.ptr s.up.length d c 0)::fr,s.put s.up.length d c (.box [.nil])⟩:=rfl
@[simp] theorem BBB(d:Tmp)(l k g n:Nat):zJ d c fr s (some (.vec l k g n))=some ⟨c+1,(d,true,.ptr s.up.length d c 0)::fr,s.put s.up.length d c (.box [.vec l k g n])⟩:=rfl
@[simp] theorem BGU(d:Tmp)(l k g:Nat):zJ d c fr s (some (.mp l k g))=some ⟨c+1,(d,true,.ptr s.up.length d c 0)::fr,s.put s.up.length d c (.box [.mp l k g])⟩:=rfl
@[simp] theorem AXL(d:Tmp)(x:Operand):C3 P E (some d) (.box x) ⟨c,fr,s⟩=zJ d c fr s (CM fr x):=by show lU (some d) x _=_;unfold lU zJ;cases CM fr x<;>rfl
def st3(γ:Nat)(P:Program)(T:TypeId)(c:Nat)(fr:Fr)(s:St)(l q off:Nat)(v:V):Option (Nat×AZ)→Option XS
 |some (γ',.box cs)=>if γ'=γ∧BA v=true∧0<P.cellsOf T∧(A9 v).length=P.cellsOf T∧off+P.cellsOf T≤cs.length∧γ<c then some ⟨c,fr,s.put l q γ (.box (A4 cs off (A9 v)))⟩ else none
 |_=>none
def st4(γ:Nat)(P:Program)(T:TypeId)(c:Nat)(fr:Fr)(s:St)(l q i off:Nat)(v:V):Option (Nat×AZ)→Option XS
 |some (γ',.vec U es)=>if γ'=γ∧BA v=true∧0<P.cellsOf T∧(A9 v).length=P.cellsOf T∧i<es.length∧off+P.cellsOf T≤(es.getD i []).length∧γ<c then some ⟨c,fr,s.put l q γ (.vec U (es.set i (A4 (es.getD i []) off (A9 v))))⟩ else none
 |_=>none
def GZ(P:Program)(T:TypeId)(c:Nat)(fr:Fr)(s:St):Option V→Option V→Option XS
 |some (.ptr l q γ off),some v=>st3 γ P T c fr s l q off v (s.get l q)
 |some (.eptr l q γ i off),some v=>st4 γ P T c fr s l q i off v (s.get l q)
 |_,_=>none
@[simp] theorem AKS(T:TypeId)(l q γ off:Nat)(v:V):GZ P T c fr s (some (.ptr l q γ off)) (some v)=st3 γ P T c fr s l q off v (s.get l q):=rfl
@[simp] theorem AFK(T:TypeId)(l q γ i off:Nat)(v:V):GZ P T c fr s (some (.eptr l q γ i off)) (some v)=st4 γ P T c fr s l q i off v (s.get l q):=rfl
@[simp] theorem AKT(γ γ':Nat)(T:TypeId)(l q off:Nat)(v:V)(cs:List V):st3 γ P T c fr s l q off v (some (γ',.box cs))=if γ'=γ∧BA v=true∧0<P.cellsOf T∧(A9 v).length=P.cellsOf T∧off+P.cellsOf T≤cs.length∧γ<c then some ⟨c,fr,s.put l q γ (.box (A4 cs off (A9 v)))⟩ else none:=rfl
@[simp] theorem AKU(γ γ':Nat)(T:TypeId)(l q i off:Nat)(v:V)(U:TypeId)(es:List (List V)):st4 γ P T c fr s l q i off v (some (γ',.vec U es))=if γ'=γ∧BA v=true∧0<P.cellsOf T∧(A9 v).length=P.cellsOf T∧i<es.length∧off+P.cellsOf T≤(es.getD i []).length∧γ<c then some ⟨c,fr,s.put l q γ (.vec U (es.set i (A4 (es.getD i []) off (A9 v))))⟩ else none:=rfl
theorem AKV(T:TypeId)(x y:Operand):I6 P none T x y ⟨c,fr,s⟩=GZ P T c fr s (CM fr x) (CM fr y):=by
 unfold I6;simp only;cases CM fr x with
 |none=>rfl
 |some p=>
  cases CM fr y with
  |none=>cases p<;>rfl
  |some v=>
   cases p with
   |ptr l q γ off=>
    simp only[AKS]
    cases s.get l q with
    |none=>rfl
    |some z=>
     obtain⟨γ',r⟩:=z
     cases r with
     |box cs=>
      simp only[AKT,Bool.and_eq_true,Nat.blt_eq,Nat.ble_eq,Nat.beq_eq,and_assoc]
     |_=>rfl
   |eptr l q γ i off=>
    simp only[AFK]
    cases s.get l q with
    |none=>rfl
    |some z=>
     obtain⟨γ',r⟩:=z
     cases r with
     |vec U es=>
      simp only[AKU,Bool.and_eq_true,Nat.blt_eq,Nat.ble_eq,Nat.beq_eq,and_assoc]
     |_=>rfl
   |_=>rfl
@[simp] theorem AXM(T:TypeId)(x y:Operand):C3 P E none (.sto T x y) ⟨c,fr,s⟩=GZ P T c fr s (CM fr x) (CM fr y):=AKV c T x y
noncomputable def apW(P:Program)(e:TypeId)(d c:Nat)(fr:Fr)(s:St)(l q γ n:Nat)(ys:List (List V)):Option (Nat×AZ)→Option XS
 |some (γ',.vec W es)=>if γ'=γ∧W=e∧n=es.length∧es.all (fun y=>y.length==P.cellsOf e)=true∧CA P e es.length ys=true then
   some ⟨c+1,(d,true,.vec l q c (es.length+ys.length))::fr,s.put l q c (.vec e (es++ys))⟩ else none
 |_=>none
@[simp] theorem UC(e:TypeId)(d:Nat)(l q γ γ' n:Nat)(ys es:List (List V))(W:TypeId):apW P e d c fr s l q γ n ys (some (γ',.vec W es))=if γ'=γ∧W=e∧n=es.length∧es.all (fun y=>y.length==P.cellsOf e)=true∧CA P e es.length ys=true then
   some ⟨c+1,(d,true,.vec l q c (es.length+ys.length))::fr,s.put l q c (.vec e (es++ys))⟩ else none:=rfl
noncomputable def apV(P:Program)(e:TypeId)(d c:Nat)(fr:Fr)(s:St)(xv:V)(ys:List (List V)):Option XS:=match IV xv ys with
 |some es=>if es.all (fun y=>y.length==P.cellsOf e)=true∧CA P e es.length ys=true then some ⟨c+1,(d,true,.vec s.up.length d c (es.length+ys.length))::fr,s.put s.up.length d c (.vec e (es++ys))⟩ else none
 |none=>match xv with
  |.vec l q γ n=>apW P e d c fr s l q γ n ys (Q2 n ys (s.get l q))
  |_=>none
@[simp] theorem nK(n γ:Nat)(ys es:List (List V))(U:TypeId):Q2 n ys (some (γ,.vec U es))=some (γ,.vec U (fV n ys es)):=rfl
@[simp] theorem AXN(n:Nat)(ys:List (List V)):Q2 n ys none=none:=rfl
attribute [simp] UY
@[simp] theorem BBC(e:TypeId)(d:Nat)(ys:List (List V)):apV P e d c fr s .nil ys=if CA P e 0 ys=true then some ⟨c+1,(d,true,.vec s.up.length d c ys.length)::fr,s.put s.up.length d c (.vec e ys)⟩ else none:=by simp[apV,IV]
@[simp] theorem BBD(e:TypeId)(d:Nat)(ys:List (List V)):apV P e d c fr s (.list true []) ys=if CA P e 0 ys=true then some ⟨c+1,(d,true,.vec s.up.length d c ys.length)::fr,s.put s.up.length d c (.vec e ys)⟩ else none:=by simp[apV,IV]
@[simp] theorem A6M(e:TypeId)(d:Nat)(z y:List V)(es ys:List (List V)):apV P e d c fr s (.list true (z::es)) (y::ys)=if (z::es).all (fun y=>y.length==P.cellsOf e)=true∧CA P e (z::es).length (y::ys)=true then
   some ⟨c+1,(d,true,.vec s.up.length d c ((z::es).length+(y::ys).length))::fr,s.put s.up.length d c (.vec e ((z::es)++(y::ys)))⟩ else none:=rfl
@[simp] theorem AKW(e:TypeId)(d:Nat)(l q γ n:Nat)(ys:List (List V)):apV P e d c fr s (.vec l q γ n) ys=apW P e d c fr s l q γ n ys (Q2 n ys (s.get l q)):=by simp[apV,IV]
noncomputable def ap3(P:Program)(d c:Nat)(fr:Fr)(s:St):Option (Option Nat×TypeId)→Option V→Option V→Option XS
 |some (none,e),some xv,some yv=>ap4 e xv (elemsOf s yv)
 |_,_,_=>none
where ap4 (e:TypeId) (xv:V):Option (List (List V))→Option XS
 |some ys=>apV P e d c fr s xv ys
 |none=>none
@[simp] theorem AFL(d:Nat)(e:TypeId)(xv yv:V):ap3 P d c fr s (some (none,e)) (some xv) (some yv)=ap3.ap4 P d c fr s e xv (elemsOf s yv):=rfl
@[simp] theorem AFM(d:Nat)(e:TypeId)(xv:V)(ys:List (List V)):ap3.ap4 P d c fr s e xv (some ys)=apV P e d c fr s xv ys:=rfl
@[simp] theorem AKX(b:Bool)(es:List (List V)):elemsOf s (.list b es)=some es:=rfl
@[simp] theorem ANW:elemsOf s .nil=some []:=rfl
theorem ifB{α:Type}{b:Bool}{x y:α}:(Bool.rec y x b:α)=if b=true then x else y:=by cases b<;>rfl
theorem zK{k:Nat}{e:TypeId}(d:Nat)(x y:Option V):ap3 P d c fr s (some (some k,e)) x y=none:=by cases x<;>cases y<;>rfl
@[simp] theorem AXO(d:Tmp)(x y:Operand)(T:TypeId):C3 P E (some d) (.app [x,y] [T,T]) ⟨c,fr,s⟩=ap3 P d c fr s (BQ P T) (CM fr x) (CM fr y):=by
 show xAppend P (some d) [x,y] [T,T] _=_;unfold xAppend xAppG;simp only[Nat.beq_refl];cases hT:BQ P T with
 |none=>cases CM fr x<;>cases CM fr y<;>rfl
 |some p=>
  obtain⟨k,e⟩:=p
  cases k with
  |some k=>rw[zK]
  |none=>
   cases CM fr x with
   |none=>rfl
   |some xv=>
    cases CM fr y with
    |none=>rfl
    |some yv=>
     simp only[AFL]
     cases elemsOf s yv with
     |none=>rfl
     |some ys=>
      simp only[AFM,apV]
      cases IV xv ys with
      |some es=>
       simp only[ifB,Bool.and_eq_true,List.length_append]
       by_cases hC:es.all (fun y=>y.length==P.cellsOf e)=true∧CA P e es.length ys=true
       ·rw[if_pos hC,if_pos hC]
       ·rw[if_neg hC,if_neg hC]
      |none=>
       simp only
       unfold lZ
       cases xv with
       |vec l q γ n=>
        simp only
        cases Q2 n ys (s.get l q)with
        |none=>rfl
        |some z=>
         obtain⟨γ',r⟩:=z
         cases r with
         |vec W es=>
          simp only[ifB,Bool.and_eq_true,List.length_append,UC,Nat.beq_eq,and_assoc]
          by_cases hC:γ'=γ∧W=e∧n=es.length∧es.all (fun y=>y.length==P.cellsOf e)=true∧CA P e es.length ys=true
          ·rw[if_pos hC,if_pos hC]
          ·rw[if_neg hC,if_neg hC]
         |_=>rfl
       |_=>rfl
def mc2:Option V→Option (List V)→Option (List V)
 |some v,some l=>some (v::l)
 |_,_=>none
@[simp] theorem A6P(v:V)(l:List V):mc2 (some v) (some l)=some (v::l):=rfl
@[simp] theorem A6Q(f:Operand→Option V):FQ f []=some []:=rfl
@[simp] theorem AXP(f:Operand→Option V)(x:Operand)(l:List Operand):FQ f (x::l)=mc2 (f x) (FQ f l):=by
 simp only[FQ];cases f x with
 |none=>rfl
 |some v=>cases FQ f l<;>rfl
noncomputable def G4(E:XE)(d:Option Tmp)(st:XS)(f:FuncId)(args:List V):Option XS:=match E.cf f args st with
 |some (r,st')=>some ⟨st'.c,putD st'.fr d true r,st'.s⟩
 |none=>none
noncomputable def ca1(E:XE)(d:Option Tmp)(st:XS):Option V→Option (List V)→Option XS
 |some (.fn f first cap),some vs=>G4 E d st f ((first++vs++cap).map weakV)
 |some (.yld l q γ),some vs=>ca3 (E.cy l q γ vs st)
 |_,_=>none
where ca3:Option (V×XS)→Option XS
 |some (r,st')=>some ⟨st'.c,putD st'.fr d true r,st'.s⟩
 |none=>none
@[simp] theorem ASY(st:XS)(f:FuncId)(first cap vs:List V):ca1 E d st (some (.fn f first cap)) (some vs)=G4 E d st f ((first++vs++cap).map weakV):=rfl
@[simp] theorem AKY(st:XS)(l q γ:Nat)(vs:List V):ca1 E d st (some (.yld l q γ)) (some vs)=ca1.ca3 d (E.cy l q γ vs st):=rfl
@[simp] theorem A6R(d:Tmp)(r:V):ca1.ca3 (some d) (some (r,⟨c,fr,s⟩))=some ⟨c,(d,true,r)::fr,s⟩:=rfl
theorem AFN(st:XS)(f:Operand)(args:List Operand):TZ E.cf E.cy d f args st=ca1 E d st (CM st.fr f) (FQ (CM st.fr) args):=by
 unfold TZ;cases CM st.fr f with
 |none=>rfl
 |some v=>
  cases v with
  |fn f first cap=>
   simp only
   cases FQ (CM st.fr) args with
   |none=>rfl
   |some vs=>simp only[ASY,G4];cases E.cf f ((first++vs++cap).map weakV) st<;>rfl
  |yld l q γ=>
   simp only[qJ]
   cases FQ (CM st.fr) args with
   |none=>rfl
   |some vs=>simp only[AKY];cases E.cy l q γ vs st<;>rfl
  |_=>rfl
@[simp] theorem ASZ(f:Operand)(args:List Operand):C3 P E d (.call false none f args) ⟨c,fr,s⟩=ca1 E d ⟨c,fr,s⟩ (CM fr f) (FQ (CM fr) args):=AFN d ⟨c,fr,s⟩ f args
def orK:Bool→Option V→Option V→Option V
 |true,some r,_=>some r
 |_,_,z=>z
@[simp] theorem A6S(r:V)(z:Option V):orK true (some r) z=some r:=rfl
@[simp] theorem A6T(b:Bool)(z:Option V):orK b z z=z:=by cases b<;>cases z<;>rfl
theorem nL{P:Program}{kn:CF0}{rec:GL}{f:FuncId}{args:List V}:FR P kn rec f args=orK (args.all (AK 9)) (AW P kn rec f (args.map weakN)) (AW P kn rec f args):=by unfold FR orK;cases AW P kn rec f (args.map weakN)<;>cases args.all (AK 9)<;>rfl
attribute [simp] nL
@[simp] theorem AXS(k:IntKind)(n:Int):weakN (.int k n)=.int k n:=rfl
@[simp] theorem AS0(b:Bool):weakN (.bool b)=.bool b:=rfl
@[simp] theorem AXT(v:Value):weakN (.raw v)=.raw v:=rfl
@[simp] theorem AS1(b:Bool)(es:List (List V)):weakN (.list b es)=.list b es:=rfl
@[simp] theorem AXU(cs:List V):weakN (.agg cs)=.agg (cs.map weakM):=rfl
@[simp] theorem AXV:weakN .nil=.list false []:=rfl
@[simp] theorem A6U(f:FuncId)(x y:List V):weakN (.fn f x y)=.fn f x y:=rfl
@[simp] theorem AXW(cs:List V):weakN (.ref cs)=.ref cs:=rfl
@[simp] theorem AXX(k:IntKind)(n:Int):weakM (.int k n)=.int k n:=rfl
@[simp] theorem AS2(b:Bool):weakM (.bool b)=.bool b:=rfl
@[simp] theorem AS3(b:Bool)(es:List (List V)):weakM (.list b es)=.list b es:=rfl
@[simp] theorem AXY:weakM .nil=.list false []:=rfl
@[simp] theorem A6V(f:FuncId)(x y:List V):weakM (.fn f x y)=.fn f x y:=rfl
@[simp] theorem AXZ(cs:List V):weakM (.ref cs)=.ref cs:=rfl
theorem bF{A:Ann}{kn:CF0}{n:Nat}{f:FuncId}{args:List V}(h:args.all (AK 9)=true)(hh:BE P f=false)(st:XS):G4 (BN P A kn n) d st f args=DE d st (orK true (AW P kn (AE P A kn n) f (args.map weakN)) (AW P kn (AE P A kn n) f args)):=by
 have e:orK true (AW P kn (AE P A kn n) f (args.map weakN)) (AW P kn (AE P A kn n) f args)=FR P kn (AE P A kn n) f args:=by rw[nL,h]
 rw[e];show(match aA P kn (AE P A kn n) f args st with
  |some (r,st')=>some (⟨st'.c,putD st'.fr d true r,st'.s⟩:XS)
  | none=>none)=_
 unfold aA;rw[h,hh];cases FR P kn (AE P A kn n) f args<;>rfl
end
@[simp] theorem A6W(k:IntKind)(n:Int):weakV (.int k n)=.int k n:=rfl
@[simp] theorem AX0(b:Bool):weakV (.bool b)=.bool b:=rfl
@[simp] theorem AX1(b:Bool)(es:List (List V)):weakV (.list b es)=.list false es:=rfl
@[simp] theorem A6X(cs:List V):weakV (.agg cs)=.agg (cs.map weakC):=rfl
@[simp] theorem AX2(k:IntKind)(n:Int):weakC (.int k n)=.int k n:=rfl
@[simp] theorem AS4(b:Bool):weakC (.bool b)=.bool b:=rfl
@[simp] theorem AS5(b:Bool)(es:List (List V)):weakC (.list b es)=.list false es:=rfl
@[simp] theorem AX3:weakC .nil=.nil:=rfl
@[simp] theorem A6Y:weakV .nil=.nil:=rfl
@[simp] theorem BBE(f:FuncId)(x y:List V):weakV (.fn f x y)=.fn f x y:=rfl
@[simp] theorem AS6(f:Nat)(k:IntKind)(n:Int):AK (f+1) (.int k n)=true:=rfl
@[simp] theorem ANY(f:Nat)(b:Bool):AK (f+1) (.bool b)=true:=rfl
@[simp] theorem AS7(f:Nat):AK (f+1) .nil=true:=rfl
@[simp] theorem AS8(f:Nat)(cs:List V):AK (f+1) (.agg cs)=cs.all (AK f):=rfl
@[simp] theorem AS9(f:Nat)(cs:List V):AK (f+1) (.tup cs)=cs.all (AK f):=rfl
@[simp] theorem ATA(f:Nat)(cs:List V):AK (f+1) (.ref cs)=cs.all (AK f):=rfl
@[simp] theorem ANZ(f:Nat)(b:Bool)(es:List (List V)):AK (f+1) (.list b es)=es.all fun e=>e.all (AK f):=rfl
@[simp] theorem AX4(f:Nat)(g:FuncId)(x y:List V):AK (f+1) (.fn g x y)=(x.all (AK f)&&y.all (AK f)):=rfl
section
variable (r:Operand→Option V)
def o1(f:V→Option V):Option V→Option V
 |some v=>f v
 |none=>none
@[simp] theorem BBF(f:V→Option V)(v:V):o1 f (some v)=f v:=rfl
def o2(f:V→V→Option V):Option V→Option V→Option V
 |some a,some b=>f a b
 |_,_=>none
@[simp] theorem BBG(f:V→V→Option V)(a b:V):o2 f (some a) (some b)=f a b:=rfl
theorem UD(f:V→Option V)(x:Option V):x.bind f=o1 f x:=by cases x<;>rfl
theorem iH(f:V→V→Option V)(x y:Option V):(x.bind fun a=>y.bind fun b=>f a b)=o2 f x y:=by cases x<;>cases y<;>rfl
@[simp] theorem BGX(op:UnOp)(T:TypeId)(x:Operand):IQ P (eP (.unOp op T x)) s r=o1 (bV op) (r x):=UD _ _
@[simp] theorem A6Z(T U:TypeId)(x:Operand):IQ P (eP (.convert T U x)) s r=o1 (K5 P T U) (r x):=UD _ _
@[simp] theorem A60(T:TypeId)(x i:Operand):IQ P (eP (.indexAddr T x i)) s r=o2 (BS P s T) (r x) (r i):=iH _ _ _
@[simp] theorem AX5(T:TypeId)(x:Operand)(f:Nat):IQ P (eP (.field T x f)) s r=o1 (fun a=>IF P T a f) (r x):=UD _ _
@[simp] theorem BBH(x:Operand)(i:Nat):IQ P (eP (.extract x i)) s r=o1 (fun a=>FY a i) (r x):=UD _ _
@[simp] theorem BBI(x:Operand)(T:TypeId):IQ P (eP (.call ⟨.builtin .len,#[x],#[T]⟩)) s r=o1 (HX P T) (r x):=UD _ _
end
@[simp] theorem A61(b:Bool):bV .not (.bool b)=some (.bool !b):=rfl
@[simp] theorem A62(k:IntKind)(n:Int):bV .neg (.int k n)=some (.int k (k.wrap (0-n))):=rfl
@[simp] theorem AGR(vs:List V)(i:Nat):FY (.tup vs) i=vs[i]?:=rfl
@[simp] theorem BGY(up:List AA)(loc:AA)(l k g:Nat)(r:AZ):St.put ⟨up,loc⟩ l k g r=if l=up.length then⟨up,(k,g,r)::loc⟩ else⟨up.modify l fun L=>L.put k g r,loc⟩:=rfl
def upG(k:Nat):Option AA→Option (Nat×AZ)
 |some L=>L.get k
 |none=>none
@[simp] theorem A63(k:Nat)(L:AA):upG k (some L)=L.get k:=rfl
@[simp] theorem AFO(up:List AA)(loc:AA)(l k:Nat):St.get ⟨up,loc⟩ l k=if l=up.length then loc.get k else upG k up[l]?:=rfl
def kx(k:Nat)(r:Fr):Option (Bool×V)→Fr
 |some (c,v)=>(k,c,v)::r
 |none=>r
@[simp] theorem BBJ(k:Nat)(r:Fr)(c:Bool)(v:V):kx k r (some (c,v))=(k,c,v)::r:=rfl
@[simp] theorem BBK(k:Nat)(r:Fr):kx k r none=r:=rfl
@[simp] theorem AX6:QS [] fr=[]:=rfl
@[simp] theorem ATB(k:Nat)(ks:List Nat):QS (k::ks) fr=kx k (QS ks fr) (BZ fr k):=by show(match BZ fr k with|some (c,v)=>(k,c,v)::QS ks fr|none=>QS ks fr)=_;cases BZ fr k<;>rfl
def kl(k:Nat)(r:AA):Option (Nat×AZ)→AA
 |some (g,x)=>(k,g,x)::r
 |none=>r
@[simp] theorem BBL(k:Nat)(r:AA)(g:Nat)(x:AZ):kl k r (some (g,x))=(k,g,x)::r:=rfl
@[simp] theorem BBM(k:Nat)(r:AA):kl k r none=r:=rfl
@[simp] theorem AX7(L:AA):IW [] L=[]:=rfl
@[simp] theorem ATC(k:Nat)(ks:List Nat)(L:AA):IW (k::ks) L=kl k (IW ks L) (L.get k):=by unfold kl;simp only[IW];cases L.get k<;>rfl
@[simp] theorem A64(ks ls:List Nat)(c:Nat)(fr:Fr)(up:List AA)(loc:AA):CC (some (ks,ls)) ⟨c,fr,⟨up,loc⟩⟩=⟨c,QS ks fr,⟨up,IW ls loc⟩⟩:=rfl
@[simp] theorem ATD:CC none st=st:=rfl
@[simp] theorem BGZ:OW (some st)=some (.normal,st):=rfl
@[simp] theorem A65:OW none=none:=rfl
@[simp] theorem BBN(c:Prop)[Decidable c](x y:Option XS):OW (if c then x else y)=if c then OW x else OW y:=by split<;>rfl
@[simp] theorem A66(l:List H4):I7 P E (.str l) st=PA P E l (some st):=rfl
@[simp] theorem A67(S:List nG):I7 P E (.drw S) st=VR P E S (some st):=rfl
@[simp] theorem A68(ks:List (Nat×Nat×Nat)):I7 P E (.cls ks) st=RF P ks (some st):=rfl
@[simp] theorem A69(o:Option XS):RF P [] o=o:=rfl
@[simp] theorem AX8(T a d:Nat)(r:List (Nat×Nat×Nat))(st:XS):RF P ((T,a,d)::r) (some st)=RF P r (if rK (CM st.fr (.tmp a))=true then DE (some d) st (LW P st.fr st.s T (.tmp a)) else none):=by
 show RF P r (Bool.rec _ _ (rK (CM st.fr (.tmp a))))=_;cases rK (CM st.fr (.tmp a))with
 |false=>rfl
 |true=>
  simp only[if_true]
  congr 1
@[simp] theorem A7A(l k g o:Nat):rK (some (.ptr l k g o))=true:=rfl
@[simp] theorem A7B(rs:List ResultVar):WZ P rs (some (.ret,st))=WZ.finV st.s (F7 P rs st.fr st.s):=rfl
@[simp] theorem AN0(rs:List ResultVar):WZ P rs (some (.normal,st))=WZ.finV st.s (F7 P rs st.fr st.s):=rfl
def ATE:Option V→Option V
 |some r=>if AK 9 r=true then some r else none
 |none=>none
@[simp] theorem AX9(r:V):ATE (some r)=if AK 9 r=true then some r else none:=rfl
@[simp] theorem AYA(v:V):WZ.finV s (some v)=ATE (A2 s 4 v):=by
 unfold WZ.finV ATE;simp only;cases A2 s 4 v with
 |none=>rfl
 |some r=>simp only[ifB]
@[simp] theorem ATF(t:Tmp):DP P fr s (.tmp t)=rdT (BZ fr t):=by
 rw[FG];show(match fr.get t with
  |some (true,v)=>some v
  | _=>none)=_
 cases fr.get t with
 |none=>rfl
 |some p=>obtain⟨c,v⟩:=p;cases c<;>rfl
@[simp] theorem A7C(x:ResultVar):F7 P [x] fr s=DP P fr s x:=by unfold F7;simp only[List.mapM_cons,List.mapM_nil];cases DP P fr s x<;>rfl
def re2:Option V→Option V→Option V
 |some a,some b=>some (.tup [a,b])
 |_,_=>none
@[simp] theorem A7D(a b:V):re2 (some a) (some b)=some (.tup [a,b]):=rfl
@[simp] theorem A7E(x y:ResultVar):F7 P [x,y] fr s=re2 (DP P fr s x) (DP P fr s y):=by unfold F7;simp only[List.mapM_cons,List.mapM_nil];cases DP P fr s x<;>cases DP P fr s y<;>rfl
def re3:Option V→Option V→Option V→Option V
 |some a,some b,some c=>some (.tup [a,b,c])
 |_,_,_=>none
@[simp] theorem A7F(a b c:V):re3 (some a) (some b) (some c)=some (.tup [a,b,c]):=rfl
@[simp] theorem ATG(x y z:ResultVar):F7 P [x,y,z] fr s=re3 (DP P fr s x) (DP P fr s y) (DP P fr s z):=by unfold F7;simp only[List.mapM_cons,List.mapM_nil];cases DP P fr s x<;>cases DP P fr s y<;>cases DP P fr s z<;>rfl
@[simp] theorem ATH(f:Nat)(k:IntKind)(n:Int):A2 s (f+1) (.int k n)=some (.int k n):=rfl
@[simp] theorem AN1(f:Nat)(b:Bool):A2 s (f+1) (.bool b)=some (.bool b):=rfl
@[simp] theorem ATI(f:Nat):A2 s (f+1) .nil=some .nil:=rfl
@[simp] theorem AN2(f:Nat)(b:Bool)(es:List (List V)):A2 s (f+1) (.list b es)=some (.list false es):=rfl
def eT(mk:List V→V):Option (List V)→Option V
 |some l=>some (mk l)
 |none=>none
@[simp] theorem A7G(mk:List V→V)(l:List V):eT mk (some l)=some (mk l):=rfl
def PC(f:V→Option V):List V→Option (List V)
 |[]=>some []
 |v::l=>mc2 (f v) (PC f l)
theorem UE(f:V→Option V):∀(l:List V),l.mapM f=PC f l
 |[]=>rfl
 |v::l=>by simp only[List.mapM_cons,PC,UE f l];cases f v<;>cases PC f l<;>rfl
@[simp] theorem A7H(f:V→Option V):PC f []=some []:=rfl
@[simp] theorem AYB(f:V→Option V)(v:V)(l:List V):PC f (v::l)=mc2 (f v) (PC f l):=rfl
@[simp] theorem ATJ(f:Nat)(cs:List V):A2 s (f+1) (.agg cs)=eT .agg (PC (A2 s f) cs):=by simp only[A2,UE];cases PC (A2 s f) cs<;>rfl
@[simp] theorem ATK(f:Nat)(cs:List V):A2 s (f+1) (.tup cs)=eT .tup (PC (A2 s f) cs):=by simp only[A2,UE];cases PC (A2 s f) cs<;>rfl
def cv1(g m:Nat):Option (Nat×AZ)→Option V
 |some (g',.vec _ es)=>if g'=g∧m≤es.length then some (.list false (es.take m)) else none
 |_=>none
@[simp] theorem AFP(g m g':Nat)(T:TypeId)(es:List (List V)):cv1 g m (some (g',.vec T es))=if g'=g∧m≤es.length then some (.list false (es.take m)) else none:=rfl
@[simp] theorem bG(f:Nat)(up:List AA)(loc:AA)(l k g m:Nat):A2 ⟨up,loc⟩ (f+1) (.vec l k g m)=if l=up.length then cv1 g m (loc.get k) else some (.vec l k g m):=by
 simp only[A2];split
 ·cases loc.get k with
  |none=>rfl
  |some z=>obtain⟨g',r⟩:=z;cases r<;>rfl
 ·rfl
@[simp] theorem AN3(t:Nat)(T:TypeId):DP P fr s (.cell t T)=ld1 P s T (rdT (BZ fr t)):=by
 rw[FG];show(match fr.get t with
  |some (true,p)=>(A8 s p).bind (BL P T)
  | _=>none)=_
 cases fr.get t with
 |none=>rfl
 |some p=>
  obtain⟨c,v⟩:=p
  cases c with
  |false=>rfl
  |true=>
   simp only[AFI,AFJ]
   cases A8 s v<;>rfl
section
variable (d:Option Tmp)(c:Nat)
@[simp] theorem A7I(r:Option XS):VR P E [] r=r:=rfl
@[simp] theorem AYC(p:nG)(S:List nG)(r:Option XS):VR P E (p::S) r=VR P E S (PA P E p.sq (bC (VQ P E p.ph (AE5 p.new r)))):=rfl
@[simp] theorem A7J(r:Option (XS×AN×AN)):VQ P E [] r=r:=rfl
@[simp] theorem AYD(i:H4)(l:List H4)(r:Option (XS×AN×AN)):VQ P E (i::l) r=VQ P E l (nF P E i r):=rfl
@[simp] theorem BBO(new:List Tmp)(up:List AA)(loc:AA):AE5 new (some ⟨c,fr,⟨up,loc⟩⟩)=if (new.all fun d=>(loc.get d).isNone)=true then some (⟨c,fr,⟨up,loc⟩⟩,[],[]) else none:=by show(Bool.rec none _ _:Option _)=_;rw[ifB];rfl
@[simp] theorem AYE(rd wr:AN):bC (some (st,rd,wr))=if (wr.all fun p=>!(rd.contains p))=true then some st else none:=by show(Bool.rec none _ _:Option _)=_;rw[ifB]
@[simp] theorem AYF:bC none=none:=rfl
@[simp] theorem A7K(c:Prop)[Decidable c](x y:Option (XS×AN×AN)):bC (if c then x else y)=if c then bC x else bC y:=by split<;>rfl
@[simp] theorem AYG(i:H4):nF P E i none=none:=rfl
@[simp] theorem A7L(i:H4)(c:Prop)[Decidable c](x y:Option (XS×AN×AN)):nF P E i (if c then x else y)=if c then nF P E i x else nF P E i y:=by split<;>rfl
@[simp] theorem A7M(l:List H4)(c:Prop)[Decidable c](x y:Option (XS×AN×AN)):VQ P E l (if c then x else y)=if c then VQ P E l x else VQ P E l y:=by split<;>rfl
@[simp] theorem A7N(l:List nG)(c:Prop)[Decidable c](x y:Option XS):VR P E l (if c then x else y)=if c then VR P E l x else VR P E l y:=by split<;>rfl
def ph3(rds rd wr:AN):Option (XS×AN)→Option (XS×AN×AN)
 |some (st,w)=>some (st,rds++rd,w++wr)
 |none=>none
@[simp] theorem A7O(rds rd wr w:AN):ph3 rds rd wr (some (st,w))=some (st,rds++rd,w++wr):=rfl
@[simp] theorem A7P(rds rd wr:AN):ph3 rds rd wr none=none:=rfl
@[simp] theorem BBP(rds rd wr:AN)(c:Prop)[Decidable c](x y:Option (XS×AN)):ph3 rds rd wr (if c then x else y)=if c then ph3 rds rd wr x else ph3 rds rd wr y:=by split<;>rfl
@[simp] theorem AYI(i:H4)(rd wr:AN):nF P E i (some (st,rd,wr))=ph3 (HQ P i.k (CM st.fr)) rd wr (VP P E i st):=by show(match VP P E i st with|some (st',w)=>some (st',HQ P i.k (CM st.fr)++rd,w++wr)|none=>none)=_;cases VP P E i st<;>rfl
@[simp] theorem AYJ(k:IK):VP P E ⟨none,d,k⟩ st=DF P E d k st:=rfl
noncomputable def gI0(P:Program)(E:XE)(d:Option Tmp)(k:IK)(st:XS)(w:Bool)(r:Option (Bool×V)):Option (XS×AN):=match r with
 |some (c,.bool b)=>if (c&&(b==w))=true then DF P E d k st else if ET k=true then none else some (HY d st,[])
 |_=>none
@[simp] theorem ATL(t:Tmp)(w:Bool)(k:IK):VP P E ⟨some (t,w),d,k⟩ st=gI0 P E d k st w (BZ st.fr t):=by
 show(match(match BZ st.fr t with | some (c,.bool b)=>some (c&&(b == w)) | _=>none:Option Bool)with
  |some true=>DF P E d k st
  |some false=>Bool.rec (some (HY d st,[])) none (ET k)
  | none=>none)=_
 unfold gI0;cases BZ st.fr t with
 |none=>rfl
 |some p=>
  obtain⟨c,v⟩:=p
  cases v with
  |bool b=>cases h:(c&&(b==w))<;>simp[h,ifB]
  |_=>rfl
@[simp] theorem A7Q(k:IK)(w c b:Bool):gI0 P E d k st w (some (c,.bool b))=if (c&&(b==w))=true then DF P E d k st else if ET k=true then none else some (HY d st,[]):=rfl
@[simp] theorem BG1(T:TypeId)(x:Operand)(f:Operand→Option V):HQ P (.ld T x) f=BV (Nat.beq (P.cellsOf T) 1) (f x):=rfl
@[simp] theorem ATM(x y:Operand)(f:Operand→Option V):J4 f [x,y]=EC (f y):=rfl
@[simp] theorem AKZ(b:Bool)(es:List (List V)):EC (some (.list b es))=[]:=rfl
@[simp] theorem AN4:EC (some .nil)=[]:=rfl
@[simp] theorem AN5(l k γ n:Nat):EC (some (.vec l k γ n))=[(l,k)]:=rfl
@[simp] theorem BG2(x:Operand)(f:Operand→Option V):HQ P (.mv x) f=[]:=rfl
@[simp] theorem BBQ(op:BinOp)(T:TypeId)(x y:Operand)(f:Operand→Option V):HQ P (.bin op T x y) f=[]:=rfl
@[simp] theorem BG3(T:TypeId)(x:Operand)(i:Nat)(f:Operand→Option V):HQ P (.fa T x i) f=[]:=rfl
@[simp] theorem A7R(x y z:Operand)(f:Operand→Option V):HQ P (.pick x y z) f=[]:=rfl
@[simp] theorem AYK(T:TypeId)(ps:List (Nat×Operand))(f:Operand→Option V):HQ P (.build T ps) f=[]:=rfl
@[simp] theorem ATN(T:TypeId)(n:Nat)(ps:List (Nat×Operand))(f:Operand→Option V):HQ P (.buildS T n ps) f=[]:=rfl
@[simp] theorem AYL(T:TypeId)(f:Operand→Option V):HQ P (.alloc T) f=[]:=rfl
@[simp] theorem BBR(x:Operand)(f:Operand→Option V):HQ P (.box x) f=[]:=rfl
@[simp] theorem BBS(T:TypeId)(x y:Operand)(f:Operand→Option V):HQ P (.sto T x y) f=[]:=rfl
@[simp] theorem BBT(x:List Operand)(y:List TypeId)(f:Operand→Option V):HQ P (.app x y) f=J4 f x:=rfl
@[simp] theorem A7S(b:Bool)(t:Option Tmp)(g:Operand)(x:List Operand)(f:Operand→Option V):HQ P (.call b t g x) f=[]:=rfl
@[simp] theorem A7T(T:TypeId)(x i:Operand)(f:Operand→Option V):HQ P (.oth (.indexAddr T x i)) f=J3 (f x):=rfl
@[simp] theorem BG4(op:UnOp)(T:TypeId)(x:Operand)(f:Operand→Option V):HQ P (.oth (.unOp op T x)) f=[]:=rfl
@[simp] theorem BBU(x:Operand)(i:Nat)(f:Operand→Option V):HQ P (.oth (.extract x i)) f=[]:=rfl
@[simp] theorem BBV(x:Operand)(T:TypeId)(b:Builtin)(f:Operand→Option V):HQ P (.oth (.call ⟨.builtin b,#[x],#[T]⟩)) f=[]:=by cases b<;>rfl
@[simp] theorem BG5(g:Fn)(x y:Array Operand)(f:Operand→Option V):HQ P (.oth (.makeFunc g x y)) f=[]:=rfl
def nw:Option XS→Option (XS×AN)
 |some st=>some (st,[])
 |none=>none
@[simp] theorem BBW:nw (some st)=some (st,[]):=rfl
@[simp] theorem BBX:nw none=none:=rfl
@[simp] theorem BG6(c:Prop)[Decidable c](x y:Option XS):nw (if c then x else y)=if c then nw x else nw y:=by split<;>rfl
theorem GM(r:Option XS):T1 r=nw r:=by cases r<;>rfl
@[simp] theorem A7U(x:Operand):DF P E d (.mv x) st=nw (C3 P E d (.mv x) st):=GM _
@[simp] theorem AYM(op:BinOp)(T:TypeId)(x y:Operand):DF P E d (.bin op T x y) st=nw (C3 P E d (.bin op T x y) st):=GM _
@[simp] theorem A7V(T:TypeId)(x:Operand)(f:Nat):DF P E d (.fa T x f) st=nw (C3 P E d (.fa T x f) st):=GM _
@[simp] theorem AYN(T:TypeId)(x:Operand):DF P E d (.ldz T x) st=DF P E d (.ld T x) st:=rfl
@[simp] theorem AYO(T:TypeId)(x:Operand):C3 P E d (.ldz T x) st=C3 P E d (.ld T x) st:=rfl
@[simp] theorem BBY(T:TypeId)(x:Operand)(f:Operand→Option V):HQ P (.ldz T x) f=[]:=rfl
@[simp] theorem A7W(T:TypeId)(x:Operand):DF P E d (.ld T x) st=nw (C3 P E d (.ld T x) st):=GM _
@[simp] theorem ATO(x y z:Operand):DF P E d (.pick x y z) st=nw (C3 P E d (.pick x y z) st):=GM _
@[simp] theorem AN6(T:TypeId)(ps:List (Nat×Operand)):DF P E d (.build T ps) st=nw (C3 P E d (.build T ps) st):=GM _
@[simp] theorem AK0(T:TypeId)(n:Nat)(ps:List (Nat×Operand)):DF P E d (.buildS T n ps) st=nw (C3 P E d (.buildS T n ps) st):=GM _
@[simp] theorem AYP(op:Op):DF P E d (.oth op) st=nw (C3 P E d (.oth op) st):=GM _
@[simp] theorem AN7(T:TypeId):DF P E d (.alloc T) st=nw (C3 P E d (.alloc T) st):=GM _
@[simp] theorem AYQ(x:Operand):DF P E d (.box x) st=nw (C3 P E d (.box x) st):=GM _
@[simp] theorem AYR(x:Option Operand):DF P E d (.mkM x) st=nw (C3 P E d (.mkM x) st):=GM _
@[simp] theorem AYS(T:TypeId)(x y:Operand):DF P E d (.mkS T x y) st=nw (C3 P E d (.mkS T x y) st):=GM _
def wp(p:AN):Option XS→Option (XS×AN)
 |some st=>some (st,p)
 |none=>none
@[simp] theorem BBZ(p:AN):wp p (some st)=some (st,p):=rfl
@[simp] theorem BB0(p:AN):wp p none=none:=rfl
@[simp] theorem BG7(p:AN)(c:Prop)[Decidable c](x y:Option XS):wp p (if c then x else y)=if c then wp p x else wp p y:=by split<;>rfl
@[simp] theorem AYT(T:TypeId)(x y:Operand):DF P E d (.sto T x y) st=wp (CB (Nat.beq (P.cellsOf T) 1) (CM st.fr x)) (C3 P E d (.sto T x y) st):=by show(match I6 P d T x y st with|some st'=>some (st',CB (Nat.beq (P.cellsOf T) 1) (CM st.fr x))|none=>none)=wp _ (I6 P d T x y st);cases I6 P d T x y st<;>rfl
@[simp] theorem A7X(x:Option V):BV false x=BK x:=by cases x<;>rfl
@[simp] theorem ATP(l k g o:Nat):BV true (some (.ptr l k g o))=[(l,k+2000000),(l,k+4000000),(l,6000000+1000*k+o)]:=rfl
@[simp] theorem AN8(l k g i o:Nat):BV true (some (.eptr l k g i o))=[(l,k+2000000),(l,k+4000000),(l,6000000+1000*k+o)]:=rfl
@[simp] theorem ATQ(b:Bool)(cs:List V):BV b (some (.ref cs))=[]:=by cases b<;>rfl
@[simp] theorem ATR(l k g o:Nat):CB true (some (.ptr l k g o))=[(l,k),(l,6000000+1000*k+o)]:=rfl
@[simp] theorem AN9(l k g i o:Nat):CB true (some (.eptr l k g i o))=[(l,k),(l,6000000+1000*k+o)]:=rfl
@[simp] theorem AOA(l k g o:Nat):CB false (some (.ptr l k g o))=[(l,k),(l,k+4000000)]:=rfl
@[simp] theorem AK1(l k g i o:Nat):CB false (some (.eptr l k g i o))=[(l,k),(l,k+4000000)]:=rfl
@[simp] theorem AOB(l k g o:Nat):BK (some (.ptr l k g o))=[(l,k)]:=rfl
@[simp] theorem AK2(l k g i o:Nat):BK (some (.eptr l k g i o))=[(l,k)]:=rfl
@[simp] theorem AOC(cs:List V):BK (some (.ref cs))=[]:=rfl
@[simp] theorem ATS(l k g o:Nat):J3 (some (.ptr l k g o))=[]:=rfl
@[simp] theorem ATT(l k g n:Nat):J3 (some (.vec l k g n))=[(l,k+HV)]:=rfl
@[simp] theorem AOD(b:Bool)(es:List (List V)):J3 (some (.list b es))=[]:=rfl
@[simp] theorem ATU(cs:List V):J3 (some (.ref cs))=[]:=rfl
noncomputable def c01(E:XE)(d:Option Tmp)(st:XS):Option V→Option (List V)→Option XS
 |some (.fn f first cap),some vs=>DE d st (E.c0 f ((first++vs++cap).map weakV))
 |_,_=>none
@[simp] theorem ATV(f:FuncId)(first cap vs:List V):c01 E d st (some (.fn f first cap)) (some vs)=DE d st (E.c0 f ((first++vs++cap).map weakV)):=rfl
@[simp] theorem ATW(t:Option Tmp)(f:Operand)(args:List Operand):DF P E d (.call false t f args) ⟨c,fr,s⟩=nw (c01 E d ⟨c,fr,s⟩ (CM fr f) (FQ (CM fr) args)):=by
 show T1 (Z8 E.c0 d f args ⟨c,fr,s⟩)=_;rw[GM];congr 1;unfold Z8;cases hf:CM fr f with
 |none=>simp only[c01]
 |some v=>
  cases v with
  |fn g first cap=>
   simp only
   cases hm:FQ (CM fr) args with
   |none=>simp only[c01]
   |some vs=>
    simp only[ATV]
    cases E.c0 g ((first++vs++cap).map weakV)<;>rfl
  |_=>simp only[c01]
@[simp] theorem BG8{A:Ann}{kn:CF0}{n:Nat}:(BN P A kn n).c0=FR P kn (AE P A kn n):=rfl
end
theorem rY{A:Ann}{kn:CF0}{n N:Nat}(a b:Code):mF (AE P A kn n N) a b st (some (.bool true))=AE P A kn n N a st:=rfl
theorem nM{A:Ann}{kn:CF0}{n N:Nat}(a b:Code):mF (AE P A kn n N) a b st (some (.bool false))=AE P A kn n N b st:=rfl
attribute [simp] AFD rV zH AFB zD rT zE zF zG AFC rU nI AFE zI AFF cN rW nJ rX rY nM AFH
end Go.Pg
namespace Go.Pg
variable {P:Program}{E:XE}{st:XS}{fr:Fr}{s:St}
@[simp] theorem ATX(k:IntKind)(n:Int):A9 (.int k n)=[.int k n]:=rfl
@[simp] theorem AOE(b:Bool):A9 (.bool b)=[.bool b]:=rfl
@[simp] theorem ATY(cs:List V):A9 (.agg cs)=cs:=rfl
@[simp] theorem AOF(b:Bool)(es:List (List V)):A9 (.list b es)=[.list b es]:=rfl
@[simp] theorem ATZ:A9 .nil=[.nil]:=rfl
@[simp] theorem AT0(l k g n:Nat):A9 (.vec l k g n)=[.vec l k g n]:=rfl
@[simp] theorem AYU(l k g:Nat):A9 (.mp l k g)=[.mp l k g]:=rfl
@[simp] theorem AYV(f:FuncId)(x y:List V):A9 (.fn f x y)=[.fn f x y]:=rfl
@[simp] theorem AT1(l k g n:Nat):A9 (.ptr l k g n)=[.ptr l k g n]:=rfl
@[simp] theorem AT2(cs:List V):A9 (.ref cs)=[.ref cs]:=rfl
@[simp] theorem AT3(k:IntKind)(n:Int):BA (.int k n)=true:=rfl
@[simp] theorem AOG(b:Bool):BA (.bool b)=true:=rfl
@[simp] theorem AT4(cs:List V):BA (.agg cs)=true:=rfl
@[simp] theorem AOH(b:Bool)(es:List (List V)):BA (.list b es)=true:=rfl
@[simp] theorem AT5:BA .nil=true:=rfl
@[simp] theorem AT6(l k g n:Nat):BA (.vec l k g n)=true:=rfl
@[simp] theorem AYW(l k g:Nat):BA (.mp l k g)=true:=rfl
@[simp] theorem AYX(f:FuncId)(x y:List V):BA (.fn f x y)=true:=rfl
@[simp] theorem AT7(l k g n:Nat):BA (.ptr l k g n)=true:=rfl
@[simp] theorem AT8(cs:List V):BA (.ref cs)=true:=rfl
@[simp] theorem AYY(op:BinOp)(T:TypeId)(k j:IntKind)(a b:Int):G8 P op T (.int k a) (.int j b)=if k=j then EX op k a b else YW op k a b:=rfl
@[simp] theorem A7Z(k:IntKind)(a b:Int):YW .shl k a b=if b<0 then none else some (.int k (k.wrap (a*2 ^ (min b.toNat k.bits)))):=rfl
@[simp] theorem UF(k:IntKind)(a b:Int):YW .shr k a b=if b<0 then none else some (.int k (a.fdiv (2 ^ (min b.toNat k.bits)))):=rfl
section
variable (k:IntKind)(a b:Int)
@[simp] theorem AYZ:EX .add k a b=some (.int k (k.wrap (a+b))):=rfl
@[simp] theorem AY0:EX .sub k a b=some (.int k (k.wrap (a-b))):=rfl
@[simp] theorem AY1:EX .mul k a b=some (.int k (k.wrap (a*b))):=rfl
@[simp] theorem AY2:EX .quo k a b=if b=0 then none else some (.int k (k.wrap (a.tdiv b))):=rfl
@[simp] theorem AY3:EX .rem k a b=if b=0 then none else some (.int k (a.tmod b)):=rfl
@[simp] theorem AY4:EX .and k a b=some (.int k (k.wrap (BitVec.ofInt k.bits a &&& BitVec.ofInt k.bits b).toNat)):=rfl
@[simp] theorem A70:EX .or k a b=some (.int k (k.wrap (BitVec.ofInt k.bits a ||| BitVec.ofInt k.bits b).toNat)):=rfl
@[simp] theorem AK3:EX .andNot k a b=some (.int k (k.wrap (BitVec.ofInt k.bits a &&& ~~~ BitVec.ofInt k.bits b).toNat)):=rfl
@[simp] theorem AY5:EX .shl k a b=if b<0 then none else some (.int k (k.wrap (a*2 ^ (min b.toNat k.bits)))):=rfl
@[simp] theorem AY6:EX .shr k a b=if b<0 then none else some (.int k (a.fdiv (2 ^ (min b.toNat k.bits)))):=rfl
@[simp] theorem AY7:EX .eql k a b=some (.bool (decide (a=b))):=by show some (V.bool (a==b))=_;congr 2
@[simp] theorem AY8:EX .neq k a b=some (.bool (!decide (a=b))):=by show some (V.bool (a != b))=_;congr 2
@[simp] theorem AY9:EX .lss k a b=some (.bool (decide (a<b))):=rfl
@[simp] theorem AZA:EX .leq k a b=some (.bool (decide (a≤b))):=rfl
@[simp] theorem AZB:EX .gtr k a b=some (.bool (decide (b<a))):=rfl
@[simp] theorem AZC:EX .geq k a b=some (.bool (decide (b≤a))):=rfl
end
theorem AV{x:Int}(h1:-9223372036854775808≤x)(h2:x<9223372036854775808):IntKind.i64.wrap x=x:=by simp only[IntKind.wrap,IntKind.bits,IntKind.signed];simp;omega
@[simp] theorem AOI(T:TypeId)(a b:Bool):G8 P .eql T (.bool a) (.bool b)=if tZ P T=true then some (.bool (a==b)) else none:=rfl
@[simp] theorem AOJ(T:TypeId)(a b:Bool):G8 P .neq T (.bool a) (.bool b)=if tZ P T=true then some (.bool (a != b)) else none:=rfl
def bl1(f:Bool→Bool):Option Bool→Option V
 |some b=>some (.bool (f b))
 |none=>none
@[simp] theorem A71(f:Bool→Bool)(b:Bool):bl1 f (some b)=some (.bool (f b)):=rfl
@[simp] theorem AT9(T:TypeId)(cs ds:List V):G8 P .eql T (.agg cs) (.agg ds)=bl1 (fun b=>b) (OH P T cs ds):=by show(OH P T cs ds).map V.bool=_;cases OH P T cs ds<;>rfl
@[simp] theorem AUA(T:TypeId)(cs ds:List V):G8 P .neq T (.agg cs) (.agg ds)=bl1 (fun b=>!b) (OH P T cs ds):=by show(OH P T cs ds).map (fun b=>V.bool !b)=_;cases OH P T cs ds<;>rfl
def faP(P:Program)(x:V):Option (TypeId×Nat)→Option V
 |some (U,off)=>if P.cellsOf U=0 then none else match x with
  |.ref cs=>some (.ref (cs.drop off))
  |.ptr l k g o=>some (.ptr l k g (o+off))
  |.eptr l k g i o=>some (.eptr l k g i (o+off))
  |_=>none
 |none=>none
@[simp] theorem BB1(T:TypeId)(x:V)(f:Nat):C7 P T x f=faP P x (A1 P T f):=by unfold C7 faP;cases A1 P T f<;>rfl
@[simp] theorem BB2(U:TypeId)(off:Nat)(cs:List V):faP P (.ref cs) (some (U,off))=if P.cellsOf U=0 then none else some (.ref (cs.drop off)):=rfl
@[simp] theorem BB3(U:TypeId)(off l k g o:Nat):faP P (.ptr l k g o) (some (U,off))=if P.cellsOf U=0 then none else some (.ptr l k g (o+off)):=rfl
@[simp] theorem A73(U:TypeId)(off l k g i o:Nat):faP P (.eptr l k g i o) (some (U,off))=if P.cellsOf U=0 then none else some (.eptr l k g i (o+off)):=rfl
def fd1(P:Program)(x:V):Option (TypeId×Nat)→Option V
 |some (U,off)=>match x with
  |.agg cs=>M8 P U cs off
  |_=>none
 |none=>none
@[simp] theorem AUB(T:TypeId)(x:V)(f:Nat):IF P T x f=fd1 P x (A1 P T f):=by unfold IF fd1;cases x<;>cases A1 P T f<;>rfl
@[simp] theorem BB4(U:TypeId)(off:Nat)(cs:List V):fd1 P (.agg cs) (some (U,off))=M8 P U cs off:=rfl
def cb(g off:Nat):Option (Nat×AZ)→Option (List V)
 |some (g',.box cs)=>if g'=g then some (cs.drop off) else none
 |_=>none
@[simp] theorem BB5(g g' off:Nat)(cs:List V):cb g off (some (g',.box cs))=if g'=g then some (cs.drop off) else none:=rfl
def ce(g i off:Nat):Option (Nat×AZ)→Option (List V)
 |some (g',.vec _ es)=>if g'=g then(es[i]?).map (·.drop off) else none
 |_=>none
@[simp] theorem BB6(g g' i off:Nat)(T:TypeId)(es:List (List V)):ce g i off (some (g',.vec T es))=if g'=g then(es[i]?).map (·.drop off) else none:=rfl
@[simp] theorem AOK(cs:List V):A8 s (.ref cs)=some cs:=rfl
@[simp] theorem AOL(l k g off:Nat):A8 s (.ptr l k g off)=cb g off (s.get l k):=by
 unfold cb;simp only[A8];cases s.get l k with
 |none=>rfl
 |some z=>obtain⟨g',r⟩:=z;cases r<;>rfl
@[simp] theorem AK4(l k g i off:Nat):A8 s (.eptr l k g i off)=ce g i off (s.get l k):=by
 unfold ce;simp only[A8];cases s.get l k with
 |none=>rfl
 |some z=>obtain⟨g',r⟩:=z;cases r<;>rfl
def iv(P:Program)(e:TypeId)(l k g n:Nat)(j:Int):Option (Nat×AZ)→Option V
 |some (g',.vec _ es)=>if g'=g∧0≤j∧j<n∧n≤es.length∧(es.getD j.toNat []).length=P.cellsOf e∧0<P.cellsOf e then some (.eptr l k g j.toNat 0) else none
 |_=>none
@[simp] theorem BB7(e:TypeId)(l k g g' n:Nat)(j:Int)(T:TypeId)(es:List (List V)):iv P e l k g n j (some (g',.vec T es))=if g'=g∧0≤j∧j<n∧n≤es.length∧(es.getD j.toNat []).length=P.cellsOf e∧0<P.cellsOf e then some (.eptr l k g j.toNat 0) else none:=rfl
def ia(P:Program)(s:St)(x i:V):Option (Option Nat×TypeId)→Option V
 |some (none,e)=>match x,i with
  |.list _ es,.int _ j=>if 0≤j∧j<es.length∧(es.getD j.toNat []).length=P.cellsOf e∧0<P.cellsOf e then some (.ref (es.getD j.toNat [])) else none
  |.vec l k g n,.int _ j=>iv P e l k g n j (s.get l k)
  |_,_=>none
 |some (some n,e)=>match x,i with
  |.ref cs,.int _ j=>if 0≤j∧j<n∧0<P.cellsOf e then some (.ref (cs.drop (j.toNat*P.cellsOf e))) else none
  |.ptr l k g o,.int _ j=>if 0≤j∧j<n∧0<P.cellsOf e then some (.ptr l k g (o+j.toNat*P.cellsOf e)) else none
  |.eptr l k g i' o,.int _ j=>if 0≤j∧j<n∧0<P.cellsOf e then some (.eptr l k g i' (o+j.toNat*P.cellsOf e)) else none
  |_,_=>none
 |none=>none
@[simp] theorem BB8(T:TypeId)(x i:V):BS P s T x i=ia P s x i (BQ P T):=by
 unfold BS ia;cases BQ P T with
 |none=>rfl
 |some z=>
  obtain⟨n,e⟩:=z
  cases n with
  |some n=>cases x<;>cases i<;>rfl
  |none=>
   cases x with
   |vec l k g n=>
    cases i with
    |int q j=>
     simp only[iv]
     cases s.get l k with
     |none=>rfl
     |some z=>obtain⟨g',r⟩:=z;cases r<;>rfl
    |_=>rfl
   |_=>cases i<;>rfl
@[simp] theorem BB9(e:TypeId)(b:Bool)(es:List (List V))(k:IntKind)(j:Int):ia P s (.list b es) (.int k j) (some (none,e))=if 0≤j∧j<es.length∧(es.getD j.toNat []).length=P.cellsOf e∧0<P.cellsOf e then some (.ref (es.getD j.toNat [])) else none:=rfl
@[simp] theorem BHB(e:TypeId)(l q g n:Nat)(k:IntKind)(j:Int):ia P s (.vec l q g n) (.int k j) (some (none,e))=iv P e l q g n j (s.get l q):=rfl
@[simp] theorem BHC(n:Nat)(e:TypeId)(cs:List V)(k:IntKind)(j:Int):ia P s (.ref cs) (.int k j) (some (some n,e))=if 0≤j∧j<n∧0<P.cellsOf e then some (.ref (cs.drop (j.toNat*P.cellsOf e))) else none:=rfl
@[simp] theorem BHD(n:Nat)(e:TypeId)(l q g o:Nat)(k:IntKind)(j:Int):ia P s (.ptr l q g o) (.int k j) (some (some n,e))=if 0≤j∧j<n∧0<P.cellsOf e then some (.ptr l q g (o+j.toNat*P.cellsOf e)) else none:=rfl
@[simp] theorem BCA(n:Nat)(e:TypeId)(l q g i o:Nat)(k:IntKind)(j:Int):ia P s (.eptr l q g i o) (.int k j) (some (some n,e))=if 0≤j∧j<n∧0<P.cellsOf e then some (.eptr l q g i (o+j.toNat*P.cellsOf e)) else none:=rfl
def ix(P:Program)(x i:V):Option (Option Nat×TypeId)→Option V
 |some (some n,e)=>match x,i with
  |.agg cs,.int _ j=>if 0≤j∧j<n∧0<P.cellsOf e then M8 P e cs (j.toNat*P.cellsOf e) else none
  |_,_=>none
 |_=>none
@[simp] theorem AUC(T:TypeId)(x i:V):JC P T x i=ix P x i (BQ P T):=by
 unfold JC ix;cases BQ P T with
 |none=>rfl
 |some z=>obtain⟨n,e⟩:=z;cases n<;>cases x<;>cases i<;>rfl
@[simp] theorem BHE(n:Nat)(e:TypeId)(cs:List V)(k:IntKind)(j:Int):ix P (.agg cs) (.int k j) (some (some n,e))=if 0≤j∧j<n∧0<P.cellsOf e then M8 P e cs (j.toNat*P.cellsOf e) else none:=rfl
theorem PD{T:TypeId}(h:DO P T=true):∃e,P.underlying T=some (.slice e):=by
 unfold DO at h;split at h
 ·rename_i e he;exact⟨e,he⟩
 ·cases h
@[simp] theorem rZ{T:TypeId}(h:DO P T=true)(b:Bool)(es:List (List V)):HX P T (.list b es)=some (.int .i64 es.length):=by obtain⟨e,he⟩:=PD h;simp[HX,he]
@[simp] theorem AZD{T:TypeId}(h:DO P T=true)(l k g n:Nat):HX P T (.vec l k g n)=some (.int .i64 n):=by obtain⟨e,he⟩:=PD h;simp[HX,he]
@[simp] theorem zL{T:TypeId}(h:DO P T=true):HX P T .nil=some (.int .i64 0):=by obtain⟨e,he⟩:=PD h;simp[HX,he]
def fv(place:Nat→Option (Nat×Nat))(cs:List V)(v:V)(rest:List (Nat×V)):Option (Nat×Nat)→Option (List V)
 |none=>none
 |some (off,size)=>if (A9 v).length=size∧off+(A9 v).length≤cs.length then CZ place (A4 cs off (A9 v)) rest else none
@[simp] theorem AZE(place:Nat→Option (Nat×Nat))(cs:List V):CZ place cs []=some cs:=rfl
@[simp] theorem AUD(place:Nat→Option (Nat×Nat))(cs:List V)(i:Nat)(v:V)(rest:List (Nat×V)):CZ place cs ((i,v)::rest)=fv place cs v rest (place i):=by simp only[CZ];unfold fv;cases place i<;>rfl
@[simp] theorem BCB(place:Nat→Option (Nat×Nat))(cs:List V)(v:V)(rest:List (Nat×V))(off size:Nat):fv place cs v rest (some (off,size))=if (A9 v).length=size∧off+(A9 v).length≤cs.length then CZ place (A4 cs off (A9 v)) rest else none:=rfl
attribute [simp] A4
@[simp] theorem AOM(size:Nat)(cs:List V):CQ size cs 0=[]:=rfl
@[simp] theorem AON(size:Nat)(cs:List V)(n:Nat):CQ size cs (n+1)=cs.take size::CQ size (cs.drop size) n:=rfl
def ch1(size len:Nat):Option (List V)→Option V
 |some cs=>some (.list true (CQ size cs len))
 |none=>none
@[simp] theorem A74(size len:Nat)(cs:List V):ch1 size len (some cs)=some (.list true (CQ size cs len)):=rfl
def bsz(P:Program)(e:TypeId)(len:Nat)(parts:List (Nat×V)):Option (List V)→Option V
 |some z=>if (parts.all fun p=>BA p.2)=true∧z.length=P.cellsOf e∧0<P.cellsOf e∧len*P.cellsOf e≤2 ^ 24 then
   ch1 (P.cellsOf e) len (CZ (fun i=>some (i*P.cellsOf e,P.cellsOf e)) (List.replicate len z).flatten parts) else none
 |none=>none
@[simp] theorem A75(e:TypeId)(len:Nat)(parts:List (Nat×V))(z:List V):bsz P e len parts (some z)=if (parts.all fun p=>BA p.2)=true∧z.length=P.cellsOf e∧0<P.cellsOf e∧len*P.cellsOf e≤2 ^ 24 then
   ch1 (P.cellsOf e) len (CZ (fun i=>some (i*P.cellsOf e,P.cellsOf e)) (List.replicate len z).flatten parts) else none:=rfl
def bsl(P:Program)(len:Nat)(parts:List (Nat×V)):Option (Option Nat×TypeId)→Option V
 |some (none,e)=>bsz P e len parts (BW P e)
 |_=>none
@[simp] theorem A76(e:TypeId)(len:Nat)(parts:List (Nat×V)):bsl P len parts (some (none,e))=bsz P e len parts (BW P e):=rfl
@[simp] theorem BCD(T:TypeId)(len:Nat)(parts:List (Nat×V)):B8 P T len parts=bsl P len parts (BQ P T):=by
 unfold B8 bsl;cases BQ P T with
 |none=>rfl
 |some z=>
  obtain⟨n,e⟩:=z
  cases n with
  |some n=>rfl
  |none=>
   simp only[bsz]
   cases BW P e with
   |none=>rfl
   |some z=>
    simp only
    split
    ·cases CZ (fun i=>some (i*P.cellsOf e,P.cellsOf e)) (List.replicate len z).flatten parts<;>rfl
    ·rfl
def fn2(f:FuncId):Option (List V)→Option (List V)→Option V
 |some a,some b=>some (.fn f a b)
 |_,_=>none
@[simp] theorem A77(f:FuncId)(a b:List V):fn2 f (some a) (some b)=some (.fn f a b):=rfl
@[simp] theorem BHH(f:FuncId)(x y:Array Operand)(r:Operand→Option V):IQ P (eP (.makeFunc (.func f) x y)) s r=fn2 f (FQ r x.toList) (FQ r y.toList):=by show((x.toList.mapM r).bind fun a=>(y.toList.mapM r).bind fun b=>some (V.fn f a b))=_;rw[←KZ,←KZ];cases FQ r x.toList<;>cases FQ r y.toList<;>rfl
@[simp] theorem BCF(x y:Operand)(Ts:Array TypeId)(r:Operand→Option V):IQ P (eP (.call ⟨.builtin .max,#[x,y],Ts⟩)) s r=o2 TD (r x) (r y):=iH _ _ _
@[simp] theorem BCG(x y:Operand)(Ts:Array TypeId)(r:Operand→Option V):IQ P (eP (.call ⟨.builtin .min,#[x,y],Ts⟩)) s r=o2 TE (r x) (r y):=iH _ _ _
@[simp] theorem AZF(k j:IntKind)(m n:Int):TD (.int k m) (.int j n)=if k=j then some (.int k (if n>m then n else m)) else none:=rfl
@[simp] theorem AZG(k j:IntKind)(m n:Int):TE (.int k m) (.int j n)=if k=j then some (.int k (if n<m then n else m)) else none:=rfl
theorem CH{e:TypeId}{n:Nat}{ys:List (List V)}(hc:0<P.cellsOf e)(hz:WO P e=true):CA P e n ys=true↔(ys.all (fun y=>y.length==P.cellsOf e)=true∧n+ys.length≤maxLen∧(n+ys.length)*P.bytesOf e≤140737488355328):=by simp[CA,hc,hz,and_assoc]
end Go.Pg
namespace Go.Pg
variable {P:Program}{E:XE}{st:XS}{fr:Fr}{s:St}
theorem AQ{P:Program}{kn:CF0}{rec:GL}{f:FuncId}{args:List V}(h:kn f args=none):AW P kn rec f args=E4 P rec f args:=by unfold AW;rw[h]
def pv(k γ:Nat):List (List V)→V
 |[]=>.nil
 |e::es=>.vec 0 k γ (e::es).length
def pl(k γ:Nat)(T:TypeId):List (List V)→AA
 |[]=>[]
 |e::es=>[(k,γ,.vec T (e::es))]
def sl:List (List V)→V
 |[]=>.nil
 |e::es=>.list false (e::es)
@[simp] theorem BHI(k γ:Nat):pv k γ []=.nil:=rfl
@[simp] theorem BHJ(k γ:Nat)(T:TypeId):pl k γ T []=[]:=rfl
@[simp] theorem BCH(k γ:Nat)(T:TypeId)(es:List (List V))(y:List V)(ys:List (List V)):pl k γ T (es++y::ys)=[(k,γ,.vec T (es++y::ys))]:=by cases es<;>rfl
@[simp] theorem BCI(k γ:Nat)(T:TypeId)(y:List V)(ys:List (List V)):pl k γ T (y::ys)=[(k,γ,.vec T (y::ys))]:=rfl
@[simp] theorem BK6(k γ:Nat)(T:TypeId)(es:List (List V)):kl k [] ((pl k γ T es).get k)=pl k γ T es:=by
 cases es with
 |nil=>rfl
 |cons e es=>simp
@[simp] theorem A78{k j:Nat}(γ:Nat)(T:TypeId)(es:List (List V))(h:j≠k):(pl k γ T es).get j=none:=by
 cases es with
 |nil=>rfl
 |cons e es=>simp[h]
@[simp] theorem AUE(e k c γ:Nat)(loc:AA)(es:List (List V))(y:List V)(ys:List (List V))(hl:AA.get loc k=(pl k γ e es).get k)(h1:es.all (fun y=>y.length==P.cellsOf e)=true)(h2:CA P e es.length (y::ys)=true) :
  apV P e k c fr ⟨[],loc⟩ (pv k γ es) (y::ys)=some ⟨c+1,(k,true,pv k c (es++y::ys))::fr,⟨[],(k,c,.vec e (es++y::ys))::loc⟩⟩:=by
 cases es with
 |nil=>
  simp only[List.length_nil]at h2
  simp[h2,pv]
 |cons z es=>
  have hl:AA.get loc k=some (γ,.vec e (z::es)):=by rw[hl];simp
  simp only[pv,AKW,AFO,List.length_nil,if_true,hl,nK,UY,UC,true_and,h1,h2]
  simp[Nat.add_comm,Nat.add_left_comm]
theorem P2{T:TypeId}(f:Nat)(loc:AA)(k γ:Nat)(es:List (List V))(hl:AA.get loc k=(pl k γ T es).get k):A2 ⟨[],loc⟩ (f+1) (pv k γ es)=some (sl es):=by
 cases es with
 |nil=>rfl
 |cons z es=>
  have hl:AA.get loc k=some (γ,.vec T (z::es)):=by rw[hl];simp
  simp only[pv,bG,List.length_nil,if_true,hl,AFP,sl]
  simp
@[simp] theorem AZH(f k γ:Nat)(T:TypeId)(es:List (List V)):A2 ⟨[],pl k γ T es⟩ (f+1) (pv k γ es)=some (sl es):=P2 (T:=T) f _ k γ es rfl
@[simp] theorem A79{T:TypeId}(h:DO P T=true)(es:List (List V)):HX P T (sl es)=some (.int .i64 es.length):=by
 cases es with
 |nil=>exact zL h
 |cons e es=>exact rZ h _ _
@[simp] theorem BK7(e:TypeId)(es:List (List V))(k:IntKind)(j:Int):ia P s (sl es) (.int k j) (some (none,e))=if 0≤j∧j<es.length∧(es.getD j.toNat []).length=P.cellsOf e∧0<P.cellsOf e then some (.ref (es.getD j.toNat [])) else none:=by
 cases es with
 |nil=>
  rw[if_neg (by simp only[List.length_nil];omega)]
  rfl
 |cons z es=>rfl
@[simp] theorem eU(f:Nat)(es:List (List V)):AK (f+1) (sl es)=es.all fun e=>e.all (AK f):=by cases es<;>rfl
@[simp] theorem A8A(es:List (List V)):weakN (sl es)=.list false es:=by cases es<;>rfl
@[simp] theorem A8B(es:List (List V)):weakM (sl es)=.list false es:=by cases es<;>rfl
@[simp] theorem BCJ(es:List (List V)):weakV (sl es)=sl es:=by cases es<;>rfl
@[simp] theorem A8C(es:List (List V)):weakC (sl es)=sl es:=by cases es<;>rfl
@[simp] theorem AZI(es:List (List V)):A9 (sl es)=[sl es]:=by cases es<;>rfl
@[simp] theorem AZJ(es:List (List V)):BA (sl es)=true:=by cases es<;>rfl
@[simp] theorem AZK(k γ:Nat)(es:List (List V)):A9 (pv k γ es)=[pv k γ es]:=by cases es<;>rfl
@[simp] theorem AZL(k γ:Nat)(es:List (List V)):BA (pv k γ es)=true:=by cases es<;>rfl
@[simp] theorem AUF(es:List (List V)):elemsOf s (sl es)=some es:=by cases es<;>rfl
@[simp] theorem AZM(f:Nat)(es:List (List V)):A2 s (f+1) (sl es)=some (sl es):=by cases es<;>rfl
@[simp] theorem AZN(es:List (List V)):EC (some (sl es))=[]:=by cases es<;>rfl
@[simp] theorem AZO(es:List (List V)):J3 (some (sl es))=[]:=by cases es<;>rfl
noncomputable def zM(P:Program)(e:TypeId)(d c:Nat)(fr:Fr)(s:St)(xv:V)(ys:List (List V)):Option (XS×AN):=match IV xv ys with
 |some es=>if es.all (fun y=>y.length==P.cellsOf e)=true∧CA P e es.length ys=true then some (⟨c+1,(d,true,.vec s.up.length d c (es.length+ys.length))::fr,s.put s.up.length d c (.vec e (es++ys))⟩,[(s.up.length,d),(s.up.length,d+HV)]) else none
 |none=>match xv with
  |.vec l q γ n=>wp [(l,q),(l,q+HV)] (apW P e d c fr s l q γ n ys (Q2 n ys (s.get l q)))
  |_=>none
noncomputable def ad4(P:Program)(e:TypeId)(d c:Nat)(fr:Fr)(s:St)(xv:V):Option (List (List V))→Option (XS×AN)
 |some ys=>zM P e d c fr s xv ys
 |none=>none
@[simp] theorem AFQ(e:TypeId)(d c:Nat)(xv:V)(ys:List (List V)):ad4 P e d c fr s xv (some ys)=zM P e d c fr s xv ys:=rfl
noncomputable def ad3(P:Program)(d c:Nat)(fr:Fr)(s:St):Option (Option Nat×TypeId)→Option V→Option V→Option (XS×AN)
 |some (none,e),some xv,some yv=>ad4 P e d c fr s xv (elemsOf s yv)
 |_,_,_=>none
@[simp] theorem AFR(d c:Nat)(e:TypeId)(xv yv:V):ad3 P d c fr s (some (none,e)) (some xv) (some yv)=ad4 P e d c fr s xv (elemsOf s yv):=rfl
@[simp] theorem AOO(b:Bool)(es:List (List V)):pM (.list b es)=some es:=rfl
@[simp] theorem AUG:pM .nil=some []:=rfl
@[simp] theorem AZP(es:List (List V)):pM (sl es)=some es:=by cases es<;>rfl
@[simp] theorem AZQ(d:Tmp)(c:Nat)(x y:Operand)(T:TypeId):DF P E (some d) (.app [x,y] [T,T]) ⟨c,fr,s⟩=ad3 P d c fr s (BQ P T) (CM fr x) (CM fr y):=by
 show xAppD P (some d) [x,y] [T,T] _=_;unfold xAppD xAppG;simp only[Nat.beq_refl];cases hT:BQ P T with
 |none=>cases CM fr x<;>cases CM fr y<;>rfl
 |some p=>
  obtain⟨k,e⟩:=p
  cases k with
  |some k=>cases CM fr x<;>cases CM fr y<;>rfl
  |none=>
   cases CM fr x with
   |none=>rfl
   |some xv=>
    cases CM fr y with
    |none=>rfl
    |some yv=>
     simp only[AFR]
     cases elemsOf s yv with
     |none=>rfl
     |some ys=>
      simp only[AFQ,zM]
      cases IV xv ys with
      |some es=>
       simp only[ifB,Bool.and_eq_true,List.length_append]
       by_cases hC:es.all (fun y=>y.length==P.cellsOf e)=true∧CA P e es.length ys=true
       ·rw[if_pos hC,if_pos hC]
       ·rw[if_neg hC,if_neg hC]
      |none=>
       simp only
       unfold lZ
       cases xv with
       |vec l q γ n=>
        simp only
        cases Q2 n ys (s.get l q)with
        |none=>rfl
        |some z=>
         obtain⟨γ',r⟩:=z
         cases r with
         |vec W es=>
          simp only[ifB,Bool.and_eq_true,List.length_append,UC,Nat.beq_eq,and_assoc]
          by_cases hC:γ'=γ∧W=e∧n=es.length∧es.all (fun y=>y.length==P.cellsOf e)=true∧CA P e es.length ys=true
          ·rw[if_pos hC,if_pos hC];rfl
          ·rw[if_neg hC,if_neg hC];rfl
         |_=>rfl
       |_=>rfl
@[simp] theorem BHL(e k c γ:Nat)(loc:AA)(es:List (List V))(y:List V)(ys:List (List V))(hl:AA.get loc k=(pl k γ e es).get k)(h1:es.all (fun y=>y.length==P.cellsOf e)=true)(h2:CA P e es.length (y::ys)=true) :
  zM P e k c fr ⟨[],loc⟩ (pv k γ es) (y::ys)=some (⟨c+1,(k,true,pv k c (es++y::ys))::fr,⟨[],(k,c,.vec e (es++y::ys))::loc⟩⟩,[(0,k),(0,k+HV)]):=by
 cases es with
 |nil=>
  simp only[List.length_nil]at h2
  simp[zM,IV,h2,pv]
 |cons z es=>
  have hl:AA.get loc k=some (γ,.vec e (z::es)):=by rw[hl];simp
  simp only[pv,zM,IV,AFO,List.length_nil,if_true,hl,nK,UY,UC,true_and,h1,h2]
  simp[Nat.add_comm,Nat.add_left_comm]
end Go.Pg
namespace Go.Pg
variable {P:Program}{E:XE}{st:XS}{fr:Fr}{s:St}
theorem sA{α:Type}(x:α):CX [x]=some ([],x):=rfl
def un1{α:Type}(x:α):Option (List α×α)→Option (List α×α)
 |some (a,b)=>some (x::a,b)
 |none=>none
@[simp] theorem A8D{α:Type}(x:α)(a:List α)(b:α):un1 x (some (a,b))=some (x::a,b):=rfl
theorem WL{α:Type}(x y:α)(l:List α):CX (x::y::l)=un1 x (CX (y::l)):=by simp only[CX];unfold un1;cases CX (y::l)<;>rfl
attribute [simp] sA WL
noncomputable def sB(d:Option Tmp)(fr:Fr)(c:Nat)(r:V):Option (List AA×AA)→Option XS
 |some (u,l)=>some ⟨c,putD fr d true r,⟨u,l⟩⟩
 |none=>none
@[simp] theorem AZR(d:Tmp)(c:Nat)(r:V)(u:List AA)(l:AA):sB (some d) fr c r (some (u,l))=some ⟨c,(d,true,r)::fr,⟨u,l⟩⟩:=rfl
@[simp] theorem BCK(c:Nat)(r:V)(u:List AA)(l:AA):sB none fr c r (some (u,l))=some ⟨c,fr,⟨u,l⟩⟩:=rfl
noncomputable def nN(d:Option Tmp)(fr:Fr)(st:XS):Option V→Option XS
 |some r=>sB d fr st.c r (CX (st.s.up.map (AL st.s)))
 |none=>none
@[simp] theorem AZS(d:Option Tmp)(c:Nat)(fr':Fr)(up:List AA)(loc:AA)(r:V):nN d fr ⟨c,fr',⟨up,loc⟩⟩ (some r)=sB d fr c r (CX (up.map (AL ⟨up,loc⟩))):=rfl
noncomputable def clX(s:St):Option V→Option V
 |some r=>A2 s 4 r
 |none=>none
@[simp] theorem A8E(r:V):clX s (some r)=A2 s 4 r:=rfl
noncomputable def nO(P:Program)(d:Option Tmp)(fr:Fr)(rs:List ResultVar)(r:Option (Exit×XS)):Option XS:=match r with
 |some (.ret,st)=>nN d fr st (clX st.s (F7 P rs st.fr st.s))
 |some (.normal,st)=>nN d fr st (clX st.s (F7 P rs st.fr st.s))
 |_=>none
@[simp] theorem AFS(d:Option Tmp)(rs:List ResultVar):nO P d fr rs (some (.ret,st))=nN d fr st (clX st.s (F7 P rs st.fr st.s)):=rfl
@[simp] theorem nP(d:Option Tmp)(rs:List ResultVar):nO P d fr rs (some (.normal,st))=nN d fr st (clX st.s (F7 P rs st.fr st.s)):=rfl
theorem nQ{A:Ann}{kn:CF0}{n:Nat}{f:FuncId}{fn:Func}{code:Code}{args:List V}(hf:P.funcs[f]? = some fn)(hb:fn.body=some code)(hs:Nat.ble args.length fn.ntmps=true)(hcl:(args.all (AK 9)&&!(BE P f))=false)(d:Option Tmp)(c:Nat)(fr:Fr)(up:List AA)(loc:AA) :
  G4 (BN P A kn n) d ⟨c,fr,⟨up,loc⟩⟩ f args=nO P d fr fn.results.toList (AE P A kn n fn.ntmps code ⟨c,AF 0 args,⟨up++[loc],[]⟩⟩):=by
 show(match aA P kn (AE P A kn n) f args ⟨c,fr,⟨up,loc⟩⟩ with
  |some (r,st')=>some (⟨st'.c,putD st'.fr d true r,st'.s⟩:XS)
  | none=>none)=_
 unfold aA
 rw[hcl]
 unfold dY WI uH
 rw[hf]
 simp only[hb,hs]
 generalize AE P A kn n fn.ntmps code ⟨c,AF 0 args,⟨up++[loc],[]⟩⟩=q
 have aux:∀st:XS,(match(match(match yF P fn.results.toList st with
   |some (r,c,up)=>match CX up with
    |some (u,l)=>some (r,(⟨c,fr,⟨u,l⟩⟩:XS))
    |none=>none
   | none=>none:Option (V×XS))with
   |some r=>some r
   | none=>none:Option (V×XS))with
  |some (r,st')=>some (⟨st'.c,putD st'.fr d true r,st'.s⟩:XS)
  | none=>none)=nN d fr st (clX st.s (F7 P fn.results.toList st.fr st.s)):=fun st=>by
  unfold yF clX
  cases F7 P fn.results.toList st.fr st.s with
  |none=>rfl
  |some r=>
   cases h:A2 st.s 4 r with
   |none=>simp[nN,h]
   |some r'=>
    simp only[h,nN]
    cases CX (st.s.up.map (AL st.s))with
    |none=>rfl
    |some z=>rfl
 cases q with
 |none=>rfl
 |some q=>
  obtain⟨e,st⟩:=q
  have:=aux st
  cases e with
  |ret=>simp only[AFS,←this];cases yF P fn.results.toList st with
   |none=>rfl
   |some z=>
    obtain⟨r,c,up⟩:=z
    simp only
    cases CX up<;>rfl
  |normal=>simp only[nP,←this];cases yF P fn.results.toList st with
   |none=>rfl
   |some z=>
    obtain⟨r,c,up⟩:=z
    simp only
    cases CX up<;>rfl
  |_=>rfl
theorem A7{A:Ann}{kn:CF0}{n:Nat}{f:FuncId}{fn:Func}{code:Code}{args:List V}(hf:P.funcs[f]? = some fn)(hb:fn.body=some code)(hs:Nat.ble args.length fn.ntmps=true)(hcl:args.all (AK 9)=false)(d:Option Tmp)(c:Nat)(fr:Fr)(up:List AA)(loc:AA) :
  G4 (BN P A kn n) d ⟨c,fr,⟨up,loc⟩⟩ f args=nO P d fr fn.results.toList (AE P A kn n fn.ntmps code ⟨c,AF 0 args,⟨up++[loc],[]⟩⟩) :=
 nQ hf hb hs (by rw[hcl,Bool.false_and]) d c fr up loc
theorem vO{A:Ann}{kn:CF0}{n:Nat}{f:FuncId}{fn:Func}{code:Code}{args:List V}(hf:P.funcs[f]? = some fn)(hb:fn.body=some code)(hs:Nat.ble args.length fn.ntmps=true)(hh:BE P f=true)(d:Option Tmp)(c:Nat)(fr:Fr)(up:List AA)(loc:AA) :
  G4 (BN P A kn n) d ⟨c,fr,⟨up,loc⟩⟩ f args=nO P d fr fn.results.toList (AE P A kn n fn.ntmps code ⟨c,AF 0 args,⟨up++[loc],[]⟩⟩) :=
 nQ hf hb hs (by rw[hh,Bool.not_true,Bool.and_false]) d c fr up loc
@[simp] theorem AUI(f l k g o:Nat):AK (f+1) (.ptr l k g o)=false:=rfl
@[simp] theorem AUJ(f l k g o:Nat):AK (f+1) (.vec l k g o)=false:=rfl
@[simp] theorem AZT(f l k g:Nat):AK (f+1) (.mp l k g)=false:=rfl
@[simp] theorem A8F(l k g o:Nat):weakV (.ptr l k g o)=.ptr l k g o:=rfl
@[simp] theorem A8G(l k g o:Nat):weakV (.vec l k g o)=.vec l k g o:=rfl
@[simp] theorem A8H(cs:List V):weakV (.ref cs)=.ref cs:=rfl
@[simp] theorem BHN(d c:Nat)(f:FuncId)(x y:List V):zJ d c fr s (some (.fn f x y))=some ⟨c+1,(d,true,.ptr s.up.length d c 0)::fr,s.put s.up.length d c (.box [.fn f x y])⟩:=rfl
@[simp] theorem BCL(d c:Nat)(l k g o:Nat):zJ d c fr s (some (.ptr l k g o))=some ⟨c+1,(d,true,.ptr s.up.length d c 0)::fr,s.put s.up.length d c (.box [.ptr l k g o])⟩:=rfl
@[simp] theorem BHO(d c:Nat)(es:List (List V)):zJ d c fr s (some (sl es))=some ⟨c+1,(d,true,.ptr s.up.length d c 0)::fr,s.put s.up.length d c (.box [sl es])⟩:=by cases es<;>rfl
@[simp] theorem C5:AL s []=[]:=rfl
@[simp] theorem A5(k g:Nat)(r:AZ)(L:AA):AL s ((k,g,r)::L)=(k,g,CJ s r)::AL s L:=rfl
def sr1(r:AZ):Option (List V)→AZ
 |some ds=>.box ds
 |none=>r
@[simp] theorem A8I(r:AZ)(ds:List V):sr1 r (some ds)=.box ds:=rfl
theorem FS(cs:List V):CJ s (.box cs)=sr1 (.box cs) (GV (BT s) cs):=by unfold CJ CG sr1;simp only;cases GV (BT s) cs<;>rfl
attribute [simp] FS
theorem sC(f:V→Option V):GV f []=some []:=rfl
theorem nR(f:V→Option V)(v:V)(l:List V):GV f (v::l)=mc2 (f v) (GV f l):=by
 simp only[GV];cases f v with
 |none=>rfl
 |some x=>cases GV f l<;>rfl
attribute [simp] sC nR
@[simp] theorem AOP(k:IntKind)(n:Int):BT s (.int k n)=some (.int k n):=rfl
@[simp] theorem AK5(b:Bool):BT s (.bool b)=some (.bool b):=rfl
@[simp] theorem AK6(b:Bool)(es:List (List V)):BT s (.list b es)=some (.list b es):=rfl
@[simp] theorem AOQ:BT s .nil=some .nil:=rfl
@[simp] theorem AUK(es:List (List V)):BT s (sl es)=some (sl es):=by cases es<;>rfl
@[simp] theorem AUL(f:FuncId)(x y:List V):BT s (.fn f x y)=A2 s 4 (.fn f x y):=rfl
@[simp] theorem AOR(l k g o:Nat):BT s (.ptr l k g o)=A2 s 4 (.ptr l k g o):=rfl
@[simp] theorem nS(l k g o:Nat):BT s (.vec l k g o)=A2 s 4 (.vec l k g o):=rfl
@[simp] theorem AOS(cs:List V):BT s (.agg cs)=A2 s 4 (.agg cs):=rfl
@[simp] theorem AZU(f:Nat)(g:FuncId)(x y:List V):A2 s (f+1) (.fn g x y)=fn2 g (PC (A2 s f) x) (PC (A2 s f) y):=by simp only[A2,UE,fn2];cases PC (A2 s f) x<;>cases PC (A2 s f) y<;>rfl
def cp1(f:List V→Option (List V))(g off:Nat):Option (Nat×AZ)→Option V
 |some (g',.box cs)=>if g'=g then(f cs).map fun ds=>.ref (ds.drop off) else none
 |_=>none
@[simp] theorem AUM(f:Nat)(up:List AA)(loc:AA)(l k g off:Nat):A2 ⟨up,loc⟩ (f+1) (.ptr l k g off)=if l=up.length then cp1 (PC (A2 ⟨up,loc⟩ f)) g off (loc.get k) else some (.ptr l k g off):=by
 simp only[A2,UE];split
 ·cases loc.get k with
  |none=>rfl
  |some z=>obtain⟨g',r⟩:=z;cases r<;>rfl
 ·rfl
noncomputable def ow3(d c:Nat)(fr:Fr)(s:St):Option V→Option XS
 |some r=>some ⟨c+1,(d,true,r)::fr,s.put s.up.length d c .dead⟩
 |none=>none
@[simp] theorem A8J(d c:Nat)(r:V):ow3 d c fr s (some r)=some ⟨c+1,(d,true,r)::fr,s.put s.up.length d c .dead⟩:=rfl
theorem AK7:CJ s .dead=.dead:=rfl
attribute [simp] AK7
end Go.Pg
