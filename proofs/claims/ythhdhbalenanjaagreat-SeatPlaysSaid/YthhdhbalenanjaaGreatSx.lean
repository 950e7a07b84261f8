/- Operations of a region with all that hangs on the region alone worked out; running them one after another. No program in sight. -/
import Derived.Test.YthhdhbalenanjaaGreatQ2
namespace Go.Pg
variable {P:Program}{E:XE}
inductive IK where
 | mv (x:Operand)
 | bin (op:BinOp) (T:TypeId) (x y:Operand)
 | fa (T:TypeId) (x:Operand) (f:Nat)
 | ld (T:TypeId) (x:Operand)
 | ldz (T:TypeId) (x:Operand)
 | pick (c a b:Operand)
 | build (T:TypeId) (ps:List (Nat×Operand))
 | buildS (T:TypeId) (n:Nat) (ps:List (Nat×Operand))
 | oth (op:Op)
 | alloc (T:TypeId)
 | box (x:Operand)
 | mkM (r:Option Operand)
 | mkS (T:TypeId) (x y:Operand)
 | sto (T:TypeId) (x y:Operand)
 | upd (T:TypeId) (x i y:Operand)
 | call (own:Bool) (tk:Option Tmp) (f:Operand) (args:List Operand)
 | app (args:List Operand) (Ts:List TypeId)
 | clr (args:List Operand) (Ts:List TypeId)
 | cpy (args:List Operand) (Ts:List TypeId)
def aQ (op : Op) : Oper := { dst := none, op := op, type := 0, pos := "", after := #[], guard := none }
def ACF(all:List Oper):List Operand→Option Tmp
 | []=>none
 | x :: r=>match x with
  | .tmp t=>cond (AGW all t) (some t) (ACF all r)
  | _=>ACF all r
def MP(all:List Oper)(o:Oper):IK:=match o.op with
 | .move x=>.mv x
 | .assign x=>.mv x
 | .binOp op T x y _=>.bin op T x y
 | .fieldAddr T x f=>.fa T x f
 | .load T x=>.ld T x
 | .pick c a b=>.pick c a b
 | .build T ps=>.build T ps.toList
 | .buildSlice T n ps=>.buildS T n ps.toList
 | .alloc T=>.alloc T
 | .box _ x=>.box x
 | .makeMap _ r=>.mkM r
 | .makeSlice T x y=>.mkS T x y
 | .store T x y=>.sto T x y
 | .mapUpdate T x i y=>.upd T x i y
 | .call c=>match c.callee with
  | .value f=>.call (DK all o) (ACF all c.args.toList) f c.args.toList
  | .builtin .append=>.app c.args.toList c.argTypes.toList
  | .builtin .clear=>.clr c.args.toList c.argTypes.toList
  | .builtin .copy=>.cpy c.args.toList c.argTypes.toList
  | _=>.oth o.op
 | op=>.oth op
structure HK where
 g:Option (Tmp×Bool)
 d:Option Tmp
 k:IK
def comp(all:List Oper)(o:Oper):HK:=⟨J7 all o,o.dst,MP all o⟩
def ACG:IK→IK
 | .ld T x=>.ldz T x
 | k=>k
def cR(all:List Oper)(o:Oper):HK:=⟨J7 all o,o.dst,cond (zB all o) (ACG (MP all o)) (MP all o)⟩
noncomputable def C4(d:Option Tmp)(st:XS)(r:Option V):Option XS:=match r with
 | some v=>some ⟨st.c,putD st.fr d true v,st.s⟩
 | none=>none
noncomputable def ZQ(tk:Option Tmp)(st:XS):XS:=match tk with
 | none=>st
 | some t=>match(match BT st.fr t with
   | some (true,.vec l q γ n)=>match st.s.get l q with
    | some (γ',.vec _ es)=>Bool.rec none (some ⟨st.c,(t,true,.list false (es.take n)) :: st.fr,st.s.put l q γ .dead⟩) (Nat.beq γ' γ&&Nat.ble n es.length&&Nat.blt γ st.c)
    | _=>none
   | _=>none:Option XS)with
  | some st1=>st1
  | none=>st
noncomputable def CS(P:Program)(E:XE)(d:Option Tmp)(k:IK)(st:XS):Option XS:=match k with
 | .mv x=>C4 d st (B9 st.fr x)
 | .bin op T x y=>C4 d st (nJ P st.fr op T x y)
 | .fa T x f=>C4 d st (xFA P st.fr T x f)
 | .ld T x=>C4 d st (K4 P st.fr st.s T x)
 | .ldz T x=>C4 d st (K4 P st.fr st.s T x)
 | .pick c a b=>C4 d st (jH st.fr c a b)
 | .build T ps=>C4 d st (QI P st.fr T ps)
 | .buildS T n ps=>C4 d st (MA P st.fr T n ps)
 | .oth op=>C4 d st (H0 P (aQ op) st.s (B9 st.fr))
 | .alloc T=>NX P d T st
 | .box x=>jD d x st
 | .mkM r=>uV d r st
 | .mkS T x y=>VG P d T x y st
 | .sto T x y=>II P d T x y st
 | .upd T x i y=>uW P d T x i y st
 | .call own tk f args=>Y0 E own d f args (ZQ tk st)
 | .app args Ts=>xAppend P d args Ts st
 | .clr args Ts=>eH P d args Ts st
 | .cpy args Ts=>rA P d args Ts st
noncomputable def opI(P:Program)(E:XE)(i:HK)(st:XS):Option XS:=match gdX st.fr i.g with
 | some true=>CS P E i.d i.k st
 | some false=>some (HE i.d st)
 | none=>none
noncomputable def opO(P:Program)(E:XE)(i:HK)(r:Option XS):Option XS:=match r with
 | some st=>opI P E i st
 | none=>none
noncomputable def OE(P:Program)(E:XE):List HK→Option XS→Option XS
 | [],r=>r
 | i :: l,r=>OE P E l (opO P E i r)
theorem ZR(all:List Oper)(st:XS):∀(xs:List Operand),(match MC all st xs with
  | some st1=>st1
  | none=>st)=ZQ (ACF all xs) st
 | []=>rfl
 | x :: r=>by
  unfold MC ACF
  cases x with
  | tmp t =>
   simp only
   cases AGW all t with
   | false=>exact ZR all st r
   | true=>rfl
  | _=>exact ZR all st r
theorem A13{o:Oper}{st:XS}:AA4 P (fun _=>false) o st=none:=by
 unfold AA4
 split <;> rfl
theorem ACH(hl:E.lit=fun _=>false)(all:List Oper)(o:Oper)(st:XS):opX P E all o st=opI P E (comp all o) st:=by
 unfold opX opI
 rw[hl]
 simp only[A13]
 have:(match AA5 all o st with
   | some st1=>PW P E (DK all) o st1
   | none=>PW P E (DK all) o st)=CS P E o.dst (MP all o) st:=by
  have ht:∀(r:Option XS),(match r with
   | some st1=>PW P E (DK all) o st1
   | none=>PW P E (DK all) o st)=PW P E (DK all) o (match r with
   | some st1=>st1
   | none=>st):=fun r=>by cases r <;> rfl
  rw[ht]
  obtain⟨d,op,T,pos,af,gd⟩:=o
  cases op with
  | call c =>
   obtain⟨cal,args,Ts⟩:=c
   cases cal with
   | value f =>
    show PW P E _ _ (match MC all st args.toList with | some st1=>st1 | none=>st)=_
    rw[ZR]
    rfl
   | builtin b=>cases b <;> rfl
   | _=>rfl
  | _=>rfl
 show _=(match gdX st.fr (J7 all o)with
  | some true=>CS P E o.dst (MP all o) st
  | some false=>some (HE o.dst st)
  | none=>none)
 cases gdX st.fr (J7 all o)with
 | none=>rfl
 | some b =>
  cases b with
  | false=>rfl
  | true=>exact this
theorem HU:∀(l:List HK),OE P E l none=none
 | []=>rfl
 | _ :: l=>HU l
theorem rZ(hl:E.lit=fun _=>false)(all:List Oper):∀(l:List Oper) (st:XS),eL P E all l st=OE P E (l.map (comp all)) (some st)
 | [],st=>rfl
 | o :: l,st=>by
  simp only[eL,List.map_cons,OE,opO]
  rw[ACH hl]
  cases opI P E (comp all o) st with
  | none=>exact(HU _).symm
  | some st'=>exact rZ hl all l st'
def G7(P:Program)(k:IK)(r:Operand→Option V):AM:=match k with
 | .ld T x=>BR (Nat.beq (P.cellsOf T) 1) (r x)
 | .app xs _=>JK r xs
 | .oth op=>DX P (aQ op) r
 | _=>[]
noncomputable def DB(P:Program)(E:XE)(d:Option Tmp)(k:IK)(st:XS):Option (XS×AM):=match k with
 | .mv x=>S2 (C4 d st (B9 st.fr x))
 | .bin op T x y=>S2 (C4 d st (nJ P st.fr op T x y))
 | .fa T x f=>S2 (C4 d st (xFA P st.fr T x f))
 | .ld T x=>S2 (C4 d st (K4 P st.fr st.s T x))
 | .ldz T x=>S2 (C4 d st (K4 P st.fr st.s T x))
 | .pick c a b=>S2 (C4 d st (jH st.fr c a b))
 | .build T ps=>S2 (C4 d st (QI P st.fr T ps))
 | .buildS T n ps=>S2 (C4 d st (MA P st.fr T n ps))
 | .oth op=>S2 (C4 d st (H0 P (aQ op) st.s (B9 st.fr)))
 | .alloc T=>S2 (NX P d T st)
 | .box x=>S2 (jD d x st)
 | .mkM r=>S2 (uV d r st)
 | .mkS T x y=>S2 (VG P d T x y st)
 | .sto T x y=>AA7 P d T x y st
 | .upd ..=>none
 | .call own _ f args=>Bool.rec (S2 (Y1 E.c0 d f args st)) (S2 (GZ E.co d f args st)) own
 | .app args Ts=>xAppD P d args Ts st
 | .clr ..=>none
 | .cpy ..=>none
def EZ:IK→Bool
 | .alloc _ | .box _ | .mkM _ | .mkS .. | .sto .. | .app ..=>true
 | .call own ..=>own
 | _=>false
noncomputable def UQ(P:Program)(E:XE)(i:HK)(st:XS):Option (XS×AM):=match gdX st.fr i.g with
 | some true=>DB P E i.d i.k st
 | some false=>Bool.rec (some (HE i.d st,[])) none (EZ i.k)
 | none=>none
noncomputable def kI(P:Program)(E:XE)(i:HK)(r:Option (XS×AM×AM)):Option (XS×AM×AM):=match r with
 | some (st,rd,wr)=>match UQ P E i st with
  | some (st',w)=>some (st',G7 P i.k (B9 st.fr)++rd,w++wr)
  | none=>none
 | none=>none
noncomputable def UR(P:Program)(E:XE):List HK→Option (XS×AM×AM)→Option (XS×AM×AM)
 | [],r=>r
 | i :: l,r=>UR P E l (kI P E i r)
noncomputable def ZS(r:Option (XS×AM×AM)):Option XS:=match r with
 | some (st,rd,wr)=>Bool.rec none (some st) (wr.all fun p=>!(rd.contains p))
 | none=>none
structure kJ where
 new:List Tmp
 ph:List HK
 sq:List HK
noncomputable def fB(new:List Tmp)(st:XS):Bool:=new.all fun d=>(st.s.loc.get d).isNone
noncomputable def ACI(new:List Tmp)(r:Option XS):Option (XS×AM×AM):=match r with
 | some st=>Bool.rec none (some (st,[],[])) (fB new st)
 | none=>none
noncomputable def US(P:Program)(E:XE):List kJ→Option XS→Option XS
 | [],r=>r
 | p :: S,r=>US P E S (OE P E p.sq (ZS (UR P E p.ph (ACI p.new r))))
def cS(l:List Oper)(R:List Nat):List HK:=R.filterMap fun i=>(l[i]?).map (comp l)
def cT(l:List Oper)(R:List Nat):List HK:=R.filterMap fun i=>(l[i]?).map (cR l)
def sA(l:List Oper)(R:List Nat):List Tmp:=R.filterMap fun i=>match l[i]? with
 | some o=>cond (kA (DK l) o) o.dst none
 | none=>none
def sB(l:List Oper)(p:List Nat×List Nat):kJ:=⟨sA l p.1,cT l p.1,cS l p.2⟩
def inB(l:List Oper)(S:VT):Bool:=S.all fun p=>p.1.all (fun i=>Nat.blt i l.length)&&p.2.all (fun i=>Nat.blt i l.length)
theorem vP(all:List Oper)(o:Oper)(st:XS):eN P E (DK all) o st=DB P E o.dst (MP all o) st:=by
 obtain⟨d,op,T,pos,af,gd⟩:=o
 cases op with
 | call c =>
  obtain⟨cal,args,Ts⟩:=c
  cases cal with
  | builtin b=>cases b <;> rfl
  | _=>rfl
 | _=>rfl
theorem AO8(all:List Oper)(o:Oper)(r:Operand→Option V):DX P o r=G7 P (MP all o) r:=by
 obtain⟨d,op,T,pos,af,gd⟩:=o
 cases op with
 | call c =>
  obtain⟨cal,args,Ts⟩:=c
  cases cal with
  | builtin b=>cases b <;> rfl
  | _=>rfl
 | _=>rfl
theorem A14(all:List Oper)(o:Oper):(kA (DK all) o||kW o||kP o)=EZ (MP all o):=by
 obtain⟨d,op,T,pos,af,gd⟩:=o
 cases op with
 | call c =>
  obtain⟨cal,args,Ts⟩:=c
  cases cal with
  | builtin b=>cases b <;> rfl
  | value f=>simp[kA,kW,kP,EZ,MP]
  | _=>rfl
 | _=>rfl
theorem AHK(all:List Oper)(o:Oper)(st:XS):nP P E all o st=UQ P E (comp all o) st:=by
 unfold nP UQ
 rw[vP,A14]
 rfl
theorem oM(d:Option Tmp)(k:IK)(st:XS):DB P E d (ACG k) st=DB P E d k st:=by cases k <;> rfl
theorem AHL(k:IK):EZ (ACG k)=EZ k:=by cases k <;> rfl
theorem AO9(all:List Oper)(o:Oper)(st:XS):UQ P E (cR all o) st=UQ P E (comp all o) st:=by
 unfold cR comp
 cases zB all o with
 | false=>rfl
 | true =>
  show UQ P E ⟨J7 all o,o.dst,ACG (MP all o)⟩ st=_
  unfold UQ
  simp only[oM,AHL]
theorem APA(all:List Oper)(o:Oper)(r:Operand→Option V):cond (zB all o) [] (DX P o r)=G7 P (cR all o).k r:=by
 unfold cR
 cases hz:zB all o with
 | false=>exact AO8 all o r
 | true =>
  obtain⟨T,x,ho⟩:=AJ4 hz
  show[]=G7 P (ACG (MP all o)) r
  unfold MP
  rw[ho]
  rfl
theorem O3:∀(l:List HK),UR P E l none=none
 | []=>rfl
 | _ :: l=>O3 l
theorem ACJ(l:List Oper):∀(R:List Nat) (st:XS) (rd wr:AM),R.all (fun i=>Nat.blt i l.length)=true→phX P E l R st rd wr=UR P E (cT l R) (some (st,rd,wr))
 | [],st,rd,wr,_=>rfl
 | i :: R,st,rd,wr,h=>by
  simp only[List.all_cons,Bool.and_eq_true,Nat.blt_eq]at h
  have hi:=List.getElem?_eq_getElem h.1
  have hp:cT l (i :: R)=cR l l[i] :: cT l R:=by simp[cT,hi]
  rw[hp]
  simp only[phX,hi,UR,kI,AHK,AO9]
  cases UQ P E (comp l l[i]) st with
  | none=>exact(O3 _).symm
  | some q =>
   obtain⟨st',w⟩:=q
   simp only
   rw[ACJ l R _ _ _ h.2,APA l]
theorem ACK(hl:E.lit=fun _=>false)(l:List Oper):∀(R:List Nat) (st:XS),R.all (fun i=>Nat.blt i l.length)=true→sqX P E l R st=OE P E (cS l R) (some st)
 | [],st,_=>rfl
 | i :: R,st,h=>by
  simp only[List.all_cons,Bool.and_eq_true,Nat.blt_eq]at h
  have hi:=List.getElem?_eq_getElem h.1
  have hp:cS l (i :: R)=comp l l[i] :: cS l R:=by simp[cS,hi]
  rw[hp]
  simp only[sqX,hi,OE,opO,ACH hl]
  cases opI P E (comp l l[i]) st with
  | none=>exact(HU _).symm
  | some st'=>exact ACK hl l R st' h.2
theorem K5:∀(S:List kJ),US P E S none=none
 | []=>rfl
 | p :: S=>by
  simp only[US,ACI,O3,ZS,HU]
  exact K5 S
theorem kK(l:List Oper)(st:XS):∀(R:List Nat),YQ (DK l) l R st.s.loc=fB (sA l R) st
 | []=>rfl
 | i :: R=>by
  have ih:=kK l st R
  unfold YQ fB sA at *
  simp only[List.all_cons,List.filterMap_cons,ih]
  cases hi:l[i]? with
  | none=>simp
  | some o =>
   simp only
   cases hk:kA (DK l) o with
   | false=>simp
   | true =>
    cases hd:o.dst with
    | none=>simp
    | some d=>simp
theorem sC(hl:E.lit=fun _=>false)(l:List Oper):∀(S:VT) (st:XS),inB l S=true→vA P E l S st=US P E (S.map (sB l)) (some st)
 | [],st,_=>rfl
 | p :: S,st,h=>by
  simp only[inB,List.all_cons,Bool.and_eq_true]at h
  obtain⟨⟨h1,h2⟩,h3⟩:=h
  simp only[vA,List.map_cons,US,sB,ACI,kK]
  cases fB (sA l p.1) st with
  | false =>
   simp only[O3,ZS,HU]
   exact(K5 _).symm
  | true =>
   simp only[ACJ l _ _ _ _ h1]
   cases UR P E (cT l p.1) (some (st,[],[]))with
   | none=>simp only[ZS,HU]; exact(K5 _).symm
   | some q =>
    obtain⟨st1,rd,wr⟩:=q
    simp only[ZS]
    cases (wr.all fun p=>!rd.contains p)with
    | false=>simp only[HU]; exact(K5 _).symm
    | true =>
     simp only[ACK hl l _ _ h2]
     cases OE P E (cS l p.2) (some st1)with
     | none=>exact(K5 _).symm
     | some GF=>exact sC hl l S GF h3
noncomputable def BCL(P:Program)(d:Option Tmp)(k:IK)(st:XS):Option XS:=match k with
 | .mv x=>C4 d st (B9 st.fr x)
 | .bin op T x y=>C4 d st (nJ P st.fr op T x y)
 | .fa T x f=>C4 d st (xFA P st.fr T x f)
 | .ld T x=>C4 d st (K4 P st.fr st.s T x)
 | .ldz T x=>C4 d st (K4 P st.fr st.s T x)
 | .pick c a b=>C4 d st (jH st.fr c a b)
 | .build T ps=>C4 d st (QI P st.fr T ps)
 | .buildS T n ps=>C4 d st (MA P st.fr T n ps)
 | .oth op=>C4 d st (H0 P (aQ op) st.s (B9 st.fr))
 | _=>none
noncomputable def BCM(E:XE)(d:Option Tmp)(k:IK)(st:XS):Option XS:=match k with
 | .call _ _ f args=>cY1 E d st (B9 st.fr f) (E1 (B9 st.fr) args)
 | _=>none
noncomputable def BCN(P:Program)(E:XE)(b:Bool)(i:HK)(st:XS):Option XS:=match gdX st.fr i.g with
 | some true=>Bool.rec (AB1 st (BCL P i.d i.k ⟨st.c,st.fr,⟨[],[]⟩⟩)) (BCM E i.d i.k st) b
 | _=>none
noncomputable def BCO(P:Program)(E:XE):List (Bool×HK)→Option XS→Option XS
 | [],r=>r
 | i :: l,r=>BCO P E l (match r with
  | some st=>BCN P E i.1 i.2 st
  | none=>none)
def A15(l:List Oper)(e:Nat)(R:List Nat):List (Bool×HK):=R.filterMap fun i=>(l[i]?).map fun o=>(Nat.beq i e,comp l o)
def BH7(l:List Oper):List (Bool×HK):=(cL l).flatMap fun p=>A15 l p.2 p.1
def okY(N:Nat)(l:List Oper):Bool:=WA N (l.map (J7 l)) (cL l) l&&(cL l).all fun p=>p.1.all fun i=>Nat.blt i l.length
inductive IR where
 | str (l:List HK)
 | drw (S:List kJ)
 | cls (ks:List (Nat×Nat×Nat))
def sD(P:Program)(ops:List Oper)(draw:Bool):IR:=cond draw (cond (VW P ops) (.cls (HT ops)) (.drw ((aJ ops).map (sB ops)))) (.str (ops.map (comp ops)))
def okR(P:Program)(ops:List Oper)(draw:Bool):Bool:=cond draw (cond (VW P ops) true (inB ops (aJ ops))) true
noncomputable def JN(P:Program)(E:XE)(i:IR)(st:XS):Option XS:=match i with
 | .str l=>OE P E l (some st)
 | .drw S=>US P E S (some st)
 | .cls ks=>QL P ks (some st)
end Go.Pg
namespace Go.Pg
variable {P:Program}{σ σ':Nat→Nat}{δ:Nat}{pre:List AB}{s:St}{fr:Fr}
abbrev Tr:=Option (List Nat×List Nat)
abbrev Ann:=Nat→Nat→Tr
noncomputable def CB(a:Tr)(st:XS):XS:=match a with
 | some p=>QJ p.1 p.2 st
 | none=>st
theorem K6{a:Tr}{st:XS}(h:Bd st):JU st (CB a st):=by
 cases a with
 | none=>exact⟨Nat.le_refl _,h,rfl⟩
 | some p=>exact S4 h
theorem H1{a:Tr}{st:XS}:(CB a st).c=st.c:=by cases a <;> rfl
theorem JO{n N:Nat}{ρ:Option Nat}{c:Code}{K:Exit→Fr→St→Prop}{a:Tr}{st:XS}(h:BB P n N ρ c K ((CB a st).fr.ren σ pre.length) ((CB a st).s.emb σ pre)):BB P n N ρ c K (st.fr.ren σ pre.length) (st.s.emb σ pre):=by
 cases a with
 | none=>exact h
 | some p=>exact UH h
noncomputable def A16(P:Program)(E:XE)(a:Tr)(l:List Oper)(draw:Bool)(st:XS):Option XS:=Bool.rec (eL P E l l (CB a st)) (Bool.rec (PY P E l (CB a st)) (QL P (HT l) (some (CB a st))) (VW P l)) draw
def isY:List Nat→Bool
 | k :: _=>Nat.beq k 777
 | []=>false
noncomputable def ACL(P:Program)(E:XE)(N:Nat)(a:Tr)(l:List Oper)(draw:Bool)(us:List Nat)(st:XS):Option XS:=Bool.rec (A16 P (cfU us E) a l draw st) (Bool.rec none (rV P E N l (CB a st)) draw) (isY us)
noncomputable def A9(rec:Z4)(body:Code)(a:Tr)(n:Nat):XS→Option (Exit×XS):=Nat.rec (motive:=fun _=>XS→Option (Exit×XS)) (fun _=>none) (fun _ ih st=>match rec body st with
 | some (.normal,st')=>ih (CB a st')
 | r=>r) n
def fC(id:Nat)(l:List Oper):Nat:=id+1000*l.length+1000000*(match l with
 | o :: _=>match o.dst with
  | some d=>d
  | none=>0
 | []=>0)
def BN:Code→Nat
 | .region id ops _=>fC id ops.toList
 | .seq a _=>BN a
 | .block _ c=>BN c
 | .loop c=>BN c
 | .scope c=>BN c
 | _=>0
def vQ:Tr→List Nat
 | some p=>p.1
 | none=>[]
def MQ:Nat:=1000000000000000
def vR:Tr→List Nat
 | some p=>p.2
 | none=>[]
noncomputable def UT(P:Program)(E:XE)(A:Ann)(n N:Nat)(rec:Z4):Z4:=fun code st=>match code with
 | .region id ops draw=>PN (ACL P E N (A N (fC id ops.toList)) ops.toList draw (vR (A N (fC id ops.toList+MQ))) (N6 (vQ (A N (fC id ops.toList+MQ))) st))
 | .loop body=>A9 rec body (A N (BN body)) n (CB (A N (BN body)) st)
 | c=>S5 P E n N rec c st
noncomputable def AE(P:Program)(A:Ann)(kn:CF0)(n:Nat):F0:=Nat.rec (motive:=fun _=>F0) (fun _ _ _=>none) (fun n ih N=>UT P (AN8 P kn (fun _ _ _=>none) (fun _=>false) ih) A n N (ih N)) n
theorem AHM(hP:DY P){E:XE}(hEE:JL P E){a:Tr}{id:Nat}{ops:Array Oper}{draw:Bool}{N:Nat}(hN:EH N (.region id ops draw)=true){st st':XS}(hx:A16 P E a ops.toList draw st=some st')(hbd:Bd st):JU st st' ∧
  ∀(n:Nat) (ρ:Option Nat) (σ:Nat→Nat) (pre:List AB) (K:Exit→Fr→St→Prop),(∀σ',AU st.c σ σ'→K .normal (st'.fr.ren σ' pre.length) (st'.s.emb σ' pre))→BB P n N ρ (.region id ops draw) K (st.fr.ren σ pre.length) (st.s.emb σ pre):=by
 obtain⟨l⟩:=ops
 have hT:=K6 (a:=a) hbd
 have ext:∀{st'},JU (CB a st) st'→JU st st':=fun h=>⟨by have:=h.c; rwa [H1]at this,h.bd,h.n.trans hT.n⟩
 cases draw with
 | false =>
  simp only[EH,cond_false,Bool.and_eq_true]at hN
  have hx:eL P E l l (CB a st)=some st':=hx
  obtain⟨hE,hs⟩:=eM hEE hT.bd hx
  refine⟨ext hE,fun n ρ σ pre K hk=>JO (a:=a) ?_⟩
  exact VA (l.map (J7 l)) hN.1 (eE (SW hN.2)) (hs σ pre _ fun σ' ha=>hk σ' (by rwa [H1]at ha))
 | true =>
  simp only[EH,cond_true]at hN
  cases hc:VW P l with
  | true =>
   have hx:(Bool.rec (PY P E l (CB a st)) (QL P (HT l) (some (CB a st))) (VW P l):Option XS)=some st':=hx
   rw[hc]at hx
   obtain⟨hE,hs⟩:=AHE (id:=id) hP hN hc hx hT.bd
   exact⟨ext hE,fun n ρ σ pre K hk=>JO (a:=a) (hs n ρ σ pre K fun σ' ha=>hk σ' (by rwa [H1]at ha))⟩
  | false =>
  have hx:(Bool.rec (PY P E l (CB a st)) (QL P (HT l) (some (CB a st))) (VW P l):Option XS)=some st':=hx
  rw[hc]at hx
  obtain⟨hE,hs⟩:=ZM (id:=id) hP hEE hN hx hT.bd
  exact⟨ext hE,fun n ρ σ pre K hk=>JO (a:=a) (hs n ρ σ pre K fun σ' ha=>hk σ' (by rwa [H1]at ha))⟩
theorem AHN(hP:DY P){E:XE}(hEE:JL P E){a:Tr}{us:List Nat}{id:Nat}{ops:Array Oper}{draw:Bool}{N:Nat}(hN:EH N (.region id ops draw)=true){st st':XS}(hx:ACL P E N a ops.toList draw us st=some st')(hbd:Bd st):JU st st' ∧
  ∀(n:Nat) (ρ:Option Nat) (σ:Nat→Nat) (pre:List AB) (K:Exit→Fr→St→Prop),(∀σ',AU st.c σ σ'→K .normal (st'.fr.ren σ' pre.length) (st'.s.emb σ' pre))→BB P n N ρ (.region id ops draw) K (st.fr.ren σ pre.length) (st.s.emb σ pre):=by
 unfold ACL at hx
 cases hy:isY us with
 | false=>rw[hy]at hx; exact AHM hP (AOC hEE _) hN hx hbd
 | true =>
  rw[hy]at hx
  cases draw with
  | false=>cases hx
  | true =>
   have hx:rV P E N ops.toList (CB a st)=some st':=hx
   have hT:=K6 (a:=a) hbd
   obtain⟨hE,hs⟩:=AB3 hP hEE (id:=id) hx hT.bd
   refine⟨⟨by have:=hE.c; rwa [H1]at this,hE.bd,hE.n.trans hT.n⟩,fun n ρ σ pre K hk=>JO (a:=a) ?_⟩
   exact hs n ρ σ pre K fun σ' ha=>hk σ' (by rwa [H1]at ha)
theorem ACM{N:Nat}{rec:Z4}(hrec:Y6 P N rec){body:Code}{a:Tr}(hN:EH N body=true)(m:Nat){st st':XS}{e:Exit}(hx:A9 rec body a m (CB a st)=some (e,st'))(hbd:Bd st):JU st st'∧(∀l,e≠.goto l) ∧
  ∀(n:Nat) (ρ:Option Nat) (σ:Nat→Nat) (pre:List AB) (K:Exit→Fr→St→Prop),(ρ=none∨FR body=true)→(∀σ',AU st.c σ σ'→K e (st'.fr.ren σ' pre.length) (st'.s.emb σ' pre))→BB P n N ρ (.loop body) K (st.fr.ren σ pre.length) (st.s.emb σ pre):=by
 have up:∀{st st':XS},Bd st→JU (CB a st) st'→JU st st':=fun hbd h=>⟨by have:=h.c; rwa [H1]at this,h.bd,h.n.trans (K6 hbd).n⟩
 have ext:∀(m:Nat) {st:XS},A9 rec body a m (CB a st)=some (e,st')→Bd st→JU st st'∧(∀l,e≠.goto l):=by
  intro m
  induction m with
  | zero=>intro st hx _; cases hx
  | succ m ih =>
   intro st hx hbd
   have hx:(match rec body (CB a st)with
    | some (.normal,st')=>A9 rec body a m (CB a st')
    | r=>r)=some (e,st'):=hx
   have hT:=K6 (a:=a) hbd
   split at hx
   ·rename_i st1 h1
    obtain⟨hE,_,_⟩:=hrec _ _ _ _ h1 hT.bd hN
    obtain⟨hE',hg⟩:=ih hx hE.bd
    exact⟨up hbd ⟨Nat.le_trans hE.c hE'.c,hE'.bd,hE'.n.trans hE.n⟩,hg⟩
   ·obtain⟨hE,hg,_⟩:=hrec _ _ _ _ hx hT.bd hN
    exact⟨up hbd ⟨hE.c,hE.bd,hE.n⟩,hg⟩
 obtain⟨hE,hg⟩:=ext m hx hbd
 refine⟨hE,hg,fun n ρ σ pre K hρ hk=>?_⟩
 refine bO (fun m fr s=>∃(st:XS) (σ:Nat→Nat),fr=st.fr.ren σ pre.length∧s=st.s.emb σ pre∧Bd st∧A9 rec body a m (CB a st)=some (e,st')∧∀σ',AU st.c σ σ'→K e (st'.fr.ren σ' pre.length) (st'.s.emb σ' pre)) m ⟨st,σ,rfl,rfl,hbd,hx,hk⟩ ?_
 rintro m fr s ⟨st,σ,rfl,rfl,hbd,hx,hk⟩
 cases m with
 | zero=>cases hx
 | succ m =>
  have hx:(match rec body (CB a st)with
   | some (.normal,st')=>A9 rec body a m (CB a st')
   | r=>r)=some (e,st'):=hx
  have hT:=K6 (a:=a) hbd
  refine JO (a:=a) ?_
  split at hx
  ·rename_i st1 h1
   obtain⟨hE,_,hC⟩:=hrec _ _ _ _ h1 hT.bd hN
   refine hC n ρ σ pre _ hρ fun σ' ha=>?_
   rw[H1]at ha
   exact⟨m,Nat.lt_succ_self _,st1,σ',rfl,rfl,hE.bd,hx,fun σ'' ha'=>hk σ'' (ha.trans ha' (by have:=hE.c; rwa [H1]at this))⟩
  ·rename_i hne
   obtain⟨hE,hg,hC⟩:=hrec _ _ _ _ hx hT.bd hN
   refine hC n ρ σ pre _ hρ fun σ' ha=>?_
   rw[H1]at ha
   have:=hk σ' ha
   cases e with
   | normal=>exact absurd hx (hne st')
   | _=>exact this
theorem fD(hP:DY P){E:XE}(hEE:JL P E){A:Ann}{N:Nat}{rec:Z4}(hrec:Y6 P N rec)(m:Nat):Y6 P N (UT P E A m N rec):=by
 intro code st e st' hx hbd hN
 unfold UT at hx
 split at hx
 ·rename_i id ops draw
  obtain⟨rfl,hx2⟩:=kF hx
  have hT:=rQ (vQ (A N (fC id ops.toList+MQ))) hbd
  obtain⟨hE,hs⟩:=AHN hP hEE hN hx2 hT.bd
  exact⟨⟨Nat.le_trans hT.c hE.c,hE.bd,hE.n.trans hT.n⟩,(by intro l h; cases h),fun n ρ σ pre K _ hk=>jY _ (hs n ρ σ pre K fun σ' ha=>hk σ' (by rwa [AKB]at ha))⟩
 ·rename_i body
  have hN:EH N body=true:=hN
  obtain⟨h1,h2,h3⟩:=ACM hrec hN m hx hbd
  exact⟨h1,h2,fun n ρ σ pre K hρ hk=>h3 n ρ σ pre K hρ hk⟩
 ·exact kG hP hEE hrec m _ _ _ _ hx hbd hN
theorem ZT(hP:DY P){A:Ann}{kn:CF0}(hkn:GY P kn):∀n,Y7 P (AE P A kn n)
 | 0=>fun N code st e st' hx=>by cases hx
 | n+1=>fun N=>by
  have ih:=ZT hP (A:=A) hkn n
  exact fD hP ⟨ABE hP hkn ih,AHG hP ih,ZB hP hkn ih,ABD hP hkn (ko:=fun _ _ _=>none) (fun _ _ _ _ h=>by cases h) ih⟩ (ih N) n
theorem ACN(hP:DY P){A:Ann}{kn:CF0}(hkn:GY P kn){n:Nat}{f:FuncId}{args:List V}{r:V}(h:EL P (AE P A kn n) f args=some r)(s:St):E4 P f args s fun r' s'=>r'=r∧s'=s :=
 (Y9 hP (ZT hP hkn n) f args r h).1 s
section
variable {A:Ann}{kn:CF0}{n N:Nat}{st:XS}
noncomputable abbrev BQ(P:Program)(A:Ann)(kn:CF0)(n:Nat):XE:=AN8 P kn (fun _ _ _=>none) (fun _=>false) (AE P A kn n)
theorem ACO(a b:Code):AE P A kn (n+1) N (.seq a b) st=eO (AE P A kn n N) b (AE P A kn n N a st):=rfl
theorem vS(c:Operand)(a b:Code):AE P A kn (n+1) N (.cond c a b) st=jO (AE P A kn n N) a b st (B9 st.fr c):=rfl
theorem oN(id:Nat)(b:Code):AE P A kn (n+1) N (.block id b) st=ME id (AE P A kn n N b st):=rfl
theorem vT(b:Code):AE P A kn (n+1) N (.loop b) st=A9 (AE P A kn n N) b (A N (BN b)) n (CB (A N (BN b)) st):=rfl
theorem vU:AE P A kn (n+1) N .skip st=some (.normal,st):=rfl
theorem vV(id:Nat):AE P A kn (n+1) N (.exit id) st=some (.exit id,st):=rfl
theorem ACP:AE P A kn (n+1) N .ret st=some (.ret,st):=rfl
theorem oO(b:Code):AE P A kn (n+1) N (.scope b) st=AE P A kn n N b st:=rfl
theorem ZU(g:Operand)(ps:Array Tmp)(asg body:Code):AE P A kn (n+1) N (.rangeFunc g ps asg body) st=UI (BQ P A kn n).cf N g ps.toList asg body st:=rfl
theorem ACQ(a b:Code):BN (.seq a b)=BN a:=rfl
theorem oP(id:Nat)(b:Code):BN (.block id b)=BN b:=rfl
theorem vW(b:Code):BN (.loop b)=BN b:=rfl
theorem AC(rec:Z4)(body:Code)(a:Tr):A9 rec body a (n+1) st=match rec body st with
 | some (.normal,st')=>A9 rec body a n (CB a st')
 | r=>r:=rfl
theorem kL(rec:Z4)(b:Code):eO rec b (some (.normal,st))=rec b st:=rfl
theorem ACR(rec:Z4)(b:Code):eO rec b (some (.ret,st))=some (.ret,st):=rfl
theorem vX(rec:Z4)(b:Code)(i:Nat):eO rec b (some (.exit i,st))=some (.exit i,st):=rfl
theorem ACS(rec:Z4)(b:Code)(c:Prop)[Decidable c](x y:Option (Exit×XS)):eO rec b (if c then x else y)=if c then eO rec b x else eO rec b y:=by split <;> rfl
theorem aR(id:Nat):ME id (some (.normal,st))=some (.normal,st):=rfl
theorem oQ(id:Nat):ME id (some (.ret,st))=some (.ret,st):=rfl
theorem kM(id i:Nat):ME id (some (.exit i,st))=if i=id then some (.normal,st) else some (.exit i,st):=by
 show(Bool.rec _ _ (Nat.beq i id):Option (Exit×XS))=_
 by_cases h:i=id
 ·subst h; simp
 ·have:Nat.beq i id=false:=by
   cases hb:Nat.beq i id with
   | false=>rfl
   | true=>exact absurd (Nat.eq_of_beq_eq_true hb) h
  simp[h,this]
theorem oR(id:Nat)(c:Prop)[Decidable c](x y:Option (Exit×XS)):ME id (if c then x else y)=if c then ME id x else ME id y:=by split <;> rfl
def sE:Code→Bool
 | .region ..=>true
 | _=>false
def VK:Code→List Oper
 | .region _ ops _=>ops.toList
 | _=>[]
def OG:Code→Bool
 | .region _ _ d=>d
 | _=>false
theorem sF(us:List Nat){E:XE}(h:E.lit=fun _=>false):(cfU us E).lit=fun _=>false:=by cases us <;> exact h
theorem O4{r:Code}(hr:sE r=true){i:IR}(hi:sD P (VK r) (OG r)=i)(hok:okR P (VK r) (OG r)=true){a:Tr}(ha:A N (BN r)=a){ks us:List Nat}(ht:vQ (A N (BN r+MQ))=ks)(hu:vR (A N (BN r+MQ))=us)(hy:isY us=false:=by rfl):AE P A kn (n+1) N r st=PN (JN P (cfU us (BQ P A kn n)) i (CB a (N6 ks st))):=by
 cases r with
 | region id ops draw =>
  subst hi ha ht hu
  show PN (ACL P _ N (A N (fC id ops.toList)) ops.toList draw (vR (A N (fC id ops.toList+MQ))) (N6 (vQ (A N (fC id ops.toList+MQ))) st))=_
  unfold ACL
  rw[show isY (vR (A N (fC id ops.toList+MQ)))=false from hy]
  cases draw with
  | false=>exact congrArg PN (rZ (sF _ rfl) _ _ _)
  | true =>
   show PN (Bool.rec (PY P _ ops.toList _) (QL P (HT ops.toList) (some _)) (VW P ops.toList))=PN (JN P _ (cond (VW P ops.toList) (.cls (HT ops.toList)) (.drw ((aJ ops.toList).map (sB ops.toList)))) _)
   have hok:cond (VW P ops.toList) true (inB ops.toList (aJ ops.toList))=true:=hok
   cases hc:VW P ops.toList with
   | true=>rfl
   | false =>
    rw[hc]at hok
    exact congrArg PN (sC (sF _ rfl) _ _ _ hok)
 | _=>cases hr
theorem D1{r:Code}(hr:sE r=true){i:IR}(hi:sD P (VK r) (OG r)=i)(hok:okR P (VK r) (OG r)=true){a:Tr}(ha:A N (BN r)=a){ks:List Nat}(ht:vQ (A N (BN r+MQ))=ks)(hu:vR (A N (BN r+MQ))=[]:=by kernel_rfl):AE P A kn (n+1) N r st=PN (JN P (BQ P A kn n) i (CB a (N6 ks st))):=O4 hr hi hok ha ht hu rfl
theorem ACT{r:Code}(hr:sE r=true){i:IR}(hi:sD P (VK r) (OG r)=i)(hok:okR P (VK r) (OG r)=true){a:Tr}(ha:A N (BN r)=a)(ht:A N (BN r+MQ)=none:=by kernel_rfl):AE P A kn (n+1) N r st=PN (JN P (BQ P A kn n) i (CB a st)):=D1 hr hi hok ha (congrArg vQ ht) (congrArg vR ht)
noncomputable def VX(P:Program)(rs:List ResultVar)(r:Option (Exit×XS)):Option V:=match r with
 | some (.ret,st)=>finV st.s (FM P rs st.fr st.s)
 | some (.normal,st)=>finV st.s (FM P rs st.fr st.s)
 | _=>none
where finV (s:St) (r:Option V):Option V:=match r with
 | some v=>match AZ s 4 v with
  | some r'=>Bool.rec none (some r') (AL 9 r')
  | none=>none
 | none=>none
theorem AO{f:FuncId}{fn:Func}{c:Code}{args:List V}{rec:F0}(hf:P.funcs[f]? = some fn)(hb:fn.body=some c)(hs:Nat.ble args.length fn.ntmps=true)(hcl:args.all (AL 9)=true) :
  EL P rec f args=VX P fn.results.toList (rec fn.ntmps c ⟨0,AF 0 args,⟨[],[]⟩⟩):=by
 unfold EL cC VI rD
 rw[hcl,hf]
 simp only[hb,hs]
 generalize rec fn.ntmps c ⟨0,AF 0 args,⟨[],[]⟩⟩=q
 have aux:∀st:XS,(match(match FM P fn.results.toList st.fr st.s with
   | some r=>match AZ st.s 4 r with
    | some r'=>some (r',st.c,st.s.up.map (AQ st.s))
    | none=>none
   | none=>none:Option (V×Nat×List AB))with
  | some (r,_,_)=>(Bool.rec none (some r) (AL 9 r):Option V)
  | none=>none)=VX.finV st.s (FM P fn.results.toList st.fr st.s):=fun st=>by
  unfold VX.finV
  cases FM P fn.results.toList st.fr st.s with
  | none=>rfl
  | some r =>
   cases h:AZ st.s 4 r with
   | none=>simp[h]
   | some r'=>simp[h]
 cases q with
 | none=>rfl
 | some q =>
  obtain⟨e,st⟩:=q
  cases e with
  | ret=>exact aux st
  | normal=>exact aux st
  | _=>rfl
theorem ACU(rs:List ResultVar)(c:Prop)[Decidable c](x y:Option (Exit×XS)):VX P rs (if c then x else y)=if c then VX P rs x else VX P rs y:=by split <;> rfl
end
def KK:Code→List Nat→Code
 | c,[]=>c
 | .seq a b,i :: p=>bif Nat.beq i 0 then KK a p else KK b p
 | .cond _ a b,i :: p=>bif Nat.beq i 0 then KK a p else KK b p
 | .block _ a,_ :: p=>KK a p
 | .loop a,_ :: p=>KK a p
 | .scope a,_ :: p=>KK a p
 | .rangeFunc _ _ a b,i :: p=>bif Nat.beq i 0 then KK a p else KK b p
 | c,_=>c
def APB(fn:Func):Code:=match fn.body with
 | some c=>c
 | none=>.skip
end Go.Pg
namespace Go.Pg
variable {P:Program}{E:XE}{st:XS}{fr:Fr}{s:St}
@[simp] theorem A17(r:Option XS):OE P E [] r=r:=rfl
@[simp] theorem ATW(i:HK)(l:List HK)(r:Option XS):OE P E (i :: l) r=OE P E l (opO P E i r):=rfl
@[simp] theorem A18(i:HK):opO P E i (some st)=opI P E i st:=rfl
@[simp] theorem A19(i:HK):opO P E i none=none:=rfl
@[simp] theorem A69(i:HK)(c:Prop)[Decidable c](x y:Option XS):opO P E i (if c then x else y)=if c then opO P E i x else opO P E i y:=by split <;> rfl
@[simp] theorem A2A(l:List HK)(c:Prop)[Decidable c](x y:Option XS):OE P E l (if c then x else y)=if c then OE P E l x else OE P E l y:=by split <;> rfl
noncomputable def gI(P:Program)(E:XE)(d:Option Tmp)(k:IK)(st:XS)(w:Bool)(r:Option (Bool×V)):Option XS:=match r with
 | some (c,.bool b)=>Bool.rec (some (HE d st)) (CS P E d k st) (c&&(b == w))
 | _=>none
@[simp] theorem A2B(d:Option Tmp)(k:IK):opI P E ⟨none,d,k⟩ st=CS P E d k st:=rfl
@[simp] theorem ATX(t:Tmp)(w:Bool)(d:Option Tmp)(k:IK):opI P E ⟨some (t,w),d,k⟩ st=gI P E d k st w (BT st.fr t):=by
 show(match(match BT st.fr t with | some (c,.bool b)=>some (c&&(b == w)) | _=>none:Option Bool)with
  | some true=>CS P E d k st
  | some false=>some (HE d st)
  | none=>none)=_
 unfold gI
 cases BT st.fr t with
 | none=>rfl
 | some p =>
  obtain⟨c,v⟩:=p
  cases v with
  | bool b=>cases h:(c&&(b == w)) <;> simp[h]
  | _=>rfl
@[simp] theorem BH8(d:Option Tmp)(k:IK):gI P E d k st true (some (true,.bool true))=CS P E d k st:=rfl
@[simp] theorem BH9(d:Option Tmp)(k:IK):gI P E d k st true (some (true,.bool false))=some (HE d st):=rfl
@[simp] theorem BIA(d:Option Tmp)(k:IK):gI P E d k st false (some (true,.bool true))=some (HE d st):=rfl
@[simp] theorem BIB(d:Option Tmp)(k:IK):gI P E d k st false (some (true,.bool false))=CS P E d k st:=rfl
@[simp] theorem BIC(d:Option Tmp)(k:IK)(w b:Bool):gI P E d k st w (some (false,.bool b))=some (HE d st):=rfl
@[simp] theorem A2C(d:Tmp)(c:Nat)(fr:Fr)(s:St):HE (some d) ⟨c,fr,s⟩=⟨c,(d,false,.bool false) :: fr,s⟩:=rfl
@[simp] theorem A2D(c:Nat)(fr:Fr)(s:St):HE none ⟨c,fr,s⟩=⟨c,fr,s⟩:=rfl
@[simp] theorem A2E(k:Nat):BT [] k=none:=rfl
@[simp] theorem ATY(j:Nat)(x:Bool×V)(fr:Fr)(k:Nat):BT ((j,x) :: fr) k=if k=j then some x else BT fr k:=by rw[EX,EX]; rfl
@[simp] theorem APC(j:Nat)(x:Nat×AX)(L:AB)(k:Nat):AB.get ((j,x) :: L) k=if k=j then some x else L.get k:=rfl
def rdT:Option (Bool×V)→Option V
 | some (true,v)=>some v
 | _=>none
@[simp] theorem ACV(v:V):rdT (some (true,v))=some v:=rfl
@[simp] theorem AT0(v:V):rdT (some (false,v))=none:=rfl
@[simp] theorem A2F:rdT none=none:=rfl
@[simp] theorem A7A(t:Tmp):B9 fr (.tmp t)=rdT (BT fr t):=by
 show(match BT fr t with
  | some (true,v)=>some v
  | _=>none)=_
 cases BT fr t with
 | none=>rfl
 | some p=>obtain⟨c,v⟩:=p; cases c <;> rfl
@[simp] theorem AT1(v:Value):B9 fr (.const v)=CK v:=rfl
@[simp] theorem A2G(f:FuncId):B9 fr (.func f)=some (.fn f [] []):=rfl
@[simp] theorem A7B(t:Tmp):rdC fr (.tmp t)=BT fr t:=rfl
@[simp] theorem A2H(b:Bool):rdC fr (.const (.bool b))=some (true,.bool b):=rfl
@[simp] theorem APD(k:IntKind)(n:Int):CK (.int k n)=some (.int k n):=rfl
@[simp] theorem AKI(b:Bool):CK (.bool b)=some (.bool b):=rfl
@[simp] theorem APE:CK (.slice none 0 0)=some .nil:=rfl
@[simp] theorem AT2(d:Tmp)(c:Nat)(fr:Fr)(s:St)(v:V):C4 (some d) ⟨c,fr,s⟩ (some v)=some ⟨c,(d,true,v) :: fr,s⟩:=rfl
@[simp] theorem A7C(c:Nat)(fr:Fr)(s:St)(v:V):C4 none ⟨c,fr,s⟩ (some v)=some ⟨c,fr,s⟩:=rfl
@[simp] theorem AT3(d:Option Tmp):C4 d st none=none:=rfl
@[simp] theorem A2I(d:Option Tmp)(c:Prop)[Decidable c](x y:Option V):C4 d st (if c then x else y)=if c then C4 d st x else C4 d st y:=by split <;> rfl
section
variable (d:Option Tmp)(c:Nat)
@[simp] theorem A2J(x:Operand):CS P E d (.mv x) ⟨c,fr,s⟩=C4 d ⟨c,fr,s⟩ (B9 fr x):=rfl
def APF(P:Program)(op:BinOp)(T:TypeId):Option V→Option V→Option V
 | some a,some b=>GL P op T a b
 | _,_=>none
@[simp] theorem AT4(op:BinOp)(T:TypeId)(a b:V):APF P op T (some a) (some b)=GL P op T a b:=rfl
@[simp] theorem AT5(op:BinOp)(T:TypeId)(x y:Operand):CS P E d (.bin op T x y) ⟨c,fr,s⟩=C4 d ⟨c,fr,s⟩ (APF P op T (B9 fr x) (B9 fr y)):=by
 show C4 d _ (nJ P fr op T x y)=_
 unfold nJ APF
 cases B9 fr x <;> cases B9 fr y <;> rfl
def fa1(P:Program)(T:TypeId)(f:Nat):Option V→Option V
 | some p=>CX P T p f
 | none=>none
@[simp] theorem A2K(T:TypeId)(f:Nat)(p:V):fa1 P T f (some p)=CX P T p f:=rfl
@[simp] theorem A2L(T:TypeId)(x:Operand)(f:Nat):CS P E d (.fa T x f) ⟨c,fr,s⟩=C4 d ⟨c,fr,s⟩ (fa1 P T f (B9 fr x)):=by
 show C4 d _ (xFA P fr T x f)=_
 unfold xFA fa1
 cases B9 fr x <;> rfl
def wh1(P:Program)(T:TypeId):Option (List V)→Option V
 | some cs=>BL P T cs
 | none=>none
@[simp] theorem A2M(T:TypeId)(cs:List V):wh1 P T (some cs)=BL P T cs:=rfl
def ld1(P:Program)(s:St)(T:TypeId):Option V→Option V
 | some p=>wh1 P T (A5 s p)
 | none=>none
@[simp] theorem ACW(T:TypeId)(p:V):ld1 P s T (some p)=wh1 P T (A5 s p):=rfl
@[simp] theorem A2N(T:TypeId)(x:Operand):CS P E d (.ld T x) ⟨c,fr,s⟩=C4 d ⟨c,fr,s⟩ (ld1 P s T (B9 fr x)):=by
 show C4 d _ (K4 P fr s T x)=_
 unfold K4 ld1
 cases B9 fr x with
 | none=>rfl
 | some p=>unfold wh1; cases A5 s p <;> rfl
noncomputable def pk3:Option V→Option (Bool×V)→Option (Bool×V)→Option V
 | some (.bool c),some (ca,.bool a),some (cb,.bool b)=>Bool.rec (Bool.rec none (some (.bool b)) cb) (Bool.rec none (some (.bool a)) ca) c
 | _,_,_=>none
@[simp] theorem A2O(a cb b:Bool):pk3 (some (.bool true)) (some (true,.bool a)) (some (cb,.bool b))=some (.bool a):=rfl
@[simp] theorem AT6(ca a b:Bool):pk3 (some (.bool false)) (some (ca,.bool a)) (some (true,.bool b))=some (.bool b):=rfl
@[simp] theorem A2P(c a b:Bool):pk3 (some (.bool c)) (some (true,.bool a)) (some (true,.bool b))=some (.bool (if c then a else b)):=by cases c <;> rfl
@[simp] theorem APG(x y z:Operand):CS P E d (.pick x y z) ⟨c,fr,s⟩=C4 d ⟨c,fr,s⟩ (pk3 (B9 fr x) (rdC fr y) (rdC fr z)):=rfl
def BCQ(f:Operand→Option V):List (Nat×Operand)→Option (List (Nat×V)):=CW f
def ba2:Option V→Nat→Option (List (Nat×V))→Option (List (Nat×V))
 | some v,i,some l=>some ((i,v) :: l)
 | _,_,_=>none
@[simp] theorem A2Q(v:V)(i:Nat)(l:List (Nat×V)):ba2 (some v) i (some l)=some ((i,v) :: l):=rfl
@[simp] theorem APH(r:Operand→Option V):CW r []=some []:=rfl
@[simp] theorem AKJ(r:Operand→Option V)(i:Nat)(x:Operand)(l:List (Nat×Operand)):CW r ((i,x) :: l)=ba2 (r x) i (CW r l):=by
 simp only[CW]
 unfold ba2
 cases r x <;> cases CW r l <;> rfl
def bd1(P:Program)(T:TypeId):Option (List (Nat×V))→Option V
 | some l=>CR P T l
 | none=>none
@[simp] theorem A2R(T:TypeId)(l:List (Nat×V)):bd1 P T (some l)=CR P T l:=rfl
@[simp] theorem AKK(T:TypeId)(ps:List (Nat×Operand)):CS P E d (.build T ps) ⟨c,fr,s⟩=C4 d ⟨c,fr,s⟩ (bd1 P T (CW (B9 fr) ps)):=by
 show C4 d _ (QI P fr T ps)=_
 unfold QI bd1
 cases CW (B9 fr) ps <;> rfl
def bs1(P:Program)(T:TypeId)(n:Nat):Option (List (Nat×V))→Option V
 | some l=>BZ P T n l
 | none=>none
@[simp] theorem A2S(T:TypeId)(n:Nat)(l:List (Nat×V)):bs1 P T n (some l)=BZ P T n l:=rfl
@[simp] theorem AHO(T:TypeId)(n:Nat)(ps:List (Nat×Operand)):CS P E d (.buildS T n ps) ⟨c,fr,s⟩=C4 d ⟨c,fr,s⟩ (bs1 P T n (CW (B9 fr) ps)):=by
 show C4 d _ (MA P fr T n ps)=_
 unfold MA bs1
 cases CW (B9 fr) ps <;> rfl
@[simp] theorem AT7(op:Op):CS P E d (.oth op) ⟨c,fr,s⟩=C4 d ⟨c,fr,s⟩ (H0 P (aQ op) s (B9 fr)):=rfl
def al1(d:Tmp)(c:Nat)(fr:Fr)(s:St):Option (List V)→Option XS
 | some cs=>some ⟨c+1,(d,true,.ptr s.up.length d c 0) :: fr,s.put s.up.length d c (.box cs)⟩
 | none=>none
@[simp] theorem A2T(d:Tmp)(cs:List V):al1 d c fr s (some cs)=some ⟨c+1,(d,true,.ptr s.up.length d c 0) :: fr,s.put s.up.length d c (.box cs)⟩:=rfl
@[simp] theorem AKL(d:Tmp)(T:TypeId):CS P E (some d) (.alloc T) ⟨c,fr,s⟩=al1 d c fr s (B5 P T):=by
 show NX P (some d) T _=_
 unfold NX al1
 cases B5 P T <;> rfl
noncomputable def vY(d:Tmp)(c:Nat)(fr:Fr)(s:St):Option V→Option XS
 | some v=>Bool.rec none (some ⟨c+1,(d,true,.ptr s.up.length d c 0) :: fr,s.put s.up.length d c (.box (A6 v))⟩) (A7 v)
 | none=>none
@[simp] theorem A7G(d:Tmp)(k:IntKind)(n:Int):vY d c fr s (some (.int k n))=some ⟨c+1,(d,true,.ptr s.up.length d c 0) :: fr,s.put s.up.length d c (.box [.int k n])⟩:=rfl
@[simp] theorem A2U(d:Tmp)(b:Bool):vY d c fr s (some (.bool b))=some ⟨c+1,(d,true,.ptr s.up.length d c 0) :: fr,s.put s.up.length d c (.box [.bool b])⟩:=rfl
@[simp] theorem A7H(d:Tmp)(cs:List V):vY d c fr s (some (.agg cs))=some ⟨c+1,(d,true,.ptr s.up.length d c 0) :: fr,s.put s.up.length d c (.box cs)⟩:=rfl
@[simp] theorem A2V(d:Tmp)(b:Bool)(es:List (List V)):vY d c fr s (some (.list b es))=some ⟨c+1,(d,true,.ptr s.up.length d c 0) :: fr,s.put s.up.length d c (.box [.list b es])⟩:=rfl
@[simp] theorem A7I(d:Tmp):vY d c fr s (some .nil)=some ⟨c+1,(d,true,.ptr s.up.length d c 0) :: fr,s.put s.up.length d c (.box [.nil])⟩:=rfl
@[simp] theorem A7J(d:Tmp)(l k g n:Nat):vY d c fr s (some (.vec l k g n))=some ⟨c+1,(d,true,.ptr s.up.length d c 0) :: fr,s.put s.up.length d c (.box [.vec l k g n])⟩:=rfl
@[simp] theorem BCV(d:Tmp)(l k g:Nat):vY d c fr s (some (.mp l k g))=some ⟨c+1,(d,true,.ptr s.up.length d c 0) :: fr,s.put s.up.length d c (.box [.mp l k g])⟩:=rfl
@[simp] theorem AT8(d:Tmp)(x:Operand):CS P E (some d) (.box x) ⟨c,fr,s⟩=vY d c fr s (B9 fr x):=by
 show jD (some d) x _=_
 unfold jD vY
 cases B9 fr x <;> rfl
def st3(γ:Nat)(P:Program)(T:TypeId)(c:Nat)(fr:Fr)(s:St)(l q off:Nat)(v:V):Option (Nat×AX)→Option XS
 | some (γ',.box cs)=>if γ'=γ∧A7 v=true∧0<P.cellsOf T∧(A6 v).length=P.cellsOf T∧off+P.cellsOf T≤cs.length∧γ<c then some ⟨c,fr,s.put l q γ (.box (A0 cs off (A6 v)))⟩ else none
 | _=>none
def st4(γ:Nat)(P:Program)(T:TypeId)(c:Nat)(fr:Fr)(s:St)(l q i off:Nat)(v:V):Option (Nat×AX)→Option XS
 | some (γ',.vec U es)=>if γ'=γ∧A7 v=true∧0<P.cellsOf T∧(A6 v).length=P.cellsOf T∧i<es.length∧off+P.cellsOf T≤(es.getD i []).length∧γ<c then some ⟨c,fr,s.put l q γ (.vec U (es.set i (A0 (es.getD i []) off (A6 v))))⟩ else none
 | _=>none
def GF(P:Program)(T:TypeId)(c:Nat)(fr:Fr)(s:St):Option V→Option V→Option XS
 | some (.ptr l q γ off),some v=>st3 γ P T c fr s l q off v (s.get l q)
 | some (.eptr l q γ i off),some v=>st4 γ P T c fr s l q i off v (s.get l q)
 | _,_=>none
@[simp] theorem AHP(T:TypeId)(l q γ off:Nat)(v:V):GF P T c fr s (some (.ptr l q γ off)) (some v)=st3 γ P T c fr s l q off v (s.get l q):=rfl
@[simp] theorem ACX(T:TypeId)(l q γ i off:Nat)(v:V):GF P T c fr s (some (.eptr l q γ i off)) (some v)=st4 γ P T c fr s l q i off v (s.get l q):=rfl
@[simp] theorem AHQ(γ γ':Nat)(T:TypeId)(l q off:Nat)(v:V)(cs:List V):st3 γ P T c fr s l q off v (some (γ',.box cs))=if γ'=γ∧A7 v=true∧0<P.cellsOf T∧(A6 v).length=P.cellsOf T∧off+P.cellsOf T≤cs.length∧γ<c then some ⟨c,fr,s.put l q γ (.box (A0 cs off (A6 v)))⟩ else none:=rfl
@[simp] theorem AHR(γ γ':Nat)(T:TypeId)(l q i off:Nat)(v:V)(U:TypeId)(es:List (List V)):st4 γ P T c fr s l q i off v (some (γ',.vec U es))=if γ'=γ∧A7 v=true∧0<P.cellsOf T∧(A6 v).length=P.cellsOf T∧i<es.length∧off+P.cellsOf T≤(es.getD i []).length∧γ<c then some ⟨c,fr,s.put l q γ (.vec U (es.set i (A0 (es.getD i []) off (A6 v))))⟩ else none:=rfl
theorem AHS(T:TypeId)(x y:Operand):II P none T x y ⟨c,fr,s⟩=GF P T c fr s (B9 fr x) (B9 fr y):=by
 unfold II
 simp only
 cases B9 fr x with
 | none=>rfl
 | some p =>
  cases B9 fr y with
  | none=>cases p <;> rfl
  | some v =>
   cases p with
   | ptr l q γ off =>
    simp only[AHP]
    cases s.get l q with
    | none=>rfl
    | some z =>
     obtain⟨γ',r⟩:=z
     cases r with
     | box cs =>
      simp only[AHQ,Bool.and_eq_true,Nat.blt_eq,Nat.ble_eq,Nat.beq_eq,and_assoc]
     | _=>rfl
   | eptr l q γ i off =>
    simp only[ACX]
    cases s.get l q with
    | none=>rfl
    | some z =>
     obtain⟨γ',r⟩:=z
     cases r with
     | vec U es =>
      simp only[AHR,Bool.and_eq_true,Nat.blt_eq,Nat.ble_eq,Nat.beq_eq,and_assoc]
     | _=>rfl
   | _=>rfl
@[simp] theorem AT9(T:TypeId)(x y:Operand):CS P E none (.sto T x y) ⟨c,fr,s⟩=GF P T c fr s (B9 fr x) (B9 fr y):=AHS c T x y
noncomputable def apW(P:Program)(e:TypeId)(d c:Nat)(fr:Fr)(s:St)(l q γ n:Nat)(ys:List (List V)):Option (Nat×AX)→Option XS
 | some (γ',.vec W es)=>if γ'=γ∧W=e∧n=es.length∧es.all (fun y=>y.length == P.cellsOf e)=true∧B4 P e es.length ys=true then
   some ⟨c+1,(d,true,.vec l q c (es.length+ys.length)) :: fr,s.put l q c (.vec e (es++ys))⟩ else none
 | _=>none
@[simp] theorem TB(e:TypeId)(d:Nat)(l q γ γ' n:Nat)(ys es:List (List V))(W:TypeId):apW P e d c fr s l q γ n ys (some (γ',.vec W es))=if γ'=γ∧W=e∧n=es.length∧es.all (fun y=>y.length == P.cellsOf e)=true∧B4 P e es.length ys=true then
   some ⟨c+1,(d,true,.vec l q c (es.length+ys.length)) :: fr,s.put l q c (.vec e (es++ys))⟩ else none:=rfl
noncomputable def wZ(P:Program)(e:TypeId)(d c:Nat)(fr:Fr)(s:St)(xv:V)(ys:List (List V)):Option XS:=match HQ xv ys with
 | some es=>if es.all (fun y=>y.length == P.cellsOf e)=true∧B4 P e es.length ys=true then some ⟨c+1,(d,true,.vec s.up.length d c (es.length+ys.length)) :: fr,s.put s.up.length d c (.vec e (es++ys))⟩ else none
 | none=>match xv with
  | .vec l q γ n=>apW P e d c fr s l q γ n ys (P8 n ys (s.get l q))
  | _=>none
@[simp] theorem kN(n γ:Nat)(ys es:List (List V))(U:TypeId):P8 n ys (some (γ,.vec U es))=some (γ,.vec U (dU n ys es)):=rfl
@[simp] theorem AUA(n:Nat)(ys:List (List V)):P8 n ys none=none:=rfl
attribute [simp] TX
@[simp] theorem A7K(e:TypeId)(d:Nat)(ys:List (List V)):wZ P e d c fr s .nil ys=if B4 P e 0 ys=true then some ⟨c+1,(d,true,.vec s.up.length d c ys.length) :: fr,s.put s.up.length d c (.vec e ys)⟩ else none:=by
 simp[wZ,HQ]
@[simp] theorem A7L(e:TypeId)(d:Nat)(ys:List (List V)):wZ P e d c fr s (.list true []) ys=if B4 P e 0 ys=true then some ⟨c+1,(d,true,.vec s.up.length d c ys.length) :: fr,s.put s.up.length d c (.vec e ys)⟩ else none:=by
 simp[wZ,HQ]
@[simp] theorem A2X(e:TypeId)(d:Nat)(z y:List V)(es ys:List (List V)):wZ P e d c fr s (.list true (z :: es)) (y :: ys)=if (z :: es).all (fun y=>y.length == P.cellsOf e)=true∧B4 P e (z :: es).length (y :: ys)=true then
   some ⟨c+1,(d,true,.vec s.up.length d c ((z :: es).length+(y :: ys).length)) :: fr,s.put s.up.length d c (.vec e ((z :: es)++(y :: ys)))⟩ else none:=rfl
@[simp] theorem AHT(e:TypeId)(d:Nat)(l q γ n:Nat)(ys:List (List V)):wZ P e d c fr s (.vec l q γ n) ys=apW P e d c fr s l q γ n ys (P8 n ys (s.get l q)):=by
 simp[wZ,HQ]
noncomputable def ap3(P:Program)(d c:Nat)(fr:Fr)(s:St):Option (Option Nat×TypeId)→Option V→Option V→Option XS
 | some (none,e),some xv,some yv=>ap4 e xv (elemsOf s yv)
 | _,_,_=>none
where ap4 (e:TypeId) (xv:V):Option (List (List V))→Option XS
 | some ys=>wZ P e d c fr s xv ys
 | none=>none
@[simp] theorem ACY(d:Nat)(e:TypeId)(xv yv:V):ap3 P d c fr s (some (none,e)) (some xv) (some yv)=ap3.ap4 P d c fr s e xv (elemsOf s yv):=rfl
@[simp] theorem ACZ(d:Nat)(e:TypeId)(xv:V)(ys:List (List V)):ap3.ap4 P d c fr s e xv (some ys)=wZ P e d c fr s xv ys:=rfl
@[simp] theorem AHU(b:Bool)(es:List (List V)):elemsOf s (.list b es)=some es:=rfl
@[simp] theorem AKM:elemsOf s .nil=some []:=rfl
theorem ifB{α:Type}{b:Bool}{x y:α}:(Bool.rec y x b:α)=if b=true then x else y:=by cases b <;> rfl
theorem vZ{k:Nat}{e:TypeId}(d:Nat)(x y:Option V):ap3 P d c fr s (some (some k,e)) x y=none:=by cases x <;> cases y <;> rfl
@[simp] theorem AUB(d:Tmp)(x y:Operand)(T:TypeId):CS P E (some d) (.app [x,y] [T,T]) ⟨c,fr,s⟩=ap3 P d c fr s (BI P T) (B9 fr x) (B9 fr y):=by
 show xAppend P (some d) [x,y] [T,T] _=_
 unfold xAppend xAppG
 simp only[Nat.beq_refl]
 cases hT:BI P T with
 | none=>cases B9 fr x <;> cases B9 fr y <;> rfl
 | some p =>
  obtain⟨k,e⟩:=p
  cases k with
  | some k=>rw[vZ]
  | none =>
   cases B9 fr x with
   | none=>rfl
   | some xv =>
    cases B9 fr y with
    | none=>rfl
    | some yv =>
     simp only[ACY]
     cases elemsOf s yv with
     | none=>rfl
     | some ys =>
      simp only[ACZ,wZ]
      cases HQ xv ys with
      | some es =>
       simp only[ifB,Bool.and_eq_true,List.length_append]
       by_cases hC:es.all (fun y=>y.length == P.cellsOf e)=true∧B4 P e es.length ys=true
       ·rw[if_pos hC,if_pos hC]
       ·rw[if_neg hC,if_neg hC]
      | none =>
       simp only
       unfold jI
       cases xv with
       | vec l q γ n =>
        simp only
        cases P8 n ys (s.get l q)with
        | none=>rfl
        | some z =>
         obtain⟨γ',r⟩:=z
         cases r with
         | vec W es =>
          simp only[ifB,Bool.and_eq_true,List.length_append,TB,Nat.beq_eq,and_assoc]
          by_cases hC:γ'=γ∧W=e∧n=es.length∧es.all (fun y=>y.length == P.cellsOf e)=true∧B4 P e es.length ys=true
          ·rw[if_pos hC,if_pos hC]
          ·rw[if_neg hC,if_neg hC]
         | _=>rfl
       | _=>rfl
def mc2:Option V→Option (List V)→Option (List V)
 | some v,some l=>some (v :: l)
 | _,_=>none
@[simp] theorem A20(v:V)(l:List V):mc2 (some v) (some l)=some (v :: l):=rfl
@[simp] theorem A21(f:Operand→Option V):E1 f []=some []:=rfl
@[simp] theorem AUC(f:Operand→Option V)(x:Operand)(l:List Operand):E1 f (x :: l)=mc2 (f x) (E1 f l):=by
 simp only[E1]
 cases f x with
 | none=>rfl
 | some v=>cases E1 f l <;> rfl
noncomputable def IQ(E:XE)(d:Option Tmp)(st:XS)(f:FuncId)(args:List V):Option XS:=match E.cf f args st with
 | some (r,st')=>some ⟨st'.c,putD st'.fr d true r,st'.s⟩
 | none=>none
noncomputable def ca1(E:XE)(d:Option Tmp)(st:XS):Option V→Option (List V)→Option XS
 | some (.fn f first cap),some vs=>IQ E d st f ((first++vs++cap).map weakV)
 | some (.yld l q γ),some vs=>ca3 (E.cy l q γ vs st)
 | _,_=>none
where ca3:Option (V×XS)→Option XS
 | some (r,st')=>some ⟨st'.c,putD st'.fr d true r,st'.s⟩
 | none=>none
@[simp] theorem APJ(st:XS)(f:FuncId)(first cap vs:List V):ca1 E d st (some (.fn f first cap)) (some vs)=IQ E d st f ((first++vs++cap).map weakV):=rfl
@[simp] theorem AHV(st:XS)(l q γ:Nat)(vs:List V):ca1 E d st (some (.yld l q γ)) (some vs)=ca1.ca3 d (E.cy l q γ vs st):=rfl
@[simp] theorem A22(d:Tmp)(r:V):ca1.ca3 (some d) (some (r,⟨c,fr,s⟩))=some ⟨c,(d,true,r) :: fr,s⟩:=rfl
theorem kO(st:XS)(f:Operand)(args:List Operand):S1 E.cf E.cy d f args st=ca1 E d st (B9 st.fr f) (E1 (B9 st.fr) args):=by
 unfold S1
 cases B9 st.fr f with
 | none=>rfl
 | some v =>
  cases v with
  | fn f first cap =>
   simp only
   cases E1 (B9 st.fr) args with
   | none=>rfl
   | some vs=>simp only[APJ,IQ]; cases E.cf f ((first++vs++cap).map weakV) st <;> rfl
  | yld l q γ =>
   simp only[nN]
   cases E1 (B9 st.fr) args with
   | none=>rfl
   | some vs=>simp only[AHV]; cases E.cy l q γ vs st <;> rfl
  | _=>rfl
@[simp] theorem APK(f:Operand)(args:List Operand):CS P E d (.call false none f args) ⟨c,fr,s⟩=ca1 E d ⟨c,fr,s⟩ (B9 fr f) (E1 (B9 fr) args):=kO d ⟨c,fr,s⟩ f args
@[simp] theorem AKO(t:Tmp)(f:Operand)(args:List Operand):CS P E d (.call false (some t) f args) ⟨c,fr,s⟩=ca1 E d (ZQ (some t) ⟨c,fr,s⟩) (B9 (ZQ (some t) ⟨c,fr,s⟩).fr f) (E1 (B9 (ZQ (some t) ⟨c,fr,s⟩).fr) args):=kO d _ f args
def orK:Bool→Option V→Option V→Option V
 | true,some r,_=>some r
 | _,_,z=>z
@[simp] theorem A23(r:V)(z:Option V):orK true (some r) z=some r:=rfl
@[simp] theorem A24(b:Bool)(z:Option V):orK b z z=z:=by cases b <;> cases z <;> rfl
theorem kQ{P:Program}{kn:CF0}{rec:F0}{f:FuncId}{args:List V}:E9 P kn rec f args=orK (args.all (AL 9)) (AY P kn rec f (args.map weakN)) (AY P kn rec f args):=by
 unfold E9 orK
 cases AY P kn rec f (args.map weakN) <;> cases args.all (AL 9) <;> rfl
attribute [simp] kQ
@[simp] theorem AUE(k:IntKind)(n:Int):weakN (.int k n)=.int k n:=rfl
@[simp] theorem APL(b:Bool):weakN (.bool b)=.bool b:=rfl
@[simp] theorem AUF(v:Value):weakN (.raw v)=.raw v:=rfl
@[simp] theorem APM(b:Bool)(es:List (List V)):weakN (.list b es)=.list b es:=rfl
@[simp] theorem AUG(cs:List V):weakN (.agg cs)=.agg (cs.map weakM):=rfl
@[simp] theorem AUH:weakN .nil=.list false []:=rfl
@[simp] theorem A25(f:FuncId)(x y:List V):weakN (.fn f x y)=.fn f x y:=rfl
@[simp] theorem AUI(cs:List V):weakN (.ref cs)=.ref cs:=rfl
@[simp] theorem AUJ(k:IntKind)(n:Int):weakM (.int k n)=.int k n:=rfl
@[simp] theorem APN(b:Bool):weakM (.bool b)=.bool b:=rfl
@[simp] theorem APO(b:Bool)(es:List (List V)):weakM (.list b es)=.list b es:=rfl
@[simp] theorem AUK:weakM .nil=.list false []:=rfl
@[simp] theorem A26(f:FuncId)(x y:List V):weakM (.fn f x y)=.fn f x y:=rfl
@[simp] theorem AUL(cs:List V):weakM (.ref cs)=.ref cs:=rfl
theorem ZV{A:Ann}{kn:CF0}{n:Nat}{f:FuncId}{args:List V}(h:args.all (AL 9)=true)(hh:AK P f=false)(st:XS):IQ (BQ P A kn n) d st f args=C4 d st (orK true (AY P kn (AE P A kn n) f (args.map weakN)) (AY P kn (AE P A kn n) f args)):=by
 have e:orK true (AY P kn (AE P A kn n) f (args.map weakN)) (AY P kn (AE P A kn n) f args)=E9 P kn (AE P A kn n) f args:=by rw[kQ,h]
 rw[e]
 show(match Y3 P kn (AE P A kn n) f args st with
  | some (r,st')=>some (⟨st'.c,putD st'.fr d true r,st'.s⟩:XS)
  | none=>none)=_
 unfold Y3
 rw[h,hh]
 cases E9 P kn (AE P A kn n) f args <;> rfl
end
@[simp] theorem A27(k:IntKind)(n:Int):weakV (.int k n)=.int k n:=rfl
@[simp] theorem AUM(b:Bool):weakV (.bool b)=.bool b:=rfl
@[simp] theorem AUN(b:Bool)(es:List (List V)):weakV (.list b es)=.list false es:=rfl
@[simp] theorem A28(cs:List V):weakV (.agg cs)=.agg (cs.map weakC):=rfl
@[simp] theorem AUO(k:IntKind)(n:Int):weakC (.int k n)=.int k n:=rfl
@[simp] theorem APP(b:Bool):weakC (.bool b)=.bool b:=rfl
@[simp] theorem APQ(b:Bool)(es:List (List V)):weakC (.list b es)=.list false es:=rfl
@[simp] theorem AUP:weakC .nil=.nil:=rfl
@[simp] theorem A29:weakV .nil=.nil:=rfl
@[simp] theorem A7M(f:FuncId)(x y:List V):weakV (.fn f x y)=.fn f x y:=rfl
@[simp] theorem APR(f:Nat)(k:IntKind)(n:Int):AL (f+1) (.int k n)=true:=rfl
@[simp] theorem AKP(f:Nat)(b:Bool):AL (f+1) (.bool b)=true:=rfl
@[simp] theorem APS(f:Nat):AL (f+1) .nil=true:=rfl
@[simp] theorem APT(f:Nat)(cs:List V):AL (f+1) (.agg cs)=cs.all (AL f):=rfl
@[simp] theorem APU(f:Nat)(cs:List V):AL (f+1) (.tup cs)=cs.all (AL f):=rfl
@[simp] theorem APV(f:Nat)(cs:List V):AL (f+1) (.ref cs)=cs.all (AL f):=rfl
@[simp] theorem AKQ(f:Nat)(b:Bool)(es:List (List V)):AL (f+1) (.list b es)=es.all fun e=>e.all (AL f):=rfl
@[simp] theorem AUQ(f:Nat)(g:FuncId)(x y:List V):AL (f+1) (.fn g x y)=(x.all (AL f)&&y.all (AL f)):=rfl
section
variable (r:Operand→Option V)
def o1(f:V→Option V):Option V→Option V
 | some v=>f v
 | none=>none
@[simp] theorem A7N(f:V→Option V)(v:V):o1 f (some v)=f v:=rfl
def o2(f:V→V→Option V):Option V→Option V→Option V
 | some a,some b=>f a b
 | _,_=>none
@[simp] theorem A7O(f:V→V→Option V)(a b:V):o2 f (some a) (some b)=f a b:=rfl
theorem TC(f:V→Option V)(x:Option V):x.bind f=o1 f x:=by cases x <;> rfl
theorem WC(f:V→V→Option V)(x y:Option V):(x.bind fun a=>y.bind fun b=>f a b)=o2 f x y:=by cases x <;> cases y <;> rfl
@[simp] theorem BCY(op:UnOp)(T:TypeId)(x:Operand):H0 P (aQ (.unOp op T x)) s r=o1 (Z9 op) (r x):=TC _ _
@[simp] theorem A3A(T U:TypeId)(x:Operand):H0 P (aQ (.convert T U x)) s r=o1 (KH P T U) (r x):=TC _ _
@[simp] theorem A3B(T:TypeId)(x i:Operand):H0 P (aQ (.indexAddr T x i)) s r=o2 (BM P s T) (r x) (r i):=WC _ _ _
@[simp] theorem A7P(T:TypeId)(x i:Operand):H0 P (aQ (.index T x i)) s r=o2 (HZ P T) (r x) (r i):=WC _ _ _
@[simp] theorem AUR(T:TypeId)(x:Operand)(f:Nat):H0 P (aQ (.field T x f)) s r=o1 (fun a=>HY P T a f) (r x):=TC _ _
@[simp] theorem A7Q(x:Operand)(i:Nat):H0 P (aQ (.extract x i)) s r=o1 (fun a=>FD a i) (r x):=TC _ _
@[simp] theorem A7R(x:Operand)(T:TypeId):H0 P (aQ (.call ⟨.builtin .len,#[x],#[T]⟩)) s r=o1 (F4 P T) (r x):=TC _ _
end
@[simp] theorem A3C(b:Bool):Z9 .not (.bool b)=some (.bool !b):=rfl
@[simp] theorem A3D(k:IntKind)(n:Int):Z9 .neg (.int k n)=some (.int k (k.wrap (0-n))):=rfl
@[simp] theorem ADZ(vs:List V)(i:Nat):FD (.tup vs) i=vs[i]?:=rfl
@[simp] theorem BCZ(up:List AB)(loc:AB)(l k g:Nat)(r:AX):St.put ⟨up,loc⟩ l k g r=if l=up.length then⟨up,(k,g,r) :: loc⟩ else⟨up.modify l fun L=>L.put k g r,loc⟩:=rfl
def upG(k:Nat):Option AB→Option (Nat×AX)
 | some L=>L.get k
 | none=>none
@[simp] theorem A3E(k:Nat)(L:AB):upG k (some L)=L.get k:=rfl
@[simp] theorem AC0(up:List AB)(loc:AB)(l k:Nat):St.get ⟨up,loc⟩ l k=if l=up.length then loc.get k else upG k up[l]?:=rfl
def kx(k:Nat)(r:Fr):Option (Bool×V)→Fr
 | some (c,v)=>(k,c,v) :: r
 | none=>r
@[simp] theorem A7S(k:Nat)(r:Fr)(c:Bool)(v:V):kx k r (some (c,v))=(k,c,v) :: r:=rfl
@[simp] theorem A7T(k:Nat)(r:Fr):kx k r none=r:=rfl
@[simp] theorem AUS:PX [] fr=[]:=rfl
@[simp] theorem APW(k:Nat)(ks:List Nat):PX (k :: ks) fr=kx k (PX ks fr) (BT fr k):=by
 show(match BT fr k with | some (c,v)=>(k,c,v) :: PX ks fr | none=>PX ks fr)=_
 cases BT fr k <;> rfl
def kl(k:Nat)(r:AB):Option (Nat×AX)→AB
 | some (g,x)=>(k,g,x) :: r
 | none=>r
@[simp] theorem A7U(k:Nat)(r:AB)(g:Nat)(x:AX):kl k r (some (g,x))=(k,g,x) :: r:=rfl
@[simp] theorem A7V(k:Nat)(r:AB):kl k r none=r:=rfl
@[simp] theorem AUT(L:AB):H8 [] L=[]:=rfl
@[simp] theorem APX(k:Nat)(ks:List Nat)(L:AB):H8 (k :: ks) L=kl k (H8 ks L) (L.get k):=by
 unfold kl
 simp only[H8]
 cases L.get k <;> rfl
@[simp] theorem A3F(ks ls:List Nat)(c:Nat)(fr:Fr)(up:List AB)(loc:AB):CB (some (ks,ls)) ⟨c,fr,⟨up,loc⟩⟩=⟨c,PX ks fr,⟨up,H8 ls loc⟩⟩:=rfl
@[simp] theorem APY:CB none st=st:=rfl
@[simp] theorem BC0:PN (some st)=some (.normal,st):=rfl
@[simp] theorem A3G:PN none=none:=rfl
@[simp] theorem A7W(c:Prop)[Decidable c](x y:Option XS):PN (if c then x else y)=if c then PN x else PN y:=by split <;> rfl
@[simp] theorem A3H(l:List HK):JN P E (.str l) st=OE P E l (some st):=rfl
@[simp] theorem A3I(S:List kJ):JN P E (.drw S) st=US P E S (some st):=rfl
@[simp] theorem A3J(ks:List (Nat×Nat×Nat)):JN P E (.cls ks) st=QL P ks (some st):=rfl
@[simp] theorem A3K(o:Option XS):QL P [] o=o:=rfl
@[simp] theorem AUU(T a d:Nat)(r:List (Nat×Nat×Nat))(st:XS):QL P ((T,a,d) :: r) (some st)=QL P r (if oG (B9 st.fr (.tmp a))=true then C4 (some d) st (K4 P st.fr st.s T (.tmp a)) else none):=by
 show QL P r (Bool.rec _ _ (oG (B9 st.fr (.tmp a))))=_
 cases oG (B9 st.fr (.tmp a))with
 | false=>rfl
 | true =>
  simp only[if_true]
  congr 1
@[simp] theorem A3L(l k g o:Nat):oG (some (.ptr l k g o))=true:=rfl
@[simp] theorem A3M(rs:List ResultVar):VX P rs (some (.ret,st))=VX.finV st.s (FM P rs st.fr st.s):=rfl
@[simp] theorem AKR(rs:List ResultVar):VX P rs (some (.normal,st))=VX.finV st.s (FM P rs st.fr st.s):=rfl
def APZ:Option V→Option V
 | some r=>if AL 9 r=true then some r else none
 | none=>none
@[simp] theorem AUV(r:V):APZ (some r)=if AL 9 r=true then some r else none:=rfl
@[simp] theorem AUW(v:V):VX.finV s (some v)=APZ (AZ s 4 v):=by
 unfold VX.finV APZ
 simp only
 cases AZ s 4 v with
 | none=>rfl
 | some r=>simp only[ifB]
@[simp] theorem AP0(t:Tmp):DI P fr s (.tmp t)=rdT (BT fr t):=by
 rw[EX]
 show(match fr.get t with
  | some (true,v)=>some v
  | _=>none)=_
 cases fr.get t with
 | none=>rfl
 | some p=>obtain⟨c,v⟩:=p; cases c <;> rfl
@[simp] theorem A3N(x:ResultVar):FM P [x] fr s=DI P fr s x:=by
 unfold FM
 simp only[List.mapM_cons,List.mapM_nil]
 cases DI P fr s x <;> rfl
def re2:Option V→Option V→Option V
 | some a,some b=>some (.tup [a,b])
 | _,_=>none
@[simp] theorem A3O(a b:V):re2 (some a) (some b)=some (.tup [a,b]):=rfl
@[simp] theorem A3P(x y:ResultVar):FM P [x,y] fr s=re2 (DI P fr s x) (DI P fr s y):=by
 unfold FM
 simp only[List.mapM_cons,List.mapM_nil]
 cases DI P fr s x <;> cases DI P fr s y <;> rfl
def re3:Option V→Option V→Option V→Option V
 | some a,some b,some c=>some (.tup [a,b,c])
 | _,_,_=>none
@[simp] theorem A3Q(a b c:V):re3 (some a) (some b) (some c)=some (.tup [a,b,c]):=rfl
@[simp] theorem AP1(x y z:ResultVar):FM P [x,y,z] fr s=re3 (DI P fr s x) (DI P fr s y) (DI P fr s z):=by
 unfold FM
 simp only[List.mapM_cons,List.mapM_nil]
 cases DI P fr s x <;> cases DI P fr s y <;> cases DI P fr s z <;> rfl
@[simp] theorem AP2(f:Nat)(k:IntKind)(n:Int):AZ s (f+1) (.int k n)=some (.int k n):=rfl
@[simp] theorem AKS(f:Nat)(b:Bool):AZ s (f+1) (.bool b)=some (.bool b):=rfl
@[simp] theorem AP3(f:Nat):AZ s (f+1) .nil=some .nil:=rfl
@[simp] theorem AKT(f:Nat)(b:Bool)(es:List (List V)):AZ s (f+1) (.list b es)=some (.list false es):=rfl
def kR(mk:List V→V):Option (List V)→Option V
 | some l=>some (mk l)
 | none=>none
@[simp] theorem A3R(mk:List V→V)(l:List V):kR mk (some l)=some (mk l):=rfl
def PO(f:V→Option V):List V→Option (List V)
 | []=>some []
 | v :: l=>mc2 (f v) (PO f l)
theorem TD(f:V→Option V):∀(l:List V),l.mapM f=PO f l
 | []=>rfl
 | v :: l=>by
  simp only[List.mapM_cons,PO,TD f l]
  cases f v <;> cases PO f l <;> rfl
@[simp] theorem A3S(f:V→Option V):PO f []=some []:=rfl
@[simp] theorem AUX(f:V→Option V)(v:V)(l:List V):PO f (v :: l)=mc2 (f v) (PO f l):=rfl
@[simp] theorem AP4(f:Nat)(cs:List V):AZ s (f+1) (.agg cs)=kR .agg (PO (AZ s f) cs):=by
 simp only[AZ,TD]; cases PO (AZ s f) cs <;> rfl
@[simp] theorem AP5(f:Nat)(cs:List V):AZ s (f+1) (.tup cs)=kR .tup (PO (AZ s f) cs):=by
 simp only[AZ,TD]; cases PO (AZ s f) cs <;> rfl
def cv1(g m:Nat):Option (Nat×AX)→Option V
 | some (g',.vec _ es)=>if g'=g∧m≤es.length then some (.list false (es.take m)) else none
 | _=>none
@[simp] theorem AC1(g m g':Nat)(T:TypeId)(es:List (List V)):cv1 g m (some (g',.vec T es))=if g'=g∧m≤es.length then some (.list false (es.take m)) else none:=rfl
@[simp] theorem QP(f:Nat)(up:List AB)(loc:AB)(l k g m:Nat):AZ ⟨up,loc⟩ (f+1) (.vec l k g m)=if l=up.length then cv1 g m (loc.get k) else some (.vec l k g m):=by
 simp only[AZ]
 split
 ·cases loc.get k with
  | none=>rfl
  | some z=>obtain⟨g',r⟩:=z; cases r <;> rfl
 ·rfl
@[simp] theorem AKU(t:Nat)(T:TypeId):DI P fr s (.cell t T)=ld1 P s T (rdT (BT fr t)):=by
 rw[EX]
 show(match fr.get t with
  | some (true,p)=>(A5 s p).bind (BL P T)
  | _=>none)=_
 cases fr.get t with
 | none=>rfl
 | some p =>
  obtain⟨c,v⟩:=p
  cases c with
  | false=>rfl
  | true =>
   simp only[ACV,ACW]
   cases A5 s v <;> rfl
section
variable (d:Option Tmp)(c:Nat)
@[simp] theorem A3T(r:Option XS):US P E [] r=r:=rfl
@[simp] theorem AUY(p:kJ)(S:List kJ)(r:Option XS):US P E (p :: S) r=US P E S (OE P E p.sq (ZS (UR P E p.ph (ACI p.new r)))):=rfl
@[simp] theorem A3U(r:Option (XS×AM×AM)):UR P E [] r=r:=rfl
@[simp] theorem AUZ(i:HK)(l:List HK)(r:Option (XS×AM×AM)):UR P E (i :: l) r=UR P E l (kI P E i r):=rfl
@[simp] theorem A7X(new:List Tmp)(up:List AB)(loc:AB):ACI new (some ⟨c,fr,⟨up,loc⟩⟩)=if (new.all fun d=>(loc.get d).isNone)=true then some (⟨c,fr,⟨up,loc⟩⟩,[],[]) else none:=by
 show(Bool.rec none _ _:Option _)=_
 rw[ifB]; rfl
@[simp] theorem AU0(rd wr:AM):ZS (some (st,rd,wr))=if (wr.all fun p=>!(rd.contains p))=true then some st else none:=by
 show(Bool.rec none _ _:Option _)=_
 rw[ifB]
@[simp] theorem AU1:ZS none=none:=rfl
@[simp] theorem A3V(c:Prop)[Decidable c](x y:Option (XS×AM×AM)):ZS (if c then x else y)=if c then ZS x else ZS y:=by split <;> rfl
@[simp] theorem AU2(i:HK):kI P E i none=none:=rfl
@[simp] theorem A3W(i:HK)(c:Prop)[Decidable c](x y:Option (XS×AM×AM)):kI P E i (if c then x else y)=if c then kI P E i x else kI P E i y:=by split <;> rfl
@[simp] theorem A3X(l:List HK)(c:Prop)[Decidable c](x y:Option (XS×AM×AM)):UR P E l (if c then x else y)=if c then UR P E l x else UR P E l y:=by split <;> rfl
@[simp] theorem A3Y(l:List kJ)(c:Prop)[Decidable c](x y:Option XS):US P E l (if c then x else y)=if c then US P E l x else US P E l y:=by split <;> rfl
def ph3(rds rd wr:AM):Option (XS×AM)→Option (XS×AM×AM)
 | some (st,w)=>some (st,rds++rd,w++wr)
 | none=>none
@[simp] theorem A3Z(rds rd wr w:AM):ph3 rds rd wr (some (st,w))=some (st,rds++rd,w++wr):=rfl
@[simp] theorem A30(rds rd wr:AM):ph3 rds rd wr none=none:=rfl
@[simp] theorem A7Y(rds rd wr:AM)(c:Prop)[Decidable c](x y:Option (XS×AM)):ph3 rds rd wr (if c then x else y)=if c then ph3 rds rd wr x else ph3 rds rd wr y:=by split <;> rfl
@[simp] theorem AU4(i:HK)(rd wr:AM):kI P E i (some (st,rd,wr))=ph3 (G7 P i.k (B9 st.fr)) rd wr (UQ P E i st):=by
 show(match UQ P E i st with | some (st',w)=>some (st',G7 P i.k (B9 st.fr)++rd,w++wr) | none=>none)=_
 cases UQ P E i st <;> rfl
@[simp] theorem AU5(k:IK):UQ P E ⟨none,d,k⟩ st=DB P E d k st:=rfl
noncomputable def gI0(P:Program)(E:XE)(d:Option Tmp)(k:IK)(st:XS)(w:Bool)(r:Option (Bool×V)):Option (XS×AM):=match r with
 | some (c,.bool b)=>if (c&&(b == w))=true then DB P E d k st else if EZ k=true then none else some (HE d st,[])
 | _=>none
@[simp] theorem AP6(t:Tmp)(w:Bool)(k:IK):UQ P E ⟨some (t,w),d,k⟩ st=gI0 P E d k st w (BT st.fr t):=by
 show(match(match BT st.fr t with | some (c,.bool b)=>some (c&&(b == w)) | _=>none:Option Bool)with
  | some true=>DB P E d k st
  | some false=>Bool.rec (some (HE d st,[])) none (EZ k)
  | none=>none)=_
 unfold gI0
 cases BT st.fr t with
 | none=>rfl
 | some p =>
  obtain⟨c,v⟩:=p
  cases v with
  | bool b=>cases h:(c&&(b == w)) <;> simp[h,ifB]
  | _=>rfl
@[simp] theorem A31(k:IK)(w c b:Bool):gI0 P E d k st w (some (c,.bool b))=if (c&&(b == w))=true then DB P E d k st else if EZ k=true then none else some (HE d st,[]):=rfl
@[simp] theorem BC2(T:TypeId)(x:Operand)(f:Operand→Option V):G7 P (.ld T x) f=BR (Nat.beq (P.cellsOf T) 1) (f x):=rfl
@[simp] theorem AP7(x y:Operand)(f:Operand→Option V):JK f [x,y]=EI (f y):=rfl
@[simp] theorem AHW(b:Bool)(es:List (List V)):EI (some (.list b es))=[]:=rfl
@[simp] theorem AKV:EI (some .nil)=[]:=rfl
@[simp] theorem AKW(l k γ n:Nat):EI (some (.vec l k γ n))=[(l,k)]:=rfl
@[simp] theorem BC3(x:Operand)(f:Operand→Option V):G7 P (.mv x) f=[]:=rfl
@[simp] theorem A7Z(op:BinOp)(T:TypeId)(x y:Operand)(f:Operand→Option V):G7 P (.bin op T x y) f=[]:=rfl
@[simp] theorem BC4(T:TypeId)(x:Operand)(i:Nat)(f:Operand→Option V):G7 P (.fa T x i) f=[]:=rfl
@[simp] theorem A32(x y z:Operand)(f:Operand→Option V):G7 P (.pick x y z) f=[]:=rfl
@[simp] theorem AU6(T:TypeId)(ps:List (Nat×Operand))(f:Operand→Option V):G7 P (.build T ps) f=[]:=rfl
@[simp] theorem AP8(T:TypeId)(n:Nat)(ps:List (Nat×Operand))(f:Operand→Option V):G7 P (.buildS T n ps) f=[]:=rfl
@[simp] theorem AU7(T:TypeId)(f:Operand→Option V):G7 P (.alloc T) f=[]:=rfl
@[simp] theorem A70(x:Operand)(f:Operand→Option V):G7 P (.box x) f=[]:=rfl
@[simp] theorem A71(T:TypeId)(x y:Operand)(f:Operand→Option V):G7 P (.sto T x y) f=[]:=rfl
@[simp] theorem A72(x:List Operand)(y:List TypeId)(f:Operand→Option V):G7 P (.app x y) f=JK f x:=rfl
@[simp] theorem A33(b:Bool)(t:Option Tmp)(g:Operand)(x:List Operand)(f:Operand→Option V):G7 P (.call b t g x) f=[]:=rfl
@[simp] theorem A34(T:TypeId)(x i:Operand)(f:Operand→Option V):G7 P (.oth (.indexAddr T x i)) f=JJ (f x):=rfl
@[simp] theorem BC5(op:UnOp)(T:TypeId)(x:Operand)(f:Operand→Option V):G7 P (.oth (.unOp op T x)) f=[]:=rfl
@[simp] theorem A73(x:Operand)(i:Nat)(f:Operand→Option V):G7 P (.oth (.extract x i)) f=[]:=rfl
@[simp] theorem A74(x:Operand)(T:TypeId)(b:Builtin)(f:Operand→Option V):G7 P (.oth (.call ⟨.builtin b,#[x],#[T]⟩)) f=[]:=by cases b <;> rfl
@[simp] theorem BC6(g:Fn)(x y:Array Operand)(f:Operand→Option V):G7 P (.oth (.makeFunc g x y)) f=[]:=rfl
def nw:Option XS→Option (XS×AM)
 | some st=>some (st,[])
 | none=>none
@[simp] theorem A75:nw (some st)=some (st,[]):=rfl
@[simp] theorem A76:nw none=none:=rfl
@[simp] theorem BC7(c:Prop)[Decidable c](x y:Option XS):nw (if c then x else y)=if c then nw x else nw y:=by split <;> rfl
theorem F1(r:Option XS):S2 r=nw r:=by cases r <;> rfl
@[simp] theorem A35(x:Operand):DB P E d (.mv x) st=nw (CS P E d (.mv x) st):=F1 _
@[simp] theorem AU8(op:BinOp)(T:TypeId)(x y:Operand):DB P E d (.bin op T x y) st=nw (CS P E d (.bin op T x y) st):=F1 _
@[simp] theorem A36(T:TypeId)(x:Operand)(f:Nat):DB P E d (.fa T x f) st=nw (CS P E d (.fa T x f) st):=F1 _
@[simp] theorem AU9(T:TypeId)(x:Operand):DB P E d (.ldz T x) st=DB P E d (.ld T x) st:=rfl
@[simp] theorem AVA(T:TypeId)(x:Operand):CS P E d (.ldz T x) st=CS P E d (.ld T x) st:=rfl
@[simp] theorem A77(T:TypeId)(x:Operand)(f:Operand→Option V):G7 P (.ldz T x) f=[]:=rfl
@[simp] theorem A37(T:TypeId)(x:Operand):DB P E d (.ld T x) st=nw (CS P E d (.ld T x) st):=F1 _
@[simp] theorem AP9(x y z:Operand):DB P E d (.pick x y z) st=nw (CS P E d (.pick x y z) st):=F1 _
@[simp] theorem AKX(T:TypeId)(ps:List (Nat×Operand)):DB P E d (.build T ps) st=nw (CS P E d (.build T ps) st):=F1 _
@[simp] theorem AHX(T:TypeId)(n:Nat)(ps:List (Nat×Operand)):DB P E d (.buildS T n ps) st=nw (CS P E d (.buildS T n ps) st):=F1 _
@[simp] theorem AVB(op:Op):DB P E d (.oth op) st=nw (CS P E d (.oth op) st):=F1 _
@[simp] theorem AKY(T:TypeId):DB P E d (.alloc T) st=nw (CS P E d (.alloc T) st):=F1 _
@[simp] theorem AVC(x:Operand):DB P E d (.box x) st=nw (CS P E d (.box x) st):=F1 _
@[simp] theorem AVD(x:Option Operand):DB P E d (.mkM x) st=nw (CS P E d (.mkM x) st):=F1 _
@[simp] theorem AVE(T:TypeId)(x y:Operand):DB P E d (.mkS T x y) st=nw (CS P E d (.mkS T x y) st):=F1 _
def wp(p:AM):Option XS→Option (XS×AM)
 | some st=>some (st,p)
 | none=>none
@[simp] theorem A78(p:AM):wp p (some st)=some (st,p):=rfl
@[simp] theorem A79(p:AM):wp p none=none:=rfl
@[simp] theorem BC8(p:AM)(c:Prop)[Decidable c](x y:Option XS):wp p (if c then x else y)=if c then wp p x else wp p y:=by split <;> rfl
@[simp] theorem AVF(T:TypeId)(x y:Operand):DB P E d (.sto T x y) st=wp (B6 (Nat.beq (P.cellsOf T) 1) (B9 st.fr x)) (CS P E d (.sto T x y) st):=by
 show(match II P d T x y st with | some st'=>some (st',B6 (Nat.beq (P.cellsOf T) 1) (B9 st.fr x)) | none=>none)=wp _ (II P d T x y st)
 cases II P d T x y st <;> rfl
@[simp] theorem A38(x:Option V):BR false x=BD x:=by cases x <;> rfl
@[simp] theorem AQA(l k g o:Nat):BR true (some (.ptr l k g o))=[(l,k+2000000),(l,k+4000000),(l,6000000+1000*k+o)]:=rfl
@[simp] theorem AKZ(l k g i o:Nat):BR true (some (.eptr l k g i o))=[(l,k+2000000),(l,k+4000000),(l,6000000+1000*k+o)]:=rfl
@[simp] theorem AQB(b:Bool)(cs:List V):BR b (some (.ref cs))=[]:=by cases b <;> rfl
@[simp] theorem AQC(l k g o:Nat):B6 true (some (.ptr l k g o))=[(l,k),(l,6000000+1000*k+o)]:=rfl
@[simp] theorem AK0(l k g i o:Nat):B6 true (some (.eptr l k g i o))=[(l,k),(l,6000000+1000*k+o)]:=rfl
@[simp] theorem AK1(l k g o:Nat):B6 false (some (.ptr l k g o))=[(l,k),(l,k+4000000)]:=rfl
@[simp] theorem AHY(l k g i o:Nat):B6 false (some (.eptr l k g i o))=[(l,k),(l,k+4000000)]:=rfl
@[simp] theorem AK2(l k g o:Nat):BD (some (.ptr l k g o))=[(l,k)]:=rfl
@[simp] theorem AHZ(l k g i o:Nat):BD (some (.eptr l k g i o))=[(l,k)]:=rfl
@[simp] theorem AK3(cs:List V):BD (some (.ref cs))=[]:=rfl
@[simp] theorem AQD(l k g o:Nat):JJ (some (.ptr l k g o))=[]:=rfl
@[simp] theorem AQE(l k g n:Nat):JJ (some (.vec l k g n))=[(l,k+HD)]:=rfl
@[simp] theorem AK4(b:Bool)(es:List (List V)):JJ (some (.list b es))=[]:=rfl
@[simp] theorem AQF(cs:List V):JJ (some (.ref cs))=[]:=rfl
noncomputable def c01(E:XE)(d:Option Tmp)(st:XS):Option V→Option (List V)→Option XS
 | some (.fn f first cap),some vs=>C4 d st (E.c0 f ((first++vs++cap).map weakV))
 | _,_=>none
@[simp] theorem AQG(f:FuncId)(first cap vs:List V):c01 E d st (some (.fn f first cap)) (some vs)=C4 d st (E.c0 f ((first++vs++cap).map weakV)):=rfl
@[simp] theorem AQH(t:Option Tmp)(f:Operand)(args:List Operand):DB P E d (.call false t f args) ⟨c,fr,s⟩=nw (c01 E d ⟨c,fr,s⟩ (B9 fr f) (E1 (B9 fr) args)):=by
 show S2 (Y1 E.c0 d f args ⟨c,fr,s⟩)=_
 rw[F1]
 congr 1
 unfold Y1
 cases hf:B9 fr f with
 | none=>simp only[c01]
 | some v =>
  cases v with
  | fn g first cap =>
   simp only
   cases hm:E1 (B9 fr) args with
   | none=>simp only[c01]
   | some vs =>
    simp only[AQG]
    cases E.c0 g ((first++vs++cap).map weakV) <;> rfl
  | _=>simp only[c01]
@[simp] theorem BC9{A:Ann}{kn:CF0}{n:Nat}:(BQ P A kn n).c0=E9 P kn (AE P A kn n):=rfl
end
theorem oS{A:Ann}{kn:CF0}{n N:Nat}(a b:Code):jO (AE P A kn n N) a b st (some (.bool true))=AE P A kn n N a st:=rfl
theorem kT{A:Ann}{kn:CF0}{n N:Nat}(a b:Code):jO (AE P A kn n N) a b st (some (.bool false))=AE P A kn n N b st:=rfl
attribute [simp] ACQ oP vW ACO vS oN vT vU vV ACP oO kL ACR vX ACS aR oQ kM oR oS kT ACU
end Go.Pg
namespace Go.Pg
variable {P:Program}{E:XE}{st:XS}{fr:Fr}{s:St}
@[simp] theorem AQI(k:IntKind)(n:Int):A6 (.int k n)=[.int k n]:=rfl
@[simp] theorem AK5(b:Bool):A6 (.bool b)=[.bool b]:=rfl
@[simp] theorem AQJ(cs:List V):A6 (.agg cs)=cs:=rfl
@[simp] theorem AK6(b:Bool)(es:List (List V)):A6 (.list b es)=[.list b es]:=rfl
@[simp] theorem AQK:A6 .nil=[.nil]:=rfl
@[simp] theorem AQL(l k g n:Nat):A6 (.vec l k g n)=[.vec l k g n]:=rfl
@[simp] theorem AVG(l k g:Nat):A6 (.mp l k g)=[.mp l k g]:=rfl
@[simp] theorem AVH(f:FuncId)(x y:List V):A6 (.fn f x y)=[.fn f x y]:=rfl
@[simp] theorem AQM(l k g n:Nat):A6 (.ptr l k g n)=[.ptr l k g n]:=rfl
@[simp] theorem AQN(cs:List V):A6 (.ref cs)=[.ref cs]:=rfl
@[simp] theorem AQO(k:IntKind)(n:Int):A7 (.int k n)=true:=rfl
@[simp] theorem AK7(b:Bool):A7 (.bool b)=true:=rfl
@[simp] theorem AQP(cs:List V):A7 (.agg cs)=true:=rfl
@[simp] theorem AK8(b:Bool)(es:List (List V)):A7 (.list b es)=true:=rfl
@[simp] theorem AQQ:A7 .nil=true:=rfl
@[simp] theorem AQR(l k g n:Nat):A7 (.vec l k g n)=true:=rfl
@[simp] theorem AVI(l k g:Nat):A7 (.mp l k g)=true:=rfl
@[simp] theorem AVJ(f:FuncId)(x y:List V):A7 (.fn f x y)=true:=rfl
@[simp] theorem AQS(l k g n:Nat):A7 (.ptr l k g n)=true:=rfl
@[simp] theorem AQT(cs:List V):A7 (.ref cs)=true:=rfl
@[simp] theorem AVK(op:BinOp)(T:TypeId)(k j:IntKind)(a b:Int):GL P op T (.int k a) (.int j b)=if k=j then EE op k a b else XM op k a b:=rfl
@[simp] theorem A4A(k:IntKind)(a b:Int):XM .shl k a b=if b<0 then none else some (.int k (k.wrap (a*2 ^ (min b.toNat k.bits)))):=rfl
@[simp] theorem TE(k:IntKind)(a b:Int):XM .shr k a b=if b<0 then none else some (.int k (a.fdiv (2 ^ (min b.toNat k.bits)))):=rfl
section
variable (k:IntKind)(a b:Int)
@[simp] theorem AVL:EE .add k a b=some (.int k (k.wrap (a+b))):=rfl
@[simp] theorem AVM:EE .sub k a b=some (.int k (k.wrap (a-b))):=rfl
@[simp] theorem AVN:EE .mul k a b=some (.int k (k.wrap (a*b))):=rfl
@[simp] theorem AVO:EE .quo k a b=if b=0 then none else some (.int k (k.wrap (a.tdiv b))):=rfl
@[simp] theorem AVP:EE .rem k a b=if b=0 then none else some (.int k (a.tmod b)):=rfl
@[simp] theorem AVQ:EE .and k a b=some (.int k (k.wrap (BitVec.ofInt k.bits a &&& BitVec.ofInt k.bits b).toNat)):=rfl
@[simp] theorem A4B:EE .or k a b=some (.int k (k.wrap (BitVec.ofInt k.bits a ||| BitVec.ofInt k.bits b).toNat)):=rfl
@[simp] theorem AH0:EE .andNot k a b=some (.int k (k.wrap (BitVec.ofInt k.bits a &&& ~~~ BitVec.ofInt k.bits b).toNat)):=rfl
@[simp] theorem AVR:EE .shl k a b=if b<0 then none else some (.int k (k.wrap (a*2 ^ (min b.toNat k.bits)))):=rfl
@[simp] theorem AVS:EE .shr k a b=if b<0 then none else some (.int k (a.fdiv (2 ^ (min b.toNat k.bits)))):=rfl
@[simp] theorem AVT:EE .eql k a b=some (.bool (decide (a=b))):=by
 show some (V.bool (a == b))=_
 congr 2
@[simp] theorem AVU:EE .neq k a b=some (.bool (!decide (a=b))):=by
 show some (V.bool (a != b))=_
 congr 2
@[simp] theorem AVV:EE .lss k a b=some (.bool (decide (a<b))):=rfl
@[simp] theorem AVW:EE .leq k a b=some (.bool (decide (a≤b))):=rfl
@[simp] theorem AVX:EE .gtr k a b=some (.bool (decide (b<a))):=rfl
@[simp] theorem AVY:EE .geq k a b=some (.bool (decide (b≤a))):=rfl
end
theorem AW{x:Int}(h1:-9223372036854775808≤x)(h2:x<9223372036854775808):IntKind.i64.wrap x=x:=by
 simp only[IntKind.wrap,IntKind.bits,IntKind.signed]
 simp
 omega
@[simp] theorem AK9(T:TypeId)(a b:Bool):GL P .eql T (.bool a) (.bool b)=if qU P T=true then some (.bool (a == b)) else none:=rfl
@[simp] theorem ALA(T:TypeId)(a b:Bool):GL P .neq T (.bool a) (.bool b)=if qU P T=true then some (.bool (a != b)) else none:=rfl
def bl1(f:Bool→Bool):Option Bool→Option V
 | some b=>some (.bool (f b))
 | none=>none
@[simp] theorem A4C(f:Bool→Bool)(b:Bool):bl1 f (some b)=some (.bool (f b)):=rfl
@[simp] theorem AQU(T:TypeId)(cs ds:List V):GL P .eql T (.agg cs) (.agg ds)=bl1 (fun b=>b) (P7 P T cs ds):=by
 show(P7 P T cs ds).map V.bool=_
 cases P7 P T cs ds <;> rfl
@[simp] theorem AQV(T:TypeId)(cs ds:List V):GL P .neq T (.agg cs) (.agg ds)=bl1 (fun b=>!b) (P7 P T cs ds):=by
 show(P7 P T cs ds).map (fun b=>V.bool !b)=_
 cases P7 P T cs ds <;> rfl
def faP(P:Program)(x:V):Option (TypeId×Nat)→Option V
 | some (U,off)=>if P.cellsOf U=0 then none else match x with
  | .ref cs=>some (.ref (cs.drop off))
  | .ptr l k g o=>some (.ptr l k g (o+off))
  | .eptr l k g i o=>some (.eptr l k g i (o+off))
  | _=>none
 | none=>none
@[simp] theorem A8A(T:TypeId)(x:V)(f:Nat):CX P T x f=faP P x (A1 P T f):=by
 unfold CX faP
 cases A1 P T f <;> rfl
@[simp] theorem A8B(U:TypeId)(off:Nat)(cs:List V):faP P (.ref cs) (some (U,off))=if P.cellsOf U=0 then none else some (.ref (cs.drop off)):=rfl
@[simp] theorem A8C(U:TypeId)(off l k g o:Nat):faP P (.ptr l k g o) (some (U,off))=if P.cellsOf U=0 then none else some (.ptr l k g (o+off)):=rfl
@[simp] theorem A4E(U:TypeId)(off l k g i o:Nat):faP P (.eptr l k g i o) (some (U,off))=if P.cellsOf U=0 then none else some (.eptr l k g i (o+off)):=rfl
def fd1(P:Program)(x:V):Option (TypeId×Nat)→Option V
 | some (U,off)=>match x with
  | .agg cs=>MI P U cs off
  | _=>none
 | none=>none
@[simp] theorem AQW(T:TypeId)(x:V)(f:Nat):HY P T x f=fd1 P x (A1 P T f):=by
 unfold HY fd1
 cases x <;> cases A1 P T f <;> rfl
@[simp] theorem A8D(U:TypeId)(off:Nat)(cs:List V):fd1 P (.agg cs) (some (U,off))=MI P U cs off:=rfl
def cb(g off:Nat):Option (Nat×AX)→Option (List V)
 | some (g',.box cs)=>if g'=g then some (cs.drop off) else none
 | _=>none
@[simp] theorem A8E(g g' off:Nat)(cs:List V):cb g off (some (g',.box cs))=if g'=g then some (cs.drop off) else none:=rfl
def ce(g i off:Nat):Option (Nat×AX)→Option (List V)
 | some (g',.vec _ es)=>if g'=g then(es[i]?).map (·.drop off) else none
 | _=>none
@[simp] theorem A8F(g g' i off:Nat)(T:TypeId)(es:List (List V)):ce g i off (some (g',.vec T es))=if g'=g then(es[i]?).map (·.drop off) else none:=rfl
@[simp] theorem ALB(cs:List V):A5 s (.ref cs)=some cs:=rfl
@[simp] theorem ALC(l k g off:Nat):A5 s (.ptr l k g off)=cb g off (s.get l k):=by
 unfold cb
 simp only[A5]
 cases s.get l k with
 | none=>rfl
 | some z=>obtain⟨g',r⟩:=z; cases r <;> rfl
@[simp] theorem AH1(l k g i off:Nat):A5 s (.eptr l k g i off)=ce g i off (s.get l k):=by
 unfold ce
 simp only[A5]
 cases s.get l k with
 | none=>rfl
 | some z=>obtain⟨g',r⟩:=z; cases r <;> rfl
def iv(P:Program)(e:TypeId)(l k g n:Nat)(j:Int):Option (Nat×AX)→Option V
 | some (g',.vec _ es)=>if g'=g∧0≤j∧j<n∧n≤es.length∧(es.getD j.toNat []).length=P.cellsOf e∧0<P.cellsOf e then some (.eptr l k g j.toNat 0) else none
 | _=>none
@[simp] theorem A8G(e:TypeId)(l k g g' n:Nat)(j:Int)(T:TypeId)(es:List (List V)):iv P e l k g n j (some (g',.vec T es))=if g'=g∧0≤j∧j<n∧n≤es.length∧(es.getD j.toNat []).length=P.cellsOf e∧0<P.cellsOf e then some (.eptr l k g j.toNat 0) else none:=rfl
def ia(P:Program)(s:St)(x i:V):Option (Option Nat×TypeId)→Option V
 | some (none,e)=>match x,i with
  | .list _ es,.int _ j=>if 0≤j∧j<es.length∧(es.getD j.toNat []).length=P.cellsOf e∧0<P.cellsOf e then some (.ref (es.getD j.toNat [])) else none
  | .vec l k g n,.int _ j=>iv P e l k g n j (s.get l k)
  | _,_=>none
 | some (some n,e)=>match x,i with
  | .ref cs,.int _ j=>if 0≤j∧j<n∧0<P.cellsOf e then some (.ref (cs.drop (j.toNat*P.cellsOf e))) else none
  | .ptr l k g o,.int _ j=>if 0≤j∧j<n∧0<P.cellsOf e then some (.ptr l k g (o+j.toNat*P.cellsOf e)) else none
  | .eptr l k g i' o,.int _ j=>if 0≤j∧j<n∧0<P.cellsOf e then some (.eptr l k g i' (o+j.toNat*P.cellsOf e)) else none
  | _,_=>none
 | none=>none
@[simp] theorem A8H(T:TypeId)(x i:V):BM P s T x i=ia P s x i (BI P T):=by
 unfold BM ia
 cases BI P T with
 | none=>rfl
 | some z =>
  obtain⟨n,e⟩:=z
  cases n with
  | some n=>cases x <;> cases i <;> rfl
  | none =>
   cases x with
   | vec l k g n =>
    cases i with
    | int q j =>
     simp only[iv]
     cases s.get l k with
     | none=>rfl
     | some z=>obtain⟨g',r⟩:=z; cases r <;> rfl
    | _=>rfl
   | _=>cases i <;> rfl
@[simp] theorem A8I(e:TypeId)(b:Bool)(es:List (List V))(k:IntKind)(j:Int):ia P s (.list b es) (.int k j) (some (none,e))=if 0≤j∧j<es.length∧(es.getD j.toNat []).length=P.cellsOf e∧0<P.cellsOf e then some (.ref (es.getD j.toNat [])) else none:=rfl
@[simp] theorem BDC(e:TypeId)(l q g n:Nat)(k:IntKind)(j:Int):ia P s (.vec l q g n) (.int k j) (some (none,e))=iv P e l q g n j (s.get l q):=rfl
@[simp] theorem BDD(n:Nat)(e:TypeId)(cs:List V)(k:IntKind)(j:Int):ia P s (.ref cs) (.int k j) (some (some n,e))=if 0≤j∧j<n∧0<P.cellsOf e then some (.ref (cs.drop (j.toNat*P.cellsOf e))) else none:=rfl
@[simp] theorem BDE(n:Nat)(e:TypeId)(l q g o:Nat)(k:IntKind)(j:Int):ia P s (.ptr l q g o) (.int k j) (some (some n,e))=if 0≤j∧j<n∧0<P.cellsOf e then some (.ptr l q g (o+j.toNat*P.cellsOf e)) else none:=rfl
@[simp] theorem A8J(n:Nat)(e:TypeId)(l q g i o:Nat)(k:IntKind)(j:Int):ia P s (.eptr l q g i o) (.int k j) (some (some n,e))=if 0≤j∧j<n∧0<P.cellsOf e then some (.eptr l q g i (o+j.toNat*P.cellsOf e)) else none:=rfl
def ix(P:Program)(x i:V):Option (Option Nat×TypeId)→Option V
 | some (some n,e)=>match x,i with
  | .agg cs,.int _ j=>if 0≤j∧j<n∧0<P.cellsOf e then MI P e cs (j.toNat*P.cellsOf e) else none
  | _,_=>none
 | _=>none
@[simp] theorem AQX(T:TypeId)(x i:V):HZ P T x i=ix P x i (BI P T):=by
 unfold HZ ix
 cases BI P T with
 | none=>rfl
 | some z=>obtain⟨n,e⟩:=z; cases n <;> cases x <;> cases i <;> rfl
@[simp] theorem BDF(n:Nat)(e:TypeId)(cs:List V)(k:IntKind)(j:Int):ix P (.agg cs) (.int k j) (some (some n,e))=if 0≤j∧j<n∧0<P.cellsOf e then MI P e cs (j.toNat*P.cellsOf e) else none:=rfl
theorem OH{T:TypeId}(h:C8 P T=true):∃e,P.underlying T=some (.slice e):=by
 unfold C8 at h
 split at h
 ·rename_i e he; exact⟨e,he⟩
 ·cases h
@[simp] theorem oT{T:TypeId}(h:C8 P T=true)(b:Bool)(es:List (List V)):F4 P T (.list b es)=some (.int .i64 es.length):=by
 obtain⟨e,he⟩:=OH h; simp[F4,he]
@[simp] theorem wA{T:TypeId}(h:C8 P T=true)(l k g n:Nat):F4 P T (.vec l k g n)=some (.int .i64 n):=by
 obtain⟨e,he⟩:=OH h; simp[F4,he]
@[simp] theorem cU{T:TypeId}(h:C8 P T=true):F4 P T .nil=some (.int .i64 0):=by
 obtain⟨e,he⟩:=OH h; simp[F4,he]
def fv(place:Nat→Option (Nat×Nat))(cs:List V)(v:V)(rest:List (Nat×V)):Option (Nat×Nat)→Option (List V)
 | none=>none
 | some (off,size)=>if (A6 v).length=size∧off+(A6 v).length≤cs.length then CZ place (A0 cs off (A6 v)) rest else none
@[simp] theorem AVZ(place:Nat→Option (Nat×Nat))(cs:List V):CZ place cs []=some cs:=rfl
@[simp] theorem AQY(place:Nat→Option (Nat×Nat))(cs:List V)(i:Nat)(v:V)(rest:List (Nat×V)):CZ place cs ((i,v) :: rest)=fv place cs v rest (place i):=by
 simp only[CZ]; unfold fv; cases place i <;> rfl
@[simp] theorem A8K(place:Nat→Option (Nat×Nat))(cs:List V)(v:V)(rest:List (Nat×V))(off size:Nat):fv place cs v rest (some (off,size))=if (A6 v).length=size∧off+(A6 v).length≤cs.length then CZ place (A0 cs off (A6 v)) rest else none:=rfl
attribute [simp] A0
@[simp] theorem ALD(size:Nat)(cs:List V):CL size cs 0=[]:=rfl
@[simp] theorem ALE(size:Nat)(cs:List V)(n:Nat):CL size cs (n+1)=cs.take size :: CL size (cs.drop size) n:=rfl
def ch1(size len:Nat):Option (List V)→Option V
 | some cs=>some (.list true (CL size cs len))
 | none=>none
@[simp] theorem A4F(size len:Nat)(cs:List V):ch1 size len (some cs)=some (.list true (CL size cs len)):=rfl
def bsz(P:Program)(e:TypeId)(len:Nat)(parts:List (Nat×V)):Option (List V)→Option V
 | some z=>if (parts.all fun p=>A7 p.2)=true∧z.length=P.cellsOf e∧0<P.cellsOf e∧len*P.cellsOf e≤2 ^ 24 then
   ch1 (P.cellsOf e) len (CZ (fun i=>some (i*P.cellsOf e,P.cellsOf e)) (List.replicate len z).flatten parts) else none
 | none=>none
@[simp] theorem A4G(e:TypeId)(len:Nat)(parts:List (Nat×V))(z:List V):bsz P e len parts (some z)=if (parts.all fun p=>A7 p.2)=true∧z.length=P.cellsOf e∧0<P.cellsOf e∧len*P.cellsOf e≤2 ^ 24 then
   ch1 (P.cellsOf e) len (CZ (fun i=>some (i*P.cellsOf e,P.cellsOf e)) (List.replicate len z).flatten parts) else none:=rfl
def bsl(P:Program)(len:Nat)(parts:List (Nat×V)):Option (Option Nat×TypeId)→Option V
 | some (none,e)=>bsz P e len parts (B5 P e)
 | _=>none
@[simp] theorem A4H(e:TypeId)(len:Nat)(parts:List (Nat×V)):bsl P len parts (some (none,e))=bsz P e len parts (B5 P e):=rfl
@[simp] theorem A8M(T:TypeId)(len:Nat)(parts:List (Nat×V)):BZ P T len parts=bsl P len parts (BI P T):=by
 unfold BZ bsl
 cases BI P T with
 | none=>rfl
 | some z =>
  obtain⟨n,e⟩:=z
  cases n with
  | some n=>rfl
  | none =>
   simp only[bsz]
   cases B5 P e with
   | none=>rfl
   | some z =>
    simp only
    split
    ·cases CZ (fun i=>some (i*P.cellsOf e,P.cellsOf e)) (List.replicate len z).flatten parts <;> rfl
    ·rfl
def fn2(f:FuncId):Option (List V)→Option (List V)→Option V
 | some a,some b=>some (.fn f a b)
 | _,_=>none
@[simp] theorem A4I(f:FuncId)(a b:List V):fn2 f (some a) (some b)=some (.fn f a b):=rfl
@[simp] theorem BDI(f:FuncId)(x y:Array Operand)(r:Operand→Option V):H0 P (aQ (.makeFunc (.func f) x y)) s r=fn2 f (E1 r x.toList) (E1 r y.toList):=by
 show((x.toList.mapM r).bind fun a=>(y.toList.mapM r).bind fun b=>some (V.fn f a b))=_
 rw[← J9,← J9]
 cases E1 r x.toList <;> cases E1 r y.toList <;> rfl
@[simp] theorem A8O(x y:Operand)(Ts:Array TypeId)(r:Operand→Option V):H0 P (aQ (.call ⟨.builtin .max,#[x,y],Ts⟩)) s r=o2 SB (r x) (r y):=WC _ _ _
@[simp] theorem A8P(x y:Operand)(Ts:Array TypeId)(r:Operand→Option V):H0 P (aQ (.call ⟨.builtin .min,#[x,y],Ts⟩)) s r=o2 SD (r x) (r y):=WC _ _ _
@[simp] theorem AV0(k j:IntKind)(m n:Int):SB (.int k m) (.int j n)=if k=j then some (.int k (if n>m then n else m)) else none:=rfl
@[simp] theorem AV1(k j:IntKind)(m n:Int):SD (.int k m) (.int j n)=if k=j then some (.int k (if n<m then n else m)) else none:=rfl
theorem CO{e:TypeId}{n:Nat}{ys:List (List V)}(hc:0<P.cellsOf e)(hz:V3 P e=true):B4 P e n ys=true↔(ys.all (fun y=>y.length == P.cellsOf e)=true∧n+ys.length≤maxLen∧(n+ys.length)*P.bytesOf e≤140737488355328):=by
 simp[B4,hc,hz,and_assoc]
end Go.Pg
namespace Go.Pg
variable {P:Program}{E:XE}{st:XS}{fr:Fr}{s:St}
theorem AP{P:Program}{kn:CF0}{rec:F0}{f:FuncId}{args:List V}(h:kn f args=none):AY P kn rec f args=EL P rec f args:=by
 unfold AY; rw[h]
def pv(k γ:Nat):List (List V)→V
 | []=>.nil
 | e :: es=>.vec 0 k γ (e :: es).length
def pl(k γ:Nat)(T:TypeId):List (List V)→AB
 | []=>[]
 | e :: es=>[(k,γ,.vec T (e :: es))]
def sl:List (List V)→V
 | []=>.nil
 | e :: es=>.list false (e :: es)
@[simp] theorem BDJ(k γ:Nat):pv k γ []=.nil:=rfl
@[simp] theorem BDK(k γ:Nat)(T:TypeId):pl k γ T []=[]:=rfl
@[simp] theorem A8Q(k γ:Nat)(T:TypeId)(es:List (List V))(y:List V)(ys:List (List V)):pl k γ T (es++y :: ys)=[(k,γ,.vec T (es++y :: ys))]:=by cases es <;> rfl
@[simp] theorem A8R(k γ:Nat)(T:TypeId)(y:List V)(ys:List (List V)):pl k γ T (y :: ys)=[(k,γ,.vec T (y :: ys))]:=rfl
@[simp] theorem BIH(k γ:Nat)(T:TypeId)(es:List (List V)):kl k [] ((pl k γ T es).get k)=pl k γ T es:=by
 cases es with
 | nil=>rfl
 | cons e es=>simp
@[simp] theorem A4J{k j:Nat}(γ:Nat)(T:TypeId)(es:List (List V))(h:j≠k):(pl k γ T es).get j=none:=by
 cases es with
 | nil=>rfl
 | cons e es=>simp[h]
@[simp] theorem AQZ(e k c γ:Nat)(loc:AB)(es:List (List V))(y:List V)(ys:List (List V))(hl:AB.get loc k=(pl k γ e es).get k)(h1:es.all (fun y=>y.length == P.cellsOf e)=true)(h2:B4 P e es.length (y :: ys)=true) :
  wZ P e k c fr ⟨[],loc⟩ (pv k γ es) (y :: ys)=some ⟨c+1,(k,true,pv k c (es++y :: ys)) :: fr,⟨[],(k,c,.vec e (es++y :: ys)) :: loc⟩⟩:=by
 cases es with
 | nil =>
  simp only[List.length_nil]at h2
  simp[h2,pv]
 | cons z es =>
  have hl:AB.get loc k=some (γ,.vec e (z :: es)):=by rw[hl]; simp
  simp only[pv,AHT,AC0,List.length_nil,if_true,hl,kN,TX,TB,true_and,h1,h2]
  simp[Nat.add_comm,Nat.add_left_comm]
theorem O5{T:TypeId}(f:Nat)(loc:AB)(k γ:Nat)(es:List (List V))(hl:AB.get loc k=(pl k γ T es).get k):AZ ⟨[],loc⟩ (f+1) (pv k γ es)=some (sl es):=by
 cases es with
 | nil=>rfl
 | cons z es =>
  have hl:AB.get loc k=some (γ,.vec T (z :: es)):=by rw[hl]; simp
  simp only[pv,QP,List.length_nil,if_true,hl,AC1,sl]
  simp
@[simp] theorem AV2(f k γ:Nat)(T:TypeId)(es:List (List V)):AZ ⟨[],pl k γ T es⟩ (f+1) (pv k γ es)=some (sl es):=O5 (T:=T) f _ k γ es rfl
@[simp] theorem A4K{T:TypeId}(h:C8 P T=true)(es:List (List V)):F4 P T (sl es)=some (.int .i64 es.length):=by
 cases es with
 | nil=>exact cU h
 | cons e es=>exact oT h _ _
@[simp] theorem A4L{T:TypeId}(h:C8 P T=true)(k γ:Nat)(es:List (List V)):F4 P T (pv k γ es)=some (.int .i64 es.length):=by
 cases es with
 | nil=>exact cU h
 | cons e es=>exact wA h _ _ _ _
@[simp] theorem BII(e:TypeId)(es:List (List V))(k:IntKind)(j:Int):ia P s (sl es) (.int k j) (some (none,e))=if 0≤j∧j<es.length∧(es.getD j.toNat []).length=P.cellsOf e∧0<P.cellsOf e then some (.ref (es.getD j.toNat [])) else none:=by
 cases es with
 | nil =>
  rw[if_neg (by simp only[List.length_nil]; omega)]
  rfl
 | cons z es=>rfl
@[simp] theorem cV(f:Nat)(es:List (List V)):AL (f+1) (sl es)=es.all fun e=>e.all (AL f):=by cases es <;> rfl
@[simp] theorem A4M(es:List (List V)):weakN (sl es)=.list false es:=by cases es <;> rfl
@[simp] theorem A4N(es:List (List V)):weakM (sl es)=.list false es:=by cases es <;> rfl
@[simp] theorem A8S(es:List (List V)):weakV (sl es)=sl es:=by cases es <;> rfl
@[simp] theorem A4O(es:List (List V)):weakC (sl es)=sl es:=by cases es <;> rfl
@[simp] theorem AV3(es:List (List V)):A6 (sl es)=[sl es]:=by cases es <;> rfl
@[simp] theorem AV4(es:List (List V)):A7 (sl es)=true:=by cases es <;> rfl
@[simp] theorem AV5(k γ:Nat)(es:List (List V)):A6 (pv k γ es)=[pv k γ es]:=by cases es <;> rfl
@[simp] theorem AV6(k γ:Nat)(es:List (List V)):A7 (pv k γ es)=true:=by cases es <;> rfl
@[simp] theorem AQ0(es:List (List V)):elemsOf s (sl es)=some es:=by cases es <;> rfl
@[simp] theorem AV7(f:Nat)(es:List (List V)):AZ s (f+1) (sl es)=some (sl es):=by cases es <;> rfl
@[simp] theorem AV8(es:List (List V)):EI (some (sl es))=[]:=by cases es <;> rfl
@[simp] theorem AV9(es:List (List V)):JJ (some (sl es))=[]:=by cases es <;> rfl
noncomputable def oU(P:Program)(e:TypeId)(d c:Nat)(fr:Fr)(s:St)(xv:V)(ys:List (List V)):Option (XS×AM):=match HQ xv ys with
 | some es=>if es.all (fun y=>y.length == P.cellsOf e)=true∧B4 P e es.length ys=true then some (⟨c+1,(d,true,.vec s.up.length d c (es.length+ys.length)) :: fr,s.put s.up.length d c (.vec e (es++ys))⟩,[(s.up.length,d),(s.up.length,d+HD)]) else none
 | none=>match xv with
  | .vec l q γ n=>wp [(l,q),(l,q+HD)] (apW P e d c fr s l q γ n ys (P8 n ys (s.get l q)))
  | _=>none
noncomputable def ad4(P:Program)(e:TypeId)(d c:Nat)(fr:Fr)(s:St)(xv:V):Option (List (List V))→Option (XS×AM)
 | some ys=>oU P e d c fr s xv ys
 | none=>none
@[simp] theorem AC2(e:TypeId)(d c:Nat)(xv:V)(ys:List (List V)):ad4 P e d c fr s xv (some ys)=oU P e d c fr s xv ys:=rfl
noncomputable def ad3(P:Program)(d c:Nat)(fr:Fr)(s:St):Option (Option Nat×TypeId)→Option V→Option V→Option (XS×AM)
 | some (none,e),some xv,some yv=>ad4 P e d c fr s xv (elemsOf s yv)
 | _,_,_=>none
@[simp] theorem AC3(d c:Nat)(e:TypeId)(xv yv:V):ad3 P d c fr s (some (none,e)) (some xv) (some yv)=ad4 P e d c fr s xv (elemsOf s yv):=rfl
@[simp] theorem ALF(b:Bool)(es:List (List V)):mV (.list b es)=some es:=rfl
@[simp] theorem AQ1:mV .nil=some []:=rfl
@[simp] theorem AWA(es:List (List V)):mV (sl es)=some es:=by cases es <;> rfl
@[simp] theorem AWB(d:Tmp)(c:Nat)(x y:Operand)(T:TypeId):DB P E (some d) (.app [x,y] [T,T]) ⟨c,fr,s⟩=ad3 P d c fr s (BI P T) (B9 fr x) (B9 fr y):=by
 show xAppD P (some d) [x,y] [T,T] _=_
 unfold xAppD xAppG
 simp only[Nat.beq_refl]
 cases hT:BI P T with
 | none=>cases B9 fr x <;> cases B9 fr y <;> rfl
 | some p =>
  obtain⟨k,e⟩:=p
  cases k with
  | some k=>cases B9 fr x <;> cases B9 fr y <;> rfl
  | none =>
   cases B9 fr x with
   | none=>rfl
   | some xv =>
    cases B9 fr y with
    | none=>rfl
    | some yv =>
     simp only[AC3]
     cases elemsOf s yv with
     | none=>rfl
     | some ys =>
      simp only[AC2,oU]
      cases HQ xv ys with
      | some es =>
       simp only[ifB,Bool.and_eq_true,List.length_append]
       by_cases hC:es.all (fun y=>y.length == P.cellsOf e)=true∧B4 P e es.length ys=true
       ·rw[if_pos hC,if_pos hC]
       ·rw[if_neg hC,if_neg hC]
      | none =>
       simp only
       unfold jI
       cases xv with
       | vec l q γ n =>
        simp only
        cases P8 n ys (s.get l q)with
        | none=>rfl
        | some z =>
         obtain⟨γ',r⟩:=z
         cases r with
         | vec W es =>
          simp only[ifB,Bool.and_eq_true,List.length_append,TB,Nat.beq_eq,and_assoc]
          by_cases hC:γ'=γ∧W=e∧n=es.length∧es.all (fun y=>y.length == P.cellsOf e)=true∧B4 P e es.length ys=true
          ·rw[if_pos hC,if_pos hC]; rfl
          ·rw[if_neg hC,if_neg hC]; rfl
         | _=>rfl
       | _=>rfl
@[simp] theorem BDM(e k c γ:Nat)(loc:AB)(es:List (List V))(y:List V)(ys:List (List V))(hl:AB.get loc k=(pl k γ e es).get k)(h1:es.all (fun y=>y.length == P.cellsOf e)=true)(h2:B4 P e es.length (y :: ys)=true) :
  oU P e k c fr ⟨[],loc⟩ (pv k γ es) (y :: ys)=some (⟨c+1,(k,true,pv k c (es++y :: ys)) :: fr,⟨[],(k,c,.vec e (es++y :: ys)) :: loc⟩⟩,[(0,k),(0,k+HD)]):=by
 cases es with
 | nil =>
  simp only[List.length_nil]at h2
  simp[oU,HQ,h2,pv]
 | cons z es =>
  have hl:AB.get loc k=some (γ,.vec e (z :: es)):=by rw[hl]; simp
  simp only[pv,oU,HQ,AC0,List.length_nil,if_true,hl,kN,TX,TB,true_and,h1,h2]
  simp[Nat.add_comm,Nat.add_left_comm]
end Go.Pg
namespace Go.Pg
variable {P:Program}{E:XE}{st:XS}{fr:Fr}{s:St}
theorem oV{α:Type}(x:α):DA [x]=some ([],x):=rfl
def un1{α:Type}(x:α):Option (List α×α)→Option (List α×α)
 | some (a,b)=>some (x :: a,b)
 | none=>none
@[simp] theorem A4P{α:Type}(x:α)(a:List α)(b:α):un1 x (some (a,b))=some (x :: a,b):=rfl
theorem VL{α:Type}(x y:α)(l:List α):DA (x :: y :: l)=un1 x (DA (y :: l)):=by
 simp only[DA]
 unfold un1
 cases DA (y :: l) <;> rfl
attribute [simp] oV VL
noncomputable def wB(d:Option Tmp)(fr:Fr)(c:Nat)(r:V):Option (List AB×AB)→Option XS
 | some (u,l)=>some ⟨c,putD fr d true r,⟨u,l⟩⟩
 | none=>none
@[simp] theorem AWC(d:Tmp)(c:Nat)(r:V)(u:List AB)(l:AB):wB (some d) fr c r (some (u,l))=some ⟨c,(d,true,r) :: fr,⟨u,l⟩⟩:=rfl
@[simp] theorem A8T(c:Nat)(r:V)(u:List AB)(l:AB):wB none fr c r (some (u,l))=some ⟨c,fr,⟨u,l⟩⟩:=rfl
noncomputable def kU(d:Option Tmp)(fr:Fr)(st:XS):Option V→Option XS
 | some r=>wB d fr st.c r (DA (st.s.up.map (AQ st.s)))
 | none=>none
@[simp] theorem AWD(d:Option Tmp)(c:Nat)(fr':Fr)(up:List AB)(loc:AB)(r:V):kU d fr ⟨c,fr',⟨up,loc⟩⟩ (some r)=wB d fr c r (DA (up.map (AQ ⟨up,loc⟩))):=rfl
noncomputable def clX(s:St):Option V→Option V
 | some r=>AZ s 4 r
 | none=>none
@[simp] theorem A4Q(r:V):clX s (some r)=AZ s 4 r:=rfl
noncomputable def oW(P:Program)(d:Option Tmp)(fr:Fr)(rs:List ResultVar)(r:Option (Exit×XS)):Option XS:=match r with
 | some (.ret,st)=>kU d fr st (clX st.s (FM P rs st.fr st.s))
 | some (.normal,st)=>kU d fr st (clX st.s (FM P rs st.fr st.s))
 | _=>none
@[simp] theorem AC4(d:Option Tmp)(rs:List ResultVar):oW P d fr rs (some (.ret,st))=kU d fr st (clX st.s (FM P rs st.fr st.s)):=rfl
@[simp] theorem kV(d:Option Tmp)(rs:List ResultVar):oW P d fr rs (some (.normal,st))=kU d fr st (clX st.s (FM P rs st.fr st.s)):=rfl
theorem kX{A:Ann}{kn:CF0}{n:Nat}{f:FuncId}{fn:Func}{code:Code}{args:List V}(hf:P.funcs[f]? = some fn)(hb:fn.body=some code)(hs:Nat.ble args.length fn.ntmps=true)(hcl:(args.all (AL 9)&&!(AK P f))=false)(d:Option Tmp)(c:Nat)(fr:Fr)(up:List AB)(loc:AB) :
  IQ (BQ P A kn n) d ⟨c,fr,⟨up,loc⟩⟩ f args=oW P d fr fn.results.toList (AE P A kn n fn.ntmps code ⟨c,AF 0 args,⟨up++[loc],[]⟩⟩):=by
 show(match Y3 P kn (AE P A kn n) f args ⟨c,fr,⟨up,loc⟩⟩ with
  | some (r,st')=>some (⟨st'.c,putD st'.fr d true r,st'.s⟩:XS)
  | none=>none)=_
 unfold Y3
 rw[hcl]
 unfold cC VI rD
 rw[hf]
 simp only[hb,hs]
 generalize AE P A kn n fn.ntmps code ⟨c,AF 0 args,⟨up++[loc],[]⟩⟩=q
 have aux:∀st:XS,(match(match(match vB P fn.results.toList st with
   | some (r,c,up)=>match DA up with
    | some (u,l)=>some (r,(⟨c,fr,⟨u,l⟩⟩:XS))
    | none=>none
   | none=>none:Option (V×XS))with
   | some r=>some r
   | none=>none:Option (V×XS))with
  | some (r,st')=>some (⟨st'.c,putD st'.fr d true r,st'.s⟩:XS)
  | none=>none)=kU d fr st (clX st.s (FM P fn.results.toList st.fr st.s)):=fun st=>by
  unfold vB clX
  cases FM P fn.results.toList st.fr st.s with
  | none=>rfl
  | some r =>
   cases h:AZ st.s 4 r with
   | none=>simp[kU,h]
   | some r' =>
    simp only[h,kU]
    cases DA (st.s.up.map (AQ st.s))with
    | none=>rfl
    | some z=>rfl
 cases q with
 | none=>rfl
 | some q =>
  obtain⟨e,st⟩:=q
  have:=aux st
  cases e with
  | ret=>simp only[AC4,← this]; cases vB P fn.results.toList st with
   | none=>rfl
   | some z =>
    obtain⟨r,c,up⟩:=z
    simp only
    cases DA up <;> rfl
  | normal=>simp only[kV,← this]; cases vB P fn.results.toList st with
   | none=>rfl
   | some z =>
    obtain⟨r,c,up⟩:=z
    simp only
    cases DA up <;> rfl
  | _=>rfl
theorem BK{A:Ann}{kn:CF0}{n:Nat}{f:FuncId}{fn:Func}{code:Code}{args:List V}(hf:P.funcs[f]? = some fn)(hb:fn.body=some code)(hs:Nat.ble args.length fn.ntmps=true)(hcl:args.all (AL 9)=false)(d:Option Tmp)(c:Nat)(fr:Fr)(up:List AB)(loc:AB) :
  IQ (BQ P A kn n) d ⟨c,fr,⟨up,loc⟩⟩ f args=oW P d fr fn.results.toList (AE P A kn n fn.ntmps code ⟨c,AF 0 args,⟨up++[loc],[]⟩⟩) :=
 kX hf hb hs (by rw[hcl,Bool.false_and]) d c fr up loc
theorem sG{A:Ann}{kn:CF0}{n:Nat}{f:FuncId}{fn:Func}{code:Code}{args:List V}(hf:P.funcs[f]? = some fn)(hb:fn.body=some code)(hs:Nat.ble args.length fn.ntmps=true)(hh:AK P f=true)(d:Option Tmp)(c:Nat)(fr:Fr)(up:List AB)(loc:AB) :
  IQ (BQ P A kn n) d ⟨c,fr,⟨up,loc⟩⟩ f args=oW P d fr fn.results.toList (AE P A kn n fn.ntmps code ⟨c,AF 0 args,⟨up++[loc],[]⟩⟩) :=
 kX hf hb hs (by rw[hh,Bool.not_true,Bool.and_false]) d c fr up loc
@[simp] theorem AQ3(f l k g o:Nat):AL (f+1) (.ptr l k g o)=false:=rfl
@[simp] theorem AQ4(f l k g o:Nat):AL (f+1) (.vec l k g o)=false:=rfl
@[simp] theorem AWE(f l k g:Nat):AL (f+1) (.mp l k g)=false:=rfl
@[simp] theorem A4R(l k g o:Nat):weakV (.ptr l k g o)=.ptr l k g o:=rfl
@[simp] theorem A4S(l k g o:Nat):weakV (.vec l k g o)=.vec l k g o:=rfl
@[simp] theorem A4T(cs:List V):weakV (.ref cs)=.ref cs:=rfl
@[simp] theorem BDO(d c:Nat)(f:FuncId)(x y:List V):vY d c fr s (some (.fn f x y))=some ⟨c+1,(d,true,.ptr s.up.length d c 0) :: fr,s.put s.up.length d c (.box [.fn f x y])⟩:=rfl
@[simp] theorem A8U(d c:Nat)(l k g o:Nat):vY d c fr s (some (.ptr l k g o))=some ⟨c+1,(d,true,.ptr s.up.length d c 0) :: fr,s.put s.up.length d c (.box [.ptr l k g o])⟩:=rfl
@[simp] theorem BDP(d c:Nat)(es:List (List V)):vY d c fr s (some (sl es))=some ⟨c+1,(d,true,.ptr s.up.length d c 0) :: fr,s.put s.up.length d c (.box [sl es])⟩:=by cases es <;> rfl
@[simp] theorem EP:AQ s []=[]:=rfl
@[simp] theorem CI(k g:Nat)(r:AX)(L:AB):AQ s ((k,g,r) :: L)=(k,g,CC s r) :: AQ s L:=rfl
def sr1(r:AX):Option (List V)→AX
 | some ds=>.box ds
 | none=>r
@[simp] theorem A4U(r:AX)(ds:List V):sr1 r (some ds)=.box ds:=rfl
theorem kY(cs:List V):CC s (.box cs)=sr1 (.box cs) (EK (BJ s) cs):=by
 unfold CC CA sr1
 simp only
 cases EK (BJ s) cs <;> rfl
attribute [simp] kY
theorem oX(f:V→Option V):EK f []=some []:=rfl
theorem kZ(f:V→Option V)(v:V)(l:List V):EK f (v :: l)=mc2 (f v) (EK f l):=by
 simp only[EK]
 cases f v with
 | none=>rfl
 | some x=>cases EK f l <;> rfl
attribute [simp] oX kZ
@[simp] theorem ALG(k:IntKind)(n:Int):BJ s (.int k n)=some (.int k n):=rfl
@[simp] theorem AH2(b:Bool):BJ s (.bool b)=some (.bool b):=rfl
@[simp] theorem AH3(b:Bool)(es:List (List V)):BJ s (.list b es)=some (.list b es):=rfl
@[simp] theorem ALH:BJ s .nil=some .nil:=rfl
@[simp] theorem AQ5(es:List (List V)):BJ s (sl es)=some (sl es):=by cases es <;> rfl
@[simp] theorem AQ6(f:FuncId)(x y:List V):BJ s (.fn f x y)=AZ s 4 (.fn f x y):=rfl
@[simp] theorem ALI(l k g o:Nat):BJ s (.ptr l k g o)=AZ s 4 (.ptr l k g o):=rfl
@[simp] theorem VM(l k g o:Nat):BJ s (.vec l k g o)=AZ s 4 (.vec l k g o):=rfl
@[simp] theorem ALJ(cs:List V):BJ s (.agg cs)=AZ s 4 (.agg cs):=rfl
@[simp] theorem AWF(f:Nat)(g:FuncId)(x y:List V):AZ s (f+1) (.fn g x y)=fn2 g (PO (AZ s f) x) (PO (AZ s f) y):=by
 simp only[AZ,TD,fn2]
 cases PO (AZ s f) x <;> cases PO (AZ s f) y <;> rfl
def cp1(f:List V→Option (List V))(g off:Nat):Option (Nat×AX)→Option V
 | some (g',.box cs)=>if g'=g then(f cs).map fun ds=>.ref (ds.drop off) else none
 | _=>none
@[simp] theorem AQ7(f:Nat)(up:List AB)(loc:AB)(l k g off:Nat):AZ ⟨up,loc⟩ (f+1) (.ptr l k g off)=if l=up.length then cp1 (PO (AZ ⟨up,loc⟩ f)) g off (loc.get k) else some (.ptr l k g off):=by
 simp only[AZ,TD]
 split
 ·cases loc.get k with
  | none=>rfl
  | some z=>obtain⟨g',r⟩:=z; cases r <;> rfl
 ·rfl
noncomputable def ow3(d c:Nat)(fr:Fr)(s:St):Option V→Option XS
 | some r=>some ⟨c+1,(d,true,r) :: fr,s.put s.up.length d c .dead⟩
 | none=>none
@[simp] theorem A4V(d c:Nat)(r:V):ow3 d c fr s (some r)=some ⟨c+1,(d,true,r) :: fr,s.put s.up.length d c .dead⟩:=rfl
theorem AH4:CC s .dead=.dead:=rfl
attribute [simp] AH4
end Go.Pg
