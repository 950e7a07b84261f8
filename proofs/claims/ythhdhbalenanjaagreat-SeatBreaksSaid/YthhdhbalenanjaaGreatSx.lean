/- Operations of a region with all that hangs on the region alone worked out; running them one after another. No program in sight. -/
import Derived.Test.YthhdhbalenanjaaGreatQ2
noncomputable section
open Go renaming TypeId->bp,Operand->cj,Program->ck,Oper->cq,Code->cw,FuncId->cx,IntKind->cz
open Bool renaming and_eq_true->bj
open List renaming length_append->bk,length_nil->bq,getElem?_eq_getElem->bw,mapM_cons->bz,all_cons->bb,replicate->bc,mapM_nil->bh
open Nat renaming beq->bx,blt_eq->bf,beq_eq->bg,ble->bm,blt->bn
namespace Go.Pg
variable {P:ck}{E:XE}
inductive IK where
 |mv (x:cj)
 |bin (op:BinOp) (T:bp) (x y:cj)
 |fa (T:bp) (x:cj) (f:Nat)
 |ld (T:bp) (x:cj)
 |ldz (T:bp) (x:cj)
 |pick (c a b:cj)
 |build (T:bp) (ps:List (Nat×cj))
 |buildS (T:bp) (n:Nat) (ps:List (Nat×cj))
 |oth (op:Op)
 |alloc (T:bp)
 |box (x:cj)
 |mkM (r:Option cj)
 |mkS (T:bp) (x y:cj)
 |sto (T:bp) (x y:cj)
 |upd (T:bp) (x i y:cj)
 |call (own:Bool) (tk:Option Tmp) (f:cj) (args:List cj)
 |app (args:List cj) (Ts:List bp)
 |clr (args:List cj) (Ts:List bp)
 |cpy (args:List cj) (Ts:List bp)
def tA (op : Op) : cq := { dst := none, op := op, type := 0, pos := "", after := #[], guard := none }
def AJB(all:List cq):List cj->Option Tmp
 |[]=>none
 |x::r=>match x with
  |.tmp t=>cond (ANX all t) (some t) (AJB all r)
  |_=>AJB all r
def OE(all:List cq)(o:cq):IK:=match o.op with
 |.move x=>.mv x
 |.assign x=>.mv x
 |.binOp op T x y _=>.bin op T x y
 |.fieldAddr T x f=>.fa T x f
 |.load T x=>.ld T x
 |.pick c a b=>.pick c a b
 |.build T ps=>.build T ps.toList
 |.buildSlice T n ps=>.buildS T n ps.toList
 |.alloc T=>.alloc T
 |.box _ x=>.box x
 |.makeMap _ r=>.mkM r
 |.makeSlice T x y=>.mkS T x y
 |.store T x y=>.sto T x y
 |.mapUpdate T x i y=>.upd T x i y
 |.call c=>match c.callee with
  |.value f=>.call (DZ all o) (AJB all c.args.toList) f c.args.toList
  |.builtin .append=>.app c.args.toList c.argTypes.toList
  |.builtin .clear=>.clr c.args.toList c.argTypes.toList
  |.builtin .copy=>.cpy c.args.toList c.argTypes.toList
  |_=>.oth o.op
 |op=>.oth op
structure J6 where
 g:Option (Tmp×Bool)
 d:Option Tmp
 k:IK
def comp(all:List cq)(o:cq):J6:=⟨LU all o,o.dst,OE all o⟩
def AJC:IK->IK
 |.ld T x=>.ldz T x
 |k=>k
def jI(all:List cq)(o:cq):J6:=⟨LU all o,o.dst,cond (zB all o) (AJC (OE all o)) (OE all o)⟩
def EN(d:Option Tmp)(st:XS)(r:Option V):Option XS:=match r with
 |some v=>some ⟨st.c,putD st.fr d true v,st.s⟩
 |none=>none
def ARZ(tk:Option Tmp)(st:XS):XS:=match tk with
 |none=>st
 | some t=>match(match A3 st.fr t with
   |some (true,.vec l q γ n)=>match st.s.get l q with
    |some (γ',.vec _ es)=>Bool.rec none (some ⟨st.c,(t,true,.list false (es.take n))::st.fr,st.s.put l q γ .dead⟩) (bx γ' γ&&bm n es.length&&bn γ st.c)
    |_=>none
   | _=>none:Option XS)with
  |some st1=>st1
  |none=>st
def DC(P:ck)(E:XE)(d:Option Tmp)(k:IK)(st:XS):Option XS:=match k with
 |.mv x=>EN d st (CP st.fr x)
 |.bin op T x y=>EN d st (ACN P st.fr op T x y)
 |.fa T x f=>EN d st (xFA P st.fr T x f)
 |.ld T x=>EN d st (OD P st.fr st.s T x)
 |.ldz T x=>EN d st (OD P st.fr st.s T x)
 |.pick c a b=>EN d st (yQ st.fr c a b)
 |.build T ps=>EN d st (W2 P st.fr T ps)
 |.buildS T n ps=>EN d st (QM P st.fr T n ps)
 |.oth op=>EN d st (J2 P (tA op) st.s (CP st.fr))
 |.alloc T=>PR P d T st
 |.box x=>pW d x st
 |.mkM r=>ACJ d r st
 |.mkS T x y=>YI P d T x y st
 |.sto T x y=>JQ P d T x y st
 |.upd T x i y=>ACK P d T x i y st
 |.call own tk f args=>qJ E own d f args (ARZ tk st)
 |.app args Ts=>xAppend P d args Ts st
 |.clr args Ts=>lB P d args Ts st
 |.cpy args Ts=>yS P d args Ts st
def opI(P:ck)(E:XE)(i:J6)(st:XS):Option XS:=match gdX st.fr i.g with
 |some true=>DC P E i.d i.k st
 |some false=>some (JH i.d st)
 |none=>none
def opO(P:ck)(E:XE)(i:J6)(r:Option XS):Option XS:=match r with
 |some st=>opI P E i st
 |none=>none
def PZ(P:ck)(E:XE):List J6->Option XS->Option XS
 |[],r=>r
 |i::l,r=>PZ P E l (opO P E i r)
theorem eG(all:List cq)(st:XS):∀(xs:List cj),(match NW all st xs with
  |some st1=>st1
  | none=>st)=ARZ (AJB all xs) st
 |[]=>rfl
 |x::r=>by
  unfold NW AJB;cases x with
  |tmp t=>
   simp only
   cases ANX all t with
   |false=>exact eG all st r
   |true=>rfl
  |_=>exact eG all st r
theorem A8O{o:cq}{st:XS}:AHL P (fun _=>false) o st=none:=by unfold AHL;split<;>rfl
theorem AJD(hl:E.lit=fun _=>false)(all:List cq)(o:cq)(st:XS):opX P E all o st=opI P E (comp all o) st:=by
 unfold opX opI;rw[hl];simp only[A8O];have:(match AHM all o st with
   |some st1=>RH P E (DZ all) o st1
   | none=>RH P E (DZ all) o st)=DC P E o.dst (OE all o) st:=by
  have ht:∀(r:Option XS),(match r with
   |some st1=>RH P E (DZ all) o st1
   | none=>RH P E (DZ all) o st)=RH P E (DZ all) o (match r with
   |some st1=>st1
   | none=>st):=fun r=>by cases r <;> rfl
  rw[ht]
  obtain⟨d,op,T,pos,af,gd⟩:=o
  cases op with
  |call c=>
   obtain⟨cal,args,Ts⟩:=c
   cases cal with
   |value f=>
    show RH P E _ _ (match NW all st args.toList with|some st1=>st1|none=>st)=_
    rw[eG]
    rfl
   |builtin b=>cases b<;>rfl
   |_=>rfl
  |_=>rfl
 show _=(match gdX st.fr (LU all o)with
  |some true=>DC P E o.dst (OE all o) st
  |some false=>some (JH o.dst st)
  | none=>none)
 cases gdX st.fr (LU all o)with
 |none=>rfl
 |some b=>
  cases b with
  |false=>rfl
  |true=>exact this
theorem IY:∀(l:List J6),PZ P E l none=none
 |[]=>rfl
 |_::l=>IY l
theorem zX(hl:E.lit=fun _=>false)(all:List cq):∀(l:List cq) (st:XS),lE P E all l st=PZ P E (l.map (comp all)) (some st)
 |[],st=>rfl
 |o::l,st=>by
  simp only[lE,List.map_cons,PZ,opO];rw[AJD hl];cases opI P E (comp all o) st with
  |none=>exact(IY _).symm
  |some st'=>exact zX hl all l st'
def H8(P:ck)(k:IK)(r:cj->Option V):AL:=match k with
 |.ld T x=>BR (bx (P.cellsOf T) 1) (r x)
 |.app xs _=>KO r xs
 |.oth op=>EM P (tA op) r
 |_=>[]
def DP(P:ck)(E:XE)(d:Option Tmp)(k:IK)(st:XS):Option (XS×AL):=match k with
 |.mv x=>VE (EN d st (CP st.fr x))
 |.bin op T x y=>VE (EN d st (ACN P st.fr op T x y))
 |.fa T x f=>VE (EN d st (xFA P st.fr T x f))
 |.ld T x=>VE (EN d st (OD P st.fr st.s T x))
 |.ldz T x=>VE (EN d st (OD P st.fr st.s T x))
 |.pick c a b=>VE (EN d st (yQ st.fr c a b))
 |.build T ps=>VE (EN d st (W2 P st.fr T ps))
 |.buildS T n ps=>VE (EN d st (QM P st.fr T n ps))
 |.oth op=>VE (EN d st (J2 P (tA op) st.s (CP st.fr)))
 |.alloc T=>VE (PR P d T st)
 |.box x=>VE (pW d x st)
 |.mkM r=>VE (ACJ d r st)
 |.mkS T x y=>VE (YI P d T x y st)
 |.sto T x y=>AHO P d T x y st
 |.upd ..=>none
 |.call own _ f args=>Bool.rec (VE (dE E.c0 d f args st)) (VE (JS E.co d f args st)) own
 |.app args Ts=>xAppD P d args Ts st
 |.clr ..=>none
 |.cpy ..=>none
def lX:IK->Bool
 |.alloc _|.box _|.mkM _|.mkS ..|.sto ..|.app ..=>true
 |.call own ..=>own
 |_=>false
def XI(P:ck)(E:XE)(i:J6)(st:XS):Option (XS×AL):=match gdX st.fr i.g with
 |some true=>DP P E i.d i.k st
 |some false=>Bool.rec (some (JH i.d st,[])) none (lX i.k)
 |none=>none
def AJE(P:ck)(E:XE)(i:J6)(r:Option (XS×AL×AL)):Option (XS×AL×AL):=match r with
 |some (st,rd,wr)=>match XI P E i st with
  |some (st',w)=>some (st',H8 P i.k (CP st.fr)++rd,w++wr)
  |none=>none
 |none=>none
def XJ(P:ck)(E:XE):List J6->Option (XS×AL×AL)->Option (XS×AL×AL)
 |[],r=>r
 |i::l,r=>XJ P E l (AJE P E i r)
def eH(r:Option (XS×AL×AL)):Option XS:=match r with
 |some (st,rd,wr)=>Bool.rec none (some st) (wr.all fun p=>!(rd.contains p))
 |none=>none
structure rR where
 new:List Tmp
 ph:List J6
 sq:List J6
def lY(new:List Tmp)(st:XS):Bool:=new.all fun d=>(st.s.loc.get d).isNone
def AJF(new:List Tmp)(r:Option XS):Option (XS×AL×AL):=match r with
 |some st=>Bool.rec none (some (st,[],[])) (lY new st)
 |none=>none
def XK(P:ck)(E:XE):List rR->Option XS->Option XS
 |[],r=>r
 |p::S,r=>XK P E S (PZ P E p.sq (eH (XJ P E p.ph (AJF p.new r))))
def jJ(l:List cq)(R:List Nat):List J6:=R.filterMap fun i=>(l[i]?).map (comp l)
def jK(l:List cq)(R:List Nat):List J6:=R.filterMap fun i=>(l[i]?).map (jI l)
def zY(l:List cq)(R:List Nat):List Tmp:=R.filterMap fun i=>match l[i]? with
 |some o=>cond (kA (DZ l) o) o.dst none
 |none=>none
def zZ(l:List cq)(p:List Nat×List Nat):rR:=⟨zY l p.1,jK l p.1,jJ l p.2⟩
def inB(l:List cq)(S:YY):Bool:=S.all fun p=>p.1.all (fun i=>bn i l.length)&&p.2.all (fun i=>bn i l.length)
theorem AC9(all:List cq)(o:cq)(st:XS):lG P E (DZ all) o st=DP P E o.dst (OE all o) st:=by
 obtain⟨d,op,T,pos,af,gd⟩:=o;cases op with
 |call c=>
  obtain⟨cal,args,Ts⟩:=c
  cases cal with
  |builtin b=>cases b<;>rfl
  |_=>rfl
 |_=>rfl
theorem AWN(all:List cq)(o:cq)(r:cj->Option V):EM P o r=H8 P (OE all o) r:=by
 obtain⟨d,op,T,pos,af,gd⟩:=o;cases op with
 |call c=>
  obtain⟨cal,args,Ts⟩:=c
  cases cal with
  |builtin b=>cases b<;>rfl
  |_=>rfl
 |_=>rfl
theorem A8P(all:List cq)(o:cq):(kA (DZ all) o||kW o||kP o)=lX (OE all o):=by
 obtain⟨d,op,T,pos,af,gd⟩:=o;cases op with
 |call c=>
  obtain⟨cal,args,Ts⟩:=c
  cases cal with
  |builtin b=>cases b<;>rfl
  |value f=>simp[kA,kW,kP,lX,OE]
  |_=>rfl
 |_=>rfl
theorem AOR(all:List cq)(o:cq)(st:XS):uY P E all o st=XI P E (comp all o) st:=by unfold uY XI;rw[AC9,A8P];rfl
theorem vZ(d:Option Tmp)(k:IK)(st:XS):DP P E d (AJC k) st=DP P E d k st:=by cases k<;>rfl
theorem AOS(k:IK):lX (AJC k)=lX k:=by cases k<;>rfl
theorem AWO(all:List cq)(o:cq)(st:XS):XI P E (jI all o) st=XI P E (comp all o) st:=by
 unfold jI comp;cases zB all o with
 |false=>rfl
 |true=>
  show XI P E ⟨LU all o,o.dst,AJC (OE all o)⟩ st=_
  unfold XI
  simp only[vZ,AOS]
theorem AWP(all:List cq)(o:cq)(r:cj->Option V):cond (zB all o) [] (EM P o r)=H8 P (jI all o).k r:=by
 unfold jI;cases hz:zB all o with
 |false=>exact AWN all o r
 |true=>
  obtain⟨T,x,ho⟩:=ARJ hz
  show[]=H8 P (AJC (OE all o)) r
  unfold OE
  rw[ho]
  rfl
theorem QQ:∀(l:List J6),XJ P E l none=none
 |[]=>rfl
 |_::l=>QQ l
theorem AJG(l:List cq):∀(R:List Nat) (st:XS) (rd wr:AL),R.all (fun i=>bn i l.length)=true->phX P E l R st rd wr=XJ P E (jK l R) (some (st,rd,wr))
 |[],st,rd,wr,_=>rfl
 |i::R,st,rd,wr,h=>by
  simp only[bb,bj,bf]at h;have hi:=bw h.1;have hp:jK l (i::R)=jI l l[i]::jK l R:=by simp[jK,hi]
  rw[hp];simp only[phX,hi,XJ,AJE,AOR,AWO];cases XI P E (comp l l[i]) st with
  |none=>exact(QQ _).symm
  |some q=>
   obtain⟨st',w⟩:=q
   simp only
   rw[AJG l R _ _ _ h.2,AWP l]
theorem AJH(hl:E.lit=fun _=>false)(l:List cq):∀(R:List Nat) (st:XS),R.all (fun i=>bn i l.length)=true->sqX P E l R st=PZ P E (jJ l R) (some st)
 |[],st,_=>rfl
 |i::R,st,h=>by
  simp only[bb,bj,bf]at h;have hi:=bw h.1;have hp:jJ l (i::R)=comp l l[i]::jJ l R:=by simp[jJ,hi]
  rw[hp];simp only[sqX,hi,PZ,opO,AJD hl];cases opI P E (comp l l[i]) st with
  |none=>exact(IY _).symm
  |some st'=>exact AJH hl l R st' h.2
theorem MW:∀(S:List rR),XK P E S none=none
 |[]=>rfl
 |p::S=>by simp only[XK,AJF,QQ,eH,IY];exact MW S
theorem rS(l:List cq)(st:XS):∀(R:List Nat),cU (DZ l) l R st.s.loc=lY (zY l R) st
 |[]=>rfl
 |i::R=>by
  have ih:=rS l st R;unfold cU lY zY at *;simp only[bb,List.filterMap_cons,ih];cases hi:l[i]? with
  |none=>simp
  |some o=>
   simp only
   cases hk:kA (DZ l) o with
   |false=>simp
   |true=>
    cases hd:o.dst with
    |none=>simp
    |some d=>simp
theorem AAA(hl:E.lit=fun _=>false)(l:List cq):∀(S:YY) (st:XS),inB l S=true->ACP P E l S st=XK P E (S.map (zZ l)) (some st)
 |[],st,_=>rfl
 |p::S,st,h=>by
  simp only[inB,bb,bj]at h;obtain⟨⟨h1,h2⟩,h3⟩:=h;simp only[ACP,List.map_cons,XK,zZ,AJF,rS];cases lY (zY l p.1) st with
  |false=>
   simp only[QQ,eH,IY]
   exact(MW _).symm
  |true=>
   simp only[AJG l _ _ _ _ h1]
   cases XJ P E (jK l p.1) (some (st,[],[]))with
   |none=>simp only[eH,IY];exact(MW _).symm
   |some q=>
    obtain⟨st1,rd,wr⟩:=q
    simp only[eH]
    cases (wr.all fun p=>!rd.contains p)with
    |false=>simp only[IY];exact(MW _).symm
    |true=>
     simp only[AJH hl l _ _ h2]
     cases PZ P E (jJ l p.2) (some st1)with
     |none=>exact(MW _).symm
     |some HD=>exact AAA hl l S HD h3
inductive IR where
 |str (l:List J6)
 |drw (S:List rR)
 |cls (ks:List (Nat×Nat×Nat))
def AAB(P:ck)(ops:List cq)(draw:Bool):IR:=cond draw (cond (Y2 P ops) (.cls (IX ops)) (.drw ((fP ops).map (zZ ops)))) (.str (ops.map (comp ops)))
def okR(P:ck)(ops:List cq)(draw:Bool):Bool:=cond draw (cond (Y2 P ops) true (inB ops (fP ops))) true
def JJ(P:ck)(E:XE)(i:IR)(st:XS):Option XS:=match i with
 |.str l=>PZ P E l (some st)
 |.drw S=>XK P E S (some st)
 |.cls ks=>SJ P ks (some st)
end Go.Pg
namespace Go.Pg
variable {P:ck}{σ σ':Nat->Nat}{δ:Nat}{pre:List AA}{s:St}{fr:Fr}
abbrev Tr:=Option (List Nat×List Nat)
abbrev Ann:=Nat->Nat->Tr
def CI(a:Tr)(st:XS):XS:=match a with
 |some p=>SG p.1 p.2 st
 |none=>st
theorem MX{a:Tr}{st:XS}(h:Bd st):KZ st (CI a st):=by
 cases a with
 |none=>exact⟨Nat.le_refl _,h,rfl⟩
 |some p=>exact VG h
theorem I4{a:Tr}{st:XS}:(CI a st).c=st.c:=by cases a<;>rfl
theorem KT{n N:Nat}{ρ:Option Nat}{c:cw}{K:Exit->Fr->St->Prop}{a:Tr}{st:XS}(h:BI P n N ρ c K ((CI a st).fr.ren σ pre.length) ((CI a st).s.emb σ pre)):BI P n N ρ c K (st.fr.ren σ pre.length) (st.s.emb σ pre):=by
 cases a with
 |none=>exact h
 |some p=>exact W6 h
def A8Q(P:ck)(E:XE)(a:Tr)(l:List cq)(draw:Bool)(st:XS):Option XS:=Bool.rec (lE P E l l (CI a st)) (Bool.rec (RJ P E l (CI a st)) (SJ P (IX l) (some (CI a st))) (Y2 P l)) draw
def isY:List Nat->Bool
 |k::_=>bx k 777
 |[]=>false
def AJI(P:ck)(E:XE)(N:Nat)(a:Tr)(l:List cq)(draw:Bool)(us:List Nat)(st:XS):Option XS:=Bool.rec (A8Q P (cfU us E) a l draw st) (Bool.rec none (zM P E N l (CI a st)) draw) (isY us)
def A9(rec:eW)(body:cw)(a:Tr)(n:Nat):XS->Option (Exit×XS):=Nat.rec (motive:=fun _=>XS->Option (Exit×XS)) (fun _=>none) (fun _ ih st=>match rec body st with
 |some (.normal,st')=>ih (CI a st')
 | r=>r) n
def lZ(id:Nat)(l:List cq):Nat:=id+1000*l.length+1000000*(match l with
 |o::_=>match o.dst with
  |some d=>d
  |none=>0
 | []=>0)
def BV:cw->Nat
 |.region id ops _=>lZ id ops.toList
 |.seq a _=>BV a
 |.block _ c=>BV c
 |.loop c=>BV c
 |.scope c=>BV c
 |_=>0
def ADA:Tr->List Nat
 |some p=>p.1
 |none=>[]
def OG:Nat:=1000000000000000
def ADB:Tr->List Nat
 |some p=>p.2
 |none=>[]
def XL(P:ck)(E:XE)(A:Ann)(n N:Nat)(rec:eW):eW:=fun code st=>match code with
 |.region id ops draw=>OP (AJI P E N (A N (lZ id ops.toList)) ops.toList draw (ADB (A N (lZ id ops.toList+OG))) (LD (ADA (A N (lZ id ops.toList+OG))) st))
 |.loop body=>A9 rec body (A N (BV body)) n (CI (A N (BV body)) st)
 |c=>dG P E n N rec c st
def AE(P:ck)(A:Ann)(kn:CF0)(n:Nat):GP:=Nat.rec (motive:=fun _=>GP) (fun _ _ _=>none) (fun n ih N=>XL P (A7D P kn (fun _ _ _=>none) (fun _=>false) ih) A n N (ih N)) n
theorem AOT(hP:EG P){E:XE}(hEE:KP P E){a:Tr}{id:Nat}{ops:Array cq}{draw:Bool}{N:Nat}(hN:E6 N (.region id ops draw)=true){st st':XS}(hx:A8Q P E a ops.toList draw st=some st')(hbd:Bd st):KZ st st' /\
  ∀(n:Nat) (ρ:Option Nat) (σ:Nat->Nat) (pre:List AA) (K:Exit->Fr->St->Prop),(∀σ',AU st.c σ σ'->K .normal (st'.fr.ren σ' pre.length) (st'.s.emb σ' pre))->BI P n N ρ (.region id ops draw) K (st.fr.ren σ pre.length) (st.s.emb σ pre):=by
 obtain⟨l⟩:=ops
 have hT:=MX (a:=a) hbd
 have ext:∀{st'},KZ (CI a st) st'->KZ st st':=fun h=>⟨by have:=h.c;rwa [I4]at this,h.bd,h.n.trans hT.n⟩
 cases draw with
 |false=>
  simp only[E6,cond_false,bj]at hN
  have hx:lE P E l l (CI a st)=some st':=hx
  obtain⟨hE,hs⟩:=lF hEE hT.bd hx
  refine⟨ext hE,fun n ρ σ pre K hk=>KT (a:=a) ?_⟩
  exact YC (l.map (LU l)) hN.1 (kZ (U9 hN.2)) (hs σ pre _ fun σ' ha=>hk σ' (by rwa [I4]at ha))
 |true=>
  simp only[E6,cond_true]at hN
  cases hc:Y2 P l with
  |true=>
   have hx:(Bool.rec (RJ P E l (CI a st)) (SJ P (IX l) (some (CI a st))) (Y2 P l):Option XS)=some st':=hx
   rw[hc]at hx
   obtain⟨hE,hs⟩:=AOE (id:=id) hP hN hc hx hT.bd
   exact⟨ext hE,fun n ρ σ pre K hk=>KT (a:=a) (hs n ρ σ pre K fun σ' ha=>hk σ' (by rwa [I4]at ha))⟩
  |false=>
  have hx:(Bool.rec (RJ P E l (CI a st)) (SJ P (IX l) (some (CI a st))) (Y2 P l):Option XS)=some st':=hx
  rw[hc]at hx
  obtain⟨hE,hs⟩:=dZ (id:=id) hP hEE hN hx hT.bd
  exact⟨ext hE,fun n ρ σ pre K hk=>KT (a:=a) (hs n ρ σ pre K fun σ' ha=>hk σ' (by rwa [I4]at ha))⟩
theorem AOU(hP:EG P){E:XE}(hEE:KP P E){a:Tr}{us:List Nat}{id:Nat}{ops:Array cq}{draw:Bool}{N:Nat}(hN:E6 N (.region id ops draw)=true){st st':XS}(hx:AJI P E N a ops.toList draw us st=some st')(hbd:Bd st):KZ st st' /\
  ∀(n:Nat) (ρ:Option Nat) (σ:Nat->Nat) (pre:List AA) (K:Exit->Fr->St->Prop),(∀σ',AU st.c σ σ'->K .normal (st'.fr.ren σ' pre.length) (st'.s.emb σ' pre))->BI P n N ρ (.region id ops draw) K (st.fr.ren σ pre.length) (st.s.emb σ pre):=by
 unfold AJI at hx
 cases hy:isY us with
 |false=>rw[hy]at hx;exact AOT hP (AVR hEE _) hN hx hbd
 |true=>
  rw[hy]at hx
  cases draw with
  |false=>cases hx
  |true=>
   have hx:zM P E N ops.toList (CI a st)=some st':=hx
   have hT:=MX (a:=a) hbd
   obtain⟨hE,hs⟩:=AIL hP hEE (id:=id) hx hT.bd
   refine⟨⟨by have:=hE.c;rwa [I4]at this,hE.bd,hE.n.trans hT.n⟩,fun n ρ σ pre K hk=>KT (a:=a) ?_⟩
   exact hs n ρ σ pre K fun σ' ha=>hk σ' (by rwa [I4]at ha)
theorem AJJ{N:Nat}{rec:eW}(hrec:dK P N rec){body:cw}{a:Tr}(hN:E6 N body=true)(m:Nat){st st':XS}{e:Exit}(hx:A9 rec body a m (CI a st)=some (e,st'))(hbd:Bd st):KZ st st'/\(∀l,e≠.goto l) /\
  ∀(n:Nat) (ρ:Option Nat) (σ:Nat->Nat) (pre:List AA) (K:Exit->Fr->St->Prop),(ρ=none\/GO body=true)->(∀σ',AU st.c σ σ'->K e (st'.fr.ren σ' pre.length) (st'.s.emb σ' pre))->BI P n N ρ (.loop body) K (st.fr.ren σ pre.length) (st.s.emb σ pre):=by
 have up:∀{st st':XS},Bd st->KZ (CI a st) st'->KZ st st':=fun hbd h=>⟨by have:=h.c;rwa [I4]at this,h.bd,h.n.trans (MX hbd).n⟩
 have ext:∀(m:Nat) {st:XS},A9 rec body a m (CI a st)=some (e,st')->Bd st->KZ st st'/\(∀l,e≠.goto l):=by
  intro m;induction m with
  |zero=>intro st hx _;cases hx
  |succ m ih=>
   intro st hx hbd
   have hx:(match rec body (CI a st)with
    |some (.normal,st')=>A9 rec body a m (CI a st')
    | r=>r)=some (e,st'):=hx
   have hT:=MX (a:=a) hbd
   split at hx
   ·rename_i st1 h1;obtain⟨hE,_,_⟩:=hrec _ _ _ _ h1 hT.bd hN;obtain⟨hE',hg⟩:=ih hx hE.bd;exact⟨up hbd ⟨Nat.le_trans hE.c hE'.c,hE'.bd,hE'.n.trans hE.n⟩,hg⟩
   ·obtain⟨hE,hg,_⟩:=hrec _ _ _ _ hx hT.bd hN;exact⟨up hbd ⟨hE.c,hE.bd,hE.n⟩,hg⟩
 obtain⟨hE,hg⟩:=ext m hx hbd
 refine⟨hE,hg,fun n ρ σ pre K hρ hk=>?_⟩
 refine iF (fun m fr s=>∃(st:XS) (σ:Nat->Nat),fr=st.fr.ren σ pre.length/\s=st.s.emb σ pre/\Bd st/\A9 rec body a m (CI a st)=some (e,st')/\∀σ',AU st.c σ σ'->K e (st'.fr.ren σ' pre.length) (st'.s.emb σ' pre)) m ⟨st,σ,rfl,rfl,hbd,hx,hk⟩ ?_
 rintro m fr s ⟨st,σ,rfl,rfl,hbd,hx,hk⟩
 cases m with
 |zero=>cases hx
 |succ m=>
  have hx:(match rec body (CI a st)with
   |some (.normal,st')=>A9 rec body a m (CI a st')
   | r=>r)=some (e,st'):=hx
  have hT:=MX (a:=a) hbd
  refine KT (a:=a) ?_
  split at hx
  ·rename_i st1 h1;obtain⟨hE,_,hC⟩:=hrec _ _ _ _ h1 hT.bd hN;refine hC n ρ σ pre _ hρ fun σ' ha=>?_;rw[I4]at ha;exact⟨m,Nat.lt_succ_self _,st1,σ',rfl,rfl,hE.bd,hx,fun σ'' ha'=>hk σ'' (ha.trans ha' (by have:=hE.c;rwa [I4]at this))⟩
  ·rename_i hne;obtain⟨hE,hg,hC⟩:=hrec _ _ _ _ hx hT.bd hN;refine hC n ρ σ pre _ hρ fun σ' ha=>?_;rw[I4]at ha;have:=hk σ' ha;cases e with
   |normal=>exact absurd hx (hne st')
   |_=>exact this
theorem mA(hP:EG P){E:XE}(hEE:KP P E){A:Ann}{N:Nat}{rec:eW}(hrec:dK P N rec)(m:Nat):dK P N (XL P E A m N rec):=by
 intro code st e st' hx hbd hN;unfold XL at hx;split at hx
 ·rename_i id ops draw;obtain⟨rfl,hx2⟩:=rK hx;have hT:=zH (ADA (A N (lZ id ops.toList+OG))) hbd;obtain⟨hE,hs⟩:=AOU hP hEE hN hx2 hT.bd;exact⟨⟨Nat.le_trans hT.c hE.c,hE.bd,hE.n.trans hT.n⟩,(by intro l h;cases h),fun n ρ σ pre K _ hk=>rF _ (hs n ρ σ pre K fun σ' ha=>hk σ' (by rwa [ARR]at ha))⟩
 ·rename_i body;have hN:E6 N body=true:=hN;obtain⟨h1,h2,h3⟩:=AJJ hrec hN m hx hbd;exact⟨h1,h2,fun n ρ σ pre K hρ hk=>h3 n ρ σ pre K hρ hk⟩
 ·exact rL hP hEE hrec m _ _ _ _ hx hbd hN
theorem VR(hP:EG P){A:Ann}{kn:CF0}(hkn:HW P kn):∀n,Y1 P (AE P A kn n)
 |0=>fun N code st e st' hx=>by cases hx
 |n+1=>fun N=>by have ih:=VR hP (A:=A) hkn n;exact mA hP ⟨AHW hP hkn ih,AOG hP ih,dO hP hkn ih,AHV hP hkn (ko:=fun _ _ _=>none) (fun _ _ _ _ h=>by cases h) ih⟩ (ih N) n
theorem AJK(hP:EG P){A:Ann}{kn:CF0}(hkn:HW P kn){n:Nat}{f:cx}{args:List V}{r:V}(h:E1 P (AE P A kn n) f args=some r)(s:St):FG P f args s fun r' s'=>r'=r/\s'=s :=
 (dM hP (VR hP hkn n) f args r h).1 s
section
variable {A:Ann}{kn:CF0}{n N:Nat}{st:XS}
abbrev BS(P:ck)(A:Ann)(kn:CF0)(n:Nat):XE:=A7D P kn (fun _ _ _=>none) (fun _=>false) (AE P A kn n)
theorem AJL(a b:cw):AE P A kn (n+1) N (.seq a b) st=lH (AE P A kn n N) b (AE P A kn n N a st):=rfl
theorem ADC(c:cj)(a b:cw):AE P A kn (n+1) N (.cond c a b) st=qN (AE P A kn n N) a b st (CP st.fr c):=rfl
theorem wA(id:Nat)(b:cw):AE P A kn (n+1) N (.block id b) st=W7 id (AE P A kn n N b st):=rfl
theorem ADD(b:cw):AE P A kn (n+1) N (.loop b) st=A9 (AE P A kn n N) b (A N (BV b)) n (CI (A N (BV b)) st):=rfl
theorem ADE:AE P A kn (n+1) N .skip st=some (.normal,st):=rfl
theorem ADF(id:Nat):AE P A kn (n+1) N (.exit id) st=some (.exit id,st):=rfl
theorem AJM:AE P A kn (n+1) N .ret st=some (.ret,st):=rfl
theorem SL(g:cj)(ps:Array Tmp)(asg body:cw):AE P A kn (n+1) N (.rangeFunc g ps asg body) st=W8 (BS P A kn n).cf N g ps.toList asg body st:=rfl
theorem AB(rec:eW)(body:cw)(a:Tr):A9 rec body a (n+1) st=match rec body st with
 |some (.normal,st')=>A9 rec body a n (CI a st')
 |r=>r:=rfl
theorem rT(rec:eW)(b:cw):lH rec b (some (.normal,st))=rec b st:=rfl
theorem AJN(rec:eW)(b:cw):lH rec b (some (.ret,st))=some (.ret,st):=rfl
theorem ADG(rec:eW)(b:cw)(i:Nat):lH rec b (some (.exit i,st))=some (.exit i,st):=rfl
theorem AJO(rec:eW)(b:cw)(c:Prop)[Decidable c](x y:Option (Exit×XS)):lH rec b (if c then x else y)=if c then lH rec b x else lH rec b y:=by split<;>rfl
theorem fZ(id:Nat):W7 id (some (.normal,st))=some (.normal,st):=rfl
theorem wB(id:Nat):W7 id (some (.ret,st))=some (.ret,st):=rfl
theorem rU(id i:Nat):W7 id (some (.exit i,st))=if i=id then some (.normal,st) else some (.exit i,st):=by
 show(Bool.rec _ _ (bx i id):Option (Exit×XS))=_;by_cases h:i=id
 ·subst h;simp
 ·have:bx i id=false:=by
   cases hb:bx i id with
   |false=>rfl
   |true=>exact absurd (Nat.eq_of_beq_eq_true hb) h
  simp[h,this]
def AAC:cw->Bool
 |.region ..=>true
 |_=>false
def YL:cw->List cq
 |.region _ ops _=>ops.toList
 |_=>[]
def P0:cw->Bool
 |.region _ _ d=>d
 |_=>false
theorem AAD(us:List Nat){E:XE}(h:E.lit=fun _=>false):(cfU us E).lit=fun _=>false:=by cases us<;>exact h
theorem XM{r:cw}(hr:AAC r=true){i:IR}(hi:AAB P (YL r) (P0 r)=i)(hok:okR P (YL r) (P0 r)=true){a:Tr}(ha:A N (BV r)=a){ks us:List Nat}(ht:ADA (A N (BV r+OG))=ks)(hu:ADB (A N (BV r+OG))=us)(hy:isY us=false:=by rfl):AE P A kn (n+1) N r st=OP (JJ P (cfU us (BS P A kn n)) i (CI a (LD ks st))):=by
 cases r with
 |region id ops draw=>
  subst hi ha ht hu
  show OP (AJI P _ N (A N (lZ id ops.toList)) ops.toList draw (ADB (A N (lZ id ops.toList+OG))) (LD (ADA (A N (lZ id ops.toList+OG))) st))=_
  unfold AJI
  rw[show isY (ADB (A N (lZ id ops.toList+OG)))=false from hy]
  cases draw with
  |false=>exact congrArg OP (zX (AAD _ rfl) _ _ _)
  |true=>
   show OP (Bool.rec (RJ P _ ops.toList _) (SJ P (IX ops.toList) (some _)) (Y2 P ops.toList))=OP (JJ P _ (cond (Y2 P ops.toList) (.cls (IX ops.toList)) (.drw ((fP ops.toList).map (zZ ops.toList)))) _)
   have hok:cond (Y2 P ops.toList) true (inB ops.toList (fP ops.toList))=true:=hok
   cases hc:Y2 P ops.toList with
   |true=>rfl
   |false=>
    rw[hc]at hok
    exact congrArg OP (AAA (AAD _ rfl) _ _ _ hok)
 |_=>cases hr
theorem DD{r:cw}(hr:AAC r=true){i:IR}(hi:AAB P (YL r) (P0 r)=i)(hok:okR P (YL r) (P0 r)=true){a:Tr}(ha:A N (BV r)=a){ks:List Nat}(ht:ADA (A N (BV r+OG))=ks)(hu:ADB (A N (BV r+OG))=[]:=by kernel_rfl):AE P A kn (n+1) N r st=OP (JJ P (BS P A kn n) i (CI a (LD ks st))):=XM hr hi hok ha ht hu rfl
theorem AJP{r:cw}(hr:AAC r=true){i:IR}(hi:AAB P (YL r) (P0 r)=i)(hok:okR P (YL r) (P0 r)=true){a:Tr}(ha:A N (BV r)=a)(ht:A N (BV r+OG)=none:=by kernel_rfl):AE P A kn (n+1) N r st=OP (JJ P (BS P A kn n) i (CI a st)):=DD hr hi hok ha (congrArg ADA ht) (congrArg ADB ht)
def gA(P:ck)(rs:List ResultVar)(r:Option (Exit×XS)):Option V:=match r with
 |some (.ret,st)=>finV st.s (GL P rs st.fr st.s)
 |some (.normal,st)=>finV st.s (GL P rs st.fr st.s)
 |_=>none
where finV (s:St) (r:Option V):Option V:=match r with
 |some v=>match A5 s 4 v with
  |some r'=>Bool.rec none (some r') (AG 9 r')
  |none=>none
 |none=>none
theorem AO{f:cx}{fn:Func}{c:cw}{args:List V}{rec:GP}(hf:P.funcs[f]? = some fn)(hb:fn.body=some c)(hs:bm args.length fn.ntmps=true)(hcl:args.all (AG 9)=true) :
  E1 P rec f args=gA P fn.results.toList (rec fn.ntmps c ⟨0,AF 0 args,⟨[],[]⟩⟩):=by
 unfold E1 iS YK qO
 rw[hcl,hf]
 simp only[hb,hs]
 generalize rec fn.ntmps c ⟨0,AF 0 args,⟨[],[]⟩⟩=q
 have aux:∀st:XS,(match(match GL P fn.results.toList st.fr st.s with
   |some r=>match A5 st.s 4 r with
    |some r'=>some (r',st.c,st.s.up.map (AJ st.s))
    |none=>none
   | none=>none:Option (V×Nat×List AA))with
  |some (r,_,_)=>(Bool.rec none (some r) (AG 9 r):Option V)
  | none=>none)=gA.finV st.s (GL P fn.results.toList st.fr st.s):=fun st=>by
  unfold gA.finV
  cases GL P fn.results.toList st.fr st.s with
  |none=>rfl
  |some r=>
   cases h:A5 st.s 4 r with
   |none=>simp[h]
   |some r'=>simp[h]
 cases q with
 |none=>rfl
 |some q=>
  obtain⟨e,st⟩:=q
  cases e with
  |ret=>exact aux st
  |normal=>exact aux st
  |_=>rfl
theorem AJQ(rs:List ResultVar)(c:Prop)[Decidable c](x y:Option (Exit×XS)):gA P rs (if c then x else y)=if c then gA P rs x else gA P rs y:=by split<;>rfl
end
def LW:cw->List Nat->cw
 |c,[]=>c
 |.seq a b,i::p=>bif bx i 0 then LW a p else LW b p
 |.cond _ a b,i::p=>bif bx i 0 then LW a p else LW b p
 |.block _ a,_::p=>LW a p
 |.loop a,_::p=>LW a p
 |.scope a,_::p=>LW a p
 |.rangeFunc _ _ a b,i::p=>bif bx i 0 then LW a p else LW b p
 |c,_=>c
def AWQ(fn:Func):cw:=match fn.body with
 |some c=>c
 |none=>.skip
end Go.Pg
namespace Go.Pg
variable {P:ck}{E:XE}{st:XS}{fr:Fr}{s:St}
@[simp] theorem A8R(r:Option XS):PZ P E [] r=r:=rfl
@[simp] theorem A0T(i:J6)(l:List J6)(r:Option XS):PZ P E (i::l) r=PZ P E l (opO P E i r):=rfl
@[simp] theorem A8S(i:J6):opO P E i (some st)=opI P E i st:=rfl
@[simp] theorem A8T(l:List J6)(c:Prop)[Decidable c](x y:Option XS):PZ P E l (if c then x else y)=if c then PZ P E l x else PZ P E l y:=by split<;>rfl
def gI(P:ck)(E:XE)(d:Option Tmp)(k:IK)(st:XS)(w:Bool)(r:Option (Bool×V)):Option XS:=match r with
 |some (c,.bool b)=>Bool.rec (some (JH d st)) (DC P E d k st) (c&&(b==w))
 |_=>none
@[simp] theorem A8U(d:Option Tmp)(k:IK):opI P E ⟨none,d,k⟩ st=DC P E d k st:=rfl
@[simp] theorem A0U(t:Tmp)(w:Bool)(d:Option Tmp)(k:IK):opI P E ⟨some (t,w),d,k⟩ st=gI P E d k st w (A3 st.fr t):=by
 show(match(match A3 st.fr t with | some (c,.bool b)=>some (c&&(b == w)) | _=>none:Option Bool)with
  |some true=>DC P E d k st
  |some false=>some (JH d st)
  | none=>none)=_
 unfold gI;cases A3 st.fr t with
 |none=>rfl
 |some p=>
  obtain⟨c,v⟩:=p
  cases v with
  |bool b=>cases h:(c&&(b==w))<;>simp[h]
  |_=>rfl
@[simp] theorem BLS(d:Option Tmp)(k:IK):gI P E d k st true (some (true,.bool true))=DC P E d k st:=rfl
@[simp] theorem BLT(d:Option Tmp)(k:IK):gI P E d k st true (some (true,.bool false))=some (JH d st):=rfl
@[simp] theorem BLU(d:Option Tmp)(k:IK):gI P E d k st false (some (true,.bool true))=some (JH d st):=rfl
@[simp] theorem BLV(d:Option Tmp)(k:IK):gI P E d k st false (some (true,.bool false))=DC P E d k st:=rfl
@[simp] theorem BLW(d:Option Tmp)(k:IK)(w b:Bool):gI P E d k st w (some (false,.bool b))=some (JH d st):=rfl
@[simp] theorem A8V(d:Tmp)(c:Nat)(fr:Fr)(s:St):JH (some d) ⟨c,fr,s⟩=⟨c,(d,false,.bool false)::fr,s⟩:=rfl
@[simp] theorem A8W(k:Nat):A3 [] k=none:=rfl
@[simp] theorem A0V(j:Nat)(x:Bool×V)(fr:Fr)(k:Nat):A3 ((j,x)::fr) k=if k=j then some x else A3 fr k:=by rw[GS,GS];rfl
@[simp] theorem AWR(j:Nat)(x:Nat×A0)(L:AA)(k:Nat):AA.get ((j,x)::L) k=if k=j then some x else L.get k:=rfl
def rdT:Option (Bool×V)->Option V
 |some (true,v)=>some v
 |_=>none
@[simp] theorem AJR(v:V):rdT (some (true,v))=some v:=rfl
@[simp] theorem A0W(v:V):rdT (some (false,v))=none:=rfl
@[simp] theorem BC2(t:Tmp):CP fr (.tmp t)=rdT (A3 fr t):=by
 show(match A3 fr t with
  |some (true,v)=>some v
  | _=>none)=_
 cases A3 fr t with
 |none=>rfl
 |some p=>obtain⟨c,v⟩:=p;cases c<;>rfl
@[simp] theorem A0X(v:Value):CP fr (.const v)=CR v:=rfl
@[simp] theorem A8Y(f:cx):CP fr (.func f)=some (.fn f [] []):=rfl
@[simp] theorem BC3(t:Tmp):rdC fr (.tmp t)=A3 fr t:=rfl
@[simp] theorem A8Z(b:Bool):rdC fr (.const (.bool b))=some (true,.bool b):=rfl
@[simp] theorem AWS(k:cz)(n:Int):CR (.int k n)=some (.int k n):=rfl
@[simp] theorem AR1(b:Bool):CR (.bool b)=some (.bool b):=rfl
@[simp] theorem AWT:CR (.slice none 0 0)=some .nil:=rfl
@[simp] theorem A0Y(d:Tmp)(c:Nat)(fr:Fr)(s:St)(v:V):EN (some d) ⟨c,fr,s⟩ (some v)=some ⟨c,(d,true,v)::fr,s⟩:=rfl
@[simp] theorem A0Z(d:Option Tmp):EN d st none=none:=rfl
@[simp] theorem A80(d:Option Tmp)(c:Prop)[Decidable c](x y:Option V):EN d st (if c then x else y)=if c then EN d st x else EN d st y:=by split<;>rfl
section
variable (d:Option Tmp)(c:Nat)
@[simp] theorem A81(x:cj):DC P E d (.mv x) ⟨c,fr,s⟩=EN d ⟨c,fr,s⟩ (CP fr x):=rfl
def AWU(P:ck)(op:BinOp)(T:bp):Option V->Option V->Option V
 |some a,some b=>IC P op T a b
 |_,_=>none
@[simp] theorem A00(op:BinOp)(T:bp)(a b:V):AWU P op T (some a) (some b)=IC P op T a b:=rfl
@[simp] theorem A01(op:BinOp)(T:bp)(x y:cj):DC P E d (.bin op T x y) ⟨c,fr,s⟩=EN d ⟨c,fr,s⟩ (AWU P op T (CP fr x) (CP fr y)):=by show EN d _ (ACN P fr op T x y)=_;unfold ACN AWU;cases CP fr x<;>cases CP fr y<;>rfl
def fa1(P:ck)(T:bp)(f:Nat):Option V->Option V
 |some p=>DE P T p f
 |none=>none
@[simp] theorem A82(T:bp)(f:Nat)(p:V):fa1 P T f (some p)=DE P T p f:=rfl
@[simp] theorem A83(T:bp)(x:cj)(f:Nat):DC P E d (.fa T x f) ⟨c,fr,s⟩=EN d ⟨c,fr,s⟩ (fa1 P T f (CP fr x)):=by show EN d _ (xFA P fr T x f)=_;unfold xFA fa1;cases CP fr x<;>rfl
def wh1(P:ck)(T:bp):Option (List V)->Option V
 |some cs=>BM P T cs
 |none=>none
@[simp] theorem A84(T:bp)(cs:List V):wh1 P T (some cs)=BM P T cs:=rfl
def ld1(P:ck)(s:St)(T:bp):Option V->Option V
 |some p=>wh1 P T (BA s p)
 |none=>none
@[simp] theorem AJS(T:bp)(p:V):ld1 P s T (some p)=wh1 P T (BA s p):=rfl
@[simp] theorem A85(T:bp)(x:cj):DC P E d (.ld T x) ⟨c,fr,s⟩=EN d ⟨c,fr,s⟩ (ld1 P s T (CP fr x)):=by
 show EN d _ (OD P fr s T x)=_;unfold OD ld1;cases CP fr x with
 |none=>rfl
 |some p=>unfold wh1;cases BA s p<;>rfl
def pk3:Option V->Option (Bool×V)->Option (Bool×V)->Option V
 |some (.bool c),some (ca,.bool a),some (cb,.bool b)=>Bool.rec (Bool.rec none (some (.bool b)) cb) (Bool.rec none (some (.bool a)) ca) c
 |_,_,_=>none
@[simp] theorem A86(a cb b:Bool):pk3 (some (.bool true)) (some (true,.bool a)) (some (cb,.bool b))=some (.bool a):=rfl
@[simp] theorem A02(ca a b:Bool):pk3 (some (.bool false)) (some (ca,.bool a)) (some (true,.bool b))=some (.bool b):=rfl
@[simp] theorem A87(c a b:Bool):pk3 (some (.bool c)) (some (true,.bool a)) (some (true,.bool b))=some (.bool (if c then a else b)):=by cases c<;>rfl
@[simp] theorem AWV(x y z:cj):DC P E d (.pick x y z) ⟨c,fr,s⟩=EN d ⟨c,fr,s⟩ (pk3 (CP fr x) (rdC fr y) (rdC fr z)):=rfl
def ba2:Option V->Nat->Option (List (Nat×V))->Option (List (Nat×V))
 |some v,i,some l=>some ((i,v)::l)
 |_,_,_=>none
@[simp] theorem A88(v:V)(i:Nat)(l:List (Nat×V)):ba2 (some v) i (some l)=some ((i,v)::l):=rfl
@[simp] theorem AWW(r:cj->Option V):DI r []=some []:=rfl
@[simp] theorem AR2(r:cj->Option V)(i:Nat)(x:cj)(l:List (Nat×cj)):DI r ((i,x)::l)=ba2 (r x) i (DI r l):=by simp only[DI];unfold ba2;cases r x<;>cases DI r l<;>rfl
def bd1(P:ck)(T:bp):Option (List (Nat×V))->Option V
 |some l=>CS P T l
 |none=>none
@[simp] theorem A89(T:bp)(l:List (Nat×V)):bd1 P T (some l)=CS P T l:=rfl
@[simp] theorem AR3(T:bp)(ps:List (Nat×cj)):DC P E d (.build T ps) ⟨c,fr,s⟩=EN d ⟨c,fr,s⟩ (bd1 P T (DI (CP fr) ps)):=by show EN d _ (W2 P fr T ps)=_;unfold W2 bd1;cases DI (CP fr) ps<;>rfl
def bs1(P:ck)(T:bp)(n:Nat):Option (List (Nat×V))->Option V
 |some l=>CE P T n l
 |none=>none
@[simp] theorem A9A(T:bp)(n:Nat)(l:List (Nat×V)):bs1 P T n (some l)=CE P T n l:=rfl
@[simp] theorem AOV(T:bp)(n:Nat)(ps:List (Nat×cj)):DC P E d (.buildS T n ps) ⟨c,fr,s⟩=EN d ⟨c,fr,s⟩ (bs1 P T n (DI (CP fr) ps)):=by show EN d _ (QM P fr T n ps)=_;unfold QM bs1;cases DI (CP fr) ps<;>rfl
@[simp] theorem A03(op:Op):DC P E d (.oth op) ⟨c,fr,s⟩=EN d ⟨c,fr,s⟩ (J2 P (tA op) s (CP fr)):=rfl
def al1(d:Tmp)(c:Nat)(fr:Fr)(s:St):Option (List V)->Option XS
 |some cs=>some ⟨c+1,(d,true,.ptr s.up.length d c 0)::fr,s.put s.up.length d c (.box cs)⟩
 |none=>none
@[simp] theorem A9B(d:Tmp)(cs:List V):al1 d c fr s (some cs)=some ⟨c+1,(d,true,.ptr s.up.length d c 0)::fr,s.put s.up.length d c (.box cs)⟩:=rfl
@[simp] theorem AR4(d:Tmp)(T:bp):DC P E (some d) (.alloc T) ⟨c,fr,s⟩=al1 d c fr s (CA P T):=by show PR P (some d) T _=_;unfold PR al1;cases CA P T<;>rfl
def bx1(d:Tmp)(c:Nat)(fr:Fr)(s:St):Option V->Option XS
 |some v=>Bool.rec none (some ⟨c+1,(d,true,.ptr s.up.length d c 0)::fr,s.put s.up.length d c (.box (BD v))⟩) (BE v)
 |none=>none
@[simp] theorem BC7(d:Tmp)(k:cz)(n:Int):bx1 d c fr s (some (.int k n))=some ⟨c+1,(d,true,.ptr s.up.length d c 0)::fr,s.put s.up.length d c (.box [.int k n])⟩:=rfl
@[simp] theorem BC8(d:Tmp)(cs:List V):bx1 d c fr s (some (.agg cs))=some ⟨c+1,(d,true,.ptr s.up.length d c 0)::fr,s.put s.up.length d c (.box cs)⟩:=rfl
@[simp] theorem A9C(d:Tmp)(b:Bool)(es:List (List V)):bx1 d c fr s (some (.list b es))=some ⟨c+1,(d,true,.ptr s.up.length d c 0)::fr,s.put s.up.length d c (.box [.list b es])⟩:=rfl
@[simp] theorem BC9(d:Tmp):bx1 d c fr s (some .nil)=some ⟨c+1,(d,true,.ptr s.up.length d c 0)::fr,s.put s.up.length d c (.box [.nil])⟩:=rfl
@[simp] theorem BDA(d:Tmp)(l k g n:Nat):bx1 d c fr s (some (.vec l k g n))=some ⟨c+1,(d,true,.ptr s.up.length d c 0)::fr,s.put s.up.length d c (.box [.vec l k g n])⟩:=rfl
@[simp] theorem A04(d:Tmp)(x:cj):DC P E (some d) (.box x) ⟨c,fr,s⟩=bx1 d c fr s (CP fr x):=by show pW (some d) x _=_;unfold pW bx1;cases CP fr x<;>rfl
def st3(γ:Nat)(P:ck)(T:bp)(c:Nat)(fr:Fr)(s:St)(l q off:Nat)(v:V):Option (Nat×A0)->Option XS
 |some (γ',.box cs)=>if γ'=γ/\BE v=true/\0<P.cellsOf T/\(BD v).length=P.cellsOf T/\off+P.cellsOf T<=cs.length/\γ<c then some ⟨c,fr,s.put l q γ (.box (A6 cs off (BD v)))⟩ else none
 |_=>none
def st4(γ:Nat)(P:ck)(T:bp)(c:Nat)(fr:Fr)(s:St)(l q i off:Nat)(v:V):Option (Nat×A0)->Option XS
 |some (γ',.vec U es)=>if γ'=γ/\BE v=true/\0<P.cellsOf T/\(BD v).length=P.cellsOf T/\i<es.length/\off+P.cellsOf T<=(es.getD i []).length/\γ<c then some ⟨c,fr,s.put l q γ (.vec U (es.set i (A6 (es.getD i []) off (BD v))))⟩ else none
 |_=>none
def HD(P:ck)(T:bp)(c:Nat)(fr:Fr)(s:St):Option V->Option V->Option XS
 |some (.ptr l q γ off),some v=>st3 γ P T c fr s l q off v (s.get l q)
 |some (.eptr l q γ i off),some v=>st4 γ P T c fr s l q i off v (s.get l q)
 |_,_=>none
@[simp] theorem AOW(T:bp)(l q γ off:Nat)(v:V):HD P T c fr s (some (.ptr l q γ off)) (some v)=st3 γ P T c fr s l q off v (s.get l q):=rfl
@[simp] theorem AJT(T:bp)(l q γ i off:Nat)(v:V):HD P T c fr s (some (.eptr l q γ i off)) (some v)=st4 γ P T c fr s l q i off v (s.get l q):=rfl
@[simp] theorem AOX(γ γ':Nat)(T:bp)(l q off:Nat)(v:V)(cs:List V):st3 γ P T c fr s l q off v (some (γ',.box cs))=if γ'=γ/\BE v=true/\0<P.cellsOf T/\(BD v).length=P.cellsOf T/\off+P.cellsOf T<=cs.length/\γ<c then some ⟨c,fr,s.put l q γ (.box (A6 cs off (BD v)))⟩ else none:=rfl
@[simp] theorem AOY(γ γ':Nat)(T:bp)(l q i off:Nat)(v:V)(U:bp)(es:List (List V)):st4 γ P T c fr s l q i off v (some (γ',.vec U es))=if γ'=γ/\BE v=true/\0<P.cellsOf T/\(BD v).length=P.cellsOf T/\i<es.length/\off+P.cellsOf T<=(es.getD i []).length/\γ<c then some ⟨c,fr,s.put l q γ (.vec U (es.set i (A6 (es.getD i []) off (BD v))))⟩ else none:=rfl
theorem AOZ(T:bp)(x y:cj):JQ P none T x y ⟨c,fr,s⟩=HD P T c fr s (CP fr x) (CP fr y):=by
 unfold JQ;simp only;cases CP fr x with
 |none=>rfl
 |some p=>
  cases CP fr y with
  |none=>cases p<;>rfl
  |some v=>
   cases p with
   |ptr l q γ off=>
    simp only[AOW]
    cases s.get l q with
    |none=>rfl
    |some z=>
     obtain⟨γ',r⟩:=z
     cases r with
     |box cs=>
      simp only[AOX,bj,bf,Nat.ble_eq,bg,and_assoc]
     |_=>rfl
   |eptr l q γ i off=>
    simp only[AJT]
    cases s.get l q with
    |none=>rfl
    |some z=>
     obtain⟨γ',r⟩:=z
     cases r with
     |vec U es=>
      simp only[AOY,bj,bf,Nat.ble_eq,bg,and_assoc]
     |_=>rfl
   |_=>rfl
@[simp] theorem A05(T:bp)(x y:cj):DC P E none (.sto T x y) ⟨c,fr,s⟩=HD P T c fr s (CP fr x) (CP fr y):=AOZ c T x y
def apW(P:ck)(e:bp)(d c:Nat)(fr:Fr)(s:St)(l q γ n:Nat)(ys:List (List V)):Option (Nat×A0)->Option XS
 |some (γ',.vec W es)=>if γ'=γ/\W=e/\n=es.length/\es.all (fun y=>y.length==P.cellsOf e)=true/\BZ P e es.length ys=true then
   some ⟨c+1,(d,true,.vec l q c (es.length+ys.length))::fr,s.put l q c (.vec e (es++ys))⟩ else none
 |_=>none
@[simp] theorem VS(e:bp)(d:Nat)(l q γ γ' n:Nat)(ys es:List (List V))(W:bp):apW P e d c fr s l q γ n ys (some (γ',.vec W es))=if γ'=γ/\W=e/\n=es.length/\es.all (fun y=>y.length==P.cellsOf e)=true/\BZ P e es.length ys=true then
   some ⟨c+1,(d,true,.vec l q c (es.length+ys.length))::fr,s.put l q c (.vec e (es++ys))⟩ else none:=rfl
def apV(P:ck)(e:bp)(d c:Nat)(fr:Fr)(s:St)(xv:V)(ys:List (List V)):Option XS:=match IQ xv ys with
 |some es=>if es.all (fun y=>y.length==P.cellsOf e)=true/\BZ P e es.length ys=true then some ⟨c+1,(d,true,.vec s.up.length d c (es.length+ys.length))::fr,s.put s.up.length d c (.vec e (es++ys))⟩ else none
 |none=>match xv with
  |.vec l q γ n=>apW P e d c fr s l q γ n ys (UU n ys (s.get l q))
  |_=>none
@[simp] theorem rV(n γ:Nat)(ys es:List (List V))(U:bp):UU n ys (some (γ,.vec U es))=some (γ,.vec U (bR n ys es)):=rfl
attribute [simp] WN
@[simp] theorem BDB(e:bp)(d:Nat)(ys:List (List V)):apV P e d c fr s .nil ys=if BZ P e 0 ys=true then some ⟨c+1,(d,true,.vec s.up.length d c ys.length)::fr,s.put s.up.length d c (.vec e ys)⟩ else none:=by simp[apV,IQ]
@[simp] theorem BDC(e:bp)(d:Nat)(ys:List (List V)):apV P e d c fr s (.list true []) ys=if BZ P e 0 ys=true then some ⟨c+1,(d,true,.vec s.up.length d c ys.length)::fr,s.put s.up.length d c (.vec e ys)⟩ else none:=by simp[apV,IQ]
@[simp] theorem AO0(e:bp)(d:Nat)(l q γ n:Nat)(ys:List (List V)):apV P e d c fr s (.vec l q γ n) ys=apW P e d c fr s l q γ n ys (UU n ys (s.get l q)):=by simp[apV,IQ]
def ap3(P:ck)(d c:Nat)(fr:Fr)(s:St):Option (Option Nat×bp)->Option V->Option V->Option XS
 |some (none,e),some xv,some yv=>ap4 e xv (elemsOf s yv)
 |_,_,_=>none
where ap4 (e:bp) (xv:V):Option (List (List V))->Option XS
 |some ys=>apV P e d c fr s xv ys
 |none=>none
@[simp] theorem AJV(d:Nat)(e:bp)(xv yv:V):ap3 P d c fr s (some (none,e)) (some xv) (some yv)=ap3.ap4 P d c fr s e xv (elemsOf s yv):=rfl
@[simp] theorem AJW(d:Nat)(e:bp)(xv:V)(ys:List (List V)):ap3.ap4 P d c fr s e xv (some ys)=apV P e d c fr s xv ys:=rfl
@[simp] theorem AO1(b:Bool)(es:List (List V)):elemsOf s (.list b es)=some es:=rfl
@[simp] theorem AR5:elemsOf s .nil=some []:=rfl
theorem ifB{α:Type}{b:Bool}{x y:α}:(Bool.rec y x b:α)=if b=true then x else y:=by cases b<;>rfl
theorem ADH{k:Nat}{e:bp}(d:Nat)(x y:Option V):ap3 P d c fr s (some (some k,e)) x y=none:=by cases x<;>cases y<;>rfl
@[simp] theorem A06(d:Tmp)(x y:cj)(T:bp):DC P E (some d) (.app [x,y] [T,T]) ⟨c,fr,s⟩=ap3 P d c fr s (BU P T) (CP fr x) (CP fr y):=by
 show xAppend P (some d) [x,y] [T,T] _=_;unfold xAppend xAppG;simp only[Nat.beq_refl];cases hT:BU P T with
 |none=>cases CP fr x<;>cases CP fr y<;>rfl
 |some p=>
  obtain⟨k,e⟩:=p
  cases k with
  |some k=>rw[ADH]
  |none=>
   cases CP fr x with
   |none=>rfl
   |some xv=>
    cases CP fr y with
    |none=>rfl
    |some yv=>
     simp only[AJV]
     cases elemsOf s yv with
     |none=>rfl
     |some ys=>
      simp only[AJW,apV]
      cases IQ xv ys with
      |some es=>
       simp only[ifB,bj,bk]
       by_cases hC:es.all (fun y=>y.length==P.cellsOf e)=true/\BZ P e es.length ys=true
       ·rw[if_pos hC,if_pos hC]
       ·rw[if_neg hC,if_neg hC]
      |none=>
       simp only
       unfold qD
       cases xv with
       |vec l q γ n=>
        simp only
        cases UU n ys (s.get l q)with
        |none=>rfl
        |some z=>
         obtain⟨γ',r⟩:=z
         cases r with
         |vec W es=>
          simp only[ifB,bj,bk,VS,bg,and_assoc]
          by_cases hC:γ'=γ/\W=e/\n=es.length/\es.all (fun y=>y.length==P.cellsOf e)=true/\BZ P e es.length ys=true
          ·rw[if_pos hC,if_pos hC]
          ·rw[if_neg hC,if_neg hC]
         |_=>rfl
       |_=>rfl
def mc2:Option V->Option (List V)->Option (List V)
 |some v,some l=>some (v::l)
 |_,_=>none
@[simp] theorem A9G(v:V)(l:List V):mc2 (some v) (some l)=some (v::l):=rfl
@[simp] theorem A9H(f:cj->Option V):GI f []=some []:=rfl
@[simp] theorem A07(f:cj->Option V)(x:cj)(l:List cj):GI f (x::l)=mc2 (f x) (GI f l):=by
 simp only[GI];cases f x with
 |none=>rfl
 |some v=>cases GI f l<;>rfl
def H9(E:XE)(d:Option Tmp)(st:XS)(f:cx)(args:List V):Option XS:=match E.cf f args st with
 |some (r,st')=>some ⟨st'.c,putD st'.fr d true r,st'.s⟩
 |none=>none
def ca1(E:XE)(d:Option Tmp)(st:XS):Option V->Option (List V)->Option XS
 |some (.fn f first cap),some vs=>H9 E d st f ((first++vs++cap).map weakV)
 |some (.yld l q γ),some vs=>ca3 (E.cy l q γ vs st)
 |_,_=>none
where ca3:Option (V×XS)->Option XS
 |some (r,st')=>some ⟨st'.c,putD st'.fr d true r,st'.s⟩
 |none=>none
@[simp] theorem AWY(st:XS)(f:cx)(first cap vs:List V):ca1 E d st (some (.fn f first cap)) (some vs)=H9 E d st f ((first++vs++cap).map weakV):=rfl
@[simp] theorem AO2(st:XS)(l q γ:Nat)(vs:List V):ca1 E d st (some (.yld l q γ)) (some vs)=ca1.ca3 d (E.cy l q γ vs st):=rfl
@[simp] theorem A9I(d:Tmp)(r:V):ca1.ca3 (some d) (some (r,⟨c,fr,s⟩))=some ⟨c,(d,true,r)::fr,s⟩:=rfl
theorem rW(st:XS)(f:cj)(args:List cj):VD E.cf E.cy d f args st=ca1 E d st (CP st.fr f) (GI (CP st.fr) args):=by
 unfold VD;cases CP st.fr f with
 |none=>rfl
 |some v=>
  cases v with
  |fn f first cap=>
   simp only
   cases GI (CP st.fr) args with
   |none=>rfl
   |some vs=>simp only[AWY,H9];cases E.cf f ((first++vs++cap).map weakV) st<;>rfl
  |yld l q γ=>
   simp only[uW]
   cases GI (CP st.fr) args with
   |none=>rfl
   |some vs=>simp only[AO2];cases E.cy l q γ vs st<;>rfl
  |_=>rfl
@[simp] theorem AWZ(f:cj)(args:List cj):DC P E d (.call false none f args) ⟨c,fr,s⟩=ca1 E d ⟨c,fr,s⟩ (CP fr f) (GI (CP fr) args):=rW d ⟨c,fr,s⟩ f args
def orK:Bool->Option V->Option V->Option V
 |true,some r,_=>some r
 |_,_,z=>z
@[simp] theorem A9J(r:V)(z:Option V):orK true (some r) z=some r:=rfl
@[simp] theorem A9K(b:Bool)(z:Option V):orK b z z=z:=by cases b<;>cases z<;>rfl
theorem rX{P:ck}{kn:CF0}{rec:GP}{f:cx}{args:List V}:FY P kn rec f args=orK (args.all (AG 9)) (AZ P kn rec f (args.map weakN)) (AZ P kn rec f args):=by unfold FY orK;cases AZ P kn rec f (args.map weakN)<;>cases args.all (AG 9)<;>rfl
attribute [simp] rX
@[simp] theorem A08(k:cz)(n:Int):weakN (.int k n)=.int k n:=rfl
@[simp] theorem AW1(b:Bool)(es:List (List V)):weakN (.list b es)=.list b es:=rfl
@[simp] theorem A09(cs:List V):weakN (.agg cs)=.agg (cs.map weakM):=rfl
@[simp] theorem A1A:weakN .nil=.list false []:=rfl
@[simp] theorem A9L(f:cx)(x y:List V):weakN (.fn f x y)=.fn f x y:=rfl
@[simp] theorem A1B(cs:List V):weakN (.ref cs)=.ref cs:=rfl
@[simp] theorem A1C(k:cz)(n:Int):weakM (.int k n)=.int k n:=rfl
@[simp] theorem AW2(b:Bool):weakM (.bool b)=.bool b:=rfl
@[simp] theorem AW3(b:Bool)(es:List (List V)):weakM (.list b es)=.list b es:=rfl
@[simp] theorem A9M(f:cx)(x y:List V):weakM (.fn f x y)=.fn f x y:=rfl
theorem eI{A:Ann}{kn:CF0}{n:Nat}{f:cx}{args:List V}(h:args.all (AG 9)=true)(hh:BJ P f=false)(st:XS):H9 (BS P A kn n) d st f args=EN d st (orK true (AZ P kn (AE P A kn n) f (args.map weakN)) (AZ P kn (AE P A kn n) f args)):=by
 have e:orK true (AZ P kn (AE P A kn n) f (args.map weakN)) (AZ P kn (AE P A kn n) f args)=FY P kn (AE P A kn n) f args:=by rw[rX,h]
 rw[e];show(match dH P kn (AE P A kn n) f args st with
  |some (r,st')=>some (⟨st'.c,putD st'.fr d true r,st'.s⟩:XS)
  | none=>none)=_
 unfold dH;rw[h,hh];cases FY P kn (AE P A kn n) f args<;>rfl
end
@[simp] theorem A9N(k:cz)(n:Int):weakV (.int k n)=.int k n:=rfl
@[simp] theorem A1D(b:Bool)(es:List (List V)):weakV (.list b es)=.list false es:=rfl
@[simp] theorem A9O(cs:List V):weakV (.agg cs)=.agg (cs.map weakC):=rfl
@[simp] theorem A1E(k:cz)(n:Int):weakC (.int k n)=.int k n:=rfl
@[simp] theorem AW4(b:Bool):weakC (.bool b)=.bool b:=rfl
@[simp] theorem AW5(b:Bool)(es:List (List V)):weakC (.list b es)=.list false es:=rfl
@[simp] theorem A9P:weakV .nil=.nil:=rfl
@[simp] theorem BDD(f:cx)(x y:List V):weakV (.fn f x y)=.fn f x y:=rfl
@[simp] theorem AW6(f:Nat)(k:cz)(n:Int):AG (f+1) (.int k n)=true:=rfl
@[simp] theorem AR7(f:Nat)(b:Bool):AG (f+1) (.bool b)=true:=rfl
@[simp] theorem AW7(f:Nat):AG (f+1) .nil=true:=rfl
@[simp] theorem AW8(f:Nat)(cs:List V):AG (f+1) (.agg cs)=cs.all (AG f):=rfl
@[simp] theorem AW9(f:Nat)(cs:List V):AG (f+1) (.tup cs)=cs.all (AG f):=rfl
@[simp] theorem AXA(f:Nat)(cs:List V):AG (f+1) (.ref cs)=cs.all (AG f):=rfl
@[simp] theorem AR8(f:Nat)(b:Bool)(es:List (List V)):AG (f+1) (.list b es)=es.all fun e=>e.all (AG f):=rfl
@[simp] theorem A1F(f:Nat)(g:cx)(x y:List V):AG (f+1) (.fn g x y)=(x.all (AG f)&&y.all (AG f)):=rfl
section
variable (r:cj->Option V)
def o1(f:V->Option V):Option V->Option V
 |some v=>f v
 |none=>none
@[simp] theorem BDE(f:V->Option V)(v:V):o1 f (some v)=f v:=rfl
def o2(f:V->V->Option V):Option V->Option V->Option V
 |some a,some b=>f a b
 |_,_=>none
@[simp] theorem BDF(f:V->V->Option V)(a b:V):o2 f (some a) (some b)=f a b:=rfl
theorem VT(f:V->Option V)(x:Option V):x.bind f=o1 f x:=by cases x<;>rfl
theorem mB(f:V->V->Option V)(x y:Option V):(x.bind fun a=>y.bind fun b=>f a b)=o2 f x y:=by cases x<;>cases y<;>rfl
@[simp] theorem BIG(op:UnOp)(T:bp)(x:cj):J2 P (tA (.unOp op T x)) s r=o1 (kJ op) (r x):=VT _ _
@[simp] theorem A9Q(T U:bp)(x:cj):J2 P (tA (.convert T U x)) s r=o1 (LO P T U) (r x):=VT _ _
@[simp] theorem A9R(T:bp)(x i:cj):J2 P (tA (.indexAddr T x i)) s r=o2 (BW P s T) (r x) (r i):=mB _ _ _
@[simp] theorem A1G(T:bp)(x:cj)(f:Nat):J2 P (tA (.field T x f)) s r=o1 (fun a=>I1 P T a f) (r x):=VT _ _
@[simp] theorem BDG(x:cj)(i:Nat):J2 P (tA (.extract x i)) s r=o1 (fun a=>F3 a i) (r x):=VT _ _
@[simp] theorem BDH(x:cj)(T:bp):J2 P (tA (.call ⟨.builtin .len,#[x],#[T]⟩)) s r=o1 (ID P T) (r x):=VT _ _
end
@[simp] theorem A9S(b:Bool):kJ .not (.bool b)=some (.bool !b):=rfl
@[simp] theorem AKT(vs:List V)(i:Nat):F3 (.tup vs) i=vs[i]?:=rfl
@[simp] theorem BIH(up:List AA)(loc:AA)(l k g:Nat)(r:A0):St.put ⟨up,loc⟩ l k g r=if l=up.length then⟨up,(k,g,r)::loc⟩ else⟨up.modify l fun L=>L.put k g r,loc⟩:=rfl
def upG(k:Nat):Option AA->Option (Nat×A0)
 |some L=>L.get k
 |none=>none
@[simp] theorem A9T(k:Nat)(L:AA):upG k (some L)=L.get k:=rfl
@[simp] theorem AJX(up:List AA)(loc:AA)(l k:Nat):St.get ⟨up,loc⟩ l k=if l=up.length then loc.get k else upG k up[l]?:=rfl
def kx(k:Nat)(r:Fr):Option (Bool×V)->Fr
 |some (c,v)=>(k,c,v)::r
 |none=>r
@[simp] theorem BDI(k:Nat)(r:Fr)(c:Bool)(v:V):kx k r (some (c,v))=(k,c,v)::r:=rfl
@[simp] theorem BDJ(k:Nat)(r:Fr):kx k r none=r:=rfl
@[simp] theorem A1H:RI [] fr=[]:=rfl
@[simp] theorem AXB(k:Nat)(ks:List Nat):RI (k::ks) fr=kx k (RI ks fr) (A3 fr k):=by show(match A3 fr k with|some (c,v)=>(k,c,v)::RI ks fr|none=>RI ks fr)=_;cases A3 fr k<;>rfl
def kl(k:Nat)(r:AA):Option (Nat×A0)->AA
 |some (g,x)=>(k,g,x)::r
 |none=>r
@[simp] theorem BDK(k:Nat)(r:AA)(g:Nat)(x:A0):kl k r (some (g,x))=(k,g,x)::r:=rfl
@[simp] theorem BDL(k:Nat)(r:AA):kl k r none=r:=rfl
@[simp] theorem A1I(L:AA):JC [] L=[]:=rfl
@[simp] theorem AXC(k:Nat)(ks:List Nat)(L:AA):JC (k::ks) L=kl k (JC ks L) (L.get k):=by unfold kl;simp only[JC];cases L.get k<;>rfl
@[simp] theorem A9U(ks ls:List Nat)(c:Nat)(fr:Fr)(up:List AA)(loc:AA):CI (some (ks,ls)) ⟨c,fr,⟨up,loc⟩⟩=⟨c,RI ks fr,⟨up,JC ls loc⟩⟩:=rfl
@[simp] theorem BII:OP (some st)=some (.normal,st):=rfl
@[simp] theorem A9V:OP none=none:=rfl
@[simp] theorem BDM(c:Prop)[Decidable c](x y:Option XS):OP (if c then x else y)=if c then OP x else OP y:=by split<;>rfl
@[simp] theorem A9W(l:List J6):JJ P E (.str l) st=PZ P E l (some st):=rfl
@[simp] theorem A9X(S:List rR):JJ P E (.drw S) st=XK P E S (some st):=rfl
@[simp] theorem A9Y(ks:List (Nat×Nat×Nat)):JJ P E (.cls ks) st=SJ P ks (some st):=rfl
@[simp] theorem A9Z(o:Option XS):SJ P [] o=o:=rfl
@[simp] theorem A1J(T a d:Nat)(r:List (Nat×Nat×Nat))(st:XS):SJ P ((T,a,d)::r) (some st)=SJ P r (if vQ (CP st.fr (.tmp a))=true then EN (some d) st (OD P st.fr st.s T (.tmp a)) else none):=by
 show SJ P r (Bool.rec _ _ (vQ (CP st.fr (.tmp a))))=_;cases vQ (CP st.fr (.tmp a))with
 |false=>rfl
 |true=>
  simp only[if_true]
  congr 1
@[simp] theorem A90(l k g o:Nat):vQ (some (.ptr l k g o))=true:=rfl
@[simp] theorem A91(rs:List ResultVar):gA P rs (some (.ret,st))=gA.finV st.s (GL P rs st.fr st.s):=rfl
def AXD:Option V->Option V
 |some r=>if AG 9 r=true then some r else none
 |none=>none
@[simp] theorem A1K(r:V):AXD (some r)=if AG 9 r=true then some r else none:=rfl
@[simp] theorem A1L(v:V):gA.finV s (some v)=AXD (A5 s 4 v):=by
 unfold gA.finV AXD;simp only;cases A5 s 4 v with
 |none=>rfl
 |some r=>simp only[ifB]
@[simp] theorem AXE(t:Tmp):DX P fr s (.tmp t)=rdT (A3 fr t):=by
 rw[GS];show(match fr.get t with
  |some (true,v)=>some v
  | _=>none)=_
 cases fr.get t with
 |none=>rfl
 |some p=>obtain⟨c,v⟩:=p;cases c<;>rfl
@[simp] theorem A92(x:ResultVar):GL P [x] fr s=DX P fr s x:=by unfold GL;simp only[bz,bh];cases DX P fr s x<;>rfl
def re2:Option V->Option V->Option V
 |some a,some b=>some (.tup [a,b])
 |_,_=>none
@[simp] theorem A93(a b:V):re2 (some a) (some b)=some (.tup [a,b]):=rfl
@[simp] theorem A94(x y:ResultVar):GL P [x,y] fr s=re2 (DX P fr s x) (DX P fr s y):=by unfold GL;simp only[bz,bh];cases DX P fr s x<;>cases DX P fr s y<;>rfl
def re3:Option V->Option V->Option V->Option V
 |some a,some b,some c=>some (.tup [a,b,c])
 |_,_,_=>none
@[simp] theorem A95(a b c:V):re3 (some a) (some b) (some c)=some (.tup [a,b,c]):=rfl
@[simp] theorem AXF(x y z:ResultVar):GL P [x,y,z] fr s=re3 (DX P fr s x) (DX P fr s y) (DX P fr s z):=by unfold GL;simp only[bz,bh];cases DX P fr s x<;>cases DX P fr s y<;>cases DX P fr s z<;>rfl
@[simp] theorem AXG(f:Nat)(k:cz)(n:Int):A5 s (f+1) (.int k n)=some (.int k n):=rfl
@[simp] theorem AR9(f:Nat)(b:Bool):A5 s (f+1) (.bool b)=some (.bool b):=rfl
@[simp] theorem AXH(f:Nat):A5 s (f+1) .nil=some .nil:=rfl
@[simp] theorem ASA(f:Nat)(b:Bool)(es:List (List V)):A5 s (f+1) (.list b es)=some (.list false es):=rfl
def mC(mk:List V->V):Option (List V)->Option V
 |some l=>some (mk l)
 |none=>none
@[simp] theorem A96(mk:List V->V)(l:List V):mC mk (some l)=some (mk l):=rfl
def Q6(f:V->Option V):List V->Option (List V)
 |[]=>some []
 |v::l=>mc2 (f v) (Q6 f l)
theorem VU(f:V->Option V):∀(l:List V),l.mapM f=Q6 f l
 |[]=>rfl
 |v::l=>by simp only[bz,Q6,VU f l];cases f v<;>cases Q6 f l<;>rfl
@[simp] theorem A97(f:V->Option V):Q6 f []=some []:=rfl
@[simp] theorem A1M(f:V->Option V)(v:V)(l:List V):Q6 f (v::l)=mc2 (f v) (Q6 f l):=rfl
@[simp] theorem AXI(f:Nat)(cs:List V):A5 s (f+1) (.agg cs)=mC .agg (Q6 (A5 s f) cs):=by simp only[A5,VU];cases Q6 (A5 s f) cs<;>rfl
@[simp] theorem AXJ(f:Nat)(cs:List V):A5 s (f+1) (.tup cs)=mC .tup (Q6 (A5 s f) cs):=by simp only[A5,VU];cases Q6 (A5 s f) cs<;>rfl
def cv1(g m:Nat):Option (Nat×A0)->Option V
 |some (g',.vec _ es)=>if g'=g/\m<=es.length then some (.list false (es.take m)) else none
 |_=>none
@[simp] theorem AJY(g m g':Nat)(T:bp)(es:List (List V)):cv1 g m (some (g',.vec T es))=if g'=g/\m<=es.length then some (.list false (es.take m)) else none:=rfl
@[simp] theorem eJ(f:Nat)(up:List AA)(loc:AA)(l k g m:Nat):A5 ⟨up,loc⟩ (f+1) (.vec l k g m)=if l=up.length then cv1 g m (loc.get k) else some (.vec l k g m):=by
 simp only[A5];split
 ·cases loc.get k with
  |none=>rfl
  |some z=>obtain⟨g',r⟩:=z;cases r<;>rfl
 ·rfl
@[simp] theorem ASB(t:Nat)(T:bp):DX P fr s (.cell t T)=ld1 P s T (rdT (A3 fr t)):=by
 rw[GS];show(match fr.get t with
  |some (true,p)=>(BA s p).bind (BM P T)
  | _=>none)=_
 cases fr.get t with
 |none=>rfl
 |some p=>
  obtain⟨c,v⟩:=p
  cases c with
  |false=>rfl
  |true=>
   simp only[AJR,AJS]
   cases BA s v<;>rfl
section
variable (d:Option Tmp)(c:Nat)
@[simp] theorem A98(r:Option XS):XK P E [] r=r:=rfl
@[simp] theorem A1N(p:rR)(S:List rR)(r:Option XS):XK P E (p::S) r=XK P E S (PZ P E p.sq (eH (XJ P E p.ph (AJF p.new r)))):=rfl
@[simp] theorem A99(r:Option (XS×AL×AL)):XJ P E [] r=r:=rfl
@[simp] theorem A1O(i:J6)(l:List J6)(r:Option (XS×AL×AL)):XJ P E (i::l) r=XJ P E l (AJE P E i r):=rfl
@[simp] theorem BDN(new:List Tmp)(up:List AA)(loc:AA):AJF new (some ⟨c,fr,⟨up,loc⟩⟩)=if (new.all fun d=>(loc.get d).isNone)=true then some (⟨c,fr,⟨up,loc⟩⟩,[],[]) else none:=by show(Bool.rec none _ _:Option _)=_;rw[ifB];rfl
@[simp] theorem A1P(rd wr:AL):eH (some (st,rd,wr))=if (wr.all fun p=>!(rd.contains p))=true then some st else none:=by show(Bool.rec none _ _:Option _)=_;rw[ifB]
@[simp] theorem A1Q:eH none=none:=rfl
@[simp] theorem BAA(c:Prop)[Decidable c](x y:Option (XS×AL×AL)):eH (if c then x else y)=if c then eH x else eH y:=by split<;>rfl
@[simp] theorem A1R(i:J6):AJE P E i none=none:=rfl
@[simp] theorem BAB(l:List J6)(c:Prop)[Decidable c](x y:Option (XS×AL×AL)):XJ P E l (if c then x else y)=if c then XJ P E l x else XJ P E l y:=by split<;>rfl
@[simp] theorem BAC(l:List rR)(c:Prop)[Decidable c](x y:Option XS):XK P E l (if c then x else y)=if c then XK P E l x else XK P E l y:=by split<;>rfl
def ph3(rds rd wr:AL):Option (XS×AL)->Option (XS×AL×AL)
 |some (st,w)=>some (st,rds++rd,w++wr)
 |none=>none
@[simp] theorem BAD(rds rd wr w:AL):ph3 rds rd wr (some (st,w))=some (st,rds++rd,w++wr):=rfl
@[simp] theorem BAE(rds rd wr:AL):ph3 rds rd wr none=none:=rfl
@[simp] theorem BDO(rds rd wr:AL)(c:Prop)[Decidable c](x y:Option (XS×AL)):ph3 rds rd wr (if c then x else y)=if c then ph3 rds rd wr x else ph3 rds rd wr y:=by split<;>rfl
@[simp] theorem A1T(i:J6)(rd wr:AL):AJE P E i (some (st,rd,wr))=ph3 (H8 P i.k (CP st.fr)) rd wr (XI P E i st):=by show(match XI P E i st with|some (st',w)=>some (st',H8 P i.k (CP st.fr)++rd,w++wr)|none=>none)=_;cases XI P E i st<;>rfl
@[simp] theorem A1U(k:IK):XI P E ⟨none,d,k⟩ st=DP P E d k st:=rfl
def gI0(P:ck)(E:XE)(d:Option Tmp)(k:IK)(st:XS)(w:Bool)(r:Option (Bool×V)):Option (XS×AL):=match r with
 |some (c,.bool b)=>if (c&&(b==w))=true then DP P E d k st else if lX k=true then none else some (JH d st,[])
 |_=>none
@[simp] theorem AXK(t:Tmp)(w:Bool)(k:IK):XI P E ⟨some (t,w),d,k⟩ st=gI0 P E d k st w (A3 st.fr t):=by
 show(match(match A3 st.fr t with | some (c,.bool b)=>some (c&&(b == w)) | _=>none:Option Bool)with
  |some true=>DP P E d k st
  |some false=>Bool.rec (some (JH d st,[])) none (lX k)
  | none=>none)=_
 unfold gI0;cases A3 st.fr t with
 |none=>rfl
 |some p=>
  obtain⟨c,v⟩:=p
  cases v with
  |bool b=>cases h:(c&&(b==w))<;>simp[h,ifB]
  |_=>rfl
@[simp] theorem BAF(k:IK)(w c b:Bool):gI0 P E d k st w (some (c,.bool b))=if (c&&(b==w))=true then DP P E d k st else if lX k=true then none else some (JH d st,[]):=rfl
@[simp] theorem BIK(T:bp)(x:cj)(f:cj->Option V):H8 P (.ld T x) f=BR (bx (P.cellsOf T) 1) (f x):=rfl
@[simp] theorem AXL(x y:cj)(f:cj->Option V):KO f [x,y]=JR (f y):=rfl
@[simp] theorem AO3(b:Bool)(es:List (List V)):JR (some (.list b es))=[]:=rfl
@[simp] theorem BIL(x:cj)(f:cj->Option V):H8 P (.mv x) f=[]:=rfl
@[simp] theorem BDP(op:BinOp)(T:bp)(x y:cj)(f:cj->Option V):H8 P (.bin op T x y) f=[]:=rfl
@[simp] theorem BIM(T:bp)(x:cj)(i:Nat)(f:cj->Option V):H8 P (.fa T x i) f=[]:=rfl
@[simp] theorem BAG(x y z:cj)(f:cj->Option V):H8 P (.pick x y z) f=[]:=rfl
@[simp] theorem A1V(T:bp)(ps:List (Nat×cj))(f:cj->Option V):H8 P (.build T ps) f=[]:=rfl
@[simp] theorem AXM(T:bp)(n:Nat)(ps:List (Nat×cj))(f:cj->Option V):H8 P (.buildS T n ps) f=[]:=rfl
@[simp] theorem A1W(T:bp)(f:cj->Option V):H8 P (.alloc T) f=[]:=rfl
@[simp] theorem BDQ(x:cj)(f:cj->Option V):H8 P (.box x) f=[]:=rfl
@[simp] theorem BDR(T:bp)(x y:cj)(f:cj->Option V):H8 P (.sto T x y) f=[]:=rfl
@[simp] theorem BDS(x:List cj)(y:List bp)(f:cj->Option V):H8 P (.app x y) f=KO f x:=rfl
@[simp] theorem BAH(b:Bool)(t:Option Tmp)(g:cj)(x:List cj)(f:cj->Option V):H8 P (.call b t g x) f=[]:=rfl
@[simp] theorem BAI(T:bp)(x i:cj)(f:cj->Option V):H8 P (.oth (.indexAddr T x i)) f=NT (f x):=rfl
@[simp] theorem BIN(op:UnOp)(T:bp)(x:cj)(f:cj->Option V):H8 P (.oth (.unOp op T x)) f=[]:=rfl
@[simp] theorem BDT(x:cj)(i:Nat)(f:cj->Option V):H8 P (.oth (.extract x i)) f=[]:=rfl
@[simp] theorem BDU(x:cj)(T:bp)(b:Builtin)(f:cj->Option V):H8 P (.oth (.call ⟨.builtin b,#[x],#[T]⟩)) f=[]:=by cases b<;>rfl
@[simp] theorem BIO(g:Fn)(x y:Array cj)(f:cj->Option V):H8 P (.oth (.makeFunc g x y)) f=[]:=rfl
def nw:Option XS->Option (XS×AL)
 |some st=>some (st,[])
 |none=>none
@[simp] theorem BDV:nw (some st)=some (st,[]):=rfl
@[simp] theorem BDW:nw none=none:=rfl
@[simp] theorem BIP(c:Prop)[Decidable c](x y:Option XS):nw (if c then x else y)=if c then nw x else nw y:=by split<;>rfl
theorem GZ(r:Option XS):VE r=nw r:=by cases r<;>rfl
@[simp] theorem BAJ(x:cj):DP P E d (.mv x) st=nw (DC P E d (.mv x) st):=GZ _
@[simp] theorem A1X(op:BinOp)(T:bp)(x y:cj):DP P E d (.bin op T x y) st=nw (DC P E d (.bin op T x y) st):=GZ _
@[simp] theorem BAK(T:bp)(x:cj)(f:Nat):DP P E d (.fa T x f) st=nw (DC P E d (.fa T x f) st):=GZ _
@[simp] theorem A1Y(T:bp)(x:cj):DP P E d (.ldz T x) st=DP P E d (.ld T x) st:=rfl
@[simp] theorem BDX(T:bp)(x:cj)(f:cj->Option V):H8 P (.ldz T x) f=[]:=rfl
@[simp] theorem BAL(T:bp)(x:cj):DP P E d (.ld T x) st=nw (DC P E d (.ld T x) st):=GZ _
@[simp] theorem AXN(x y z:cj):DP P E d (.pick x y z) st=nw (DC P E d (.pick x y z) st):=GZ _
@[simp] theorem ASC(T:bp)(ps:List (Nat×cj)):DP P E d (.build T ps) st=nw (DC P E d (.build T ps) st):=GZ _
@[simp] theorem AO4(T:bp)(n:Nat)(ps:List (Nat×cj)):DP P E d (.buildS T n ps) st=nw (DC P E d (.buildS T n ps) st):=GZ _
@[simp] theorem A1Z(op:Op):DP P E d (.oth op) st=nw (DC P E d (.oth op) st):=GZ _
@[simp] theorem ASD(T:bp):DP P E d (.alloc T) st=nw (DC P E d (.alloc T) st):=GZ _
@[simp] theorem A10(x:cj):DP P E d (.box x) st=nw (DC P E d (.box x) st):=GZ _
@[simp] theorem A11(x:Option cj):DP P E d (.mkM x) st=nw (DC P E d (.mkM x) st):=GZ _
@[simp] theorem A12(T:bp)(x y:cj):DP P E d (.mkS T x y) st=nw (DC P E d (.mkS T x y) st):=GZ _
def wp(p:AL):Option XS->Option (XS×AL)
 |some st=>some (st,p)
 |none=>none
@[simp] theorem BDY(p:AL):wp p (some st)=some (st,p):=rfl
@[simp] theorem A13(T:bp)(x y:cj):DP P E d (.sto T x y) st=wp (C4 (bx (P.cellsOf T) 1) (CP st.fr x)) (DC P E d (.sto T x y) st):=by show(match JQ P d T x y st with|some st'=>some (st',C4 (bx (P.cellsOf T) 1) (CP st.fr x))|none=>none)=wp _ (JQ P d T x y st);cases JQ P d T x y st<;>rfl
@[simp] theorem AXO(l k g o:Nat):BR true (some (.ptr l k g o))=[(l,k+2000000),(l,k+4000000),(l,6000000+1000*k+o)]:=rfl
@[simp] theorem ASE(l k g i o:Nat):BR true (some (.eptr l k g i o))=[(l,k+2000000),(l,k+4000000),(l,6000000+1000*k+o)]:=rfl
@[simp] theorem AXP(b:Bool)(cs:List V):BR b (some (.ref cs))=[]:=by cases b<;>rfl
@[simp] theorem ASF(l k g i o:Nat):C4 true (some (.eptr l k g i o))=[(l,k),(l,6000000+1000*k+o)]:=rfl
@[simp] theorem AXQ(l k g n:Nat):NT (some (.vec l k g n))=[(l,k+JE)]:=rfl
@[simp] theorem ASG(b:Bool)(es:List (List V)):NT (some (.list b es))=[]:=rfl
@[simp] theorem AXR(cs:List V):NT (some (.ref cs))=[]:=rfl
def c01(E:XE)(d:Option Tmp)(st:XS):Option V->Option (List V)->Option XS
 |some (.fn f first cap),some vs=>EN d st (E.c0 f ((first++vs++cap).map weakV))
 |_,_=>none
@[simp] theorem AXS(f:cx)(first cap vs:List V):c01 E d st (some (.fn f first cap)) (some vs)=EN d st (E.c0 f ((first++vs++cap).map weakV)):=rfl
@[simp] theorem AXT(t:Option Tmp)(f:cj)(args:List cj):DP P E d (.call false t f args) ⟨c,fr,s⟩=nw (c01 E d ⟨c,fr,s⟩ (CP fr f) (GI (CP fr) args)):=by
 show VE (dE E.c0 d f args ⟨c,fr,s⟩)=_;rw[GZ];congr 1;unfold dE;cases hf:CP fr f with
 |none=>simp only[c01]
 |some v=>
  cases v with
  |fn g first cap=>
   simp only
   cases hm:GI (CP fr) args with
   |none=>simp only[c01]
   |some vs=>
    simp only[AXS]
    cases E.c0 g ((first++vs++cap).map weakV)<;>rfl
  |_=>simp only[c01]
@[simp] theorem BIQ{A:Ann}{kn:CF0}{n:Nat}:(BS P A kn n).c0=FY P kn (AE P A kn n):=rfl
end
theorem wC{A:Ann}{kn:CF0}{n N:Nat}(a b:cw):qN (AE P A kn n N) a b st (some (.bool true))=AE P A kn n N a st:=rfl
theorem rY{A:Ann}{kn:CF0}{n N:Nat}(a b:cw):qN (AE P A kn n N) a b st (some (.bool false))=AE P A kn n N b st:=rfl
attribute [simp] AJL ADC wA ADD ADE ADF AJM rT AJN ADG AJO fZ wB rU wC rY AJQ
end Go.Pg
namespace Go.Pg
variable {P:ck}{E:XE}{st:XS}{fr:Fr}{s:St}
@[simp] theorem AXU(k:cz)(n:Int):BD (.int k n)=[.int k n]:=rfl
@[simp] theorem ASH(b:Bool):BD (.bool b)=[.bool b]:=rfl
@[simp] theorem AXV(cs:List V):BD (.agg cs)=cs:=rfl
@[simp] theorem ASI(b:Bool)(es:List (List V)):BD (.list b es)=[.list b es]:=rfl
@[simp] theorem AXW:BD .nil=[.nil]:=rfl
@[simp] theorem AXX(l k g n:Nat):BD (.vec l k g n)=[.vec l k g n]:=rfl
@[simp] theorem A14(l k g:Nat):BD (.mp l k g)=[.mp l k g]:=rfl
@[simp] theorem A15(f:cx)(x y:List V):BD (.fn f x y)=[.fn f x y]:=rfl
@[simp] theorem AXY(l k g n:Nat):BD (.ptr l k g n)=[.ptr l k g n]:=rfl
@[simp] theorem AXZ(k:cz)(n:Int):BE (.int k n)=true:=rfl
@[simp] theorem ASJ(b:Bool):BE (.bool b)=true:=rfl
@[simp] theorem AX0(cs:List V):BE (.agg cs)=true:=rfl
@[simp] theorem ASK(b:Bool)(es:List (List V)):BE (.list b es)=true:=rfl
@[simp] theorem AX1:BE .nil=true:=rfl
@[simp] theorem AX2(l k g n:Nat):BE (.vec l k g n)=true:=rfl
@[simp] theorem A16(l k g:Nat):BE (.mp l k g)=true:=rfl
@[simp] theorem A17(f:cx)(x y:List V):BE (.fn f x y)=true:=rfl
@[simp] theorem AX3(l k g n:Nat):BE (.ptr l k g n)=true:=rfl
@[simp] theorem A18(op:BinOp)(T:bp)(k j:cz)(a b:Int):IC P op T (.int k a) (.int j b)=if k=j then GC op k a b else fG op k a b:=rfl
@[simp] theorem VV(k:cz)(a b:Int):fG .shr k a b=if b<0 then none else some (.int k (a.fdiv (2 ^ (min b.toNat k.bits)))):=rfl
section
variable (k:cz)(a b:Int)
@[simp] theorem A19:GC .add k a b=some (.int k (k.wrap (a+b))):=rfl
@[simp] theorem A2A:GC .sub k a b=some (.int k (k.wrap (a-b))):=rfl
@[simp] theorem A2B:GC .mul k a b=some (.int k (k.wrap (a*b))):=rfl
@[simp] theorem A2C:GC .quo k a b=if b=0 then none else some (.int k (k.wrap (a.tdiv b))):=rfl
@[simp] theorem A2D:GC .rem k a b=if b=0 then none else some (.int k (a.tmod b)):=rfl
@[simp] theorem A2E:GC .eql k a b=some (.bool (decide (a=b))):=by show some (V.bool (a==b))=_;congr 2
@[simp] theorem A2F:GC .neq k a b=some (.bool (!decide (a=b))):=by show some (V.bool (a != b))=_;congr 2
@[simp] theorem A2G:GC .lss k a b=some (.bool (decide (a<b))):=rfl
@[simp] theorem A2H:GC .leq k a b=some (.bool (decide (a<=b))):=rfl
@[simp] theorem A2I:GC .gtr k a b=some (.bool (decide (b<a))):=rfl
@[simp] theorem A2J:GC .geq k a b=some (.bool (decide (b<=a))):=rfl
end
theorem AX{x:Int}(h1:-9223372036854775808<=x)(h2:x<9223372036854775808):IntKind.i64.wrap x=x:=by simp only[IntKind.wrap,IntKind.bits,IntKind.signed];simp;omega
def bl1(f:Bool->Bool):Option Bool->Option V
 |some b=>some (.bool (f b))
 |none=>none
@[simp] theorem BAN(f:Bool->Bool)(b:Bool):bl1 f (some b)=some (.bool (f b)):=rfl
@[simp] theorem AX4(T:bp)(cs ds:List V):IC P .eql T (.agg cs) (.agg ds)=bl1 (fun b=>b) (NA P T cs ds):=by show(NA P T cs ds).map V.bool=_;cases NA P T cs ds<;>rfl
@[simp] theorem AX5(T:bp)(cs ds:List V):IC P .neq T (.agg cs) (.agg ds)=bl1 (fun b=>!b) (NA P T cs ds):=by show(NA P T cs ds).map (fun b=>V.bool !b)=_;cases NA P T cs ds<;>rfl
def faP(P:ck)(x:V):Option (bp×Nat)->Option V
 |some (U,off)=>if P.cellsOf U=0 then none else match x with
  |.ref cs=>some (.ref (cs.drop off))
  |.ptr l k g o=>some (.ptr l k g (o+off))
  |.eptr l k g i o=>some (.eptr l k g i (o+off))
  |_=>none
 |none=>none
@[simp] theorem BDZ(T:bp)(x:V)(f:Nat):DE P T x f=faP P x (A1 P T f):=by unfold DE faP;cases A1 P T f<;>rfl
@[simp] theorem BD0(U:bp)(off:Nat)(cs:List V):faP P (.ref cs) (some (U,off))=if P.cellsOf U=0 then none else some (.ref (cs.drop off)):=rfl
@[simp] theorem BD1(U:bp)(off l k g o:Nat):faP P (.ptr l k g o) (some (U,off))=if P.cellsOf U=0 then none else some (.ptr l k g (o+off)):=rfl
@[simp] theorem BAP(U:bp)(off l k g i o:Nat):faP P (.eptr l k g i o) (some (U,off))=if P.cellsOf U=0 then none else some (.eptr l k g i (o+off)):=rfl
def fd1(P:ck)(x:V):Option (bp×Nat)->Option V
 |some (U,off)=>match x with
  |.agg cs=>PA P U cs off
  |_=>none
 |none=>none
@[simp] theorem AX6(T:bp)(x:V)(f:Nat):I1 P T x f=fd1 P x (A1 P T f):=by unfold I1 fd1;cases x<;>cases A1 P T f<;>rfl
@[simp] theorem BD2(U:bp)(off:Nat)(cs:List V):fd1 P (.agg cs) (some (U,off))=PA P U cs off:=rfl
def cb(g off:Nat):Option (Nat×A0)->Option (List V)
 |some (g',.box cs)=>if g'=g then some (cs.drop off) else none
 |_=>none
@[simp] theorem BD3(g g' off:Nat)(cs:List V):cb g off (some (g',.box cs))=if g'=g then some (cs.drop off) else none:=rfl
def ce(g i off:Nat):Option (Nat×A0)->Option (List V)
 |some (g',.vec _ es)=>if g'=g then(es[i]?).map (·.drop off) else none
 |_=>none
@[simp] theorem BD4(g g' i off:Nat)(T:bp)(es:List (List V)):ce g i off (some (g',.vec T es))=if g'=g then(es[i]?).map (·.drop off) else none:=rfl
@[simp] theorem ASL(cs:List V):BA s (.ref cs)=some cs:=rfl
@[simp] theorem ASM(l k g off:Nat):BA s (.ptr l k g off)=cb g off (s.get l k):=by
 unfold cb;simp only[BA];cases s.get l k with
 |none=>rfl
 |some z=>obtain⟨g',r⟩:=z;cases r<;>rfl
@[simp] theorem AO5(l k g i off:Nat):BA s (.eptr l k g i off)=ce g i off (s.get l k):=by
 unfold ce;simp only[BA];cases s.get l k with
 |none=>rfl
 |some z=>obtain⟨g',r⟩:=z;cases r<;>rfl
def iv(P:ck)(e:bp)(l k g n:Nat)(j:Int):Option (Nat×A0)->Option V
 |some (g',.vec _ es)=>if g'=g/\0<=j/\j<n/\n<=es.length/\(es.getD j.toNat []).length=P.cellsOf e/\0<P.cellsOf e then some (.eptr l k g j.toNat 0) else none
 |_=>none
@[simp] theorem BD5(e:bp)(l k g g' n:Nat)(j:Int)(T:bp)(es:List (List V)):iv P e l k g n j (some (g',.vec T es))=if g'=g/\0<=j/\j<n/\n<=es.length/\(es.getD j.toNat []).length=P.cellsOf e/\0<P.cellsOf e then some (.eptr l k g j.toNat 0) else none:=rfl
def ia(P:ck)(s:St)(x i:V):Option (Option Nat×bp)->Option V
 |some (none,e)=>match x,i with
  |.list _ es,.int _ j=>if 0<=j/\j<es.length/\(es.getD j.toNat []).length=P.cellsOf e/\0<P.cellsOf e then some (.ref (es.getD j.toNat [])) else none
  |.vec l k g n,.int _ j=>iv P e l k g n j (s.get l k)
  |_,_=>none
 |some (some n,e)=>match x,i with
  |.ref cs,.int _ j=>if 0<=j/\j<n/\0<P.cellsOf e then some (.ref (cs.drop (j.toNat*P.cellsOf e))) else none
  |.ptr l k g o,.int _ j=>if 0<=j/\j<n/\0<P.cellsOf e then some (.ptr l k g (o+j.toNat*P.cellsOf e)) else none
  |.eptr l k g i' o,.int _ j=>if 0<=j/\j<n/\0<P.cellsOf e then some (.eptr l k g i' (o+j.toNat*P.cellsOf e)) else none
  |_,_=>none
 |none=>none
@[simp] theorem BD6(T:bp)(x i:V):BW P s T x i=ia P s x i (BU P T):=by
 unfold BW ia;cases BU P T with
 |none=>rfl
 |some z=>
  obtain⟨n,e⟩:=z
  cases n with
  |some n=>cases x<;>cases i<;>rfl
  |none=>
   cases x with
   |vec l k g n=>
    cases i with
    |int q j=>
     simp only[iv]
     cases s.get l k with
     |none=>rfl
     |some z=>obtain⟨g',r⟩:=z;cases r<;>rfl
    |_=>rfl
   |_=>cases i<;>rfl
@[simp] theorem BD7(e:bp)(b:Bool)(es:List (List V))(k:cz)(j:Int):ia P s (.list b es) (.int k j) (some (none,e))=if 0<=j/\j<es.length/\(es.getD j.toNat []).length=P.cellsOf e/\0<P.cellsOf e then some (.ref (es.getD j.toNat [])) else none:=rfl
@[simp] theorem BIT(e:bp)(l q g n:Nat)(k:cz)(j:Int):ia P s (.vec l q g n) (.int k j) (some (none,e))=iv P e l q g n j (s.get l q):=rfl
@[simp] theorem BIU(n:Nat)(e:bp)(cs:List V)(k:cz)(j:Int):ia P s (.ref cs) (.int k j) (some (some n,e))=if 0<=j/\j<n/\0<P.cellsOf e then some (.ref (cs.drop (j.toNat*P.cellsOf e))) else none:=rfl
@[simp] theorem BIV(n:Nat)(e:bp)(l q g o:Nat)(k:cz)(j:Int):ia P s (.ptr l q g o) (.int k j) (some (some n,e))=if 0<=j/\j<n/\0<P.cellsOf e then some (.ptr l q g (o+j.toNat*P.cellsOf e)) else none:=rfl
theorem P1{T:bp}(h:DH P T=true):∃e,P.underlying T=some (.slice e):=by
 unfold DH at h;split at h
 ·rename_i e he;exact⟨e,he⟩
 ·cases h
@[simp] theorem wD{T:bp}(h:DH P T=true)(b:Bool)(es:List (List V)):ID P T (.list b es)=some (.int .i64 es.length):=by obtain⟨e,he⟩:=P1 h;simp[ID,he]
@[simp] theorem A2K{T:bp}(h:DH P T=true)(l k g n:Nat):ID P T (.vec l k g n)=some (.int .i64 n):=by obtain⟨e,he⟩:=P1 h;simp[ID,he]
@[simp] theorem ADI{T:bp}(h:DH P T=true):ID P T .nil=some (.int .i64 0):=by obtain⟨e,he⟩:=P1 h;simp[ID,he]
def fv(place:Nat->Option (Nat×Nat))(cs:List V)(v:V)(rest:List (Nat×V)):Option (Nat×Nat)->Option (List V)
 |none=>none
 |some (off,size)=>if (BD v).length=size/\off+(BD v).length<=cs.length then C8 place (A6 cs off (BD v)) rest else none
@[simp] theorem A2L(place:Nat->Option (Nat×Nat))(cs:List V):C8 place cs []=some cs:=rfl
@[simp] theorem AX7(place:Nat->Option (Nat×Nat))(cs:List V)(i:Nat)(v:V)(rest:List (Nat×V)):C8 place cs ((i,v)::rest)=fv place cs v rest (place i):=by simp only[C8];unfold fv;cases place i<;>rfl
@[simp] theorem BD8(place:Nat->Option (Nat×Nat))(cs:List V)(v:V)(rest:List (Nat×V))(off size:Nat):fv place cs v rest (some (off,size))=if (BD v).length=size/\off+(BD v).length<=cs.length then C8 place (A6 cs off (BD v)) rest else none:=rfl
attribute [simp] A6
@[simp] theorem ASN(size:Nat)(cs:List V):CT size cs 0=[]:=rfl
@[simp] theorem ASO(size:Nat)(cs:List V)(n:Nat):CT size cs (n+1)=cs.take size::CT size (cs.drop size) n:=rfl
def ch1(size len:Nat):Option (List V)->Option V
 |some cs=>some (.list true (CT size cs len))
 |none=>none
@[simp] theorem BAQ(size len:Nat)(cs:List V):ch1 size len (some cs)=some (.list true (CT size cs len)):=rfl
def bsz(P:ck)(e:bp)(len:Nat)(parts:List (Nat×V)):Option (List V)->Option V
 |some z=>if (parts.all fun p=>BE p.2)=true/\z.length=P.cellsOf e/\0<P.cellsOf e/\len*P.cellsOf e<=2 ^ 24 then
   ch1 (P.cellsOf e) len (C8 (fun i=>some (i*P.cellsOf e,P.cellsOf e)) (bc len z).flatten parts) else none
 |none=>none
@[simp] theorem BAR(e:bp)(len:Nat)(parts:List (Nat×V))(z:List V):bsz P e len parts (some z)=if (parts.all fun p=>BE p.2)=true/\z.length=P.cellsOf e/\0<P.cellsOf e/\len*P.cellsOf e<=2 ^ 24 then
   ch1 (P.cellsOf e) len (C8 (fun i=>some (i*P.cellsOf e,P.cellsOf e)) (bc len z).flatten parts) else none:=rfl
def bsl(P:ck)(len:Nat)(parts:List (Nat×V)):Option (Option Nat×bp)->Option V
 |some (none,e)=>bsz P e len parts (CA P e)
 |_=>none
@[simp] theorem BAS(e:bp)(len:Nat)(parts:List (Nat×V)):bsl P len parts (some (none,e))=bsz P e len parts (CA P e):=rfl
@[simp] theorem BEA(T:bp)(len:Nat)(parts:List (Nat×V)):CE P T len parts=bsl P len parts (BU P T):=by
 unfold CE bsl;cases BU P T with
 |none=>rfl
 |some z=>
  obtain⟨n,e⟩:=z
  cases n with
  |some n=>rfl
  |none=>
   simp only[bsz]
   cases CA P e with
   |none=>rfl
   |some z=>
    simp only
    split
    ·cases C8 (fun i=>some (i*P.cellsOf e,P.cellsOf e)) (bc len z).flatten parts<;>rfl
    ·rfl
def fn2(f:cx):Option (List V)->Option (List V)->Option V
 |some a,some b=>some (.fn f a b)
 |_,_=>none
@[simp] theorem BAT(f:cx)(a b:List V):fn2 f (some a) (some b)=some (.fn f a b):=rfl
@[simp] theorem BIY(f:cx)(x y:Array cj)(r:cj->Option V):J2 P (tA (.makeFunc (.func f) x y)) s r=fn2 f (GI r x.toList) (GI r y.toList):=by show((x.toList.mapM r).bind fun a=>(y.toList.mapM r).bind fun b=>some (V.fn f a b))=_;rw[<-LB,<-LB];cases GI r x.toList<;>cases GI r y.toList<;>rfl
@[simp] theorem BEC(x y:cj)(Ts:Array bp)(r:cj->Option V):J2 P (tA (.call ⟨.builtin .max,#[x,y],Ts⟩)) s r=o2 UQ (r x) (r y):=mB _ _ _
@[simp] theorem BED(x y:cj)(Ts:Array bp)(r:cj->Option V):J2 P (tA (.call ⟨.builtin .min,#[x,y],Ts⟩)) s r=o2 UR (r x) (r y):=mB _ _ _
@[simp] theorem A2M(k j:cz)(m n:Int):UQ (.int k m) (.int j n)=if k=j then some (.int k (if n>m then n else m)) else none:=rfl
@[simp] theorem A2N(k j:cz)(m n:Int):UR (.int k m) (.int j n)=if k=j then some (.int k (if n<m then n else m)) else none:=rfl
theorem BT{e:bp}{n:Nat}{ys:List (List V)}(hc:0<P.cellsOf e)(hz:YU P e=true):BZ P e n ys=true↔(ys.all (fun y=>y.length==P.cellsOf e)=true/\n+ys.length<=maxLen/\(n+ys.length)*P.bytesOf e<=140737488355328):=by simp[BZ,hc,hz,and_assoc]
end Go.Pg
namespace Go.Pg
variable {P:ck}{E:XE}{st:XS}{fr:Fr}{s:St}
theorem AN{P:ck}{kn:CF0}{rec:GP}{f:cx}{args:List V}(h:kn f args=none):AZ P kn rec f args=E1 P rec f args:=by unfold AZ;rw[h]
def pv(k γ:Nat):List (List V)->V
 |[]=>.nil
 |e::es=>.vec 0 k γ (e::es).length
def pl(k γ:Nat)(T:bp):List (List V)->AA
 |[]=>[]
 |e::es=>[(k,γ,.vec T (e::es))]
def sl:List (List V)->V
 |[]=>.nil
 |e::es=>.list false (e::es)
@[simp] theorem BIZ(k γ:Nat):pv k γ []=.nil:=rfl
@[simp] theorem BI0(k γ:Nat)(T:bp):pl k γ T []=[]:=rfl
@[simp] theorem BEE(k γ:Nat)(T:bp)(es:List (List V))(y:List V)(ys:List (List V)):pl k γ T (es++y::ys)=[(k,γ,.vec T (es++y::ys))]:=by cases es<;>rfl
@[simp] theorem BEF(k γ:Nat)(T:bp)(y:List V)(ys:List (List V)):pl k γ T (y::ys)=[(k,γ,.vec T (y::ys))]:=rfl
@[simp] theorem BL1(k γ:Nat)(T:bp)(es:List (List V)):kl k [] ((pl k γ T es).get k)=pl k γ T es:=by
 cases es with
 |nil=>rfl
 |cons e es=>simp
@[simp] theorem BAU{k j:Nat}(γ:Nat)(T:bp)(es:List (List V))(h:j≠k):(pl k γ T es).get j=none:=by
 cases es with
 |nil=>rfl
 |cons e es=>simp[h]
@[simp] theorem AX8(e k c γ:Nat)(loc:AA)(es:List (List V))(y:List V)(ys:List (List V))(hl:AA.get loc k=(pl k γ e es).get k)(h1:es.all (fun y=>y.length==P.cellsOf e)=true)(h2:BZ P e es.length (y::ys)=true) :
  apV P e k c fr ⟨[],loc⟩ (pv k γ es) (y::ys)=some ⟨c+1,(k,true,pv k c (es++y::ys))::fr,⟨[],(k,c,.vec e (es++y::ys))::loc⟩⟩:=by
 cases es with
 |nil=>
  simp only[bq]at h2
  simp[h2,pv]
 |cons z es=>
  have hl:AA.get loc k=some (γ,.vec e (z::es)):=by rw[hl];simp
  simp only[pv,AO0,AJX,bq,if_true,hl,rV,WN,VS,true_and,h1,h2]
  simp[Nat.add_comm,Nat.add_left_comm]
theorem QR{T:bp}(f:Nat)(loc:AA)(k γ:Nat)(es:List (List V))(hl:AA.get loc k=(pl k γ T es).get k):A5 ⟨[],loc⟩ (f+1) (pv k γ es)=some (sl es):=by
 cases es with
 |nil=>rfl
 |cons z es=>
  have hl:AA.get loc k=some (γ,.vec T (z::es)):=by rw[hl];simp
  simp only[pv,eJ,bq,if_true,hl,AJY,sl]
  simp
@[simp] theorem A2O(f k γ:Nat)(T:bp)(es:List (List V)):A5 ⟨[],pl k γ T es⟩ (f+1) (pv k γ es)=some (sl es):=QR (T:=T) f _ k γ es rfl
@[simp] theorem BAV{T:bp}(h:DH P T=true)(es:List (List V)):ID P T (sl es)=some (.int .i64 es.length):=by
 cases es with
 |nil=>exact ADI h
 |cons e es=>exact wD h _ _
@[simp] theorem jL(f:Nat)(es:List (List V)):AG (f+1) (sl es)=es.all fun e=>e.all (AG f):=by cases es<;>rfl
@[simp] theorem BAW(es:List (List V)):weakN (sl es)=.list false es:=by cases es<;>rfl
@[simp] theorem BAX(es:List (List V)):weakM (sl es)=.list false es:=by cases es<;>rfl
@[simp] theorem BEG(es:List (List V)):weakV (sl es)=sl es:=by cases es<;>rfl
@[simp] theorem BAY(es:List (List V)):weakC (sl es)=sl es:=by cases es<;>rfl
@[simp] theorem A2P(es:List (List V)):BD (sl es)=[sl es]:=by cases es<;>rfl
@[simp] theorem A2Q(es:List (List V)):BE (sl es)=true:=by cases es<;>rfl
@[simp] theorem A2R(k γ:Nat)(es:List (List V)):BD (pv k γ es)=[pv k γ es]:=by cases es<;>rfl
@[simp] theorem A2S(k γ:Nat)(es:List (List V)):BE (pv k γ es)=true:=by cases es<;>rfl
@[simp] theorem A2T(f:Nat)(es:List (List V)):A5 s (f+1) (sl es)=some (sl es):=by cases es<;>rfl
def wE(P:ck)(e:bp)(d c:Nat)(fr:Fr)(s:St)(xv:V)(ys:List (List V)):Option (XS×AL):=match IQ xv ys with
 |some es=>if es.all (fun y=>y.length==P.cellsOf e)=true/\BZ P e es.length ys=true then some (⟨c+1,(d,true,.vec s.up.length d c (es.length+ys.length))::fr,s.put s.up.length d c (.vec e (es++ys))⟩,[(s.up.length,d),(s.up.length,d+JE)]) else none
 |none=>match xv with
  |.vec l q γ n=>wp [(l,q),(l,q+JE)] (apW P e d c fr s l q γ n ys (UU n ys (s.get l q)))
  |_=>none
def ad4(P:ck)(e:bp)(d c:Nat)(fr:Fr)(s:St)(xv:V):Option (List (List V))->Option (XS×AL)
 |some ys=>wE P e d c fr s xv ys
 |none=>none
@[simp] theorem AJZ(e:bp)(d c:Nat)(xv:V)(ys:List (List V)):ad4 P e d c fr s xv (some ys)=wE P e d c fr s xv ys:=rfl
def ad3(P:ck)(d c:Nat)(fr:Fr)(s:St):Option (Option Nat×bp)->Option V->Option V->Option (XS×AL)
 |some (none,e),some xv,some yv=>ad4 P e d c fr s xv (elemsOf s yv)
 |_,_,_=>none
@[simp] theorem AJ0(d c:Nat)(e:bp)(xv yv:V):ad3 P d c fr s (some (none,e)) (some xv) (some yv)=ad4 P e d c fr s xv (elemsOf s yv):=rfl
@[simp] theorem A2U(d:Tmp)(c:Nat)(x y:cj)(T:bp):DP P E (some d) (.app [x,y] [T,T]) ⟨c,fr,s⟩=ad3 P d c fr s (BU P T) (CP fr x) (CP fr y):=by
 show xAppD P (some d) [x,y] [T,T] _=_;unfold xAppD xAppG;simp only[Nat.beq_refl];cases hT:BU P T with
 |none=>cases CP fr x<;>cases CP fr y<;>rfl
 |some p=>
  obtain⟨k,e⟩:=p
  cases k with
  |some k=>cases CP fr x<;>cases CP fr y<;>rfl
  |none=>
   cases CP fr x with
   |none=>rfl
   |some xv=>
    cases CP fr y with
    |none=>rfl
    |some yv=>
     simp only[AJ0]
     cases elemsOf s yv with
     |none=>rfl
     |some ys=>
      simp only[AJZ,wE]
      cases IQ xv ys with
      |some es=>
       simp only[ifB,bj,bk]
       by_cases hC:es.all (fun y=>y.length==P.cellsOf e)=true/\BZ P e es.length ys=true
       ·rw[if_pos hC,if_pos hC]
       ·rw[if_neg hC,if_neg hC]
      |none=>
       simp only
       unfold qD
       cases xv with
       |vec l q γ n=>
        simp only
        cases UU n ys (s.get l q)with
        |none=>rfl
        |some z=>
         obtain⟨γ',r⟩:=z
         cases r with
         |vec W es=>
          simp only[ifB,bj,bk,VS,bg,and_assoc]
          by_cases hC:γ'=γ/\W=e/\n=es.length/\es.all (fun y=>y.length==P.cellsOf e)=true/\BZ P e es.length ys=true
          ·rw[if_pos hC,if_pos hC];rfl
          ·rw[if_neg hC,if_neg hC];rfl
         |_=>rfl
       |_=>rfl
@[simp] theorem BI2(e k c γ:Nat)(loc:AA)(es:List (List V))(y:List V)(ys:List (List V))(hl:AA.get loc k=(pl k γ e es).get k)(h1:es.all (fun y=>y.length==P.cellsOf e)=true)(h2:BZ P e es.length (y::ys)=true) :
  wE P e k c fr ⟨[],loc⟩ (pv k γ es) (y::ys)=some (⟨c+1,(k,true,pv k c (es++y::ys))::fr,⟨[],(k,c,.vec e (es++y::ys))::loc⟩⟩,[(0,k),(0,k+JE)]):=by
 cases es with
 |nil=>
  simp only[bq]at h2
  simp[wE,IQ,h2,pv]
 |cons z es=>
  have hl:AA.get loc k=some (γ,.vec e (z::es)):=by rw[hl];simp
  simp only[pv,wE,IQ,AJX,bq,if_true,hl,rV,WN,VS,true_and,h1,h2]
  simp[Nat.add_comm,Nat.add_left_comm]
end Go.Pg
namespace Go.Pg
variable {P:ck}{E:XE}{st:XS}{fr:Fr}{s:St}
theorem wF{α:Type}(x:α):CO [x]=some ([],x):=rfl
def un1{α:Type}(x:α):Option (List α×α)->Option (List α×α)
 |some (a,b)=>some (x::a,b)
 |none=>none
@[simp] theorem BAZ{α:Type}(x:α)(a:List α)(b:α):un1 x (some (a,b))=some (x::a,b):=rfl
theorem YM{α:Type}(x y:α)(l:List α):CO (x::y::l)=un1 x (CO (y::l)):=by simp only[CO];unfold un1;cases CO (y::l)<;>rfl
attribute [simp] wF YM
def eL(d:Option Tmp)(fr:Fr)(c:Nat)(r:V):Option (List AA×AA)->Option XS
 |some (u,l)=>some ⟨c,putD fr d true r,⟨u,l⟩⟩
 |none=>none
@[simp] theorem A2V(d:Tmp)(c:Nat)(r:V)(u:List AA)(l:AA):eL (some d) fr c r (some (u,l))=some ⟨c,(d,true,r)::fr,⟨u,l⟩⟩:=rfl
@[simp] theorem BEH(c:Nat)(r:V)(u:List AA)(l:AA):eL none fr c r (some (u,l))=some ⟨c,fr,⟨u,l⟩⟩:=rfl
def rZ(d:Option Tmp)(fr:Fr)(st:XS):Option V->Option XS
 |some r=>eL d fr st.c r (CO (st.s.up.map (AJ st.s)))
 |none=>none
@[simp] theorem A2W(d:Option Tmp)(c:Nat)(fr':Fr)(up:List AA)(loc:AA)(r:V):rZ d fr ⟨c,fr',⟨up,loc⟩⟩ (some r)=eL d fr c r (CO (up.map (AJ ⟨up,loc⟩))):=rfl
def clX(s:St):Option V->Option V
 |some r=>A5 s 4 r
 |none=>none
@[simp] theorem BA0(r:V):clX s (some r)=A5 s 4 r:=rfl
def mD(P:ck)(d:Option Tmp)(fr:Fr)(rs:List ResultVar)(r:Option (Exit×XS)):Option XS:=match r with
 |some (.ret,st)=>rZ d fr st (clX st.s (GL P rs st.fr st.s))
 |some (.normal,st)=>rZ d fr st (clX st.s (GL P rs st.fr st.s))
 |_=>none
@[simp] theorem AJ1(d:Option Tmp)(rs:List ResultVar):mD P d fr rs (some (.ret,st))=rZ d fr st (clX st.s (GL P rs st.fr st.s)):=rfl
@[simp] theorem sA(d:Option Tmp)(rs:List ResultVar):mD P d fr rs (some (.normal,st))=rZ d fr st (clX st.s (GL P rs st.fr st.s)):=rfl
theorem sB{A:Ann}{kn:CF0}{n:Nat}{f:cx}{fn:Func}{code:cw}{args:List V}(hf:P.funcs[f]? = some fn)(hb:fn.body=some code)(hs:bm args.length fn.ntmps=true)(hcl:(args.all (AG 9)&&!(BJ P f))=false)(d:Option Tmp)(c:Nat)(fr:Fr)(up:List AA)(loc:AA) :
  H9 (BS P A kn n) d ⟨c,fr,⟨up,loc⟩⟩ f args=mD P d fr fn.results.toList (AE P A kn n fn.ntmps code ⟨c,AF 0 args,⟨up++[loc],[]⟩⟩):=by
 show(match dH P kn (AE P A kn n) f args ⟨c,fr,⟨up,loc⟩⟩ with
  |some (r,st')=>some (⟨st'.c,putD st'.fr d true r,st'.s⟩:XS)
  | none=>none)=_
 unfold dH
 rw[hcl]
 unfold iS YK qO
 rw[hf]
 simp only[hb,hs]
 generalize AE P A kn n fn.ntmps code ⟨c,AF 0 args,⟨up++[loc],[]⟩⟩=q
 have aux:∀st:XS,(match(match(match ACQ P fn.results.toList st with
   |some (r,c,up)=>match CO up with
    |some (u,l)=>some (r,(⟨c,fr,⟨u,l⟩⟩:XS))
    |none=>none
   | none=>none:Option (V×XS))with
   |some r=>some r
   | none=>none:Option (V×XS))with
  |some (r,st')=>some (⟨st'.c,putD st'.fr d true r,st'.s⟩:XS)
  | none=>none)=rZ d fr st (clX st.s (GL P fn.results.toList st.fr st.s)):=fun st=>by
  unfold ACQ clX
  cases GL P fn.results.toList st.fr st.s with
  |none=>rfl
  |some r=>
   cases h:A5 st.s 4 r with
   |none=>simp[rZ,h]
   |some r'=>
    simp only[h,rZ]
    cases CO (st.s.up.map (AJ st.s))with
    |none=>rfl
    |some z=>rfl
 cases q with
 |none=>rfl
 |some q=>
  obtain⟨e,st⟩:=q
  have:=aux st
  cases e with
  |ret=>simp only[AJ1,<-this];cases ACQ P fn.results.toList st with
   |none=>rfl
   |some z=>
    obtain⟨r,c,up⟩:=z
    simp only
    cases CO up<;>rfl
  |normal=>simp only[sA,<-this];cases ACQ P fn.results.toList st with
   |none=>rfl
   |some z=>
    obtain⟨r,c,up⟩:=z
    simp only
    cases CO up<;>rfl
  |_=>rfl
theorem BC{A:Ann}{kn:CF0}{n:Nat}{f:cx}{fn:Func}{code:cw}{args:List V}(hf:P.funcs[f]? = some fn)(hb:fn.body=some code)(hs:bm args.length fn.ntmps=true)(hcl:args.all (AG 9)=false)(d:Option Tmp)(c:Nat)(fr:Fr)(up:List AA)(loc:AA) :
  H9 (BS P A kn n) d ⟨c,fr,⟨up,loc⟩⟩ f args=mD P d fr fn.results.toList (AE P A kn n fn.ntmps code ⟨c,AF 0 args,⟨up++[loc],[]⟩⟩) :=
 sB hf hb hs (by rw[hcl,Bool.false_and]) d c fr up loc
theorem AAE{A:Ann}{kn:CF0}{n:Nat}{f:cx}{fn:Func}{code:cw}{args:List V}(hf:P.funcs[f]? = some fn)(hb:fn.body=some code)(hs:bm args.length fn.ntmps=true)(hh:BJ P f=true)(d:Option Tmp)(c:Nat)(fr:Fr)(up:List AA)(loc:AA) :
  H9 (BS P A kn n) d ⟨c,fr,⟨up,loc⟩⟩ f args=mD P d fr fn.results.toList (AE P A kn n fn.ntmps code ⟨c,AF 0 args,⟨up++[loc],[]⟩⟩) :=
 sB hf hb hs (by rw[hh,Bool.not_true,Bool.and_false]) d c fr up loc
@[simp] theorem AYA(f l k g o:Nat):AG (f+1) (.ptr l k g o)=false:=rfl
@[simp] theorem AYB(f l k g o:Nat):AG (f+1) (.vec l k g o)=false:=rfl
@[simp] theorem BA1(l k g o:Nat):weakV (.ptr l k g o)=.ptr l k g o:=rfl
@[simp] theorem BA2(l k g o:Nat):weakV (.vec l k g o)=.vec l k g o:=rfl
@[simp] theorem BA3(cs:List V):weakV (.ref cs)=.ref cs:=rfl
@[simp] theorem BI4(d c:Nat)(f:cx)(x y:List V):bx1 d c fr s (some (.fn f x y))=some ⟨c+1,(d,true,.ptr s.up.length d c 0)::fr,s.put s.up.length d c (.box [.fn f x y])⟩:=rfl
@[simp] theorem BEI(d c:Nat)(l k g o:Nat):bx1 d c fr s (some (.ptr l k g o))=some ⟨c+1,(d,true,.ptr s.up.length d c 0)::fr,s.put s.up.length d c (.box [.ptr l k g o])⟩:=rfl
@[simp] theorem FZ:AJ s []=[]:=rfl
@[simp] theorem A8(k g:Nat)(r:A0)(L:AA):AJ s ((k,g,r)::L)=(k,g,CV s r)::AJ s L:=rfl
def sr1(r:A0):Option (List V)->A0
 |some ds=>.box ds
 |none=>r
@[simp] theorem BA4(r:A0)(ds:List V):sr1 r (some ds)=.box ds:=rfl
theorem E8(cs:List V):CV s (.box cs)=sr1 (.box cs) (HA (CB s) cs):=by unfold CV CD sr1;simp only;cases HA (CB s) cs<;>rfl
attribute [simp] E8
theorem wG(f:V->Option V):HA f []=some []:=rfl
theorem sC(f:V->Option V)(v:V)(l:List V):HA f (v::l)=mc2 (f v) (HA f l):=by
 simp only[HA];cases f v with
 |none=>rfl
 |some x=>cases HA f l<;>rfl
attribute [simp] wG sC
@[simp] theorem ASP(k:cz)(n:Int):CB s (.int k n)=some (.int k n):=rfl
@[simp] theorem AO6(b:Bool):CB s (.bool b)=some (.bool b):=rfl
@[simp] theorem AO7(b:Bool)(es:List (List V)):CB s (.list b es)=some (.list b es):=rfl
@[simp] theorem ASQ:CB s .nil=some .nil:=rfl
@[simp] theorem AYC(f:cx)(x y:List V):CB s (.fn f x y)=A5 s 4 (.fn f x y):=rfl
@[simp] theorem ASR(l k g o:Nat):CB s (.ptr l k g o)=A5 s 4 (.ptr l k g o):=rfl
@[simp] theorem sD(l k g o:Nat):CB s (.vec l k g o)=A5 s 4 (.vec l k g o):=rfl
@[simp] theorem A2X(f:Nat)(g:cx)(x y:List V):A5 s (f+1) (.fn g x y)=fn2 g (Q6 (A5 s f) x) (Q6 (A5 s f) y):=by simp only[A5,VU,fn2];cases Q6 (A5 s f) x<;>cases Q6 (A5 s f) y<;>rfl
def cp1(f:List V->Option (List V))(g off:Nat):Option (Nat×A0)->Option V
 |some (g',.box cs)=>if g'=g then(f cs).map fun ds=>.ref (ds.drop off) else none
 |_=>none
@[simp] theorem AYD(f:Nat)(up:List AA)(loc:AA)(l k g off:Nat):A5 ⟨up,loc⟩ (f+1) (.ptr l k g off)=if l=up.length then cp1 (Q6 (A5 ⟨up,loc⟩ f)) g off (loc.get k) else some (.ptr l k g off):=by
 simp only[A5,VU];split
 ·cases loc.get k with
  |none=>rfl
  |some z=>obtain⟨g',r⟩:=z;cases r<;>rfl
 ·rfl
end Go.Pg
theorem Go.Pg.qNz (m:Nat)(h:0<m):∃k,m=k+1:=⟨m-1,by omega⟩
