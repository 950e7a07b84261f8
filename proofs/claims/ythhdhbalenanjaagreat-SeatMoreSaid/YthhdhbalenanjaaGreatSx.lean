/- Operations of a region with all that hangs on the region alone worked out; running them one after another. No program in sight. -/
import Derived.Test.YthhdhbalenanjaaGreatQ2
noncomputable section
open Go renaming TypeId->bp,Operand->cj,Program->ck,Oper->cq,Code->cw,IntKind->cx,FuncId->cz
open Bool renaming and_eq_true->bj
open List renaming length_nil->bk,length_append->bq,getElem?_eq_getElem->bw,mapM_cons->bz,all_cons->bb,replicate->bc,mapM_nil->bh
open Nat renaming beq->bx,blt_eq->bf,beq_eq->bg,ble->bm,blt->bn
namespace Go.Pg
variable {P:ck}{E:XE}
inductive IK where
 |mv (x:cj)
 |bin (op:BinOp) (T:bp) (x y:cj)
 |fa (T:bp) (x:cj) (f:Nat)
 |ld (T:bp) (x:cj)
 |ldz (T:bp) (x:cj)
 |pick (c a b:cj)
 |build (T:bp) (ps:List (Nat×cj))
 |buildS (T:bp) (n:Nat) (ps:List (Nat×cj))
 |oth (op:Op)
 |alloc (T:bp)
 |box (x:cj)
 |mkM (r:Option cj)
 |mkS (T:bp) (x y:cj)
 |sto (T:bp) (x y:cj)
 |upd (T:bp) (x i y:cj)
 |call (own:Bool) (tk:Option Tmp) (f:cj) (args:List cj)
 |app (args:List cj) (Ts:List bp)
 |clr (args:List cj) (Ts:List bp)
 |cpy (args:List cj) (Ts:List bp)
def mW (op : Op) : cq := { dst := none, op := op, type := 0, pos := "", after := #[], guard := none }
def AJU(all:List cq):List cj->Option Tmp
 |[]=>none
 |x::r=>match x with
  |.tmp t=>cond (AN4 all t) (some t) (AJU all r)
  |_=>AJU all r
def OK(all:List cq)(o:cq):IK:=match o.op with
 |.move x=>.mv x
 |.assign x=>.mv x
 |.binOp op T x y _=>.bin op T x y
 |.fieldAddr T x f=>.fa T x f
 |.load T x=>.ld T x
 |.pick c a b=>.pick c a b
 |.build T ps=>.build T ps.toList
 |.buildSlice T n ps=>.buildS T n ps.toList
 |.alloc T=>.alloc T
 |.box _ x=>.box x
 |.makeMap _ r=>.mkM r
 |.makeSlice T x y=>.mkS T x y
 |.store T x y=>.sto T x y
 |.mapUpdate T x i y=>.upd T x i y
 |.call c=>match c.callee with
  |.value f=>.call (D0 all o) (AJU all c.args.toList) f c.args.toList
  |.builtin .append=>.app c.args.toList c.argTypes.toList
  |.builtin .clear=>.clr c.args.toList c.argTypes.toList
  |.builtin .copy=>.cpy c.args.toList c.argTypes.toList
  |_=>.oth o.op
 |op=>.oth op
structure JU where
 g:Option (Tmp×Bool)
 d:Option Tmp
 k:IK
def comp(all:List cq)(o:cq):JU:=⟨MB all o,o.dst,OK all o⟩
def AJV:IK->IK
 |.ld T x=>.ldz T x
 |k=>k
def jM(all:List cq)(o:cq):JU:=⟨MB all o,o.dst,cond (zB all o) (AJV (OK all o)) (OK all o)⟩
def EK(d:Option Tmp)(st:XS)(r:Option V):Option XS:=match r with
 |some v=>some ⟨st.c,putD st.fr d true v,st.s⟩
 |none=>none
def eO(tk:Option Tmp)(st:XS):XS:=match tk with
 |none=>st
 | some t=>match(match BJ st.fr t with
   |some (true,.vec l q γ n)=>match st.s.get l q with
    |some (γ',.vec _ es)=>Bool.rec none (some ⟨st.c,(t,true,.list false (es.take n))::st.fr,st.s.put l q γ .dead⟩) (bx γ' γ&&bm n es.length&&bn γ st.c)
    |_=>none
   | _=>none:Option XS)with
  |some st1=>st1
  |none=>st
def C4(P:ck)(E:XE)(d:Option Tmp)(k:IK)(st:XS):Option XS:=match k with
 |.mv x=>EK d st (CP st.fr x)
 |.bin op T x y=>EK d st (ACZ P st.fr op T x y)
 |.fa T x f=>EK d st (xFA P st.fr T x f)
 |.ld T x=>EK d st (OI P st.fr st.s T x)
 |.ldz T x=>EK d st (OI P st.fr st.s T x)
 |.pick c a b=>EK d st (yW st.fr c a b)
 |.build T ps=>EK d st (W8 P st.fr T ps)
 |.buildS T n ps=>EK d st (QU P st.fr T n ps)
 |.oth op=>EK d st (JX P (mW op) st.s (CP st.fr))
 |.alloc T=>PU P d T st
 |.box x=>pY d x st
 |.mkM r=>ACV d r st
 |.mkS T x y=>YP P d T x y st
 |.sto T x y=>J0 P d T x y st
 |.upd T x i y=>ACW P d T x i y st
 |.call own tk f args=>dH E own d f args (eO tk st)
 |.app args Ts=>xAppend P d args Ts st
 |.clr args Ts=>lF P d args Ts st
 |.cpy args Ts=>yY P d args Ts st
def opI(P:ck)(E:XE)(i:JU)(st:XS):Option XS:=match gdX st.fr i.g with
 |some true=>C4 P E i.d i.k st
 |some false=>some (IU i.d st)
 |none=>none
def opO(P:ck)(E:XE)(i:JU)(r:Option XS):Option XS:=match r with
 |some st=>opI P E i st
 |none=>none
def P5(P:ck)(E:XE):List JU->Option XS->Option XS
 |[],r=>r
 |i::l,r=>P5 P E l (opO P E i r)
theorem eP(all:List cq)(st:XS):∀(xs:List cj),(match NX all st xs with
  |some st1=>st1
  | none=>st)=eO (AJU all xs) st
 |[]=>rfl
 |x::r=>by
  unfold NX AJU;cases x with
  |tmp t=>
   simp only
   cases AN4 all t with
   |false=>exact eP all st r
   |true=>rfl
  |_=>exact eP all st r
theorem BAN{o:cq}{st:XS}:AH9 P (fun _=>false) o st=none:=by unfold AH9;split<;>rfl
theorem AJW(hl:E.lit=fun _=>false)(all:List cq)(o:cq)(st:XS):opX P E all o st=opI P E (comp all o) st:=by
 unfold opX opI;rw[hl];simp only[BAN];have:(match AIA all o st with
   |some st1=>RW P E (D0 all) o st1
   | none=>RW P E (D0 all) o st)=C4 P E o.dst (OK all o) st:=by
  have ht:∀(r:Option XS),(match r with
   |some st1=>RW P E (D0 all) o st1
   | none=>RW P E (D0 all) o st)=RW P E (D0 all) o (match r with
   |some st1=>st1
   | none=>st):=fun r=>by cases r <;> rfl
  rw[ht]
  obtain⟨d,op,T,pos,af,gd⟩:=o
  cases op with
  |call c=>
   obtain⟨cal,args,Ts⟩:=c
   cases cal with
   |value f=>
    show RW P E _ _ (match NX all st args.toList with|some st1=>st1|none=>st)=_
    rw[eP]
    rfl
   |builtin b=>cases b<;>rfl
   |_=>rfl
  |_=>rfl
 show _=(match gdX st.fr (MB all o)with
  |some true=>C4 P E o.dst (OK all o) st
  |some false=>some (IU o.dst st)
  | none=>none)
 cases gdX st.fr (MB all o)with
 |none=>rfl
 |some b=>
  cases b with
  |false=>rfl
  |true=>exact this
theorem I9:∀(l:List JU),P5 P E l none=none
 |[]=>rfl
 |_::l=>I9 l
theorem AAE(hl:E.lit=fun _=>false)(all:List cq):∀(l:List cq) (st:XS),lJ P E all l st=P5 P E (l.map (comp all)) (some st)
 |[],st=>rfl
 |o::l,st=>by
  simp only[lJ,List.map_cons,P5,opO];rw[AJW hl];cases opI P E (comp all o) st with
  |none=>exact(I9 _).symm
  |some st'=>exact AAE hl all l st'
def II(P:ck)(k:IK)(r:cj->Option V):AL:=match k with
 |.ld T x=>BV (bx (P.cellsOf T) 1) (r x)
 |.app xs _=>KY r xs
 |.oth op=>ER P (mW op) r
 |_=>[]
def DS(P:ck)(E:XE)(d:Option Tmp)(k:IK)(st:XS):Option (XS×AL):=match k with
 |.mv x=>VQ (EK d st (CP st.fr x))
 |.bin op T x y=>VQ (EK d st (ACZ P st.fr op T x y))
 |.fa T x f=>VQ (EK d st (xFA P st.fr T x f))
 |.ld T x=>VQ (EK d st (OI P st.fr st.s T x))
 |.ldz T x=>VQ (EK d st (OI P st.fr st.s T x))
 |.pick c a b=>VQ (EK d st (yW st.fr c a b))
 |.build T ps=>VQ (EK d st (W8 P st.fr T ps))
 |.buildS T n ps=>VQ (EK d st (QU P st.fr T n ps))
 |.oth op=>VQ (EK d st (JX P (mW op) st.s (CP st.fr)))
 |.alloc T=>VQ (PU P d T st)
 |.box x=>VQ (pY d x st)
 |.mkM r=>VQ (ACV d r st)
 |.mkS T x y=>VQ (YP P d T x y st)
 |.sto T x y=>AIC P d T x y st
 |.upd ..=>none
 |.call own _ f args=>Bool.rec (VQ (dI E.c0 d f args st)) (VQ (IB E.co d f args st)) own
 |.app args Ts=>xAppD P d args Ts st
 |.clr ..=>none
 |.cpy ..=>none
def DB:IK->Bool
 |.alloc _|.box _|.mkM _|.mkS ..|.sto ..|.app ..=>true
 |.call own ..=>own
 |_=>false
def XM(P:ck)(E:XE)(i:JU)(st:XS):Option (XS×AL):=match gdX st.fr i.g with
 |some true=>DS P E i.d i.k st
 |some false=>Bool.rec (some (IU i.d st,[])) none (DB i.k)
 |none=>none
def rT(P:ck)(E:XE)(i:JU)(r:Option (XS×AL×AL)):Option (XS×AL×AL):=match r with
 |some (st,rd,wr)=>match XM P E i st with
  |some (st',w)=>some (st',II P i.k (CP st.fr)++rd,w++wr)
  |none=>none
 |none=>none
def XN(P:ck)(E:XE):List JU->Option (XS×AL×AL)->Option (XS×AL×AL)
 |[],r=>r
 |i::l,r=>XN P E l (rT P E i r)
def eQ(r:Option (XS×AL×AL)):Option XS:=match r with
 |some (st,rd,wr)=>Bool.rec none (some st) (wr.all fun p=>!(rd.contains p))
 |none=>none
structure rU where
 new:List Tmp
 ph:List JU
 sq:List JU
def mD(new:List Tmp)(st:XS):Bool:=new.all fun d=>(st.s.loc.get d).isNone
def AJX(new:List Tmp)(r:Option XS):Option (XS×AL×AL):=match r with
 |some st=>Bool.rec none (some (st,[],[])) (mD new st)
 |none=>none
def XO(P:ck)(E:XE):List rU->Option XS->Option XS
 |[],r=>r
 |p::S,r=>XO P E S (P5 P E p.sq (eQ (XN P E p.ph (AJX p.new r))))
def jN(l:List cq)(R:List Nat):List JU:=R.filterMap fun i=>(l[i]?).map (comp l)
def jO(l:List cq)(R:List Nat):List JU:=R.filterMap fun i=>(l[i]?).map (jM l)
def AAF(l:List cq)(R:List Nat):List Tmp:=R.filterMap fun i=>match l[i]? with
 |some o=>cond (kA (D0 l) o) o.dst none
 |none=>none
def AAG(l:List cq)(p:List Nat×List Nat):rU:=⟨AAF l p.1,jO l p.1,jN l p.2⟩
def inB(l:List cq)(S:Y5):Bool:=S.all fun p=>p.1.all (fun i=>bn i l.length)&&p.2.all (fun i=>bn i l.length)
theorem ADN(all:List cq)(o:cq)(st:XS):lL P E (D0 all) o st=DS P E o.dst (OK all o) st:=by
 obtain⟨d,op,T,pos,af,gd⟩:=o;cases op with
 |call c=>
  obtain⟨cal,args,Ts⟩:=c
  cases cal with
  |builtin b=>cases b<;>rfl
  |_=>rfl
 |_=>rfl
theorem AXC(all:List cq)(o:cq)(r:cj->Option V):ER P o r=II P (OK all o) r:=by
 obtain⟨d,op,T,pos,af,gd⟩:=o;cases op with
 |call c=>
  obtain⟨cal,args,Ts⟩:=c
  cases cal with
  |builtin b=>cases b<;>rfl
  |_=>rfl
 |_=>rfl
theorem BAO(all:List cq)(o:cq):(kA (D0 all) o||kW o||kP o)=DB (OK all o):=by
 obtain⟨d,op,T,pos,af,gd⟩:=o;cases op with
 |call c=>
  obtain⟨cal,args,Ts⟩:=c
  cases cal with
  |builtin b=>cases b<;>rfl
  |value f=>simp[kA,kW,kP,DB,OK]
  |_=>rfl
 |_=>rfl
theorem AOY(all:List cq)(o:cq)(st:XS):vD P E all o st=XM P E (comp all o) st:=by unfold vD XM;rw[ADN,BAO];rfl
theorem wD(d:Option Tmp)(k:IK)(st:XS):DS P E d (AJV k) st=DS P E d k st:=by cases k<;>rfl
theorem AOZ(k:IK):DB (AJV k)=DB k:=by cases k<;>rfl
theorem AXD(all:List cq)(o:cq)(st:XS):XM P E (jM all o) st=XM P E (comp all o) st:=by
 unfold jM comp;cases zB all o with
 |false=>rfl
 |true=>
  show XM P E ⟨MB all o,o.dst,AJV (OK all o)⟩ st=_
  unfold XM
  simp only[wD,AOZ]
theorem AXE(all:List cq)(o:cq)(r:cj->Option V):cond (zB all o) [] (ER P o r)=II P (jM all o).k r:=by
 unfold jM;cases hz:zB all o with
 |false=>exact AXC all o r
 |true=>
  obtain⟨T,x,ho⟩:=ARO hz
  show[]=II P (AJV (OK all o)) r
  unfold OK
  rw[ho]
  rfl
theorem Q0:∀(l:List JU),XN P E l none=none
 |[]=>rfl
 |_::l=>Q0 l
theorem AJY(l:List cq):∀(R:List Nat) (st:XS) (rd wr:AL),R.all (fun i=>bn i l.length)=true->phX P E l R st rd wr=XN P E (jO l R) (some (st,rd,wr))
 |[],st,rd,wr,_=>rfl
 |i::R,st,rd,wr,h=>by
  simp only[bb,bj,bf]at h;have hi:=bw h.1;have hp:jO l (i::R)=jM l l[i]::jO l R:=by simp[jO,hi]
  rw[hp];simp only[phX,hi,XN,rT,AOY,AXD];cases XM P E (comp l l[i]) st with
  |none=>exact(Q0 _).symm
  |some q=>
   obtain⟨st',w⟩:=q
   simp only
   rw[AJY l R _ _ _ h.2,AXE l]
theorem AJZ(hl:E.lit=fun _=>false)(l:List cq):∀(R:List Nat) (st:XS),R.all (fun i=>bn i l.length)=true->sqX P E l R st=P5 P E (jN l R) (some st)
 |[],st,_=>rfl
 |i::R,st,h=>by
  simp only[bb,bj,bf]at h;have hi:=bw h.1;have hp:jN l (i::R)=comp l l[i]::jN l R:=by simp[jN,hi]
  rw[hp];simp only[sqX,hi,P5,opO,AJW hl];cases opI P E (comp l l[i]) st with
  |none=>exact(I9 _).symm
  |some st'=>exact AJZ hl l R st' h.2
theorem M3:∀(S:List rU),XO P E S none=none
 |[]=>rfl
 |p::S=>by simp only[XO,AJX,Q0,eQ,I9];exact M3 S
theorem rV(l:List cq)(st:XS):∀(R:List Nat),cX (D0 l) l R st.s.loc=mD (AAF l R) st
 |[]=>rfl
 |i::R=>by
  have ih:=rV l st R;unfold cX mD AAF at *;simp only[bb,List.filterMap_cons,ih];cases hi:l[i]? with
  |none=>simp
  |some o=>
   simp only
   cases hk:kA (D0 l) o with
   |false=>simp
   |true=>
    cases hd:o.dst with
    |none=>simp
    |some d=>simp
theorem AAH(hl:E.lit=fun _=>false)(l:List cq):∀(S:Y5) (st:XS),inB l S=true->AC1 P E l S st=XO P E (S.map (AAG l)) (some st)
 |[],st,_=>rfl
 |p::S,st,h=>by
  simp only[inB,bb,bj]at h;obtain⟨⟨h1,h2⟩,h3⟩:=h;simp only[AC1,List.map_cons,XO,AAG,AJX,rV];cases mD (AAF l p.1) st with
  |false=>
   simp only[Q0,eQ,I9]
   exact(M3 _).symm
  |true=>
   simp only[AJY l _ _ _ _ h1]
   cases XN P E (jO l p.1) (some (st,[],[]))with
   |none=>simp only[eQ,I9];exact(M3 _).symm
   |some q=>
    obtain⟨st1,rd,wr⟩:=q
    simp only[eQ]
    cases (wr.all fun p=>!rd.contains p)with
    |false=>simp only[I9];exact(M3 _).symm
    |true=>
     simp only[AJZ hl l _ _ h2]
     cases P5 P E (jN l p.2) (some st1)with
     |none=>exact(M3 _).symm
     |some HS=>exact AAH hl l S HS h3
inductive IR where
 |str (l:List JU)
 |drw (S:List rU)
 |cls (ks:List (Nat×Nat×Nat))
def AAI(P:ck)(ops:List cq)(draw:Bool):IR:=cond draw (cond (Y8 P ops) (.cls (I8 ops)) (.drw ((fZ ops).map (AAG ops)))) (.str (ops.map (comp ops)))
def okR(P:ck)(ops:List cq)(draw:Bool):Bool:=cond draw (cond (Y8 P ops) true (inB ops (fZ ops))) true
def KA(P:ck)(E:XE)(i:IR)(st:XS):Option XS:=match i with
 |.str l=>P5 P E l (some st)
 |.drw S=>XO P E S (some st)
 |.cls ks=>S8 P ks (some st)
end Go.Pg
namespace Go.Pg
variable {P:ck}{σ σ':Nat->Nat}{δ:Nat}{pre:List AA}{s:St}{fr:Fr}
abbrev Tr:=Option (List Nat×List Nat)
abbrev Ann:=Nat->Nat->Tr
def CO(a:Tr)(st:XS):XS:=match a with
 |some p=>S5 p.1 p.2 st
 |none=>st
theorem M4{a:Tr}{st:XS}(h:Bd st):LD st (CO a st):=by
 cases a with
 |none=>exact⟨Nat.le_refl _,h,rfl⟩
 |some p=>exact VS h
theorem JF{a:Tr}{st:XS}:(CO a st).c=st.c:=by cases a<;>rfl
theorem K6{n N:Nat}{ρ:Option Nat}{c:cw}{K:Exit->Fr->St->Prop}{a:Tr}{st:XS}(h:BL P n N ρ c K ((CO a st).fr.ren σ pre.length) ((CO a st).s.emb σ pre)):BL P n N ρ c K (st.fr.ren σ pre.length) (st.s.emb σ pre):=by
 cases a with
 |none=>exact h
 |some p=>exact XC h
def BAP(P:ck)(E:XE)(a:Tr)(l:List cq)(draw:Bool)(st:XS):Option XS:=Bool.rec (lJ P E l l (CO a st)) (Bool.rec (RZ P E l (CO a st)) (S8 P (I8 l) (some (CO a st))) (Y8 P l)) draw
def isY:List Nat->Bool
 |k::_=>bx k 777
 |[]=>false
def AJ0(P:ck)(E:XE)(N:Nat)(a:Tr)(l:List cq)(draw:Bool)(us:List Nat)(st:XS):Option XS:=Bool.rec (BAP P (cfU us E) a l draw st) (Bool.rec none (zS P E N l (CO a st)) draw) (isY us)
def BI(rec:fG)(body:cw)(a:Tr)(n:Nat):XS->Option (Exit×XS):=Nat.rec (motive:=fun _=>XS->Option (Exit×XS)) (fun _=>none) (fun _ ih st=>match rec body st with
 |some (.normal,st')=>ih (CO a st')
 | r=>r) n
def mE(id:Nat)(l:List cq):Nat:=id+1000*l.length+1000000*(match l with
 |o::_=>match o.dst with
  |some d=>d
  |none=>0
 | []=>0)
def BZ:cw->Nat
 |.region id ops _=>mE id ops.toList
 |.seq a _=>BZ a
 |.block _ c=>BZ c
 |.loop c=>BZ c
 |.scope c=>BZ c
 |_=>0
def ADO:Tr->List Nat
 |some p=>p.1
 |none=>[]
def OL:Nat:=1000000000000000
def ADP:Tr->List Nat
 |some p=>p.2
 |none=>[]
def XP(P:ck)(E:XE)(A:Ann)(n N:Nat)(rec:fG):fG:=fun code st=>match code with
 |.region id ops draw=>QW (AJ0 P E N (A N (mE id ops.toList)) ops.toList draw (ADP (A N (mE id ops.toList+OL))) (MD (ADO (A N (mE id ops.toList+OL))) st))
 |.loop body=>BI rec body (A N (BZ body)) n (CO (A N (BZ body)) st)
 |c=>dK P E n N rec c st
def AE(P:ck)(A:Ann)(kn:CF0)(n:Nat):HJ:=Nat.rec (motive:=fun _=>HJ) (fun _ _ _=>none) (fun n ih N=>XP P (A9E P kn (fun _ _ _=>none) (fun _=>false) ih) A n N (ih N)) n
theorem AO0(hP:ES P){E:XE}(hEE:KZ P E){a:Tr}{id:Nat}{ops:Array cq}{draw:Bool}{N:Nat}(hN:FG N (.region id ops draw)=true){st st':XS}(hx:BAP P E a ops.toList draw st=some st')(hbd:Bd st):LD st st' /\
  ∀(n:Nat) (ρ:Option Nat) (σ:Nat->Nat) (pre:List AA) (K:Exit->Fr->St->Prop),(∀σ',AU st.c σ σ'->K .normal (st'.fr.ren σ' pre.length) (st'.s.emb σ' pre))->BL P n N ρ (.region id ops draw) K (st.fr.ren σ pre.length) (st.s.emb σ pre):=by
 obtain⟨l⟩:=ops
 have hT:=M4 (a:=a) hbd
 have ext:∀{st'},LD (CO a st) st'->LD st st':=fun h=>⟨by have:=h.c;rwa [JF]at this,h.bd,h.n.trans hT.n⟩
 cases draw with
 |false=>
  simp only[FG,cond_false,bj]at hN
  have hx:lJ P E l l (CO a st)=some st':=hx
  obtain⟨hE,hs⟩:=lK hEE hT.bd hx
  refine⟨ext hE,fun n ρ σ pre K hk=>K6 (a:=a) ?_⟩
  exact YJ (l.map (MB l)) hN.1 (lD (VM hN.2)) (hs σ pre _ fun σ' ha=>hk σ' (by rwa [JF]at ha))
 |true=>
  simp only[FG,cond_true]at hN
  cases hc:Y8 P l with
  |true=>
   have hx:(Bool.rec (RZ P E l (CO a st)) (S8 P (I8 l) (some (CO a st))) (Y8 P l):Option XS)=some st':=hx
   rw[hc]at hx
   obtain⟨hE,hs⟩:=AOL (id:=id) hP hN hc hx hT.bd
   exact⟨ext hE,fun n ρ σ pre K hk=>K6 (a:=a) (hs n ρ σ pre K fun σ' ha=>hk σ' (by rwa [JF]at ha))⟩
  |false=>
  have hx:(Bool.rec (RZ P E l (CO a st)) (S8 P (I8 l) (some (CO a st))) (Y8 P l):Option XS)=some st':=hx
  rw[hc]at hx
  obtain⟨hE,hs⟩:=eE (id:=id) hP hEE hN hx hT.bd
  exact⟨ext hE,fun n ρ σ pre K hk=>K6 (a:=a) (hs n ρ σ pre K fun σ' ha=>hk σ' (by rwa [JF]at ha))⟩
theorem AO1(hP:ES P){E:XE}(hEE:KZ P E){a:Tr}{us:List Nat}{id:Nat}{ops:Array cq}{draw:Bool}{N:Nat}(hN:FG N (.region id ops draw)=true){st st':XS}(hx:AJ0 P E N a ops.toList draw us st=some st')(hbd:Bd st):LD st st' /\
  ∀(n:Nat) (ρ:Option Nat) (σ:Nat->Nat) (pre:List AA) (K:Exit->Fr->St->Prop),(∀σ',AU st.c σ σ'->K .normal (st'.fr.ren σ' pre.length) (st'.s.emb σ' pre))->BL P n N ρ (.region id ops draw) K (st.fr.ren σ pre.length) (st.s.emb σ pre):=by
 unfold AJ0 at hx
 cases hy:isY us with
 |false=>rw[hy]at hx;exact AO0 hP (AV9 hEE _) hN hx hbd
 |true=>
  rw[hy]at hx
  cases draw with
  |false=>cases hx
  |true=>
   have hx:zS P E N ops.toList (CO a st)=some st':=hx
   have hT:=M4 (a:=a) hbd
   obtain⟨hE,hs⟩:=AI6 hP hEE (id:=id) hx hT.bd
   refine⟨⟨by have:=hE.c;rwa [JF]at this,hE.bd,hE.n.trans hT.n⟩,fun n ρ σ pre K hk=>K6 (a:=a) ?_⟩
   exact hs n ρ σ pre K fun σ' ha=>hk σ' (by rwa [JF]at ha)
theorem AJ1{N:Nat}{rec:fG}(hrec:dO P N rec){body:cw}{a:Tr}(hN:FG N body=true)(m:Nat){st st':XS}{e:Exit}(hx:BI rec body a m (CO a st)=some (e,st'))(hbd:Bd st):LD st st'/\(∀l,e≠.goto l) /\
  ∀(n:Nat) (ρ:Option Nat) (σ:Nat->Nat) (pre:List AA) (K:Exit->Fr->St->Prop),(ρ=none\/G7 body=true)->(∀σ',AU st.c σ σ'->K e (st'.fr.ren σ' pre.length) (st'.s.emb σ' pre))->BL P n N ρ (.loop body) K (st.fr.ren σ pre.length) (st.s.emb σ pre):=by
 have up:∀{st st':XS},Bd st->LD (CO a st) st'->LD st st':=fun hbd h=>⟨by have:=h.c;rwa [JF]at this,h.bd,h.n.trans (M4 hbd).n⟩
 have ext:∀(m:Nat) {st:XS},BI rec body a m (CO a st)=some (e,st')->Bd st->LD st st'/\(∀l,e≠.goto l):=by
  intro m;induction m with
  |zero=>intro st hx _;cases hx
  |succ m ih=>
   intro st hx hbd
   have hx:(match rec body (CO a st)with
    |some (.normal,st')=>BI rec body a m (CO a st')
    | r=>r)=some (e,st'):=hx
   have hT:=M4 (a:=a) hbd
   split at hx
   ·rename_i st1 h1;obtain⟨hE,_,_⟩:=hrec _ _ _ _ h1 hT.bd hN;obtain⟨hE',hg⟩:=ih hx hE.bd;exact⟨up hbd ⟨Nat.le_trans hE.c hE'.c,hE'.bd,hE'.n.trans hE.n⟩,hg⟩
   ·obtain⟨hE,hg,_⟩:=hrec _ _ _ _ hx hT.bd hN;exact⟨up hbd ⟨hE.c,hE.bd,hE.n⟩,hg⟩
 obtain⟨hE,hg⟩:=ext m hx hbd
 refine⟨hE,hg,fun n ρ σ pre K hρ hk=>?_⟩
 refine iL (fun m fr s=>∃(st:XS) (σ:Nat->Nat),fr=st.fr.ren σ pre.length/\s=st.s.emb σ pre/\Bd st/\BI rec body a m (CO a st)=some (e,st')/\∀σ',AU st.c σ σ'->K e (st'.fr.ren σ' pre.length) (st'.s.emb σ' pre)) m ⟨st,σ,rfl,rfl,hbd,hx,hk⟩ ?_
 rintro m fr s ⟨st,σ,rfl,rfl,hbd,hx,hk⟩
 cases m with
 |zero=>cases hx
 |succ m=>
  have hx:(match rec body (CO a st)with
   |some (.normal,st')=>BI rec body a m (CO a st')
   | r=>r)=some (e,st'):=hx
  have hT:=M4 (a:=a) hbd
  refine K6 (a:=a) ?_
  split at hx
  ·rename_i st1 h1;obtain⟨hE,_,hC⟩:=hrec _ _ _ _ h1 hT.bd hN;refine hC n ρ σ pre _ hρ fun σ' ha=>?_;rw[JF]at ha;exact⟨m,Nat.lt_succ_self _,st1,σ',rfl,rfl,hE.bd,hx,fun σ'' ha'=>hk σ'' (ha.trans ha' (by have:=hE.c;rwa [JF]at this))⟩
  ·rename_i hne;obtain⟨hE,hg,hC⟩:=hrec _ _ _ _ hx hT.bd hN;refine hC n ρ σ pre _ hρ fun σ' ha=>?_;rw[JF]at ha;have:=hk σ' ha;cases e with
   |normal=>exact absurd hx (hne st')
   |_=>exact this
theorem mF(hP:ES P){E:XE}(hEE:KZ P E){A:Ann}{N:Nat}{rec:fG}(hrec:dO P N rec)(m:Nat):dO P N (XP P E A m N rec):=by
 intro code st e st' hx hbd hN;unfold XP at hx;split at hx
 ·rename_i id ops draw;obtain⟨rfl,hx2⟩:=rM hx;have hT:=zM (ADO (A N (mE id ops.toList+OL))) hbd;obtain⟨hE,hs⟩:=AO1 hP hEE hN hx2 hT.bd;exact⟨⟨Nat.le_trans hT.c hE.c,hE.bd,hE.n.trans hT.n⟩,(by intro l h;cases h),fun n ρ σ pre K _ hk=>rH _ (hs n ρ σ pre K fun σ' ha=>hk σ' (by rwa [ARW]at ha))⟩
 ·rename_i body;have hN:FG N body=true:=hN;obtain⟨h1,h2,h3⟩:=AJ1 hrec hN m hx hbd;exact⟨h1,h2,fun n ρ σ pre K hρ hk=>h3 n ρ σ pre K hρ hk⟩
 ·exact rN hP hEE hrec m _ _ _ _ hx hbd hN
theorem eR(hP:ES P){A:Ann}{kn:CF0}(hkn:IA P kn):∀n,dP P (AE P A kn n)
 |0=>fun N code st e st' hx=>by cases hx
 |n+1=>fun N=>by have ih:=eR hP (A:=A) hkn n;exact mF hP ⟨AIJ hP hkn ih,AON hP ih,dT hP hkn ih,AII hP hkn (ko:=fun _ _ _=>none) (fun _ _ _ _ h=>by cases h) ih⟩ (ih N) n
theorem AJ2(hP:ES P){A:Ann}{kn:CF0}(hkn:IA P kn){n:Nat}{f:cz}{args:List V}{r:V}(h:E7 P (AE P A kn n) f args=some r)(s:St):F6 P f args s fun r' s'=>r'=r/\s'=s :=
 (dR hP (eR hP hkn n) f args r h).1 s
section
variable {A:Ann}{kn:CF0}{n N:Nat}{st:XS}
abbrev BQ(P:ck)(A:Ann)(kn:CF0)(n:Nat):XE:=A9E P kn (fun _ _ _=>none) (fun _=>false) (AE P A kn n)
theorem AJ3(a b:cw):AE P A kn (n+1) N (.seq a b) st=lM (AE P A kn n N) b (AE P A kn n N a st):=rfl
theorem ADQ(c:cj)(a b:cw):AE P A kn (n+1) N (.cond c a b) st=qU (AE P A kn n N) a b st (CP st.fr c):=rfl
theorem wE(id:Nat)(b:cw):AE P A kn (n+1) N (.block id b) st=N3 id (AE P A kn n N b st):=rfl
theorem ADR(b:cw):AE P A kn (n+1) N (.loop b) st=BI (AE P A kn n N) b (A N (BZ b)) n (CO (A N (BZ b)) st):=rfl
theorem ADS:AE P A kn (n+1) N .skip st=some (.normal,st):=rfl
theorem ADT(id:Nat):AE P A kn (n+1) N (.exit id) st=some (.exit id,st):=rfl
theorem AJ4:AE P A kn (n+1) N .ret st=some (.ret,st):=rfl
theorem wF(b:cw):AE P A kn (n+1) N (.scope b) st=AE P A kn n N b st:=rfl
theorem N6(g:cj)(ps:Array Tmp)(asg body:cw):AE P A kn (n+1) N (.rangeFunc g ps asg body) st=XD (BQ P A kn n).cf N g ps.toList asg body st:=rfl
theorem AJ5(a b:cw):BZ (.seq a b)=BZ a:=rfl
theorem wG(id:Nat)(b:cw):BZ (.block id b)=BZ b:=rfl
theorem ADU(b:cw):BZ (.loop b)=BZ b:=rfl
theorem AB(rec:fG)(body:cw)(a:Tr):BI rec body a (n+1) st=match rec body st with
 |some (.normal,st')=>BI rec body a n (CO a st')
 |r=>r:=rfl
theorem rW(rec:fG)(b:cw):lM rec b (some (.normal,st))=rec b st:=rfl
theorem AJ6(rec:fG)(b:cw):lM rec b (some (.ret,st))=some (.ret,st):=rfl
theorem ADV(rec:fG)(b:cw)(i:Nat):lM rec b (some (.exit i,st))=some (.exit i,st):=rfl
theorem AJ7(rec:fG)(b:cw)(c:Prop)[Decidable c](x y:Option (Exit×XS)):lM rec b (if c then x else y)=if c then lM rec b x else lM rec b y:=by split<;>rfl
theorem gM(id:Nat):N3 id (some (.normal,st))=some (.normal,st):=rfl
theorem wH(id:Nat):N3 id (some (.ret,st))=some (.ret,st):=rfl
theorem rX(id i:Nat):N3 id (some (.exit i,st))=if i=id then some (.normal,st) else some (.exit i,st):=by
 show(Bool.rec _ _ (bx i id):Option (Exit×XS))=_;by_cases h:i=id
 ·subst h;simp
 ·have:bx i id=false:=by
   cases hb:bx i id with
   |false=>rfl
   |true=>exact absurd (Nat.eq_of_beq_eq_true hb) h
  simp[h,this]
theorem wI(id:Nat)(c:Prop)[Decidable c](x y:Option (Exit×XS)):N3 id (if c then x else y)=if c then N3 id x else N3 id y:=by split<;>rfl
def AAJ:cw->Bool
 |.region ..=>true
 |_=>false
def YT:cw->List cq
 |.region _ ops _=>ops.toList
 |_=>[]
def P6:cw->Bool
 |.region _ _ d=>d
 |_=>false
theorem AAK(us:List Nat){E:XE}(h:E.lit=fun _=>false):(cfU us E).lit=fun _=>false:=by cases us<;>exact h
theorem XQ{r:cw}(hr:AAJ r=true){i:IR}(hi:AAI P (YT r) (P6 r)=i)(hok:okR P (YT r) (P6 r)=true){a:Tr}(ha:A N (BZ r)=a){ks us:List Nat}(ht:ADO (A N (BZ r+OL))=ks)(hu:ADP (A N (BZ r+OL))=us)(hy:isY us=false:=by rfl):AE P A kn (n+1) N r st=QW (KA P (cfU us (BQ P A kn n)) i (CO a (MD ks st))):=by
 cases r with
 |region id ops draw=>
  subst hi ha ht hu
  show QW (AJ0 P _ N (A N (mE id ops.toList)) ops.toList draw (ADP (A N (mE id ops.toList+OL))) (MD (ADO (A N (mE id ops.toList+OL))) st))=_
  unfold AJ0
  rw[show isY (ADP (A N (mE id ops.toList+OL)))=false from hy]
  cases draw with
  |false=>exact congrArg QW (AAE (AAK _ rfl) _ _ _)
  |true=>
   show QW (Bool.rec (RZ P _ ops.toList _) (S8 P (I8 ops.toList) (some _)) (Y8 P ops.toList))=QW (KA P _ (cond (Y8 P ops.toList) (.cls (I8 ops.toList)) (.drw ((fZ ops.toList).map (AAG ops.toList)))) _)
   have hok:cond (Y8 P ops.toList) true (inB ops.toList (fZ ops.toList))=true:=hok
   cases hc:Y8 P ops.toList with
   |true=>rfl
   |false=>
    rw[hc]at hok
    exact congrArg QW (AAH (AAK _ rfl) _ _ _ hok)
 |_=>cases hr
theorem D6{r:cw}(hr:AAJ r=true){i:IR}(hi:AAI P (YT r) (P6 r)=i)(hok:okR P (YT r) (P6 r)=true){a:Tr}(ha:A N (BZ r)=a){ks:List Nat}(ht:ADO (A N (BZ r+OL))=ks)(hu:ADP (A N (BZ r+OL))=[]:=by kernel_rfl):AE P A kn (n+1) N r st=QW (KA P (BQ P A kn n) i (CO a (MD ks st))):=XQ hr hi hok ha ht hu rfl
theorem AJ8{r:cw}(hr:AAJ r=true){i:IR}(hi:AAI P (YT r) (P6 r)=i)(hok:okR P (YT r) (P6 r)=true){a:Tr}(ha:A N (BZ r)=a)(ht:A N (BZ r+OL)=none:=by kernel_rfl):AE P A kn (n+1) N r st=QW (KA P (BQ P A kn n) i (CO a st)):=D6 hr hi hok ha (congrArg ADO ht) (congrArg ADP ht)
def Y9(P:ck)(rs:List ResultVar)(r:Option (Exit×XS)):Option V:=match r with
 |some (.ret,st)=>finV st.s (F8 P rs st.fr st.s)
 |some (.normal,st)=>finV st.s (F8 P rs st.fr st.s)
 |_=>none
where finV (s:St) (r:Option V):Option V:=match r with
 |some v=>match A4 s 4 v with
  |some r'=>Bool.rec none (some r') (AG 9 r')
  |none=>none
 |none=>none
theorem AQ{f:cz}{fn:Func}{c:cw}{args:List V}{rec:HJ}(hf:P.funcs[f]? = some fn)(hb:fn.body=some c)(hs:bm args.length fn.ntmps=true)(hcl:args.all (AG 9)=true) :
  E7 P rec f args=Y9 P fn.results.toList (rec fn.ntmps c ⟨0,AF 0 args,⟨[],[]⟩⟩):=by
 unfold E7 iY YR qV
 rw[hcl,hf]
 simp only[hb,hs]
 generalize rec fn.ntmps c ⟨0,AF 0 args,⟨[],[]⟩⟩=q
 have aux:∀st:XS,(match(match F8 P fn.results.toList st.fr st.s with
   |some r=>match A4 st.s 4 r with
    |some r'=>some (r',st.c,st.s.up.map (AK st.s))
    |none=>none
   | none=>none:Option (V×Nat×List AA))with
  |some (r,_,_)=>(Bool.rec none (some r) (AG 9 r):Option V)
  | none=>none)=Y9.finV st.s (F8 P fn.results.toList st.fr st.s):=fun st=>by
  unfold Y9.finV
  cases F8 P fn.results.toList st.fr st.s with
  |none=>rfl
  |some r=>
   cases h:A4 st.s 4 r with
   |none=>simp[h]
   |some r'=>simp[h]
 cases q with
 |none=>rfl
 |some q=>
  obtain⟨e,st⟩:=q
  cases e with
  |ret=>exact aux st
  |normal=>exact aux st
  |_=>rfl
theorem AJ9(rs:List ResultVar)(c:Prop)[Decidable c](x y:Option (Exit×XS)):Y9 P rs (if c then x else y)=if c then Y9 P rs x else Y9 P rs y:=by split<;>rfl
end
def MC:cw->List Nat->cw
 |c,[]=>c
 |.seq a b,i::p=>bif bx i 0 then MC a p else MC b p
 |.cond _ a b,i::p=>bif bx i 0 then MC a p else MC b p
 |.block _ a,_::p=>MC a p
 |.loop a,_::p=>MC a p
 |.scope a,_::p=>MC a p
 |.rangeFunc _ _ a b,i::p=>bif bx i 0 then MC a p else MC b p
 |c,_=>c
def AXF(fn:Func):cw:=match fn.body with
 |some c=>c
 |none=>.skip
end Go.Pg
namespace Go.Pg
variable {P:ck}{E:XE}{st:XS}{fr:Fr}{s:St}
@[simp] theorem BAQ(r:Option XS):P5 P E [] r=r:=rfl
@[simp] theorem A19(i:JU)(l:List JU)(r:Option XS):P5 P E (i::l) r=P5 P E l (opO P E i r):=rfl
@[simp] theorem BAR(i:JU):opO P E i (some st)=opI P E i st:=rfl
@[simp] theorem BAS(i:JU):opO P E i none=none:=rfl
@[simp] theorem BFK(i:JU)(c:Prop)[Decidable c](x y:Option XS):opO P E i (if c then x else y)=if c then opO P E i x else opO P E i y:=by split<;>rfl
@[simp] theorem BAT(l:List JU)(c:Prop)[Decidable c](x y:Option XS):P5 P E l (if c then x else y)=if c then P5 P E l x else P5 P E l y:=by split<;>rfl
def gI(P:ck)(E:XE)(d:Option Tmp)(k:IK)(st:XS)(w:Bool)(r:Option (Bool×V)):Option XS:=match r with
 |some (c,.bool b)=>Bool.rec (some (IU d st)) (C4 P E d k st) (c&&(b==w))
 |_=>none
@[simp] theorem BAU(d:Option Tmp)(k:IK):opI P E ⟨none,d,k⟩ st=C4 P E d k st:=rfl
@[simp] theorem A2A(t:Tmp)(w:Bool)(d:Option Tmp)(k:IK):opI P E ⟨some (t,w),d,k⟩ st=gI P E d k st w (BJ st.fr t):=by
 show(match(match BJ st.fr t with | some (c,.bool b)=>some (c&&(b == w)) | _=>none:Option Bool)with
  |some true=>C4 P E d k st
  |some false=>some (IU d st)
  | none=>none)=_
 unfold gI;cases BJ st.fr t with
 |none=>rfl
 |some p=>
  obtain⟨c,v⟩:=p
  cases v with
  |bool b=>cases h:(c&&(b==w))<;>simp[h]
  |_=>rfl
@[simp] theorem BOF(d:Option Tmp)(k:IK):gI P E d k st true (some (true,.bool true))=C4 P E d k st:=rfl
@[simp] theorem BOG(d:Option Tmp)(k:IK):gI P E d k st true (some (true,.bool false))=some (IU d st):=rfl
@[simp] theorem BOH(d:Option Tmp)(k:IK):gI P E d k st false (some (true,.bool true))=some (IU d st):=rfl
@[simp] theorem BOI(d:Option Tmp)(k:IK):gI P E d k st false (some (true,.bool false))=C4 P E d k st:=rfl
@[simp] theorem BOJ(d:Option Tmp)(k:IK)(w b:Bool):gI P E d k st w (some (false,.bool b))=some (IU d st):=rfl
@[simp] theorem BAV(d:Tmp)(c:Nat)(fr:Fr)(s:St):IU (some d) ⟨c,fr,s⟩=⟨c,(d,false,.bool false)::fr,s⟩:=rfl
@[simp] theorem BAW(c:Nat)(fr:Fr)(s:St):IU none ⟨c,fr,s⟩=⟨c,fr,s⟩:=rfl
@[simp] theorem BAX(k:Nat):BJ [] k=none:=rfl
@[simp] theorem A2B(j:Nat)(x:Bool×V)(fr:Fr)(k:Nat):BJ ((j,x)::fr) k=if k=j then some x else BJ fr k:=by rw[FY,FY];rfl
@[simp] theorem AXG(j:Nat)(x:Nat×AZ)(L:AA)(k:Nat):AA.get ((j,x)::L) k=if k=j then some x else L.get k:=rfl
def rdT:Option (Bool×V)->Option V
 |some (true,v)=>some v
 |_=>none
@[simp] theorem AKA(v:V):rdT (some (true,v))=some v:=rfl
@[simp] theorem A2D(v:V):rdT (some (false,v))=none:=rfl
@[simp] theorem BAY:rdT none=none:=rfl
@[simp] theorem BFL(t:Tmp):CP fr (.tmp t)=rdT (BJ fr t):=by
 show(match BJ fr t with
  |some (true,v)=>some v
  | _=>none)=_
 cases BJ fr t with
 |none=>rfl
 |some p=>obtain⟨c,v⟩:=p;cases c<;>rfl
@[simp] theorem A2E(v:Value):CP fr (.const v)=CT v:=rfl
@[simp] theorem BAZ(f:cz):CP fr (.func f)=some (.fn f [] []):=rfl
@[simp] theorem BFM(t:Tmp):rdC fr (.tmp t)=BJ fr t:=rfl
@[simp] theorem BA0(b:Bool):rdC fr (.const (.bool b))=some (true,.bool b):=rfl
@[simp] theorem AXH(k:cx)(n:Int):CT (.int k n)=some (.int k n):=rfl
@[simp] theorem AR9(b:Bool):CT (.bool b)=some (.bool b):=rfl
@[simp] theorem AXI:CT (.slice none 0 0)=some .nil:=rfl
@[simp] theorem A2F(d:Tmp)(c:Nat)(fr:Fr)(s:St)(v:V):EK (some d) ⟨c,fr,s⟩ (some v)=some ⟨c,(d,true,v)::fr,s⟩:=rfl
@[simp] theorem BFN(c:Nat)(fr:Fr)(s:St)(v:V):EK none ⟨c,fr,s⟩ (some v)=some ⟨c,fr,s⟩:=rfl
@[simp] theorem A2G(d:Option Tmp):EK d st none=none:=rfl
@[simp] theorem BA1(d:Option Tmp)(c:Prop)[Decidable c](x y:Option V):EK d st (if c then x else y)=if c then EK d st x else EK d st y:=by split<;>rfl
section
variable (d:Option Tmp)(c:Nat)
@[simp] theorem BA2(x:cj):C4 P E d (.mv x) ⟨c,fr,s⟩=EK d ⟨c,fr,s⟩ (CP fr x):=rfl
def AXJ(P:ck)(op:BinOp)(T:bp):Option V->Option V->Option V
 |some a,some b=>GZ P op T a b
 |_,_=>none
@[simp] theorem A2H(op:BinOp)(T:bp)(a b:V):AXJ P op T (some a) (some b)=GZ P op T a b:=rfl
@[simp] theorem A2I(op:BinOp)(T:bp)(x y:cj):C4 P E d (.bin op T x y) ⟨c,fr,s⟩=EK d ⟨c,fr,s⟩ (AXJ P op T (CP fr x) (CP fr y)):=by show EK d _ (ACZ P fr op T x y)=_;unfold ACZ AXJ;cases CP fr x<;>cases CP fr y<;>rfl
def fa1(P:ck)(T:bp)(f:Nat):Option V->Option V
 |some p=>DG P T p f
 |none=>none
@[simp] theorem BA3(T:bp)(f:Nat)(p:V):fa1 P T f (some p)=DG P T p f:=rfl
@[simp] theorem BA4(T:bp)(x:cj)(f:Nat):C4 P E d (.fa T x f) ⟨c,fr,s⟩=EK d ⟨c,fr,s⟩ (fa1 P T f (CP fr x)):=by show EK d _ (xFA P fr T x f)=_;unfold xFA fa1;cases CP fr x<;>rfl
def wh1(P:ck)(T:bp):Option (List V)->Option V
 |some cs=>BN P T cs
 |none=>none
@[simp] theorem BA5(T:bp)(cs:List V):wh1 P T (some cs)=BN P T cs:=rfl
def ld1(P:ck)(s:St)(T:bp):Option V->Option V
 |some p=>wh1 P T (BD s p)
 |none=>none
@[simp] theorem AKB(T:bp)(p:V):ld1 P s T (some p)=wh1 P T (BD s p):=rfl
@[simp] theorem BA6(T:bp)(x:cj):C4 P E d (.ld T x) ⟨c,fr,s⟩=EK d ⟨c,fr,s⟩ (ld1 P s T (CP fr x)):=by
 show EK d _ (OI P fr s T x)=_;unfold OI ld1;cases CP fr x with
 |none=>rfl
 |some p=>unfold wh1;cases BD s p<;>rfl
def pk3:Option V->Option (Bool×V)->Option (Bool×V)->Option V
 |some (.bool c),some (ca,.bool a),some (cb,.bool b)=>Bool.rec (Bool.rec none (some (.bool b)) cb) (Bool.rec none (some (.bool a)) ca) c
 |_,_,_=>none
@[simp] theorem BA7(a cb b:Bool):pk3 (some (.bool true)) (some (true,.bool a)) (some (cb,.bool b))=some (.bool a):=rfl
@[simp] theorem A2J(ca a b:Bool):pk3 (some (.bool false)) (some (ca,.bool a)) (some (true,.bool b))=some (.bool b):=rfl
@[simp] theorem BA8(c a b:Bool):pk3 (some (.bool c)) (some (true,.bool a)) (some (true,.bool b))=some (.bool (if c then a else b)):=by cases c<;>rfl
@[simp] theorem AXK(x y z:cj):C4 P E d (.pick x y z) ⟨c,fr,s⟩=EK d ⟨c,fr,s⟩ (pk3 (CP fr x) (rdC fr y) (rdC fr z)):=rfl
def ba2:Option V->Nat->Option (List (Nat×V))->Option (List (Nat×V))
 |some v,i,some l=>some ((i,v)::l)
 |_,_,_=>none
@[simp] theorem BA9(v:V)(i:Nat)(l:List (Nat×V)):ba2 (some v) i (some l)=some ((i,v)::l):=rfl
@[simp] theorem AXL(r:cj->Option V):DI r []=some []:=rfl
@[simp] theorem ASA(r:cj->Option V)(i:Nat)(x:cj)(l:List (Nat×cj)):DI r ((i,x)::l)=ba2 (r x) i (DI r l):=by simp only[DI];unfold ba2;cases r x<;>cases DI r l<;>rfl
def bd1(P:ck)(T:bp):Option (List (Nat×V))->Option V
 |some l=>CU P T l
 |none=>none
@[simp] theorem BBA(T:bp)(l:List (Nat×V)):bd1 P T (some l)=CU P T l:=rfl
@[simp] theorem ASB(T:bp)(ps:List (Nat×cj)):C4 P E d (.build T ps) ⟨c,fr,s⟩=EK d ⟨c,fr,s⟩ (bd1 P T (DI (CP fr) ps)):=by show EK d _ (W8 P fr T ps)=_;unfold W8 bd1;cases DI (CP fr) ps<;>rfl
def bs1(P:ck)(T:bp)(n:Nat):Option (List (Nat×V))->Option V
 |some l=>CJ P T n l
 |none=>none
@[simp] theorem BBB(T:bp)(n:Nat)(l:List (Nat×V)):bs1 P T n (some l)=CJ P T n l:=rfl
@[simp] theorem AO2(T:bp)(n:Nat)(ps:List (Nat×cj)):C4 P E d (.buildS T n ps) ⟨c,fr,s⟩=EK d ⟨c,fr,s⟩ (bs1 P T n (DI (CP fr) ps)):=by show EK d _ (QU P fr T n ps)=_;unfold QU bs1;cases DI (CP fr) ps<;>rfl
@[simp] theorem A2K(op:Op):C4 P E d (.oth op) ⟨c,fr,s⟩=EK d ⟨c,fr,s⟩ (JX P (mW op) s (CP fr)):=rfl
def al1(d:Tmp)(c:Nat)(fr:Fr)(s:St):Option (List V)->Option XS
 |some cs=>some ⟨c+1,(d,true,.ptr s.up.length d c 0)::fr,s.put s.up.length d c (.box cs)⟩
 |none=>none
@[simp] theorem BBC(d:Tmp)(cs:List V):al1 d c fr s (some cs)=some ⟨c+1,(d,true,.ptr s.up.length d c 0)::fr,s.put s.up.length d c (.box cs)⟩:=rfl
@[simp] theorem ASC(d:Tmp)(T:bp):C4 P E (some d) (.alloc T) ⟨c,fr,s⟩=al1 d c fr s (CC P T):=by show PU P (some d) T _=_;unfold PU al1;cases CC P T<;>rfl
def bx1(d:Tmp)(c:Nat)(fr:Fr)(s:St):Option V->Option XS
 |some v=>Bool.rec none (some ⟨c+1,(d,true,.ptr s.up.length d c 0)::fr,s.put s.up.length d c (.box (BA v))⟩) (BE v)
 |none=>none
@[simp] theorem BFR(d:Tmp)(k:cx)(n:Int):bx1 d c fr s (some (.int k n))=some ⟨c+1,(d,true,.ptr s.up.length d c 0)::fr,s.put s.up.length d c (.box [.int k n])⟩:=rfl
@[simp] theorem BBD(d:Tmp)(b:Bool):bx1 d c fr s (some (.bool b))=some ⟨c+1,(d,true,.ptr s.up.length d c 0)::fr,s.put s.up.length d c (.box [.bool b])⟩:=rfl
@[simp] theorem BFS(d:Tmp)(cs:List V):bx1 d c fr s (some (.agg cs))=some ⟨c+1,(d,true,.ptr s.up.length d c 0)::fr,s.put s.up.length d c (.box cs)⟩:=rfl
@[simp] theorem BBE(d:Tmp)(b:Bool)(es:List (List V)):bx1 d c fr s (some (.list b es))=some ⟨c+1,(d,true,.ptr s.up.length d c 0)::fr,s.put s.up.length d c (.box [.list b es])⟩:=rfl
@[simp] theorem BFT(d:Tmp):bx1 d c fr s (some .nil)=some ⟨c+1,(d,true,.ptr s.up.length d c 0)::fr,s.put s.up.length d c (.box [.nil])⟩:=rfl
@[simp] theorem BFU(d:Tmp)(l k g n:Nat):bx1 d c fr s (some (.vec l k g n))=some ⟨c+1,(d,true,.ptr s.up.length d c 0)::fr,s.put s.up.length d c (.box [.vec l k g n])⟩:=rfl
@[simp] theorem BK2(d:Tmp)(l k g:Nat):bx1 d c fr s (some (.mp l k g))=some ⟨c+1,(d,true,.ptr s.up.length d c 0)::fr,s.put s.up.length d c (.box [.mp l k g])⟩:=rfl
@[simp] theorem A2L(d:Tmp)(x:cj):C4 P E (some d) (.box x) ⟨c,fr,s⟩=bx1 d c fr s (CP fr x):=by show pY (some d) x _=_;unfold pY bx1;cases CP fr x<;>rfl
def st3(γ:Nat)(P:ck)(T:bp)(c:Nat)(fr:Fr)(s:St)(l q off:Nat)(v:V):Option (Nat×AZ)->Option XS
 |some (γ',.box cs)=>if γ'=γ/\BE v=true/\0<P.cellsOf T/\(BA v).length=P.cellsOf T/\off+P.cellsOf T<=cs.length/\γ<c then some ⟨c,fr,s.put l q γ (.box (A5 cs off (BA v)))⟩ else none
 |_=>none
def st4(γ:Nat)(P:ck)(T:bp)(c:Nat)(fr:Fr)(s:St)(l q i off:Nat)(v:V):Option (Nat×AZ)->Option XS
 |some (γ',.vec U es)=>if γ'=γ/\BE v=true/\0<P.cellsOf T/\(BA v).length=P.cellsOf T/\i<es.length/\off+P.cellsOf T<=(es.getD i []).length/\γ<c then some ⟨c,fr,s.put l q γ (.vec U (es.set i (A5 (es.getD i []) off (BA v))))⟩ else none
 |_=>none
def HS(P:ck)(T:bp)(c:Nat)(fr:Fr)(s:St):Option V->Option V->Option XS
 |some (.ptr l q γ off),some v=>st3 γ P T c fr s l q off v (s.get l q)
 |some (.eptr l q γ i off),some v=>st4 γ P T c fr s l q i off v (s.get l q)
 |_,_=>none
@[simp] theorem AO3(T:bp)(l q γ off:Nat)(v:V):HS P T c fr s (some (.ptr l q γ off)) (some v)=st3 γ P T c fr s l q off v (s.get l q):=rfl
@[simp] theorem AKC(T:bp)(l q γ i off:Nat)(v:V):HS P T c fr s (some (.eptr l q γ i off)) (some v)=st4 γ P T c fr s l q i off v (s.get l q):=rfl
@[simp] theorem AO4(γ γ':Nat)(T:bp)(l q off:Nat)(v:V)(cs:List V):st3 γ P T c fr s l q off v (some (γ',.box cs))=if γ'=γ/\BE v=true/\0<P.cellsOf T/\(BA v).length=P.cellsOf T/\off+P.cellsOf T<=cs.length/\γ<c then some ⟨c,fr,s.put l q γ (.box (A5 cs off (BA v)))⟩ else none:=rfl
@[simp] theorem AO5(γ γ':Nat)(T:bp)(l q i off:Nat)(v:V)(U:bp)(es:List (List V)):st4 γ P T c fr s l q i off v (some (γ',.vec U es))=if γ'=γ/\BE v=true/\0<P.cellsOf T/\(BA v).length=P.cellsOf T/\i<es.length/\off+P.cellsOf T<=(es.getD i []).length/\γ<c then some ⟨c,fr,s.put l q γ (.vec U (es.set i (A5 (es.getD i []) off (BA v))))⟩ else none:=rfl
theorem AO6(T:bp)(x y:cj):J0 P none T x y ⟨c,fr,s⟩=HS P T c fr s (CP fr x) (CP fr y):=by
 unfold J0;simp only;cases CP fr x with
 |none=>rfl
 |some p=>
  cases CP fr y with
  |none=>cases p<;>rfl
  |some v=>
   cases p with
   |ptr l q γ off=>
    simp only[AO3]
    cases s.get l q with
    |none=>rfl
    |some z=>
     obtain⟨γ',r⟩:=z
     cases r with
     |box cs=>
      simp only[AO4,bj,bf,Nat.ble_eq,bg,and_assoc]
     |_=>rfl
   |eptr l q γ i off=>
    simp only[AKC]
    cases s.get l q with
    |none=>rfl
    |some z=>
     obtain⟨γ',r⟩:=z
     cases r with
     |vec U es=>
      simp only[AO5,bj,bf,Nat.ble_eq,bg,and_assoc]
     |_=>rfl
   |_=>rfl
@[simp] theorem A2M(T:bp)(x y:cj):C4 P E none (.sto T x y) ⟨c,fr,s⟩=HS P T c fr s (CP fr x) (CP fr y):=AO6 c T x y
def apW(P:ck)(e:bp)(d c:Nat)(fr:Fr)(s:St)(l q γ n:Nat)(ys:List (List V)):Option (Nat×AZ)->Option XS
 |some (γ',.vec W es)=>if γ'=γ/\W=e/\n=es.length/\es.all (fun y=>y.length==P.cellsOf e)=true/\B5 P e es.length ys=true then
   some ⟨c+1,(d,true,.vec l q c (es.length+ys.length))::fr,s.put l q c (.vec e (es++ys))⟩ else none
 |_=>none
@[simp] theorem V1(e:bp)(d:Nat)(l q γ γ' n:Nat)(ys es:List (List V))(W:bp):apW P e d c fr s l q γ n ys (some (γ',.vec W es))=if γ'=γ/\W=e/\n=es.length/\es.all (fun y=>y.length==P.cellsOf e)=true/\B5 P e es.length ys=true then
   some ⟨c+1,(d,true,.vec l q c (es.length+ys.length))::fr,s.put l q c (.vec e (es++ys))⟩ else none:=rfl
def apV(P:ck)(e:bp)(d c:Nat)(fr:Fr)(s:St)(xv:V)(ys:List (List V)):Option XS:=match I5 xv ys with
 |some es=>if es.all (fun y=>y.length==P.cellsOf e)=true/\B5 P e es.length ys=true then some ⟨c+1,(d,true,.vec s.up.length d c (es.length+ys.length))::fr,s.put s.up.length d c (.vec e (es++ys))⟩ else none
 |none=>match xv with
  |.vec l q γ n=>apW P e d c fr s l q γ n ys (SN n ys (s.get l q))
  |_=>none
@[simp] theorem rY(n γ:Nat)(ys es:List (List V))(U:bp):SN n ys (some (γ,.vec U es))=some (γ,.vec U (bU n ys es)):=rfl
@[simp] theorem A2N(n:Nat)(ys:List (List V)):SN n ys none=none:=rfl
attribute [simp] WT
@[simp] theorem BFV(e:bp)(d:Nat)(ys:List (List V)):apV P e d c fr s .nil ys=if B5 P e 0 ys=true then some ⟨c+1,(d,true,.vec s.up.length d c ys.length)::fr,s.put s.up.length d c (.vec e ys)⟩ else none:=by simp[apV,I5]
@[simp] theorem BFW(e:bp)(d:Nat)(ys:List (List V)):apV P e d c fr s (.list true []) ys=if B5 P e 0 ys=true then some ⟨c+1,(d,true,.vec s.up.length d c ys.length)::fr,s.put s.up.length d c (.vec e ys)⟩ else none:=by simp[apV,I5]
@[simp] theorem BBG(e:bp)(d:Nat)(z y:List V)(es ys:List (List V)):apV P e d c fr s (.list true (z::es)) (y::ys)=if (z::es).all (fun y=>y.length==P.cellsOf e)=true/\B5 P e (z::es).length (y::ys)=true then
   some ⟨c+1,(d,true,.vec s.up.length d c ((z::es).length+(y::ys).length))::fr,s.put s.up.length d c (.vec e ((z::es)++(y::ys)))⟩ else none:=rfl
@[simp] theorem AO7(e:bp)(d:Nat)(l q γ n:Nat)(ys:List (List V)):apV P e d c fr s (.vec l q γ n) ys=apW P e d c fr s l q γ n ys (SN n ys (s.get l q)):=by simp[apV,I5]
def ap3(P:ck)(d c:Nat)(fr:Fr)(s:St):Option (Option Nat×bp)->Option V->Option V->Option XS
 |some (none,e),some xv,some yv=>ap4 e xv (elemsOf s yv)
 |_,_,_=>none
where ap4 (e:bp) (xv:V):Option (List (List V))->Option XS
 |some ys=>apV P e d c fr s xv ys
 |none=>none
@[simp] theorem AKD(d:Nat)(e:bp)(xv yv:V):ap3 P d c fr s (some (none,e)) (some xv) (some yv)=ap3.ap4 P d c fr s e xv (elemsOf s yv):=rfl
@[simp] theorem AKE(d:Nat)(e:bp)(xv:V)(ys:List (List V)):ap3.ap4 P d c fr s e xv (some ys)=apV P e d c fr s xv ys:=rfl
@[simp] theorem AO8(b:Bool)(es:List (List V)):elemsOf s (.list b es)=some es:=rfl
@[simp] theorem ASD:elemsOf s .nil=some []:=rfl
theorem ifB{α:Type}{b:Bool}{x y:α}:(Bool.rec y x b:α)=if b=true then x else y:=by cases b<;>rfl
theorem ADX{k:Nat}{e:bp}(d:Nat)(x y:Option V):ap3 P d c fr s (some (some k,e)) x y=none:=by cases x<;>cases y<;>rfl
@[simp] theorem A2O(d:Tmp)(x y:cj)(T:bp):C4 P E (some d) (.app [x,y] [T,T]) ⟨c,fr,s⟩=ap3 P d c fr s (BU P T) (CP fr x) (CP fr y):=by
 show xAppend P (some d) [x,y] [T,T] _=_;unfold xAppend xAppG;simp only[Nat.beq_refl];cases hT:BU P T with
 |none=>cases CP fr x<;>cases CP fr y<;>rfl
 |some p=>
  obtain⟨k,e⟩:=p
  cases k with
  |some k=>rw[ADX]
  |none=>
   cases CP fr x with
   |none=>rfl
   |some xv=>
    cases CP fr y with
    |none=>rfl
    |some yv=>
     simp only[AKD]
     cases elemsOf s yv with
     |none=>rfl
     |some ys=>
      simp only[AKE,apV]
      cases I5 xv ys with
      |some es=>
       simp only[ifB,bj,bq]
       by_cases hC:es.all (fun y=>y.length==P.cellsOf e)=true/\B5 P e es.length ys=true
       ·rw[if_pos hC,if_pos hC]
       ·rw[if_neg hC,if_neg hC]
      |none=>
       simp only
       unfold qH
       cases xv with
       |vec l q γ n=>
        simp only
        cases SN n ys (s.get l q)with
        |none=>rfl
        |some z=>
         obtain⟨γ',r⟩:=z
         cases r with
         |vec W es=>
          simp only[ifB,bj,bq,V1,bg,and_assoc]
          by_cases hC:γ'=γ/\W=e/\n=es.length/\es.all (fun y=>y.length==P.cellsOf e)=true/\B5 P e es.length ys=true
          ·rw[if_pos hC,if_pos hC]
          ·rw[if_neg hC,if_neg hC]
         |_=>rfl
       |_=>rfl
def mc2:Option V->Option (List V)->Option (List V)
 |some v,some l=>some (v::l)
 |_,_=>none
@[simp] theorem BBJ(v:V)(l:List V):mc2 (some v) (some l)=some (v::l):=rfl
@[simp] theorem BBK(f:cj->Option V):F2 f []=some []:=rfl
@[simp] theorem A2P(f:cj->Option V)(x:cj)(l:List cj):F2 f (x::l)=mc2 (f x) (F2 f l):=by
 simp only[F2];cases f x with
 |none=>rfl
 |some v=>cases F2 f l<;>rfl
def HT(E:XE)(d:Option Tmp)(st:XS)(f:cz)(args:List V):Option XS:=match E.cf f args st with
 |some (r,st')=>some ⟨st'.c,putD st'.fr d true r,st'.s⟩
 |none=>none
def ca1(E:XE)(d:Option Tmp)(st:XS):Option V->Option (List V)->Option XS
 |some (.fn f first cap),some vs=>HT E d st f ((first++vs++cap).map weakV)
 |some (.yld l q γ),some vs=>ca3 (E.cy l q γ vs st)
 |_,_=>none
where ca3:Option (V×XS)->Option XS
 |some (r,st')=>some ⟨st'.c,putD st'.fr d true r,st'.s⟩
 |none=>none
@[simp] theorem AXM(st:XS)(f:cz)(first cap vs:List V):ca1 E d st (some (.fn f first cap)) (some vs)=HT E d st f ((first++vs++cap).map weakV):=rfl
@[simp] theorem AO9(st:XS)(l q γ:Nat)(vs:List V):ca1 E d st (some (.yld l q γ)) (some vs)=ca1.ca3 d (E.cy l q γ vs st):=rfl
@[simp] theorem BBL(d:Tmp)(r:V):ca1.ca3 (some d) (some (r,⟨c,fr,s⟩))=some ⟨c,(d,true,r)::fr,s⟩:=rfl
theorem eT(st:XS)(f:cj)(args:List cj):RV E.cf E.cy d f args st=ca1 E d st (CP st.fr f) (F2 (CP st.fr) args):=by
 unfold RV;cases CP st.fr f with
 |none=>rfl
 |some v=>
  cases v with
  |fn f first cap=>
   simp only
   cases F2 (CP st.fr) args with
   |none=>rfl
   |some vs=>simp only[AXM,HT];cases E.cf f ((first++vs++cap).map weakV) st<;>rfl
  |yld l q γ=>
   simp only[vB]
   cases F2 (CP st.fr) args with
   |none=>rfl
   |some vs=>simp only[AO9];cases E.cy l q γ vs st<;>rfl
  |_=>rfl
@[simp] theorem AXN(f:cj)(args:List cj):C4 P E d (.call false none f args) ⟨c,fr,s⟩=ca1 E d ⟨c,fr,s⟩ (CP fr f) (F2 (CP fr) args):=eT d ⟨c,fr,s⟩ f args
@[simp] theorem ASG(t:Tmp)(f:cj)(args:List cj):C4 P E d (.call false (some t) f args) ⟨c,fr,s⟩=ca1 E d (eO (some t) ⟨c,fr,s⟩) (CP (eO (some t) ⟨c,fr,s⟩).fr f) (F2 (CP (eO (some t) ⟨c,fr,s⟩).fr) args):=eT d _ f args
def orK:Bool->Option V->Option V->Option V
 |true,some r,_=>some r
 |_,_,z=>z
@[simp] theorem BBM(r:V)(z:Option V):orK true (some r) z=some r:=rfl
@[simp] theorem BBN(b:Bool)(z:Option V):orK b z z=z:=by cases b<;>cases z<;>rfl
theorem rZ{P:ck}{kn:CF0}{rec:HJ}{f:cz}{args:List V}:GD P kn rec f args=orK (args.all (AG 9)) (A3 P kn rec f (args.map weakN)) (A3 P kn rec f args):=by unfold GD orK;cases A3 P kn rec f (args.map weakN)<;>cases args.all (AG 9)<;>rfl
attribute [simp] rZ
@[simp] theorem A2Q(k:cx)(n:Int):weakN (.int k n)=.int k n:=rfl
@[simp] theorem AXP(b:Bool):weakN (.bool b)=.bool b:=rfl
@[simp] theorem A2R(v:Value):weakN (.raw v)=.raw v:=rfl
@[simp] theorem AXQ(b:Bool)(es:List (List V)):weakN (.list b es)=.list b es:=rfl
@[simp] theorem A2S(cs:List V):weakN (.agg cs)=.agg (cs.map weakM):=rfl
@[simp] theorem A2T:weakN .nil=.list false []:=rfl
@[simp] theorem BBO(f:cz)(x y:List V):weakN (.fn f x y)=.fn f x y:=rfl
@[simp] theorem A2U(cs:List V):weakN (.ref cs)=.ref cs:=rfl
@[simp] theorem A2V(k:cx)(n:Int):weakM (.int k n)=.int k n:=rfl
@[simp] theorem AXR(b:Bool):weakM (.bool b)=.bool b:=rfl
@[simp] theorem AXS(b:Bool)(es:List (List V)):weakM (.list b es)=.list b es:=rfl
@[simp] theorem A2W:weakM .nil=.list false []:=rfl
@[simp] theorem BBP(f:cz)(x y:List V):weakM (.fn f x y)=.fn f x y:=rfl
@[simp] theorem A2X(cs:List V):weakM (.ref cs)=.ref cs:=rfl
theorem eU{A:Ann}{kn:CF0}{n:Nat}{f:cz}{args:List V}(h:args.all (AG 9)=true)(hh:BT P f=false)(st:XS):HT (BQ P A kn n) d st f args=EK d st (orK true (A3 P kn (AE P A kn n) f (args.map weakN)) (A3 P kn (AE P A kn n) f args)):=by
 have e:orK true (A3 P kn (AE P A kn n) f (args.map weakN)) (A3 P kn (AE P A kn n) f args)=GD P kn (AE P A kn n) f args:=by rw[rZ,h]
 rw[e];show(match dL P kn (AE P A kn n) f args st with
  |some (r,st')=>some (⟨st'.c,putD st'.fr d true r,st'.s⟩:XS)
  | none=>none)=_
 unfold dL;rw[h,hh];cases GD P kn (AE P A kn n) f args<;>rfl
end
@[simp] theorem BBQ(k:cx)(n:Int):weakV (.int k n)=.int k n:=rfl
@[simp] theorem A2Y(b:Bool):weakV (.bool b)=.bool b:=rfl
@[simp] theorem A2Z(b:Bool)(es:List (List V)):weakV (.list b es)=.list false es:=rfl
@[simp] theorem BBR(cs:List V):weakV (.agg cs)=.agg (cs.map weakC):=rfl
@[simp] theorem A20(k:cx)(n:Int):weakC (.int k n)=.int k n:=rfl
@[simp] theorem AXT(b:Bool):weakC (.bool b)=.bool b:=rfl
@[simp] theorem AXU(b:Bool)(es:List (List V)):weakC (.list b es)=.list false es:=rfl
@[simp] theorem A21:weakC .nil=.nil:=rfl
@[simp] theorem BBS:weakV .nil=.nil:=rfl
@[simp] theorem BFX(f:cz)(x y:List V):weakV (.fn f x y)=.fn f x y:=rfl
@[simp] theorem AXV(f:Nat)(k:cx)(n:Int):AG (f+1) (.int k n)=true:=rfl
@[simp] theorem ASH(f:Nat)(b:Bool):AG (f+1) (.bool b)=true:=rfl
@[simp] theorem AXW(f:Nat):AG (f+1) .nil=true:=rfl
@[simp] theorem AXX(f:Nat)(cs:List V):AG (f+1) (.agg cs)=cs.all (AG f):=rfl
@[simp] theorem AXY(f:Nat)(cs:List V):AG (f+1) (.tup cs)=cs.all (AG f):=rfl
@[simp] theorem AXZ(f:Nat)(cs:List V):AG (f+1) (.ref cs)=cs.all (AG f):=rfl
@[simp] theorem ASI(f:Nat)(b:Bool)(es:List (List V)):AG (f+1) (.list b es)=es.all fun e=>e.all (AG f):=rfl
@[simp] theorem A22(f:Nat)(g:cz)(x y:List V):AG (f+1) (.fn g x y)=(x.all (AG f)&&y.all (AG f)):=rfl
section
variable (r:cj->Option V)
def o1(f:V->Option V):Option V->Option V
 |some v=>f v
 |none=>none
@[simp] theorem BFY(f:V->Option V)(v:V):o1 f (some v)=f v:=rfl
def o2(f:V->V->Option V):Option V->Option V->Option V
 |some a,some b=>f a b
 |_,_=>none
@[simp] theorem BFZ(f:V->V->Option V)(a b:V):o2 f (some a) (some b)=f a b:=rfl
theorem V2(f:V->Option V)(x:Option V):x.bind f=o1 f x:=by cases x<;>rfl
theorem mG(f:V->V->Option V)(x y:Option V):(x.bind fun a=>y.bind fun b=>f a b)=o2 f x y:=by cases x<;>cases y<;>rfl
@[simp] theorem BK5(op:UnOp)(T:bp)(x:cj):JX P (mW (.unOp op T x)) s r=o1 (fQ op) (r x):=V2 _ _
@[simp] theorem BBT(T U:bp)(x:cj):JX P (mW (.convert T U x)) s r=o1 (L9 P T U) (r x):=V2 _ _
@[simp] theorem BBU(T:bp)(x i:cj):JX P (mW (.indexAddr T x i)) s r=o2 (BW P s T) (r x) (r i):=mG _ _ _
@[simp] theorem A23(T:bp)(x:cj)(f:Nat):JX P (mW (.field T x f)) s r=o1 (fun a=>JE P T a f) (r x):=V2 _ _
@[simp] theorem BF0(x:cj)(i:Nat):JX P (mW (.extract x i)) s r=o1 (fun a=>GK a i) (r x):=V2 _ _
@[simp] theorem BF1(x:cj)(T:bp):JX P (mW (.call ⟨.builtin .len,#[x],#[T]⟩)) s r=o1 (IQ P T) (r x):=V2 _ _
end
@[simp] theorem BBV(b:Bool):fQ .not (.bool b)=some (.bool !b):=rfl
@[simp] theorem BBW(k:cx)(n:Int):fQ .neg (.int k n)=some (.int k (k.wrap (0-n))):=rfl
@[simp] theorem AK9(vs:List V)(i:Nat):GK (.tup vs) i=vs[i]?:=rfl
@[simp] theorem BK6(up:List AA)(loc:AA)(l k g:Nat)(r:AZ):St.put ⟨up,loc⟩ l k g r=if l=up.length then⟨up,(k,g,r)::loc⟩ else⟨up.modify l fun L=>L.put k g r,loc⟩:=rfl
def upG(k:Nat):Option AA->Option (Nat×AZ)
 |some L=>L.get k
 |none=>none
@[simp] theorem BBX(k:Nat)(L:AA):upG k (some L)=L.get k:=rfl
@[simp] theorem AKF(up:List AA)(loc:AA)(l k:Nat):St.get ⟨up,loc⟩ l k=if l=up.length then loc.get k else upG k up[l]?:=rfl
def kx(k:Nat)(r:Fr):Option (Bool×V)->Fr
 |some (c,v)=>(k,c,v)::r
 |none=>r
@[simp] theorem BF2(k:Nat)(r:Fr)(c:Bool)(v:V):kx k r (some (c,v))=(k,c,v)::r:=rfl
@[simp] theorem BF3(k:Nat)(r:Fr):kx k r none=r:=rfl
@[simp] theorem A24:RY [] fr=[]:=rfl
@[simp] theorem AX0(k:Nat)(ks:List Nat):RY (k::ks) fr=kx k (RY ks fr) (BJ fr k):=by show(match BJ fr k with|some (c,v)=>(k,c,v)::RY ks fr|none=>RY ks fr)=_;cases BJ fr k<;>rfl
def kl(k:Nat)(r:AA):Option (Nat×AZ)->AA
 |some (g,x)=>(k,g,x)::r
 |none=>r
@[simp] theorem BF4(k:Nat)(r:AA)(g:Nat)(x:AZ):kl k r (some (g,x))=(k,g,x)::r:=rfl
@[simp] theorem BF5(k:Nat)(r:AA):kl k r none=r:=rfl
@[simp] theorem A25(L:AA):JO [] L=[]:=rfl
@[simp] theorem AX1(k:Nat)(ks:List Nat)(L:AA):JO (k::ks) L=kl k (JO ks L) (L.get k):=by unfold kl;simp only[JO];cases L.get k<;>rfl
@[simp] theorem BBY(ks ls:List Nat)(c:Nat)(fr:Fr)(up:List AA)(loc:AA):CO (some (ks,ls)) ⟨c,fr,⟨up,loc⟩⟩=⟨c,RY ks fr,⟨up,JO ls loc⟩⟩:=rfl
@[simp] theorem AX2:CO none st=st:=rfl
@[simp] theorem BK7:QW (some st)=some (.normal,st):=rfl
@[simp] theorem BBZ:QW none=none:=rfl
@[simp] theorem BF6(c:Prop)[Decidable c](x y:Option XS):QW (if c then x else y)=if c then QW x else QW y:=by split<;>rfl
@[simp] theorem BB0(l:List JU):KA P E (.str l) st=P5 P E l (some st):=rfl
@[simp] theorem BB1(S:List rU):KA P E (.drw S) st=XO P E S (some st):=rfl
@[simp] theorem BB2(ks:List (Nat×Nat×Nat)):KA P E (.cls ks) st=S8 P ks (some st):=rfl
@[simp] theorem BB3(o:Option XS):S8 P [] o=o:=rfl
@[simp] theorem A26(T a d:Nat)(r:List (Nat×Nat×Nat))(st:XS):S8 P ((T,a,d)::r) (some st)=S8 P r (if vU (CP st.fr (.tmp a))=true then EK (some d) st (OI P st.fr st.s T (.tmp a)) else none):=by
 show S8 P r (Bool.rec _ _ (vU (CP st.fr (.tmp a))))=_;cases vU (CP st.fr (.tmp a))with
 |false=>rfl
 |true=>
  simp only[if_true]
  congr 1
@[simp] theorem BB4(l k g o:Nat):vU (some (.ptr l k g o))=true:=rfl
@[simp] theorem BB5(rs:List ResultVar):Y9 P rs (some (.ret,st))=Y9.finV st.s (F8 P rs st.fr st.s):=rfl
@[simp] theorem ASJ(rs:List ResultVar):Y9 P rs (some (.normal,st))=Y9.finV st.s (F8 P rs st.fr st.s):=rfl
def AX3:Option V->Option V
 |some r=>if AG 9 r=true then some r else none
 |none=>none
@[simp] theorem A27(r:V):AX3 (some r)=if AG 9 r=true then some r else none:=rfl
@[simp] theorem A28(v:V):Y9.finV s (some v)=AX3 (A4 s 4 v):=by
 unfold Y9.finV AX3;simp only;cases A4 s 4 v with
 |none=>rfl
 |some r=>simp only[ifB]
@[simp] theorem AX4(t:Tmp):CW P fr s (.tmp t)=rdT (BJ fr t):=by
 rw[FY];show(match fr.get t with
  |some (true,v)=>some v
  | _=>none)=_
 cases fr.get t with
 |none=>rfl
 |some p=>obtain⟨c,v⟩:=p;cases c<;>rfl
@[simp] theorem BB6(x:ResultVar):F8 P [x] fr s=CW P fr s x:=by unfold F8;simp only[bz,bh];cases CW P fr s x<;>rfl
def re2:Option V->Option V->Option V
 |some a,some b=>some (.tup [a,b])
 |_,_=>none
@[simp] theorem BB7(a b:V):re2 (some a) (some b)=some (.tup [a,b]):=rfl
@[simp] theorem BB8(x y:ResultVar):F8 P [x,y] fr s=re2 (CW P fr s x) (CW P fr s y):=by unfold F8;simp only[bz,bh];cases CW P fr s x<;>cases CW P fr s y<;>rfl
def re3:Option V->Option V->Option V->Option V
 |some a,some b,some c=>some (.tup [a,b,c])
 |_,_,_=>none
@[simp] theorem BB9(a b c:V):re3 (some a) (some b) (some c)=some (.tup [a,b,c]):=rfl
@[simp] theorem AX5(x y z:ResultVar):F8 P [x,y,z] fr s=re3 (CW P fr s x) (CW P fr s y) (CW P fr s z):=by unfold F8;simp only[bz,bh];cases CW P fr s x<;>cases CW P fr s y<;>cases CW P fr s z<;>rfl
@[simp] theorem AX6(f:Nat)(k:cx)(n:Int):A4 s (f+1) (.int k n)=some (.int k n):=rfl
@[simp] theorem ASK(f:Nat)(b:Bool):A4 s (f+1) (.bool b)=some (.bool b):=rfl
@[simp] theorem AX7(f:Nat):A4 s (f+1) .nil=some .nil:=rfl
@[simp] theorem ASL(f:Nat)(b:Bool)(es:List (List V)):A4 s (f+1) (.list b es)=some (.list false es):=rfl
def mH(mk:List V->V):Option (List V)->Option V
 |some l=>some (mk l)
 |none=>none
@[simp] theorem BCA(mk:List V->V)(l:List V):mH mk (some l)=some (mk l):=rfl
def RK(f:V->Option V):List V->Option (List V)
 |[]=>some []
 |v::l=>mc2 (f v) (RK f l)
theorem V3(f:V->Option V):∀(l:List V),l.mapM f=RK f l
 |[]=>rfl
 |v::l=>by simp only[bz,RK,V3 f l];cases f v<;>cases RK f l<;>rfl
@[simp] theorem BCB(f:V->Option V):RK f []=some []:=rfl
@[simp] theorem A29(f:V->Option V)(v:V)(l:List V):RK f (v::l)=mc2 (f v) (RK f l):=rfl
@[simp] theorem AX8(f:Nat)(cs:List V):A4 s (f+1) (.agg cs)=mH .agg (RK (A4 s f) cs):=by simp only[A4,V3];cases RK (A4 s f) cs<;>rfl
@[simp] theorem AX9(f:Nat)(cs:List V):A4 s (f+1) (.tup cs)=mH .tup (RK (A4 s f) cs):=by simp only[A4,V3];cases RK (A4 s f) cs<;>rfl
def cv1(g m:Nat):Option (Nat×AZ)->Option V
 |some (g',.vec _ es)=>if g'=g/\m<=es.length then some (.list false (es.take m)) else none
 |_=>none
@[simp] theorem AKG(g m g':Nat)(T:bp)(es:List (List V)):cv1 g m (some (g',.vec T es))=if g'=g/\m<=es.length then some (.list false (es.take m)) else none:=rfl
@[simp] theorem eV(f:Nat)(up:List AA)(loc:AA)(l k g m:Nat):A4 ⟨up,loc⟩ (f+1) (.vec l k g m)=if l=up.length then cv1 g m (loc.get k) else some (.vec l k g m):=by
 simp only[A4];split
 ·cases loc.get k with
  |none=>rfl
  |some z=>obtain⟨g',r⟩:=z;cases r<;>rfl
 ·rfl
@[simp] theorem ASM(t:Nat)(T:bp):CW P fr s (.cell t T)=ld1 P s T (rdT (BJ fr t)):=by
 rw[FY];show(match fr.get t with
  |some (true,p)=>(BD s p).bind (BN P T)
  | _=>none)=_
 cases fr.get t with
 |none=>rfl
 |some p=>
  obtain⟨c,v⟩:=p
  cases c with
  |false=>rfl
  |true=>
   simp only[AKA,AKB]
   cases BD s v<;>rfl
section
variable (d:Option Tmp)(c:Nat)
@[simp] theorem BCC(r:Option XS):XO P E [] r=r:=rfl
@[simp] theorem A3A(p:rU)(S:List rU)(r:Option XS):XO P E (p::S) r=XO P E S (P5 P E p.sq (eQ (XN P E p.ph (AJX p.new r)))):=rfl
@[simp] theorem BCD(r:Option (XS×AL×AL)):XN P E [] r=r:=rfl
@[simp] theorem A3B(i:JU)(l:List JU)(r:Option (XS×AL×AL)):XN P E (i::l) r=XN P E l (rT P E i r):=rfl
@[simp] theorem BF7(new:List Tmp)(up:List AA)(loc:AA):AJX new (some ⟨c,fr,⟨up,loc⟩⟩)=if (new.all fun d=>(loc.get d).isNone)=true then some (⟨c,fr,⟨up,loc⟩⟩,[],[]) else none:=by show(Bool.rec none _ _:Option _)=_;rw[ifB];rfl
@[simp] theorem A3C(rd wr:AL):eQ (some (st,rd,wr))=if (wr.all fun p=>!(rd.contains p))=true then some st else none:=by show(Bool.rec none _ _:Option _)=_;rw[ifB]
@[simp] theorem A3D:eQ none=none:=rfl
@[simp] theorem BCE(c:Prop)[Decidable c](x y:Option (XS×AL×AL)):eQ (if c then x else y)=if c then eQ x else eQ y:=by split<;>rfl
@[simp] theorem A3E(i:JU):rT P E i none=none:=rfl
@[simp] theorem BCF(i:JU)(c:Prop)[Decidable c](x y:Option (XS×AL×AL)):rT P E i (if c then x else y)=if c then rT P E i x else rT P E i y:=by split<;>rfl
@[simp] theorem BCG(l:List JU)(c:Prop)[Decidable c](x y:Option (XS×AL×AL)):XN P E l (if c then x else y)=if c then XN P E l x else XN P E l y:=by split<;>rfl
@[simp] theorem BCH(l:List rU)(c:Prop)[Decidable c](x y:Option XS):XO P E l (if c then x else y)=if c then XO P E l x else XO P E l y:=by split<;>rfl
def ph3(rds rd wr:AL):Option (XS×AL)->Option (XS×AL×AL)
 |some (st,w)=>some (st,rds++rd,w++wr)
 |none=>none
@[simp] theorem BCI(rds rd wr w:AL):ph3 rds rd wr (some (st,w))=some (st,rds++rd,w++wr):=rfl
@[simp] theorem BCJ(rds rd wr:AL):ph3 rds rd wr none=none:=rfl
@[simp] theorem BF8(rds rd wr:AL)(c:Prop)[Decidable c](x y:Option (XS×AL)):ph3 rds rd wr (if c then x else y)=if c then ph3 rds rd wr x else ph3 rds rd wr y:=by split<;>rfl
@[simp] theorem A3G(i:JU)(rd wr:AL):rT P E i (some (st,rd,wr))=ph3 (II P i.k (CP st.fr)) rd wr (XM P E i st):=by show(match XM P E i st with|some (st',w)=>some (st',II P i.k (CP st.fr)++rd,w++wr)|none=>none)=_;cases XM P E i st<;>rfl
@[simp] theorem A3H(k:IK):XM P E ⟨none,d,k⟩ st=DS P E d k st:=rfl
def gI0(P:ck)(E:XE)(d:Option Tmp)(k:IK)(st:XS)(w:Bool)(r:Option (Bool×V)):Option (XS×AL):=match r with
 |some (c,.bool b)=>if (c&&(b==w))=true then DS P E d k st else if DB k=true then none else some (IU d st,[])
 |_=>none
@[simp] theorem AYA(t:Tmp)(w:Bool)(k:IK):XM P E ⟨some (t,w),d,k⟩ st=gI0 P E d k st w (BJ st.fr t):=by
 show(match(match BJ st.fr t with | some (c,.bool b)=>some (c&&(b == w)) | _=>none:Option Bool)with
  |some true=>DS P E d k st
  |some false=>Bool.rec (some (IU d st,[])) none (DB k)
  | none=>none)=_
 unfold gI0;cases BJ st.fr t with
 |none=>rfl
 |some p=>
  obtain⟨c,v⟩:=p
  cases v with
  |bool b=>cases h:(c&&(b==w))<;>simp[h,ifB]
  |_=>rfl
@[simp] theorem BCK(k:IK)(w c b:Bool):gI0 P E d k st w (some (c,.bool b))=if (c&&(b==w))=true then DS P E d k st else if DB k=true then none else some (IU d st,[]):=rfl
@[simp] theorem BK9(T:bp)(x:cj)(f:cj->Option V):II P (.ld T x) f=BV (bx (P.cellsOf T) 1) (f x):=rfl
@[simp] theorem AYB(x y:cj)(f:cj->Option V):KY f [x,y]=FP (f y):=rfl
@[simp] theorem APA(b:Bool)(es:List (List V)):FP (some (.list b es))=[]:=rfl
@[simp] theorem ASN:FP (some .nil)=[]:=rfl
@[simp] theorem ASO(l k γ n:Nat):FP (some (.vec l k γ n))=[(l,k)]:=rfl
@[simp] theorem BLA(x:cj)(f:cj->Option V):II P (.mv x) f=[]:=rfl
@[simp] theorem BF9(op:BinOp)(T:bp)(x y:cj)(f:cj->Option V):II P (.bin op T x y) f=[]:=rfl
@[simp] theorem BLB(T:bp)(x:cj)(i:Nat)(f:cj->Option V):II P (.fa T x i) f=[]:=rfl
@[simp] theorem BCL(x y z:cj)(f:cj->Option V):II P (.pick x y z) f=[]:=rfl
@[simp] theorem A3I(T:bp)(ps:List (Nat×cj))(f:cj->Option V):II P (.build T ps) f=[]:=rfl
@[simp] theorem AYC(T:bp)(n:Nat)(ps:List (Nat×cj))(f:cj->Option V):II P (.buildS T n ps) f=[]:=rfl
@[simp] theorem A3J(T:bp)(f:cj->Option V):II P (.alloc T) f=[]:=rfl
@[simp] theorem BGA(x:cj)(f:cj->Option V):II P (.box x) f=[]:=rfl
@[simp] theorem BGB(T:bp)(x y:cj)(f:cj->Option V):II P (.sto T x y) f=[]:=rfl
@[simp] theorem BGC(x:List cj)(y:List bp)(f:cj->Option V):II P (.app x y) f=KY f x:=rfl
@[simp] theorem BCM(b:Bool)(t:Option Tmp)(g:cj)(x:List cj)(f:cj->Option V):II P (.call b t g x) f=[]:=rfl
@[simp] theorem BCN(T:bp)(x i:cj)(f:cj->Option V):II P (.oth (.indexAddr T x i)) f=KX (f x):=rfl
@[simp] theorem BLC(op:UnOp)(T:bp)(x:cj)(f:cj->Option V):II P (.oth (.unOp op T x)) f=[]:=rfl
@[simp] theorem BGD(x:cj)(i:Nat)(f:cj->Option V):II P (.oth (.extract x i)) f=[]:=rfl
@[simp] theorem BGE(x:cj)(T:bp)(b:Builtin)(f:cj->Option V):II P (.oth (.call ⟨.builtin b,#[x],#[T]⟩)) f=[]:=by cases b<;>rfl
@[simp] theorem BLD(g:Fn)(x y:Array cj)(f:cj->Option V):II P (.oth (.makeFunc g x y)) f=[]:=rfl
def nw:Option XS->Option (XS×AL)
 |some st=>some (st,[])
 |none=>none
@[simp] theorem BGF:nw (some st)=some (st,[]):=rfl
@[simp] theorem BGG:nw none=none:=rfl
@[simp] theorem BLE(c:Prop)[Decidable c](x y:Option XS):nw (if c then x else y)=if c then nw x else nw y:=by split<;>rfl
theorem HK(r:Option XS):VQ r=nw r:=by cases r<;>rfl
@[simp] theorem BCO(x:cj):DS P E d (.mv x) st=nw (C4 P E d (.mv x) st):=HK _
@[simp] theorem A3K(op:BinOp)(T:bp)(x y:cj):DS P E d (.bin op T x y) st=nw (C4 P E d (.bin op T x y) st):=HK _
@[simp] theorem BCP(T:bp)(x:cj)(f:Nat):DS P E d (.fa T x f) st=nw (C4 P E d (.fa T x f) st):=HK _
@[simp] theorem A3L(T:bp)(x:cj):DS P E d (.ldz T x) st=DS P E d (.ld T x) st:=rfl
@[simp] theorem A3M(T:bp)(x:cj):C4 P E d (.ldz T x) st=C4 P E d (.ld T x) st:=rfl
@[simp] theorem BGH(T:bp)(x:cj)(f:cj->Option V):II P (.ldz T x) f=[]:=rfl
@[simp] theorem BCQ(T:bp)(x:cj):DS P E d (.ld T x) st=nw (C4 P E d (.ld T x) st):=HK _
@[simp] theorem AYD(x y z:cj):DS P E d (.pick x y z) st=nw (C4 P E d (.pick x y z) st):=HK _
@[simp] theorem ASP(T:bp)(ps:List (Nat×cj)):DS P E d (.build T ps) st=nw (C4 P E d (.build T ps) st):=HK _
@[simp] theorem APB(T:bp)(n:Nat)(ps:List (Nat×cj)):DS P E d (.buildS T n ps) st=nw (C4 P E d (.buildS T n ps) st):=HK _
@[simp] theorem A3N(op:Op):DS P E d (.oth op) st=nw (C4 P E d (.oth op) st):=HK _
@[simp] theorem ASQ(T:bp):DS P E d (.alloc T) st=nw (C4 P E d (.alloc T) st):=HK _
@[simp] theorem A3O(x:cj):DS P E d (.box x) st=nw (C4 P E d (.box x) st):=HK _
@[simp] theorem A3P(x:Option cj):DS P E d (.mkM x) st=nw (C4 P E d (.mkM x) st):=HK _
@[simp] theorem A3Q(T:bp)(x y:cj):DS P E d (.mkS T x y) st=nw (C4 P E d (.mkS T x y) st):=HK _
def wp(p:AL):Option XS->Option (XS×AL)
 |some st=>some (st,p)
 |none=>none
@[simp] theorem BGI(p:AL):wp p (some st)=some (st,p):=rfl
@[simp] theorem BGJ(p:AL):wp p none=none:=rfl
@[simp] theorem BLF(p:AL)(c:Prop)[Decidable c](x y:Option XS):wp p (if c then x else y)=if c then wp p x else wp p y:=by split<;>rfl
@[simp] theorem A3R(T:bp)(x y:cj):DS P E d (.sto T x y) st=wp (B8 (bx (P.cellsOf T) 1) (CP st.fr x)) (C4 P E d (.sto T x y) st):=by show(match J0 P d T x y st with|some st'=>some (st',B8 (bx (P.cellsOf T) 1) (CP st.fr x))|none=>none)=wp _ (J0 P d T x y st);cases J0 P d T x y st<;>rfl
@[simp] theorem BCR(x:Option V):BV false x=BF x:=by cases x<;>rfl
@[simp] theorem AYE(l k g o:Nat):BV true (some (.ptr l k g o))=[(l,k+2000000),(l,k+4000000),(l,6000000+1000*k+o)]:=rfl
@[simp] theorem ASR(l k g i o:Nat):BV true (some (.eptr l k g i o))=[(l,k+2000000),(l,k+4000000),(l,6000000+1000*k+o)]:=rfl
@[simp] theorem AYF(b:Bool)(cs:List V):BV b (some (.ref cs))=[]:=by cases b<;>rfl
@[simp] theorem AYG(l k g o:Nat):B8 true (some (.ptr l k g o))=[(l,k),(l,6000000+1000*k+o)]:=rfl
@[simp] theorem ASS(l k g i o:Nat):B8 true (some (.eptr l k g i o))=[(l,k),(l,6000000+1000*k+o)]:=rfl
@[simp] theorem AST(l k g o:Nat):B8 false (some (.ptr l k g o))=[(l,k),(l,k+4000000)]:=rfl
@[simp] theorem APC(l k g i o:Nat):B8 false (some (.eptr l k g i o))=[(l,k),(l,k+4000000)]:=rfl
@[simp] theorem ASU(l k g o:Nat):BF (some (.ptr l k g o))=[(l,k)]:=rfl
@[simp] theorem APD(l k g i o:Nat):BF (some (.eptr l k g i o))=[(l,k)]:=rfl
@[simp] theorem ASV(cs:List V):BF (some (.ref cs))=[]:=rfl
@[simp] theorem AYH(l k g o:Nat):KX (some (.ptr l k g o))=[]:=rfl
@[simp] theorem AYI(l k g n:Nat):KX (some (.vec l k g n))=[(l,k+GU)]:=rfl
@[simp] theorem ASW(b:Bool)(es:List (List V)):KX (some (.list b es))=[]:=rfl
@[simp] theorem AYJ(cs:List V):KX (some (.ref cs))=[]:=rfl
def c01(E:XE)(d:Option Tmp)(st:XS):Option V->Option (List V)->Option XS
 |some (.fn f first cap),some vs=>EK d st (E.c0 f ((first++vs++cap).map weakV))
 |_,_=>none
@[simp] theorem AYK(f:cz)(first cap vs:List V):c01 E d st (some (.fn f first cap)) (some vs)=EK d st (E.c0 f ((first++vs++cap).map weakV)):=rfl
@[simp] theorem AYL(t:Option Tmp)(f:cj)(args:List cj):DS P E d (.call false t f args) ⟨c,fr,s⟩=nw (c01 E d ⟨c,fr,s⟩ (CP fr f) (F2 (CP fr) args)):=by
 show VQ (dI E.c0 d f args ⟨c,fr,s⟩)=_;rw[HK];congr 1;unfold dI;cases hf:CP fr f with
 |none=>simp only[c01]
 |some v=>
  cases v with
  |fn g first cap=>
   simp only
   cases hm:F2 (CP fr) args with
   |none=>simp only[c01]
   |some vs=>
    simp only[AYK]
    cases E.c0 g ((first++vs++cap).map weakV)<;>rfl
  |_=>simp only[c01]
@[simp] theorem BLG{A:Ann}{kn:CF0}{n:Nat}:(BQ P A kn n).c0=GD P kn (AE P A kn n):=rfl
end
theorem wJ{A:Ann}{kn:CF0}{n N:Nat}(a b:cw):qU (AE P A kn n N) a b st (some (.bool true))=AE P A kn n N a st:=rfl
theorem sA{A:Ann}{kn:CF0}{n N:Nat}(a b:cw):qU (AE P A kn n N) a b st (some (.bool false))=AE P A kn n N b st:=rfl
attribute [simp] AJ5 wG ADU AJ3 ADQ wE ADR ADS ADT AJ4 wF rW AJ6 ADV AJ7 gM wH rX wI wJ sA AJ9
end Go.Pg
namespace Go.Pg
variable {P:ck}{E:XE}{st:XS}{fr:Fr}{s:St}
@[simp] theorem AYM(k:cx)(n:Int):BA (.int k n)=[.int k n]:=rfl
@[simp] theorem ASX(b:Bool):BA (.bool b)=[.bool b]:=rfl
@[simp] theorem AYN(cs:List V):BA (.agg cs)=cs:=rfl
@[simp] theorem ASY(b:Bool)(es:List (List V)):BA (.list b es)=[.list b es]:=rfl
@[simp] theorem AYO:BA .nil=[.nil]:=rfl
@[simp] theorem AYP(l k g n:Nat):BA (.vec l k g n)=[.vec l k g n]:=rfl
@[simp] theorem A3S(l k g:Nat):BA (.mp l k g)=[.mp l k g]:=rfl
@[simp] theorem A3T(f:cz)(x y:List V):BA (.fn f x y)=[.fn f x y]:=rfl
@[simp] theorem AYQ(l k g n:Nat):BA (.ptr l k g n)=[.ptr l k g n]:=rfl
@[simp] theorem AYR(cs:List V):BA (.ref cs)=[.ref cs]:=rfl
@[simp] theorem AYS(k:cx)(n:Int):BE (.int k n)=true:=rfl
@[simp] theorem ASZ(b:Bool):BE (.bool b)=true:=rfl
@[simp] theorem AYT(cs:List V):BE (.agg cs)=true:=rfl
@[simp] theorem AS0(b:Bool)(es:List (List V)):BE (.list b es)=true:=rfl
@[simp] theorem AYU:BE .nil=true:=rfl
@[simp] theorem AYV(l k g n:Nat):BE (.vec l k g n)=true:=rfl
@[simp] theorem A3U(l k g:Nat):BE (.mp l k g)=true:=rfl
@[simp] theorem A3V(f:cz)(x y:List V):BE (.fn f x y)=true:=rfl
@[simp] theorem AYW(l k g n:Nat):BE (.ptr l k g n)=true:=rfl
@[simp] theorem AYX(cs:List V):BE (.ref cs)=true:=rfl
@[simp] theorem A3W(op:BinOp)(T:bp)(k j:cx)(a b:Int):GZ P op T (.int k a) (.int j b)=if k=j then FB op k a b else bL op k a b:=rfl
@[simp] theorem BCT(k:cx)(a b:Int):bL .shl k a b=if b<0 then none else some (.int k (k.wrap (a*2 ^ (min b.toNat k.bits)))):=rfl
@[simp] theorem V4(k:cx)(a b:Int):bL .shr k a b=if b<0 then none else some (.int k (a.fdiv (2 ^ (min b.toNat k.bits)))):=rfl
section
variable (k:cx)(a b:Int)
@[simp] theorem A3X:FB .add k a b=some (.int k (k.wrap (a+b))):=rfl
@[simp] theorem A3Y:FB .sub k a b=some (.int k (k.wrap (a-b))):=rfl
@[simp] theorem A3Z:FB .mul k a b=some (.int k (k.wrap (a*b))):=rfl
@[simp] theorem A30:FB .quo k a b=if b=0 then none else some (.int k (k.wrap (a.tdiv b))):=rfl
@[simp] theorem A31:FB .rem k a b=if b=0 then none else some (.int k (a.tmod b)):=rfl
@[simp] theorem A32:FB .and k a b=some (.int k (k.wrap (BitVec.ofInt k.bits a &&& BitVec.ofInt k.bits b).toNat)):=rfl
@[simp] theorem BCU:FB .or k a b=some (.int k (k.wrap (BitVec.ofInt k.bits a ||| BitVec.ofInt k.bits b).toNat)):=rfl
@[simp] theorem APE:FB .andNot k a b=some (.int k (k.wrap (BitVec.ofInt k.bits a &&& ~~~ BitVec.ofInt k.bits b).toNat)):=rfl
@[simp] theorem A33:FB .shl k a b=if b<0 then none else some (.int k (k.wrap (a*2 ^ (min b.toNat k.bits)))):=rfl
@[simp] theorem A34:FB .shr k a b=if b<0 then none else some (.int k (a.fdiv (2 ^ (min b.toNat k.bits)))):=rfl
@[simp] theorem A35:FB .eql k a b=some (.bool (decide (a=b))):=by show some (V.bool (a==b))=_;congr 2
@[simp] theorem A36:FB .neq k a b=some (.bool (!decide (a=b))):=by show some (V.bool (a != b))=_;congr 2
@[simp] theorem A37:FB .lss k a b=some (.bool (decide (a<b))):=rfl
@[simp] theorem A38:FB .leq k a b=some (.bool (decide (a<=b))):=rfl
@[simp] theorem A39:FB .gtr k a b=some (.bool (decide (b<a))):=rfl
@[simp] theorem A4A:FB .geq k a b=some (.bool (decide (b<=a))):=rfl
end
theorem AV{x:Int}(h1:-9223372036854775808<=x)(h2:x<9223372036854775808):IntKind.i64.wrap x=x:=by simp only[IntKind.wrap,IntKind.bits,IntKind.signed];simp;omega
@[simp] theorem AS1(T:bp)(a b:Bool):GZ P .eql T (.bool a) (.bool b)=if yR P T=true then some (.bool (a==b)) else none:=rfl
@[simp] theorem AS2(T:bp)(a b:Bool):GZ P .neq T (.bool a) (.bool b)=if yR P T=true then some (.bool (a != b)) else none:=rfl
def bl1(f:Bool->Bool):Option Bool->Option V
 |some b=>some (.bool (f b))
 |none=>none
@[simp] theorem BCV(f:Bool->Bool)(b:Bool):bl1 f (some b)=some (.bool (f b)):=rfl
@[simp] theorem AYY(T:bp)(cs ds:List V):GZ P .eql T (.agg cs) (.agg ds)=bl1 (fun b=>b) (SM P T cs ds):=by show(SM P T cs ds).map V.bool=_;cases SM P T cs ds<;>rfl
@[simp] theorem AYZ(T:bp)(cs ds:List V):GZ P .neq T (.agg cs) (.agg ds)=bl1 (fun b=>!b) (SM P T cs ds):=by show(SM P T cs ds).map (fun b=>V.bool !b)=_;cases SM P T cs ds<;>rfl
def faP(P:ck)(x:V):Option (bp×Nat)->Option V
 |some (U,off)=>if P.cellsOf U=0 then none else match x with
  |.ref cs=>some (.ref (cs.drop off))
  |.ptr l k g o=>some (.ptr l k g (o+off))
  |.eptr l k g i o=>some (.eptr l k g i (o+off))
  |_=>none
 |none=>none
@[simp] theorem BGK(T:bp)(x:V)(f:Nat):DG P T x f=faP P x (A1 P T f):=by unfold DG faP;cases A1 P T f<;>rfl
@[simp] theorem BGL(U:bp)(off:Nat)(cs:List V):faP P (.ref cs) (some (U,off))=if P.cellsOf U=0 then none else some (.ref (cs.drop off)):=rfl
@[simp] theorem BGM(U:bp)(off l k g o:Nat):faP P (.ptr l k g o) (some (U,off))=if P.cellsOf U=0 then none else some (.ptr l k g (o+off)):=rfl
@[simp] theorem BCX(U:bp)(off l k g i o:Nat):faP P (.eptr l k g i o) (some (U,off))=if P.cellsOf U=0 then none else some (.eptr l k g i (o+off)):=rfl
def fd1(P:ck)(x:V):Option (bp×Nat)->Option V
 |some (U,off)=>match x with
  |.agg cs=>MT P U cs off
  |_=>none
 |none=>none
@[simp] theorem AY0(T:bp)(x:V)(f:Nat):JE P T x f=fd1 P x (A1 P T f):=by unfold JE fd1;cases x<;>cases A1 P T f<;>rfl
@[simp] theorem BGN(U:bp)(off:Nat)(cs:List V):fd1 P (.agg cs) (some (U,off))=MT P U cs off:=rfl
def cb(g off:Nat):Option (Nat×AZ)->Option (List V)
 |some (g',.box cs)=>if g'=g then some (cs.drop off) else none
 |_=>none
@[simp] theorem BGO(g g' off:Nat)(cs:List V):cb g off (some (g',.box cs))=if g'=g then some (cs.drop off) else none:=rfl
def ce(g i off:Nat):Option (Nat×AZ)->Option (List V)
 |some (g',.vec _ es)=>if g'=g then(es[i]?).map (·.drop off) else none
 |_=>none
@[simp] theorem BGP(g g' i off:Nat)(T:bp)(es:List (List V)):ce g i off (some (g',.vec T es))=if g'=g then(es[i]?).map (·.drop off) else none:=rfl
@[simp] theorem AS3(cs:List V):BD s (.ref cs)=some cs:=rfl
@[simp] theorem AS4(l k g off:Nat):BD s (.ptr l k g off)=cb g off (s.get l k):=by
 unfold cb;simp only[BD];cases s.get l k with
 |none=>rfl
 |some z=>obtain⟨g',r⟩:=z;cases r<;>rfl
@[simp] theorem APF(l k g i off:Nat):BD s (.eptr l k g i off)=ce g i off (s.get l k):=by
 unfold ce;simp only[BD];cases s.get l k with
 |none=>rfl
 |some z=>obtain⟨g',r⟩:=z;cases r<;>rfl
def iv(P:ck)(e:bp)(l k g n:Nat)(j:Int):Option (Nat×AZ)->Option V
 |some (g',.vec _ es)=>if g'=g/\0<=j/\j<n/\n<=es.length/\(es.getD j.toNat []).length=P.cellsOf e/\0<P.cellsOf e then some (.eptr l k g j.toNat 0) else none
 |_=>none
@[simp] theorem BGQ(e:bp)(l k g g' n:Nat)(j:Int)(T:bp)(es:List (List V)):iv P e l k g n j (some (g',.vec T es))=if g'=g/\0<=j/\j<n/\n<=es.length/\(es.getD j.toNat []).length=P.cellsOf e/\0<P.cellsOf e then some (.eptr l k g j.toNat 0) else none:=rfl
def ia(P:ck)(s:St)(x i:V):Option (Option Nat×bp)->Option V
 |some (none,e)=>match x,i with
  |.list _ es,.int _ j=>if 0<=j/\j<es.length/\(es.getD j.toNat []).length=P.cellsOf e/\0<P.cellsOf e then some (.ref (es.getD j.toNat [])) else none
  |.vec l k g n,.int _ j=>iv P e l k g n j (s.get l k)
  |_,_=>none
 |some (some n,e)=>match x,i with
  |.ref cs,.int _ j=>if 0<=j/\j<n/\0<P.cellsOf e then some (.ref (cs.drop (j.toNat*P.cellsOf e))) else none
  |.ptr l k g o,.int _ j=>if 0<=j/\j<n/\0<P.cellsOf e then some (.ptr l k g (o+j.toNat*P.cellsOf e)) else none
  |.eptr l k g i' o,.int _ j=>if 0<=j/\j<n/\0<P.cellsOf e then some (.eptr l k g i' (o+j.toNat*P.cellsOf e)) else none
  |_,_=>none
 |none=>none
@[simp] theorem BGR(T:bp)(x i:V):BW P s T x i=ia P s x i (BU P T):=by
 unfold BW ia;cases BU P T with
 |none=>rfl
 |some z=>
  obtain⟨n,e⟩:=z
  cases n with
  |some n=>cases x<;>cases i<;>rfl
  |none=>
   cases x with
   |vec l k g n=>
    cases i with
    |int q j=>
     simp only[iv]
     cases s.get l k with
     |none=>rfl
     |some z=>obtain⟨g',r⟩:=z;cases r<;>rfl
    |_=>rfl
   |_=>cases i<;>rfl
@[simp] theorem BGS(e:bp)(b:Bool)(es:List (List V))(k:cx)(j:Int):ia P s (.list b es) (.int k j) (some (none,e))=if 0<=j/\j<es.length/\(es.getD j.toNat []).length=P.cellsOf e/\0<P.cellsOf e then some (.ref (es.getD j.toNat [])) else none:=rfl
@[simp] theorem BLJ(e:bp)(l q g n:Nat)(k:cx)(j:Int):ia P s (.vec l q g n) (.int k j) (some (none,e))=iv P e l q g n j (s.get l q):=rfl
@[simp] theorem BLK(n:Nat)(e:bp)(cs:List V)(k:cx)(j:Int):ia P s (.ref cs) (.int k j) (some (some n,e))=if 0<=j/\j<n/\0<P.cellsOf e then some (.ref (cs.drop (j.toNat*P.cellsOf e))) else none:=rfl
@[simp] theorem BLL(n:Nat)(e:bp)(l q g o:Nat)(k:cx)(j:Int):ia P s (.ptr l q g o) (.int k j) (some (some n,e))=if 0<=j/\j<n/\0<P.cellsOf e then some (.ptr l q g (o+j.toNat*P.cellsOf e)) else none:=rfl
@[simp] theorem BGT(n:Nat)(e:bp)(l q g i o:Nat)(k:cx)(j:Int):ia P s (.eptr l q g i o) (.int k j) (some (some n,e))=if 0<=j/\j<n/\0<P.cellsOf e then some (.eptr l q g i (o+j.toNat*P.cellsOf e)) else none:=rfl
def ix(P:ck)(x i:V):Option (Option Nat×bp)->Option V
 |some (some n,e)=>match x,i with
  |.agg cs,.int _ j=>if 0<=j/\j<n/\0<P.cellsOf e then MT P e cs (j.toNat*P.cellsOf e) else none
  |_,_=>none
 |_=>none
@[simp] theorem AY1(T:bp)(x i:V):J6 P T x i=ix P x i (BU P T):=by
 unfold J6 ix;cases BU P T with
 |none=>rfl
 |some z=>obtain⟨n,e⟩:=z;cases n<;>cases x<;>cases i<;>rfl
@[simp] theorem BLM(n:Nat)(e:bp)(cs:List V)(k:cx)(j:Int):ix P (.agg cs) (.int k j) (some (some n,e))=if 0<=j/\j<n/\0<P.cellsOf e then MT P e cs (j.toNat*P.cellsOf e) else none:=rfl
theorem P7{T:bp}(h:DX P T=true):∃e,P.underlying T=some (.slice e):=by
 unfold DX at h;split at h
 ·rename_i e he;exact⟨e,he⟩
 ·cases h
@[simp] theorem wK{T:bp}(h:DX P T=true)(b:Bool)(es:List (List V)):IQ P T (.list b es)=some (.int .i64 es.length):=by obtain⟨e,he⟩:=P7 h;simp[IQ,he]
@[simp] theorem A4B{T:bp}(h:DX P T=true)(l k g n:Nat):IQ P T (.vec l k g n)=some (.int .i64 n):=by obtain⟨e,he⟩:=P7 h;simp[IQ,he]
@[simp] theorem ADY{T:bp}(h:DX P T=true):IQ P T .nil=some (.int .i64 0):=by obtain⟨e,he⟩:=P7 h;simp[IQ,he]
def fv(place:Nat->Option (Nat×Nat))(cs:List V)(v:V)(rest:List (Nat×V)):Option (Nat×Nat)->Option (List V)
 |none=>none
 |some (off,size)=>if (BA v).length=size/\off+(BA v).length<=cs.length then DA place (A5 cs off (BA v)) rest else none
@[simp] theorem A4C(place:Nat->Option (Nat×Nat))(cs:List V):DA place cs []=some cs:=rfl
@[simp] theorem AY2(place:Nat->Option (Nat×Nat))(cs:List V)(i:Nat)(v:V)(rest:List (Nat×V)):DA place cs ((i,v)::rest)=fv place cs v rest (place i):=by simp only[DA];unfold fv;cases place i<;>rfl
@[simp] theorem BGU(place:Nat->Option (Nat×Nat))(cs:List V)(v:V)(rest:List (Nat×V))(off size:Nat):fv place cs v rest (some (off,size))=if (BA v).length=size/\off+(BA v).length<=cs.length then DA place (A5 cs off (BA v)) rest else none:=rfl
attribute [simp] A5
@[simp] theorem AS5(size:Nat)(cs:List V):CV size cs 0=[]:=rfl
@[simp] theorem AS6(size:Nat)(cs:List V)(n:Nat):CV size cs (n+1)=cs.take size::CV size (cs.drop size) n:=rfl
def ch1(size len:Nat):Option (List V)->Option V
 |some cs=>some (.list true (CV size cs len))
 |none=>none
@[simp] theorem BCY(size len:Nat)(cs:List V):ch1 size len (some cs)=some (.list true (CV size cs len)):=rfl
def bsz(P:ck)(e:bp)(len:Nat)(parts:List (Nat×V)):Option (List V)->Option V
 |some z=>if (parts.all fun p=>BE p.2)=true/\z.length=P.cellsOf e/\0<P.cellsOf e/\len*P.cellsOf e<=2 ^ 24 then
   ch1 (P.cellsOf e) len (DA (fun i=>some (i*P.cellsOf e,P.cellsOf e)) (bc len z).flatten parts) else none
 |none=>none
@[simp] theorem BCZ(e:bp)(len:Nat)(parts:List (Nat×V))(z:List V):bsz P e len parts (some z)=if (parts.all fun p=>BE p.2)=true/\z.length=P.cellsOf e/\0<P.cellsOf e/\len*P.cellsOf e<=2 ^ 24 then
   ch1 (P.cellsOf e) len (DA (fun i=>some (i*P.cellsOf e,P.cellsOf e)) (bc len z).flatten parts) else none:=rfl
def bsl(P:ck)(len:Nat)(parts:List (Nat×V)):Option (Option Nat×bp)->Option V
 |some (none,e)=>bsz P e len parts (CC P e)
 |_=>none
@[simp] theorem BC0(e:bp)(len:Nat)(parts:List (Nat×V)):bsl P len parts (some (none,e))=bsz P e len parts (CC P e):=rfl
@[simp] theorem BGW(T:bp)(len:Nat)(parts:List (Nat×V)):CJ P T len parts=bsl P len parts (BU P T):=by
 unfold CJ bsl;cases BU P T with
 |none=>rfl
 |some z=>
  obtain⟨n,e⟩:=z
  cases n with
  |some n=>rfl
  |none=>
   simp only[bsz]
   cases CC P e with
   |none=>rfl
   |some z=>
    simp only
    split
    ·cases DA (fun i=>some (i*P.cellsOf e,P.cellsOf e)) (bc len z).flatten parts<;>rfl
    ·rfl
def fn2(f:cz):Option (List V)->Option (List V)->Option V
 |some a,some b=>some (.fn f a b)
 |_,_=>none
@[simp] theorem BC1(f:cz)(a b:List V):fn2 f (some a) (some b)=some (.fn f a b):=rfl
@[simp] theorem BLP(f:cz)(x y:Array cj)(r:cj->Option V):JX P (mW (.makeFunc (.func f) x y)) s r=fn2 f (F2 r x.toList) (F2 r y.toList):=by show((x.toList.mapM r).bind fun a=>(y.toList.mapM r).bind fun b=>some (V.fn f a b))=_;rw[<-LW,<-LW];cases F2 r x.toList<;>cases F2 r y.toList<;>rfl
@[simp] theorem BGY(x y:cj)(Ts:Array bp)(r:cj->Option V):JX P (mW (.call ⟨.builtin .max,#[x,y],Ts⟩)) s r=o2 U6 (r x) (r y):=mG _ _ _
@[simp] theorem BGZ(x y:cj)(Ts:Array bp)(r:cj->Option V):JX P (mW (.call ⟨.builtin .min,#[x,y],Ts⟩)) s r=o2 U7 (r x) (r y):=mG _ _ _
@[simp] theorem A4D(k j:cx)(m n:Int):U6 (.int k m) (.int j n)=if k=j then some (.int k (if n>m then n else m)) else none:=rfl
@[simp] theorem A4E(k j:cx)(m n:Int):U7 (.int k m) (.int j n)=if k=j then some (.int k (if n<m then n else m)) else none:=rfl
theorem B9{e:bp}{n:Nat}{ys:List (List V)}(hc:0<P.cellsOf e)(hz:Y1 P e=true):B5 P e n ys=true↔(ys.all (fun y=>y.length==P.cellsOf e)=true/\n+ys.length<=maxLen/\(n+ys.length)*P.bytesOf e<=140737488355328):=by simp[B5,hc,hz,and_assoc]
end Go.Pg
namespace Go.Pg
variable {P:ck}{E:XE}{st:XS}{fr:Fr}{s:St}
theorem AP{P:ck}{kn:CF0}{rec:HJ}{f:cz}{args:List V}(h:kn f args=none):A3 P kn rec f args=E7 P rec f args:=by unfold A3;rw[h]
def pv(k γ:Nat):List (List V)->V
 |[]=>.nil
 |e::es=>.vec 0 k γ (e::es).length
def pl(k γ:Nat)(T:bp):List (List V)->AA
 |[]=>[]
 |e::es=>[(k,γ,.vec T (e::es))]
def sl:List (List V)->V
 |[]=>.nil
 |e::es=>.list false (e::es)
@[simp] theorem BLQ(k γ:Nat):pv k γ []=.nil:=rfl
@[simp] theorem BLR(k γ:Nat)(T:bp):pl k γ T []=[]:=rfl
@[simp] theorem BG0(k γ:Nat)(T:bp)(es:List (List V))(y:List V)(ys:List (List V)):pl k γ T (es++y::ys)=[(k,γ,.vec T (es++y::ys))]:=by cases es<;>rfl
@[simp] theorem BG1(k γ:Nat)(T:bp)(y:List V)(ys:List (List V)):pl k γ T (y::ys)=[(k,γ,.vec T (y::ys))]:=rfl
@[simp] theorem BOO(k γ:Nat)(T:bp)(es:List (List V)):kl k [] ((pl k γ T es).get k)=pl k γ T es:=by
 cases es with
 |nil=>rfl
 |cons e es=>simp
@[simp] theorem BC2{k j:Nat}(γ:Nat)(T:bp)(es:List (List V))(h:j≠k):(pl k γ T es).get j=none:=by
 cases es with
 |nil=>rfl
 |cons e es=>simp[h]
@[simp] theorem AY3(e k c γ:Nat)(loc:AA)(es:List (List V))(y:List V)(ys:List (List V))(hl:AA.get loc k=(pl k γ e es).get k)(h1:es.all (fun y=>y.length==P.cellsOf e)=true)(h2:B5 P e es.length (y::ys)=true) :
  apV P e k c fr ⟨[],loc⟩ (pv k γ es) (y::ys)=some ⟨c+1,(k,true,pv k c (es++y::ys))::fr,⟨[],(k,c,.vec e (es++y::ys))::loc⟩⟩:=by
 cases es with
 |nil=>
  simp only[bk]at h2
  simp[h2,pv]
 |cons z es=>
  have hl:AA.get loc k=some (γ,.vec e (z::es)):=by rw[hl];simp
  simp only[pv,AO7,AKF,bk,if_true,hl,rY,WT,V1,true_and,h1,h2]
  simp[Nat.add_comm,Nat.add_left_comm]
theorem Q1{T:bp}(f:Nat)(loc:AA)(k γ:Nat)(es:List (List V))(hl:AA.get loc k=(pl k γ T es).get k):A4 ⟨[],loc⟩ (f+1) (pv k γ es)=some (sl es):=by
 cases es with
 |nil=>rfl
 |cons z es=>
  have hl:AA.get loc k=some (γ,.vec T (z::es)):=by rw[hl];simp
  simp only[pv,eV,bk,if_true,hl,AKG,sl]
  simp
@[simp] theorem A4F(f k γ:Nat)(T:bp)(es:List (List V)):A4 ⟨[],pl k γ T es⟩ (f+1) (pv k γ es)=some (sl es):=Q1 (T:=T) f _ k γ es rfl
@[simp] theorem BC3{T:bp}(h:DX P T=true)(es:List (List V)):IQ P T (sl es)=some (.int .i64 es.length):=by
 cases es with
 |nil=>exact ADY h
 |cons e es=>exact wK h _ _
@[simp] theorem BOP(e:bp)(es:List (List V))(k:cx)(j:Int):ia P s (sl es) (.int k j) (some (none,e))=if 0<=j/\j<es.length/\(es.getD j.toNat []).length=P.cellsOf e/\0<P.cellsOf e then some (.ref (es.getD j.toNat [])) else none:=by
 cases es with
 |nil=>
  rw[if_neg (by simp only[bk];omega)]
  rfl
 |cons z es=>rfl
@[simp] theorem jP(f:Nat)(es:List (List V)):AG (f+1) (sl es)=es.all fun e=>e.all (AG f):=by cases es<;>rfl
@[simp] theorem BC4(es:List (List V)):weakN (sl es)=.list false es:=by cases es<;>rfl
@[simp] theorem BC5(es:List (List V)):weakM (sl es)=.list false es:=by cases es<;>rfl
@[simp] theorem BG2(es:List (List V)):weakV (sl es)=sl es:=by cases es<;>rfl
@[simp] theorem BC6(es:List (List V)):weakC (sl es)=sl es:=by cases es<;>rfl
@[simp] theorem A4G(es:List (List V)):BA (sl es)=[sl es]:=by cases es<;>rfl
@[simp] theorem A4H(es:List (List V)):BE (sl es)=true:=by cases es<;>rfl
@[simp] theorem A4I(k γ:Nat)(es:List (List V)):BA (pv k γ es)=[pv k γ es]:=by cases es<;>rfl
@[simp] theorem A4J(k γ:Nat)(es:List (List V)):BE (pv k γ es)=true:=by cases es<;>rfl
@[simp] theorem AY4(es:List (List V)):elemsOf s (sl es)=some es:=by cases es<;>rfl
@[simp] theorem A4K(f:Nat)(es:List (List V)):A4 s (f+1) (sl es)=some (sl es):=by cases es<;>rfl
@[simp] theorem A4L(es:List (List V)):FP (some (sl es))=[]:=by cases es<;>rfl
@[simp] theorem A4M(es:List (List V)):KX (some (sl es))=[]:=by cases es<;>rfl
def wL(P:ck)(e:bp)(d c:Nat)(fr:Fr)(s:St)(xv:V)(ys:List (List V)):Option (XS×AL):=match I5 xv ys with
 |some es=>if es.all (fun y=>y.length==P.cellsOf e)=true/\B5 P e es.length ys=true then some (⟨c+1,(d,true,.vec s.up.length d c (es.length+ys.length))::fr,s.put s.up.length d c (.vec e (es++ys))⟩,[(s.up.length,d),(s.up.length,d+GU)]) else none
 |none=>match xv with
  |.vec l q γ n=>wp [(l,q),(l,q+GU)] (apW P e d c fr s l q γ n ys (SN n ys (s.get l q)))
  |_=>none
def ad4(P:ck)(e:bp)(d c:Nat)(fr:Fr)(s:St)(xv:V):Option (List (List V))->Option (XS×AL)
 |some ys=>wL P e d c fr s xv ys
 |none=>none
@[simp] theorem AKH(e:bp)(d c:Nat)(xv:V)(ys:List (List V)):ad4 P e d c fr s xv (some ys)=wL P e d c fr s xv ys:=rfl
def ad3(P:ck)(d c:Nat)(fr:Fr)(s:St):Option (Option Nat×bp)->Option V->Option V->Option (XS×AL)
 |some (none,e),some xv,some yv=>ad4 P e d c fr s xv (elemsOf s yv)
 |_,_,_=>none
@[simp] theorem AKI(d c:Nat)(e:bp)(xv yv:V):ad3 P d c fr s (some (none,e)) (some xv) (some yv)=ad4 P e d c fr s xv (elemsOf s yv):=rfl
@[simp] theorem AS7(b:Bool)(es:List (List V)):uJ (.list b es)=some es:=rfl
@[simp] theorem AY5:uJ .nil=some []:=rfl
@[simp] theorem A4N(es:List (List V)):uJ (sl es)=some es:=by cases es<;>rfl
@[simp] theorem A4O(d:Tmp)(c:Nat)(x y:cj)(T:bp):DS P E (some d) (.app [x,y] [T,T]) ⟨c,fr,s⟩=ad3 P d c fr s (BU P T) (CP fr x) (CP fr y):=by
 show xAppD P (some d) [x,y] [T,T] _=_;unfold xAppD xAppG;simp only[Nat.beq_refl];cases hT:BU P T with
 |none=>cases CP fr x<;>cases CP fr y<;>rfl
 |some p=>
  obtain⟨k,e⟩:=p
  cases k with
  |some k=>cases CP fr x<;>cases CP fr y<;>rfl
  |none=>
   cases CP fr x with
   |none=>rfl
   |some xv=>
    cases CP fr y with
    |none=>rfl
    |some yv=>
     simp only[AKI]
     cases elemsOf s yv with
     |none=>rfl
     |some ys=>
      simp only[AKH,wL]
      cases I5 xv ys with
      |some es=>
       simp only[ifB,bj,bq]
       by_cases hC:es.all (fun y=>y.length==P.cellsOf e)=true/\B5 P e es.length ys=true
       ·rw[if_pos hC,if_pos hC]
       ·rw[if_neg hC,if_neg hC]
      |none=>
       simp only
       unfold qH
       cases xv with
       |vec l q γ n=>
        simp only
        cases SN n ys (s.get l q)with
        |none=>rfl
        |some z=>
         obtain⟨γ',r⟩:=z
         cases r with
         |vec W es=>
          simp only[ifB,bj,bq,V1,bg,and_assoc]
          by_cases hC:γ'=γ/\W=e/\n=es.length/\es.all (fun y=>y.length==P.cellsOf e)=true/\B5 P e es.length ys=true
          ·rw[if_pos hC,if_pos hC];rfl
          ·rw[if_neg hC,if_neg hC];rfl
         |_=>rfl
       |_=>rfl
@[simp] theorem BLT(e k c γ:Nat)(loc:AA)(es:List (List V))(y:List V)(ys:List (List V))(hl:AA.get loc k=(pl k γ e es).get k)(h1:es.all (fun y=>y.length==P.cellsOf e)=true)(h2:B5 P e es.length (y::ys)=true) :
  wL P e k c fr ⟨[],loc⟩ (pv k γ es) (y::ys)=some (⟨c+1,(k,true,pv k c (es++y::ys))::fr,⟨[],(k,c,.vec e (es++y::ys))::loc⟩⟩,[(0,k),(0,k+GU)]):=by
 cases es with
 |nil=>
  simp only[bk]at h2
  simp[wL,I5,h2,pv]
 |cons z es=>
  have hl:AA.get loc k=some (γ,.vec e (z::es)):=by rw[hl];simp
  simp only[pv,wL,I5,AKF,bk,if_true,hl,rY,WT,V1,true_and,h1,h2]
  simp[Nat.add_comm,Nat.add_left_comm]
end Go.Pg
namespace Go.Pg
variable {P:ck}{E:XE}{st:XS}{fr:Fr}{s:St}
theorem wM{α:Type}(x:α):CH [x]=some ([],x):=rfl
def un1{α:Type}(x:α):Option (List α×α)->Option (List α×α)
 |some (a,b)=>some (x::a,b)
 |none=>none
@[simp] theorem BC7{α:Type}(x:α)(a:List α)(b:α):un1 x (some (a,b))=some (x::a,b):=rfl
theorem YU{α:Type}(x y:α)(l:List α):CH (x::y::l)=un1 x (CH (y::l)):=by simp only[CH];unfold un1;cases CH (y::l)<;>rfl
attribute [simp] wM YU
def V5(d:Option Tmp)(fr:Fr)(c:Nat)(r:V):Option (List AA×AA)->Option XS
 |some (u,l)=>some ⟨c,putD fr d true r,⟨u,l⟩⟩
 |none=>none
@[simp] theorem A4P(d:Tmp)(c:Nat)(r:V)(u:List AA)(l:AA):V5 (some d) fr c r (some (u,l))=some ⟨c,(d,true,r)::fr,⟨u,l⟩⟩:=rfl
@[simp] theorem BG3(c:Nat)(r:V)(u:List AA)(l:AA):V5 none fr c r (some (u,l))=some ⟨c,fr,⟨u,l⟩⟩:=rfl
def sB(d:Option Tmp)(fr:Fr)(st:XS):Option V->Option XS
 |some r=>V5 d fr st.c r (CH (st.s.up.map (AK st.s)))
 |none=>none
@[simp] theorem A4Q(d:Option Tmp)(c:Nat)(fr':Fr)(up:List AA)(loc:AA)(r:V):sB d fr ⟨c,fr',⟨up,loc⟩⟩ (some r)=V5 d fr c r (CH (up.map (AK ⟨up,loc⟩))):=rfl
def clX(s:St):Option V->Option V
 |some r=>A4 s 4 r
 |none=>none
@[simp] theorem BC8(r:V):clX s (some r)=A4 s 4 r:=rfl
def eW(P:ck)(d:Option Tmp)(fr:Fr)(rs:List ResultVar)(r:Option (Exit×XS)):Option XS:=match r with
 |some (.ret,st)=>sB d fr st (clX st.s (F8 P rs st.fr st.s))
 |some (.normal,st)=>sB d fr st (clX st.s (F8 P rs st.fr st.s))
 |_=>none
@[simp] theorem AKJ(d:Option Tmp)(rs:List ResultVar):eW P d fr rs (some (.ret,st))=sB d fr st (clX st.s (F8 P rs st.fr st.s)):=rfl
@[simp] theorem sC(d:Option Tmp)(rs:List ResultVar):eW P d fr rs (some (.normal,st))=sB d fr st (clX st.s (F8 P rs st.fr st.s)):=rfl
theorem sD{A:Ann}{kn:CF0}{n:Nat}{f:cz}{fn:Func}{code:cw}{args:List V}(hf:P.funcs[f]? = some fn)(hb:fn.body=some code)(hs:bm args.length fn.ntmps=true)(hcl:(args.all (AG 9)&&!(BT P f))=false)(d:Option Tmp)(c:Nat)(fr:Fr)(up:List AA)(loc:AA) :
  HT (BQ P A kn n) d ⟨c,fr,⟨up,loc⟩⟩ f args=eW P d fr fn.results.toList (AE P A kn n fn.ntmps code ⟨c,AF 0 args,⟨up++[loc],[]⟩⟩):=by
 show(match dL P kn (AE P A kn n) f args ⟨c,fr,⟨up,loc⟩⟩ with
  |some (r,st')=>some (⟨st'.c,putD st'.fr d true r,st'.s⟩:XS)
  | none=>none)=_
 unfold dL
 rw[hcl]
 unfold iY YR qV
 rw[hf]
 simp only[hb,hs]
 generalize AE P A kn n fn.ntmps code ⟨c,AF 0 args,⟨up++[loc],[]⟩⟩=q
 have aux:∀st:XS,(match(match(match AC2 P fn.results.toList st with
   |some (r,c,up)=>match CH up with
    |some (u,l)=>some (r,(⟨c,fr,⟨u,l⟩⟩:XS))
    |none=>none
   | none=>none:Option (V×XS))with
   |some r=>some r
   | none=>none:Option (V×XS))with
  |some (r,st')=>some (⟨st'.c,putD st'.fr d true r,st'.s⟩:XS)
  | none=>none)=sB d fr st (clX st.s (F8 P fn.results.toList st.fr st.s)):=fun st=>by
  unfold AC2 clX
  cases F8 P fn.results.toList st.fr st.s with
  |none=>rfl
  |some r=>
   cases h:A4 st.s 4 r with
   |none=>simp[sB,h]
   |some r'=>
    simp only[h,sB]
    cases CH (st.s.up.map (AK st.s))with
    |none=>rfl
    |some z=>rfl
 cases q with
 |none=>rfl
 |some q=>
  obtain⟨e,st⟩:=q
  have:=aux st
  cases e with
  |ret=>simp only[AKJ,<-this];cases AC2 P fn.results.toList st with
   |none=>rfl
   |some z=>
    obtain⟨r,c,up⟩:=z
    simp only
    cases CH up<;>rfl
  |normal=>simp only[sC,<-this];cases AC2 P fn.results.toList st with
   |none=>rfl
   |some z=>
    obtain⟨r,c,up⟩:=z
    simp only
    cases CH up<;>rfl
  |_=>rfl
theorem A7{A:Ann}{kn:CF0}{n:Nat}{f:cz}{fn:Func}{code:cw}{args:List V}(hf:P.funcs[f]? = some fn)(hb:fn.body=some code)(hs:bm args.length fn.ntmps=true)(hcl:args.all (AG 9)=false)(d:Option Tmp)(c:Nat)(fr:Fr)(up:List AA)(loc:AA) :
  HT (BQ P A kn n) d ⟨c,fr,⟨up,loc⟩⟩ f args=eW P d fr fn.results.toList (AE P A kn n fn.ntmps code ⟨c,AF 0 args,⟨up++[loc],[]⟩⟩) :=
 sD hf hb hs (by rw[hcl,Bool.false_and]) d c fr up loc
theorem AAL{A:Ann}{kn:CF0}{n:Nat}{f:cz}{fn:Func}{code:cw}{args:List V}(hf:P.funcs[f]? = some fn)(hb:fn.body=some code)(hs:bm args.length fn.ntmps=true)(hh:BT P f=true)(d:Option Tmp)(c:Nat)(fr:Fr)(up:List AA)(loc:AA) :
  HT (BQ P A kn n) d ⟨c,fr,⟨up,loc⟩⟩ f args=eW P d fr fn.results.toList (AE P A kn n fn.ntmps code ⟨c,AF 0 args,⟨up++[loc],[]⟩⟩) :=
 sD hf hb hs (by rw[hh,Bool.not_true,Bool.and_false]) d c fr up loc
@[simp] theorem AY7(f l k g o:Nat):AG (f+1) (.ptr l k g o)=false:=rfl
@[simp] theorem AY8(f l k g o:Nat):AG (f+1) (.vec l k g o)=false:=rfl
@[simp] theorem A4R(f l k g:Nat):AG (f+1) (.mp l k g)=false:=rfl
@[simp] theorem BC9(l k g o:Nat):weakV (.ptr l k g o)=.ptr l k g o:=rfl
@[simp] theorem BDA(l k g o:Nat):weakV (.vec l k g o)=.vec l k g o:=rfl
@[simp] theorem BDB(cs:List V):weakV (.ref cs)=.ref cs:=rfl
@[simp] theorem BLV(d c:Nat)(f:cz)(x y:List V):bx1 d c fr s (some (.fn f x y))=some ⟨c+1,(d,true,.ptr s.up.length d c 0)::fr,s.put s.up.length d c (.box [.fn f x y])⟩:=rfl
@[simp] theorem BG4(d c:Nat)(l k g o:Nat):bx1 d c fr s (some (.ptr l k g o))=some ⟨c+1,(d,true,.ptr s.up.length d c 0)::fr,s.put s.up.length d c (.box [.ptr l k g o])⟩:=rfl
@[simp] theorem BLW(d c:Nat)(es:List (List V)):bx1 d c fr s (some (sl es))=some ⟨c+1,(d,true,.ptr s.up.length d c 0)::fr,s.put s.up.length d c (.box [sl es])⟩:=by cases es<;>rfl
@[simp] theorem GG:AK s []=[]:=rfl
@[simp] theorem A6(k g:Nat)(r:AZ)(L:AA):AK s ((k,g,r)::L)=(k,g,CM s r)::AK s L:=rfl
def sr1(r:AZ):Option (List V)->AZ
 |some ds=>.box ds
 |none=>r
@[simp] theorem BDC(r:AZ)(ds:List V):sr1 r (some ds)=.box ds:=rfl
theorem FI(cs:List V):CM s (.box cs)=sr1 (.box cs) (HQ (CB s) cs):=by unfold CM CI sr1;simp only;cases HQ (CB s) cs<;>rfl
attribute [simp] FI
theorem wN(f:V->Option V):HQ f []=some []:=rfl
theorem sE(f:V->Option V)(v:V)(l:List V):HQ f (v::l)=mc2 (f v) (HQ f l):=by
 simp only[HQ];cases f v with
 |none=>rfl
 |some x=>cases HQ f l<;>rfl
attribute [simp] wN sE
@[simp] theorem AS8(k:cx)(n:Int):CB s (.int k n)=some (.int k n):=rfl
@[simp] theorem APG(b:Bool):CB s (.bool b)=some (.bool b):=rfl
@[simp] theorem APH(b:Bool)(es:List (List V)):CB s (.list b es)=some (.list b es):=rfl
@[simp] theorem AS9:CB s .nil=some .nil:=rfl
@[simp] theorem AY9(es:List (List V)):CB s (sl es)=some (sl es):=by cases es<;>rfl
@[simp] theorem AZA(f:cz)(x y:List V):CB s (.fn f x y)=A4 s 4 (.fn f x y):=rfl
@[simp] theorem ATA(l k g o:Nat):CB s (.ptr l k g o)=A4 s 4 (.ptr l k g o):=rfl
@[simp] theorem sF(l k g o:Nat):CB s (.vec l k g o)=A4 s 4 (.vec l k g o):=rfl
@[simp] theorem ATB(cs:List V):CB s (.agg cs)=A4 s 4 (.agg cs):=rfl
@[simp] theorem A4S(f:Nat)(g:cz)(x y:List V):A4 s (f+1) (.fn g x y)=fn2 g (RK (A4 s f) x) (RK (A4 s f) y):=by simp only[A4,V3,fn2];cases RK (A4 s f) x<;>cases RK (A4 s f) y<;>rfl
def cp1(f:List V->Option (List V))(g off:Nat):Option (Nat×AZ)->Option V
 |some (g',.box cs)=>if g'=g then(f cs).map fun ds=>.ref (ds.drop off) else none
 |_=>none
@[simp] theorem AZB(f:Nat)(up:List AA)(loc:AA)(l k g off:Nat):A4 ⟨up,loc⟩ (f+1) (.ptr l k g off)=if l=up.length then cp1 (RK (A4 ⟨up,loc⟩ f)) g off (loc.get k) else some (.ptr l k g off):=by
 simp only[A4,V3];split
 ·cases loc.get k with
  |none=>rfl
  |some z=>obtain⟨g',r⟩:=z;cases r<;>rfl
 ·rfl
def ow3(d c:Nat)(fr:Fr)(s:St):Option V->Option XS
 |some r=>some ⟨c+1,(d,true,r)::fr,s.put s.up.length d c .dead⟩
 |none=>none
@[simp] theorem BDD(d c:Nat)(r:V):ow3 d c fr s (some r)=some ⟨c+1,(d,true,r)::fr,s.put s.up.length d c .dead⟩:=rfl
theorem API:CM s .dead=.dead:=rfl
attribute [simp] API
end Go.Pg
theorem Go.Pg.qNz (m:Nat)(h:0<m):∃k,m=k+1:=⟨m-1,by omega⟩
