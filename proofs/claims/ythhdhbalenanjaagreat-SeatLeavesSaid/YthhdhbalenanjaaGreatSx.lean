/- Operations of a region with all that hangs on the region alone worked out; running them one after another. No program in sight. -/
import Derived.Test.YthhdhbalenanjaaGreatQ2
noncomputable section
open Go renaming TypeId->bn,Operand->bp,Program->bt,Oper->cj,Code->ck,FuncId->cq,IntKind->cw
open Bool renaming and_eq_true->bj
open List renaming length_append->bk,length_nil->bq,getElem?_eq_getElem->bw,all_cons->bz,mapM_cons->bb,replicate->bc
open Nat renaming beq->bx,blt_eq->bf,beq_eq->bg,ble->bh,blt->bm
namespace Go.Pg
variable {P:bt}{E:XE}
inductive IK where
 |mv (x:bp)
 |bin (op:BinOp) (T:bn) (x y:bp)
 |fa (T:bn) (x:bp) (f:Nat)
 |ld (T:bn) (x:bp)
 |ldz (T:bn) (x:bp)
 |pick (c a b:bp)
 |build (T:bn) (ps:List (Nat×bp))
 |buildS (T:bn) (n:Nat) (ps:List (Nat×bp))
 |oth (op:Op)
 |alloc (T:bn)
 |box (x:bp)
 |mkM (r:Option bp)
 |mkS (T:bn) (x y:bp)
 |sto (T:bn) (x y:bp)
 |upd (T:bn) (x i y:bp)
 |call (own:Bool) (tk:Option Tmp) (f:bp) (args:List bp)
 |app (args:List bp) (Ts:List bn)
 |clr (args:List bp) (Ts:List bn)
 |cpy (args:List bp) (Ts:List bn)
def rR (op : Op) : cj := { dst := none, op := op, type := 0, pos := "", after := #[], guard := none }
def AH6(all:List cj):List bp->Option Tmp
 |[]=>none
 |x::r=>match x with
  |.tmp t=>cond (AMR all t) (some t) (AH6 all r)
  |_=>AH6 all r
def NQ(all:List cj)(o:cj):IK:=match o.op with
 |.move x=>.mv x
 |.assign x=>.mv x
 |.binOp op T x y _=>.bin op T x y
 |.fieldAddr T x f=>.fa T x f
 |.load T x=>.ld T x
 |.pick c a b=>.pick c a b
 |.build T ps=>.build T ps.toList
 |.buildSlice T n ps=>.buildS T n ps.toList
 |.alloc T=>.alloc T
 |.box _ x=>.box x
 |.makeMap _ r=>.mkM r
 |.makeSlice T x y=>.mkS T x y
 |.store T x y=>.sto T x y
 |.mapUpdate T x i y=>.upd T x i y
 |.call c=>match c.callee with
  |.value f=>.call (DQ all o) (AH6 all c.args.toList) f c.args.toList
  |.builtin .append=>.app c.args.toList c.argTypes.toList
  |.builtin .clear=>.clr c.args.toList c.argTypes.toList
  |.builtin .copy=>.cpy c.args.toList c.argTypes.toList
  |_=>.oth o.op
 |op=>.oth op
structure JK where
 g:Option (Tmp×Bool)
 d:Option Tmp
 k:IK
def comp(all:List cj)(o:cj):JK:=⟨LF all o,o.dst,NQ all o⟩
def AH7:IK->IK
 |.ld T x=>.ldz T x
 |k=>k
def iL(all:List cj)(o:cj):JK:=⟨LF all o,o.dst,cond (zB all o) (AH7 (NQ all o)) (NQ all o)⟩
def EO(d:Option Tmp)(st:XS)(r:Option V):Option XS:=match r with
 |some v=>some ⟨st.c,putD st.fr d true v,st.s⟩
 |none=>none
def dO(tk:Option Tmp)(st:XS):XS:=match tk with
 |none=>st
 | some t=>match(match BG st.fr t with
   |some (true,.vec l q γ n)=>match st.s.get l q with
    |some (γ',.vec _ es)=>Bool.rec none (some ⟨st.c,(t,true,.list false (es.take n))::st.fr,st.s.put l q γ .dead⟩) (bx γ' γ&&bh n es.length&&bm γ st.c)
    |_=>none
   | _=>none:Option XS)with
  |some st1=>st1
  |none=>st
def CX(P:bt)(E:XE)(d:Option Tmp)(k:IK)(st:XS):Option XS:=match k with
 |.mv x=>EO d st (CK st.fr x)
 |.bin op T x y=>EO d st (ABG P st.fr op T x y)
 |.fa T x f=>EO d st (xFA P st.fr T x f)
 |.ld T x=>EO d st (QN P st.fr st.s T x)
 |.ldz T x=>EO d st (QN P st.fr st.s T x)
 |.pick c a b=>EO d st (xD st.fr c a b)
 |.build T ps=>EO d st (V6 P st.fr T ps)
 |.buildS T n ps=>EO d st (PU P st.fr T n ps)
 |.oth op=>EO d st (JN P (rR op) st.s (CK st.fr))
 |.alloc T=>O0 P d T st
 |.box x=>oR d x st
 |.mkM r=>ABC d r st
 |.mkS T x y=>XO P d T x y st
 |.sto T x y=>JE P d T x y st
 |.upd T x i y=>ABD P d T x i y st
 |.call own tk f args=>cJ E own d f args (dO tk st)
 |.app args Ts=>xAppend P d args Ts st
 |.clr args Ts=>jX P d args Ts st
 |.cpy args Ts=>xF P d args Ts st
def opI(P:bt)(E:XE)(i:JK)(st:XS):Option XS:=match gdX st.fr i.g with
 |some true=>CX P E i.d i.k st
 |some false=>some (I7 i.d st)
 |none=>none
def opO(P:bt)(E:XE)(i:JK)(r:Option XS):Option XS:=match r with
 |some st=>opI P E i st
 |none=>none
def PB(P:bt)(E:XE):List JK->Option XS->Option XS
 |[],r=>r
 |i::l,r=>PB P E l (opO P E i r)
theorem dP(all:List cj)(st:XS):∀(xs:List bp),(match NB all st xs with
  |some st1=>st1
  | none=>st)=dO (AH6 all xs) st
 |[]=>rfl
 |x::r=>by
  unfold NB AH6;cases x with
  |tmp t=>
   simp only
   cases AMR all t with
   |false=>exact dP all st r
   |true=>rfl
  |_=>exact dP all st r
theorem A60{o:cj}{st:XS}:AGK P (fun _=>false) o st=none:=by unfold AGK;split<;>rfl
theorem AH8(hl:E.lit=fun _=>false)(all:List cj)(o:cj)(st:XS):opX P E all o st=opI P E (comp all o) st:=by
 unfold opX opI;rw[hl];simp only[A60];have:(match AGL all o st with
   |some st1=>QO P E (DQ all) o st1
   | none=>QO P E (DQ all) o st)=CX P E o.dst (NQ all o) st:=by
  have ht:∀(r:Option XS),(match r with
   |some st1=>QO P E (DQ all) o st1
   | none=>QO P E (DQ all) o st)=QO P E (DQ all) o (match r with
   |some st1=>st1
   | none=>st):=fun r=>by cases r <;> rfl
  rw[ht]
  obtain⟨d,op,T,pos,af,gd⟩:=o
  cases op with
  |call c=>
   obtain⟨cal,args,Ts⟩:=c
   cases cal with
   |value f=>
    show QO P E _ _ (match NB all st args.toList with|some st1=>st1|none=>st)=_
    rw[dP]
    rfl
   |builtin b=>cases b<;>rfl
   |_=>rfl
  |_=>rfl
 show _=(match gdX st.fr (LF all o)with
  |some true=>CX P E o.dst (NQ all o) st
  |some false=>some (I7 o.dst st)
  | none=>none)
 cases gdX st.fr (LF all o)with
 |none=>rfl
 |some b=>
  cases b with
  |false=>rfl
  |true=>exact this
theorem II:∀(l:List JK),PB P E l none=none
 |[]=>rfl
 |_::l=>II l
theorem yF(hl:E.lit=fun _=>false)(all:List cj):∀(l:List cj) (st:XS),kB P E all l st=PB P E (l.map (comp all)) (some st)
 |[],st=>rfl
 |o::l,st=>by
  simp only[kB,List.map_cons,PB,opO];rw[AH8 hl];cases opI P E (comp all o) st with
  |none=>exact(II _).symm
  |some st'=>exact yF hl all l st'
def HT(P:bt)(k:IK)(r:bp->Option V):AL:=match k with
 |.ld T x=>CD (bx (P.cellsOf T) 1) (r x)
 |.app xs _=>J9 r xs
 |.oth op=>EA P (rR op) r
 |_=>[]
def DF(P:bt)(E:XE)(d:Option Tmp)(k:IK)(st:XS):Option (XS×AL):=match k with
 |.mv x=>UM (EO d st (CK st.fr x))
 |.bin op T x y=>UM (EO d st (ABG P st.fr op T x y))
 |.fa T x f=>UM (EO d st (xFA P st.fr T x f))
 |.ld T x=>UM (EO d st (QN P st.fr st.s T x))
 |.ldz T x=>UM (EO d st (QN P st.fr st.s T x))
 |.pick c a b=>UM (EO d st (xD st.fr c a b))
 |.build T ps=>UM (EO d st (V6 P st.fr T ps))
 |.buildS T n ps=>UM (EO d st (PU P st.fr T n ps))
 |.oth op=>UM (EO d st (JN P (rR op) st.s (CK st.fr)))
 |.alloc T=>UM (O0 P d T st)
 |.box x=>UM (oR d x st)
 |.mkM r=>UM (ABC d r st)
 |.mkS T x y=>UM (XO P d T x y st)
 |.sto T x y=>AGN P d T x y st
 |.upd ..=>none
 |.call own _ f args=>Bool.rec (UM (cK E.c0 d f args st)) (UM (HM E.co d f args st)) own
 |.app args Ts=>xAppD P d args Ts st
 |.clr ..=>none
 |.cpy ..=>none
def XU:IK->Bool
 |.alloc _|.box _|.mkM _|.mkS ..|.sto ..|.app ..=>true
 |.call own ..=>own
 |_=>false
def WN(P:bt)(E:XE)(i:JK)(st:XS):Option (XS×AL):=match gdX st.fr i.g with
 |some true=>DF P E i.d i.k st
 |some false=>Bool.rec (some (I7 i.d st,[])) none (XU i.k)
 |none=>none
def AH9(P:bt)(E:XE)(i:JK)(r:Option (XS×AL×AL)):Option (XS×AL×AL):=match r with
 |some (st,rd,wr)=>match WN P E i st with
  |some (st',w)=>some (st',HT P i.k (CK st.fr)++rd,w++wr)
  |none=>none
 |none=>none
def WO(P:bt)(E:XE):List JK->Option (XS×AL×AL)->Option (XS×AL×AL)
 |[],r=>r
 |i::l,r=>WO P E l (AH9 P E i r)
def dQ(r:Option (XS×AL×AL)):Option XS:=match r with
 |some (st,rd,wr)=>Bool.rec none (some st) (wr.all fun p=>!(rd.contains p))
 |none=>none
structure pW where
 new:List Tmp
 ph:List JK
 sq:List JK
def kY(new:List Tmp)(st:XS):Bool:=new.all fun d=>(st.s.loc.get d).isNone
def AIA(new:List Tmp)(r:Option XS):Option (XS×AL×AL):=match r with
 |some st=>Bool.rec none (some (st,[],[])) (kY new st)
 |none=>none
def WP(P:bt)(E:XE):List pW->Option XS->Option XS
 |[],r=>r
 |p::S,r=>WP P E S (PB P E p.sq (dQ (WO P E p.ph (AIA p.new r))))
def iM(l:List cj)(R:List Nat):List JK:=R.filterMap fun i=>(l[i]?).map (comp l)
def iN(l:List cj)(R:List Nat):List JK:=R.filterMap fun i=>(l[i]?).map (iL l)
def yG(l:List cj)(R:List Nat):List Tmp:=R.filterMap fun i=>match l[i]? with
 |some o=>cond (kA (DQ l) o) o.dst none
 |none=>none
def yH(l:List cj)(p:List Nat×List Nat):pW:=⟨yG l p.1,iN l p.1,iM l p.2⟩
def inB(l:List cj)(S:YC):Bool:=S.all fun p=>p.1.all (fun i=>bm i l.length)&&p.2.all (fun i=>bm i l.length)
theorem AB3(all:List cj)(o:cj)(st:XS):kE P E (DQ all) o st=DF P E o.dst (NQ all o) st:=by
 obtain⟨d,op,T,pos,af,gd⟩:=o;cases op with
 |call c=>
  obtain⟨cal,args,Ts⟩:=c
  cases cal with
  |builtin b=>cases b<;>rfl
  |_=>rfl
 |_=>rfl
theorem AVD(all:List cj)(o:cj)(r:bp->Option V):EA P o r=HT P (NQ all o) r:=by
 obtain⟨d,op,T,pos,af,gd⟩:=o;cases op with
 |call c=>
  obtain⟨cal,args,Ts⟩:=c
  cases cal with
  |builtin b=>cases b<;>rfl
  |_=>rfl
 |_=>rfl
theorem A61(all:List cj)(o:cj):(kA (DQ all) o||kW o||kP o)=XU (NQ all o):=by
 obtain⟨d,op,T,pos,af,gd⟩:=o;cases op with
 |call c=>
  obtain⟨cal,args,Ts⟩:=c
  cases cal with
  |builtin b=>cases b<;>rfl
  |value f=>simp[kA,kW,kP,XU,NQ]
  |_=>rfl
 |_=>rfl
theorem ANM(all:List cj)(o:cj)(st:XS):tV P E all o st=WN P E (comp all o) st:=by unfold tV WN;rw[AB3,A61];rfl
theorem uU(d:Option Tmp)(k:IK)(st:XS):DF P E d (AH7 k) st=DF P E d k st:=by cases k<;>rfl
theorem ANN(k:IK):XU (AH7 k)=XU k:=by cases k<;>rfl
theorem AVE(all:List cj)(o:cj)(st:XS):WN P E (iL all o) st=WN P E (comp all o) st:=by
 unfold iL comp;cases zB all o with
 |false=>rfl
 |true=>
  show WN P E ⟨LF all o,o.dst,AH7 (NQ all o)⟩ st=_
  unfold WN
  simp only[uU,ANN]
theorem AVF(all:List cj)(o:cj)(r:bp->Option V):cond (zB all o) [] (EA P o r)=HT P (iL all o).k r:=by
 unfold iL;cases hz:zB all o with
 |false=>exact AVD all o r
 |true=>
  obtain⟨T,x,ho⟩:=AP9 hz
  show[]=HT P (AH7 (NQ all o)) r
  unfold NQ
  rw[ho]
  rfl
theorem PZ:∀(l:List JK),WO P E l none=none
 |[]=>rfl
 |_::l=>PZ l
theorem AIB(l:List cj):∀(R:List Nat) (st:XS) (rd wr:AL),R.all (fun i=>bm i l.length)=true->phX P E l R st rd wr=WO P E (iN l R) (some (st,rd,wr))
 |[],st,rd,wr,_=>rfl
 |i::R,st,rd,wr,h=>by
  simp only[bz,bj,bf]at h;have hi:=bw h.1;have hp:iN l (i::R)=iL l l[i]::iN l R:=by simp[iN,hi]
  rw[hp];simp only[phX,hi,WO,AH9,ANM,AVE];cases WN P E (comp l l[i]) st with
  |none=>exact(PZ _).symm
  |some q=>
   obtain⟨st',w⟩:=q
   simp only
   rw[AIB l R _ _ _ h.2,AVF l]
theorem AIC(hl:E.lit=fun _=>false)(l:List cj):∀(R:List Nat) (st:XS),R.all (fun i=>bm i l.length)=true->sqX P E l R st=PB P E (iM l R) (some st)
 |[],st,_=>rfl
 |i::R,st,h=>by
  simp only[bz,bj,bf]at h;have hi:=bw h.1;have hp:iM l (i::R)=comp l l[i]::iM l R:=by simp[iM,hi]
  rw[hp];simp only[sqX,hi,PB,opO,AH8 hl];cases opI P E (comp l l[i]) st with
  |none=>exact(II _).symm
  |some st'=>exact AIC hl l R st' h.2
theorem ME:∀(S:List pW),WP P E S none=none
 |[]=>rfl
 |p::S=>by simp only[WP,AIA,PZ,dQ,II];exact ME S
theorem pX(l:List cj)(st:XS):∀(R:List Nat),bY (DQ l) l R st.s.loc=kY (yG l R) st
 |[]=>rfl
 |i::R=>by
  have ih:=pX l st R;unfold bY kY yG at *;simp only[bz,List.filterMap_cons,ih];cases hi:l[i]? with
  |none=>simp
  |some o=>
   simp only
   cases hk:kA (DQ l) o with
   |false=>simp
   |true=>
    cases hd:o.dst with
    |none=>simp
    |some d=>simp
theorem yI(hl:E.lit=fun _=>false)(l:List cj):∀(S:YC) (st:XS),inB l S=true->ABI P E l S st=WP P E (S.map (yH l)) (some st)
 |[],st,_=>rfl
 |p::S,st,h=>by
  simp only[inB,bz,bj]at h;obtain⟨⟨h1,h2⟩,h3⟩:=h;simp only[ABI,List.map_cons,WP,yH,AIA,pX];cases kY (yG l p.1) st with
  |false=>
   simp only[PZ,dQ,II]
   exact(ME _).symm
  |true=>
   simp only[AIB l _ _ _ _ h1]
   cases WO P E (iN l p.1) (some (st,[],[]))with
   |none=>simp only[dQ,II];exact(ME _).symm
   |some q=>
    obtain⟨st1,rd,wr⟩:=q
    simp only[dQ]
    cases (wr.all fun p=>!rd.contains p)with
    |false=>simp only[II];exact(ME _).symm
    |true=>
     simp only[AIC hl l _ _ h2]
     cases PB P E (iM l p.2) (some st1)with
     |none=>exact(ME _).symm
     |some G5=>exact yI hl l S G5 h3
inductive IR where
 |str (l:List JK)
 |drw (S:List pW)
 |cls (ks:List (Nat×Nat×Nat))
def yJ(P:bt)(ops:List cj)(draw:Bool):IR:=cond draw (cond (YF P ops) (.cls (IG ops)) (.drw ((eX ops).map (yH ops)))) (.str (ops.map (comp ops)))
def okR(P:bt)(ops:List cj)(draw:Bool):Bool:=cond draw (cond (YF P ops) true (inB ops (eX ops))) true
def KC(P:bt)(E:XE)(i:IR)(st:XS):Option XS:=match i with
 |.str l=>PB P E l (some st)
 |.drw S=>WP P E S (some st)
 |.cls ks=>fD P ks (some st)
end Go.Pg
namespace Go.Pg
variable {P:bt}{σ σ':Nat->Nat}{δ:Nat}{pre:List AA}{s:St}{fr:Fr}
abbrev Tr:=Option (List Nat×List Nat)
abbrev Ann:=Nat->Nat->Tr
def CH(a:Tr)(st:XS):XS:=match a with
 |some p=>RH p.1 p.2 st
 |none=>st
theorem MF{a:Tr}{st:XS}(h:Bd st):KM st (CH a st):=by
 cases a with
 |none=>exact⟨Nat.le_refl _,h,rfl⟩
 |some p=>exact UO h
theorem IQ{a:Tr}{st:XS}:(CH a st).c=st.c:=by cases a<;>rfl
theorem KD{n N:Nat}{ρ:Option Nat}{c:ck}{K:Exit->Fr->St->Prop}{a:Tr}{st:XS}(h:BE P n N ρ c K ((CH a st).fr.ren σ pre.length) ((CH a st).s.emb σ pre)):BE P n N ρ c K (st.fr.ren σ pre.length) (st.s.emb σ pre):=by
 cases a with
 |none=>exact h
 |some p=>exact WA h
def A62(P:bt)(E:XE)(a:Tr)(l:List cj)(draw:Bool)(st:XS):Option XS:=Bool.rec (kB P E l l (CH a st)) (Bool.rec (QQ P E l (CH a st)) (fD P (IG l) (some (CH a st))) (YF P l)) draw
def isY:List Nat->Bool
 |k::_=>bx k 777
 |[]=>false
def AID(P:bt)(E:XE)(N:Nat)(a:Tr)(l:List cj)(draw:Bool)(us:List Nat)(st:XS):Option XS:=Bool.rec (A62 P (cfU us E) a l draw st) (Bool.rec none (xW P E N l (CH a st)) draw) (isY us)
def A8(rec:eC)(body:ck)(a:Tr)(n:Nat):XS->Option (Exit×XS):=Nat.rec (motive:=fun _=>XS->Option (Exit×XS)) (fun _=>none) (fun _ ih st=>match rec body st with
 |some (.normal,st')=>ih (CH a st')
 | r=>r) n
def kZ(id:Nat)(l:List cj):Nat:=id+1000*l.length+1000000*(match l with
 |o::_=>match o.dst with
  |some d=>d
  |none=>0
 | []=>0)
def BU:ck->Nat
 |.region id ops _=>kZ id ops.toList
 |.seq a _=>BU a
 |.block _ c=>BU c
 |.loop c=>BU c
 |.scope c=>BU c
 |_=>0
def AB4:Tr->List Nat
 |some p=>p.1
 |none=>[]
def NR:Nat:=1000000000000000
def AB5:Tr->List Nat
 |some p=>p.2
 |none=>[]
def WQ(P:bt)(E:XE)(A:Ann)(n N:Nat)(rec:eC):eC:=fun code st=>match code with
 |.region id ops draw=>PW (AID P E N (A N (kZ id ops.toList)) ops.toList draw (AB5 (A N (kZ id ops.toList+NR))) (ND (AB4 (A N (kZ id ops.toList+NR))) st))
 |.loop body=>A8 rec body (A N (BU body)) n (CH (A N (BU body)) st)
 |c=>cM P E n N rec c st
def AE(P:bt)(A:Ann)(kn:CF0)(n:Nat):HP:=Nat.rec (motive:=fun _=>HP) (fun _ _ _=>none) (fun n ih N=>WQ P (A5X P kn (fun _ _ _=>none) (fun _=>false) ih) A n N (ih N)) n
theorem ANO(hP:EB P){E:XE}(hEE:KA P E){a:Tr}{id:Nat}{ops:Array cj}{draw:Bool}{N:Nat}(hN:EX N (.region id ops draw)=true){st st':XS}(hx:A62 P E a ops.toList draw st=some st')(hbd:Bd st):KM st st' /\
  ∀(n:Nat) (ρ:Option Nat) (σ:Nat->Nat) (pre:List AA) (K:Exit->Fr->St->Prop),(∀σ',AR st.c σ σ'->K .normal (st'.fr.ren σ' pre.length) (st'.s.emb σ' pre))->BE P n N ρ (.region id ops draw) K (st.fr.ren σ pre.length) (st.s.emb σ pre):=by
 obtain⟨l⟩:=ops
 have hT:=MF (a:=a) hbd
 have ext:∀{st'},KM (CH a st) st'->KM st st':=fun h=>⟨by have:=h.c;rwa [IQ]at this,h.bd,h.n.trans hT.n⟩
 cases draw with
 |false=>
  simp only[EX,cond_false,bj]at hN
  have hx:kB P E l l (CH a st)=some st':=hx
  obtain⟨hE,hs⟩:=kD hEE hT.bd hx
  refine⟨ext hE,fun n ρ σ pre K hk=>KD (a:=a) ?_⟩
  exact XI (l.map (LF l)) hN.1 (jV (UH hN.2)) (hs σ pre _ fun σ' ha=>hk σ' (by rwa [IQ]at ha))
 |true=>
  simp only[EX,cond_true]at hN
  cases hc:YF P l with
  |true=>
   have hx:(Bool.rec (QQ P E l (CH a st)) (fD P (IG l) (some (CH a st))) (YF P l):Option XS)=some st':=hx
   rw[hc]at hx
   obtain⟨hE,hs⟩:=AM8 (id:=id) hP hN hc hx hT.bd
   exact⟨ext hE,fun n ρ σ pre K hk=>KD (a:=a) (hs n ρ σ pre K fun σ' ha=>hk σ' (by rwa [IQ]at ha))⟩
  |false=>
  have hx:(Bool.rec (QQ P E l (CH a st)) (fD P (IG l) (some (CH a st))) (YF P l):Option XS)=some st':=hx
  rw[hc]at hx
  obtain⟨hE,hs⟩:=dF (id:=id) hP hEE hN hx hT.bd
  exact⟨ext hE,fun n ρ σ pre K hk=>KD (a:=a) (hs n ρ σ pre K fun σ' ha=>hk σ' (by rwa [IQ]at ha))⟩
theorem ANP(hP:EB P){E:XE}(hEE:KA P E){a:Tr}{us:List Nat}{id:Nat}{ops:Array cj}{draw:Bool}{N:Nat}(hN:EX N (.region id ops draw)=true){st st':XS}(hx:AID P E N a ops.toList draw us st=some st')(hbd:Bd st):KM st st' /\
  ∀(n:Nat) (ρ:Option Nat) (σ:Nat->Nat) (pre:List AA) (K:Exit->Fr->St->Prop),(∀σ',AR st.c σ σ'->K .normal (st'.fr.ren σ' pre.length) (st'.s.emb σ' pre))->BE P n N ρ (.region id ops draw) K (st.fr.ren σ pre.length) (st.s.emb σ pre):=by
 unfold AID at hx
 cases hy:isY us with
 |false=>rw[hy]at hx;exact ANO hP (AUF hEE _) hN hx hbd
 |true=>
  rw[hy]at hx
  cases draw with
  |false=>cases hx
  |true=>
   have hx:xW P E N ops.toList (CH a st)=some st':=hx
   have hT:=MF (a:=a) hbd
   obtain⟨hE,hs⟩:=AHJ hP hEE (id:=id) hx hT.bd
   refine⟨⟨by have:=hE.c;rwa [IQ]at this,hE.bd,hE.n.trans hT.n⟩,fun n ρ σ pre K hk=>KD (a:=a) ?_⟩
   exact hs n ρ σ pre K fun σ' ha=>hk σ' (by rwa [IQ]at ha)
theorem AIE{N:Nat}{rec:eC}(hrec:cP P N rec){body:ck}{a:Tr}(hN:EX N body=true)(m:Nat){st st':XS}{e:Exit}(hx:A8 rec body a m (CH a st)=some (e,st'))(hbd:Bd st):KM st st'/\(∀l,e≠.goto l) /\
  ∀(n:Nat) (ρ:Option Nat) (σ:Nat->Nat) (pre:List AA) (K:Exit->Fr->St->Prop),(ρ=none\/GH body=true)->(∀σ',AR st.c σ σ'->K e (st'.fr.ren σ' pre.length) (st'.s.emb σ' pre))->BE P n N ρ (.loop body) K (st.fr.ren σ pre.length) (st.s.emb σ pre):=by
 have up:∀{st st':XS},Bd st->KM (CH a st) st'->KM st st':=fun hbd h=>⟨by have:=h.c;rwa [IQ]at this,h.bd,h.n.trans (MF hbd).n⟩
 have ext:∀(m:Nat) {st:XS},A8 rec body a m (CH a st)=some (e,st')->Bd st->KM st st'/\(∀l,e≠.goto l):=by
  intro m;induction m with
  |zero=>intro st hx _;cases hx
  |succ m ih=>
   intro st hx hbd
   have hx:(match rec body (CH a st)with
    |some (.normal,st')=>A8 rec body a m (CH a st')
    | r=>r)=some (e,st'):=hx
   have hT:=MF (a:=a) hbd
   split at hx
   ·rename_i st1 h1;obtain⟨hE,_,_⟩:=hrec _ _ _ _ h1 hT.bd hN;obtain⟨hE',hg⟩:=ih hx hE.bd;exact⟨up hbd ⟨Nat.le_trans hE.c hE'.c,hE'.bd,hE'.n.trans hE.n⟩,hg⟩
   ·obtain⟨hE,hg,_⟩:=hrec _ _ _ _ hx hT.bd hN;exact⟨up hbd ⟨hE.c,hE.bd,hE.n⟩,hg⟩
 obtain⟨hE,hg⟩:=ext m hx hbd
 refine⟨hE,hg,fun n ρ σ pre K hρ hk=>?_⟩
 refine gJ (fun m fr s=>∃(st:XS) (σ:Nat->Nat),fr=st.fr.ren σ pre.length/\s=st.s.emb σ pre/\Bd st/\A8 rec body a m (CH a st)=some (e,st')/\∀σ',AR st.c σ σ'->K e (st'.fr.ren σ' pre.length) (st'.s.emb σ' pre)) m ⟨st,σ,rfl,rfl,hbd,hx,hk⟩ ?_
 rintro m fr s ⟨st,σ,rfl,rfl,hbd,hx,hk⟩
 cases m with
 |zero=>cases hx
 |succ m=>
  have hx:(match rec body (CH a st)with
   |some (.normal,st')=>A8 rec body a m (CH a st')
   | r=>r)=some (e,st'):=hx
  have hT:=MF (a:=a) hbd
  refine KD (a:=a) ?_
  split at hx
  ·rename_i st1 h1;obtain⟨hE,_,hC⟩:=hrec _ _ _ _ h1 hT.bd hN;refine hC n ρ σ pre _ hρ fun σ' ha=>?_;rw[IQ]at ha;exact⟨m,Nat.lt_succ_self _,st1,σ',rfl,rfl,hE.bd,hx,fun σ'' ha'=>hk σ'' (ha.trans ha' (by have:=hE.c;rwa [IQ]at this))⟩
  ·rename_i hne;obtain⟨hE,hg,hC⟩:=hrec _ _ _ _ hx hT.bd hN;refine hC n ρ σ pre _ hρ fun σ' ha=>?_;rw[IQ]at ha;have:=hk σ' ha;cases e with
   |normal=>exact absurd hx (hne st')
   |_=>exact this
theorem lA(hP:EB P){E:XE}(hEE:KA P E){A:Ann}{N:Nat}{rec:eC}(hrec:cP P N rec)(m:Nat):cP P N (WQ P E A m N rec):=by
 intro code st e st' hx hbd hN;unfold WQ at hx;split at hx
 ·rename_i id ops draw;obtain⟨rfl,hx2⟩:=pS hx;have hT:=xR (AB4 (A N (kZ id ops.toList+NR))) hbd;obtain⟨hE,hs⟩:=ANP hP hEE hN hx2 hT.bd;exact⟨⟨Nat.le_trans hT.c hE.c,hE.bd,hE.n.trans hT.n⟩,(by intro l h;cases h),fun n ρ σ pre K _ hk=>pN _ (hs n ρ σ pre K fun σ' ha=>hk σ' (by rwa [AQH]at ha))⟩
 ·rename_i body;have hN:EX N body=true:=hN;obtain⟨h1,h2,h3⟩:=AIE hrec hN m hx hbd;exact⟨h1,h2,fun n ρ σ pre K hρ hk=>h3 n ρ σ pre K hρ hk⟩
 ·exact pT hP hEE hrec m _ _ _ _ hx hbd hN
theorem dR(hP:EB P){A:Ann}{kn:CF0}(hkn:HL P kn):∀n,cQ P (AE P A kn n)
 |0=>fun N code st e st' hx=>by cases hx
 |n+1=>fun N=>by have ih:=dR hP (A:=A) hkn n;exact lA hP ⟨AGU hP hkn ih,ANA hP ih,cU hP hkn ih,AGT hP hkn (ko:=fun _ _ _=>none) (fun _ _ _ _ h=>by cases h) ih⟩ (ih N) n
theorem AIF(hP:EB P){A:Ann}{kn:CF0}(hkn:HL P kn){n:Nat}{f:cq}{args:List V}{r:V}(h:E1 P (AE P A kn n) f args=some r)(s:St):FL P f args s fun r' s'=>r'=r/\s'=s :=
 (cS hP (dR hP hkn n) f args r h).1 s
section
variable {A:Ann}{kn:CF0}{n N:Nat}{st:XS}
abbrev BN(P:bt)(A:Ann)(kn:CF0)(n:Nat):XE:=A5X P kn (fun _ _ _=>none) (fun _=>false) (AE P A kn n)
theorem AIG(a b:ck):AE P A kn (n+1) N (.seq a b) st=eZ (AE P A kn n N) b (AE P A kn n N a st):=rfl
theorem AB6(c:bp)(a b:ck):AE P A kn (n+1) N (.cond c a b) st=pB (AE P A kn n N) a b st (CK st.fr c):=rfl
theorem uV(id:Nat)(b:ck):AE P A kn (n+1) N (.block id b) st=LG id (AE P A kn n N b st):=rfl
theorem AB7(b:ck):AE P A kn (n+1) N (.loop b) st=A8 (AE P A kn n N) b (A N (BU b)) n (CH (A N (BU b)) st):=rfl
theorem AB8:AE P A kn (n+1) N .skip st=some (.normal,st):=rfl
theorem AB9(id:Nat):AE P A kn (n+1) N (.exit id) st=some (.exit id,st):=rfl
theorem AIH:AE P A kn (n+1) N .ret st=some (.ret,st):=rfl
theorem uW(b:ck):AE P A kn (n+1) N (.scope b) st=AE P A kn n N b st:=rfl
theorem RL(g:bp)(ps:Array Tmp)(asg body:ck):AE P A kn (n+1) N (.rangeFunc g ps asg body) st=WB (BN P A kn n).cf N g ps.toList asg body st:=rfl
theorem AB(rec:eC)(body:ck)(a:Tr):A8 rec body a (n+1) st=match rec body st with
 |some (.normal,st')=>A8 rec body a n (CH a st')
 |r=>r:=rfl
theorem pY(rec:eC)(b:ck):eZ rec b (some (.normal,st))=rec b st:=rfl
theorem AII(rec:eC)(b:ck):eZ rec b (some (.ret,st))=some (.ret,st):=rfl
theorem ACA(rec:eC)(b:ck)(i:Nat):eZ rec b (some (.exit i,st))=some (.exit i,st):=rfl
theorem AIJ(rec:eC)(b:ck)(c:Prop)[Decidable c](x y:Option (Exit×XS)):eZ rec b (if c then x else y)=if c then eZ rec b x else eZ rec b y:=by split<;>rfl
theorem fH(id:Nat):LG id (some (.normal,st))=some (.normal,st):=rfl
theorem uX(id:Nat):LG id (some (.ret,st))=some (.ret,st):=rfl
theorem pZ(id i:Nat):LG id (some (.exit i,st))=if i=id then some (.normal,st) else some (.exit i,st):=by
 show(Bool.rec _ _ (bx i id):Option (Exit×XS))=_;by_cases h:i=id
 ·subst h;simp
 ·have:bx i id=false:=by
   cases hb:bx i id with
   |false=>rfl
   |true=>exact absurd (Nat.eq_of_beq_eq_true hb) h
  simp[h,this]
theorem uY(id:Nat)(c:Prop)[Decidable c](x y:Option (Exit×XS)):LG id (if c then x else y)=if c then LG id x else LG id y:=by split<;>rfl
def yK:ck->Bool
 |.region ..=>true
 |_=>false
def XV:ck->List cj
 |.region _ ops _=>ops.toList
 |_=>[]
def PC:ck->Bool
 |.region _ _ d=>d
 |_=>false
theorem yL(us:List Nat){E:XE}(h:E.lit=fun _=>false):(cfU us E).lit=fun _=>false:=by cases us<;>exact h
theorem WR{r:ck}(hr:yK r=true){i:IR}(hi:yJ P (XV r) (PC r)=i)(hok:okR P (XV r) (PC r)=true){a:Tr}(ha:A N (BU r)=a){ks us:List Nat}(ht:AB4 (A N (BU r+NR))=ks)(hu:AB5 (A N (BU r+NR))=us)(hy:isY us=false:=by rfl):AE P A kn (n+1) N r st=PW (KC P (cfU us (BN P A kn n)) i (CH a (ND ks st))):=by
 cases r with
 |region id ops draw=>
  subst hi ha ht hu
  show PW (AID P _ N (A N (kZ id ops.toList)) ops.toList draw (AB5 (A N (kZ id ops.toList+NR))) (ND (AB4 (A N (kZ id ops.toList+NR))) st))=_
  unfold AID
  rw[show isY (AB5 (A N (kZ id ops.toList+NR)))=false from hy]
  cases draw with
  |false=>exact congrArg PW (yF (yL _ rfl) _ _ _)
  |true=>
   show PW (Bool.rec (QQ P _ ops.toList _) (fD P (IG ops.toList) (some _)) (YF P ops.toList))=PW (KC P _ (cond (YF P ops.toList) (.cls (IG ops.toList)) (.drw ((eX ops.toList).map (yH ops.toList)))) _)
   have hok:cond (YF P ops.toList) true (inB ops.toList (eX ops.toList))=true:=hok
   cases hc:YF P ops.toList with
   |true=>rfl
   |false=>
    rw[hc]at hok
    exact congrArg PW (yI (yL _ rfl) _ _ _ hok)
 |_=>cases hr
theorem DT{r:ck}(hr:yK r=true){i:IR}(hi:yJ P (XV r) (PC r)=i)(hok:okR P (XV r) (PC r)=true){a:Tr}(ha:A N (BU r)=a){ks:List Nat}(ht:AB4 (A N (BU r+NR))=ks)(hu:AB5 (A N (BU r+NR))=[]:=by kernel_rfl):AE P A kn (n+1) N r st=PW (KC P (BN P A kn n) i (CH a (ND ks st))):=WR hr hi hok ha ht hu rfl
theorem AIK{r:ck}(hr:yK r=true){i:IR}(hi:yJ P (XV r) (PC r)=i)(hok:okR P (XV r) (PC r)=true){a:Tr}(ha:A N (BU r)=a)(ht:A N (BU r+NR)=none:=by kernel_rfl):AE P A kn (n+1) N r st=PW (KC P (BN P A kn n) i (CH a st)):=DT hr hi hok ha (congrArg AB4 ht) (congrArg AB5 ht)
def dS(P:bt)(rs:List ResultVar)(r:Option (Exit×XS)):Option V:=match r with
 |some (.ret,st)=>finV st.s (GZ P rs st.fr st.s)
 |some (.normal,st)=>finV st.s (GZ P rs st.fr st.s)
 |_=>none
where finV (s:St) (r:Option V):Option V:=match r with
 |some v=>match A3 s 4 v with
  |some r'=>Bool.rec none (some r') (AG 9 r')
  |none=>none
 |none=>none
theorem AM{f:cq}{fn:Func}{c:ck}{args:List V}{rec:HP}(hf:P.funcs[f]? = some fn)(hb:fn.body=some c)(hs:bh args.length fn.ntmps=true)(hcl:args.all (AG 9)=true) :
  E1 P rec f args=dS P fn.results.toList (rec fn.ntmps c ⟨0,AF 0 args,⟨[],[]⟩⟩):=by
 unfold E1 gX XQ pC
 rw[hcl,hf]
 simp only[hb,hs]
 generalize rec fn.ntmps c ⟨0,AF 0 args,⟨[],[]⟩⟩=q
 have aux:∀st:XS,(match(match GZ P fn.results.toList st.fr st.s with
   |some r=>match A3 st.s 4 r with
    |some r'=>some (r',st.c,st.s.up.map (AH st.s))
    |none=>none
   | none=>none:Option (V×Nat×List AA))with
  |some (r,_,_)=>(Bool.rec none (some r) (AG 9 r):Option V)
  | none=>none)=dS.finV st.s (GZ P fn.results.toList st.fr st.s):=fun st=>by
  unfold dS.finV
  cases GZ P fn.results.toList st.fr st.s with
  |none=>rfl
  |some r=>
   cases h:A3 st.s 4 r with
   |none=>simp[h]
   |some r'=>simp[h]
 cases q with
 |none=>rfl
 |some q=>
  obtain⟨e,st⟩:=q
  cases e with
  |ret=>exact aux st
  |normal=>exact aux st
  |_=>rfl
theorem AIL(rs:List ResultVar)(c:Prop)[Decidable c](x y:Option (Exit×XS)):dS P rs (if c then x else y)=if c then dS P rs x else dS P rs y:=by split<;>rfl
end
def LI:ck->List Nat->ck
 |c,[]=>c
 |.seq a b,i::p=>bif bx i 0 then LI a p else LI b p
 |.cond _ a b,i::p=>bif bx i 0 then LI a p else LI b p
 |.block _ a,_::p=>LI a p
 |.loop a,_::p=>LI a p
 |.scope a,_::p=>LI a p
 |.rangeFunc _ _ a b,i::p=>bif bx i 0 then LI a p else LI b p
 |c,_=>c
def AVG(fn:Func):ck:=match fn.body with
 |some c=>c
 |none=>.skip
end Go.Pg
namespace Go.Pg
variable {P:bt}{E:XE}{st:XS}{fr:Fr}{s:St}
@[simp] theorem A63(r:Option XS):PB P E [] r=r:=rfl
@[simp] theorem AZG(i:JK)(l:List JK)(r:Option XS):PB P E (i::l) r=PB P E l (opO P E i r):=rfl
@[simp] theorem A64(i:JK):opO P E i (some st)=opI P E i st:=rfl
@[simp] theorem A65(i:JK):opO P E i none=none:=rfl
@[simp] theorem A66(l:List JK)(c:Prop)[Decidable c](x y:Option XS):PB P E l (if c then x else y)=if c then PB P E l x else PB P E l y:=by split<;>rfl
def gI(P:bt)(E:XE)(d:Option Tmp)(k:IK)(st:XS)(w:Bool)(r:Option (Bool×V)):Option XS:=match r with
 |some (c,.bool b)=>Bool.rec (some (I7 d st)) (CX P E d k st) (c&&(b==w))
 |_=>none
@[simp] theorem A67(d:Option Tmp)(k:IK):opI P E ⟨none,d,k⟩ st=CX P E d k st:=rfl
@[simp] theorem AZH(t:Tmp)(w:Bool)(d:Option Tmp)(k:IK):opI P E ⟨some (t,w),d,k⟩ st=gI P E d k st w (BG st.fr t):=by
 show(match(match BG st.fr t with | some (c,.bool b)=>some (c&&(b == w)) | _=>none:Option Bool)with
  |some true=>CX P E d k st
  |some false=>some (I7 d st)
  | none=>none)=_
 unfold gI;cases BG st.fr t with
 |none=>rfl
 |some p=>
  obtain⟨c,v⟩:=p
  cases v with
  |bool b=>cases h:(c&&(b==w))<;>simp[h]
  |_=>rfl
@[simp] theorem BJ7(d:Option Tmp)(k:IK):gI P E d k st true (some (true,.bool true))=CX P E d k st:=rfl
@[simp] theorem BJ8(d:Option Tmp)(k:IK):gI P E d k st true (some (true,.bool false))=some (I7 d st):=rfl
@[simp] theorem BJ9(d:Option Tmp)(k:IK):gI P E d k st false (some (true,.bool true))=some (I7 d st):=rfl
@[simp] theorem BKA(d:Option Tmp)(k:IK):gI P E d k st false (some (true,.bool false))=CX P E d k st:=rfl
@[simp] theorem BKB(d:Option Tmp)(k:IK)(w b:Bool):gI P E d k st w (some (false,.bool b))=some (I7 d st):=rfl
@[simp] theorem A68(d:Tmp)(c:Nat)(fr:Fr)(s:St):I7 (some d) ⟨c,fr,s⟩=⟨c,(d,false,.bool false)::fr,s⟩:=rfl
@[simp] theorem A69(k:Nat):BG [] k=none:=rfl
@[simp] theorem AZI(j:Nat)(x:Bool×V)(fr:Fr)(k:Nat):BG ((j,x)::fr) k=if k=j then some x else BG fr k:=by rw[FE,FE];rfl
@[simp] theorem AVH(j:Nat)(x:Nat×AX)(L:AA)(k:Nat):AA.get ((j,x)::L) k=if k=j then some x else L.get k:=rfl
def rdT:Option (Bool×V)->Option V
 |some (true,v)=>some v
 |_=>none
@[simp] theorem AIM(v:V):rdT (some (true,v))=some v:=rfl
@[simp] theorem AZJ(v:V):rdT (some (false,v))=none:=rfl
@[simp] theorem BBG(t:Tmp):CK fr (.tmp t)=rdT (BG fr t):=by
 show(match BG fr t with
  |some (true,v)=>some v
  | _=>none)=_
 cases BG fr t with
 |none=>rfl
 |some p=>obtain⟨c,v⟩:=p;cases c<;>rfl
@[simp] theorem AZK(v:Value):CK fr (.const v)=CL v:=rfl
@[simp] theorem A7B(f:cq):CK fr (.func f)=some (.fn f [] []):=rfl
@[simp] theorem BBH(t:Tmp):rdC fr (.tmp t)=BG fr t:=rfl
@[simp] theorem A7C(b:Bool):rdC fr (.const (.bool b))=some (true,.bool b):=rfl
@[simp] theorem AVI(k:cw)(n:Int):CL (.int k n)=some (.int k n):=rfl
@[simp] theorem AQR(b:Bool):CL (.bool b)=some (.bool b):=rfl
@[simp] theorem AVJ:CL (.slice none 0 0)=some .nil:=rfl
@[simp] theorem AZL(d:Tmp)(c:Nat)(fr:Fr)(s:St)(v:V):EO (some d) ⟨c,fr,s⟩ (some v)=some ⟨c,(d,true,v)::fr,s⟩:=rfl
@[simp] theorem AZM(d:Option Tmp):EO d st none=none:=rfl
@[simp] theorem A7D(d:Option Tmp)(c:Prop)[Decidable c](x y:Option V):EO d st (if c then x else y)=if c then EO d st x else EO d st y:=by split<;>rfl
section
variable (d:Option Tmp)(c:Nat)
@[simp] theorem A7E(x:bp):CX P E d (.mv x) ⟨c,fr,s⟩=EO d ⟨c,fr,s⟩ (CK fr x):=rfl
def AVK(P:bt)(op:BinOp)(T:bn):Option V->Option V->Option V
 |some a,some b=>H0 P op T a b
 |_,_=>none
@[simp] theorem AZN(op:BinOp)(T:bn)(a b:V):AVK P op T (some a) (some b)=H0 P op T a b:=rfl
@[simp] theorem AZO(op:BinOp)(T:bn)(x y:bp):CX P E d (.bin op T x y) ⟨c,fr,s⟩=EO d ⟨c,fr,s⟩ (AVK P op T (CK fr x) (CK fr y)):=by show EO d _ (ABG P fr op T x y)=_;unfold ABG AVK;cases CK fr x<;>cases CK fr y<;>rfl
def fa1(P:bt)(T:bn)(f:Nat):Option V->Option V
 |some p=>C6 P T p f
 |none=>none
@[simp] theorem A7F(T:bn)(f:Nat)(p:V):fa1 P T f (some p)=C6 P T p f:=rfl
@[simp] theorem A7G(T:bn)(x:bp)(f:Nat):CX P E d (.fa T x f) ⟨c,fr,s⟩=EO d ⟨c,fr,s⟩ (fa1 P T f (CK fr x)):=by show EO d _ (xFA P fr T x f)=_;unfold xFA fa1;cases CK fr x<;>rfl
def wh1(P:bt)(T:bn):Option (List V)->Option V
 |some cs=>BH P T cs
 |none=>none
@[simp] theorem A7H(T:bn)(cs:List V):wh1 P T (some cs)=BH P T cs:=rfl
def ld1(P:bt)(s:St)(T:bn):Option V->Option V
 |some p=>wh1 P T (A6 s p)
 |none=>none
@[simp] theorem AIN(T:bn)(p:V):ld1 P s T (some p)=wh1 P T (A6 s p):=rfl
@[simp] theorem A7I(T:bn)(x:bp):CX P E d (.ld T x) ⟨c,fr,s⟩=EO d ⟨c,fr,s⟩ (ld1 P s T (CK fr x)):=by
 show EO d _ (QN P fr s T x)=_;unfold QN ld1;cases CK fr x with
 |none=>rfl
 |some p=>unfold wh1;cases A6 s p<;>rfl
def pk3:Option V->Option (Bool×V)->Option (Bool×V)->Option V
 |some (.bool c),some (ca,.bool a),some (cb,.bool b)=>Bool.rec (Bool.rec none (some (.bool b)) cb) (Bool.rec none (some (.bool a)) ca) c
 |_,_,_=>none
@[simp] theorem A7J(a cb b:Bool):pk3 (some (.bool true)) (some (true,.bool a)) (some (cb,.bool b))=some (.bool a):=rfl
@[simp] theorem AZP(ca a b:Bool):pk3 (some (.bool false)) (some (ca,.bool a)) (some (true,.bool b))=some (.bool b):=rfl
@[simp] theorem A7K(c a b:Bool):pk3 (some (.bool c)) (some (true,.bool a)) (some (true,.bool b))=some (.bool (if c then a else b)):=by cases c<;>rfl
@[simp] theorem AVL(x y z:bp):CX P E d (.pick x y z) ⟨c,fr,s⟩=EO d ⟨c,fr,s⟩ (pk3 (CK fr x) (rdC fr y) (rdC fr z)):=rfl
def ba2:Option V->Nat->Option (List (Nat×V))->Option (List (Nat×V))
 |some v,i,some l=>some ((i,v)::l)
 |_,_,_=>none
@[simp] theorem A7L(v:V)(i:Nat)(l:List (Nat×V)):ba2 (some v) i (some l)=some ((i,v)::l):=rfl
@[simp] theorem AVM(r:bp->Option V):C8 r []=some []:=rfl
@[simp] theorem AQS(r:bp->Option V)(i:Nat)(x:bp)(l:List (Nat×bp)):C8 r ((i,x)::l)=ba2 (r x) i (C8 r l):=by simp only[C8];unfold ba2;cases r x<;>cases C8 r l<;>rfl
def bd1(P:bt)(T:bn):Option (List (Nat×V))->Option V
 |some l=>CQ P T l
 |none=>none
@[simp] theorem A7M(T:bn)(l:List (Nat×V)):bd1 P T (some l)=CQ P T l:=rfl
@[simp] theorem AQT(T:bn)(ps:List (Nat×bp)):CX P E d (.build T ps) ⟨c,fr,s⟩=EO d ⟨c,fr,s⟩ (bd1 P T (C8 (CK fr) ps)):=by show EO d _ (V6 P fr T ps)=_;unfold V6 bd1;cases C8 (CK fr) ps<;>rfl
def bs1(P:bt)(T:bn)(n:Nat):Option (List (Nat×V))->Option V
 |some l=>CB P T n l
 |none=>none
@[simp] theorem A7N(T:bn)(n:Nat)(l:List (Nat×V)):bs1 P T n (some l)=CB P T n l:=rfl
@[simp] theorem ANQ(T:bn)(n:Nat)(ps:List (Nat×bp)):CX P E d (.buildS T n ps) ⟨c,fr,s⟩=EO d ⟨c,fr,s⟩ (bs1 P T n (C8 (CK fr) ps)):=by show EO d _ (PU P fr T n ps)=_;unfold PU bs1;cases C8 (CK fr) ps<;>rfl
@[simp] theorem AZQ(op:Op):CX P E d (.oth op) ⟨c,fr,s⟩=EO d ⟨c,fr,s⟩ (JN P (rR op) s (CK fr)):=rfl
def al1(d:Tmp)(c:Nat)(fr:Fr)(s:St):Option (List V)->Option XS
 |some cs=>some ⟨c+1,(d,true,.ptr s.up.length d c 0)::fr,s.put s.up.length d c (.box cs)⟩
 |none=>none
@[simp] theorem A7O(d:Tmp)(cs:List V):al1 d c fr s (some cs)=some ⟨c+1,(d,true,.ptr s.up.length d c 0)::fr,s.put s.up.length d c (.box cs)⟩:=rfl
@[simp] theorem AQU(d:Tmp)(T:bn):CX P E (some d) (.alloc T) ⟨c,fr,s⟩=al1 d c fr s (B8 P T):=by show O0 P (some d) T _=_;unfold O0 al1;cases B8 P T<;>rfl
def bx1(d:Tmp)(c:Nat)(fr:Fr)(s:St):Option V->Option XS
 |some v=>Bool.rec none (some ⟨c+1,(d,true,.ptr s.up.length d c 0)::fr,s.put s.up.length d c (.box (A9 v))⟩) (BA v)
 |none=>none
@[simp] theorem BBL(d:Tmp)(k:cw)(n:Int):bx1 d c fr s (some (.int k n))=some ⟨c+1,(d,true,.ptr s.up.length d c 0)::fr,s.put s.up.length d c (.box [.int k n])⟩:=rfl
@[simp] theorem BBM(d:Tmp)(cs:List V):bx1 d c fr s (some (.agg cs))=some ⟨c+1,(d,true,.ptr s.up.length d c 0)::fr,s.put s.up.length d c (.box cs)⟩:=rfl
@[simp] theorem A7P(d:Tmp)(b:Bool)(es:List (List V)):bx1 d c fr s (some (.list b es))=some ⟨c+1,(d,true,.ptr s.up.length d c 0)::fr,s.put s.up.length d c (.box [.list b es])⟩:=rfl
@[simp] theorem BBN(d:Tmp):bx1 d c fr s (some .nil)=some ⟨c+1,(d,true,.ptr s.up.length d c 0)::fr,s.put s.up.length d c (.box [.nil])⟩:=rfl
@[simp] theorem BBO(d:Tmp)(l k g n:Nat):bx1 d c fr s (some (.vec l k g n))=some ⟨c+1,(d,true,.ptr s.up.length d c 0)::fr,s.put s.up.length d c (.box [.vec l k g n])⟩:=rfl
@[simp] theorem AZR(d:Tmp)(x:bp):CX P E (some d) (.box x) ⟨c,fr,s⟩=bx1 d c fr s (CK fr x):=by show oR (some d) x _=_;unfold oR bx1;cases CK fr x<;>rfl
def st3(γ:Nat)(P:bt)(T:bn)(c:Nat)(fr:Fr)(s:St)(l q off:Nat)(v:V):Option (Nat×AX)->Option XS
 |some (γ',.box cs)=>if γ'=γ/\BA v=true/\0<P.cellsOf T/\(A9 v).length=P.cellsOf T/\off+P.cellsOf T<=cs.length/\γ<c then some ⟨c,fr,s.put l q γ (.box (A4 cs off (A9 v)))⟩ else none
 |_=>none
def st4(γ:Nat)(P:bt)(T:bn)(c:Nat)(fr:Fr)(s:St)(l q i off:Nat)(v:V):Option (Nat×AX)->Option XS
 |some (γ',.vec U es)=>if γ'=γ/\BA v=true/\0<P.cellsOf T/\(A9 v).length=P.cellsOf T/\i<es.length/\off+P.cellsOf T<=(es.getD i []).length/\γ<c then some ⟨c,fr,s.put l q γ (.vec U (es.set i (A4 (es.getD i []) off (A9 v))))⟩ else none
 |_=>none
def G5(P:bt)(T:bn)(c:Nat)(fr:Fr)(s:St):Option V->Option V->Option XS
 |some (.ptr l q γ off),some v=>st3 γ P T c fr s l q off v (s.get l q)
 |some (.eptr l q γ i off),some v=>st4 γ P T c fr s l q i off v (s.get l q)
 |_,_=>none
@[simp] theorem ANR(T:bn)(l q γ off:Nat)(v:V):G5 P T c fr s (some (.ptr l q γ off)) (some v)=st3 γ P T c fr s l q off v (s.get l q):=rfl
@[simp] theorem AIO(T:bn)(l q γ i off:Nat)(v:V):G5 P T c fr s (some (.eptr l q γ i off)) (some v)=st4 γ P T c fr s l q i off v (s.get l q):=rfl
@[simp] theorem ANS(γ γ':Nat)(T:bn)(l q off:Nat)(v:V)(cs:List V):st3 γ P T c fr s l q off v (some (γ',.box cs))=if γ'=γ/\BA v=true/\0<P.cellsOf T/\(A9 v).length=P.cellsOf T/\off+P.cellsOf T<=cs.length/\γ<c then some ⟨c,fr,s.put l q γ (.box (A4 cs off (A9 v)))⟩ else none:=rfl
@[simp] theorem ANT(γ γ':Nat)(T:bn)(l q i off:Nat)(v:V)(U:bn)(es:List (List V)):st4 γ P T c fr s l q i off v (some (γ',.vec U es))=if γ'=γ/\BA v=true/\0<P.cellsOf T/\(A9 v).length=P.cellsOf T/\i<es.length/\off+P.cellsOf T<=(es.getD i []).length/\γ<c then some ⟨c,fr,s.put l q γ (.vec U (es.set i (A4 (es.getD i []) off (A9 v))))⟩ else none:=rfl
theorem ANU(T:bn)(x y:bp):JE P none T x y ⟨c,fr,s⟩=G5 P T c fr s (CK fr x) (CK fr y):=by
 unfold JE;simp only;cases CK fr x with
 |none=>rfl
 |some p=>
  cases CK fr y with
  |none=>cases p<;>rfl
  |some v=>
   cases p with
   |ptr l q γ off=>
    simp only[ANR]
    cases s.get l q with
    |none=>rfl
    |some z=>
     obtain⟨γ',r⟩:=z
     cases r with
     |box cs=>
      simp only[ANS,bj,bf,Nat.ble_eq,bg,and_assoc]
     |_=>rfl
   |eptr l q γ i off=>
    simp only[AIO]
    cases s.get l q with
    |none=>rfl
    |some z=>
     obtain⟨γ',r⟩:=z
     cases r with
     |vec U es=>
      simp only[ANT,bj,bf,Nat.ble_eq,bg,and_assoc]
     |_=>rfl
   |_=>rfl
@[simp] theorem AZS(T:bn)(x y:bp):CX P E none (.sto T x y) ⟨c,fr,s⟩=G5 P T c fr s (CK fr x) (CK fr y):=ANU c T x y
def apW(P:bt)(e:bn)(d c:Nat)(fr:Fr)(s:St)(l q γ n:Nat)(ys:List (List V)):Option (Nat×AX)->Option XS
 |some (γ',.vec W es)=>if γ'=γ/\W=e/\n=es.length/\es.all (fun y=>y.length==P.cellsOf e)=true/\BW P e es.length ys=true then
   some ⟨c+1,(d,true,.vec l q c (es.length+ys.length))::fr,s.put l q c (.vec e (es++ys))⟩ else none
 |_=>none
@[simp] theorem UW(e:bn)(d:Nat)(l q γ γ' n:Nat)(ys es:List (List V))(W:bn):apW P e d c fr s l q γ n ys (some (γ',.vec W es))=if γ'=γ/\W=e/\n=es.length/\es.all (fun y=>y.length==P.cellsOf e)=true/\BW P e es.length ys=true then
   some ⟨c+1,(d,true,.vec l q c (es.length+ys.length))::fr,s.put l q c (.vec e (es++ys))⟩ else none:=rfl
def apV(P:bt)(e:bn)(d c:Nat)(fr:Fr)(s:St)(xv:V)(ys:List (List V)):Option XS:=match I2 xv ys with
 |some es=>if es.all (fun y=>y.length==P.cellsOf e)=true/\BW P e es.length ys=true then some ⟨c+1,(d,true,.vec s.up.length d c (es.length+ys.length))::fr,s.put s.up.length d c (.vec e (es++ys))⟩ else none
 |none=>match xv with
  |.vec l q γ n=>apW P e d c fr s l q γ n ys (TZ n ys (s.get l q))
  |_=>none
@[simp] theorem qD(n γ:Nat)(ys es:List (List V))(U:bn):TZ n ys (some (γ,.vec U es))=some (γ,.vec U (aW n ys es)):=rfl
attribute [simp] VR
@[simp] theorem BBP(e:bn)(d:Nat)(ys:List (List V)):apV P e d c fr s .nil ys=if BW P e 0 ys=true then some ⟨c+1,(d,true,.vec s.up.length d c ys.length)::fr,s.put s.up.length d c (.vec e ys)⟩ else none:=by simp[apV,I2]
@[simp] theorem BBQ(e:bn)(d:Nat)(ys:List (List V)):apV P e d c fr s (.list true []) ys=if BW P e 0 ys=true then some ⟨c+1,(d,true,.vec s.up.length d c ys.length)::fr,s.put s.up.length d c (.vec e ys)⟩ else none:=by simp[apV,I2]
@[simp] theorem ANV(e:bn)(d:Nat)(l q γ n:Nat)(ys:List (List V)):apV P e d c fr s (.vec l q γ n) ys=apW P e d c fr s l q γ n ys (TZ n ys (s.get l q)):=by simp[apV,I2]
def ap3(P:bt)(d c:Nat)(fr:Fr)(s:St):Option (Option Nat×bn)->Option V->Option V->Option XS
 |some (none,e),some xv,some yv=>ap4 e xv (elemsOf s yv)
 |_,_,_=>none
where ap4 (e:bn) (xv:V):Option (List (List V))->Option XS
 |some ys=>apV P e d c fr s xv ys
 |none=>none
@[simp] theorem AIQ(d:Nat)(e:bn)(xv yv:V):ap3 P d c fr s (some (none,e)) (some xv) (some yv)=ap3.ap4 P d c fr s e xv (elemsOf s yv):=rfl
@[simp] theorem AIR(d:Nat)(e:bn)(xv:V)(ys:List (List V)):ap3.ap4 P d c fr s e xv (some ys)=apV P e d c fr s xv ys:=rfl
@[simp] theorem ANW(b:Bool)(es:List (List V)):elemsOf s (.list b es)=some es:=rfl
theorem ifB{α:Type}{b:Bool}{x y:α}:(Bool.rec y x b:α)=if b=true then x else y:=by cases b<;>rfl
theorem ACB{k:Nat}{e:bn}(d:Nat)(x y:Option V):ap3 P d c fr s (some (some k,e)) x y=none:=by cases x<;>cases y<;>rfl
@[simp] theorem AZT(d:Tmp)(x y:bp)(T:bn):CX P E (some d) (.app [x,y] [T,T]) ⟨c,fr,s⟩=ap3 P d c fr s (BV P T) (CK fr x) (CK fr y):=by
 show xAppend P (some d) [x,y] [T,T] _=_;unfold xAppend xAppG;simp only[Nat.beq_refl];cases hT:BV P T with
 |none=>cases CK fr x<;>cases CK fr y<;>rfl
 |some p=>
  obtain⟨k,e⟩:=p
  cases k with
  |some k=>rw[ACB]
  |none=>
   cases CK fr x with
   |none=>rfl
   |some xv=>
    cases CK fr y with
    |none=>rfl
    |some yv=>
     simp only[AIQ]
     cases elemsOf s yv with
     |none=>rfl
     |some ys=>
      simp only[AIR,apV]
      cases I2 xv ys with
      |some es=>
       simp only[ifB,bj,bk]
       by_cases hC:es.all (fun y=>y.length==P.cellsOf e)=true/\BW P e es.length ys=true
       ·rw[if_pos hC,if_pos hC]
       ·rw[if_neg hC,if_neg hC]
      |none=>
       simp only
       unfold oV
       cases xv with
       |vec l q γ n=>
        simp only
        cases TZ n ys (s.get l q)with
        |none=>rfl
        |some z=>
         obtain⟨γ',r⟩:=z
         cases r with
         |vec W es=>
          simp only[ifB,bj,bk,UW,bg,and_assoc]
          by_cases hC:γ'=γ/\W=e/\n=es.length/\es.all (fun y=>y.length==P.cellsOf e)=true/\BW P e es.length ys=true
          ·rw[if_pos hC,if_pos hC]
          ·rw[if_neg hC,if_neg hC]
         |_=>rfl
       |_=>rfl
def mc2:Option V->Option (List V)->Option (List V)
 |some v,some l=>some (v::l)
 |_,_=>none
@[simp] theorem A7T(v:V)(l:List V):mc2 (some v) (some l)=some (v::l):=rfl
@[simp] theorem A7U(f:bp->Option V):FQ f []=some []:=rfl
@[simp] theorem AZU(f:bp->Option V)(x:bp)(l:List bp):FQ f (x::l)=mc2 (f x) (FQ f l):=by
 simp only[FQ];cases f x with
 |none=>rfl
 |some v=>cases FQ f l<;>rfl
def G4(E:XE)(d:Option Tmp)(st:XS)(f:cq)(args:List V):Option XS:=match E.cf f args st with
 |some (r,st')=>some ⟨st'.c,putD st'.fr d true r,st'.s⟩
 |none=>none
def ca1(E:XE)(d:Option Tmp)(st:XS):Option V->Option (List V)->Option XS
 |some (.fn f first cap),some vs=>G4 E d st f ((first++vs++cap).map weakV)
 |some (.yld l q γ),some vs=>ca3 (E.cy l q γ vs st)
 |_,_=>none
where ca3:Option (V×XS)->Option XS
 |some (r,st')=>some ⟨st'.c,putD st'.fr d true r,st'.s⟩
 |none=>none
@[simp] theorem AVO(st:XS)(f:cq)(first cap vs:List V):ca1 E d st (some (.fn f first cap)) (some vs)=G4 E d st f ((first++vs++cap).map weakV):=rfl
@[simp] theorem ANX(st:XS)(l q γ:Nat)(vs:List V):ca1 E d st (some (.yld l q γ)) (some vs)=ca1.ca3 d (E.cy l q γ vs st):=rfl
@[simp] theorem A7V(d:Tmp)(r:V):ca1.ca3 (some d) (some (r,⟨c,fr,s⟩))=some ⟨c,(d,true,r)::fr,s⟩:=rfl
theorem qH(st:XS)(f:bp)(args:List bp):UL E.cf E.cy d f args st=ca1 E d st (CK st.fr f) (FQ (CK st.fr) args):=by
 unfold UL;cases CK st.fr f with
 |none=>rfl
 |some v=>
  cases v with
  |fn f first cap=>
   simp only
   cases FQ (CK st.fr) args with
   |none=>rfl
   |some vs=>simp only[AVO,G4];cases E.cf f ((first++vs++cap).map weakV) st<;>rfl
  |yld l q γ=>
   simp only[tT]
   cases FQ (CK st.fr) args with
   |none=>rfl
   |some vs=>simp only[ANX];cases E.cy l q γ vs st<;>rfl
  |_=>rfl
@[simp] theorem AVP(f:bp)(args:List bp):CX P E d (.call false none f args) ⟨c,fr,s⟩=ca1 E d ⟨c,fr,s⟩ (CK fr f) (FQ (CK fr) args):=qH d ⟨c,fr,s⟩ f args
@[simp] theorem AQW(t:Tmp)(f:bp)(args:List bp):CX P E d (.call false (some t) f args) ⟨c,fr,s⟩=ca1 E d (dO (some t) ⟨c,fr,s⟩) (CK (dO (some t) ⟨c,fr,s⟩).fr f) (FQ (CK (dO (some t) ⟨c,fr,s⟩).fr) args):=qH d _ f args
def orK:Bool->Option V->Option V->Option V
 |true,some r,_=>some r
 |_,_,z=>z
@[simp] theorem A7W(r:V)(z:Option V):orK true (some r) z=some r:=rfl
@[simp] theorem A7X(b:Bool)(z:Option V):orK b z z=z:=by cases b<;>cases z<;>rfl
theorem qJ{P:bt}{kn:CF0}{rec:HP}{f:cq}{args:List V}:FS P kn rec f args=orK (args.all (AG 9)) (AY P kn rec f (args.map weakN)) (AY P kn rec f args):=by unfold FS orK;cases AY P kn rec f (args.map weakN)<;>cases args.all (AG 9)<;>rfl
attribute [simp] qJ
@[simp] theorem AZW(k:cw)(n:Int):weakN (.int k n)=.int k n:=rfl
@[simp] theorem AVQ(b:Bool)(es:List (List V)):weakN (.list b es)=.list b es:=rfl
@[simp] theorem AZX(cs:List V):weakN (.agg cs)=.agg (cs.map weakM):=rfl
@[simp] theorem AZY:weakN .nil=.list false []:=rfl
@[simp] theorem A7Y(f:cq)(x y:List V):weakN (.fn f x y)=.fn f x y:=rfl
@[simp] theorem AZZ(cs:List V):weakN (.ref cs)=.ref cs:=rfl
@[simp] theorem AZ0(k:cw)(n:Int):weakM (.int k n)=.int k n:=rfl
@[simp] theorem AVR(b:Bool):weakM (.bool b)=.bool b:=rfl
@[simp] theorem AVS(b:Bool)(es:List (List V)):weakM (.list b es)=.list b es:=rfl
@[simp] theorem A7Z(f:cq)(x y:List V):weakM (.fn f x y)=.fn f x y:=rfl
theorem dT{A:Ann}{kn:CF0}{n:Nat}{f:cq}{args:List V}(h:args.all (AG 9)=true)(hh:BD P f=false)(st:XS):G4 (BN P A kn n) d st f args=EO d st (orK true (AY P kn (AE P A kn n) f (args.map weakN)) (AY P kn (AE P A kn n) f args)):=by
 have e:orK true (AY P kn (AE P A kn n) f (args.map weakN)) (AY P kn (AE P A kn n) f args)=FS P kn (AE P A kn n) f args:=by rw[qJ,h]
 rw[e];show(match cN P kn (AE P A kn n) f args st with
  |some (r,st')=>some (⟨st'.c,putD st'.fr d true r,st'.s⟩:XS)
  | none=>none)=_
 unfold cN;rw[h,hh];cases FS P kn (AE P A kn n) f args<;>rfl
end
@[simp] theorem A70(k:cw)(n:Int):weakV (.int k n)=.int k n:=rfl
@[simp] theorem AZ1(b:Bool)(es:List (List V)):weakV (.list b es)=.list false es:=rfl
@[simp] theorem A71(cs:List V):weakV (.agg cs)=.agg (cs.map weakC):=rfl
@[simp] theorem AZ2(k:cw)(n:Int):weakC (.int k n)=.int k n:=rfl
@[simp] theorem AVT(b:Bool):weakC (.bool b)=.bool b:=rfl
@[simp] theorem AVU(b:Bool)(es:List (List V)):weakC (.list b es)=.list false es:=rfl
@[simp] theorem A72:weakV .nil=.nil:=rfl
@[simp] theorem BBR(f:cq)(x y:List V):weakV (.fn f x y)=.fn f x y:=rfl
@[simp] theorem AVV(f:Nat)(k:cw)(n:Int):AG (f+1) (.int k n)=true:=rfl
@[simp] theorem AQX(f:Nat)(b:Bool):AG (f+1) (.bool b)=true:=rfl
@[simp] theorem AVW(f:Nat):AG (f+1) .nil=true:=rfl
@[simp] theorem AVX(f:Nat)(cs:List V):AG (f+1) (.agg cs)=cs.all (AG f):=rfl
@[simp] theorem AVY(f:Nat)(cs:List V):AG (f+1) (.tup cs)=cs.all (AG f):=rfl
@[simp] theorem AVZ(f:Nat)(cs:List V):AG (f+1) (.ref cs)=cs.all (AG f):=rfl
@[simp] theorem AQY(f:Nat)(b:Bool)(es:List (List V)):AG (f+1) (.list b es)=es.all fun e=>e.all (AG f):=rfl
@[simp] theorem AZ3(f:Nat)(g:cq)(x y:List V):AG (f+1) (.fn g x y)=(x.all (AG f)&&y.all (AG f)):=rfl
section
variable (r:bp->Option V)
def o1(f:V->Option V):Option V->Option V
 |some v=>f v
 |none=>none
@[simp] theorem BBS(f:V->Option V)(v:V):o1 f (some v)=f v:=rfl
def o2(f:V->V->Option V):Option V->Option V->Option V
 |some a,some b=>f a b
 |_,_=>none
@[simp] theorem BBT(f:V->V->Option V)(a b:V):o2 f (some a) (some b)=f a b:=rfl
theorem UY(f:V->Option V)(x:Option V):x.bind f=o1 f x:=by cases x<;>rfl
theorem lB(f:V->V->Option V)(x y:Option V):(x.bind fun a=>y.bind fun b=>f a b)=o2 f x y:=by cases x<;>cases y<;>rfl
@[simp] theorem BGS(op:UnOp)(T:bn)(x:bp):JN P (rR (.unOp op T x)) s r=o1 (jI op) (r x):=UY _ _
@[simp] theorem A73(T U:bn)(x:bp):JN P (rR (.convert T U x)) s r=o1 (LC P T U) (r x):=UY _ _
@[simp] theorem A74(T:bn)(x i:bp):JN P (rR (.indexAddr T x i)) s r=o2 (BT P s T) (r x) (r i):=lB _ _ _
@[simp] theorem AZ4(T:bn)(x:bp)(f:Nat):JN P (rR (.field T x f)) s r=o1 (fun a=>IM P T a f) (r x):=UY _ _
@[simp] theorem BBU(x:bp)(i:Nat):JN P (rR (.extract x i)) s r=o1 (fun a=>F0 a i) (r x):=UY _ _
@[simp] theorem BBV(x:bp)(T:bn):JN P (rR (.call ⟨.builtin .len,#[x],#[T]⟩)) s r=o1 (H1 P T) (r x):=UY _ _
end
@[simp] theorem A75(b:Bool):jI .not (.bool b)=some (.bool !b):=rfl
@[simp] theorem AJQ(vs:List V)(i:Nat):F0 (.tup vs) i=vs[i]?:=rfl
@[simp] theorem BGT(up:List AA)(loc:AA)(l k g:Nat)(r:AX):St.put ⟨up,loc⟩ l k g r=if l=up.length then⟨up,(k,g,r)::loc⟩ else⟨up.modify l fun L=>L.put k g r,loc⟩:=rfl
def upG(k:Nat):Option AA->Option (Nat×AX)
 |some L=>L.get k
 |none=>none
@[simp] theorem A76(k:Nat)(L:AA):upG k (some L)=L.get k:=rfl
@[simp] theorem AIS(up:List AA)(loc:AA)(l k:Nat):St.get ⟨up,loc⟩ l k=if l=up.length then loc.get k else upG k up[l]?:=rfl
def kx(k:Nat)(r:Fr):Option (Bool×V)->Fr
 |some (c,v)=>(k,c,v)::r
 |none=>r
@[simp] theorem BBW(k:Nat)(r:Fr)(c:Bool)(v:V):kx k r (some (c,v))=(k,c,v)::r:=rfl
@[simp] theorem BBX(k:Nat)(r:Fr):kx k r none=r:=rfl
@[simp] theorem AZ5:QP [] fr=[]:=rfl
@[simp] theorem AV0(k:Nat)(ks:List Nat):QP (k::ks) fr=kx k (QP ks fr) (BG fr k):=by show(match BG fr k with|some (c,v)=>(k,c,v)::QP ks fr|none=>QP ks fr)=_;cases BG fr k<;>rfl
def kl(k:Nat)(r:AA):Option (Nat×AX)->AA
 |some (g,x)=>(k,g,x)::r
 |none=>r
@[simp] theorem BBY(k:Nat)(r:AA)(g:Nat)(x:AX):kl k r (some (g,x))=(k,g,x)::r:=rfl
@[simp] theorem BBZ(k:Nat)(r:AA):kl k r none=r:=rfl
@[simp] theorem AZ6(L:AA):I3 [] L=[]:=rfl
@[simp] theorem AV1(k:Nat)(ks:List Nat)(L:AA):I3 (k::ks) L=kl k (I3 ks L) (L.get k):=by unfold kl;simp only[I3];cases L.get k<;>rfl
@[simp] theorem A77(ks ls:List Nat)(c:Nat)(fr:Fr)(up:List AA)(loc:AA):CH (some (ks,ls)) ⟨c,fr,⟨up,loc⟩⟩=⟨c,QP ks fr,⟨up,I3 ls loc⟩⟩:=rfl
@[simp] theorem BGU:PW (some st)=some (.normal,st):=rfl
@[simp] theorem A78:PW none=none:=rfl
@[simp] theorem BB0(c:Prop)[Decidable c](x y:Option XS):PW (if c then x else y)=if c then PW x else PW y:=by split<;>rfl
@[simp] theorem A79(l:List JK):KC P E (.str l) st=PB P E l (some st):=rfl
@[simp] theorem A8A(S:List pW):KC P E (.drw S) st=WP P E S (some st):=rfl
@[simp] theorem A8B(rs:List ResultVar):dS P rs (some (.ret,st))=dS.finV st.s (GZ P rs st.fr st.s):=rfl
def AV2:Option V->Option V
 |some r=>if AG 9 r=true then some r else none
 |none=>none
@[simp] theorem AZ7(r:V):AV2 (some r)=if AG 9 r=true then some r else none:=rfl
@[simp] theorem AZ8(v:V):dS.finV s (some v)=AV2 (A3 s 4 v):=by
 unfold dS.finV AV2;simp only;cases A3 s 4 v with
 |none=>rfl
 |some r=>simp only[ifB]
@[simp] theorem AV3(t:Tmp):EV P fr s (.tmp t)=rdT (BG fr t):=by
 rw[FE];show(match fr.get t with
  |some (true,v)=>some v
  | _=>none)=_
 cases fr.get t with
 |none=>rfl
 |some p=>obtain⟨c,v⟩:=p;cases c<;>rfl
@[simp] theorem A8C(x:ResultVar):GZ P [x] fr s=EV P fr s x:=by unfold GZ;simp only[bb,List.mapM_nil];cases EV P fr s x<;>rfl
def re2:Option V->Option V->Option V
 |some a,some b=>some (.tup [a,b])
 |_,_=>none
@[simp] theorem A8D(a b:V):re2 (some a) (some b)=some (.tup [a,b]):=rfl
@[simp] theorem A8E(x y:ResultVar):GZ P [x,y] fr s=re2 (EV P fr s x) (EV P fr s y):=by unfold GZ;simp only[bb,List.mapM_nil];cases EV P fr s x<;>cases EV P fr s y<;>rfl
@[simp] theorem AV4(f:Nat)(k:cw)(n:Int):A3 s (f+1) (.int k n)=some (.int k n):=rfl
@[simp] theorem AQZ(f:Nat)(b:Bool):A3 s (f+1) (.bool b)=some (.bool b):=rfl
@[simp] theorem AV5(f:Nat):A3 s (f+1) .nil=some .nil:=rfl
@[simp] theorem AQ0(f:Nat)(b:Bool)(es:List (List V)):A3 s (f+1) (.list b es)=some (.list false es):=rfl
def lP(mk:List V->V):Option (List V)->Option V
 |some l=>some (mk l)
 |none=>none
@[simp] theorem A8F(mk:List V->V)(l:List V):lP mk (some l)=some (mk l):=rfl
def QG(f:V->Option V):List V->Option (List V)
 |[]=>some []
 |v::l=>mc2 (f v) (QG f l)
theorem UZ(f:V->Option V):∀(l:List V),l.mapM f=QG f l
 |[]=>rfl
 |v::l=>by simp only[bb,QG,UZ f l];cases f v<;>cases QG f l<;>rfl
@[simp] theorem A8G(f:V->Option V):QG f []=some []:=rfl
@[simp] theorem AZ9(f:V->Option V)(v:V)(l:List V):QG f (v::l)=mc2 (f v) (QG f l):=rfl
@[simp] theorem AV6(f:Nat)(cs:List V):A3 s (f+1) (.agg cs)=lP .agg (QG (A3 s f) cs):=by simp only[A3,UZ];cases QG (A3 s f) cs<;>rfl
@[simp] theorem AV7(f:Nat)(cs:List V):A3 s (f+1) (.tup cs)=lP .tup (QG (A3 s f) cs):=by simp only[A3,UZ];cases QG (A3 s f) cs<;>rfl
def cv1(g m:Nat):Option (Nat×AX)->Option V
 |some (g',.vec _ es)=>if g'=g/\m<=es.length then some (.list false (es.take m)) else none
 |_=>none
@[simp] theorem AIT(g m g':Nat)(T:bn)(es:List (List V)):cv1 g m (some (g',.vec T es))=if g'=g/\m<=es.length then some (.list false (es.take m)) else none:=rfl
@[simp] theorem dU(f:Nat)(up:List AA)(loc:AA)(l k g m:Nat):A3 ⟨up,loc⟩ (f+1) (.vec l k g m)=if l=up.length then cv1 g m (loc.get k) else some (.vec l k g m):=by
 simp only[A3];split
 ·cases loc.get k with
  |none=>rfl
  |some z=>obtain⟨g',r⟩:=z;cases r<;>rfl
 ·rfl
@[simp] theorem AQ1(t:Nat)(T:bn):EV P fr s (.cell t T)=ld1 P s T (rdT (BG fr t)):=by
 rw[FE];show(match fr.get t with
  |some (true,p)=>(A6 s p).bind (BH P T)
  | _=>none)=_
 cases fr.get t with
 |none=>rfl
 |some p=>
  obtain⟨c,v⟩:=p
  cases c with
  |false=>rfl
  |true=>
   simp only[AIM,AIN]
   cases A6 s v<;>rfl
section
variable (d:Option Tmp)(c:Nat)
@[simp] theorem A8H(r:Option XS):WP P E [] r=r:=rfl
@[simp] theorem A0A(p:pW)(S:List pW)(r:Option XS):WP P E (p::S) r=WP P E S (PB P E p.sq (dQ (WO P E p.ph (AIA p.new r)))):=rfl
@[simp] theorem A8I(r:Option (XS×AL×AL)):WO P E [] r=r:=rfl
@[simp] theorem A0B(i:JK)(l:List JK)(r:Option (XS×AL×AL)):WO P E (i::l) r=WO P E l (AH9 P E i r):=rfl
@[simp] theorem BB1(new:List Tmp)(up:List AA)(loc:AA):AIA new (some ⟨c,fr,⟨up,loc⟩⟩)=if (new.all fun d=>(loc.get d).isNone)=true then some (⟨c,fr,⟨up,loc⟩⟩,[],[]) else none:=by show(Bool.rec none _ _:Option _)=_;rw[ifB];rfl
@[simp] theorem A0C(rd wr:AL):dQ (some (st,rd,wr))=if (wr.all fun p=>!(rd.contains p))=true then some st else none:=by show(Bool.rec none _ _:Option _)=_;rw[ifB]
@[simp] theorem A0D:dQ none=none:=rfl
@[simp] theorem A8J(c:Prop)[Decidable c](x y:Option (XS×AL×AL)):dQ (if c then x else y)=if c then dQ x else dQ y:=by split<;>rfl
@[simp] theorem A0E(i:JK):AH9 P E i none=none:=rfl
@[simp] theorem A8K(l:List JK)(c:Prop)[Decidable c](x y:Option (XS×AL×AL)):WO P E l (if c then x else y)=if c then WO P E l x else WO P E l y:=by split<;>rfl
@[simp] theorem A8L(l:List pW)(c:Prop)[Decidable c](x y:Option XS):WP P E l (if c then x else y)=if c then WP P E l x else WP P E l y:=by split<;>rfl
def ph3(rds rd wr:AL):Option (XS×AL)->Option (XS×AL×AL)
 |some (st,w)=>some (st,rds++rd,w++wr)
 |none=>none
@[simp] theorem A8M(rds rd wr w:AL):ph3 rds rd wr (some (st,w))=some (st,rds++rd,w++wr):=rfl
@[simp] theorem A8N(rds rd wr:AL):ph3 rds rd wr none=none:=rfl
@[simp] theorem BB2(rds rd wr:AL)(c:Prop)[Decidable c](x y:Option (XS×AL)):ph3 rds rd wr (if c then x else y)=if c then ph3 rds rd wr x else ph3 rds rd wr y:=by split<;>rfl
@[simp] theorem A0G(i:JK)(rd wr:AL):AH9 P E i (some (st,rd,wr))=ph3 (HT P i.k (CK st.fr)) rd wr (WN P E i st):=by show(match WN P E i st with|some (st',w)=>some (st',HT P i.k (CK st.fr)++rd,w++wr)|none=>none)=_;cases WN P E i st<;>rfl
@[simp] theorem A0H(k:IK):WN P E ⟨none,d,k⟩ st=DF P E d k st:=rfl
def gI0(P:bt)(E:XE)(d:Option Tmp)(k:IK)(st:XS)(w:Bool)(r:Option (Bool×V)):Option (XS×AL):=match r with
 |some (c,.bool b)=>if (c&&(b==w))=true then DF P E d k st else if XU k=true then none else some (I7 d st,[])
 |_=>none
@[simp] theorem AV8(t:Tmp)(w:Bool)(k:IK):WN P E ⟨some (t,w),d,k⟩ st=gI0 P E d k st w (BG st.fr t):=by
 show(match(match BG st.fr t with | some (c,.bool b)=>some (c&&(b == w)) | _=>none:Option Bool)with
  |some true=>DF P E d k st
  |some false=>Bool.rec (some (I7 d st,[])) none (XU k)
  | none=>none)=_
 unfold gI0;cases BG st.fr t with
 |none=>rfl
 |some p=>
  obtain⟨c,v⟩:=p
  cases v with
  |bool b=>cases h:(c&&(b==w))<;>simp[h,ifB]
  |_=>rfl
@[simp] theorem A8O(k:IK)(w c b:Bool):gI0 P E d k st w (some (c,.bool b))=if (c&&(b==w))=true then DF P E d k st else if XU k=true then none else some (I7 d st,[]):=rfl
@[simp] theorem BGW(T:bn)(x:bp)(f:bp->Option V):HT P (.ld T x) f=CD (bx (P.cellsOf T) 1) (f x):=rfl
@[simp] theorem AV9(x y:bp)(f:bp->Option V):J9 f [x,y]=JF (f y):=rfl
@[simp] theorem ANY(b:Bool)(es:List (List V)):JF (some (.list b es))=[]:=rfl
@[simp] theorem BGX(x:bp)(f:bp->Option V):HT P (.mv x) f=[]:=rfl
@[simp] theorem BB3(op:BinOp)(T:bn)(x y:bp)(f:bp->Option V):HT P (.bin op T x y) f=[]:=rfl
@[simp] theorem BGY(T:bn)(x:bp)(i:Nat)(f:bp->Option V):HT P (.fa T x i) f=[]:=rfl
@[simp] theorem A8P(x y z:bp)(f:bp->Option V):HT P (.pick x y z) f=[]:=rfl
@[simp] theorem A0I(T:bn)(ps:List (Nat×bp))(f:bp->Option V):HT P (.build T ps) f=[]:=rfl
@[simp] theorem AWA(T:bn)(n:Nat)(ps:List (Nat×bp))(f:bp->Option V):HT P (.buildS T n ps) f=[]:=rfl
@[simp] theorem A0J(T:bn)(f:bp->Option V):HT P (.alloc T) f=[]:=rfl
@[simp] theorem BB4(x:bp)(f:bp->Option V):HT P (.box x) f=[]:=rfl
@[simp] theorem BB5(T:bn)(x y:bp)(f:bp->Option V):HT P (.sto T x y) f=[]:=rfl
@[simp] theorem BB6(x:List bp)(y:List bn)(f:bp->Option V):HT P (.app x y) f=J9 f x:=rfl
@[simp] theorem A8Q(b:Bool)(t:Option Tmp)(g:bp)(x:List bp)(f:bp->Option V):HT P (.call b t g x) f=[]:=rfl
@[simp] theorem A8R(T:bn)(x i:bp)(f:bp->Option V):HT P (.oth (.indexAddr T x i)) f=M8 (f x):=rfl
@[simp] theorem BGZ(op:UnOp)(T:bn)(x:bp)(f:bp->Option V):HT P (.oth (.unOp op T x)) f=[]:=rfl
@[simp] theorem BB7(x:bp)(i:Nat)(f:bp->Option V):HT P (.oth (.extract x i)) f=[]:=rfl
@[simp] theorem BB8(x:bp)(T:bn)(b:Builtin)(f:bp->Option V):HT P (.oth (.call ⟨.builtin b,#[x],#[T]⟩)) f=[]:=by cases b<;>rfl
@[simp] theorem BG0(g:Fn)(x y:Array bp)(f:bp->Option V):HT P (.oth (.makeFunc g x y)) f=[]:=rfl
def nw:Option XS->Option (XS×AL)
 |some st=>some (st,[])
 |none=>none
@[simp] theorem BB9:nw (some st)=some (st,[]):=rfl
@[simp] theorem BCA:nw none=none:=rfl
@[simp] theorem BG1(c:Prop)[Decidable c](x y:Option XS):nw (if c then x else y)=if c then nw x else nw y:=by split<;>rfl
theorem GO(r:Option XS):UM r=nw r:=by cases r<;>rfl
@[simp] theorem A8S(x:bp):DF P E d (.mv x) st=nw (CX P E d (.mv x) st):=GO _
@[simp] theorem A0K(op:BinOp)(T:bn)(x y:bp):DF P E d (.bin op T x y) st=nw (CX P E d (.bin op T x y) st):=GO _
@[simp] theorem A8T(T:bn)(x:bp)(f:Nat):DF P E d (.fa T x f) st=nw (CX P E d (.fa T x f) st):=GO _
@[simp] theorem A0L(T:bn)(x:bp):DF P E d (.ldz T x) st=DF P E d (.ld T x) st:=rfl
@[simp] theorem BCB(T:bn)(x:bp)(f:bp->Option V):HT P (.ldz T x) f=[]:=rfl
@[simp] theorem A8U(T:bn)(x:bp):DF P E d (.ld T x) st=nw (CX P E d (.ld T x) st):=GO _
@[simp] theorem AWB(x y z:bp):DF P E d (.pick x y z) st=nw (CX P E d (.pick x y z) st):=GO _
@[simp] theorem AQ2(T:bn)(ps:List (Nat×bp)):DF P E d (.build T ps) st=nw (CX P E d (.build T ps) st):=GO _
@[simp] theorem ANZ(T:bn)(n:Nat)(ps:List (Nat×bp)):DF P E d (.buildS T n ps) st=nw (CX P E d (.buildS T n ps) st):=GO _
@[simp] theorem A0M(op:Op):DF P E d (.oth op) st=nw (CX P E d (.oth op) st):=GO _
@[simp] theorem AQ3(T:bn):DF P E d (.alloc T) st=nw (CX P E d (.alloc T) st):=GO _
@[simp] theorem A0N(x:bp):DF P E d (.box x) st=nw (CX P E d (.box x) st):=GO _
@[simp] theorem A0O(x:Option bp):DF P E d (.mkM x) st=nw (CX P E d (.mkM x) st):=GO _
@[simp] theorem A0P(T:bn)(x y:bp):DF P E d (.mkS T x y) st=nw (CX P E d (.mkS T x y) st):=GO _
def wp(p:AL):Option XS->Option (XS×AL)
 |some st=>some (st,p)
 |none=>none
@[simp] theorem BCC(p:AL):wp p (some st)=some (st,p):=rfl
@[simp] theorem A0Q(T:bn)(x y:bp):DF P E d (.sto T x y) st=wp (EY (bx (P.cellsOf T) 1) (CK st.fr x)) (CX P E d (.sto T x y) st):=by show(match JE P d T x y st with|some st'=>some (st',EY (bx (P.cellsOf T) 1) (CK st.fr x))|none=>none)=wp _ (JE P d T x y st);cases JE P d T x y st<;>rfl
@[simp] theorem AWC(l k g o:Nat):CD true (some (.ptr l k g o))=[(l,k+2000000),(l,k+4000000),(l,6000000+1000*k+o)]:=rfl
@[simp] theorem AQ4(l k g i o:Nat):CD true (some (.eptr l k g i o))=[(l,k+2000000),(l,k+4000000),(l,6000000+1000*k+o)]:=rfl
@[simp] theorem AWD(b:Bool)(cs:List V):CD b (some (.ref cs))=[]:=by cases b<;>rfl
@[simp] theorem AQ5(l k g i o:Nat):EY true (some (.eptr l k g i o))=[(l,k),(l,6000000+1000*k+o)]:=rfl
@[simp] theorem AWE(l k g n:Nat):M8 (some (.vec l k g n))=[(l,k+J4)]:=rfl
@[simp] theorem AQ6(b:Bool)(es:List (List V)):M8 (some (.list b es))=[]:=rfl
@[simp] theorem AWF(cs:List V):M8 (some (.ref cs))=[]:=rfl
def c01(E:XE)(d:Option Tmp)(st:XS):Option V->Option (List V)->Option XS
 |some (.fn f first cap),some vs=>EO d st (E.c0 f ((first++vs++cap).map weakV))
 |_,_=>none
@[simp] theorem AWG(f:cq)(first cap vs:List V):c01 E d st (some (.fn f first cap)) (some vs)=EO d st (E.c0 f ((first++vs++cap).map weakV)):=rfl
@[simp] theorem AWH(t:Option Tmp)(f:bp)(args:List bp):DF P E d (.call false t f args) ⟨c,fr,s⟩=nw (c01 E d ⟨c,fr,s⟩ (CK fr f) (FQ (CK fr) args)):=by
 show UM (cK E.c0 d f args ⟨c,fr,s⟩)=_;rw[GO];congr 1;unfold cK;cases hf:CK fr f with
 |none=>simp only[c01]
 |some v=>
  cases v with
  |fn g first cap=>
   simp only
   cases hm:FQ (CK fr) args with
   |none=>simp only[c01]
   |some vs=>
    simp only[AWG]
    cases E.c0 g ((first++vs++cap).map weakV)<;>rfl
  |_=>simp only[c01]
@[simp] theorem BG2{A:Ann}{kn:CF0}{n:Nat}:(BN P A kn n).c0=FS P kn (AE P A kn n):=rfl
end
theorem uZ{A:Ann}{kn:CF0}{n N:Nat}(a b:ck):pB (AE P A kn n N) a b st (some (.bool true))=AE P A kn n N a st:=rfl
theorem qK{A:Ann}{kn:CF0}{n N:Nat}(a b:ck):pB (AE P A kn n N) a b st (some (.bool false))=AE P A kn n N b st:=rfl
attribute [simp] AIG AB6 uV AB7 AB8 AB9 AIH uW pY AII ACA AIJ fH uX pZ uY uZ qK AIL
end Go.Pg
namespace Go.Pg
variable {P:bt}{E:XE}{st:XS}{fr:Fr}{s:St}
@[simp] theorem AWI(k:cw)(n:Int):A9 (.int k n)=[.int k n]:=rfl
@[simp] theorem AQ7(b:Bool):A9 (.bool b)=[.bool b]:=rfl
@[simp] theorem AWJ(cs:List V):A9 (.agg cs)=cs:=rfl
@[simp] theorem AQ8(b:Bool)(es:List (List V)):A9 (.list b es)=[.list b es]:=rfl
@[simp] theorem AWK:A9 .nil=[.nil]:=rfl
@[simp] theorem AWL(l k g n:Nat):A9 (.vec l k g n)=[.vec l k g n]:=rfl
@[simp] theorem A0R(l k g:Nat):A9 (.mp l k g)=[.mp l k g]:=rfl
@[simp] theorem A0S(f:cq)(x y:List V):A9 (.fn f x y)=[.fn f x y]:=rfl
@[simp] theorem AWM(l k g n:Nat):A9 (.ptr l k g n)=[.ptr l k g n]:=rfl
@[simp] theorem AWN(k:cw)(n:Int):BA (.int k n)=true:=rfl
@[simp] theorem AQ9(b:Bool):BA (.bool b)=true:=rfl
@[simp] theorem AWO(cs:List V):BA (.agg cs)=true:=rfl
@[simp] theorem ARA(b:Bool)(es:List (List V)):BA (.list b es)=true:=rfl
@[simp] theorem AWP:BA .nil=true:=rfl
@[simp] theorem AWQ(l k g n:Nat):BA (.vec l k g n)=true:=rfl
@[simp] theorem A0T(l k g:Nat):BA (.mp l k g)=true:=rfl
@[simp] theorem A0U(f:cq)(x y:List V):BA (.fn f x y)=true:=rfl
@[simp] theorem AWR(l k g n:Nat):BA (.ptr l k g n)=true:=rfl
@[simp] theorem A0V(op:BinOp)(T:bn)(k j:cw)(a b:Int):H0 P op T (.int k a) (.int j b)=if k=j then F8 op k a b else TR op k a b:=rfl
@[simp] theorem U0(k:cw)(a b:Int):TR .shl k a b=if b<0 then none else some (.int k (k.wrap (a*2 ^ (min b.toNat k.bits)))):=rfl
@[simp] theorem KE(k:cw)(a b:Int):TR .shr k a b=if b<0 then none else some (.int k (a.fdiv (2 ^ (min b.toNat k.bits)))):=rfl
section
variable (k:cw)(a b:Int)
@[simp] theorem A0W:F8 .add k a b=some (.int k (k.wrap (a+b))):=rfl
@[simp] theorem A0X:F8 .sub k a b=some (.int k (k.wrap (a-b))):=rfl
@[simp] theorem A0Y:F8 .mul k a b=some (.int k (k.wrap (a*b))):=rfl
@[simp] theorem A0Z:F8 .quo k a b=if b=0 then none else some (.int k (k.wrap (a.tdiv b))):=rfl
@[simp] theorem A00:F8 .rem k a b=if b=0 then none else some (.int k (a.tmod b)):=rfl
@[simp] theorem A01:F8 .eql k a b=some (.bool (decide (a=b))):=by show some (V.bool (a==b))=_;congr 2
@[simp] theorem A02:F8 .neq k a b=some (.bool (!decide (a=b))):=by show some (V.bool (a != b))=_;congr 2
@[simp] theorem A03:F8 .lss k a b=some (.bool (decide (a<b))):=rfl
@[simp] theorem A04:F8 .leq k a b=some (.bool (decide (a<=b))):=rfl
@[simp] theorem A05:F8 .gtr k a b=some (.bool (decide (b<a))):=rfl
@[simp] theorem A06:F8 .geq k a b=some (.bool (decide (b<=a))):=rfl
end
theorem AO{x:Int}(h1:-9223372036854775808<=x)(h2:x<9223372036854775808):IntKind.i64.wrap x=x:=by simp only[IntKind.wrap,IntKind.bits,IntKind.signed];simp;omega
def bl1(f:Bool->Bool):Option Bool->Option V
 |some b=>some (.bool (f b))
 |none=>none
@[simp] theorem A8W(f:Bool->Bool)(b:Bool):bl1 f (some b)=some (.bool (f b)):=rfl
@[simp] theorem AWS(T:bn)(cs ds:List V):H0 P .eql T (.agg cs) (.agg ds)=bl1 (fun b=>b) (X5 P T cs ds):=by show(X5 P T cs ds).map V.bool=_;cases X5 P T cs ds<;>rfl
def faP(P:bt)(x:V):Option (bn×Nat)->Option V
 |some (U,off)=>if P.cellsOf U=0 then none else match x with
  |.ref cs=>some (.ref (cs.drop off))
  |.ptr l k g o=>some (.ptr l k g (o+off))
  |.eptr l k g i o=>some (.eptr l k g i (o+off))
  |_=>none
 |none=>none
@[simp] theorem BCD(T:bn)(x:V)(f:Nat):C6 P T x f=faP P x (A0 P T f):=by unfold C6 faP;cases A0 P T f<;>rfl
@[simp] theorem BCE(U:bn)(off:Nat)(cs:List V):faP P (.ref cs) (some (U,off))=if P.cellsOf U=0 then none else some (.ref (cs.drop off)):=rfl
@[simp] theorem BCF(U:bn)(off l k g o:Nat):faP P (.ptr l k g o) (some (U,off))=if P.cellsOf U=0 then none else some (.ptr l k g (o+off)):=rfl
@[simp] theorem A8Y(U:bn)(off l k g i o:Nat):faP P (.eptr l k g i o) (some (U,off))=if P.cellsOf U=0 then none else some (.eptr l k g i (o+off)):=rfl
def fd1(P:bt)(x:V):Option (bn×Nat)->Option V
 |some (U,off)=>match x with
  |.agg cs=>OL P U cs off
  |_=>none
 |none=>none
@[simp] theorem AWT(T:bn)(x:V)(f:Nat):IM P T x f=fd1 P x (A0 P T f):=by unfold IM fd1;cases x<;>cases A0 P T f<;>rfl
@[simp] theorem BCG(U:bn)(off:Nat)(cs:List V):fd1 P (.agg cs) (some (U,off))=OL P U cs off:=rfl
def cb(g off:Nat):Option (Nat×AX)->Option (List V)
 |some (g',.box cs)=>if g'=g then some (cs.drop off) else none
 |_=>none
@[simp] theorem BCH(g g' off:Nat)(cs:List V):cb g off (some (g',.box cs))=if g'=g then some (cs.drop off) else none:=rfl
def ce(g i off:Nat):Option (Nat×AX)->Option (List V)
 |some (g',.vec _ es)=>if g'=g then(es[i]?).map (·.drop off) else none
 |_=>none
@[simp] theorem BCI(g g' i off:Nat)(T:bn)(es:List (List V)):ce g i off (some (g',.vec T es))=if g'=g then(es[i]?).map (·.drop off) else none:=rfl
@[simp] theorem ARB(cs:List V):A6 s (.ref cs)=some cs:=rfl
@[simp] theorem ARC(l k g off:Nat):A6 s (.ptr l k g off)=cb g off (s.get l k):=by
 unfold cb;simp only[A6];cases s.get l k with
 |none=>rfl
 |some z=>obtain⟨g',r⟩:=z;cases r<;>rfl
@[simp] theorem AN0(l k g i off:Nat):A6 s (.eptr l k g i off)=ce g i off (s.get l k):=by
 unfold ce;simp only[A6];cases s.get l k with
 |none=>rfl
 |some z=>obtain⟨g',r⟩:=z;cases r<;>rfl
def iv(P:bt)(e:bn)(l k g n:Nat)(j:Int):Option (Nat×AX)->Option V
 |some (g',.vec _ es)=>if g'=g/\0<=j/\j<n/\n<=es.length/\(es.getD j.toNat []).length=P.cellsOf e/\0<P.cellsOf e then some (.eptr l k g j.toNat 0) else none
 |_=>none
@[simp] theorem BCJ(e:bn)(l k g g' n:Nat)(j:Int)(T:bn)(es:List (List V)):iv P e l k g n j (some (g',.vec T es))=if g'=g/\0<=j/\j<n/\n<=es.length/\(es.getD j.toNat []).length=P.cellsOf e/\0<P.cellsOf e then some (.eptr l k g j.toNat 0) else none:=rfl
def ia(P:bt)(s:St)(x i:V):Option (Option Nat×bn)->Option V
 |some (none,e)=>match x,i with
  |.list _ es,.int _ j=>if 0<=j/\j<es.length/\(es.getD j.toNat []).length=P.cellsOf e/\0<P.cellsOf e then some (.ref (es.getD j.toNat [])) else none
  |.vec l k g n,.int _ j=>iv P e l k g n j (s.get l k)
  |_,_=>none
 |some (some n,e)=>match x,i with
  |.ref cs,.int _ j=>if 0<=j/\j<n/\0<P.cellsOf e then some (.ref (cs.drop (j.toNat*P.cellsOf e))) else none
  |.ptr l k g o,.int _ j=>if 0<=j/\j<n/\0<P.cellsOf e then some (.ptr l k g (o+j.toNat*P.cellsOf e)) else none
  |.eptr l k g i' o,.int _ j=>if 0<=j/\j<n/\0<P.cellsOf e then some (.eptr l k g i' (o+j.toNat*P.cellsOf e)) else none
  |_,_=>none
 |none=>none
@[simp] theorem BCK(T:bn)(x i:V):BT P s T x i=ia P s x i (BV P T):=by
 unfold BT ia;cases BV P T with
 |none=>rfl
 |some z=>
  obtain⟨n,e⟩:=z
  cases n with
  |some n=>cases x<;>cases i<;>rfl
  |none=>
   cases x with
   |vec l k g n=>
    cases i with
    |int q j=>
     simp only[iv]
     cases s.get l k with
     |none=>rfl
     |some z=>obtain⟨g',r⟩:=z;cases r<;>rfl
    |_=>rfl
   |_=>cases i<;>rfl
@[simp] theorem BCL(e:bn)(b:Bool)(es:List (List V))(k:cw)(j:Int):ia P s (.list b es) (.int k j) (some (none,e))=if 0<=j/\j<es.length/\(es.getD j.toNat []).length=P.cellsOf e/\0<P.cellsOf e then some (.ref (es.getD j.toNat [])) else none:=rfl
@[simp] theorem BG4(e:bn)(l q g n:Nat)(k:cw)(j:Int):ia P s (.vec l q g n) (.int k j) (some (none,e))=iv P e l q g n j (s.get l q):=rfl
@[simp] theorem BG5(n:Nat)(e:bn)(cs:List V)(k:cw)(j:Int):ia P s (.ref cs) (.int k j) (some (some n,e))=if 0<=j/\j<n/\0<P.cellsOf e then some (.ref (cs.drop (j.toNat*P.cellsOf e))) else none:=rfl
@[simp] theorem BG6(n:Nat)(e:bn)(l q g o:Nat)(k:cw)(j:Int):ia P s (.ptr l q g o) (.int k j) (some (some n,e))=if 0<=j/\j<n/\0<P.cellsOf e then some (.ptr l q g (o+j.toNat*P.cellsOf e)) else none:=rfl
theorem PD{T:bn}(h:DN P T=true):∃e,P.underlying T=some (.slice e):=by
 unfold DN at h;split at h
 ·rename_i e he;exact⟨e,he⟩
 ·cases h
@[simp] theorem vA{T:bn}(h:DN P T=true)(b:Bool)(es:List (List V)):H1 P T (.list b es)=some (.int .i64 es.length):=by obtain⟨e,he⟩:=PD h;simp[H1,he]
@[simp] theorem A07{T:bn}(h:DN P T=true)(l k g n:Nat):H1 P T (.vec l k g n)=some (.int .i64 n):=by obtain⟨e,he⟩:=PD h;simp[H1,he]
@[simp] theorem ACC{T:bn}(h:DN P T=true):H1 P T .nil=some (.int .i64 0):=by obtain⟨e,he⟩:=PD h;simp[H1,he]
def fv(place:Nat->Option (Nat×Nat))(cs:List V)(v:V)(rest:List (Nat×V)):Option (Nat×Nat)->Option (List V)
 |none=>none
 |some (off,size)=>if (A9 v).length=size/\off+(A9 v).length<=cs.length then C4 place (A4 cs off (A9 v)) rest else none
@[simp] theorem A08(place:Nat->Option (Nat×Nat))(cs:List V):C4 place cs []=some cs:=rfl
@[simp] theorem AWU(place:Nat->Option (Nat×Nat))(cs:List V)(i:Nat)(v:V)(rest:List (Nat×V)):C4 place cs ((i,v)::rest)=fv place cs v rest (place i):=by simp only[C4];unfold fv;cases place i<;>rfl
@[simp] theorem BCM(place:Nat->Option (Nat×Nat))(cs:List V)(v:V)(rest:List (Nat×V))(off size:Nat):fv place cs v rest (some (off,size))=if (A9 v).length=size/\off+(A9 v).length<=cs.length then C4 place (A4 cs off (A9 v)) rest else none:=rfl
attribute [simp] A4
@[simp] theorem ARD(size:Nat)(cs:List V):CM size cs 0=[]:=rfl
@[simp] theorem ARE(size:Nat)(cs:List V)(n:Nat):CM size cs (n+1)=cs.take size::CM size (cs.drop size) n:=rfl
def ch1(size len:Nat):Option (List V)->Option V
 |some cs=>some (.list true (CM size cs len))
 |none=>none
@[simp] theorem A8Z(size len:Nat)(cs:List V):ch1 size len (some cs)=some (.list true (CM size cs len)):=rfl
def bsz(P:bt)(e:bn)(len:Nat)(parts:List (Nat×V)):Option (List V)->Option V
 |some z=>if (parts.all fun p=>BA p.2)=true/\z.length=P.cellsOf e/\0<P.cellsOf e/\len*P.cellsOf e<=2 ^ 24 then
   ch1 (P.cellsOf e) len (C4 (fun i=>some (i*P.cellsOf e,P.cellsOf e)) (bc len z).flatten parts) else none
 |none=>none
@[simp] theorem A80(e:bn)(len:Nat)(parts:List (Nat×V))(z:List V):bsz P e len parts (some z)=if (parts.all fun p=>BA p.2)=true/\z.length=P.cellsOf e/\0<P.cellsOf e/\len*P.cellsOf e<=2 ^ 24 then
   ch1 (P.cellsOf e) len (C4 (fun i=>some (i*P.cellsOf e,P.cellsOf e)) (bc len z).flatten parts) else none:=rfl
def bsl(P:bt)(len:Nat)(parts:List (Nat×V)):Option (Option Nat×bn)->Option V
 |some (none,e)=>bsz P e len parts (B8 P e)
 |_=>none
@[simp] theorem A81(e:bn)(len:Nat)(parts:List (Nat×V)):bsl P len parts (some (none,e))=bsz P e len parts (B8 P e):=rfl
@[simp] theorem BCO(T:bn)(len:Nat)(parts:List (Nat×V)):CB P T len parts=bsl P len parts (BV P T):=by
 unfold CB bsl;cases BV P T with
 |none=>rfl
 |some z=>
  obtain⟨n,e⟩:=z
  cases n with
  |some n=>rfl
  |none=>
   simp only[bsz]
   cases B8 P e with
   |none=>rfl
   |some z=>
    simp only
    split
    ·cases C4 (fun i=>some (i*P.cellsOf e,P.cellsOf e)) (bc len z).flatten parts<;>rfl
    ·rfl
def fn2(f:cq):Option (List V)->Option (List V)->Option V
 |some a,some b=>some (.fn f a b)
 |_,_=>none
@[simp] theorem A82(f:cq)(a b:List V):fn2 f (some a) (some b)=some (.fn f a b):=rfl
@[simp] theorem BG9(f:cq)(x y:Array bp)(r:bp->Option V):JN P (rR (.makeFunc (.func f) x y)) s r=fn2 f (FQ r x.toList) (FQ r y.toList):=by show((x.toList.mapM r).bind fun a=>(y.toList.mapM r).bind fun b=>some (V.fn f a b))=_;rw[<-K3,<-K3];cases FQ r x.toList<;>cases FQ r y.toList<;>rfl
@[simp] theorem BCQ(x y:bp)(Ts:Array bn)(r:bp->Option V):JN P (rR (.call ⟨.builtin .max,#[x,y],Ts⟩)) s r=o2 TV (r x) (r y):=lB _ _ _
@[simp] theorem BCR(x y:bp)(Ts:Array bn)(r:bp->Option V):JN P (rR (.call ⟨.builtin .min,#[x,y],Ts⟩)) s r=o2 TW (r x) (r y):=lB _ _ _
@[simp] theorem A09(k j:cw)(m n:Int):TV (.int k m) (.int j n)=if k=j then some (.int k (if n>m then n else m)) else none:=rfl
@[simp] theorem A1A(k j:cw)(m n:Int):TW (.int k m) (.int j n)=if k=j then some (.int k (if n<m then n else m)) else none:=rfl
theorem BQ{e:bn}{n:Nat}{ys:List (List V)}(hc:0<P.cellsOf e)(hz:YP P e=true):BW P e n ys=true↔(ys.all (fun y=>y.length==P.cellsOf e)=true/\n+ys.length<=maxLen/\(n+ys.length)*P.bytesOf e<=140737488355328):=by simp[BW,hc,hz,and_assoc]
end Go.Pg
namespace Go.Pg
variable {P:bt}{E:XE}{st:XS}{fr:Fr}{s:St}
theorem AN{P:bt}{kn:CF0}{rec:HP}{f:cq}{args:List V}(h:kn f args=none):AY P kn rec f args=E1 P rec f args:=by unfold AY;rw[h]
def pv(k γ:Nat):List (List V)->V
 |[]=>.nil
 |e::es=>.vec 0 k γ (e::es).length
def pl(k γ:Nat)(T:bn):List (List V)->AA
 |[]=>[]
 |e::es=>[(k,γ,.vec T (e::es))]
def sl:List (List V)->V
 |[]=>.nil
 |e::es=>.list false (e::es)
@[simp] theorem BHA(k γ:Nat):pv k γ []=.nil:=rfl
@[simp] theorem BHB(k γ:Nat)(T:bn):pl k γ T []=[]:=rfl
@[simp] theorem BCS(k γ:Nat)(T:bn)(es:List (List V))(y:List V)(ys:List (List V)):pl k γ T (es++y::ys)=[(k,γ,.vec T (es++y::ys))]:=by cases es<;>rfl
@[simp] theorem BCT(k γ:Nat)(T:bn)(y:List V)(ys:List (List V)):pl k γ T (y::ys)=[(k,γ,.vec T (y::ys))]:=rfl
@[simp] theorem BKG(k γ:Nat)(T:bn)(es:List (List V)):kl k [] ((pl k γ T es).get k)=pl k γ T es:=by
 cases es with
 |nil=>rfl
 |cons e es=>simp
@[simp] theorem A83{k j:Nat}(γ:Nat)(T:bn)(es:List (List V))(h:j≠k):(pl k γ T es).get j=none:=by
 cases es with
 |nil=>rfl
 |cons e es=>simp[h]
@[simp] theorem AWV(e k c γ:Nat)(loc:AA)(es:List (List V))(y:List V)(ys:List (List V))(hl:AA.get loc k=(pl k γ e es).get k)(h1:es.all (fun y=>y.length==P.cellsOf e)=true)(h2:BW P e es.length (y::ys)=true) :
  apV P e k c fr ⟨[],loc⟩ (pv k γ es) (y::ys)=some ⟨c+1,(k,true,pv k c (es++y::ys))::fr,⟨[],(k,c,.vec e (es++y::ys))::loc⟩⟩:=by
 cases es with
 |nil=>
  simp only[bq]at h2
  simp[h2,pv]
 |cons z es=>
  have hl:AA.get loc k=some (γ,.vec e (z::es)):=by rw[hl];simp
  simp only[pv,ANV,AIS,bq,if_true,hl,qD,VR,UW,true_and,h1,h2]
  simp[Nat.add_comm,Nat.add_left_comm]
theorem P0{T:bn}(f:Nat)(loc:AA)(k γ:Nat)(es:List (List V))(hl:AA.get loc k=(pl k γ T es).get k):A3 ⟨[],loc⟩ (f+1) (pv k γ es)=some (sl es):=by
 cases es with
 |nil=>rfl
 |cons z es=>
  have hl:AA.get loc k=some (γ,.vec T (z::es)):=by rw[hl];simp
  simp only[pv,dU,bq,if_true,hl,AIT,sl]
  simp
@[simp] theorem A1B(f k γ:Nat)(T:bn)(es:List (List V)):A3 ⟨[],pl k γ T es⟩ (f+1) (pv k γ es)=some (sl es):=P0 (T:=T) f _ k γ es rfl
@[simp] theorem A84{T:bn}(h:DN P T=true)(es:List (List V)):H1 P T (sl es)=some (.int .i64 es.length):=by
 cases es with
 |nil=>exact ACC h
 |cons e es=>exact vA h _ _
@[simp] theorem iO(f:Nat)(es:List (List V)):AG (f+1) (sl es)=es.all fun e=>e.all (AG f):=by cases es<;>rfl
@[simp] theorem A85(es:List (List V)):weakN (sl es)=.list false es:=by cases es<;>rfl
@[simp] theorem A86(es:List (List V)):weakM (sl es)=.list false es:=by cases es<;>rfl
@[simp] theorem BCU(es:List (List V)):weakV (sl es)=sl es:=by cases es<;>rfl
@[simp] theorem A87(es:List (List V)):weakC (sl es)=sl es:=by cases es<;>rfl
@[simp] theorem A1C(es:List (List V)):A9 (sl es)=[sl es]:=by cases es<;>rfl
@[simp] theorem A1D(es:List (List V)):BA (sl es)=true:=by cases es<;>rfl
@[simp] theorem A1E(k γ:Nat)(es:List (List V)):A9 (pv k γ es)=[pv k γ es]:=by cases es<;>rfl
@[simp] theorem A1F(k γ:Nat)(es:List (List V)):BA (pv k γ es)=true:=by cases es<;>rfl
@[simp] theorem A1G(f:Nat)(es:List (List V)):A3 s (f+1) (sl es)=some (sl es):=by cases es<;>rfl
def adV(P:bt)(e:bn)(d c:Nat)(fr:Fr)(s:St)(xv:V)(ys:List (List V)):Option (XS×AL):=match I2 xv ys with
 |some es=>if es.all (fun y=>y.length==P.cellsOf e)=true/\BW P e es.length ys=true then some (⟨c+1,(d,true,.vec s.up.length d c (es.length+ys.length))::fr,s.put s.up.length d c (.vec e (es++ys))⟩,[(s.up.length,d),(s.up.length,d+J4)]) else none
 |none=>match xv with
  |.vec l q γ n=>wp [(l,q),(l,q+J4)] (apW P e d c fr s l q γ n ys (TZ n ys (s.get l q)))
  |_=>none
def ad4(P:bt)(e:bn)(d c:Nat)(fr:Fr)(s:St)(xv:V):Option (List (List V))->Option (XS×AL)
 |some ys=>adV P e d c fr s xv ys
 |none=>none
@[simp] theorem AIU(e:bn)(d c:Nat)(xv:V)(ys:List (List V)):ad4 P e d c fr s xv (some ys)=adV P e d c fr s xv ys:=rfl
def ad3(P:bt)(d c:Nat)(fr:Fr)(s:St):Option (Option Nat×bn)->Option V->Option V->Option (XS×AL)
 |some (none,e),some xv,some yv=>ad4 P e d c fr s xv (elemsOf s yv)
 |_,_,_=>none
@[simp] theorem AIV(d c:Nat)(e:bn)(xv yv:V):ad3 P d c fr s (some (none,e)) (some xv) (some yv)=ad4 P e d c fr s xv (elemsOf s yv):=rfl
@[simp] theorem A1H(d:Tmp)(c:Nat)(x y:bp)(T:bn):DF P E (some d) (.app [x,y] [T,T]) ⟨c,fr,s⟩=ad3 P d c fr s (BV P T) (CK fr x) (CK fr y):=by
 show xAppD P (some d) [x,y] [T,T] _=_;unfold xAppD xAppG;simp only[Nat.beq_refl];cases hT:BV P T with
 |none=>cases CK fr x<;>cases CK fr y<;>rfl
 |some p=>
  obtain⟨k,e⟩:=p
  cases k with
  |some k=>cases CK fr x<;>cases CK fr y<;>rfl
  |none=>
   cases CK fr x with
   |none=>rfl
   |some xv=>
    cases CK fr y with
    |none=>rfl
    |some yv=>
     simp only[AIV]
     cases elemsOf s yv with
     |none=>rfl
     |some ys=>
      simp only[AIU,adV]
      cases I2 xv ys with
      |some es=>
       simp only[ifB,bj,bk]
       by_cases hC:es.all (fun y=>y.length==P.cellsOf e)=true/\BW P e es.length ys=true
       ·rw[if_pos hC,if_pos hC]
       ·rw[if_neg hC,if_neg hC]
      |none=>
       simp only
       unfold oV
       cases xv with
       |vec l q γ n=>
        simp only
        cases TZ n ys (s.get l q)with
        |none=>rfl
        |some z=>
         obtain⟨γ',r⟩:=z
         cases r with
         |vec W es=>
          simp only[ifB,bj,bk,UW,bg,and_assoc]
          by_cases hC:γ'=γ/\W=e/\n=es.length/\es.all (fun y=>y.length==P.cellsOf e)=true/\BW P e es.length ys=true
          ·rw[if_pos hC,if_pos hC];rfl
          ·rw[if_neg hC,if_neg hC];rfl
         |_=>rfl
       |_=>rfl
@[simp] theorem BHD(e k c γ:Nat)(loc:AA)(es:List (List V))(y:List V)(ys:List (List V))(hl:AA.get loc k=(pl k γ e es).get k)(h1:es.all (fun y=>y.length==P.cellsOf e)=true)(h2:BW P e es.length (y::ys)=true) :
  adV P e k c fr ⟨[],loc⟩ (pv k γ es) (y::ys)=some (⟨c+1,(k,true,pv k c (es++y::ys))::fr,⟨[],(k,c,.vec e (es++y::ys))::loc⟩⟩,[(0,k),(0,k+J4)]):=by
 cases es with
 |nil=>
  simp only[bq]at h2
  simp[adV,I2,h2,pv]
 |cons z es=>
  have hl:AA.get loc k=some (γ,.vec e (z::es)):=by rw[hl];simp
  simp only[pv,adV,I2,AIS,bq,if_true,hl,qD,VR,UW,true_and,h1,h2]
  simp[Nat.add_comm,Nat.add_left_comm]
end Go.Pg
namespace Go.Pg
variable {P:bt}{E:XE}{st:XS}{fr:Fr}{s:St}
theorem vB{α:Type}(x:α):CE [x]=some ([],x):=rfl
def un1{α:Type}(x:α):Option (List α×α)->Option (List α×α)
 |some (a,b)=>some (x::a,b)
 |none=>none
@[simp] theorem A88{α:Type}(x:α)(a:List α)(b:α):un1 x (some (a,b))=some (x::a,b):=rfl
theorem XW{α:Type}(x y:α)(l:List α):CE (x::y::l)=un1 x (CE (y::l)):=by simp only[CE];unfold un1;cases CE (y::l)<;>rfl
attribute [simp] vB XW
def YG(d:Option Tmp)(fr:Fr)(c:Nat)(r:V):Option (List AA×AA)->Option XS
 |some (u,l)=>some ⟨c,putD fr d true r,⟨u,l⟩⟩
 |none=>none
@[simp] theorem A1I(d:Tmp)(c:Nat)(r:V)(u:List AA)(l:AA):YG (some d) fr c r (some (u,l))=some ⟨c,(d,true,r)::fr,⟨u,l⟩⟩:=rfl
@[simp] theorem BCV(c:Nat)(r:V)(u:List AA)(l:AA):YG none fr c r (some (u,l))=some ⟨c,fr,⟨u,l⟩⟩:=rfl
def qM(d:Option Tmp)(fr:Fr)(st:XS):Option V->Option XS
 |some r=>YG d fr st.c r (CE (st.s.up.map (AH st.s)))
 |none=>none
@[simp] theorem A1J(d:Option Tmp)(c:Nat)(fr':Fr)(up:List AA)(loc:AA)(r:V):qM d fr ⟨c,fr',⟨up,loc⟩⟩ (some r)=YG d fr c r (CE (up.map (AH ⟨up,loc⟩))):=rfl
def clX(s:St):Option V->Option V
 |some r=>A3 s 4 r
 |none=>none
@[simp] theorem A89(r:V):clX s (some r)=A3 s 4 r:=rfl
def fI(P:bt)(d:Option Tmp)(fr:Fr)(rs:List ResultVar)(r:Option (Exit×XS)):Option XS:=match r with
 |some (.ret,st)=>qM d fr st (clX st.s (GZ P rs st.fr st.s))
 |some (.normal,st)=>qM d fr st (clX st.s (GZ P rs st.fr st.s))
 |_=>none
@[simp] theorem AIW(d:Option Tmp)(rs:List ResultVar):fI P d fr rs (some (.ret,st))=qM d fr st (clX st.s (GZ P rs st.fr st.s)):=rfl
@[simp] theorem qN(d:Option Tmp)(rs:List ResultVar):fI P d fr rs (some (.normal,st))=qM d fr st (clX st.s (GZ P rs st.fr st.s)):=rfl
theorem qO{A:Ann}{kn:CF0}{n:Nat}{f:cq}{fn:Func}{code:ck}{args:List V}(hf:P.funcs[f]? = some fn)(hb:fn.body=some code)(hs:bh args.length fn.ntmps=true)(hcl:(args.all (AG 9)&&!(BD P f))=false)(d:Option Tmp)(c:Nat)(fr:Fr)(up:List AA)(loc:AA) :
  G4 (BN P A kn n) d ⟨c,fr,⟨up,loc⟩⟩ f args=fI P d fr fn.results.toList (AE P A kn n fn.ntmps code ⟨c,AF 0 args,⟨up++[loc],[]⟩⟩):=by
 show(match cN P kn (AE P A kn n) f args ⟨c,fr,⟨up,loc⟩⟩ with
  |some (r,st')=>some (⟨st'.c,putD st'.fr d true r,st'.s⟩:XS)
  | none=>none)=_
 unfold cN
 rw[hcl]
 unfold gX XQ pC
 rw[hf]
 simp only[hb,hs]
 generalize AE P A kn n fn.ntmps code ⟨c,AF 0 args,⟨up++[loc],[]⟩⟩=q
 have aux:∀st:XS,(match(match(match ABJ P fn.results.toList st with
   |some (r,c,up)=>match CE up with
    |some (u,l)=>some (r,(⟨c,fr,⟨u,l⟩⟩:XS))
    |none=>none
   | none=>none:Option (V×XS))with
   |some r=>some r
   | none=>none:Option (V×XS))with
  |some (r,st')=>some (⟨st'.c,putD st'.fr d true r,st'.s⟩:XS)
  | none=>none)=qM d fr st (clX st.s (GZ P fn.results.toList st.fr st.s)):=fun st=>by
  unfold ABJ clX
  cases GZ P fn.results.toList st.fr st.s with
  |none=>rfl
  |some r=>
   cases h:A3 st.s 4 r with
   |none=>simp[qM,h]
   |some r'=>
    simp only[h,qM]
    cases CE (st.s.up.map (AH st.s))with
    |none=>rfl
    |some z=>rfl
 cases q with
 |none=>rfl
 |some q=>
  obtain⟨e,st⟩:=q
  have:=aux st
  cases e with
  |ret=>simp only[AIW,<-this];cases ABJ P fn.results.toList st with
   |none=>rfl
   |some z=>
    obtain⟨r,c,up⟩:=z
    simp only
    cases CE up<;>rfl
  |normal=>simp only[qN,<-this];cases ABJ P fn.results.toList st with
   |none=>rfl
   |some z=>
    obtain⟨r,c,up⟩:=z
    simp only
    cases CE up<;>rfl
  |_=>rfl
theorem A5{A:Ann}{kn:CF0}{n:Nat}{f:cq}{fn:Func}{code:ck}{args:List V}(hf:P.funcs[f]? = some fn)(hb:fn.body=some code)(hs:bh args.length fn.ntmps=true)(hcl:args.all (AG 9)=false)(d:Option Tmp)(c:Nat)(fr:Fr)(up:List AA)(loc:AA) :
  G4 (BN P A kn n) d ⟨c,fr,⟨up,loc⟩⟩ f args=fI P d fr fn.results.toList (AE P A kn n fn.ntmps code ⟨c,AF 0 args,⟨up++[loc],[]⟩⟩) :=
 qO hf hb hs (by rw[hcl,Bool.false_and]) d c fr up loc
theorem yM{A:Ann}{kn:CF0}{n:Nat}{f:cq}{fn:Func}{code:ck}{args:List V}(hf:P.funcs[f]? = some fn)(hb:fn.body=some code)(hs:bh args.length fn.ntmps=true)(hh:BD P f=true)(d:Option Tmp)(c:Nat)(fr:Fr)(up:List AA)(loc:AA) :
  G4 (BN P A kn n) d ⟨c,fr,⟨up,loc⟩⟩ f args=fI P d fr fn.results.toList (AE P A kn n fn.ntmps code ⟨c,AF 0 args,⟨up++[loc],[]⟩⟩) :=
 qO hf hb hs (by rw[hh,Bool.not_true,Bool.and_false]) d c fr up loc
@[simp] theorem AWX(f l k g o:Nat):AG (f+1) (.ptr l k g o)=false:=rfl
@[simp] theorem AWY(f l k g o:Nat):AG (f+1) (.vec l k g o)=false:=rfl
@[simp] theorem A9A(l k g o:Nat):weakV (.ptr l k g o)=.ptr l k g o:=rfl
@[simp] theorem A9B(l k g o:Nat):weakV (.vec l k g o)=.vec l k g o:=rfl
@[simp] theorem A9C(cs:List V):weakV (.ref cs)=.ref cs:=rfl
@[simp] theorem BHF(d c:Nat)(f:cq)(x y:List V):bx1 d c fr s (some (.fn f x y))=some ⟨c+1,(d,true,.ptr s.up.length d c 0)::fr,s.put s.up.length d c (.box [.fn f x y])⟩:=rfl
@[simp] theorem BCW(d c:Nat)(l k g o:Nat):bx1 d c fr s (some (.ptr l k g o))=some ⟨c+1,(d,true,.ptr s.up.length d c 0)::fr,s.put s.up.length d c (.box [.ptr l k g o])⟩:=rfl
@[simp] theorem FT:AH s []=[]:=rfl
@[simp] theorem BK(k g:Nat)(r:AX)(L:AA):AH s ((k,g,r)::L)=(k,g,CG s r)::AH s L:=rfl
def sr1(r:AX):Option (List V)->AX
 |some ds=>.box ds
 |none=>r
@[simp] theorem A9D(r:AX)(ds:List V):sr1 r (some ds)=.box ds:=rfl
theorem K7(cs:List V):CG s (.box cs)=sr1 (.box cs) (GV (B7 s) cs):=by unfold CG CA sr1;simp only;cases GV (B7 s) cs<;>rfl
attribute [simp] K7
theorem vC(f:V->Option V):GV f []=some []:=rfl
theorem qQ(f:V->Option V)(v:V)(l:List V):GV f (v::l)=mc2 (f v) (GV f l):=by
 simp only[GV];cases f v with
 |none=>rfl
 |some x=>cases GV f l<;>rfl
attribute [simp] vC qQ
@[simp] theorem ARF(k:cw)(n:Int):B7 s (.int k n)=some (.int k n):=rfl
@[simp] theorem AN1(b:Bool):B7 s (.bool b)=some (.bool b):=rfl
@[simp] theorem AN2(b:Bool)(es:List (List V)):B7 s (.list b es)=some (.list b es):=rfl
@[simp] theorem ARG:B7 s .nil=some .nil:=rfl
@[simp] theorem AWZ(es:List (List V)):B7 s (sl es)=some (sl es):=by cases es<;>rfl
@[simp] theorem AW0(f:cq)(x y:List V):B7 s (.fn f x y)=A3 s 4 (.fn f x y):=rfl
@[simp] theorem ARH(l k g o:Nat):B7 s (.ptr l k g o)=A3 s 4 (.ptr l k g o):=rfl
@[simp] theorem qU(l k g o:Nat):B7 s (.vec l k g o)=A3 s 4 (.vec l k g o):=rfl
@[simp] theorem A1K(f:Nat)(g:cq)(x y:List V):A3 s (f+1) (.fn g x y)=fn2 g (QG (A3 s f) x) (QG (A3 s f) y):=by simp only[A3,UZ,fn2];cases QG (A3 s f) x<;>cases QG (A3 s f) y<;>rfl
def cp1(f:List V->Option (List V))(g off:Nat):Option (Nat×AX)->Option V
 |some (g',.box cs)=>if g'=g then(f cs).map fun ds=>.ref (ds.drop off) else none
 |_=>none
@[simp] theorem AW1(f:Nat)(up:List AA)(loc:AA)(l k g off:Nat):A3 ⟨up,loc⟩ (f+1) (.ptr l k g off)=if l=up.length then cp1 (QG (A3 ⟨up,loc⟩ f)) g off (loc.get k) else some (.ptr l k g off):=by
 simp only[A3,UZ];split
 ·cases loc.get k with
  |none=>rfl
  |some z=>obtain⟨g',r⟩:=z;cases r<;>rfl
 ·rfl
theorem AN3:CG s .dead=.dead:=rfl
attribute [simp] AN3
end Go.Pg
theorem Go.Pg.qNz (m:Nat)(h:0<m):∃k,m=k+1:=⟨m-1,by omega⟩
