/- Running a Go function upon abstract values, by computing: one operation, and that it is what the walk asks. No program in sight. -/
import Derived.Test.YthhdhbalenanjaaGreatP5
namespace Go.Pg
variable {P:Program}{Ω:G6 P}{σ σ':Nat→Nat}{δ:Nat}{pre:List AA}{s:St}{fr:Fr}{g:Bool}
def KX(all:List Oper)(o:Oper):Option (Tmp×Bool):=match o.guard with
 |none=>none
 |some (j,w)=>match all[j]? with
  |some p=>match p.dst with
   |some d=>some (d,w)
   |none=>none
  |none=>none
def tP(all:List Oper):Bool:=all.all fun o=>GZ all o (KX all o)
theorem fZ{all:List Oper}:∀{l:List Oper},(∀o∈l,GZ all o (KX all o)=true)→JD all (l.map (KX all)) l=true
 |[],_=>rfl
 |o::l,h=>by simp only[List.map_cons,JD,Bool.and_eq_true];exact⟨h o (by simp),fZ fun p hp=>h p (by simp[hp])⟩
theorem TQ{all:List Oper}(h:tP all=true):∀o∈all,GZ all o (KX all o)=true:=fun o ho=>List.all_eq_true.1 h o ho
def A3W(d:Tmp)(p:Oper):Bool:=match p.op with
 |.call { callee:=.builtin .append,args,.. }=>match args.toList with
  |.tmp t::_=>Nat.beq t d
  |_=>false
 |.call { callee:=.value (.func _),args,argTypes }=>match args.toList,argTypes.toList with
  |[.tmp t,_],[T,U]=>Nat.beq t d&&Nat.beq T p.type&&!(Nat.beq U T)
  |_,_=>false
 |_=>false
def AQY(d:Tmp)(p:Oper):Bool:=match p.op with
 |.store _ _ (.tmp t)=>Nat.beq t d
 |_=>false
def DQ(l:List Oper)(o:Oper):Bool:=match o.op,o.dst with
 |.call { callee:=.value _,.. },some d=>l.any fun p=>A3W d p||AQY d p
 |_,_=>false
def kS(o:Oper):Bool:=match o.op with
 |.mapUpdate ..|.insert ..=>true
 |.call { callee:=.builtin b,.. }=>match b with
  |.len|.max|.min|.cap|.append=>false
  |_=>true
 |_=>false
def kC(o:Oper):Bool:=match o.op with
 |.call { callee:=.value _,.. }=>true
 |_=>false
def onB(o:Oper)(A:List Nat):Bool:=o.after.any fun e=>Region.binds .any e&&A.contains e.on
def A3X(o:Oper)(l:List Oper)(A:List Nat):Bool:=kW o&&l.isEmpty&&A.all fun j=>o.after.any fun e=>Region.binds .any e&&Nat.beq e.on j
def A3Y(o:Oper)(i:Nat):List Nat→List Nat
 |[]=>[i]
 |a::A=>cond (onB o [a]) (i::a::A) (a::A3Y o i A)
def J1(own:Oper→Bool):List Oper→Nat→List Nat→List Nat→List Nat→List Nat→List Nat→List Nat→List Nat×List Nat
 |[],_,R,Q,A,S,R2,T=>(R.reverse++Q.reverse++A.reverse++S.reverse++R2.reverse,T.reverse)
 |o::l,i,R,Q,A,S,R2,T=>
  cond (onB o T||kS o||A3X o l (R++Q++A++S++R2++T)||(kC o&&(onB o (Q++S++R2)||(!(own o)&&onB o A)))) (J1 own l (i+1) R Q A S R2 (i::T))
   (cond (kP o) (cond (onB o (A++S++R2)) (J1 own l (i+1) R Q A S (i :: R2) T) (J1 own l (i+1) R (i :: Q) A S R2 T))
   (cond (kW o) (cond (onB o R2) (J1 own l (i+1) R Q A S (i :: R2) T) (J1 own l (i+1) R Q A (i :: S) R2 T))
    (cond (onB o (Q++S++R2)||(cond (kA own o) (!R2.isEmpty) (onB o (A.take 1)))) (J1 own l (i+1) R Q A S (i :: R2) T)
     (cond (kA own o) (J1 own l (i+1) R Q (i :: A) S R2 T) (cond (onB o A) (J1 own l (i+1) R Q (A3Y o i A) S R2 T) (J1 own l (i+1) (i :: R) Q A S R2 T))))))
def AMW(af:Nat):List (Nat×Nat)→Nat→Nat
 |[],m=>m
 |p::r,m=>G7 (cond (U0 af p.1) (Nat.lor m (Nat.lor p.2 (Nat.shiftLeft 1 p.1))) m) (AMW af r)
def A3Z:List (Nat×Nat)→List (Nat×Nat)→List (Nat×Nat)
 |[],acc=>acc
 |p::r,acc=>G7 (AMW p.2 acc 0) fun m=>A3Z r ((p.1,m)::acc)
def AQZ(l:List Oper):List Nat:=((A3Z (zQ l 0) []).filterMap fun p=>cond (Nat.beq p.2 (Nat.sub (Nat.pow 2 p.1) 1)) (match l[p.1]? with
 |some o=>cond (kC o&&Nat.beq (KT p.1 (zQ l 0) 0) (Nat.sub (Nat.pow 2 l.length) (Nat.pow 2 (p.1+1)))) (some p.1) none
 | none=>none) none).reverse
def AMX(own:Oper→Bool)(l:List Oper):Nat→List Nat→WN
 |i,[]=>[J1 own (l.drop i) i [] [] [] [] [] []]
 |i,c::cs=>match J1 own ((l.drop i).take (c-i)) i [] [] [] [] [] []with
  |(R,T)=>(R,T++[c])::AMX own l (c+1) cs
def cA(l:List Oper):WN:=AMX (DQ l) l 0 (AQZ l)
def AQ0(l:List Oper):List Nat:=l.filterMap fun o=>cond (kA (DQ l) o) o.dst none
def F5:Code→Bool
 |.seq a b=>F5 a&&F5 b
 |.cond _ a b=>F5 a&&F5 b
 |.block _ c=>F5 c
 |.loop c=>F5 c
 |.scope _=>false
 |.rangeFunc ..=>false
 |_=>true
def EU(N:Nat):Code→Bool
 |.region _ ops draw=>cond draw (OM (DQ ops.toList) N (ops.toList.map (KX ops.toList)) (cA ops.toList) ops.toList) (LQ N ops.toList&&tP ops.toList)
 |.seq a b=>EU N a&&EU N b
 |.cond _ a b=>EU N a&&EU N b
 |.block _ c=>EU N c
 |.loop c=>EU N c
 |.scope c=>EU N c
 |.rangeFunc _ ps asg body=>ps.toList.all (fun p=>Nat.blt p N)&&F5 asg&&F5 body&&EU N asg&&EU N body
 |_=>true
def TR(N:Nat)(ps:List Tmp)(asg body:Code):Bool:=ps.all (fun p=>Nat.blt p N)&&F5 asg&&F5 body&&EU N asg&&EU N body
def TS(s:St):Prop:=∀l k γ fr ps asg body N st,s.get l k=some (γ,.loop fr ps asg body N st)→TR N ps asg body=true
theorem pJ{s:St}{l k γ:Nat}{r:AX}{l' k':Nat}{x:Nat×AX}(h:(s.put l k γ r).get l' k'=some x):x=(γ,r)∨s.get l' k'=some x:=by
 unfold St.put at h;unfold St.get at h⊢;by_cases e1:l=s.up.length
 ·rw[if_pos e1]at h;by_cases e2:l'=s.up.length
  ·rw[if_pos e2]at h⊢;rw[AA.get_put]at h;split at h
   ·exact .inl (Option.some.inj h).symm
   ·exact .inr h
  ·rw[if_neg e2]at h⊢;exact .inr h
 ·rw[if_neg e1]at h;have hl:({ s with up:=s.up.modify l (fun L=>L.put k γ r) }:St).up.length=s.up.length:=by simp
  rw[hl]at h;by_cases e2:l'=s.up.length
  ·rw[if_pos e2]at h⊢;exact .inr h
  ·rw[if_neg e2]at h⊢;rw[List.getElem?_modify]at h;cases hu:s.up[l']? with
   |none=>simp[hu]at h
   |some L=>
    rw[hu]at h
    simp only[Option.map_eq_map,Option.map_some]at h
    by_cases e3:l=l'
    ·simp only[e3,if_true,AA.get_put]at h;split at h
     ·exact .inl (Option.some.inj h).symm
     ·exact .inr h
    ·simp only[e3,if_false]at h;exact .inr h
theorem TS.put{s:St}(h:TS s){l k γ:Nat}{r:AX}(hr:∀fr ps asg body N st,r=.loop fr ps asg body N st→TR N ps asg body=true):TS (s.put l k γ r):=by
 intro l' k' γ' fr ps asg body N st hg;rcases pJ hg with e|e
 ·cases e;exact hr _ _ _ _ _ _ rfl
 ·exact h _ _ _ _ _ _ _ _ _ e
structure XS where
 c:Nat
 fr:Fr
 s:St
noncomputable def BQ(fr:Fr)(k:Nat):Option (Bool×V):=List.rec (motive:=fun _=>Option (Bool×V)) none (fun x _ ih=>Bool.rec ih (some x.2) (Nat.beq k x.1)) fr
theorem E9:∀(fr:Fr) (k:Nat),BQ fr k=fr.get k
 |[],_=>rfl
 |(j,x)::fr,k=>by
  show(Bool.rec (BQ fr k) (some x) (Nat.beq k j):Option (Bool×V))=if k=j then some x else Fr.get fr k
  by_cases h:k=j
  ·subst h;rw[if_pos rfl,Nat.beq_refl]
  ·rw[if_neg h,←E9 fr k];have:Nat.beq k j=false:=by
    cases hb:Nat.beq k j with
    |false=>rfl
    |true=>exact absurd (Nat.eq_of_beq_eq_true hb) h
   rw[this]
noncomputable def CO(fr:Fr)(x:Operand):Option V:=match x with
 |.tmp t=>match BQ fr t with
  |some (true,v)=>some v
  |_=>none
 |.const v=>CP v
 |.func f=>some (.fn f [] [])
 |.global _=>none
theorem DZ(x:Operand):CO fr x=DV true fr x:=by
 cases x with
 |tmp t=>
  simp only[CO,DV,rd,E9]
  cases fr.get t with
  |none=>rfl
  |some p=>
   obtain⟨c,v⟩:=p
   cases c<;>rfl
 |const v=>
  simp only[CO,DV,rd]
  cases CP v<;>rfl
 |func f=>rfl
 |global g=>rfl
theorem FA:CO fr=DV true fr:=funext fun x=>DZ x
def AU(c:Nat)(σ σ':Nat→Nat):Prop:=∀i,i<c→σ i=σ' i
theorem AU.refl(c:Nat)(σ:Nat→Nat):AU c σ σ:=fun _ _=>rfl
theorem AU.trans{c c':Nat}{σ σ' σ'':Nat→Nat}(h:AU c σ σ')(h':AU c' σ' σ'')(hc:c≤c'):AU c σ σ'':=fun i hi=>(h i hi).trans (h' i (Nat.lt_of_lt_of_le hi hc))
theorem AU.mono{c c':Nat}(h:AU c' σ σ')(hc:c≤c'):AU c σ σ':=fun i hi=>h i (Nat.lt_of_lt_of_le hi hc)
theorem AU.upd(c γ:Nat)(σ:Nat→Nat):AU c σ (fun i=>if i=c then γ else σ i):=fun i hi=>by simp[Nat.ne_of_lt hi]
structure Bd(st:XS):Prop where
 f:∀σ σ' δ,AU st.c σ σ'→st.fr.ren σ δ=st.fr.ren σ' δ
 s:∀σ σ' pre,AU st.c σ σ'→st.s.emb σ pre=st.s.emb σ' pre
 lp:TS st.s
def UG(c:Nat)(v:V):Prop:=∀σ σ' δ,AU c σ σ'→v.ren σ δ=v.ren σ' δ
structure KG(st st':XS):Prop where
 c:st.c≤st'.c
 bd:Bd st'
 n:st'.s.up.length=st.s.up.length
def StepX(P:Program)(o:Oper)(st st':XS):Prop:=KG st st'∧∀(σ:Nat→Nat) (pre:List AA) (k:Fr→St→Prop),(∀σ',AU st.c σ σ'→k (st'.fr.ren σ' pre.length) (st'.s.emb σ' pre))→EG P true o (st.fr.ren σ pre.length) (st.s.emb σ pre) k
theorem FI(d:Option Tmp)(c:Bool)(v:V):(putD fr d c v).ren σ δ=putD (fr.ren σ δ) d c (v.ren σ δ):=by cases d<;>rfl
theorem HC(d:Nat)(c:Bool)(v:V):(fr.put d c v).ren σ δ=(fr.ren σ δ).put d c (v.ren σ δ):=rfl
theorem UG.mono{c c':Nat}{v:V}(h:UG c v)(hc:c≤c'):UG c' v:=fun σ σ' δ ha=>h σ σ' δ (ha.mono hc)
theorem Bd.val{st:XS}(h:Bd st){o:Oper}{v:V}(hv:FH P g o st.fr st.s=some v):UG st.c v:=by intro σ σ' δ ha;have h1:=IV (σ:=σ) (pre:=List.replicate δ []) hv;have h2:=IV (σ:=σ') (pre:=List.replicate δ []) hv;rw[h.f σ σ' _ ha,h.s σ σ' _ ha,h2]at h1;have:=Option.some.inj h1;rw[List.length_replicate]at this;exact this.symm
theorem Bd.rd{st:XS}(h:Bd st){x:Operand}{v:V}(hv:CO st.fr x=some v):UG st.c v:=by intro σ σ' δ ha;rw[DZ]at hv;have h1:=DM (g:=true) (fr:=st.fr) (σ:=σ) (δ:=δ) x;have h2:=DM (g:=true) (fr:=st.fr) (σ:=σ') (δ:=δ) x;rw[h.f σ σ' _ ha,h2,hv]at h1;simpa using h1.symm
theorem Bd.putF{st:XS}(h:Bd st){d:Option Tmp}{c:Bool}{v:V}(hv:UG st.c v):Bd { st with fr:=putD st.fr d c v } :=
 ⟨fun σ σ' δ ha=>by simp only[FI];rw[h.f σ σ' δ ha,hv σ σ' δ ha],h.s,h.lp⟩
theorem Bd.mono{st:XS}(h:Bd st){c:Nat}(hc:st.c≤c):Bd { st with c:=c }:=⟨fun σ σ' δ ha=>h.f σ σ' δ (ha.mono hc),fun σ σ' pre ha=>h.s σ σ' pre (ha.mono hc),h.lp⟩
def dI:AX→Bool
 |.loop ..=>false
 |_=>true
theorem U6{r:AX}(h:dI r=true):∀fr ps asg body N st,r=.loop fr ps asg body N st→TR N ps asg body=true:=by intro fr ps asg body N st e;subst e;cases h
theorem Bd.putS{st:XS}(h:Bd st){l k γ:Nat}{r:AX}(hγ:γ<st.c)(hr:∀σ σ' δ,AU st.c σ σ'→r.ren σ δ=r.ren σ' δ)(hp:dI r=true:=by rfl):Bd { st with s:=st.s.put l k γ r } :=
 ⟨h.f,fun σ σ' pre ha=>by simp only[CR];rw[h.s σ σ' pre ha,hr σ σ' _ ha,ha γ hγ],h.lp.put (U6 hp)⟩
theorem xL{o:Oper}{st:XS}{v:V}(h:Bd st)(hv:FH P true o st.fr st.s=some v):StepX P o st { st with fr:=putD st.fr o.dst true v }:=by refine⟨⟨Nat.le_refl _,h.putF (h.val hv),rfl⟩,fun σ pre k hk=>DP (Ω:=G6.nothing P) (.inl ⟨_,IV hv,?_⟩)⟩;have:=hk σ (AU.refl _ _);rwa [FI]at this
theorem ZU{c:Nat}{v:V}(h:UG c v)(σ σ':Nat→Nat)(δ:Nat)(ha:AU c σ σ'):(A6 v).map (V.ren σ δ)=(A6 v).map (V.ren σ' δ):=by rw[←EM,←EM,h σ σ' δ ha]
def gA(P:Program)(Ω:G6 P)(o:Oper)(st st':XS):Prop:=KG st st'∧∃d,o.dst=some d∧∀(σ:Nat→Nat) (pre:List AA) (k:Fr→St→Prop),(∀σ',AU st.c σ σ'→k (st'.fr.ren σ' pre.length) (st'.s.emb σ' pre)) →
 ∃r,QC P Ω o (st.fr.ren σ pre.length)=some r∧∀γ,k ((st.fr.ren σ pre.length).put d true (r.val (st.s.emb σ pre).up.length d γ)) ((st.s.emb σ pre).put (st.s.emb σ pre).up.length d γ r.res)
theorem gA.step{o:Oper}{st st':XS}(h:gA P Ω o st st'):StepX P o st st':=by obtain⟨h1,d,hd,h2⟩:=h;refine⟨h1,fun σ pre k hk=>?_⟩;obtain⟨r,hr,h3⟩:=h2 σ pre k hk;exact DP (Ω:=Ω) (.inr (.inr ⟨r,d,rfl,hd,hr,h3⟩))
theorem dJ{o:Oper}{st:XS}{d:Nat}{cs:List V}(h:Bd st)(hd:o.dst=some d)(hcs:∀σ σ' δ,AU st.c σ σ'→cs.map (V.ren σ δ)=cs.map (V.ren σ' δ))
  (hn:∀σ pre,QC P Ω o (st.fr.ren σ (List.length (α:=AA) pre))=some ⟨.box (cs.map (V.ren σ pre.length)),none⟩) :
  gA P Ω o st ⟨st.c+1,st.fr.put d true (.ptr st.s.up.length d st.c 0),st.s.put st.s.up.length d st.c (.box cs)⟩:=by
 have hb:∀σ σ',AU (st.c+1) σ σ'→AU st.c σ σ':=fun σ σ' ha=>ha.mono (Nat.le_succ _)
 refine⟨⟨Nat.le_succ _,⟨fun σ σ' δ ha=>?_,fun σ σ' pre ha=>?_,h.lp.put (U6 rfl)⟩,St.put_len _ _ _ _ _⟩,d,hd,fun σ pre k hk=>⟨_,hn σ pre,fun γ=>?_⟩⟩
 ·simp only[HC,HA];rw[h.f σ σ' δ (hb _ _ ha),ha st.c (Nat.lt_succ_self _)]
 ·simp only[CR,AX.ren];rw[h.s σ σ' pre (hb _ _ ha),hcs σ σ' _ (hb _ _ ha),ha st.c (Nat.lt_succ_self _)]
 ·have:=hk (fun i=>if i=st.c then γ else σ i) (AU.upd _ _ _);have ha:=AU.upd st.c γ σ;simp only[HC,HA,if_true,CR,AX.ren]at this;rw[←h.f _ _ _ ha,←h.s _ _ _ ha,←hcs _ _ _ ha]at this;rw[DB];exact this
noncomputable def OR(P:Program)(d:Option Tmp)(T:TypeId)(st:XS):Option XS:=match d,B7 P T with
 |some d,some cs=>some ⟨st.c+1,(d,true,.ptr st.s.up.length d st.c 0)::st.fr,st.s.put st.s.up.length d st.c (.box cs)⟩
 |_,_=>none
noncomputable def lO(d:Option Tmp)(x:Operand)(st:XS):Option XS:=match d,CO st.fr x with
 |some d,some v=>Bool.rec none (some ⟨st.c+1,(d,true,.ptr st.s.up.length d st.c 0)::st.fr,st.s.put st.s.up.length d st.c (.box (A6 v))⟩) (A7 v)
 |_,_=>none
theorem dK{o:Oper}{T:TypeId}{st st':XS}(h:Bd st)(ho:o.op=.alloc T)(hx:OR P o.dst T st=some st'):gA P Ω o st st':=by
 unfold OR at hx;split at hx
 ·rename_i d cs hd hz;cases hx;refine dJ h hd (fun σ σ' δ _=>by rw[GK hz,GK hz]) fun σ pre=>?_;simp[QC,ho,hz,GK hz]
 ·cases hx
theorem tQ{o:Oper}{T:TypeId}{x:Operand}{st st':XS}(h:Bd st)(ho:o.op=.box T x)(hx:lO o.dst x st=some st'):gA P Ω o st st':=by
 unfold lO at hx;split at hx
 ·rename_i d v hd hv;cases hf:A7 v with
  |false=>rw[hf]at hx;cases hx
  |true=>
   rw[hf]at hx
   cases hx
   refine dJ h hd (fun σ σ' δ ha=>ZU (h.rd hv) σ σ' δ ha) fun σ pre=>?_
   rw[DZ]at hv
   simp[QC,ho,DM,hv,H6,hf,EM]
 ·cases hx
noncomputable def WB(P:Program)(d:Option Tmp)(T:TypeId)(x y:Operand)(st:XS):Option XS:=match d,BM P T with
 |some d,some (none,e)=>match CO st.fr x,CO st.fr y with
  |some (.int _ n),some (.int _ m)=>match B7 P e with
   |some z=>if 0≤n∧m=n∧z.length=P.cellsOf e∧n.toNat*P.bytesOf e≤140737488355328∧n.toNat≤maxLen then
     some ⟨st.c+1,(d,true,.vec st.s.up.length d st.c n.toNat)::st.fr,st.s.put st.s.up.length d st.c (.vec e (List.replicate n.toNat z))⟩ else none
   |none=>none
  |_,_=>none
 |_,_=>none
theorem lP{o:Oper}{T:TypeId}{x y:Operand}{st st':XS}(h:Bd st)(ho:o.op=.makeSlice T x y)(hx:WB P o.dst T x y st=some st'):gA P Ω o st st':=by
 unfold WB at hx;split at hx
 ·rename_i d e hd hel;split at hx
  ·rename_i k1 n k2 m h1 h2;split at hx
   ·rename_i z hz;split at hx
    ·rename_i hc;cases hx;rw[DZ]at h1 h2;have hr:∀σ δ,(List.replicate n.toNat z).map (List.map (V.ren σ δ))=List.replicate n.toNat z:=fun σ δ=>by rw[List.map_replicate,GK hz]
     have hb:∀σ σ',AU (st.c+1) σ σ'→AU st.c σ σ':=fun σ σ' ha=>ha.mono (Nat.le_succ _);refine⟨⟨Nat.le_succ _,⟨fun σ σ' δ ha=>?_,fun σ σ' pre ha=>?_,h.lp.put (U6 rfl)⟩,St.put_len _ _ _ _ _⟩,d,hd,fun σ pre k hk=>⟨⟨.vec e (List.replicate n.toNat z),none⟩,?_,fun γ=>?_⟩⟩
     ·show((st.fr.put d true _).ren σ δ)=((st.fr.put d true _).ren σ' δ);simp only[HC,HB];rw[h.f σ σ' δ (hb _ _ ha),ha st.c (Nat.lt_succ_self _)]
     ·simp only[CR,AX.ren,hr];rw[h.s σ σ' pre (hb _ _ ha),ha st.c (Nat.lt_succ_self _)]
     ·simp only[QC,ho,DM,h1,h2,Option.map_some,EH,hel,hz];rw[if_pos hc]
     ·have:=hk (fun i=>if i=st.c then γ else σ i) (AU.upd _ _ _);have ha:=AU.upd st.c γ σ;change k ((st.fr.put d true _).ren _ _) _ at this;simp only[HC,HB,if_true,CR,AX.ren,hr]at this;rw[←h.f _ _ _ ha,←h.s _ _ _ ha]at this;simp only[Mk.val,G5,List.length_replicate];rw[DB];exact this
    ·cases hx
   ·cases hx
  ·cases hx
 ·cases hx
noncomputable def xM(d:Option Tmp)(r:Option Operand)(st:XS):Option XS:=match d,r with
 |some d,none=>some ⟨st.c+1,(d,true,.mp st.s.up.length d st.c)::st.fr,st.s.put st.s.up.length d st.c (.map [])⟩
 |_,_=>none
theorem tR{o:Oper}{T:TypeId}{r:Option Operand}{st st':XS}(h:Bd st)(ho:o.op=.makeMap T r)(hx:xM o.dst r st=some st'):gA P Ω o st st':=by
 unfold xM at hx;split at hx
 ·rename_i d hd;cases hx;have hb:∀σ σ',AU (st.c+1) σ σ'→AU st.c σ σ':=fun σ σ' ha=>ha.mono (Nat.le_succ _);refine⟨⟨Nat.le_succ _,⟨fun σ σ' δ ha=>?_,fun σ σ' pre ha=>?_,h.lp.put (U6 rfl)⟩,St.put_len _ _ _ _ _⟩,d,hd,fun σ pre k hk=>⟨⟨.map [],none⟩,?_,fun γ=>?_⟩⟩
  ·show((st.fr.put d true _).ren σ δ)=((st.fr.put d true _).ren σ' δ);simp only[HC,Q3];rw[h.f σ σ' δ (hb _ _ ha),ha st.c (Nat.lt_succ_self _)]
  ·simp only[CR,AX.ren,List.map_nil];rw[h.s σ σ' pre (hb _ _ ha),ha st.c (Nat.lt_succ_self _)]
  ·simp only[QC,ho]
  ·have:=hk (fun i=>if i=st.c then γ else σ i) (AU.upd _ _ _);have ha:=AU.upd st.c γ σ;change k ((st.fr.put d true _).ren _ _) _ at this;simp only[HC,Q3,if_true,CR,AX.ren,List.map_nil]at this;rw[←h.f _ _ _ ha,←h.s _ _ _ ha]at this;simp only[Mk.val,G5];rw[DB];exact this
 ·cases hx
noncomputable def I3(P:Program)(d:Option Tmp)(T:TypeId)(x y:Operand)(st:XS):Option XS:=match d with
 |some _=>none
 |none=>match CO st.fr x,CO st.fr y with
  |some (.ptr l q γ off),some v=>match st.s.get l q with
   |some (γ',.box cs)=>if Nat.beq γ' γ&&A7 v&&Nat.blt 0 (P.cellsOf T)&&Nat.beq (A6 v).length (P.cellsOf T)&&Nat.ble (off+P.cellsOf T) cs.length&&Nat.blt γ st.c then some { st with s:=st.s.put l q γ (.box (A3 cs off (A6 v))) } else none
   |_=>none
  |some (.eptr l q γ i off),some v=>match st.s.get l q with
   |some (γ',.vec U es)=>if Nat.beq γ' γ&&A7 v&&Nat.blt 0 (P.cellsOf T)&&Nat.beq (A6 v).length (P.cellsOf T)&&Nat.blt i es.length&&Nat.ble (off+P.cellsOf T) (es.getD i []).length&&Nat.blt γ st.c then some { st with s:=st.s.put l q γ (.vec U (es.set i (A3 (es.getD i []) off (A6 v)))) } else none
   |_=>none
  |_,_=>none
theorem MV{st:XS}(h:Bd st){l q γ:Nat}{r:AX}(hg:st.s.get l q=some (γ,r))(σ σ':Nat→Nat)(δ:Nat)(ha:AU st.c σ σ'):r.ren σ δ=r.ren σ' δ:=by have h1:=B9 (s:=st.s) (σ:=σ) (pre:=List.replicate δ []) l q;have h2:=B9 (s:=st.s) (σ:=σ') (pre:=List.replicate δ []) l q;rw[h.s σ σ' _ ha,h2,hg]at h1;simp only[Option.map_some,List.length_replicate,Option.some.injEq,Prod.mk.injEq]at h1;exact h1.2.symm
theorem KY(es:List (List V))(i:Nat)(x:List V):(es.set i x).map (List.map (V.ren σ δ))=(es.map (List.map (V.ren σ δ))).set i (x.map (V.ren σ δ)):=by simp[List.map_set]
theorem dL{o:Oper}{T:TypeId}{x y:Operand}{st st':XS}(h:Bd st)(ho:o.op=.store T x y)(hx:I3 P o.dst T x y st=some st'):StepX P o st st':=by
 unfold I3 at hx;split at hx
 ·cases hx
 ·rename_i hd;split at hx
  ·rename_i l q γ off v h1 h2;split at hx
   ·rename_i γ' cs hg;split at hx
    ·rename_i hc;simp only[Bool.and_eq_true,Nat.blt_eq,Nat.ble_eq]at hc;obtain⟨⟨⟨⟨⟨c1,c2⟩,c3⟩,c4⟩,c5⟩,c6⟩:=hc;have c1:=Nat.eq_of_beq_eq_true c1;have c4:=Nat.eq_of_beq_eq_true c4;subst c1;cases hx;have hv:=h.rd h2;refine⟨⟨Nat.le_refl _,h.putS c6 fun σ σ' δ ha=>?_,St.put_len _ _ _ _ _⟩,fun σ pre k hk=>?_⟩
     ·have hr:=MV h hg σ σ' δ ha;simp only[AX.ren,AX.box.injEq]at hr⊢;rw[←C7,←C7,hr,ZU hv σ σ' δ ha]
     ·have:=hk σ (AU.refl _ _);rw[DZ]at h1 h2;unfold EG;simp only[ho,DM,h1,h2,Option.map_some,HA,B9,hg,AX.ren];refine⟨trivial,trivial,by rw[H6];exact c2,c3,by rw[EM];simpa using c4,by simpa using c5,hd,?_⟩;rw[EM,C7];rw[CR]at this;exact this
    ·cases hx
   ·cases hx
  ·rename_i l q γ i off v h1 h2;split at hx
   ·rename_i γ' U es hg;split at hx
    ·rename_i hc;simp only[Bool.and_eq_true,Nat.blt_eq,Nat.ble_eq]at hc;obtain⟨⟨⟨⟨⟨⟨c1,c2⟩,c3⟩,c4⟩,c5⟩,c6⟩,c7⟩:=hc;have c1:=Nat.eq_of_beq_eq_true c1;have c4:=Nat.eq_of_beq_eq_true c4;subst c1;cases hx;have hv:=h.rd h2;refine⟨⟨Nat.le_refl _,h.putS c7 fun σ σ' δ ha=>?_,St.put_len _ _ _ _ _⟩,fun σ pre k hk=>?_⟩
     ·have hr:=MV h hg σ σ' δ ha;simp only[AX.ren,AX.vec.injEq,true_and]at hr⊢;rw[KY,KY,←C7,←C7,←E0,←E0,hr,ZU hv σ σ' δ ha]
     ·have:=hk σ (AU.refl _ _);rw[DZ]at h1 h2;unfold EG;simp only[ho,DM,h1,h2,Option.map_some,ON,B9,hg,AX.ren];refine⟨trivial,trivial,by rw[H6];exact c2,c3,by rw[EM];simpa using c4,by simpa using c5,by rw[E0];simpa using c6,hd,?_⟩;rw[E0,EM,C7,←KY];rw[CR]at this;exact this
    ·cases hx
   ·cases hx
  ·cases hx
noncomputable def AI3(P:Program)(d:Option Tmp)(T:TypeId)(x i y:Operand)(st:XS):Option XS:=match d with
 |some _=>none
 |none=>match CO st.fr x,CO st.fr i,CO st.fr y with
  |some m,some i,some v=>match QG P st.s T m i v with
   |some (l,q,γ,es)=>Bool.rec none (some { st with s:=st.s.put l q γ (.map es) }) (Nat.blt γ st.c)
   |none=>none
  |_,_,_=>none
theorem AI4{o:Oper}{T:TypeId}{x i y:Operand}{st st':XS}(h:Bd st)(ho:o.op=.mapUpdate T x i y)(hx:AI3 P o.dst T x i y st=some st'):StepX P o st st':=by
 unfold AI3 at hx;split at hx
 ·cases hx
 ·rename_i hd;split at hx
  ·rename_i m i' v h1 h2 h3;split at hx
   ·rename_i l q γ es hu;cases hb:Nat.blt γ st.c with
    |false=>rw[hb]at hx;cases hx
    |true=>
     rw[hb]at hx
     have hlt:γ<st.c:=by simpa using hb
     cases hx
     have hm:=h.rd h1
     have hi:=h.rd h2
     have hv:=h.rd h3
     refine⟨⟨Nat.le_refl _,h.putS hlt fun σ σ' δ ha=>?_,St.put_len _ _ _ _ _⟩,fun σ pre k hk=>?_⟩
     ·have q1:=U4 (σ:=σ) (pre:=List.replicate δ []) hu;have q2:=U4 (σ:=σ') (pre:=List.replicate δ []) hu;rw[h.s σ σ' _ ha,hm σ σ' _ ha,hi σ σ' _ ha,hv σ σ' _ ha,q2]at q1;simp only[Option.some.injEq,Prod.mk.injEq,List.length_replicate]at q1;simp only[AX.ren,q1.2.2.2]
     ·have:=hk σ (AU.refl _ _);rw[DZ]at h1 h2 h3;unfold EG;simp only[ho,DM,h1,h2,h3,Option.map_some,U4 hu];refine⟨trivial,hd,?_⟩;rw[CR]at this;exact this
   ·cases hx
  ·cases hx
noncomputable def gB(P:Program)(d:Option Tmp)(args:List Operand)(Ts:List TypeId)(st:XS):Option XS:=match args,Ts,d with
 |[x],[T],none=>match BM P T,CO st.fr x with
  |some (none,e),some (.vtl l q γ i n)=>match st.s.get l q,B7 P e with
   |some (γ',.vec U es),some z=>Bool.rec none (some { st with s:=st.s.put l q γ (.vec U (es.take i++List.replicate n z++es.drop (i+n))) }) (Nat.beq γ' γ&&Nat.beq U e&&Nat.ble (i+n) es.length&&es.all (fun y=>y.length==z.length)&&Nat.blt γ st.c)
   |_,_=>none
  |_,_=>none
 |_,_,_=>none
theorem xN{o:Oper}{args:Array Operand}{Ts:Array TypeId}{st st':XS}(h:Bd st)(ho:o.op=.call { callee:=.builtin .clear,args:=args,argTypes:=Ts })(hx:gB P o.dst args.toList Ts.toList st=some st'):StepX P o st st':=by
 unfold gB at hx;split at hx
 ·rename_i x T ha hT hd;split at hx
  ·rename_i e l q γ i n hel h1;split at hx
   ·rename_i γ' U es z hg hz;cases hb:(Nat.beq γ' γ&&Nat.beq U e&&Nat.ble (i+n) es.length&&es.all (fun y=>y.length==z.length)&&Nat.blt γ st.c)with
    |false=>rw[hb]at hx;cases hx
    |true=>
     rw[hb]at hx
     cases hx
     simp only[Bool.and_eq_true,Nat.blt_eq,Nat.ble_eq]at hb
     obtain⟨⟨⟨⟨c1,c2⟩,c3⟩,c4⟩,c5⟩:=hb
     have c1:=Nat.eq_of_beq_eq_true c1
     have c2:=Nat.eq_of_beq_eq_true c2
     subst c1;subst c2
     have hz':∀σ δ,z.map (V.ren σ δ)=z:=fun σ δ=>GK hz
     refine⟨⟨Nat.le_refl _,h.putS c5 fun σ σ' δ ha=>?_,St.put_len _ _ _ _ _⟩,fun σ pre k hk=>?_⟩
     ·have hr:=MV h hg σ σ' δ ha;simp only[AX.ren,AX.vec.injEq,true_and]at hr⊢;simp only[List.map_append,List.map_take,List.map_drop,List.map_replicate,hz',hr]
     ·have:=hk σ (AU.refl _ _);rw[DZ]at h1;unfold EG;simp only[ho,ha,hT,hd,hel,DM,h1,Option.map_some,W1,B9,hg,hz,AX.ren];refine⟨trivial,trivial,trivial,by simpa using c3,?_,?_⟩
      ·rw[List.all_map];exact c4▸(by congr 1;funext x;simp)
      ·rw[CR]at this;simp only[AX.ren,List.map_append,List.map_take,List.map_drop,List.map_replicate,hz']at this;exact this
   ·cases hx
  ·cases hx
 ·cases hx
theorem pK{o:Oper}{l q γ:Nat}{r:AX}(h:C9 P o fr s=some (l,q,γ,r)):C9 P o (fr.ren σ pre.length) (s.emb σ pre)=some (l+pre.length,q,σ γ,r.ren σ pre.length):=by
 unfold C9 at h⊢;split at h
 ·rename_i T x y ho;simp only[DM];split at h
  ·rename_i l1 q1 γ1 off v e1 e2;simp only[e1,e2,Option.map_some,HA,B9];split at h
   ·rename_i γ2 cs e3;split at h
    ·rename_i hc;cases h;obtain⟨c1,c2,c3,c4,c5,c6⟩:=hc;subst c1;simp only[e3,Option.map_some,AX.ren,H6,EM,List.length_map];rw[if_pos ⟨trivial,c2,c3,c4,c5,c6⟩,C7]
    ·cases h
   ·cases h
  ·rename_i l1 q1 γ1 i off v e1 e2;simp only[e1,e2,Option.map_some,ON,B9];split at h
   ·rename_i γ2 U es e3;split at h
    ·rename_i hc;cases h;obtain⟨c1,c2,c3,c4,c5,c6,c7⟩:=hc;subst c1;simp only[e3,Option.map_some,AX.ren,H6,EM,List.length_map,E0];rw[if_pos ⟨trivial,c2,c3,c4,c5,c6,c7⟩,C7,←KY]
    ·cases h
   ·cases h
  ·cases h
 ·cases h
theorem ACX{o:Oper}{T:TypeId}{x y:Operand}{st st':XS}(ho:o.op=.store T x y)(hx:I3 P o.dst T x y st=some st'):∃l q γ r,C9 P o st.fr st.s=some (l,q,γ,r)∧st'={ st with s:=st.s.put l q γ r }:=by
 unfold I3 at hx;unfold C9;simp only[ho];split at hx
 ·cases hx
 ·rename_i hd;split at hx
  ·rename_i l q γ off v h1 h2;split at hx
   ·rename_i γ' cs hg;split at hx
    ·rename_i hc;simp only[Bool.and_eq_true,Nat.blt_eq,Nat.ble_eq]at hc;obtain⟨⟨⟨⟨⟨c1,c2⟩,c3⟩,c4⟩,c5⟩,c6⟩:=hc;have c1:=Nat.eq_of_beq_eq_true c1;have c4:=Nat.eq_of_beq_eq_true c4;subst c1;cases hx;rw[DZ]at h1 h2;refine⟨_,_,_,_,?_,rfl⟩;simp only[h1,h2,hg];rw[if_pos ⟨trivial,c2,c3,c4,c5,hd⟩]
    ·cases hx
   ·cases hx
  ·rename_i l q γ i off v h1 h2;split at hx
   ·rename_i γ' U es hg;split at hx
    ·rename_i hc;simp only[Bool.and_eq_true,Nat.blt_eq,Nat.ble_eq]at hc;obtain⟨⟨⟨⟨⟨⟨c1,c2⟩,c3⟩,c4⟩,c5⟩,c6⟩,c7⟩:=hc;have c1:=Nat.eq_of_beq_eq_true c1;have c4:=Nat.eq_of_beq_eq_true c4;subst c1;cases hx;rw[DZ]at h1 h2;refine⟨_,_,_,_,?_,rfl⟩;simp only[h1,h2,hg];rw[if_pos ⟨trivial,c2,c3,c4,c5,c6,hd⟩]
    ·cases hx
   ·cases hx
  ·cases hx
def AA.hide(W:AM)(l:Nat)(L:AA):AA:=L.filter fun e=>!(W.contains (l,e.1))
theorem AA.get_hide(W:AM)(l:Nat):∀(L:AA) (k:Nat),(l,k)∉W→(L.hide W l).get k=L.get k
 |[],k,_=>rfl
 |(j,x)::L,k,hk=>by
  have ih:=AA.get_hide W l L k hk;unfold AA.hide at ih⊢;rw[List.filter_cons];split
  ·simp only[AA.get];split
   ·rfl
   ·exact ih
  ·rename_i hc;simp only[Bool.not_eq_true',Bool.not_eq_false,List.contains_iff_mem]at hc;rw[ih];simp only[AA.get];rw[if_neg (fun e=>hk (by rw[e];simpa using hc))]
theorem AA.get_hide'(W:AM)(l:Nat):∀(L:AA) (k:Nat),(l,k)∈W→(L.hide W l).get k=none
 |[],k,_=>rfl
 |(j,x)::L,k,hk=>by
  have ih:=AA.get_hide' W l L k hk;unfold AA.hide at ih⊢;rw[List.filter_cons];split
  ·rename_i hc;simp only[AA.get];rw[if_neg (fun e=>by subst e;simp[hk]at hc)];exact ih
  ·exact ih
def St.hide(W:AM)(s:St):St:=⟨s.up.mapIdx fun l L=>L.hide W l,s.loc.hide W s.up.length⟩
theorem St.get_hide{W:AM}{l k:Nat}(h:(l,k)∉W):(s.hide W).get l k=s.get l k:=by
 unfold St.get St.hide;simp only[List.length_mapIdx];split
 ·rename_i e;subst e;exact AA.get_hide W _ _ _ h
 ·rw[List.getElem?_mapIdx];cases s.up[l]? with
  |none=>rfl
  |some L=>exact AA.get_hide W _ _ _ h
theorem St.get_hide'{W:AM}{l k:Nat}(h:(l,k)∈W):(s.hide W).get l k=none:=by
 unfold St.get St.hide;simp only[List.length_mapIdx];split
 ·rename_i e;subst e;exact AA.get_hide' W _ _ _ h
 ·rw[List.getElem?_mapIdx];cases s.up[l]? with
  |none=>rfl
  |some L=>exact AA.get_hide' W _ _ _ h
theorem ZV(W:AM):V7 W (s.hide W) s:=fun l k x e=>by
 by_cases h:(l,k)∈W
 ·rw[St.get_hide' h]at e;cases e
 ·exact⟨h,by rw[←St.get_hide h];exact e⟩
def A8:Option V→AM
 |some (.ptr l k _ _)=>[(l,k)]
 |some (.eptr l k _ _ _)=>[(l,k)]
 |some (.vec l k _ _)=>[(l,k)]
 |some (.mp l k _)=>[(l,k)]
 |_=>[]
def BR(one:Bool)(x:Option V):AM:=match one,x with
 |true,some (.ptr l k _ off)=>[(l,k+F9),(l,k+D9),(l,DY k off)]
 |true,some (.eptr l k _ _ off)=>[(l,k+F9),(l,k+D9),(l,DY k off)]
 |_,x=>A8 x
def BW(one:Bool)(x:Option V):AM:=match one,x with
 |true,some (.ptr l k _ off)=>[(l,k),(l,DY k off)]
 |true,some (.eptr l k _ _ off)=>[(l,k),(l,DY k off)]
 |false,some (.ptr l k _ _)=>[(l,k),(l,k+D9)]
 |false,some (.eptr l k _ _ _)=>[(l,k),(l,k+D9)]
 |_,_=>[]
def ACY:Option V→Bool
 |some (.ptr ..)=>true
 |some (.eptr ..)=>true
 |_=>false
def EV:Option V→AM
 |some (.vec l k _ _)=>[(l,k)]
 |some (.vtl l k _ _ _)=>[(l,k)]
 |some (.ptr l k _ _)=>[(l,k)]
 |_=>[]
def J2:Option V→AM
 |some (.vec l k _ _)=>[(l,k+F9)]
 |_=>[]
def lQ(P:Program)(o:Oper)(r:Operand→Option V):Bool:=match o.op with
 |.load T x=>Nat.beq (P.cellsOf T) 1&&ACY (r x)
 |.indexAddr _ x _=>match r x with
  |some (.vec ..)=>true
  |_=>false
 |_=>false
def J3(r:Operand→Option V):List Operand→AM
 |[_,y]=>EV (r y)
 |_=>[]
def EA(P:Program)(o:Oper)(r:Operand→Option V):AM:=match o.op with
 |.load T x=>BR (Nat.beq (P.cellsOf T) 1) (r x)
 |.indexAddr _ x _=>J2 (r x)
 |.slice _ x ..=>EV (r x)
 |.lookup _ x ..=>A8 (r x)
 |.call { callee:=.builtin .append,args,.. }=>J3 r args.toList
 |_=>[]
theorem gC{W:AM}{x:V}{es:List (List V)}(h:elemsOf s x=some es)(hr:∀p∈EV (some x),p∉W):elemsOf (s.hide W) x=some es:=by
 cases x with
 |vec l k g n=>
  have hn:(l,k)∉W:=hr _ (by simp[EV])
  simp only[elemsOf,St.get_hide hn]at h⊢
  exact h
 |vtl l k g i n=>
  have hn:(l,k)∉W:=hr _ (by simp[EV])
  simp only[elemsOf,St.get_hide hn]at h⊢
  exact h
 |list b es=>exact h
 |nil=>exact h
 |_=>cases h
theorem ACZ{W:AM}{o:Oper}{r:Operand→Option V}{v:V}(h:IL P o s r=some v)(hi:lQ P o r=false)(hr:∀p∈EA P o r,p∉W):IL P o (s.hide W) r=some v:=by
 unfold IL at h⊢;split at h;case h_4 T x ho=>
  obtain⟨p,h1,h2⟩:=Option.bind_eq_some_iff.1 h
  obtain⟨cs,h3,h4⟩:=Option.bind_eq_some_iff.1 h2
  have:A5 (s.hide W) p=some cs:=by
   cases p with
   |ptr l k g off=>
    have hb:Nat.beq (P.cellsOf T) 1=false:=by simpa [lQ,ho,h1,ACY]using hi
    have hn:(l,k)∉W:=hr _ (by simp[EA,ho,h1,BR,hb,A8])
    simp only[A5,St.get_hide hn]at h3⊢;exact h3
   |eptr l k g i off=>
    have hb:Nat.beq (P.cellsOf T) 1=false:=by simpa [lQ,ho,h1,ACY]using hi
    have hn:(l,k)∉W:=hr _ (by simp[EA,ho,h1,BR,hb,A8])
    simp only[A5,St.get_hide hn]at h3⊢;exact h3
   |_=>exact h3
  simp only[h1,Option.bind_some,this,h4]
 case h_10 T x i ho=>
  obtain⟨p,h1,h2⟩:=Option.bind_eq_some_iff.1 h
  obtain⟨q,h3,h4⟩:=Option.bind_eq_some_iff.1 h2
  have:BT P (s.hide W) T p q=some v:=by
   unfold BT at h4⊢;split at h4
   ·exact h4
   ·rename_i e l k g n k' j e1;simp[lQ,ho,h1]at hi
   ·exact h4
   ·exact h4
   ·exact h4
   ·cases h4
  simp only[h1,h3,Option.bind_some,this]
 case h_16 T x lo hi mx ho=>
  obtain⟨p,h1,h2⟩:=Option.bind_eq_some_iff.1 h
  obtain⟨q,h3,h4⟩:=Option.bind_eq_some_iff.1 h2
  obtain⟨q',h5,h6⟩:=Option.bind_eq_some_iff.1 h4
  obtain⟨q2,h7,h8⟩:=Option.bind_eq_some_iff.1 h6
  have:B8 P (s.hide W) T p q q' q2=some v:=by
   unfold B8 at h8⊢;split at h8;case h_6 e l k g n k' i e1=>
    have hn:(l,k)∉W:=hr _ (by simp[EA,ho,h1,EV])
    simp only[St.get_hide hn];exact h8
   case h_7 n e l k g o e1=>
    have hn:(l,k)∉W:=hr _ (by simp[EA,ho,h1,EV])
    simp only[St.get_hide hn];exact h8
   all_goals exact h8
  simp only[h1,h3,h5,h7,Option.bind_some,this]
 case h_17 T x i ok ho=>
  obtain⟨p,h1,h2⟩:=Option.bind_eq_some_iff.1 h
  obtain⟨q,h3,h4⟩:=Option.bind_eq_some_iff.1 h2
  have:EF P (s.hide W) T p q ok=some v:=by
   unfold EF at h4⊢;split at h4
   ·rename_i K E l k g e1;have hn:(l,k)∉W:=hr _ (by simp[EA,ho,h1,A8]);simp only[St.get_hide hn];exact h4
   ·cases h4
  simp only[h1,h3,Option.bind_some,this]
 all_goals exact h
theorem xO{W:AM}{o:Oper}{v:V}(h:FH P g o fr s=some v)(hi:lQ P o (DV g fr)=false)(hr:∀p∈EA P o (DV g fr),p∉W):FH P g o fr (s.hide W)=some v:=by
 unfold FH at h⊢;split at h
 ·exact h
 ·exact h
 ·exact h
 ·exact ACZ h hi hr
def bI(δ:Nat)(W:AM):AM:=W.map fun p=>(p.1+δ,p.2)
theorem MW{W:AM}{l k:Nat}:(l+δ,k)∈bI δ W↔(l,k)∈W:=by
 unfold bI;simp only[List.mem_map,Prod.mk.injEq,Prod.exists];constructor
 ·rintro ⟨a,b,h,h1,h2⟩;have:a=l:=by omega
  subst this;subst h2;exact h
 ·intro h;exact⟨l,k,h,rfl,rfl⟩
theorem WC(x:Option V):A8 (x.map (V.ren σ δ))=bI δ (A8 x):=by
 cases x with
 |none=>rfl
 |some v=>cases v<;>simp[A8,bI]
theorem Q7(x:Option V):EV (x.map (V.ren σ δ))=bI δ (EV x):=by
 cases x with
 |none=>rfl
 |some v=>cases v<;>simp[EV,bI]
theorem pL(x:Option V):J2 (x.map (V.ren σ δ))=bI δ (J2 x):=by
 cases x with
 |none=>rfl
 |some v=>cases v<;>simp[J2,bI]
theorem pM(b:Bool)(x:Option V):BR b (x.map (V.ren σ δ))=bI δ (BR b x):=by
 cases b with
 |false=>exact WC x
 |true=>
  cases x with
  |none=>rfl
  |some v=>cases v<;>simp[BR,A8,bI]
theorem AQ1{W:AM}{o:Oper}{v:V}(h:FH P g o fr s=some v)(hi:lQ P o (DV g fr)=true)(hr:∀p∈EA P o (DV g fr),p∉W):bY P W g o fr s v:=by
 unfold lQ at hi;split at hi
 ·rename_i T x ho;rw[Bool.and_eq_true]at hi;have h1:=Nat.eq_of_beq_eq_true hi.1;unfold FH at h;simp only[ho,IL]at h;obtain⟨p,hx,h⟩:=Option.bind_eq_some_iff.1 h;obtain⟨cs,hcs,hv⟩:=Option.bind_eq_some_iff.1 h;have hp:=hi.2;rw[hx]at hp;cases p with
  |ptr l k γ off=>
   have hr':∀p∈[(l,k+F9),(l,k+D9),(l,DY k off)],p∉W:=fun p hp=>hr p (by simp only[EA,ho,hx,hi.1,BR];exact hp)
   refine .inr ⟨T,x,_,cs,l,k,off,ho,hx,rfl,hcs,hv,by omega,hr' _ (by simp),hr' _ (by simp),fun c hc=>?_⟩
   obtain rfl:c=0:=by omega
   exact hr' _ (by simp)
  |eptr l k γ i off=>
   have hr':∀p∈[(l,k+F9),(l,k+D9),(l,DY k off)],p∉W:=fun p hp=>hr p (by simp only[EA,ho,hx,hi.1,BR];exact hp)
   refine .inr ⟨T,x,_,cs,l,k,off,ho,hx,rfl,hcs,hv,by omega,hr' _ (by simp),hr' _ (by simp),fun c hc=>?_⟩
   obtain rfl:c=0:=by omega
   exact hr' _ (by simp)
  |_=>cases hp
 ·rename_i T x i ho;split at hi
  ·rename_i l k γ n hx;unfold FH at h;simp only[ho,IL,hx,Option.bind_some]at h;obtain⟨iv,hiv,h⟩:=Option.bind_eq_some_iff.1 h;unfold BT at h;split at h
   ·rename_i e1 e2;cases e2
   ·rename_i e l' k' γ' n' ki j e1 e2;cases e2;split at h
    ·rename_i γ2 T' es hget;split at h
     ·rename_i hc;obtain⟨rfl,hc⟩:=hc;exact .inl ⟨T,x,i,e,_,_,_,_,ki,j,T',es,ho,hx,hiv,e1,hr _ (by simp[EA,ho,hx,J2]),hget,hc,(Option.some.inj h).symm⟩
     ·cases h
    ·cases h
   ·rename_i e1 e2;cases e2
   ·rename_i e1 e2;cases e2
   ·rename_i e1 e2;cases e2
   ·cases h
  ·cases hi
 ·cases hi
theorem pN{r:Operand→Option V}(l:List Operand):J3 (fun x=>(r x).map (V.ren σ δ)) l=bI δ (J3 r l):=by
 unfold J3;split
 ·exact Q7 _
 ·rfl
theorem pO{o:Oper}{r:Operand→Option V}:EA P o (fun x=>(r x).map (V.ren σ δ))=bI δ (EA P o r):=by
 unfold EA;split
 ·exact pM _ _
 ·exact pL _
 ·exact Q7 _
 ·exact WC _
 ·exact pN _
 ·rfl
theorem lR{W rd:AM}(h:∀p∈rd,p∉W):∀p∈bI δ rd,p∉bI δ W:=by intro p hp;unfold bI at hp;obtain⟨⟨l,k⟩,hq,rfl⟩:=List.mem_map.1 hp;exact fun hc=>h _ hq (MW.1 hc)
end Go.Pg
namespace Go.Pg
variable {P:Program}{σ σ':Nat→Nat}{δ:Nat}{pre:List AA}{s:St}{fr:Fr}{g:Bool}
noncomputable def rdC(fr:Fr)(x:Operand):Option (Bool×V):=match x with
 |.tmp t=>BQ fr t
 |.const v=>match CP v with
  |some x=>some (true,x)
  |none=>none
 |.func f=>some (true,.fn f [] [])
 |.global _=>none
theorem AQ2(x:Operand):rdC fr x=rd fr x:=by
 cases x with
 |tmp t=>exact E9 fr t
 |const v=>simp only[rdC,rd];cases CP v<;>rfl
 |func f=>rfl
 |global g=>rfl
noncomputable def lS(fr:Fr)(c a b:Operand):Option V:=match CO fr c,rdC fr a,rdC fr b with
 |some (.bool c),some (ca,.bool a),some (cb,.bool b)=>Bool.rec (Bool.rec none (some (.bool b)) cb) (Bool.rec none (some (.bool a)) ca) c
 |_,_,_=>none
noncomputable def LW(P:Program)(fr:Fr)(s:St)(T:TypeId)(x:Operand):Option V:=match CO fr x with
 |some p=>match A5 s p with
  |some cs=>BL P T cs
  |none=>none
 |none=>none
noncomputable def xFA(P:Program)(fr:Fr)(T:TypeId)(x:Operand)(f:Nat):Option V:=match CO fr x with
 |some p=>C6 P T p f
 |none=>none
noncomputable def pP(P:Program)(fr:Fr)(op:BinOp)(T:TypeId)(x y:Operand):Option V:=match CO fr x,CO fr y with
 |some a,some b=>GY P op T a b
 |_,_=>none
noncomputable def Q8(P:Program)(fr:Fr)(T:TypeId)(ps:List (Nat×Operand)):Option V:=match C4 (CO fr) ps with
 |some l=>CV P T l
 |none=>none
noncomputable def MX(P:Program)(fr:Fr)(T:TypeId)(n:Nat)(ps:List (Nat×Operand)):Option V:=match C4 (CO fr) ps with
 |some l=>CC P T n l
 |none=>none
noncomputable def AI5(P:Program)(o:Oper)(fr:Fr)(s:St):Option V:=match o.op with
 |.move x=>CO fr x
 |.assign x=>CO fr x
 |.load T x=>LW P fr s T x
 |.fieldAddr T x f=>xFA P fr T x f
 |.binOp op T x y _=>pP P fr op T x y
 |.pick c a b=>lS fr c a b
 |.build T ps=>Q8 P fr T ps.toList
 |.buildSlice T n ps=>MX P fr T n ps.toList
 |_=>IL P o s (CO fr)
theorem PU{o:Oper}{v:V}(h:AI5 P o fr s=some v):FH P true o fr s=some v:=by
 unfold AI5 at h;unfold FH;split at h<;>rename_i ho
 ·simp only[ho,IL,←FA];exact h
 ·simp only[ho,IL,←FA];exact h
 ·unfold LW at h;split at h
  ·rename_i p e1;split at h
   ·rename_i cs e2;simp only[ho,IL,←FA,e1,e2,Option.bind_some];exact h
   ·cases h
  ·cases h
 ·unfold xFA at h;split at h
  ·rename_i p e1;simp only[ho,IL,←FA,e1,Option.bind_some];exact h
  ·cases h
 ·unfold pP at h;split at h
  ·rename_i a b e1 e2;simp only[ho,IL,←FA,e1,e2,Option.bind_some];exact h
  ·cases h
 ·unfold lS at h;simp only[AQ2]at h;split at h
  ·rename_i c ca a cb b e1 e2 e3;rw[DZ]at e1;simp only[ho,e1,e2,e3];cases c with
   |true=>
    cases ca with
    |false=>cases h
    |true=>cases h;simp
   |false=>
    cases cb with
    |false=>cases h
    |true=>cases h;simp
  ·cases h
 ·unfold Q8 at h;split at h
  ·rename_i l e1;simp only[ho,←FA,e1,Option.bind_some];exact h
  ·cases h
 ·unfold MX at h;split at h
  ·rename_i l e1;simp only[ho,←FA,e1,Option.bind_some];exact h
  ·cases h
 ·rw[FA]at h;split
  ·rename_i ho';rw[IL,ho']at h;cases h
  ·rename_i ho';rw[IL,ho']at h;cases h
  ·rename_i ho';rw[IL,ho']at h;cases h
  ·exact h
theorem JM{α:Type}{b:Bool}{x y:α}(h:(Bool.rec none (some x) b:Option α)=some y):b=true∧x=y:=by
 cases b with
 |false=>cases h
 |true=>exact⟨rfl,Option.some.inj h⟩
theorem EI{α:Type}{b:Bool}{x:Option α}{y:α}(h:(Bool.rec none x b:Option α)=some y):b=true∧x=some y:=by
 cases b with
 |false=>cases h
 |true=>exact⟨rfl,h⟩
theorem TU{st:XS}(h:Bd st){v:V}{ys:List (List V)}(hv:UG st.c v)(he:elemsOf st.s v=some ys)(σ σ':Nat→Nat)(δ:Nat)(ha:AU st.c σ σ'):ys.map (List.map (V.ren σ δ))=ys.map (List.map (V.ren σ' δ)):=by have h1:=GL (σ:=σ) (pre:=List.replicate δ []) he;have h2:=GL (σ:=σ') (pre:=List.replicate δ []) he;rw[h.s σ σ' _ ha,hv σ σ' _ ha,h2]at h1;have:=Option.some.inj h1;rw[List.length_replicate]at this;exact this.symm
theorem FJ(ys:List (List V))(m:Nat):(ys.map (List.map (V.ren σ δ))).all (fun y=>y.length==m)=ys.all (fun y=>y.length==m):=by rw[List.all_map];congr 1;funext y;simp
noncomputable def lT(P:Program)(d:Tmp)(e:TypeId)(ys:List (List V))(st:XS)(xv:V):Option (XS×Nat×Nat):=match xv with
 |.vec l q γ n=>match QY n ys (st.s.get l q)with
  |some (γ',.vec W es)=>Bool.rec none (some (⟨st.c+1,(d,true,.vec l q st.c (es++ys).length)::st.fr,st.s.put l q st.c (.vec e (es++ys))⟩,l,q))
    (Nat.beq γ' γ&&Nat.beq W e&&Nat.beq n es.length&&es.all (fun y=>y.length==P.cellsOf e)&&B4 P e es.length ys)
  |_=>none
 |_=>none
noncomputable def xAppG(el:St→V→Option (List (List V)))(P:Program)(d:Option Tmp)(args:List Operand)(Ts:List TypeId)(st:XS):Option (XS×Nat×Nat):=match args,Ts,d with
 | [x,y],[T,U],some d=>Bool.rec none (match BM P T with
  |some (none,e)=>match CO st.fr x,CO st.fr y with
   |some xv,some yv=>match el st.s yv with
    |some ys=>match H4 xv ys with
     |some es=>Bool.rec none (some (⟨st.c+1,(d,true,.vec st.s.up.length d st.c (es++ys).length)::st.fr,st.s.put st.s.up.length d st.c (.vec e (es++ys))⟩,st.s.up.length,d)) (es.all (fun y=>y.length==P.cellsOf e)&&B4 P e es.length ys)
     |none=>lT P d e ys st xv
    |none=>none
   |_,_=>none
  | _=>none) (Nat.beq T U)
 |_,_,_=>none
theorem AC0(v:V):WK (v.ren σ δ)=WK v:=by
 cases v with
 |list f es=>cases f<;>cases es<;>simp[WK]
 |_=>simp[WK]
theorem lU(v:V)(ys:List (List V)):H4 (v.ren σ δ) (ys.map (List.map (V.ren σ δ)))=(H4 v ys).map (List.map (List.map (V.ren σ δ))):=by
 cases v with
 |list f es=>cases f<;>cases es<;>cases ys<;>simp[H4]
 |_=>simp[H4]
theorem pQ{v:V}{es ys:List (List V)}(h:H4 v ys=some es):elemsOf s v=some es:=by unfold H4 at h;split at h<;>cases h<;>rfl
theorem dM{e:TypeId}{n:Nat}(ys:List (List V)):B4 P e n (ys.map (List.map (V.ren σ δ)))=B4 P e n ys:=by unfold B4;rw[FJ,List.length_map]
theorem AC1{n:Nat}(ys es:List (List V)):fP n (ys.map (List.map (V.ren σ δ))) (es.map (List.map (V.ren σ δ)))=(fP n ys es).map (List.map (V.ren σ δ)):=by
 cases ys with
 |nil=>rfl
 |cons y ys=>
  show(if _ then _ else _)=(if _ then _ else _:List (List V)).map _
  have e:(es.map (List.map (V.ren σ δ))).all (fun x=>x.length==(y.map (V.ren σ δ)).length)=es.all (fun x=>x.length==y.length):=by rw[List.all_map,List.length_map];congr 1;funext x;simp
  rw[e]
  split
  ·rw[List.map_take]
  ·rfl
theorem lV{n γ:Nat}{ys es:List (List V)}{U:TypeId}{o:Option (Nat×AX)}(h:QY n ys o=some (γ,.vec U es)):QY n (ys.map (List.map (V.ren σ δ))) (o.map fun p=>(σ p.1,p.2.ren σ δ))=some (σ γ,.vec U (es.map (List.map (V.ren σ δ)))):=by obtain⟨es0,rfl,rfl⟩:=PM h;show some (σ γ,AX.vec U (fP n _ _))=_;rw[AC1]
theorem ZW{el:St→V→Option (List (List V))}(hel0:∀s v es,el s v=some es→elemsOf s v=some es){o:Oper}{args:Array Operand}{Ts:Array TypeId}{st st':XS}{l q:Nat}(h:Bd st)(ho:o.op=.call { callee:=.builtin .append,args:=args,argTypes:=Ts })
  (hx:xAppG el P o.dst args.toList Ts.toList st=some (st',l,q)):∃d r,o.dst=some d∧dI r=true∧st'=⟨st.c+1,(d,true,G5 r l q st.c)::st.fr,st.s.put l q st.c r⟩∧(∀σ σ' δ,AU st.c σ σ'→r.ren σ δ=r.ren σ' δ) ∧
   (∀(σ:Nat→Nat) (pre:List AA) (k:Fr→St→Prop),(∀γ,k ((st.fr.ren σ pre.length).put d true (G5 (r.ren σ pre.length) (l+pre.length) q γ)) ((st.s.emb σ pre).put (l+pre.length) q γ (r.ren σ pre.length)))→EG P true o (st.fr.ren σ pre.length) (st.s.emb σ pre) k) ∧
   (∀(W:AM) (σ:Nat→Nat) (pre:List AA),(∀p∈J3 (CO st.fr) args.toList,p∉W)→WM P o (st.fr.ren σ pre.length) ((st.s.emb σ pre).hide (bI pre.length W)) (st.s.emb σ pre)=some (l+pre.length,q,r.ren σ pre.length)):=by
 unfold xAppG at hx
 split at hx
 ·rename_i x y T U d ha hT hd;obtain⟨hTU,hx2⟩:=EI hx;clear hx;have hTU:=Nat.eq_of_beq_eq_true hTU;subst hTU;have hx:=hx2;clear hx2;split at hx
  ·rename_i e hel;split at hx
   ·rename_i xv yv h1 h2;split at hx
    ·rename_i ys hys0;have hys:=hel0 _ _ _ hys0;have hyb:=TU h (h.rd h2) hys;have r1:=h1;have r2:=h2;rw[DZ]at r1 r2;have hys2:∀(W:AM) (σ:Nat→Nat) (pre:List AA),(∀p∈J3 (CO st.fr) args.toList,p∉W)→elemsOf ((st.s.emb σ pre).hide (bI pre.length W)) (yv.ren σ pre.length)=some (ys.map (List.map (V.ren σ pre.length))):=fun W σ pre hW=>by refine gC (GL hys) ?_;rw[ha]at hW;simp only[J3,h2]at hW;have:=lR (δ:=pre.length) hW;rw[←Q7 (σ:=σ)]at this;exact this
     cases hn:H4 xv ys with
     |some es=>
      rw[hn]at hx
      obtain⟨hc,he⟩:=JM hx
      simp only[Prod.mk.injEq]at he
      obtain⟨rfl,rfl,rfl⟩:=he
      simp only[Bool.and_eq_true]at hc
      obtain⟨hce,hc⟩:=hc
      have heb:=TU h (h.rd h1) (pQ hn)
      refine⟨d,.vec e (es++ys),hd,rfl,rfl,fun σ σ' δ hag=>by simp only[AX.ren,List.map_append,hyb σ σ' δ hag,heb σ σ' δ hag],fun σ pre k hk=>?_,fun W σ pre hW=>?_⟩
      ·have hc':=hc;simp only[B4,Bool.and_eq_true,Nat.blt_eq,Nat.ble_eq]at hc;obtain⟨⟨⟨⟨c1,c2⟩,c3⟩,c4⟩,c5⟩:=hc;unfold EG;simp only[ho,ha,hT,hd,hel,DM,r1,r2,Option.map_some,Option.bind_some,GL hys,lU,hn,true_and];refine⟨c1,c2,by rw[FJ];exact hce,by rw[FJ];exact c3,by simpa using c4,by simpa using c5,fun γ=>?_⟩;have:=hk γ;simp only[G5,AX.ren]at this;rw[DB,←List.map_append];exact this
      ·unfold WM;simp only[ho,ha,hT,hd,hel,DM,r1,r2,Option.map_some,Option.bind_some,hys2 _ _ _ hW,lU,hn,if_true,DB,AX.ren];rw[if_pos ⟨by rw[FJ];exact hce,by rw[dM,List.length_map];exact hc⟩,List.map_append]
     |none=>
      rw[hn]at hx
      replace hx:lT P d e ys st xv=some (st',l,q):=hx
      unfold lT at hx
      split at hx
      ·rename_i l0 q0 γ0 n';split at hx
       ·rename_i γ' W es hg;obtain⟨hc,he⟩:=JM hx;simp only[Prod.mk.injEq]at he;obtain⟨rfl,rfl,rfl⟩:=he;simp only[Bool.and_eq_true]at hc;obtain⟨⟨⟨⟨c1,c2⟩,c3⟩,c6⟩,c7⟩:=hc;have c1:=Nat.eq_of_beq_eq_true c1;have c2:=Nat.eq_of_beq_eq_true c2;have c3:=Nat.eq_of_beq_eq_true c3;subst c1;subst c2;subst c3;have heb:∀σ σ' δ,AU st.c σ σ'→es.map (List.map (V.ren σ δ))=es.map (List.map (V.ren σ' δ)):=fun σ σ' δ ha=>by
         obtain⟨es0,hg0,e0⟩:=PM hg;have:=MV h hg0 σ σ' δ ha;have e1:es0.map (List.map (V.ren σ δ))=es0.map (List.map (V.ren σ' δ)):=by simpa [AX.ren]using this
         rcases UQ es.length ys es0 with e2|⟨e2,_⟩
         ·rw[e0,e2,e1]
         ·rw[e0,e2,List.map_take,List.map_take,e1]
        refine⟨d,.vec W (es++ys),hd,rfl,rfl,fun σ σ' δ hag=>by simp only[AX.ren,List.map_append,hyb σ σ' δ hag,heb σ σ' δ hag],fun σ pre k hk=>?_,fun W σ pre hW=>?_⟩
        ·simp only[B4,Bool.and_eq_true,Nat.blt_eq,Nat.ble_eq]at c7;obtain⟨⟨⟨⟨d1,d2⟩,d3⟩,d4⟩,d5⟩:=c7;have hnn:H4 (V.vec (l0+pre.length) q0 (σ γ') es.length) (ys.map (List.map (V.ren σ pre.length)))=none:=rfl;unfold EG;simp only[ho,ha,hT,hd,hel,DM,r1,r2,Option.map_some,Option.bind_some,GL hys,HB,B9,lV hg,true_and,hnn];refine⟨by simp,d1,d2,by rw[FJ];exact c6,by rw[FJ];exact d3,by simpa using d4,by simpa using d5,fun γ=>?_⟩;have:=hk γ;simp only[G5,AX.ren,List.map_append,List.length_append,List.length_map]at this⊢;exact this
        ·have hnn:H4 (V.vec (l0+pre.length) q0 (σ γ') es.length) (ys.map (List.map (V.ren σ pre.length)))=none:=rfl;unfold WM;simp only[ho,ha,hT,hd,hel,DM,r1,r2,Option.map_some,Option.bind_some,hys2 _ _ _ hW,HB,B9,lV hg,hnn,if_true];rw[if_pos ⟨trivial,trivial,by simp,by rw[FJ];exact c6,by rw[dM,List.length_map];exact c7⟩];simp only[AX.ren,List.map_append]
       ·cases hx
      ·cases hx
    ·cases hx
   ·cases hx
  ·cases hx
 ·cases hx
theorem ZX{st:XS}(h:Bd st){d l q:Nat}{r:AX}(hp:dI r=true)(hr:∀σ σ' δ,AU st.c σ σ'→r.ren σ δ=r.ren σ' δ):KG st ⟨st.c+1,(d,true,G5 r l q st.c)::st.fr,st.s.put l q st.c r⟩:=by
 have hb:∀σ σ',AU (st.c+1) σ σ'→AU st.c σ σ':=fun σ σ' ha=>ha.mono (Nat.le_succ _);refine⟨Nat.le_succ _,⟨fun σ σ' δ ha=>?_,fun σ σ' pre ha=>?_,h.lp.put (U6 hp)⟩,St.put_len _ _ _ _ _⟩
 ·show((st.fr.put d true (G5 r l q st.c)).ren σ δ)=((st.fr.put d true (G5 r l q st.c)).ren σ' δ);have e:∀σ:Nat→Nat,(G5 r l q st.c).ren σ δ=G5 (r.ren σ δ) (l+δ) q (σ st.c):=fun σ=>by cases r<;>simp[G5,AX.ren]
  simp only[HC,e];rw[h.f σ σ' δ (hb _ _ ha),ha st.c (Nat.lt_succ_self _),hr σ σ' δ (hb _ _ ha)]
 ·simp only[CR];rw[h.s σ σ' pre (hb _ _ ha),hr σ σ' _ (hb _ _ ha),ha st.c (Nat.lt_succ_self _)]
theorem lW(r:AX)(l q γ:Nat):(G5 r l q γ).ren σ δ=G5 (r.ren σ δ) (l+δ) q (σ γ):=by cases r<;>simp[G5,AX.ren]
theorem pR{st:XS}(h:Bd st){d l q:Nat}{r:AX}(hr:∀σ σ' δ,AU st.c σ σ'→r.ren σ δ=r.ren σ' δ){σ:Nat→Nat}{pre:List AA}{k:Fr→St→Prop}
  (hk:∀σ',AU st.c σ σ'→k (Fr.ren σ' pre.length ((d,true,G5 r l q st.c)::st.fr)) ((st.s.put l q st.c r).emb σ' pre)) (γ:Nat):k ((st.fr.ren σ pre.length).put d true (G5 (r.ren σ pre.length) (l+pre.length) q γ)) ((st.s.emb σ pre).put (l+pre.length) q γ (r.ren σ pre.length)):=by
 have:=hk (fun i=>if i=st.c then γ else σ i) (AU.upd _ _ _)
 have hag:=AU.upd st.c γ σ
 change k ((st.fr.put d true _).ren _ _) _ at this
 simp only[HC,lW,if_true,CR]at this
 rw[←h.f _ _ _ hag,←h.s _ _ _ hag,←hr _ _ _ hag]at this
 exact this
theorem tS(r:Mk)(l k γ:Nat):(r.val l k γ).ren σ δ=Mk.val ⟨r.res.ren σ δ,r.t⟩ (l+δ) k (σ γ):=by
 obtain⟨r,t⟩:=r;cases t with
 |none=>exact lW _ _ _ _
 |some t=>exact MR t
theorem xP{st:XS}(h:Bd st){d l q:Nat}{r:Mk}(hp:dI r.res=true)(hr:∀σ σ' δ,AU st.c σ σ'→r.res.ren σ δ=r.res.ren σ' δ):KG st ⟨st.c+1,(d,true,r.val l q st.c)::st.fr,st.s.put l q st.c r.res⟩:=by
 have hb:∀σ σ',AU (st.c+1) σ σ'→AU st.c σ σ':=fun σ σ' ha=>ha.mono (Nat.le_succ _);refine⟨Nat.le_succ _,⟨fun σ σ' δ ha=>?_,fun σ σ' pre ha=>?_,h.lp.put (U6 hp)⟩,St.put_len _ _ _ _ _⟩
 ·show((st.fr.put d true (r.val l q st.c)).ren σ δ)=((st.fr.put d true (r.val l q st.c)).ren σ' δ);simp only[HC,tS];rw[h.f σ σ' δ (hb _ _ ha),ha st.c (Nat.lt_succ_self _),hr σ σ' δ (hb _ _ ha)]
 ·simp only[CR];rw[h.s σ σ' pre (hb _ _ ha),hr σ σ' _ (hb _ _ ha),ha st.c (Nat.lt_succ_self _)]
theorem AI6{st:XS}(h:Bd st){d l q:Nat}{r:Mk}(hr:∀σ δ,r.res.ren σ δ=r.res){σ:Nat→Nat}{pre:List AA}{k:Fr→St→Prop}
  (hk:∀σ',AU st.c σ σ'→k (Fr.ren σ' pre.length ((d,true,r.val l q st.c)::st.fr)) ((st.s.put l q st.c r.res).emb σ' pre)) (γ:Nat):k ((st.fr.ren σ pre.length).put d true (r.val (l+pre.length) q γ)) ((st.s.emb σ pre).put (l+pre.length) q γ r.res):=by
 have:=hk (fun i=>if i=st.c then γ else σ i) (AU.upd _ _ _)
 have hag:=AU.upd st.c γ σ
 change k ((st.fr.put d true _).ren _ _) _ at this
 simp only[HC,tS,if_true,CR,hr]at this
 rw[←h.f _ _ _ hag,←h.s _ _ _ hag]at this
 exact this
noncomputable def xAppend(P:Program)(d:Option Tmp)(args:List Operand)(Ts:List TypeId)(st:XS):Option XS:=match xAppG elemsOf P d args Ts st with
 |some (st',_,_)=>some st'
 |none=>none
theorem pS{o:Oper}{args:Array Operand}{Ts:Array TypeId}{st st':XS}(h:Bd st)(ho:o.op=.call { callee:=.builtin .append,args:=args,argTypes:=Ts })(hx:xAppend P o.dst args.toList Ts.toList st=some st'):StepX P o st st':=by
 unfold xAppend at hx;split at hx
 ·rename_i st1 l q e1;cases hx;obtain⟨d,r,hd,hp,rfl,hr,hs,_⟩:=ZW (fun _ _ _ h=>h) h ho e1;exact⟨ZX h hp hr,fun σ pre k hk=>hs σ pre k fun γ=>pR h hr hk γ⟩
 ·cases hx
noncomputable def tT(P:Program)(d:Option Tmp)(args:List Operand)(Ts:List TypeId)(st:XS):Option XS:=match args,Ts with
 |[x,y],[T,_]=>match BM P T,CO st.fr x,CO st.fr y with
  |some (none,e),some (.vtl l q γ i n),some yv=>match st.s.get l q,elemsOf st.s yv with
   |some (γ',.box cs),some ys=>Bool.rec none (some { st with fr:=putD st.fr d true (.int .i64 ((min ys.length n:Nat):Int)),s:=st.s.put l q γ (.box (A3 cs i (ys.take n).flatten)) }) (Nat.beq γ' γ&&Nat.beq (P.cellsOf e) 1&&ys.all (fun y=>y.length==1)&&Nat.ble (i+n) cs.length&&Nat.blt γ st.c)
   |_,_=>none
  |_,_,_=>none
 |_,_=>none
theorem AC2{o:Oper}{args:Array Operand}{Ts:Array TypeId}{st st':XS}(h:Bd st)(ho:o.op=.call { callee:=.builtin .copy,args:=args,argTypes:=Ts })(hx:tT P o.dst args.toList Ts.toList st=some st'):StepX P o st st':=by
 unfold tT at hx;split at hx
 ·rename_i x y T U ha hT;split at hx
  ·rename_i e l q γ i n yv hel h1 h2;split at hx
   ·rename_i γ' cs ys hg hys;cases hb:(Nat.beq γ' γ&&Nat.beq (P.cellsOf e) 1&&ys.all (fun y=>y.length==1)&&Nat.ble (i+n) cs.length&&Nat.blt γ st.c)with
    |false=>rw[hb]at hx;cases hx
    |true=>
     rw[hb]at hx
     cases hx
     simp only[Bool.and_eq_true,Nat.blt_eq,Nat.ble_eq]at hb
     obtain⟨⟨⟨⟨c1,c2⟩,c3⟩,c4⟩,c5⟩:=hb
     have c1:=Nat.eq_of_beq_eq_true c1
     have c2:=Nat.eq_of_beq_eq_true c2
     subst c1
     have hB:Bd { st with s:=st.s.put l q γ' (.box (A3 cs i (ys.take n).flatten)) }:=h.putS c5 fun σ σ' δ ha=>by have hr:=MV h hg σ σ' δ ha;have he:=TU h (h.rd h2) hys σ σ' δ ha;simp only[AX.ren,AX.box.injEq]at hr⊢;rw[←C7,←C7,hr,List.map_flatten,List.map_flatten,List.map_take,List.map_take,he]
     refine⟨⟨Nat.le_refl _,hB.putF (fun _ _ _ _=>rfl),St.put_len _ _ _ _ _⟩,fun σ pre k hk=>?_⟩
     have:=hk σ (AU.refl _ _)
     rw[DZ]at h1 h2
     unfold EG
     simp only[ho,ha,hT,hel,DM,h1,h2,Option.map_some,W1,Option.bind_some,GL hys,B9,hg,AX.ren]
     refine⟨trivial,trivial,c2,?_,by simpa using c4,?_⟩
     ·rw[List.all_map];exact c3▸(by congr 1;funext x;simp)
     ·simp only[FI,EH,CR,AX.ren,←C7,List.map_flatten,List.map_take]at this;simpa only[List.length_map]using this
   ·cases hx
  ·cases hx
 ·cases hx
end Go.Pg
namespace Go.Pg
variable {P:Program}{Ω:G6 P}{σ σ':Nat→Nat}{δ:Nat}{pre:List AA}{s:St}{fr:Fr}{g:Bool}
def FK{α β:Type}(f:α→Option β):List α→Option (List β)
 |[]=>some []
 |x::l=>match f x with
  |some y=>match FK f l with
   |some r=>some (y::r)
   |none=>none
  |none=>none
theorem KZ{α β:Type}(f:α→Option β):∀(l:List α),FK f l=l.mapM f
 |[]=>rfl
 |x::l=>by
  simp only[FK,List.mapM_cons,←KZ f l];cases f x with
  |none=>rfl
  |some y=>cases FK f l<;>rfl
abbrev CF:=FuncId→List V→XS→Option (V×XS)
abbrev CY:=Nat→Nat→Nat→List V→XS→Option (V×XS)
abbrev CF0:=FuncId→List V→Option V
abbrev CFO:=FuncId→List V→Tmp→Option Mk
structure XE where
 cf:CF
 cy:CY
 c0:CF0
 co:CFO
 lit:Tmp→Bool
def dN(P:Program)(cf:CF):Prop:=∀f args st r st',cf f args st=some (r,st')→Bd st→(∀v∈args,UG st.c v)→KG st st'∧UG st'.c r∧st'.fr=st.fr ∧
 ∀(σ:Nat→Nat) (pre:List AA) (K:V→St→Prop),(∀σ',AU st.c σ σ'→K (r.ren σ' pre.length) (st'.s.emb σ' pre))→FE P f (args.map (V.ren σ pre.length)) (st.s.emb σ pre) K
def AQ4(P:Program)(cy:CY):Prop:=∀l q γ vs st r st',cy l q γ vs st=some (r,st')→Bd st→(∀v∈vs,UG st.c v)→KG st st'∧UG st'.c r∧st'.fr=st.fr ∧
 ∃fr0 ps asg body N,st.s.get l q=some (γ,.loop fr0 ps asg body N .ready)∧∀(σ:Nat→Nat) (pre:List AA) (k:V→St→Prop),(∀σ',AU st.c σ σ'→k (r.ren σ' pre.length) (st'.s.emb σ' pre)) →
  YW P (l+pre.length) q (σ γ) (Fr.ren σ pre.length fr0) ps asg body N (vs.map (V.ren σ pre.length)) (st.s.emb σ pre) k
def HD(P:Program)(cf:CF0):Prop:=∀f args r,cf f args=some r→(∀s,FE P f args s fun r' s'=>r'=r∧s'=s)∧(∀v∈args,∀σ δ,v.ren σ δ=v)∧(∀σ δ,r.ren σ δ=r)
def gD(P:Program)(co:CFO):Prop:=∀f args d r,co f args d=some r→(∀(s:St),FE P f args s fun v s'=>∃γ,v=r.val s.up.length d γ∧s'=s.put s.up.length d γ r.res) ∧
 (∀v∈args,∀σ δ,v.ren σ δ=v)∧(∀σ δ,r.res.ren σ δ=r.res)∧dI r.res=true
structure J4(P:Program)(E:XE):Prop where
 cf:dN P E.cf
 cy:AQ4 P E.cy
 c0:HD P E.c0
 co:gD P E.co
def J4.tab{E:XE}(h:J4 P E)(own:Oper→Bool):G6 P:=⟨own,E.co,fun f args d r hc=>(h.co f args d r hc).1⟩
noncomputable def pT(cy:CY)(d:Option Tmp)(l q γ:Nat)(args:List Operand)(st:XS):Option XS:=match FK (CO st.fr) args with
 |some vs=>match cy l q γ vs st with
  |some (r,st')=>some { st' with fr:=putD st'.fr d true r }
  |none=>none
 |none=>none
noncomputable def TV(cf:CF)(cy:CY)(d:Option Tmp)(f:Operand)(args:List Operand)(st:XS):Option XS:=match CO st.fr f with
 |some (.fn fid first cap)=>match FK (CO st.fr) args with
  |some vs=>match cf fid ((first++vs++cap).map weakV) st with
   |some (r,st')=>some { st' with fr:=putD st'.fr d true r }
   |none=>none
  |none=>none
 |some (.yld l q γ)=>pT cy d l q γ args st
 |_=>none
noncomputable def HE(co:CFO)(d:Option Tmp)(f:Operand)(args:List Operand)(st:XS):Option XS:=match d,CO st.fr f with
 |some d,some (.fn fid first cap)=>match FK (CO st.fr) args with
  |some vs=>match co fid ((first++vs++cap).map weakV) d with
   |some r=>some ⟨st.c+1,(d,true,r.val st.s.up.length d st.c)::st.fr,st.s.put st.s.up.length d st.c r.res⟩
   |none=>none
  |none=>none
 |_,_=>none
noncomputable def cC(P:Program)(o:Oper)(st:XS):Option XS:=match AI5 P o st.fr st.s with
 |some v=>some { st with fr:=putD st.fr o.dst true v }
 |none=>none
noncomputable def ZY(E:XE)(own:Bool)(d:Option Tmp)(f:Operand)(args:List Operand)(st:XS):Option XS:=Bool.rec (TV E.cf E.cy d f args st) (match HE E.co d f args st with
 |some st'=>some st'
 | none=>TV E.cf E.cy d f args st) own
noncomputable def A30(P:Program)(E:XE)(own:Oper→Bool)(o:Oper)(c:Call)(st:XS):Option XS:=match c.callee with
 |.value f=>ZY E (own o) o.dst f c.args.toList st
 |.builtin .append=>xAppend P o.dst c.args.toList c.argTypes.toList st
 |.builtin .clear=>gB P o.dst c.args.toList c.argTypes.toList st
 |.builtin .copy=>tT P o.dst c.args.toList c.argTypes.toList st
 |_=>cC P o st
noncomputable def QJ(P:Program)(E:XE)(own:Oper→Bool)(o:Oper)(st:XS):Option XS:=match o.op with
 |.alloc T=>OR P o.dst T st
 |.box _ x=>lO o.dst x st
 |.makeMap _ r=>xM o.dst r st
 |.makeSlice T x y=>WB P o.dst T x y st
 |.store T x y=>I3 P o.dst T x y st
 |.mapUpdate T x i y=>AI3 P o.dst T x i y st
 |.call c=>A30 P E own o c st
 |_=>cC P o st
theorem tU{o:Oper}{st st':XS}(h:Bd st)(hx:cC P o st=some st'):StepX P o st st':=by
 unfold cC at hx;split at hx
 ·rename_i v hv;cases hx;exact xL h (PU hv)
 ·cases hx
theorem W2{st:XS}(h:Bd st):∀{args:List Operand} {vs:List V},FK (CO st.fr) args=some vs→∀v∈vs,UG st.c v
 |[],vs,e,v,hv=>by cases e;cases hv
 |x::l,vs,e,v,hv=>by
  simp only[FK]at e;split at e
  ·rename_i y hy;split at e
   ·rename_i r hr;cases e;rcases List.mem_cons.1 hv with rfl|hv
    ·exact h.rd hy
    ·exact W2 h hr v hv
   ·cases e
  ·cases e
theorem gE{c:Nat}{v:V}(h:UG c v):UG c (weakV v):=fun σ σ' δ ha=>by rw[←U1,←U1,h σ σ' δ ha]
theorem AC3{c:Nat}{f:FuncId}{xs ys:List V}(h:UG c (.fn f xs ys)):(∀v∈xs,UG c v)∧(∀v∈ys,UG c v):=by
 refine⟨fun v hv σ σ' δ ha=>?_,fun v hv σ σ' δ ha=>?_⟩
 ·have:=h σ σ' δ ha;simp only[OO,V.fn.injEq]at this;exact List.map_inj_left.1 this.2.1 v hv
 ·have:=h σ σ' δ ha;simp only[OO,V.fn.injEq]at this;exact List.map_inj_left.1 this.2.2 v hv
theorem HF(l:List V):(l.map weakV).map (V.ren σ δ)=(l.map (V.ren σ δ)).map weakV:=by simp only[List.map_map];congr 1;funext v;exact(U1 v).symm
theorem dO{E:XE}(hE:J4 P E){own:Oper→Bool}{o:Oper}(hown:own o=true){f:Operand}{args:Array Operand}{Ts:Array TypeId}{st st':XS}(h:Bd st)(ho:o.op=.call { callee:=.value f,args:=args,argTypes:=Ts })(hx:HE E.co o.dst f args.toList st=some st'):gA P (hE.tab own) o st st':=by
 unfold HE at hx;split at hx
 ·rename_i d fid first cap hd hf;split at hx
  ·rename_i vs hvs;split at hx
   ·rename_i r hc;cases hx;obtain⟨_,hcl,hr,hpl⟩:=hE.co _ _ _ _ hc;refine⟨xP h hpl (fun σ σ' δ _=>by rw[hr,hr]),d,hd,fun σ pre k hk=>⟨r,?_,fun γ=>?_⟩⟩
    ·have hcd:IQ true o (st.fr.ren σ pre.length)=some (fid,(first++vs++cap).map weakV):=by
      rw[KZ,FA]at hvs;rw[DZ]at hf;simp only[IQ,ho,JE,hf,Option.map_some,OO,IU hvs,Option.some.injEq,Prod.mk.injEq,true_and];have e:((first++vs++cap).map weakV).map (V.ren σ pre.length)=(first++vs++cap).map weakV:=by
       conv=>rhs;rw[←List.map_id ((first++vs++cap).map weakV)]
       exact List.map_congr_left fun v hv=>hcl v hv σ _
      rw[HF]at e;simpa only[List.map_append]using e
     simp only[QC,ho,J4.tab,hown,if_true,hcd,hd,hc]
    ·have:=AI6 h (d:=d) hr hk γ;rw[←DB]at this;exact this
   ·cases hx
  ·cases hx
 ·cases hx
theorem lX{cf:CF}{cy:CY}(hcf:dN P cf)(hcy:AQ4 P cy){o:Oper}{f:Operand}{args:Array Operand}{Ts:Array TypeId}{st st':XS}(h:Bd st)(ho:o.op=.call { callee:=.value f,args:=args,argTypes:=Ts })(hx:TV cf cy o.dst f args.toList st=some st'):StepX P o st st':=by
 unfold TV at hx;split at hx
 ·rename_i fid first cap hf;split at hx
  ·rename_i vs hvs;split at hx
   ·rename_i r st1 hr;cases hx;have b1:=AC3 (h.rd hf);have b2:=W2 h hvs;obtain⟨hE,hrb,hfr,hA⟩:=hcf _ _ _ _ _ hr h (fun v hv=>by
     obtain⟨u,hu,rfl⟩:=List.mem_map.1 hv;refine gE ?_;rcases List.mem_append.1 hu with hu|hu
     ·rcases List.mem_append.1 hu with hu|hu
      ·exact b1.1 u hu
      ·exact b2 u hu
     ·exact b1.2 u hu)
    refine⟨⟨hE.c,hE.bd.putF hrb,hE.n⟩,fun σ pre k hk=>?_⟩;rw[KZ,FA]at hvs;rw[DZ]at hf;unfold EG;simp only[ho,JE,hf,Option.map_some,OO,IU hvs];refine .inl ⟨rfl,?_⟩;have:=hA σ pre (fun r s'=>k (putD (st.fr.ren σ pre.length) o.dst true r) s') fun σ' ha=>?_
    ·rw[HF]at this;simpa only[List.map_append]using this
    ·have h1:=hk σ' ha;rw[FI,hfr,←h.f σ σ' _ ha]at h1;exact h1
   ·cases hx
  ·cases hx
 ·rename_i l q γ hf;unfold pT at hx;split at hx
  ·rename_i vs hvs;split at hx
   ·rename_i r st1 hr;cases hx;obtain⟨hE,hrb,hfr,fr0,ps,asg,body,N,hget,hA⟩:=hcy _ _ _ _ _ _ _ hr h (W2 h hvs);refine⟨⟨hE.c,hE.bd.putF hrb,hE.n⟩,fun σ pre k hk=>?_⟩;rw[KZ,FA]at hvs;rw[DZ]at hf;unfold EG;simp only[ho,JE,hf,Option.map_some,fX,IU hvs,B9,hget,AX.ren];refine⟨trivial,trivial,?_⟩;refine hA σ pre (fun r s'=>k (putD (st.fr.ren σ pre.length) o.dst true r) s') fun σ' ha=>?_;have h1:=hk σ' ha;rw[FI,hfr,←h.f σ σ' _ ha]at h1;exact h1
   ·cases hx
  ·cases hx
 ·cases hx
theorem lY{E:XE}(hE:J4 P E){own:Oper→Bool}{o:Oper}{st st':XS}(h:Bd st)(hx:QJ P E own o st=some st'):StepX P o st st':=by
 unfold QJ at hx;split at hx
 ·rename_i T ho;exact(dK (Ω:=G6.nothing P) h ho hx).step
 ·rename_i T x ho;exact(tQ (Ω:=G6.nothing P) h ho hx).step
 ·rename_i T r ho;exact(tR (Ω:=G6.nothing P) h ho hx).step
 ·rename_i T x y ho;exact(lP (Ω:=G6.nothing P) h ho hx).step
 ·rename_i T x y ho;exact dL h ho hx
 ·rename_i T x i y ho;exact AI4 h ho hx
 ·rename_i c ho;obtain⟨callee,args,Ts⟩:=c;unfold A30 at hx;split at hx
  ·rename_i f hc;have hc:callee=.value f:=hc;subst hc;unfold ZY at hx;cases hown:own o with
   |false=>rw[hown]at hx;exact lX hE.cf hE.cy h ho hx
   |true=>
    rw[hown]at hx
    have hx:(match HE E.co o.dst f args.toList st with
     |some st'=>some st'
     | none=>TV E.cf E.cy o.dst f args.toList st)=some st':=hx
    split at hx
    ·rename_i st1 h1;cases hx;exact(dO hE hown h ho h1).step
    ·exact lX hE.cf hE.cy h ho hx
  ·rename_i hc;have hc:callee=.builtin .append:=hc;subst hc;exact pS h ho hx
  ·rename_i hc;have hc:callee=.builtin .clear:=hc;subst hc;exact xN h ho hx
  ·rename_i hc;have hc:callee=.builtin .copy:=hc;subst hc;exact AC2 h ho hx
  ·exact tU h hx
 ·exact tU h hx
noncomputable def gdX(fr:Fr)(gd:Option (Tmp×Bool)):Option Bool:=match gd with
 |none=>some true
 |some (d,want)=>match BQ fr d with
  |some (c,.bool b)=>some (c&&(b==want))
  |_=>none
theorem pU(gd:Option (Tmp×Bool)):gdX fr gd=QB fr gd:=by
 cases gd with
 |none=>rfl
 |some p=>simp only[gdX,QB,E9];rfl
theorem MY{gd:Option (Tmp×Bool)}(h:QB fr gd=some g):QB (fr.ren σ δ) gd=some g:=by
 cases gd with
 |none=>exact h
 |some p=>
  simp only[QB]at h⊢
  split at h
  ·rename_i c b e;simp only[Fr.get_ren,e,Option.map_some,LR];exact h
  ·cases h
noncomputable def HR(d:Option Tmp)(st:XS):XS:={ st with fr:=putD st.fr d false (.bool false) }
noncomputable def AC4(P:Program)(lit:Tmp→Bool)(o:Oper)(st:XS):Option XS:=match o.op,o.dst with
 | .buildSlice T _ _,some d=>Bool.rec none (match BM P T,AI5 P o st.fr st.s with
  |some (none,e),some (.list true (x::es))=>Bool.rec none (some ⟨st.c+1,(d,true,G5 (.vec e (x::es)) st.s.up.length d st.c)::st.fr,st.s.put st.s.up.length d st.c (.vec e (x::es))⟩) (Nat.ble (x::es).length maxLen)
  | _,_=>none) (lit d)
 |_,_=>none
theorem AI8{lit:Tmp→Bool}{o:Oper}{st st':XS}(h:Bd st)(hx:AC4 P lit o st=some st'):KG st st' ∧
  ∀(σ:Nat→Nat) (pre:List AA) (k:Fr→St→Prop),(∀σ',AU st.c σ σ'→k (st'.fr.ren σ' pre.length) (st'.s.emb σ' pre))→A3S P true o (st.fr.ren σ pre.length) (st.s.emb σ pre) k:=by
 unfold AC4 at hx
 split at hx
 ·rename_i T len parts d ho hd;obtain⟨_,hx⟩:=EI hx;split at hx
  ·rename_i e x es hel hv;obtain⟨hc,he⟩:=JM hx;cases he;have hv:=PU hv;have hb:=TU h (h.val hv) (ys:=x::es) rfl;refine⟨ZX h rfl fun σ σ' δ ha=>by simp only[AX.ren,hb σ σ' δ ha],fun σ pre k hk=>?_⟩;have hv':=IV (σ:=σ) (pre:=pre) hv;unfold FH at hv';simp only[ho]at hv';obtain⟨ps,h1,h2⟩:=Option.bind_eq_some_iff.1 hv';rw[ET]at h2;refine⟨T,len,parts,d,e,_,ps,ho,rfl,hd,hel,h1,h2,by simp,by simpa [Nat.ble_eq]using hc,fun γ=>?_⟩;have:=pR h (d:=d) (r:=.vec e (x::es)) (fun σ σ' δ ha=>by simp only[AX.ren,hb σ σ' δ ha]) hk γ;rw[DB];simpa only[G5,AX.ren]using this
  ·cases hx
 ·cases hx
def AI9(all:List Oper)(t:Tmp):Bool:=all.any fun p=>match p.op,p.dst with
 |.call { callee:=.builtin .append,.. },some d=>Nat.beq d t
 |_,_=>false
noncomputable def MZ(all:List Oper)(st:XS):List Operand→Option XS
 |[]=>none
 |x::r=>match x with
  | .tmp t=>Bool.rec (MZ all st r) (match BQ st.fr t with
   |some (true,.vec l q γ n)=>match st.s.get l q with
    |some (γ',.vec _ es)=>Bool.rec none (some ⟨st.c,(t,true,.list false (es.take n))::st.fr,st.s.put l q γ .dead⟩) (Nat.beq γ' γ&&Nat.ble n es.length&&Nat.blt γ st.c)
    |_=>none
   | _=>none) (AI9 all t)
  |_=>MZ all st r
noncomputable def AC5(all:List Oper)(o:Oper)(st:XS):Option XS:=match o.op with
 |.call c=>match c.callee with
  |.value _=>MZ all st c.args.toList
  |_=>none
 |_=>none
theorem U7{all:List Oper}{st st1:XS}(h:Bd st):∀{xs:List Operand},MZ all st xs=some st1→KG st st1 ∧
  ∀(o:Oper) (σ:Nat→Nat) (pre:List AA) (k:Fr→St→Prop),EG P true o (st1.fr.ren σ pre.length) (st1.s.emb σ pre) k→AMQ P true o (st.fr.ren σ pre.length) (st.s.emb σ pre) k
 |[],hx=>by cases hx
 |x::r,hx=>by
  unfold MZ at hx;split at hx
  ·rename_i t;cases hA:AI9 all t with
   |false=>rw[hA]at hx;exact U7 h hx
   |true=>
    rw[hA]at hx
    have hx:(match BQ st.fr t with
     |some (true,.vec l q γ n)=>match st.s.get l q with
      |some (γ',.vec _ es)=>Bool.rec none (some ⟨st.c,(t,true,.list false (es.take n))::st.fr,st.s.put l q γ .dead⟩) (Nat.beq γ' γ&&Nat.ble n es.length&&Nat.blt γ st.c)
      |_=>none
     | _=>none)=some st1:=hx
    split at hx
    ·rename_i l q γ n hg;split at hx
     ·rename_i γ' T es hs;obtain⟨hc,he⟩:=JM hx;simp only[Bool.and_eq_true]at hc;obtain⟨⟨h1,h2⟩,h3⟩:=hc;have h1:=Nat.eq_of_beq_eq_true h1;have h2:n≤es.length:=by simpa [Nat.ble_eq]using h2
      have h3:γ<st.c:=by simpa [Nat.blt_eq]using h3
      subst h1;cases he;rw[E9]at hg;have hb:∀σ σ' δ,AU st.c σ σ'→es.map (List.map (V.ren σ δ))=es.map (List.map (V.ren σ' δ)):=fun σ σ' δ ha=>by have:=MV h hs σ σ' δ ha;simpa [AX.ren]using this
      have hv:UG st.c (.list false (es.take n)):=fun σ σ' δ ha=>by simp only[ET,List.map_take,hb σ σ' δ ha]
      have hbd:Bd ⟨st.c,(t,true,.list false (es.take n))::st.fr,st.s.put l q γ' .dead⟩:=(h.putS (l:=l) (k:=q) (r:=.dead) h3 (fun _ _ _ _=>rfl)).putF (d:=some t) (c:=true) hv;refine⟨⟨Nat.le_refl _,hbd,St.put_len _ _ _ _ _⟩,fun o σ pre k hk=>⟨t,l+pre.length,q,σ γ',n,T,es.map (List.map (V.ren σ pre.length)),rfl,?_,?_,by simpa using h2,?_⟩⟩
      ·rw[Fr.get_ren,hg];simp
      ·rw[B9,hs];simp[AX.ren]
      ·change EG P true o ((st.fr.put t true _).ren _ _) _ k at hk;simp only[HC,ET,CR,AX.ren,List.map_take]at hk;exact hk
     ·cases hx
    ·cases hx
  ·exact U7 h hx
noncomputable def opX(P:Program)(E:XE)(all:List Oper)(o:Oper)(st:XS):Option XS:=match gdX st.fr (KX all o)with
 |some true=>match AC4 P E.lit o st with
  |some st'=>some st'
  |none=>match AC5 all o st with
   |some st1=>QJ P E (DQ all) o st1
   |none=>QJ P E (DQ all) o st
 |some false=>some (HR o.dst st)
 |none=>none
theorem dP{d:Option Tmp}{st:XS}(h:Bd st):KG st (HR d st):=⟨Nat.le_refl _,h.putF (fun σ σ' δ _=>by simp),rfl⟩
theorem AC6{E:XE}(hE:J4 P E){all:List Oper}{o:Oper}{st st':XS}(h:Bd st)(hx:opX P E all o st=some st'):KG st st'∧∃g,(∀σ δ,QB (st.fr.ren σ δ) (KX all o)=some g) ∧
  ∀(σ:Nat→Nat) (pre:List AA) (k:Fr→St→Prop),(∀σ',AU st.c σ σ'→k (st'.fr.ren σ' pre.length) (st'.s.emb σ' pre))→TD P g o (st.fr.ren σ pre.length) (st.s.emb σ pre) k:=by
 unfold opX at hx
 rw[pU]at hx
 split at hx
 ·rename_i hg;split at hx
  ·rename_i st1 hl;cases hx;obtain⟨h1,h2⟩:=AI8 h hl;exact⟨h1,true,fun σ δ=>MY hg,fun σ pre k hk=>.inr (.inr (.inl (h2 σ pre k hk)))⟩
  ·split at hx
   ·rename_i st1 ht;have ht':∃xs,MZ all st xs=some st1:=by
     unfold AC5 at ht;split at ht
     ·split at ht
      ·exact⟨_,ht⟩
      ·cases ht
     ·cases ht
    obtain⟨xs,ht'⟩:=ht';obtain⟨hE1,hs1⟩:=U7 (P:=P) h ht';obtain⟨h1,h2⟩:=lY hE hE1.bd hx;exact⟨⟨Nat.le_trans hE1.c h1.c,h1.bd,h1.n.trans hE1.n⟩,true,fun σ δ=>MY hg,fun σ pre k hk=>.inr (.inr (.inr (hs1 o σ pre k (h2 σ pre k fun σ' ha=>hk σ' (ha.mono hE1.c)))))⟩
   ·obtain⟨h1,h2⟩:=lY hE h hx;exact⟨h1,true,fun σ δ=>MY hg,fun σ pre k hk=>.inl (h2 σ pre k hk)⟩
 ·rename_i hg;cases hx;refine⟨dP h,false,fun σ δ=>MY hg,fun σ pre k hk=>.inr (.inl ⟨rfl,.bool false,?_⟩)⟩;have:=hk σ (AU.refl _ _);simpa only[HR,FI,LR]using this
 ·cases hx
noncomputable def gF(P:Program)(E:XE)(all:List Oper):List Oper→XS→Option XS
 |[],st=>some st
 |o::r,st=>match opX P E all o st with
  |some st'=>gF P E all r st'
  |none=>none
theorem gG{E:XE}(hEE:J4 P E){all:List Oper}:∀{l:List Oper} {st st':XS},Bd st→gF P E all l st=some st'→KG st st' ∧
  ∀(σ:Nat→Nat) (pre:List AA) (K:Fr→St→Prop),(∀σ',AU st.c σ σ'→K (st'.fr.ren σ' pre.length) (st'.s.emb σ' pre))→V1 P (l.map (KX all)) l (st.fr.ren σ pre.length) (st.s.emb σ pre) K
 |[],st,st',h,hx=>by cases hx;exact⟨⟨Nat.le_refl _,h,rfl⟩,fun σ pre K hk=>hk σ (AU.refl _ _)⟩
 |o::l,st,st',h,hx=>by
  simp only[gF]at hx;split at hx
  ·rename_i st1 h1;obtain⟨hE,g,hg,hs⟩:=AC6 hEE h h1;obtain⟨hE',hs'⟩:=gG hEE hE.bd hx;refine⟨⟨Nat.le_trans hE.c hE'.c,hE'.bd,hE'.n.trans hE.n⟩,fun σ pre K hk=>?_⟩;simp only[List.map_cons,V1,hg];exact hs σ pre _ fun σ' ha=>hs' σ' pre K fun σ'' ha'=>hk σ'' (ha.trans ha' hE.c)
  ·cases hx
noncomputable def ZZ(cf:CF0)(d:Option Tmp)(f:Operand)(args:List Operand)(st:XS):Option XS:=match CO st.fr f with
 |some (.fn fid first cap)=>match FK (CO st.fr) args with
  |some vs=>match cf fid ((first++vs++cap).map weakV)with
   |some r=>some { st with fr:=putD st.fr d true r }
   |none=>none
  |none=>none
 |_=>none
noncomputable def TW(r:Option XS):Option (XS×AM):=match r with
 |some st=>some (st,[])
 |none=>none
noncomputable def xAppD(P:Program)(d:Option Tmp)(args:List Operand)(Ts:List TypeId)(st:XS):Option (XS×AM):=match xAppG elemsOf P d args Ts st with
 |some (st',l,q)=>some (st',[(l,q),(l,q+F9)])
 |none=>none
noncomputable def AMZ(P:Program)(E:XE)(own:Oper→Bool)(o:Oper)(c:Call)(st:XS):Option (XS×AM):=match c.callee with
 |.value f=>Bool.rec (TW (ZZ E.c0 o.dst f c.args.toList st)) (TW (HE E.co o.dst f c.args.toList st)) (own o)
 |.builtin .append=>xAppD P o.dst c.args.toList c.argTypes.toList st
 |_=>TW (cC P o st)
noncomputable def AC7(P:Program)(d:Option Tmp)(T:TypeId)(x y:Operand)(st:XS):Option (XS×AM):=match I3 P d T x y st with
 |some st'=>some (st',BW (Nat.beq (P.cellsOf T) 1) (CO st.fr x))
 |none=>none
noncomputable def gH(P:Program)(E:XE)(own:Oper→Bool)(o:Oper)(st:XS):Option (XS×AM):=match o.op with
 |.alloc T=>TW (OR P o.dst T st)
 |.box _ x=>TW (lO o.dst x st)
 |.makeMap _ r=>TW (xM o.dst r st)
 |.makeSlice T x y=>TW (WB P o.dst T x y st)
 |.store T x y=>AC7 P o.dst T x y st
 |.call c=>AMZ P E own o c st
 |_=>TW (cC P o st)
noncomputable def pV(P:Program)(E:XE)(all:List Oper)(o:Oper)(st:XS):Option (XS×AM):=match gdX st.fr (KX all o)with
 |some true=>gH P E (DQ all) o st
 |some false=>Bool.rec (some (HR o.dst st,[])) none (kA (DQ all) o||kW o||kP o)
 |none=>none
theorem HG{r:Option XS}{st':XS}{wr:AM}(h:TW r=some (st',wr)):r=some st'∧wr=[]:=by
 unfold TW at h;split at h
 ·cases h;exact⟨rfl,rfl⟩
 ·cases h
def AQ5(P:Program)(Ω:G6 P)(all:List Oper)(o:Oper)(st st':XS)(wr:AM):Prop:=KG st st' ∧
  ∀(W:AM) (σ:Nat→Nat) (pre:List AA) (k:Fr→St→Prop),(∀p∈EA P o (CO st.fr),p∉W)→(∀p∈wr,p∈W)→(∀σ',AU st.c σ σ'→k (st'.fr.ren σ' pre.length) (st'.s.emb σ' pre))→I8 P Ω (bI pre.length W) o (KX all o) (st.fr.ren σ pre.length) (st.s.emb σ pre) k
theorem AJA{E:XE}(hE:J4 P E){all:List Oper}{o:Oper}{st st':XS}{wr:AM}(h:Bd st)(hx:pV P E all o st=some (st',wr)):AQ5 P (hE.tab (DQ all)) all o st st' wr:=by
 have val:∀{st'},(∀σ δ,QB (st.fr.ren σ δ) (KX all o)=some true)→cC P o st=some st'→AQ5 P (hE.tab (DQ all)) all o st st' wr:=by
  intro st' hg hx;unfold cC at hx;split at hx
  ·rename_i v hv;cases hx;have hv:=PU hv;refine⟨⟨Nat.le_refl _,h.putF (h.val hv),rfl⟩,fun W σ pre k hr _ hk=>.inl ⟨true,v.ren σ pre.length,⟨hg _ _,?_⟩,?_⟩⟩
   ·have hrd:∀p∈EA P o (DV true (st.fr.ren σ pre.length)),p∉bI pre.length W:=by rw[JE,pO,←FA];exact lR hr
    cases hi:lQ P o (DV true (st.fr.ren σ pre.length))with
    |true=>exact .inr (.inr (.inl (AQ1 (IV hv) hi hrd)))
    |false=>exact .inl ⟨_,ZV _,xO (IV hv) hi hrd⟩
   ·have:=hk σ (AU.refl _ _);rwa [FI]at this
  ·cases hx
 have new:∀{st'},(∀σ δ,QB (st.fr.ren σ δ) (KX all o)=some true)→gA P (hE.tab (DQ all)) o st st'→AQ5 P (hE.tab (DQ all)) all o st st' wr:=by intro st' hg hn;obtain⟨h1,d,hd,h2⟩:=hn;refine⟨h1,fun W σ pre k _ _ hk=>?_⟩;obtain⟨r,hr,h3⟩:=h2 σ pre k hk;exact .inr (.inl ⟨r,d,⟨hg _ _,hd,hr⟩,h3⟩)
 unfold pV at hx;rw[pU]at hx;split at hx
 ·rename_i hg;have hg':∀σ δ,QB (st.fr.ren σ δ) (KX all o)=some true:=fun σ δ=>MY hg;unfold gH at hx;split at hx
  ·rename_i T ho;exact new hg' (dK h ho (HG hx).1)
  ·rename_i T x ho;exact new hg' (tQ h ho (HG hx).1)
  ·rename_i T r ho;exact new hg' (tR h ho (HG hx).1)
  ·rename_i T x y ho;exact new hg' (lP h ho (HG hx).1)
  ·rename_i T x y ho;unfold AC7 at hx;split at hx
   ·rename_i st1 hx1;cases hx;obtain⟨hE1,_⟩:=dL h ho hx1;obtain⟨l,q,γ,r,hD,rfl⟩:=ACX ho hx1;refine⟨hE1,fun W σ pre k _ hw hk=>.inr (.inr (.inl ⟨_,_,_,_,⟨hg' _ _,?_,pK hD⟩,?_⟩))⟩
    ·have hp:=ZB hD;unfold pA at hp;simp only[ho]at hp;have main:∀off,(DV true st.fr x=some (.ptr l q γ off)∨∃i,DV true st.fr x=some (.eptr l q γ i off))→WOK P (bI pre.length W) o (st.fr.ren σ pre.length) (l+pre.length) q:=by
      intro off hx;have hC:I2 P o (st.fr.ren σ pre.length)=some (off,P.cellsOf T):=by unfold I2;rcases hx with hx|⟨i,hx⟩<;>simp only[ho,DM,hx,Option.map_some,HA,ON]
      cases hb:Nat.beq (P.cellsOf T) 1 with
      |true=>
       have h1:=Nat.eq_of_beq_eq_true hb
       have hpl:BW (Nat.beq (P.cellsOf T) 1) (CO st.fr x)=[(l,q),(l,DY q off)]:=by rw[DZ,hb];rcases hx with hx|⟨i,hx⟩<;>rw[hx]<;>rfl
       rw[hpl]at hw
       refine⟨MW.2 (hw _ (by simp)),.inr fun off' n' e c h2 h3=>?_⟩
       rw[hC]at e
       cases e
       obtain rfl:c=off:=by omega
       exact MW.2 (hw _ (by simp))
      |false=>
       have hpl:BW (Nat.beq (P.cellsOf T) 1) (CO st.fr x)=[(l,q),(l,q+D9)]:=by rw[DZ,hb];rcases hx with hx|⟨i,hx⟩<;>rw[hx]<;>rfl
       rw[hpl]at hw
       exact⟨MW.2 (hw _ (by simp)),.inl (MW.2 (hw _ (by simp)))⟩
     split at hp
     ·rename_i l1 q1 γ1 off e;cases hp;exact main off (.inl e)
     ·rename_i l1 q1 γ1 i off e;cases hp;exact main off (.inr ⟨i,e⟩)
     ·cases hp
    ·have:=hk σ (AU.refl _ _);simp only[CR]at this;exact this
   ·cases hx
  ·rename_i c ho;obtain⟨callee,args,Ts⟩:=c;unfold AMZ at hx;split at hx
   ·rename_i f hc;have hc:callee=.value f:=hc;subst hc;cases hown:DQ all o with
    |true=>
     rw[hown]at hx
     exact new hg' (dO hE hown h ho (HG hx).1)
    |false=>
     rw[hown]at hx
     have hx:=(HG hx).1
     unfold ZZ at hx
     split at hx
     ·rename_i fid first cap hf;split at hx
      ·rename_i vs hvs;split at hx
       ·rename_i r hr;cases hx;obtain⟨hA,hcl,hrc⟩:=hE.c0 _ _ _ hr;refine⟨⟨Nat.le_refl _,h.putF (fun σ σ' δ _=>by rw[hrc,hrc]),rfl⟩,fun W σ pre k _ _ hk=>.inl ⟨true,r,⟨hg' _ _,.inr (.inl ⟨fid,(first++vs++cap).map weakV,?_,hown,fun _ s=>hA s⟩)⟩,?_⟩⟩
        ·rw[KZ,FA]at hvs;rw[DZ]at hf;simp only[IQ,ho,JE,hf,Option.map_some,OO,IU hvs,Option.some.injEq,Prod.mk.injEq,true_and];have e:((first++vs++cap).map weakV).map (V.ren σ pre.length)=(first++vs++cap).map weakV:=by
          conv=>rhs;rw[←List.map_id ((first++vs++cap).map weakV)]
          exact List.map_congr_left fun v hv=>hcl v hv σ _
         rw[HF]at e;simpa only[List.map_append]using e
        ·have:=hk σ (AU.refl _ _);rwa [FI,hrc]at this
       ·cases hx
      ·cases hx
     ·cases hx
   ·rename_i hc;have hc:callee=.builtin .append:=hc;subst hc;unfold xAppD at hx;split at hx
    ·rename_i st1 l q e1;cases hx;obtain⟨d,r,hd,hp,rfl,hr,_,hs⟩:=ZW (fun _ _ _ h=>h) h ho e1;have hra:EA P o (CO st.fr)=J3 (CO st.fr) args.toList:=by simp only[EA,ho]
     refine⟨ZX h hp hr,fun W σ pre k hrd hw hk=>.inr (.inr (.inr ⟨l+pre.length,q,r.ren σ pre.length,d,⟨hg' _ _,⟨MW.2 (hw _ (by simp)),MW.2 (hw _ (by simp))⟩,hd,_,ZV _,hs W σ pre (by rw[←hra];exact hrd)⟩,fun γ=>pR h hr hk γ⟩))⟩
    ·cases hx
   ·exact val hg' (HG hx).1
  ·exact val hg' (HG hx).1
 ·rename_i hg;cases hk:(kA (DQ all) o||kW o||kP o)with
  |true=>rw[hk]at hx;cases hx
  |false=>
   rw[hk]at hx
   cases hx
   rw[Bool.or_eq_false_iff,Bool.or_eq_false_iff]at hk
   refine⟨dP h,fun W σ pre k _ _ hk'=>.inl ⟨false,.bool false,⟨MY hg,.inr (.inr (.inr ⟨rfl,hk.1.1,hk.1.2,hk.2⟩))⟩,?_⟩⟩
   have:=hk' σ (AU.refl _ _)
   simpa only[HR,FI,LR]using this
 ·cases hx
noncomputable def phX(P:Program)(E:XE)(l:List Oper):List Nat→XS→AM→AM→Option (XS×AM×AM)
 |[],st,rd,wr=>some (st,rd,wr)
 |i::r,st,rd,wr=>match l[i]? with
  |some o=>match pV P E l o st with
   |some (st',w)=>phX P E l r st' (cond (zB l o) [] (EA P o (CO st.fr))++rd) (w++wr)
   |none=>none
  |none=>none
noncomputable def sqX(P:Program)(E:XE)(l:List Oper):List Nat→XS→Option XS
 |[],st=>some st
 |i::r,st=>match l[i]? with
  |some o=>match opX P E l o st with
   |some st'=>sqX P E l r st'
   |none=>none
  |none=>none
noncomputable def xQ(P:Program)(E:XE)(l:List Oper):WN→XS→Option XS
 |[],st=>some st
 | p :: S,st=>Bool.rec none (match phX P E l p.1 st [] []with
  | some (st1,rd,wr)=>Bool.rec none (match sqX P E l p.2 st1 with
   |some GR=>xQ P E l S GR
   | none=>none) (wr.all fun p=>!(rd.contains p))
  | none=>none) (ZO (DQ l) l p.1 st.s.loc)
theorem W3{l:List Oper}{i:Nat}{o:Oper}(h:l[i]? = some o):bH (l.map (KX l)) i=KX l o:=by simp[bH,h]
theorem AJB{E:XE}{all:List Oper}{o:Oper}{st st':XS}{wr:AM}(ho:∃T x,o.op=.load T x)(hx:pV P E all o st=some (st',wr)):wr=[]:=by
 obtain⟨T,x,ho⟩:=ho;unfold pV at hx;split at hx
 ·unfold gH at hx;rw[ho]at hx;exact(HG hx).2
 ·cases hk:(kA (DQ all) o||kW o||kP o)with
  |true=>rw[hk]at hx;cases hx
  |false=>rw[hk]at hx;exact(Prod.mk.inj (Option.some.inj hx)).2.symm
 ·cases hx
theorem AC8{E:XE}(hEE:J4 P E){l:List Oper}:∀{R:List Nat} {st st':XS} {rd wr rd' wr':AM},Bd st→phX P E l R st rd wr=some (st',rd',wr')→KG st st'∧(∀p∈rd,p∈rd')∧(∀p∈wr,p∈wr') ∧
  ∀(W:AM) (σ:Nat→Nat) (pre:List AA) (K:Fr→St→Prop),(∀p∈rd',p∉W)→(∀p∈wr',p∈W)→(∀σ',AU st.c σ σ'→K (st'.fr.ren σ' pre.length) (st'.s.emb σ' pre))→QI P (hEE.tab (DQ l)) (bI pre.length W) l (l.map (KX l)) R (st.fr.ren σ pre.length) (st.s.emb σ pre) K
 |[],st,st',rd,wr,rd',wr',h,hx=>by cases hx;exact⟨⟨Nat.le_refl _,h,rfl⟩,fun _ h=>h,fun _ h=>h,fun W σ pre K _ _ hk=>hk σ (AU.refl _ _)⟩
 |i::r,st,st',rd,wr,rd',wr',h,hx=>by
  simp only[phX]at hx;split at hx
  ·rename_i o ho;split at hx
   ·rename_i st1 w1 h1;obtain⟨hE,hs⟩:=AJA hEE h h1;obtain⟨hE',hr,hw,hs'⟩:=AC8 hEE hE.bd hx;refine⟨⟨Nat.le_trans hE.c hE'.c,hE'.bd,hE'.n.trans hE.n⟩,fun p hp=>hr p (List.mem_append_right _ hp),fun p hp=>hw p (List.mem_append_right _ hp),fun W σ pre K hrd hwr hk=>?_⟩;simp only[QI,M8,ho,W3 ho];cases hz:zB l o with
    |true=>
     have hw0:w1=[]:=AJB (AMT hz) h1
     subst hw0
     unfold wz
     rw[hz]
     exact hs [] σ pre _ (fun p _=>by simp) (fun p hp=>hp) fun σ' ha=>hs' W σ' pre K hrd hwr fun σ'' ha'=>hk σ'' (ha.trans ha' hE.c)
    |false=>
    rw[hz]at hr;unfold wz;rw[hz];exact hs W σ pre _ (fun p hp=>hrd p (hr p (List.mem_append_left _ hp))) (fun p hp=>hwr p (hw p (List.mem_append_left _ hp))) fun σ' ha=>hs' W σ' pre K hrd hwr fun σ'' ha'=>hk σ'' (ha.trans ha' hE.c)
   ·cases hx
  ·cases hx
theorem AC9{E:XE}(hEE:J4 P E){l:List Oper}:∀{R:List Nat} {st st':XS},Bd st→sqX P E l R st=some st'→KG st st' ∧
  ∀(σ:Nat→Nat) (pre:List AA) (K:Fr→St→Prop),(∀σ',AU st.c σ σ'→K (st'.fr.ren σ' pre.length) (st'.s.emb σ' pre))→xC P l (l.map (KX l)) R (st.fr.ren σ pre.length) (st.s.emb σ pre) K
 |[],st,st',h,hx=>by cases hx;exact⟨⟨Nat.le_refl _,h,rfl⟩,fun σ pre K hk=>hk σ (AU.refl _ _)⟩
 |i::r,st,st',h,hx=>by
  simp only[sqX]at hx;split at hx
  ·rename_i o ho;split at hx
   ·rename_i st1 h1;obtain⟨hE,g,hg,hs⟩:=AC6 hEE h h1;obtain⟨hE',hs'⟩:=AC9 hEE hE.bd hx;refine⟨⟨Nat.le_trans hE.c hE'.c,hE'.bd,hE'.n.trans hE.n⟩,fun σ pre K hk=>?_⟩;simp only[xC,ho,W3 ho,hg];exact hs σ pre _ fun σ' ha=>hs' σ' pre K fun σ'' ha'=>hk σ'' (ha.trans ha' hE.c)
   ·cases hx
  ·cases hx
end Go.Pg
namespace Go.Pg
variable {P:Program}{σ σ':Nat→Nat}{δ:Nat}{pre:List AA}{s:St}{fr:Fr}{g:Bool}
def AK:Nat→V→Bool
 |0,_=>false
 |f+1,v=>match v with
  |.int ..|.bool _|.raw _|.nil|.any=>true
  |.agg cs|.tup cs|.ref cs=>cs.all (AK f)
  |.list _ es=>es.all fun e=>e.all (AK f)
  |.fn _ a b=>a.all (AK f)&&b.all (AK f)
  |_=>false
theorem M0{f:Nat}(ih:∀v,AK f v=true→v.ren σ δ=v){cs:List V}(h:cs.all (AK f)=true):cs.map (V.ren σ δ)=cs:=by
 conv=>rhs;rw[←List.map_id cs]
 exact List.map_congr_left fun v hv=>ih v (List.all_eq_true.1 h v hv)
theorem EN:∀(f:Nat) (v:V),AK f v=true→v.ren σ δ=v
 |0,_,h=>by cases h
 |f+1,v,h=>by
  have ih:=fun v=>EN f v;cases v with
  |agg cs=>rw[G9,M0 ih (by simpa [AK]using h)]
  |tup cs=>rw[KU,M0 ih (by simpa [AK]using h)]
  |ref cs=>rw[MQ,M0 ih (by simpa [AK]using h)]
  |list b es=>
   have h':(es.all fun e=>e.all (AK f))=true:=by simpa [AK]using h
   rw[ET]
   congr 1
   conv=>rhs;rw[←List.map_id es]
   exact List.map_congr_left fun e he=>M0 ih (List.all_eq_true.1 h' e he)
  |fn g a b=>
   have h':a.all (AK f)=true∧b.all (AK f)=true:=by simpa [AK]using h
   rw[OO,M0 ih h'.1,M0 ih h'.2]
  |int k n=>simp
  |bool b=>simp
  |raw v=>simp
  |nil=>simp
  |any=>simp
  |_=>simp[AK]at h
noncomputable def QK(ks:List Nat)(fr:Fr):Fr:=List.rec (motive:=fun _=>Fr) [] (fun k _ ih=>match BQ fr k with
 |some (c,v)=>(k,c,v)::ih
 | none=>ih) ks
theorem Z0(fr:Fr):∀(ks:List Nat),QK ks fr=OI ks fr
 |[]=>rfl
 |k::r=>by have:=Z0 fr r;show(match BQ fr k with|some (c,v)=>(k,c,v)::QK r fr|none=>QK r fr)=OI (k::r) fr;rw[this,E9];rfl
theorem U8:∀(ks:List Nat),OI ks (fr.ren σ δ)=(OI ks fr).ren σ δ
 |[]=>rfl
 |k::r=>by
  simp only[OI,Fr.get_ren,U8 r];cases fr.get k with
  |none=>rfl
  |some p=>rfl
theorem U9{L:AA}:∀(ks:List Nat),IP ks (L.ren σ δ)=(IP ks L).ren σ δ
 |[]=>rfl
 |k::r=>by
  simp only[IP,AA.get_ren,U9 r];cases L.get k with
  |none=>rfl
  |some p=>rfl
def TX:List Nat→List Nat→List Nat
 |acc,[]=>acc
 |acc,k::r=>TX (cond (acc.any (Nat.beq k)) acc (k::acc)) r
noncomputable def Q9(ks ls:List Nat)(st:XS):XS:=⟨st.c,QK ks st.fr,⟨st.s.up,IP ls st.s.loc⟩⟩
theorem ADA{ks ls:List Nat}{st:XS}{l k:Nat}{x:Nat×AX}(h:(Q9 ks ls st).s.get l k=some x):st.s.get l k=some x:=by
 unfold St.get Q9 at h;unfold St.get;simp only at h;split at h
 ·rename_i e;rw[if_pos e];exact PO h
 ·rename_i e;rw[if_neg e];exact h
theorem TY{ks ls:List Nat}{st:XS}(h:Bd st):KG st (Q9 ks ls st):=by
 refine⟨Nat.le_refl _,⟨fun σ σ' δ ha=>?_,fun σ σ' pre ha=>?_,fun l k γ fr ps asg body N ls hg=>h.lp l k γ fr ps asg body N ls (ADA hg)⟩,rfl⟩
 ·simp only[Q9,Z0,←U8];rw[h.f σ σ' δ ha]
 ·have:=h.s σ σ' pre ha;simp only[St.emb,St.mk.injEq]at this;simp only[Q9,St.emb,St.mk.injEq,←U9];exact⟨this.1,by rw[this.2]⟩
theorem VA{n N:Nat}{ρ:Option Nat}{c:Code}{K:Exit→Fr→St→Prop}{ks ls:List Nat}{st:XS}(h:BH P n N ρ c K ((Q9 ks ls st).fr.ren σ pre.length) ((Q9 ks ls st).s.emb σ pre)):BH P n N ρ c K (st.fr.ren σ pre.length) (st.s.emb σ pre):=by
 refine wV ks ls ?_;have e2:(⟨(st.s.emb σ pre).up,IP ls (st.s.emb σ pre).loc⟩:St)=(Q9 ks ls st).s.emb σ pre:=by simp only[Q9,St.emb,U9]
 rw[U8,e2,←Z0];exact h
abbrev bJ:=Code→XS→Option (Exit×XS)
noncomputable def QL(P:Program)(E:XE)(l:List Oper)(st:XS):Option XS:=xQ P E l (cA l) st
noncomputable def A31(P:Program)(E:XE)(l:List Oper)(draw:Bool)(st:XS):Option XS:=Bool.rec (gF P E l l st)
 (match AQ0 l with
  |[]=>QL P E l st
  | ds=>QL P E l (Q9 (TX [] (st.fr.map (·.1))) ((TX [] (st.s.loc.map (·.1))).filter fun k=>!(ds.any (Nat.beq k))) st)) draw
noncomputable def NN(r:Option XS):Option (Exit×XS):=match r with
 |some st=>some (.normal,st)
 |none=>none
noncomputable def gJ(rec:bJ)(b:Code)(r:Option (Exit×XS)):Option (Exit×XS):=match r with
 |some (.normal,st')=>rec b st'
 |r=>r
noncomputable def M1(id:Nat)(r:Option (Exit×XS)):Option (Exit×XS):=match r with
 |some (.exit i,st')=>Bool.rec (some (.exit i,st')) (some (.normal,st')) (Nat.beq i id)
 |r=>r
noncomputable def lZ(rec:bJ)(a b:Code)(st:XS)(r:Option V):Option (Exit×XS):=match r with
 |some (.bool c)=>Bool.rec (rec b st) (rec a st) c
 |_=>none
noncomputable def dQ(rec:bJ)(body:Code)(ks:List Nat)(n:Nat):XS→Option (Exit×XS):=Nat.rec (motive:=fun _=>XS→Option (Exit×XS)) (fun _=>none) (fun _ ih st=>match rec body (Q9 ks (TX [] (st.s.loc.map (·.1))) st)with
 |some (.normal,st')=>ih st'
 | r=>r) n
def CD:Nat:=1000000
noncomputable def gK(fr:Fr)(n γ:Nat)(r:Option (V×XS)):Option (Exit×XS):=match r with
 |some (_,st)=>match st.s.get n CD with
  | some (γ',.loop _ _ _ _ _ ls)=>Bool.rec none (match ls with
   |.ready=>some (.normal,⟨st.c,fr,st.s.put n CD γ .dead⟩)
   |.left .ret=>some (.ret,⟨st.c,fr,st.s.put n CD γ .dead⟩)
   |.left (.exit id)=>some (.exit id,⟨st.c,fr,st.s.put n CD γ .dead⟩)
   | _=>none) (Nat.beq γ' γ&&Nat.blt γ st.c)
  |_=>none
 |none=>none
noncomputable def VB(cf:CF)(N:Nat)(g:Operand)(ps:List Tmp)(asg body:Code)(st:XS):Option (Exit×XS):=match CO st.fr g with
 |some (.fn f first cap)=>gK st.fr st.s.up.length st.c (cf f ((first++[V.yld st.s.up.length CD st.c]++cap).map weakV) ⟨st.c+1,st.fr,st.s.put st.s.up.length CD st.c (.loop st.fr ps asg body N .ready)⟩)
 |_=>none
noncomputable def TZ(P:Program)(E:XE)(n N:Nat)(rec:bJ):bJ:=fun code st=>match code with
 |.skip=>some (.normal,st)
 |.label _=>some (.normal,st)
 |.region _ ops draw=>NN (A31 P E ops.toList draw st)
 |.seq a b=>gJ rec b (rec a st)
 |.cond c a b=>lZ rec a b st (CO st.fr c)
 |.block id body=>M1 id (rec body st)
 |.loop body=>dQ rec body (TX [] (st.fr.map (·.1))) n st
 |.exit id=>some (.exit id,st)
 |.ret=>some (.ret,st)
 |.scope body=>rec body st
 |.rangeFunc g ps asg body=>VB E.cf N g ps.toList asg body st
 |_=>none
abbrev GD:=Nat→bJ
noncomputable def xR(P:Program)(rs:List ResultVar)(st:XS):Option (V×Nat×List AA):=match F0 P rs st.fr st.s with
 |some r=>match AZ st.s 4 r with
  |some r'=>some (r',st.c,st.s.up.map (AN st.s))
  |none=>none
 |none=>none
noncomputable def tV{α:Type}(rec:bJ)(ret:XS→Option α)(code:Code)(st:XS):Option α:=match rec code st with
 |some (.ret,st')=>ret st'
 |some (.normal,st')=>ret st'
 |_=>none
noncomputable def WD{α:Type}(P:Program)(rec:GD)(ret:Func→XS→Option α)(f:FuncId)(args:List V)(c:Nat)(up:List AA):Option α:=match P.funcs[f]? with
 |some fn=>match fn.body with
  |some code=>Bool.rec none (tV (rec fn.ntmps) (ret fn) code ⟨c,AG 0 args,⟨up,[]⟩⟩) (Nat.ble args.length fn.ntmps)
  |none=>none
 |none=>none
noncomputable def dR(P:Program)(rec:GD)(f:FuncId)(args:List V)(c:Nat)(up:List AA):Option (V×Nat×List AA):=WD P rec (fun fn=>xR P fn.results.toList) f args c up
noncomputable def EX(P:Program)(rec:GD):CF0:=fun f args=>Bool.rec none (match dR P rec f args 0 []with
 |some (r,_,_)=>Bool.rec none (some r) (AK 9 r)
 | none=>none) (args.all (AK 9))
def C5{α:Type}:List α→Option (List α×α)
 |[]=>none
 |[x]=>some ([],x)
 |x::r=>match C5 r with
  |some (a,b)=>some (x::a,b)
  |none=>none
noncomputable def AW(P:Program)(kn:CF0)(rec:GD):CF0:=fun f args=>match kn f args with
 |some r=>some r
 |none=>EX P rec f args
def weakM:V→V
 |.nil=>.list false []
 |v=>v
def weakN:V→V
 |.nil=>.list false []
 |.agg cs=>.agg (cs.map weakM)
 |v=>v
theorem RepV.empty{G:Gh}{v:Value}(h:RepV G .nil v):RepV G (.list false []) v:=by cases h;exact .list false [] none 0 0 0 0 #[] 0 (0,0) (fun _ _=>undef) (by simp) (fun h=>by cases h) (fun h=>absurd rfl h) (fun i h=>absurd h (by simp)) (fun i h=>absurd h (by simp)) (fun i h=>absurd h (by simp))
theorem RepV.weakM{G:Gh}{x:V}{v:Value}(h:RepV G x v):RepV G (weakM x) v:=by cases x<;>first|exact h|exact h.empty
theorem gL(x:V):(weakM x).isCell=x.isCell:=by cases x<;>rfl
theorem RepV.weakN{G:Gh}{x:V}{v:Value}(h:RepV G x v):RepV G (weakN x) v:=by
 cases x with
 |nil=>exact h.empty
 |agg cs=>
  cases h with
  |agg _ arr hl hc hr=>
   refine .agg _ arr (by simpa using hl) (fun c hc'=>?_) (fun i h1 h2=>?_)
   ·obtain⟨d,hd,rfl⟩:=List.mem_map.1 hc';rw[gL];exact hc d hd
   ·simp only[List.getElem_map];exact(hr i (by simpa using h1) h2).weakM
 |_=>exact h
theorem RepA.weakN{G:Gh}{xs:List V}{vs:List Value}(h:RepA G xs vs):RepA G (xs.map Pg.weakN) vs :=
 ⟨by simpa using h.1,fun i h1 h2=>by simp only[List.getElem_map];exact(h.2 i (by simpa using h1) h2).weakN⟩
noncomputable def FL(P:Program)(kn:CF0)(rec:GD):CF0:=fun f args=>match AW P kn rec f (args.map weakN)with
 |some r=>Bool.rec (AW P kn rec f args) (some r) (args.all (AK 9))
 |none=>AW P kn rec f args
def BFD(P:Program)(T:TypeId):Bool:=match P.underlying T with
 |some (.pointer _)=>true
 |_=>false
def BC(P:Program)(f:FuncId):Bool:=match P.funcs[f]? with
 |some fn=>fn.resultTypes.toList.any (BFD P)
 |none=>false
noncomputable def Z1(P:Program)(kn:CF0)(rec:GD):CF:=fun f args st=>Bool.rec (match dR P rec f args st.c (st.s.up++[st.s.loc])with
 |some (r,c,up)=>match C5 up with
  |some (u,l)=>some (r,⟨c,st.fr,⟨u,l⟩⟩)
  |none=>none
 | none=>none) (match FL P kn rec f args with
  |some r=>some (r,st)
  | none=>none) (args.all (AK 9)&&!(BC P f))
noncomputable def pW(P:Program)(fn:Func)(st:XS):Option Mk:=match F0 P fn.results.toList st.fr st.s with
 | some (.vec l k γ n)=>Bool.rec none (match st.s.loc.get k with
  |some (γ',.vec T es)=>Bool.rec none (some ⟨.vec T es,none⟩) (Nat.beq γ' γ&&Nat.beq n es.length&&es.all fun e=>e.all (AK 9))
  | _=>none) (Nat.beq l st.s.up.length)
 | some v=>Bool.rec none (match fn.resultTypes.toList with
  |[R]=>match BM P R with
   |some (none,T)=>some ⟨.vec T [],none⟩
   |_=>none
  | _=>none) (WK v)
 |none=>none
def J5(P:Program)(f:FuncId):Bool:=match P.funcs[f]? with
 |some fn=>match fn.resultTypes.toList with
  |[R]=>match BM P R with
   |some (none,_)=>true
   |_=>false
  |_=>false
 |none=>false
noncomputable def M2(P:Program)(rec:GD)(f:FuncId)(args:List V):Option Mk:=Bool.rec none (WD P rec (pW P) f args 0 []) (args.all (AK 9))
noncomputable def OS(P:Program)(kn:CF0)(ko:CFO)(rec:GD):CFO:=fun f args d=>match ko f args d with
 |some r=>some r
 | none=>Bool.rec (match FL P kn rec f args with
  |some r=>some ⟨.dead,some r⟩
  | none=>none) (M2 P rec f args) (J5 P f)
def tW(k γ:Nat):Nat→V→Bool
 |0=>fun _=>false
 |f+1=>fun v=>match v with
  |.vec l k' γ' _=>Nat.beq l 0&&Nat.beq k' k&&Nat.beq γ' γ
  |.agg cs=>cs.all (tW k γ f)
  |.tup cs=>cs.all (tW k γ f)
  |.list _ es=>es.all fun e=>e.all (tW k γ f)
  |.int _ _=>true
  |.bool _=>true
  |.nil=>true
  |_=>false
def tmV(d:Nat):Nat→V→V
 |0=>fun v=>v
 |f+1=>fun v=>match v with
  |.vec _ _ _ m=>.vec 0 d 0 m
  |.agg cs=>.agg (cs.map (tmV d f))
  |.tup cs=>.tup (cs.map (tmV d f))
  |.list b es=>.list b (es.map (List.map (tmV d f)))
  |v=>v
noncomputable def BFE(P:Program)(k d:Nat)(fn:Func)(st:XS):Option Mk:=match F0 P fn.results.toList st.fr st.s,st.s.loc.get k with
 |some v,some (γ,.vec T es)=>Bool.rec none (some ⟨.vec T es,some (tmV d 4 v)⟩) (tW k γ 4 v&&es.all fun e=>e.all (AK 9))
 |_,_=>none
noncomputable def BJY(P:Program)(rec:GD)(k:Nat)(f:FuncId)(args:List V)(d:Tmp):Option Mk:=Bool.rec none (WD P rec (BFE P k d) f args 0 []) (args.all (AK 9))
noncomputable def HS(s:St)(u:List AA)(l:AA):St:=⟨u.map (AN s),AN s l⟩
noncomputable def Z2(fr:Fr)(l q γ:Nat)(r:Option (Exit×XS)):Option (V×XS):=match r with
 |some (e,st)=>match st.s.get l q with
  | some (γ',.loop fr0 ps asg body N .busy)=>Bool.rec none (match C5 st.s.up with
   |some (u,lc)=>match e with
    |.normal=>some (.bool true,⟨st.c,fr,(HS st.s u lc).put l q γ (.loop fr0 ps asg body N .ready)⟩)
    |.ret=>some (.bool false,⟨st.c,fr,(HS st.s u lc).put l q γ (.loop fr0 ps asg body N (.left .ret))⟩)
    |.exit id=>some (.bool false,⟨st.c,fr,(HS st.s u lc).put l q γ (.loop fr0 ps asg body N (.left (.exit id)))⟩)
    |_=>none
   | none=>none) (Nat.beq γ' γ&&Nat.blt l st.s.up.length&&Nat.blt γ st.c)
  |_=>none
 |none=>none
noncomputable def Z3(rec:bJ)(l q γ:Nat)(body:Code)(r:Option (Exit×XS)):Option (Exit×XS):=match r with
 |some (.normal,st)=>match st.s.get l q with
  |some (γ',.loop fr0 ps asg body' N .ready)=>Bool.rec none (rec body ⟨st.c,st.fr,st.s.put l q γ (.loop fr0 ps asg body' N .busy)⟩) (Nat.beq γ' γ&&Nat.blt γ st.c)
  |_=>none
 |_=>none
noncomputable def gM(rec:GD):CY:=fun l q γ vs st=>match st.s.get l q with
 |some (γ',.loop fr0 ps asg body N .ready)=>Bool.rec none (Z2 st.fr l q γ (Z3 (rec N) l q γ body (rec N asg ⟨st.c,LP fr0 ps vs,⟨st.s.up++[st.s.loc],[]⟩⟩))) (Nat.beq γ' γ&&Nat.beq vs.length ps.length&&Nat.blt γ st.c)
 |_=>none
noncomputable def AQ6(P:Program)(kn:CF0)(ko:CFO)(lit:Tmp→Bool)(rec:GD):XE:=⟨Z1 P kn rec,gM rec,FL P kn rec,OS P kn ko rec,lit⟩
noncomputable def BO7(P:Program)(kn:CF0)(ko:CFO)(lit:Tmp→Bool)(n:Nat):GD:=Nat.rec (motive:=fun _=>GD) (fun _ _ _=>none) (fun n ih N=>TZ P (AQ6 P kn ko lit ih) n N (ih N)) n
def pX(fn:Func):Bool:=match fn.body with
 | some c => !(fn.name == "runtime.NumGoroutine") && EU fn.ntmps c
 |none=>true
structure EB(P:Program):Prop where
 all:P.funcs.toList.all pX=true
 mixed:P.follows .mixedOrders=true
def Z4(P:Program)(N:Nat)(rec:bJ):Prop:=∀code st e st',rec code st=some (e,st')→Bd st→EU N code=true→KG st st'∧(∀l,e≠.goto l) ∧
 ∀(n:Nat) (ρ:Option Nat) (σ:Nat→Nat) (pre:List AA) (K:Exit→Fr→St→Prop),(ρ=none∨F5 code=true)→(∀σ',AU st.c σ σ'→K e (st'.fr.ren σ' pre.length) (st'.s.emb σ' pre))→BH P n N ρ code K (st.fr.ren σ pre.length) (st.s.emb σ pre)
def Z5(P:Program)(rec:GD):Prop:=∀N,Z4 P N (rec N)
theorem OT{α:Type}:∀{l:List α} {u:List α} {x:α},C5 l=some (u,x)→l=u++[x]
 |[],u,x,h=>by cases h
 |[y],u,x,h=>by cases h;rfl
 |y::z::r,u,x,h=>by
  simp only[C5]at h;split at h
  ·rename_i a b e;cases h;rw[OT (l:=z::r) e];rfl
  ·cases h
theorem ADB{c:Nat}{args:List V}(h:∀v∈args,UG c v)(σ σ':Nat→Nat)(δ:Nat)(ha:AU c σ σ'):(AG 0 args).ren σ δ=(AG 0 args).ren σ' δ:=by rw[←PT,←PT];congr 1;exact List.map_congr_left fun v hv=>h v hv σ σ' δ ha
theorem AQ7{st:XS}(h:Bd st){rs:List ResultVar}{v r:V}(hv:F0 P rs st.fr st.s=some v)(hr:AZ st.s 4 v=some r):UG st.c r:=by intro σ σ' δ ha;have q1:=OQ (σ:=σ) (pre:=List.replicate δ []) hv;have q2:=OQ (σ:=σ') (pre:=List.replicate δ []) hv;rw[h.f σ σ' _ ha,h.s σ σ' _ ha,q2]at q1;have q:=Option.some.inj q1;have r1:=J0 (σ:=σ) (pre:=List.replicate δ []) 4 hr;have r2:=J0 (σ:=σ') (pre:=List.replicate δ []) 4 hr;rw[h.s σ σ' _ ha,←q,r2]at r1;have:=Option.some.inj r1;rw[List.length_replicate]at this;exact this.symm
theorem HH(u:List AA)(l:AA)(i k:Nat):(⟨u,l⟩:St).get i k=match(u++[l])[i]? with
  |some L=>L.get k
  |none=>none:=by
 unfold St.get
 simp only
 by_cases h:i=u.length
 ·subst h;simp
 ·rw[if_neg h];rcases Nat.lt_or_ge i u.length with h'|h'
  ·rw[List.getElem?_append_left h'];rfl
  ·rw[List.getElem?_append_right h',List.getElem?_eq_none h'];have:1≤i-u.length:=by omega
   rw[List.getElem?_eq_none (by simpa using this)]
theorem pY(L:AA)(k g:Nat)(r:AX)(h:((AN s L).ren σ pre.length).get k=some (g,r)):∃r0,(L.ren σ pre.length).get k=some (g,r0)∧(r=r0∨r=G4 (s.emb σ pre) r0):=by
 rw[AA.get_ren,MU]at h;rw[AA.get_ren];cases hL:L.get k with
 |none=>rw[hL]at h;cases h
 |some p=>
  rw[hL]at h
  cases h
  exact⟨p.2.ren σ pre.length,rfl,lN p.2⟩
theorem dS{s:St}{F:List AA}{u u2:List AA}{l l2:AA}(h1:u++[l]=pre++F.map (AA.ren σ pre.length))(h2:u2++[l2]=pre++(F.map (AN s)).map (AA.ren σ pre.length)):kD (s.emb σ pre) ⟨u,l⟩ ⟨u2,l2⟩:=by
 have hlen:u2.length=u.length:=by have a1:=congrArg List.length h1;have a2:=congrArg List.length h2;simp at a1 a2;omega
 refine⟨hlen,fun i k g r hg=>?_⟩;rw[HH,h2]at hg;rw[HH,h1];rcases Nat.lt_or_ge i pre.length with hi|hi
 ·rw[List.getElem?_append_left hi]at hg⊢;exact⟨r,hg,.inl rfl⟩
 ·rw[List.getElem?_append_right hi]at hg⊢;simp only[List.map_map,List.getElem?_map]at hg⊢;cases hF:F[i-pre.length]? with
  |none=>rw[hF]at hg;cases hg
  |some L=>
   rw[hF]at hg
   exact pY L k g r hg
theorem pZ{s:St}{c:Nat}(hs:∀σ σ' pre,AU c σ σ'→s.emb σ pre=s.emb σ' pre){r:AX}(hr:∀σ σ' δ,AU c σ σ'→r.ren σ δ=r.ren σ' δ)(σ σ':Nat→Nat)(δ:Nat)(ha:AU c σ σ'):(CK s r).ren σ δ=(CK s r).ren σ' δ:=by
 unfold CK;split
 ·rename_i r' h;have q1:=K7 (σ:=σ) (pre:=List.replicate δ []) h;have q2:=K7 (σ:=σ') (pre:=List.replicate δ []) h;rw[hs σ σ' _ ha]at q1;simp only[List.length_replicate]at q1 q2;rw[hr σ σ' _ ha,q2]at q1;exact(Option.some.inj q1).symm
 ·exact hr σ σ' δ ha
theorem mA{L:AA}{δ:Nat}(σ σ':Nat→Nat):L.ren σ δ=L.ren σ' δ↔∀p∈L,σ p.2.1=σ' p.2.1∧p.2.2.ren σ δ=p.2.2.ren σ' δ:=by unfold AA.ren;rw[List.map_inj_left];simp only[Prod.mk.injEq,true_and]
theorem dT{s:St}{c:Nat}(hs:∀σ σ' pre,AU c σ σ'→s.emb σ pre=s.emb σ' pre){L:AA}(hL:∀σ σ' δ,AU c σ σ'→L.ren σ δ=L.ren σ' δ)(σ σ':Nat→Nat)(δ:Nat)(ha:AU c σ σ'):(AN s L).ren σ δ=(AN s L).ren σ' δ:=by rw[mA];intro p hp;obtain⟨x,hx,rfl⟩:=List.mem_map.1 hp;have h1:∀σ σ' δ,AU c σ σ'→σ x.2.1=σ' x.2.1∧x.2.2.ren σ δ=x.2.2.ren σ' δ:=fun σ σ' δ ha=>(mA σ σ').1 (hL σ σ' δ ha) x hx;exact⟨(h1 σ σ' δ ha).1,pZ hs (fun σ σ' δ ha=>(h1 σ σ' δ ha).2) σ σ' δ ha⟩
theorem ADC{s:St}{c:Nat}(hs:∀σ σ' pre,AU c σ σ'→s.emb σ pre=s.emb σ' pre):∀L∈s.up,∀σ σ' δ,AU c σ σ'→L.ren σ δ=L.ren σ' δ:=by intro L hL σ σ' δ ha;have:=hs σ σ' (List.replicate δ []) ha;simp only[St.emb,St.mk.injEq,List.length_replicate]at this;exact List.map_inj_left.1 (List.append_cancel_left this.1) L hL
theorem dU(s:St)(L:AA){k γ:Nat}{fr:Fr}{ps:List Tmp}{asg body:Code}{N:Nat}{st:LS}(h:(AN s L).get k=some (γ,.loop fr ps asg body N st)):L.get k=some (γ,.loop fr ps asg body N st):=by
 rw[MU]at h;cases hL:L.get k with
 |none=>rw[hL]at h;cases h
 |some p=>
  rw[hL]at h
  simp only[Option.map_some,Option.some.injEq,Prod.mk.injEq]at h
  obtain⟨h1,h2⟩:=h
  obtain⟨g,r⟩:=p
  simp only at h1 h2
  subst h1
  congr 2
  cases r with
  |loop=>exact h2
  |box cs=>unfold CK at h2;split at h2<;>rename_i e<;>simp only[CJ]at e<;>(try (split at e<;>cases e))<;>cases h2
  |vec T es=>unfold CK at h2;split at h2<;>rename_i e<;>simp only[CJ]at e<;>(try (split at e<;>cases e))<;>cases h2
  |map es=>unfold CK at h2;split at h2<;>rename_i e<;>simp only[CJ]at e<;>(try (split at e<;>cases e))<;>cases h2
  |dead=>unfold CK at h2;split at h2<;>rename_i e<;>simp only[CJ]at e<;>cases e;cases h2
def FX(P:Program)(f:FuncId)(args:List V)(c:Nat)(up:List AA)(r:V)(c':Nat)(up':List AA):Prop:=c≤c'∧UG c' r∧(∀σ σ' δ,AU c' σ σ'→up'.map (AA.ren σ δ)=up'.map (AA.ren σ' δ))∧up'.length=up.length ∧
  (∀L∈up',∀k γ fr ps asg body N st,L.get k=some (γ,.loop fr ps asg body N st)→TR N ps asg body=true) ∧
  ∀(σ:Nat→Nat) (pre:List AA) (s:St) (K:V→St→Prop),s.up++[s.loc]=pre++up.map (AA.ren σ pre.length)→(∀σ' u l,AU c σ σ'→u++[l]=pre++up'.map (AA.ren σ' pre.length)→K (r.ren σ' pre.length) ⟨u,l⟩)→FE P f (args.map (V.ren σ pre.length)) s K
theorem Z6(hP:EB P){rec:GD}(hrec:Z5 P rec){α:Type}{ret:Func→XS→Option α}{f:FuncId}{args:List V}{c:Nat}{up:List AA}{x:α}(hx:WD P rec ret f args c up=some x)(hargs:∀v∈args,UG c v)
  (hup:∀σ σ' δ,AU c σ σ'→up.map (AA.ren σ δ)=up.map (AA.ren σ' δ)) (hlp:∀L∈up,∀k γ fr ps asg body N st,L.get k=some (γ,.loop fr ps asg body N st)→TR N ps asg body=true) :
  ∃fn st',ret fn st'=some x∧Bd st'∧c≤st'.c∧st'.s.up.length=up.length∧∀(σ:Nat→Nat) (pre:List AA) (s:St) (K:V→St→Prop),s.up++[s.loc]=pre++up.map (AA.ren σ pre.length) →
   (∀σ',AU c σ σ'→AQV P fn.results.toList (s.up.length+1) K .ret (st'.fr.ren σ' pre.length) (st'.s.emb σ' pre))→FE P f (args.map (V.ren σ pre.length)) s K:=by
 unfold WD at hx
 split at hx
 ·rename_i fn hf;split at hx
  ·rename_i code hb;obtain⟨hsz,hx1⟩:=EI hx;have hck:pX fn=true:=List.all_eq_true.1 hP.all fn (by
    have:=Array.mem_of_getElem? hf;simpa using this)
   simp only[pX,hb,Bool.and_eq_true,Bool.not_eq_true']at hck;have hbd:Bd ⟨c,AG 0 args,⟨up,[]⟩⟩:=⟨fun σ σ' δ ha=>ADB hargs σ σ' δ ha,fun σ σ' pre ha=>by simp only[St.emb,hup σ σ' _ ha]; rfl,fun l k γ fr ps asg body N st hg=>by
    rw[HH]at hg;split at hg
    ·rename_i L hL;rcases List.mem_append.1 (List.mem_of_getElem? hL)with hm|hm
     ·exact hlp L hm _ _ _ _ _ _ _ _ hg
     ·have:L=[]:=by simpa using hm
      subst this;simp at hg
    ·cases hg⟩
   have main:∀e st',rec fn.ntmps code ⟨c,AG 0 args,⟨up,[]⟩⟩=some (e,st')→(e=.ret∨e=.normal)→ret fn st'=some x→∃fn st',ret fn st'=some x∧Bd st'∧c≤st'.c∧st'.s.up.length=up.length∧∀(σ:Nat→Nat) (pre:List AA) (s:St) (K:V→St→Prop),s.up++[s.loc]=pre++up.map (AA.ren σ pre.length) →
     (∀σ',AU c σ σ'→AQV P fn.results.toList (s.up.length+1) K .ret (st'.fr.ren σ' pre.length) (st'.s.emb σ' pre))→FE P f (args.map (V.ren σ pre.length)) s K:=by
    intro e st' h1 he h2
    obtain⟨hE,_,hC⟩:=hrec _ _ _ _ _ h1 hbd hck.2
    refine⟨fn,st',h2,hE.bd,hE.c,hE.n,fun σ pre s K hs hk=>?_⟩
    refine A3U hf hb (kR hf hb hck.1) (by simpa using hsz) ?_
    have e1:(⟨s.up++[s.loc],[]⟩:St)=(⟨up,[]⟩:St).emb σ pre:=by simp only[St.emb,hs];rfl
    rw[PT,e1]
    refine hC _ none σ pre _ (.inl rfl) fun σ' ha=>?_
    have:=hk σ' ha
    rcases he with rfl|rfl<;>exact this
   unfold tV at hx1;split at hx1
   ·rename_i st' h1;exact main _ _ h1 (.inl rfl) hx1
   ·rename_i st' h1;exact main _ _ h1 (.inr rfl) hx1
   ·cases hx1
  ·cases hx
 ·cases hx
theorem mB(hP:EB P){rec:GD}(hrec:Z5 P rec){f:FuncId}{args:List V}{c:Nat}{up:List AA}{r:V}{c':Nat}{up':List AA}(hx:dR P rec f args c up=some (r,c',up'))(hargs:∀v∈args,UG c v)
  (hup:∀σ σ' δ,AU c σ σ'→up.map (AA.ren σ δ)=up.map (AA.ren σ' δ)) (hlp:∀L∈up,∀k γ fr ps asg body N st,L.get k=some (γ,.loop fr ps asg body N st)→TR N ps asg body=true):FX P f args c up r c' up':=by
 obtain⟨fn,st',hret,hbd,hc,hlen,hA⟩:=Z6 hP hrec hx hargs hup hlp
 unfold xR at hret
 split at hret
 ·rename_i r0 hr0;split at hret
  ·rename_i r1 hr1;cases hret;refine⟨hc,AQ7 hbd hr0 hr1,fun σ σ' δ ha=>?_,by simpa using hlen,fun L hL k γ fr ps asg body N st hg=>?_,fun σ pre s K hs hk=>hA σ pre s K hs fun σ' ha=>?_⟩
   ·simp only[List.map_map];exact List.map_congr_left fun L hL=>dT hbd.s (ADC hbd.s L hL) σ σ' δ ha
   ·obtain⟨L0,hL0,rfl⟩:=List.mem_map.1 hL;have hg:=dU _ _ hg;obtain⟨i,hi,rfl⟩:=List.getElem_of_mem hL0;refine hbd.lp i k γ fr ps asg body N st ?_;unfold St.get;rw[if_neg (by omega),List.getElem?_eq_getElem hi];exact hg
   ·have hl2:(st'.s.emb σ' pre).up.length=s.up.length+1:=by have q:=congrArg List.length hs;simp only[List.length_append,List.length_singleton,List.length_map]at q;rw[DB,hlen];omega
    rcases List.eq_nil_or_concat (st'.s.emb σ' pre).up with h0|⟨u,l,h0⟩
    ·rw[h0]at hl2;simp at hl2
    ·have h0:(st'.s.emb σ' pre).up=u++[l]:=by simpa using h0
     have hu:u.length+1=s.up.length+1:=by rw[←hl2,h0];simp
     have hcl:=OP 4 (J0 (σ:=σ') (pre:=pre) 4 hr1);have hres:=OQ (σ:=σ') (pre:=pre) hr0;rcases List.eq_nil_or_concat (pre++(st'.s.up.map (AN st'.s)).map (AA.ren σ' pre.length))with h3|⟨u2,l2,h3⟩
     ·have h4:=congrArg List.length h3;have h5:=congrArg List.length h0;simp only[St.emb,List.length_append,List.length_map,List.length_nil,List.length_singleton]at h4 h5;omega
     ·have h3:pre++(st'.s.up.map (AN st'.s)).map (AA.ren σ' pre.length)=u2++[l2]:=by simpa using h3
      have hK:=hk σ' u2 l2 ha h3.symm;have hS:=dS (s:=st'.s) (F:=st'.s.up) (u:=u) (l:=l) (u2:=u2) (l2:=l2) (σ:=σ') (pre:=pre) h0.symm h3.symm;exact⟨u,l,_,h0,hu,hres,.inl ⟨_,_,by rw[hcl];exact Wk.refl _,hS,hK⟩⟩
  ·cases hret
 ·cases hret
theorem VC{c:Nat}{args:List V}(h:args.all (AK 9)=true):∀v∈args,UG c v:=fun v hv σ σ' δ _=>by rw[EN 9 v (List.all_eq_true.1 h v hv),EN 9 v (List.all_eq_true.1 h v hv)]
theorem Z7(hP:EB P){rec:GD}(hrec:Z5 P rec):HD P (EX P rec):=by
 intro f args r hx;unfold EX at hx;obtain⟨hcl,hx1⟩:=EI hx;split at hx1
 ·rename_i r0 c' up' h1;obtain⟨hr,rfl⟩:=JM hx1;obtain⟨_,_,_,hlen,_,hA⟩:=mB hP hrec h1 (VC hcl) (fun _ _ _ _=>rfl) (fun L hL=>by cases hL);have hargs:∀v∈args,∀σ δ,V.ren σ δ v=v:=fun v hv σ δ=>EN 9 v (List.all_eq_true.1 hcl v hv);have hup:up'=[]:=List.eq_nil_of_length_eq_zero hlen;refine⟨fun s=>?_,hargs,fun σ δ=>EN 9 _ hr⟩;have:=hA id (s.up++[s.loc]) s (fun r' s'=>r'=r0∧s'=s) (by simp) fun σ' u l _ hu=>?_
  ·have e:args.map (V.ren id (s.up++[s.loc]).length)=args:=by
    conv=>rhs;rw[←List.map_id args]
    exact List.map_congr_left fun v hv=>hargs v hv _ _
   rw[e]at this;exact this
  ·rw[hup]at hu;simp only[List.map_nil,List.append_nil]at hu;obtain⟨e1,e2⟩:=List.append_inj' hu rfl;refine⟨EN 9 _ hr,?_⟩;subst e1;simp only[List.cons.injEq,and_true]at e2;subst e2;rfl
 ·cases hx1
theorem Z8(hP:EB P){kn:CF0}(hkn:HD P kn){rec:GD}(hrec:Z5 P rec):HD P (AW P kn rec):=by
 intro f args r hx;unfold AW at hx;split at hx
 ·rename_i r0 h0;cases hx;exact hkn _ _ _ h0
 ·exact Z7 hP hrec _ _ _ hx
theorem Z9(hP:EB P){kn:CF0}(hkn:HD P kn){rec:GD}(hrec:Z5 P rec):HD P (FL P kn rec):=by
 intro f args r hx;unfold FL at hx;split at hx
 ·rename_i r0 h0;cases hcl:args.all (AK 9)with
  |false=>rw[hcl]at hx;exact Z8 hP hkn hrec _ _ _ hx
  |true=>
   rw[hcl]at hx
   cases hx
   obtain⟨hA,_,h2⟩:=Z8 hP hkn hrec _ _ _ h0
   exact⟨fun s=>⟨(hA s).1,fun G vals w R hI ha hR=>(hA s).2 G vals w R hI ha.weakN hR⟩,fun v hv σ δ=>EN 9 v (List.all_eq_true.1 hcl v hv),h2⟩
 ·exact Z8 hP hkn hrec _ _ _ hx
theorem handed(hP:EB P){rec:GD}(hrec:Z5 P rec){f:FuncId}{args:List V}{ret:Func→XS→Option Mk}{r:Mk}{d:Tmp}(hcl:args.all (AK 9)=true)(hx:WD P rec ret f args 0 []=some r)
  (hr:∀(fn:Func) (st':XS),ret fn st'=some r→st'.s.up=[]→∀(s:St) (σ':Nat→Nat),∃r0,F0 P fn.results.toList (st'.fr.ren σ' (s.up++[s.loc]).length) (st'.s.emb σ' (s.up++[s.loc]))=some r0 ∧
   ((∃k γ T es,(st'.s.emb σ' (s.up++[s.loc])).loc.get k=some (γ,.vec T es)∧wU (s.up.length+1) k s.up.length d 4 r0=r.val s.up.length d γ∧r.res=.vec T es)∨(∃T,WK r0=true∧r=⟨.vec T [],none⟩)))
  (s:St):FE P f args s fun v s'=>∃γ,v=r.val s.up.length d γ∧s'=s.put s.up.length d γ r.res:=by
 obtain⟨fn,st',hret,hbd,hc,hlen,hA⟩:=Z6 hP hrec hx (VC hcl) (fun _ _ _ _=>rfl) (fun L hL=>by cases hL)
 have hargs:∀v∈args,∀σ δ,V.ren σ δ v=v:=fun v hv σ δ=>EN 9 v (List.all_eq_true.1 hcl v hv)
 have hup:st'.s.up=[]:=List.eq_nil_of_length_eq_zero hlen
 have:=hA id (s.up++[s.loc]) s (fun v s'=>∃γ,v=r.val s.up.length d γ∧s'=s.put s.up.length d γ r.res) (by simp) fun σ' _=>?_
 ·have e:args.map (V.ren id (s.up++[s.loc]).length)=args:=by
   conv=>rhs;rw[←List.map_id args]
   exact List.map_congr_left fun v hv=>hargs v hv _ _
  rw[e]at this;exact this
 ·obtain⟨r0,h1,h2⟩:=hr fn st' hret hup s σ';refine⟨s.up,s.loc,r0,by simp[St.emb,hup],rfl,h1,.inr ?_⟩;rcases h2 with⟨k,γ,T,es,h3,h4,h5⟩|⟨T,h3,h4⟩
  ·exact .inl ⟨k,γ,T,es,d,h3,γ,h4,by rw[h5]⟩
  ·subst h4;exact .inr ⟨d,T,h3,fun γ=>⟨γ,rfl,rfl⟩⟩
theorem xS(hP:EB P){rec:GD}(hrec:Z5 P rec){f:FuncId}{args:List V}{r:Mk}{d:Tmp}(hx:M2 P rec f args=some r) :
  (∀(s:St),FE P f args s fun v s'=>∃γ,v=r.val s.up.length d γ∧s'=s.put s.up.length d γ r.res)∧(∀v∈args,∀σ δ,v.ren σ δ=v)∧(∀σ δ,r.res.ren σ δ=r.res)∧dI r.res=true:=by
 unfold M2 at hx
 obtain⟨hcl,hx1⟩:=EI hx
 have hargs:∀v∈args,∀σ δ,V.ren σ δ v=v:=fun v hv σ δ=>EN 9 v (List.all_eq_true.1 hcl v hv)
 have main:∀(fn:Func) (st':XS),pW P fn st'=some r→((∀σ δ,r.res.ren σ δ=r.res)∧dI r.res=true)∧(st'.s.up=[]→∀(s:St) (σ':Nat→Nat),∃r0,F0 P fn.results.toList (st'.fr.ren σ' (s.up++[s.loc]).length) (st'.s.emb σ' (s.up++[s.loc]))=some r0 ∧
   ((∃k γ T es,(st'.s.emb σ' (s.up++[s.loc])).loc.get k=some (γ,.vec T es)∧wU (s.up.length+1) k s.up.length d 4 r0=r.val s.up.length d γ∧r.res=.vec T es)∨(∃T,WK r0=true∧r=⟨.vec T [],none⟩))):=by
  intro fn st' hret
  unfold pW at hret
  split at hret
  ·rename_i l k γ n hres;obtain⟨hl,hret⟩:=EI hret;have hl:=Nat.eq_of_beq_eq_true hl;split at hret
   ·rename_i γ' T es hget;obtain⟨hc2,he⟩:=JM hret;cases he;simp only[Bool.and_eq_true]at hc2;obtain⟨⟨h1,h2⟩,h3⟩:=hc2;have h1:=Nat.eq_of_beq_eq_true h1;have h2:=Nat.eq_of_beq_eq_true h2;subst h1;subst h2;have hes:∀σ δ,es.map (List.map (V.ren σ δ))=es:=fun σ δ=>by
     conv=>rhs;rw[←List.map_id es]
     exact List.map_congr_left fun e he=>M0 (fun v=>EN 9 v) (List.all_eq_true.1 h3 e he)
    refine⟨⟨fun σ δ=>by simp only[AX.ren,hes],rfl⟩,fun hup s σ'=>⟨_,OQ hres,.inl ⟨k,σ' γ',T,es,?_,?_,rfl⟩⟩⟩
    ·rw[KV,hget];simp only[Option.map_some,AX.ren,hes]
    ·rw[hup]at hl;subst hl;simp[wU,Mk.val,G5]
   ·cases hret
  ·rename_i v hnv hres;obtain⟨hn,hret⟩:=EI hret;split at hret
   ·split at hret
    ·rename_i T _;cases hret;exact⟨⟨fun _ _=>rfl,rfl⟩,fun hup s σ'=>⟨_,OQ hres,.inr ⟨_,by rw[AC0];exact hn,rfl⟩⟩⟩
    ·cases hret
   ·cases hret
  ·cases hret
 obtain⟨fn,st',hret,_⟩:=Z6 hP hrec hx1 (VC hcl) (fun _ _ _ _=>rfl) (fun L hL=>by cases hL)
 exact⟨handed hP hrec hcl hx1 fun fn st' h=>(main fn st' h).2,hargs,(main fn st' hret).1⟩
theorem CT.nought{G:Gh}{s:St}{w:World}(hI:CT G s w)(d γ:Nat):CT G (s.put s.up.length d γ .dead) w:=by
 have look:∀{l k x},(s.put s.up.length d γ .dead).get l k=some x→x=(γ,.dead)∨s.get l k=some x:=fun {l k x} h=>by
  rw[St.get_putLoc]at h;split at h
  ·exact .inl (Option.some.inj h).symm
  ·exact .inr h
 refine⟨hI.sl,fun l k g r h=>?_,fun l k g r l' k' g' r' b h1 h2 h3 h4=>?_,fun l k g r b h1 h2=>?_,hI.fresh,hI.env⟩
 ·rcases look h with e|e
  ·cases e;trivial
  ·exact hI.res _ _ _ _ e
 ·rcases look h1 with e|e1
  ·cases e;cases h3
  ·rcases look h2 with e|e2
   ·cases e;cases h4
   ·exact hI.sep _ _ _ _ _ _ _ _ _ e1 e2 h3 h4
 ·rcases look h1 with e|e
  ·cases e;cases h2
  ·exact hI.out _ _ _ _ _ e h2
theorem ADD(hP:EB P){kn:CF0}(hkn:HD P kn){ko:CFO}(hko:gD P ko){rec:GD}(hrec:Z5 P rec):gD P (OS P kn ko rec):=by
 intro f args d r hx;unfold OS at hx;split at hx
 ·rename_i r0 h0;cases hx;exact hko _ _ _ _ h0
 ·cases hs:J5 P f with
  |true=>
   rw[hs]at hx
   exact xS hP hrec hx
  |false=>
   rw[hs]at hx
   have hx:(match FL P kn rec f args with
    |some r=>some (⟨.dead,some r⟩:Mk)
    | none=>none)=some r:=hx
   split at hx
   ·rename_i r0 h0;cases hx;obtain⟨hA,h1,h2⟩:=Z9 hP hkn hrec _ _ _ h0;refine⟨fun s=>⟨(hA s).1,fun G vals w R hI ha hR=>(hA s).2 G vals w R hI ha fun G' v u w' s' hle hI' hv hlen hk=>?_⟩,h1,fun _ _=>rfl,rfl⟩;obtain⟨rfl,rfl⟩:=hk;exact hR G' _ u w' (s'.put s'.up.length d 0 .dead) hle (hI'.nought d 0) hv (St.put_len _ _ _ _ _) ⟨0,(h2 _ _).symm,rfl⟩
   ·cases hx
theorem ADE(hP:EB P){kn:CF0}(hkn:HD P kn){rec:GD}(hrec:Z5 P rec):dN P (Z1 P kn rec):=by
 intro f args st r st' hx hbd hargs;unfold Z1 at hx;cases hcl:(args.all (AK 9)&&!(BC P f))with
 |true=>
  rw[hcl]at hx
  have hx:(match FL P kn rec f args with|some r=>some (r,st)|none=>none)=some (r,st'):=hx
  split at hx
  ·rename_i r0 h0;cases hx;obtain⟨hA,h1,h2⟩:=Z9 hP hkn hrec _ _ _ h0;refine⟨⟨Nat.le_refl _,hbd,rfl⟩,fun σ σ' δ _=>by rw[h2,h2],rfl,fun σ pre K hk=>?_⟩;have e:args.map (V.ren σ pre.length)=args:=by
    conv=>rhs;rw[←List.map_id args]
    exact List.map_congr_left fun v hv=>h1 v hv _ _
   rw[e];refine(hA (st.s.emb σ pre)).mono fun r' s' q5=>?_;obtain⟨rfl,rfl⟩:=q5;have:=hk σ (AU.refl _ _);rwa [h2]at this
  ·cases hx
 |false=>
  rw[hcl]at hx
  have hx:(match dR P rec f args st.c (st.s.up++[st.s.loc])with
   |some (r,c,up)=>match C5 up with
    |some (u,l)=>some (r,(⟨c,st.fr,⟨u,l⟩⟩:XS))
    |none=>none
   | none=>none)=some (r,st'):=hx
  split at hx
  ·rename_i r0 c0 up0 h1;split at hx
   ·rename_i u l hu;cases hx;have hup0:=OT hu;have hsb:∀σ σ' δ,AU st.c σ σ'→(st.s.up++[st.s.loc]).map (AA.ren σ δ)=(st.s.up++[st.s.loc]).map (AA.ren σ' δ):=by intro σ σ' δ ha;have:=hbd.s σ σ' (List.replicate δ []) ha;simp only[St.emb,St.mk.injEq,List.length_replicate]at this;simp only[List.map_append,List.map_cons,List.map_nil];rw[List.append_cancel_left this.1,this.2]
    have hlp:∀L∈st.s.up++[st.s.loc],∀k γ fr ps asg body N st,L.get k=some (γ,.loop fr ps asg body N st)→TR N ps asg body=true:=by intro L hL k γ fr ps asg body N ls hg;obtain⟨i,hi⟩:=List.getElem?_of_mem hL;refine hbd.lp i k γ fr ps asg body N ls ?_;have:=HH st.s.up st.s.loc i k;rw[hi]at this;exact this.trans hg
    obtain⟨hc,hrb,hub,hlen,hlp',hA⟩:=mB hP hrec h1 hargs hsb hlp;subst hup0;refine⟨⟨hc,⟨fun σ σ' δ ha=>hbd.f σ σ' δ (ha.mono hc),fun σ σ' pre ha=>?_,fun i k γ fr ps asg body N ls hg=>?_⟩,?_⟩,hrb,rfl,fun σ pre K hk=>?_⟩
    ·have:=hub σ σ' pre.length ha;simp only[List.map_append,List.map_cons,List.map_nil]at this;obtain⟨e1,e2⟩:=List.append_inj' this rfl;simp only[List.cons.injEq,and_true]at e2;simp only[St.emb,e1,e2]
    ·rw[HH]at hg;split at hg
     ·rename_i L hL;exact hlp' L (List.mem_of_getElem? hL) _ _ _ _ _ _ _ _ hg
     ·cases hg
    ·simp only[List.length_append,List.length_singleton]at hlen;simp only;omega
    ·refine hA σ pre (st.s.emb σ pre) K (by simp[St.emb]) fun σ' u' l' ha hu'=>?_;have:=hk σ' ha;simp only[List.map_append,List.map_cons,List.map_nil,←List.append_assoc]at hu';obtain⟨e1,e2⟩:=List.append_inj' hu' rfl;simp only[List.cons.injEq,and_true]at e2;subst e1;subst e2;exact this
   ·cases hx
  ·cases hx
end Go.Pg
