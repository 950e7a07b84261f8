/- Running a Go function upon abstract values, by computing: one operation, and that it is what the walk asks. No program in sight. -/
import Derived.Test.YthhdhbalenanjaaGreatP5
namespace Go.Pg
variable {P:Program}{Ω:H4 P}{σ σ':Nat→Nat}{δ:Nat}{pre:List AA}{s:St}{fr:Fr}{g:Bool}
def MC(all:List Oper)(o:Oper):Option (Tmp×Bool):=match o.guard with
 |none=>none
 |some (j,w)=>match all[j]? with
  |some p=>match p.dst with
   |some d=>some (d,w)
   |none=>none
  |none=>none
def AAN(all:List Oper):Bool:=all.all fun o=>H1 all o (MC all o)
theorem mA{all:List Oper}:∀{l:List Oper},(∀o∈l,H1 all o (MC all o)=true)→KF all (l.map (MC all)) l=true
 |[],_=>rfl
 |o::l,h=>by simp only[List.map_cons,KF,Bool.and_eq_true];exact⟨h o (by simp),mA fun p hp=>h p (by simp[hp])⟩
theorem VV{all:List Oper}(h:AAN all=true):∀o∈all,H1 all o (MC all o)=true:=fun o ho=>List.all_eq_true.1 h o ho
def BBF(d:Tmp)(p:Oper):Bool:=match p.op with
 |.call { callee:=.builtin .append,args,.. }=>match args.toList with
  |.tmp t::_=>Nat.beq t d
  |_=>false
 |.call { callee:=.value (.func _),args,argTypes }=>match args.toList,argTypes.toList with
  |[.tmp t,_],[T,U]=>Nat.beq t d&&Nat.beq T p.type&&!(Nat.beq U T)
  |_,_=>false
 |_=>false
def AXU(d:Tmp)(p:Oper):Bool:=match p.op with
 |.store _ _ (.tmp t)=>Nat.beq t d
 |_=>false
def EB(l:List Oper)(o:Oper):Bool:=match o.op,o.dst with
 |.call { callee:=.value _,.. },some d=>l.any fun p=>BBF d p||AXU d p
 |_,_=>false
def kS(o:Oper):Bool:=match o.op with
 |.mapUpdate ..|.insert ..=>true
 |.call { callee:=.builtin b,.. }=>match b with
  |.len|.max|.min|.cap|.append=>false
  |_=>true
 |_=>false
def kC(o:Oper):Bool:=match o.op with
 |.call { callee:=.value _,.. }=>true
 |_=>false
def onB(o:Oper)(A:List Nat):Bool:=o.after.any fun e=>Region.binds .any e&&A.contains e.on
def BBG(o:Oper)(l:List Oper)(A:List Nat):Bool:=kW o&&l.isEmpty&&A.all fun j=>o.after.any fun e=>Region.binds .any e&&Nat.beq e.on j
def BBH(o:Oper)(i:Nat):List Nat→List Nat
 |[]=>[i]
 |a::A=>cond (onB o [a]) (i::a::A) (a::BBH o i A)
def K3(own:Oper→Bool):List Oper→Nat→List Nat→List Nat→List Nat→List Nat→List Nat→List Nat→List Nat×List Nat
 |[],_,R,Q,A,S,R2,T=>(R.reverse++Q.reverse++A.reverse++S.reverse++R2.reverse,T.reverse)
 |o::l,i,R,Q,A,S,R2,T=>
  cond (onB o T||kS o||BBG o l (R++Q++A++S++R2++T)||(kC o&&(onB o (Q++S++R2)||(!(own o)&&onB o A)))) (K3 own l (i+1) R Q A S R2 (i::T))
   (cond (kP o) (cond (onB o (A++S++R2)) (K3 own l (i+1) R Q A S (i :: R2) T) (K3 own l (i+1) R (i :: Q) A S R2 T))
   (cond (kW o) (cond (onB o R2) (K3 own l (i+1) R Q A S (i :: R2) T) (K3 own l (i+1) R Q A (i :: S) R2 T))
    (cond (onB o (Q++S++R2)||(cond (kA own o) (!R2.isEmpty) (onB o (A.take 1)))) (K3 own l (i+1) R Q A S (i :: R2) T)
     (cond (kA own o) (K3 own l (i+1) R Q (i :: A) S R2 T) (cond (onB o A) (K3 own l (i+1) R Q (BBH o i A) S R2 T) (K3 own l (i+1) (i :: R) Q A S R2 T))))))
def ATF(af:Nat):List (Nat×Nat)→Nat→Nat
 |[],m=>m
 |p::r,m=>H5 (cond (XB af p.1) (Nat.lor m (Nat.lor p.2 (Nat.shiftLeft 1 p.1))) m) (ATF af r)
def BBI:List (Nat×Nat)→List (Nat×Nat)→List (Nat×Nat)
 |[],acc=>acc
 |p::r,acc=>H5 (ATF p.2 acc 0) fun m=>BBI r ((p.1,m)::acc)
def AXV(l:List Oper):List Nat:=((BBI (afL l 0) []).filterMap fun p=>cond (Nat.beq p.2 (Nat.sub (Nat.pow 2 p.1) 1)) (match l[p.1]? with
 |some o=>cond (kC o&&Nat.beq (L8 p.1 (afL l 0) 0) (Nat.sub (Nat.pow 2 l.length) (Nat.pow 2 (p.1+1)))) (some p.1) none
 | none=>none) none).reverse
def ATG(own:Oper→Bool)(l:List Oper):Nat→List Nat→ZD
 |i,[]=>[K3 own (l.drop i) i [] [] [] [] [] []]
 |i,c::cs=>match K3 own ((l.drop i).take (c-i)) i [] [] [] [] [] []with
  |(R,T)=>(R,T++[c])::ATG own l (c+1) cs
def gV(l:List Oper):ZD:=ATG (EB l) l 0 (AXV l)
def AXW(l:List Oper):List Nat:=l.filterMap fun o=>cond (kA (EB l) o) o.dst none
def GY:Code→Bool
 |.seq a b=>GY a&&GY b
 |.cond _ a b=>GY a&&GY b
 |.block _ c=>GY c
 |.loop c=>GY c
 |.scope _=>false
 |.rangeFunc ..=>false
 |_=>true
def FJ(N:Nat):Code→Bool
 |.region _ ops draw=>cond draw (P5 (EB ops.toList) N (ops.toList.map (MC ops.toList)) (gV ops.toList) ops.toList) (M5 N ops.toList&&AAN ops.toList)
 |.seq a b=>FJ N a&&FJ N b
 |.cond _ a b=>FJ N a&&FJ N b
 |.block _ c=>FJ N c
 |.loop c=>FJ N c
 |.scope c=>FJ N c
 |.rangeFunc _ ps asg body=>ps.toList.all (fun p=>Nat.blt p N)&&GY asg&&GY body&&FJ N asg&&FJ N body
 |_=>true
def VW(N:Nat)(ps:List Tmp)(asg body:Code):Bool:=ps.all (fun p=>Nat.blt p N)&&GY asg&&GY body&&FJ N asg&&FJ N body
def VX(s:St):Prop:=∀l k γ fr ps asg body N st,s.get l k=some (γ,.loop fr ps asg body N st)→VW N ps asg body=true
theorem vW{s:St}{l k γ:Nat}{r:A6}{l' k':Nat}{x:Nat×A6}(h:(s.put l k γ r).get l' k'=some x):x=(γ,r)∨s.get l' k'=some x:=by
 unfold St.put at h;unfold St.get at h⊢;by_cases e1:l=s.up.length
 ·rw[if_pos e1]at h;by_cases e2:l'=s.up.length
  ·rw[if_pos e2]at h⊢;rw[AA.get_put]at h;split at h
   ·exact .inl (Option.some.inj h).symm
   ·exact .inr h
  ·rw[if_neg e2]at h⊢;exact .inr h
 ·rw[if_neg e1]at h;have hl:({ s with up:=s.up.modify l (fun L=>L.put k γ r) }:St).up.length=s.up.length:=by simp
  rw[hl]at h;by_cases e2:l'=s.up.length
  ·rw[if_pos e2]at h⊢;exact .inr h
  ·rw[if_neg e2]at h⊢;rw[List.getElem?_modify]at h;cases hu:s.up[l']? with
   |none=>simp[hu]at h
   |some L=>
    rw[hu]at h
    simp only[Option.map_eq_map,Option.map_some]at h
    by_cases e3:l=l'
    ·simp only[e3,if_true,AA.get_put]at h;split at h
     ·exact .inl (Option.some.inj h).symm
     ·exact .inr h
    ·simp only[e3,if_false]at h;exact .inr h
theorem VX.put{s:St}(h:VX s){l k γ:Nat}{r:A6}(hr:∀fr ps asg body N st,r=.loop fr ps asg body N st→VW N ps asg body=true):VX (s.put l k γ r):=by
 intro l' k' γ' fr ps asg body N st hg;rcases vW hg with e|e
 ·cases e;exact hr _ _ _ _ _ _ rfl
 ·exact h _ _ _ _ _ _ _ _ _ e
structure XS where
 c:Nat
 fr:Fr
 s:St
noncomputable def BE(fr:Fr)(k:Nat):Option (Bool×V):=List.rec (motive:=fun _=>Option (Bool×V)) none (fun x _ ih=>Bool.rec ih (some x.2) (Nat.beq k x.1)) fr
theorem F0:∀(fr:Fr) (k:Nat),BE fr k=fr.get k
 |[],_=>rfl
 |(j,x)::fr,k=>by
  show(Bool.rec (BE fr k) (some x) (Nat.beq k j):Option (Bool×V))=if k=j then some x else Fr.get fr k
  by_cases h:k=j
  ·subst h;rw[if_pos rfl,Nat.beq_refl]
  ·rw[if_neg h,←F0 fr k];have:Nat.beq k j=false:=by
    cases hb:Nat.beq k j with
    |false=>rfl
    |true=>exact absurd (Nat.eq_of_beq_eq_true hb) h
   rw[this]
noncomputable def CO(fr:Fr)(x:Operand):Option V:=match x with
 |.tmp t=>match BE fr t with
  |some (true,v)=>some v
  |_=>none
 |.const v=>CX v
 |.func f=>some (.fn f [] [])
 |.global _=>none
theorem EM(x:Operand):CO fr x=EI true fr x:=by
 cases x with
 |tmp t=>
  simp only[CO,EI,rd,F0]
  cases fr.get t with
  |none=>rfl
  |some p=>
   obtain⟨c,v⟩:=p
   cases c<;>rfl
 |const v=>
  simp only[CO,EI,rd]
  cases CX v<;>rfl
 |func f=>rfl
 |global g=>rfl
theorem F1:CO fr=EI true fr:=funext fun x=>EM x
def AX(c:Nat)(σ σ':Nat→Nat):Prop:=∀i,i<c→σ i=σ' i
theorem AX.refl(c:Nat)(σ:Nat→Nat):AX c σ σ:=fun _ _=>rfl
theorem AX.trans{c c':Nat}{σ σ' σ'':Nat→Nat}(h:AX c σ σ')(h':AX c' σ' σ'')(hc:c≤c'):AX c σ σ'':=fun i hi=>(h i hi).trans (h' i (Nat.lt_of_lt_of_le hi hc))
theorem AX.mono{c c':Nat}(h:AX c' σ σ')(hc:c≤c'):AX c σ σ':=fun i hi=>h i (Nat.lt_of_lt_of_le hi hc)
theorem AX.upd(c γ:Nat)(σ:Nat→Nat):AX c σ (fun i=>if i=c then γ else σ i):=fun i hi=>by simp[Nat.ne_of_lt hi]
structure Bd(st:XS):Prop where
 f:∀σ σ' δ,AX st.c σ σ'→st.fr.ren σ δ=st.fr.ren σ' δ
 s:∀σ σ' pre,AX st.c σ σ'→st.s.emb σ pre=st.s.emb σ' pre
 lp:VX st.s
def WK(c:Nat)(v:V):Prop:=∀σ σ' δ,AX c σ σ'→v.ren σ δ=v.ren σ' δ
structure LM(st st':XS):Prop where
 c:st.c≤st'.c
 bd:Bd st'
 n:st'.s.up.length=st.s.up.length
def StepX(P:Program)(o:Oper)(st st':XS):Prop:=LM st st'∧∀(σ:Nat→Nat) (pre:List AA) (k:Fr→St→Prop),(∀σ',AX st.c σ σ'→k (st'.fr.ren σ' pre.length) (st'.s.emb σ' pre))→E5 P true o (st.fr.ren σ pre.length) (st.s.emb σ pre) k
theorem GA(d:Option Tmp)(c:Bool)(v:V):(putD fr d c v).ren σ δ=putD (fr.ren σ δ) d c (v.ren σ δ):=by cases d<;>rfl
theorem IA(d:Nat)(c:Bool)(v:V):(fr.put d c v).ren σ δ=(fr.ren σ δ).put d c (v.ren σ δ):=rfl
theorem WK.mono{c c':Nat}{v:V}(h:WK c v)(hc:c≤c'):WK c' v:=fun σ σ' δ ha=>h σ σ' δ (ha.mono hc)
theorem Bd.val{st:XS}(h:Bd st){o:Oper}{v:V}(hv:F9 P g o st.fr st.s=some v):WK st.c v:=by intro σ σ' δ ha;have h1:=JW (σ:=σ) (pre:=List.replicate δ []) hv;have h2:=JW (σ:=σ') (pre:=List.replicate δ []) hv;rw[h.f σ σ' _ ha,h.s σ σ' _ ha,h2]at h1;have:=Option.some.inj h1;rw[List.length_replicate]at this;exact this.symm
theorem Bd.rd{st:XS}(h:Bd st){x:Operand}{v:V}(hv:CO st.fr x=some v):WK st.c v:=by intro σ σ' δ ha;rw[EM]at hv;have h1:=D8 (g:=true) (fr:=st.fr) (σ:=σ) (δ:=δ) x;have h2:=D8 (g:=true) (fr:=st.fr) (σ:=σ') (δ:=δ) x;rw[h.f σ σ' _ ha,h2,hv]at h1;simpa using h1.symm
theorem Bd.putF{st:XS}(h:Bd st){d:Option Tmp}{c:Bool}{v:V}(hv:WK st.c v):Bd { st with fr:=putD st.fr d c v } :=
 ⟨fun σ σ' δ ha=>by simp only[GA];rw[h.f σ σ' δ ha,hv σ σ' δ ha],h.s,h.lp⟩
theorem Bd.mono{st:XS}(h:Bd st){c:Nat}(hc:st.c≤c):Bd { st with c:=c }:=⟨fun σ σ' δ ha=>h.f σ σ' δ (ha.mono hc),fun σ σ' pre ha=>h.s σ σ' pre (ha.mono hc),h.lp⟩
def gA:A6→Bool
 |.loop ..=>false
 |_=>true
theorem XI{r:A6}(h:gA r=true):∀fr ps asg body N st,r=.loop fr ps asg body N st→VW N ps asg body=true:=by intro fr ps asg body N st e;subst e;cases h
theorem Bd.putS{st:XS}(h:Bd st){l k γ:Nat}{r:A6}(hγ:γ<st.c)(hr:∀σ σ' δ,AX st.c σ σ'→r.ren σ δ=r.ren σ' δ)(hp:gA r=true:=by rfl):Bd { st with s:=st.s.put l k γ r } :=
 ⟨h.f,fun σ σ' pre ha=>by simp only[C4];rw[h.s σ σ' pre ha,hr σ σ' _ ha,ha γ hγ],h.lp.put (XI hp)⟩
theorem ADY{o:Oper}{st:XS}{v:V}(h:Bd st)(hv:F9 P true o st.fr st.s=some v):StepX P o st { st with fr:=putD st.fr o.dst true v }:=by refine⟨⟨Nat.le_refl _,h.putF (h.val hv),rfl⟩,fun σ pre k hk=>EA (Ω:=H4.nothing P) (.inl ⟨_,JW hv,?_⟩)⟩;have:=hk σ (AX.refl _ _);rwa [GA]at this
theorem dU{c:Nat}{v:V}(h:WK c v)(σ σ':Nat→Nat)(δ:Nat)(ha:AX c σ σ'):(BI v).map (V.ren σ δ)=(BI v).map (V.ren σ' δ):=by rw[←E8,←E8,h σ σ' δ ha]
def mB(P:Program)(Ω:H4 P)(o:Oper)(st st':XS):Prop:=LM st st'∧∃d,o.dst=some d∧∀(σ:Nat→Nat) (pre:List AA) (k:Fr→St→Prop),(∀σ',AX st.c σ σ'→k (st'.fr.ren σ' pre.length) (st'.s.emb σ' pre)) →
 ∃r,RZ P Ω o (st.fr.ren σ pre.length)=some r∧∀γ,k ((st.fr.ren σ pre.length).put d true (r.val (st.s.emb σ pre).up.length d γ)) ((st.s.emb σ pre).put (st.s.emb σ pre).up.length d γ r.res)
theorem mB.step{o:Oper}{st st':XS}(h:mB P Ω o st st'):StepX P o st st':=by obtain⟨h1,d,hd,h2⟩:=h;refine⟨h1,fun σ pre k hk=>?_⟩;obtain⟨r,hr,h3⟩:=h2 σ pre k hk;exact EA (Ω:=Ω) (.inr (.inr ⟨r,d,rfl,hd,hr,h3⟩))
theorem jJ{o:Oper}{st:XS}{d:Nat}{cs:List V}(h:Bd st)(hd:o.dst=some d)(hcs:∀σ σ' δ,AX st.c σ σ'→cs.map (V.ren σ δ)=cs.map (V.ren σ' δ))
  (hn:∀σ pre,RZ P Ω o (st.fr.ren σ (List.length (α:=AA) pre))=some ⟨.box (cs.map (V.ren σ pre.length)),none⟩) :
  mB P Ω o st ⟨st.c+1,st.fr.put d true (.ptr st.s.up.length d st.c 0),st.s.put st.s.up.length d st.c (.box cs)⟩:=by
 have hb:∀σ σ',AX (st.c+1) σ σ'→AX st.c σ σ':=fun σ σ' ha=>ha.mono (Nat.le_succ _)
 refine⟨⟨Nat.le_succ _,⟨fun σ σ' δ ha=>?_,fun σ σ' pre ha=>?_,h.lp.put (XI rfl)⟩,St.put_len _ _ _ _ _⟩,d,hd,fun σ pre k hk=>⟨_,hn σ pre,fun γ=>?_⟩⟩
 ·simp only[IA,H8];rw[h.f σ σ' δ (hb _ _ ha),ha st.c (Nat.lt_succ_self _)]
 ·simp only[C4,A6.ren];rw[h.s σ σ' pre (hb _ _ ha),hcs σ σ' _ (hb _ _ ha),ha st.c (Nat.lt_succ_self _)]
 ·have:=hk (fun i=>if i=st.c then γ else σ i) (AX.upd _ _ _);have ha:=AX.upd st.c γ σ;simp only[IA,H8,if_true,C4,A6.ren]at this;rw[←h.f _ _ _ ha,←h.s _ _ _ ha,←hcs _ _ _ ha]at this;rw[DV];exact this
noncomputable def QA(P:Program)(d:Option Tmp)(T:TypeId)(st:XS):Option XS:=match d,CG P T with
 |some d,some cs=>some ⟨st.c+1,(d,true,.ptr st.s.up.length d st.c 0)::st.fr,st.s.put st.s.up.length d st.c (.box cs)⟩
 |_,_=>none
noncomputable def rR(d:Option Tmp)(x:Operand)(st:XS):Option XS:=match d,CO st.fr x with
 |some d,some v=>Bool.rec none (some ⟨st.c+1,(d,true,.ptr st.s.up.length d st.c 0)::st.fr,st.s.put st.s.up.length d st.c (.box (BI v))⟩) (BJ v)
 |_,_=>none
theorem jK{o:Oper}{T:TypeId}{st st':XS}(h:Bd st)(ho:o.op=.alloc T)(hx:QA P o.dst T st=some st'):mB P Ω o st st':=by
 unfold QA at hx;split at hx
 ·rename_i d cs hd hz;cases hx;refine jJ h hd (fun σ σ' δ _=>by rw[HJ hz,HJ hz]) fun σ pre=>?_;simp[RZ,ho,hz,HJ hz]
 ·cases hx
theorem AAO{o:Oper}{T:TypeId}{x:Operand}{st st':XS}(h:Bd st)(ho:o.op=.box T x)(hx:rR o.dst x st=some st'):mB P Ω o st st':=by
 unfold rR at hx;split at hx
 ·rename_i d v hd hv;cases hf:BJ v with
  |false=>rw[hf]at hx;cases hx
  |true=>
   rw[hf]at hx
   cases hx
   refine jJ h hd (fun σ σ' δ ha=>dU (h.rd hv) σ σ' δ ha) fun σ pre=>?_
   rw[EM]at hv
   simp[RZ,ho,D8,hv,JC,hf,E8]
 ·cases hx
noncomputable def Y0(P:Program)(d:Option Tmp)(T:TypeId)(x y:Operand)(st:XS):Option XS:=match d,B0 P T with
 |some d,some (none,e)=>match CO st.fr x,CO st.fr y with
  |some (.int _ n),some (.int _ m)=>match CG P e with
   |some z=>if 0≤n∧m=n∧z.length=P.cellsOf e∧n.toNat*P.bytesOf e≤140737488355328∧n.toNat≤maxLen then
     some ⟨st.c+1,(d,true,.vec st.s.up.length d st.c n.toNat)::st.fr,st.s.put st.s.up.length d st.c (.vec e (List.replicate n.toNat z))⟩ else none
   |none=>none
  |_,_=>none
 |_,_=>none
theorem rS{o:Oper}{T:TypeId}{x y:Operand}{st st':XS}(h:Bd st)(ho:o.op=.makeSlice T x y)(hx:Y0 P o.dst T x y st=some st'):mB P Ω o st st':=by
 unfold Y0 at hx;split at hx
 ·rename_i d e hd hel;split at hx
  ·rename_i k1 n k2 m h1 h2;split at hx
   ·rename_i z hz;split at hx
    ·rename_i hc;cases hx;rw[EM]at h1 h2;have hr:∀σ δ,(List.replicate n.toNat z).map (List.map (V.ren σ δ))=List.replicate n.toNat z:=fun σ δ=>by rw[List.map_replicate,HJ hz]
     have hb:∀σ σ',AX (st.c+1) σ σ'→AX st.c σ σ':=fun σ σ' ha=>ha.mono (Nat.le_succ _);refine⟨⟨Nat.le_succ _,⟨fun σ σ' δ ha=>?_,fun σ σ' pre ha=>?_,h.lp.put (XI rfl)⟩,St.put_len _ _ _ _ _⟩,d,hd,fun σ pre k hk=>⟨⟨.vec e (List.replicate n.toNat z),none⟩,?_,fun γ=>?_⟩⟩
     ·show((st.fr.put d true _).ren σ δ)=((st.fr.put d true _).ren σ' δ);simp only[IA,H9];rw[h.f σ σ' δ (hb _ _ ha),ha st.c (Nat.lt_succ_self _)]
     ·simp only[C4,A6.ren,hr];rw[h.s σ σ' pre (hb _ _ ha),ha st.c (Nat.lt_succ_self _)]
     ·simp only[RZ,ho,D8,h1,h2,Option.map_some,E6,hel,hz];rw[if_pos hc]
     ·have:=hk (fun i=>if i=st.c then γ else σ i) (AX.upd _ _ _);have ha:=AX.upd st.c γ σ;change k ((st.fr.put d true _).ren _ _) _ at this;simp only[IA,H9,if_true,C4,A6.ren,hr]at this;rw[←h.f _ _ _ ha,←h.s _ _ _ ha]at this;simp only[Mk.val,H3,List.length_replicate];rw[DV];exact this
    ·cases hx
   ·cases hx
  ·cases hx
 ·cases hx
noncomputable def ADZ(d:Option Tmp)(r:Option Operand)(st:XS):Option XS:=match d,r with
 |some d,none=>some ⟨st.c+1,(d,true,.mp st.s.up.length d st.c)::st.fr,st.s.put st.s.up.length d st.c (.map [])⟩
 |_,_=>none
theorem AAP{o:Oper}{T:TypeId}{r:Option Operand}{st st':XS}(h:Bd st)(ho:o.op=.makeMap T r)(hx:ADZ o.dst r st=some st'):mB P Ω o st st':=by
 unfold ADZ at hx;split at hx
 ·rename_i d hd;cases hx;have hb:∀σ σ',AX (st.c+1) σ σ'→AX st.c σ σ':=fun σ σ' ha=>ha.mono (Nat.le_succ _);refine⟨⟨Nat.le_succ _,⟨fun σ σ' δ ha=>?_,fun σ σ' pre ha=>?_,h.lp.put (XI rfl)⟩,St.put_len _ _ _ _ _⟩,d,hd,fun σ pre k hk=>⟨⟨.map [],none⟩,?_,fun γ=>?_⟩⟩
  ·show((st.fr.put d true _).ren σ δ)=((st.fr.put d true _).ren σ' δ);simp only[IA,TB];rw[h.f σ σ' δ (hb _ _ ha),ha st.c (Nat.lt_succ_self _)]
  ·simp only[C4,A6.ren,List.map_nil];rw[h.s σ σ' pre (hb _ _ ha),ha st.c (Nat.lt_succ_self _)]
  ·simp only[RZ,ho]
  ·have:=hk (fun i=>if i=st.c then γ else σ i) (AX.upd _ _ _);have ha:=AX.upd st.c γ σ;change k ((st.fr.put d true _).ren _ _) _ at this;simp only[IA,TB,if_true,C4,A6.ren,List.map_nil]at this;rw[←h.f _ _ _ ha,←h.s _ _ _ ha]at this;simp only[Mk.val,H3];rw[DV];exact this
 ·cases hx
noncomputable def J4(P:Program)(d:Option Tmp)(T:TypeId)(x y:Operand)(st:XS):Option XS:=match d with
 |some _=>none
 |none=>match CO st.fr x,CO st.fr y with
  |some (.ptr l q γ off),some v=>match st.s.get l q with
   |some (γ',.box cs)=>if Nat.beq γ' γ&&BJ v&&Nat.blt 0 (P.cellsOf T)&&Nat.beq (BI v).length (P.cellsOf T)&&Nat.ble (off+P.cellsOf T) cs.length&&Nat.blt γ st.c then some { st with s:=st.s.put l q γ (.box (BC cs off (BI v))) } else none
   |_=>none
  |some (.eptr l q γ i off),some v=>match st.s.get l q with
   |some (γ',.vec U es)=>if Nat.beq γ' γ&&BJ v&&Nat.blt 0 (P.cellsOf T)&&Nat.beq (BI v).length (P.cellsOf T)&&Nat.blt i es.length&&Nat.ble (off+P.cellsOf T) (es.getD i []).length&&Nat.blt γ st.c then some { st with s:=st.s.put l q γ (.vec U (es.set i (BC (es.getD i []) off (BI v)))) } else none
   |_=>none
  |_,_=>none
theorem OB{st:XS}(h:Bd st){l q γ:Nat}{r:A6}(hg:st.s.get l q=some (γ,r))(σ σ':Nat→Nat)(δ:Nat)(ha:AX st.c σ σ'):r.ren σ δ=r.ren σ' δ:=by have h1:=CH (s:=st.s) (σ:=σ) (pre:=List.replicate δ []) l q;have h2:=CH (s:=st.s) (σ:=σ') (pre:=List.replicate δ []) l q;rw[h.s σ σ' _ ha,h2,hg]at h1;simp only[Option.map_some,List.length_replicate,Option.some.injEq,Prod.mk.injEq]at h1;exact h1.2.symm
theorem MD(es:List (List V))(i:Nat)(x:List V):(es.set i x).map (List.map (V.ren σ δ))=(es.map (List.map (V.ren σ δ))).set i (x.map (V.ren σ δ)):=by simp[List.map_set]
theorem jL{o:Oper}{T:TypeId}{x y:Operand}{st st':XS}(h:Bd st)(ho:o.op=.store T x y)(hx:J4 P o.dst T x y st=some st'):StepX P o st st':=by
 unfold J4 at hx;split at hx
 ·cases hx
 ·rename_i hd;split at hx
  ·rename_i l q γ off v h1 h2;split at hx
   ·rename_i γ' cs hg;split at hx
    ·rename_i hc;simp only[Bool.and_eq_true,Nat.blt_eq,Nat.ble_eq]at hc;obtain⟨⟨⟨⟨⟨c1,c2⟩,c3⟩,c4⟩,c5⟩,c6⟩:=hc;have c1:=Nat.eq_of_beq_eq_true c1;have c4:=Nat.eq_of_beq_eq_true c4;subst c1;cases hx;have hv:=h.rd h2;refine⟨⟨Nat.le_refl _,h.putS c6 fun σ σ' δ ha=>?_,St.put_len _ _ _ _ _⟩,fun σ pre k hk=>?_⟩
     ·have hr:=OB h hg σ σ' δ ha;simp only[A6.ren,A6.box.injEq]at hr⊢;rw[←DQ,←DQ,hr,dU hv σ σ' δ ha]
     ·have:=hk σ (AX.refl _ _);rw[EM]at h1 h2;unfold E5;simp only[ho,D8,h1,h2,Option.map_some,H8,CH,hg,A6.ren];refine⟨trivial,trivial,by rw[JC];exact c2,c3,by rw[E8];simpa using c4,by simpa using c5,hd,?_⟩;rw[E8,DQ];rw[C4]at this;exact this
    ·cases hx
   ·cases hx
  ·rename_i l q γ i off v h1 h2;split at hx
   ·rename_i γ' U es hg;split at hx
    ·rename_i hc;simp only[Bool.and_eq_true,Nat.blt_eq,Nat.ble_eq]at hc;obtain⟨⟨⟨⟨⟨⟨c1,c2⟩,c3⟩,c4⟩,c5⟩,c6⟩,c7⟩:=hc;have c1:=Nat.eq_of_beq_eq_true c1;have c4:=Nat.eq_of_beq_eq_true c4;subst c1;cases hx;have hv:=h.rd h2;refine⟨⟨Nat.le_refl _,h.putS c7 fun σ σ' δ ha=>?_,St.put_len _ _ _ _ _⟩,fun σ pre k hk=>?_⟩
     ·have hr:=OB h hg σ σ' δ ha;simp only[A6.ren,A6.vec.injEq,true_and]at hr⊢;rw[MD,MD,←DQ,←DQ,←FS,←FS,hr,dU hv σ σ' δ ha]
     ·have:=hk σ (AX.refl _ _);rw[EM]at h1 h2;unfold E5;simp only[ho,D8,h1,h2,Option.map_some,P6,CH,hg,A6.ren];refine⟨trivial,trivial,by rw[JC];exact c2,c3,by rw[E8];simpa using c4,by simpa using c5,by rw[FS];simpa using c6,hd,?_⟩;rw[FS,E8,DQ,←MD];rw[C4]at this;exact this
    ·cases hx
   ·cases hx
  ·cases hx
noncomputable def AD0(P:Program)(d:Option Tmp)(T:TypeId)(x i y:Operand)(st:XS):Option XS:=match d with
 |some _=>none
 |none=>match CO st.fr x,CO st.fr i,CO st.fr y with
  |some m,some i,some v=>match M3 P st.s T m i v with
   |some (l,q,γ,es)=>Bool.rec none (some { st with s:=st.s.put l q γ (.map es) }) (Nat.blt γ st.c)
   |none=>none
  |_,_,_=>none
theorem AO7{o:Oper}{T:TypeId}{x i y:Operand}{st st':XS}(h:Bd st)(ho:o.op=.mapUpdate T x i y)(hx:AD0 P o.dst T x i y st=some st'):StepX P o st st':=by
 unfold AD0 at hx;split at hx
 ·cases hx
 ·rename_i hd;split at hx
  ·rename_i m i' v h1 h2 h3;split at hx
   ·rename_i l q γ es hu;cases hb:Nat.blt γ st.c with
    |false=>rw[hb]at hx;cases hx
    |true=>
     rw[hb]at hx
     have hlt:γ<st.c:=by simpa using hb
     cases hx
     have hm:=h.rd h1
     have hi:=h.rd h2
     have hv:=h.rd h3
     refine⟨⟨Nat.le_refl _,h.putS hlt fun σ σ' δ ha=>?_,St.put_len _ _ _ _ _⟩,fun σ pre k hk=>?_⟩
     ·have q1:=XG (σ:=σ) (pre:=List.replicate δ []) hu;have q2:=XG (σ:=σ') (pre:=List.replicate δ []) hu;rw[h.s σ σ' _ ha,hm σ σ' _ ha,hi σ σ' _ ha,hv σ σ' _ ha,q2]at q1;simp only[Option.some.injEq,Prod.mk.injEq,List.length_replicate]at q1;simp only[A6.ren,q1.2.2.2]
     ·have:=hk σ (AX.refl _ _);rw[EM]at h1 h2 h3;unfold E5;simp only[ho,D8,h1,h2,h3,Option.map_some,XG hu];refine⟨trivial,hd,?_⟩;rw[C4]at this;exact this
   ·cases hx
  ·cases hx
noncomputable def mC(P:Program)(d:Option Tmp)(args:List Operand)(Ts:List TypeId)(st:XS):Option XS:=match args,Ts,d with
 |[x],[T],none=>match B0 P T,CO st.fr x with
  |some (none,e),some (.vtl l q γ i n)=>match st.s.get l q,CG P e with
   |some (γ',.vec U es),some z=>Bool.rec none (some { st with s:=st.s.put l q γ (.vec U (es.take i++List.replicate n z++es.drop (i+n))) }) (Nat.beq γ' γ&&Nat.beq U e&&Nat.ble (i+n) es.length&&es.all (fun y=>y.length==z.length)&&Nat.blt γ st.c)
   |_,_=>none
  |_,_=>none
 |_,_,_=>none
theorem AD1{o:Oper}{args:Array Operand}{Ts:Array TypeId}{st st':XS}(h:Bd st)(ho:o.op=.call { callee:=.builtin .clear,args:=args,argTypes:=Ts })(hx:mC P o.dst args.toList Ts.toList st=some st'):StepX P o st st':=by
 unfold mC at hx;split at hx
 ·rename_i x T ha hT hd;split at hx
  ·rename_i e l q γ i n hel h1;split at hx
   ·rename_i γ' U es z hg hz;cases hb:(Nat.beq γ' γ&&Nat.beq U e&&Nat.ble (i+n) es.length&&es.all (fun y=>y.length==z.length)&&Nat.blt γ st.c)with
    |false=>rw[hb]at hx;cases hx
    |true=>
     rw[hb]at hx
     cases hx
     simp only[Bool.and_eq_true,Nat.blt_eq,Nat.ble_eq]at hb
     obtain⟨⟨⟨⟨c1,c2⟩,c3⟩,c4⟩,c5⟩:=hb
     have c1:=Nat.eq_of_beq_eq_true c1
     have c2:=Nat.eq_of_beq_eq_true c2
     subst c1;subst c2
     have hz':∀σ δ,z.map (V.ren σ δ)=z:=fun σ δ=>HJ hz
     refine⟨⟨Nat.le_refl _,h.putS c5 fun σ σ' δ ha=>?_,St.put_len _ _ _ _ _⟩,fun σ pre k hk=>?_⟩
     ·have hr:=OB h hg σ σ' δ ha;simp only[A6.ren,A6.vec.injEq,true_and]at hr⊢;simp only[List.map_append,List.map_take,List.map_drop,List.map_replicate,hz',hr]
     ·have:=hk σ (AX.refl _ _);rw[EM]at h1;unfold E5;simp only[ho,ha,hT,hd,hel,D8,h1,Option.map_some,ZR,CH,hg,hz,A6.ren];refine⟨trivial,trivial,trivial,by simpa using c3,?_,?_⟩
      ·rw[List.all_map];exact c4▸(by congr 1;funext x;simp)
      ·rw[C4]at this;simp only[A6.ren,List.map_append,List.map_take,List.map_drop,List.map_replicate,hz']at this;exact this
   ·cases hx
  ·cases hx
 ·cases hx
theorem vX{o:Oper}{l q γ:Nat}{r:A6}(h:DT P o fr s=some (l,q,γ,r)):DT P o (fr.ren σ pre.length) (s.emb σ pre)=some (l+pre.length,q,σ γ,r.ren σ pre.length):=by
 unfold DT at h⊢;split at h
 ·rename_i T x y ho;simp only[D8];split at h
  ·rename_i l1 q1 γ1 off v e1 e2;simp only[e1,e2,Option.map_some,H8,CH];split at h
   ·rename_i γ2 cs e3;split at h
    ·rename_i hc;cases h;obtain⟨c1,c2,c3,c4,c5,c6⟩:=hc;subst c1;simp only[e3,Option.map_some,A6.ren,JC,E8,List.length_map];rw[if_pos ⟨trivial,c2,c3,c4,c5,c6⟩,DQ]
    ·cases h
   ·cases h
  ·rename_i l1 q1 γ1 i off v e1 e2;simp only[e1,e2,Option.map_some,P6,CH];split at h
   ·rename_i γ2 U es e3;split at h
    ·rename_i hc;cases h;obtain⟨c1,c2,c3,c4,c5,c6,c7⟩:=hc;subst c1;simp only[e3,Option.map_some,A6.ren,JC,E8,List.length_map,FS];rw[if_pos ⟨trivial,c2,c3,c4,c5,c6,c7⟩,DQ,←MD]
    ·cases h
   ·cases h
  ·cases h
 ·cases h
theorem AIR{o:Oper}{T:TypeId}{x y:Operand}{st st':XS}(ho:o.op=.store T x y)(hx:J4 P o.dst T x y st=some st'):∃l q γ r,DT P o st.fr st.s=some (l,q,γ,r)∧st'={ st with s:=st.s.put l q γ r }:=by
 unfold J4 at hx;unfold DT;simp only[ho];split at hx
 ·cases hx
 ·rename_i hd;split at hx
  ·rename_i l q γ off v h1 h2;split at hx
   ·rename_i γ' cs hg;split at hx
    ·rename_i hc;simp only[Bool.and_eq_true,Nat.blt_eq,Nat.ble_eq]at hc;obtain⟨⟨⟨⟨⟨c1,c2⟩,c3⟩,c4⟩,c5⟩,c6⟩:=hc;have c1:=Nat.eq_of_beq_eq_true c1;have c4:=Nat.eq_of_beq_eq_true c4;subst c1;cases hx;rw[EM]at h1 h2;refine⟨_,_,_,_,?_,rfl⟩;simp only[h1,h2,hg];rw[if_pos ⟨trivial,c2,c3,c4,c5,hd⟩]
    ·cases hx
   ·cases hx
  ·rename_i l q γ i off v h1 h2;split at hx
   ·rename_i γ' U es hg;split at hx
    ·rename_i hc;simp only[Bool.and_eq_true,Nat.blt_eq,Nat.ble_eq]at hc;obtain⟨⟨⟨⟨⟨⟨c1,c2⟩,c3⟩,c4⟩,c5⟩,c6⟩,c7⟩:=hc;have c1:=Nat.eq_of_beq_eq_true c1;have c4:=Nat.eq_of_beq_eq_true c4;subst c1;cases hx;rw[EM]at h1 h2;refine⟨_,_,_,_,?_,rfl⟩;simp only[h1,h2,hg];rw[if_pos ⟨trivial,c2,c3,c4,c5,c6,hd⟩]
    ·cases hx
   ·cases hx
  ·cases hx
def AA.hide(W:AN)(l:Nat)(L:AA):AA:=L.filter fun e=>!(W.contains (l,e.1))
theorem AA.get_hide(W:AN)(l:Nat):∀(L:AA) (k:Nat),(l,k)∉W→(L.hide W l).get k=L.get k
 |[],k,_=>rfl
 |(j,x)::L,k,hk=>by
  have ih:=AA.get_hide W l L k hk;unfold AA.hide at ih⊢;rw[List.filter_cons];split
  ·simp only[AA.get];split
   ·rfl
   ·exact ih
  ·rename_i hc;simp only[Bool.not_eq_true',Bool.not_eq_false,List.contains_iff_mem]at hc;rw[ih];simp only[AA.get];rw[if_neg (fun e=>hk (by rw[e];simpa using hc))]
theorem AA.get_hide'(W:AN)(l:Nat):∀(L:AA) (k:Nat),(l,k)∈W→(L.hide W l).get k=none
 |[],k,_=>rfl
 |(j,x)::L,k,hk=>by
  have ih:=AA.get_hide' W l L k hk;unfold AA.hide at ih⊢;rw[List.filter_cons];split
  ·rename_i hc;simp only[AA.get];rw[if_neg (fun e=>by subst e;simp[hk]at hc)];exact ih
  ·exact ih
def St.hide(W:AN)(s:St):St:=⟨s.up.mapIdx fun l L=>L.hide W l,s.loc.hide W s.up.length⟩
theorem St.get_hide{W:AN}{l k:Nat}(h:(l,k)∉W):(s.hide W).get l k=s.get l k:=by
 unfold St.get St.hide;simp only[List.length_mapIdx];split
 ·rename_i e;subst e;exact AA.get_hide W _ _ _ h
 ·rw[List.getElem?_mapIdx];cases s.up[l]? with
  |none=>rfl
  |some L=>exact AA.get_hide W _ _ _ h
theorem St.get_hide'{W:AN}{l k:Nat}(h:(l,k)∈W):(s.hide W).get l k=none:=by
 unfold St.get St.hide;simp only[List.length_mapIdx];split
 ·rename_i e;subst e;exact AA.get_hide' W _ _ _ h
 ·rw[List.getElem?_mapIdx];cases s.up[l]? with
  |none=>rfl
  |some L=>exact AA.get_hide' W _ _ _ h
theorem dV(W:AN):YW W (s.hide W) s:=fun l k x e=>by
 by_cases h:(l,k)∈W
 ·rw[St.get_hide' h]at e;cases e
 ·exact⟨h,by rw[←St.get_hide h];exact e⟩
def BD:Option V→AN
 |some (.ptr l k _ _)=>[(l,k)]
 |some (.eptr l k _ _ _)=>[(l,k)]
 |some (.vec l k _ _)=>[(l,k)]
 |some (.mp l k _)=>[(l,k)]
 |_=>[]
def BU(one:Bool)(x:Option V):AN:=match one,x with
 |true,some (.ptr l k _ off)=>[(l,k+GD),(l,k+EZ),(l,EK k off)]
 |true,some (.eptr l k _ _ off)=>[(l,k+GD),(l,k+EZ),(l,EK k off)]
 |_,x=>BD x
def B5(one:Bool)(x:Option V):AN:=match one,x with
 |true,some (.ptr l k _ off)=>[(l,k),(l,EK k off)]
 |true,some (.eptr l k _ _ off)=>[(l,k),(l,EK k off)]
 |false,some (.ptr l k _ _)=>[(l,k),(l,k+EZ)]
 |false,some (.eptr l k _ _ _)=>[(l,k),(l,k+EZ)]
 |_,_=>[]
def AIS:Option V→Bool
 |some (.ptr ..)=>true
 |some (.eptr ..)=>true
 |_=>false
def FK:Option V→AN
 |some (.vec l k _ _)=>[(l,k)]
 |some (.vtl l k _ _ _)=>[(l,k)]
 |some (.ptr l k _ _)=>[(l,k)]
 |_=>[]
def K4:Option V→AN
 |some (.vec l k _ _)=>[(l,k+GD)]
 |_=>[]
def rT(P:Program)(o:Oper)(r:Operand→Option V):Bool:=match o.op with
 |.load T x=>Nat.beq (P.cellsOf T) 1&&AIS (r x)
 |.indexAddr _ x _=>match r x with
  |some (.vec ..)=>true
  |_=>false
 |_=>false
def K5(r:Operand→Option V):List Operand→AN
 |[_,y]=>FK (r y)
 |_=>[]
def E1(P:Program)(o:Oper)(r:Operand→Option V):AN:=match o.op with
 |.load T x=>BU (Nat.beq (P.cellsOf T) 1) (r x)
 |.indexAddr _ x _=>K4 (r x)
 |.slice _ x ..=>FK (r x)
 |.lookup _ x ..=>BD (r x)
 |.call { callee:=.builtin .append,args,.. }=>K5 r args.toList
 |_=>[]
theorem mD{W:AN}{x:V}{es:List (List V)}(h:elemsOf s x=some es)(hr:∀p∈FK (some x),p∉W):elemsOf (s.hide W) x=some es:=by
 cases x with
 |vec l k g n=>
  have hn:(l,k)∉W:=hr _ (by simp[FK])
  simp only[elemsOf,St.get_hide hn]at h⊢
  exact h
 |vtl l k g i n=>
  have hn:(l,k)∉W:=hr _ (by simp[FK])
  simp only[elemsOf,St.get_hide hn]at h⊢
  exact h
 |list b es=>exact h
 |nil=>exact h
 |_=>cases h
theorem AIT{W:AN}{o:Oper}{r:Operand→Option V}{v:V}(h:JR P o s r=some v)(hi:rT P o r=false)(hr:∀p∈E1 P o r,p∉W):JR P o (s.hide W) r=some v:=by
 unfold JR at h⊢;split at h;case h_4 T x ho=>
  obtain⟨p,h1,h2⟩:=Option.bind_eq_some_iff.1 h
  obtain⟨cs,h3,h4⟩:=Option.bind_eq_some_iff.1 h2
  have:BH (s.hide W) p=some cs:=by
   cases p with
   |ptr l k g off=>
    have hb:Nat.beq (P.cellsOf T) 1=false:=by simpa [rT,ho,h1,AIS]using hi
    have hn:(l,k)∉W:=hr _ (by simp[E1,ho,h1,BU,hb,BD])
    simp only[BH,St.get_hide hn]at h3⊢;exact h3
   |eptr l k g i off=>
    have hb:Nat.beq (P.cellsOf T) 1=false:=by simpa [rT,ho,h1,AIS]using hi
    have hn:(l,k)∉W:=hr _ (by simp[E1,ho,h1,BU,hb,BD])
    simp only[BH,St.get_hide hn]at h3⊢;exact h3
   |_=>exact h3
  simp only[h1,Option.bind_some,this,h4]
 case h_10 T x i ho=>
  obtain⟨p,h1,h2⟩:=Option.bind_eq_some_iff.1 h
  obtain⟨q,h3,h4⟩:=Option.bind_eq_some_iff.1 h2
  have:B7 P (s.hide W) T p q=some v:=by
   unfold B7 at h4⊢;split at h4
   ·exact h4
   ·rename_i e l k g n k' j e1;simp[rT,ho,h1]at hi
   ·exact h4
   ·exact h4
   ·exact h4
   ·cases h4
  simp only[h1,h3,Option.bind_some,this]
 case h_16 T x lo hi mx ho=>
  obtain⟨p,h1,h2⟩:=Option.bind_eq_some_iff.1 h
  obtain⟨q,h3,h4⟩:=Option.bind_eq_some_iff.1 h2
  obtain⟨q',h5,h6⟩:=Option.bind_eq_some_iff.1 h4
  obtain⟨q2,h7,h8⟩:=Option.bind_eq_some_iff.1 h6
  have:CC P (s.hide W) T p q q' q2=some v:=by
   unfold CC at h8⊢;split at h8;case h_6 e l k g n k' i e1=>
    have hn:(l,k)∉W:=hr _ (by simp[E1,ho,h1,FK])
    simp only[St.get_hide hn];exact h8
   case h_7 n e l k g o e1=>
    have hn:(l,k)∉W:=hr _ (by simp[E1,ho,h1,FK])
    simp only[St.get_hide hn];exact h8
   all_goals exact h8
  simp only[h1,h3,h5,h7,Option.bind_some,this]
 case h_17 T x i ok ho=>
  obtain⟨p,h1,h2⟩:=Option.bind_eq_some_iff.1 h
  obtain⟨q,h3,h4⟩:=Option.bind_eq_some_iff.1 h2
  have:D9 P (s.hide W) T p q ok=some v:=by
   unfold D9 at h4⊢;split at h4
   ·rename_i K E l k g e1;have hn:(l,k)∉W:=hr _ (by simp[E1,ho,h1,BD]);simp only[St.get_hide hn];exact h4
   ·cases h4
  simp only[h1,h3,Option.bind_some,this]
 all_goals exact h
theorem AD2{W:AN}{o:Oper}{v:V}(h:F9 P g o fr s=some v)(hi:rT P o (EI g fr)=false)(hr:∀p∈E1 P o (EI g fr),p∉W):F9 P g o fr (s.hide W)=some v:=by
 unfold F9 at h⊢;split at h
 ·exact h
 ·exact h
 ·exact h
 ·exact AIT h hi hr
def gB(δ:Nat)(W:AN):AN:=W.map fun p=>(p.1+δ,p.2)
theorem OC{W:AN}{l k:Nat}:(l+δ,k)∈gB δ W↔(l,k)∈W:=by
 unfold gB;simp only[List.mem_map,Prod.mk.injEq,Prod.exists];constructor
 ·rintro ⟨a,b,h,h1,h2⟩;have:a=l:=by omega
  subst this;subst h2;exact h
 ·intro h;exact⟨l,k,h,rfl,rfl⟩
theorem Y1(x:Option V):BD (x.map (V.ren σ δ))=gB δ (BD x):=by
 cases x with
 |none=>rfl
 |some v=>cases v<;>simp[BD,gB]
theorem TF(x:Option V):FK (x.map (V.ren σ δ))=gB δ (FK x):=by
 cases x with
 |none=>rfl
 |some v=>cases v<;>simp[FK,gB]
theorem vY(x:Option V):K4 (x.map (V.ren σ δ))=gB δ (K4 x):=by
 cases x with
 |none=>rfl
 |some v=>cases v<;>simp[K4,gB]
theorem vZ(b:Bool)(x:Option V):BU b (x.map (V.ren σ δ))=gB δ (BU b x):=by
 cases b with
 |false=>exact Y1 x
 |true=>
  cases x with
  |none=>rfl
  |some v=>cases v<;>simp[BU,BD,gB]
theorem AXX{W:AN}{o:Oper}{v:V}(h:F9 P g o fr s=some v)(hi:rT P o (EI g fr)=true)(hr:∀p∈E1 P o (EI g fr),p∉W):gT P W g o fr s v:=by
 unfold rT at hi;split at hi
 ·rename_i T x ho;rw[Bool.and_eq_true]at hi;have h1:=Nat.eq_of_beq_eq_true hi.1;unfold F9 at h;simp only[ho,JR]at h;obtain⟨p,hx,h⟩:=Option.bind_eq_some_iff.1 h;obtain⟨cs,hcs,hv⟩:=Option.bind_eq_some_iff.1 h;have hp:=hi.2;rw[hx]at hp;cases p with
  |ptr l k γ off=>
   have hr':∀p∈[(l,k+GD),(l,k+EZ),(l,EK k off)],p∉W:=fun p hp=>hr p (by simp only[E1,ho,hx,hi.1,BU];exact hp)
   refine .inr ⟨T,x,_,cs,l,k,off,ho,hx,rfl,hcs,hv,by omega,hr' _ (by simp),hr' _ (by simp),fun c hc=>?_⟩
   obtain rfl:c=0:=by omega
   exact hr' _ (by simp)
  |eptr l k γ i off=>
   have hr':∀p∈[(l,k+GD),(l,k+EZ),(l,EK k off)],p∉W:=fun p hp=>hr p (by simp only[E1,ho,hx,hi.1,BU];exact hp)
   refine .inr ⟨T,x,_,cs,l,k,off,ho,hx,rfl,hcs,hv,by omega,hr' _ (by simp),hr' _ (by simp),fun c hc=>?_⟩
   obtain rfl:c=0:=by omega
   exact hr' _ (by simp)
  |_=>cases hp
 ·rename_i T x i ho;split at hi
  ·rename_i l k γ n hx;unfold F9 at h;simp only[ho,JR,hx,Option.bind_some]at h;obtain⟨iv,hiv,h⟩:=Option.bind_eq_some_iff.1 h;unfold B7 at h;split at h
   ·rename_i e1 e2;cases e2
   ·rename_i e l' k' γ' n' ki j e1 e2;cases e2;split at h
    ·rename_i γ2 T' es hget;split at h
     ·rename_i hc;obtain⟨rfl,hc⟩:=hc;exact .inl ⟨T,x,i,e,_,_,_,_,ki,j,T',es,ho,hx,hiv,e1,hr _ (by simp[E1,ho,hx,K4]),hget,hc,(Option.some.inj h).symm⟩
     ·cases h
    ·cases h
   ·rename_i e1 e2;cases e2
   ·rename_i e1 e2;cases e2
   ·rename_i e1 e2;cases e2
   ·cases h
  ·cases hi
 ·cases hi
theorem wA{r:Operand→Option V}(l:List Operand):K5 (fun x=>(r x).map (V.ren σ δ)) l=gB δ (K5 r l):=by
 unfold K5;split
 ·exact TF _
 ·rfl
theorem wB{o:Oper}{r:Operand→Option V}:E1 P o (fun x=>(r x).map (V.ren σ δ))=gB δ (E1 P o r):=by
 unfold E1;split
 ·exact vZ _ _
 ·exact vY _
 ·exact TF _
 ·exact Y1 _
 ·exact wA _
 ·rfl
theorem rU{W rd:AN}(h:∀p∈rd,p∉W):∀p∈gB δ rd,p∉gB δ W:=by intro p hp;unfold gB at hp;obtain⟨⟨l,k⟩,hq,rfl⟩:=List.mem_map.1 hp;exact fun hc=>h _ hq (OC.1 hc)
end Go.Pg
namespace Go.Pg
variable {P:Program}{σ σ':Nat→Nat}{δ:Nat}{pre:List AA}{s:St}{fr:Fr}{g:Bool}
noncomputable def rdC(fr:Fr)(x:Operand):Option (Bool×V):=match x with
 |.tmp t=>BE fr t
 |.const v=>match CX v with
  |some x=>some (true,x)
  |none=>none
 |.func f=>some (true,.fn f [] [])
 |.global _=>none
theorem AXY(x:Operand):rdC fr x=rd fr x:=by
 cases x with
 |tmp t=>exact F0 fr t
 |const v=>simp only[rdC,rd];cases CX v<;>rfl
 |func f=>rfl
 |global g=>rfl
noncomputable def rV(fr:Fr)(c a b:Operand):Option V:=match CO fr c,rdC fr a,rdC fr b with
 |some (.bool c),some (ca,.bool a),some (cb,.bool b)=>Bool.rec (Bool.rec none (some (.bool b)) cb) (Bool.rec none (some (.bool a)) ca) c
 |_,_,_=>none
noncomputable def ME(P:Program)(fr:Fr)(s:St)(T:TypeId)(x:Operand):Option V:=match CO fr x with
 |some p=>match BH s p with
  |some cs=>BS P T cs
  |none=>none
 |none=>none
noncomputable def xFA(P:Program)(fr:Fr)(T:TypeId)(x:Operand)(f:Nat):Option V:=match CO fr x with
 |some p=>DP P T p f
 |none=>none
noncomputable def wC(P:Program)(fr:Fr)(op:BinOp)(T:TypeId)(x y:Operand):Option V:=match CO fr x,CO fr y with
 |some a,some b=>H0 P op T a b
 |_,_=>none
noncomputable def TG(P:Program)(fr:Fr)(T:TypeId)(ps:List (Nat×Operand)):Option V:=match DN (CO fr) ps with
 |some l=>CZ P T l
 |none=>none
noncomputable def OD(P:Program)(fr:Fr)(T:TypeId)(n:Nat)(ps:List (Nat×Operand)):Option V:=match DN (CO fr) ps with
 |some l=>CK P T n l
 |none=>none
noncomputable def AO8(P:Program)(o:Oper)(fr:Fr)(s:St):Option V:=match o.op with
 |.move x=>CO fr x
 |.assign x=>CO fr x
 |.load T x=>ME P fr s T x
 |.fieldAddr T x f=>xFA P fr T x f
 |.binOp op T x y _=>wC P fr op T x y
 |.pick c a b=>rV fr c a b
 |.build T ps=>TG P fr T ps.toList
 |.buildSlice T n ps=>OD P fr T n ps.toList
 |_=>JR P o s (CO fr)
theorem Q7{o:Oper}{v:V}(h:AO8 P o fr s=some v):F9 P true o fr s=some v:=by
 unfold AO8 at h;unfold F9;split at h<;>rename_i ho
 ·simp only[ho,JR,←F1];exact h
 ·simp only[ho,JR,←F1];exact h
 ·unfold ME at h;split at h
  ·rename_i p e1;split at h
   ·rename_i cs e2;simp only[ho,JR,←F1,e1,e2,Option.bind_some];exact h
   ·cases h
  ·cases h
 ·unfold xFA at h;split at h
  ·rename_i p e1;simp only[ho,JR,←F1,e1,Option.bind_some];exact h
  ·cases h
 ·unfold wC at h;split at h
  ·rename_i a b e1 e2;simp only[ho,JR,←F1,e1,e2,Option.bind_some];exact h
  ·cases h
 ·unfold rV at h;simp only[AXY]at h;split at h
  ·rename_i c ca a cb b e1 e2 e3;rw[EM]at e1;simp only[ho,e1,e2,e3];cases c with
   |true=>
    cases ca with
    |false=>cases h
    |true=>cases h;simp
   |false=>
    cases cb with
    |false=>cases h
    |true=>cases h;simp
  ·cases h
 ·unfold TG at h;split at h
  ·rename_i l e1;simp only[ho,←F1,e1,Option.bind_some];exact h
  ·cases h
 ·unfold OD at h;split at h
  ·rename_i l e1;simp only[ho,←F1,e1,Option.bind_some];exact h
  ·cases h
 ·rw[F1]at h;split
  ·rename_i ho';rw[JR,ho']at h;cases h
  ·rename_i ho';rw[JR,ho']at h;cases h
  ·rename_i ho';rw[JR,ho']at h;cases h
  ·exact h
theorem KN{α:Type}{b:Bool}{x y:α}(h:(Bool.rec none (some x) b:Option α)=some y):b=true∧x=y:=by
 cases b with
 |false=>cases h
 |true=>exact⟨rfl,Option.some.inj h⟩
theorem E7{α:Type}{b:Bool}{x:Option α}{y:α}(h:(Bool.rec none x b:Option α)=some y):b=true∧x=some y:=by
 cases b with
 |false=>cases h
 |true=>exact⟨rfl,h⟩
theorem VY{st:XS}(h:Bd st){v:V}{ys:List (List V)}(hv:WK st.c v)(he:elemsOf st.s v=some ys)(σ σ':Nat→Nat)(δ:Nat)(ha:AX st.c σ σ'):ys.map (List.map (V.ren σ δ))=ys.map (List.map (V.ren σ' δ)):=by have h1:=HK (σ:=σ) (pre:=List.replicate δ []) he;have h2:=HK (σ:=σ') (pre:=List.replicate δ []) he;rw[h.s σ σ' _ ha,hv σ σ' _ ha,h2]at h1;have:=Option.some.inj h1;rw[List.length_replicate]at this;exact this.symm
theorem GB(ys:List (List V))(m:Nat):(ys.map (List.map (V.ren σ δ))).all (fun y=>y.length==m)=ys.all (fun y=>y.length==m):=by rw[List.all_map];congr 1;funext y;simp
noncomputable def rW(P:Program)(d:Tmp)(e:TypeId)(ys:List (List V))(st:XS)(xv:V):Option (XS×Nat×Nat):=match xv with
 |.vec l q γ n=>match S6 n ys (st.s.get l q)with
  |some (γ',.vec W es)=>Bool.rec none (some (⟨st.c+1,(d,true,.vec l q st.c (es++ys).length)::st.fr,st.s.put l q st.c (.vec e (es++ys))⟩,l,q))
    (Nat.beq γ' γ&&Nat.beq W e&&Nat.beq n es.length&&es.all (fun y=>y.length==P.cellsOf e)&&B9 P e es.length ys)
  |_=>none
 |_=>none
noncomputable def xAppG(el:St→V→Option (List (List V)))(P:Program)(d:Option Tmp)(args:List Operand)(Ts:List TypeId)(st:XS):Option (XS×Nat×Nat):=match args,Ts,d with
 | [x,y],[T,U],some d=>Bool.rec none (match B0 P T with
  |some (none,e)=>match CO st.fr x,CO st.fr y with
   |some xv,some yv=>match el st.s yv with
    |some ys=>match JA xv ys with
     |some es=>Bool.rec none (some (⟨st.c+1,(d,true,.vec st.s.up.length d st.c (es++ys).length)::st.fr,st.s.put st.s.up.length d st.c (.vec e (es++ys))⟩,st.s.up.length,d)) (es.all (fun y=>y.length==P.cellsOf e)&&B9 P e es.length ys)
     |none=>rW P d e ys st xv
    |none=>none
   |_,_=>none
  | _=>none) (Nat.beq T U)
 |_,_,_=>none
theorem AIU(v:V):ZA (v.ren σ δ)=ZA v:=by
 cases v with
 |list f es=>cases f<;>cases es<;>simp[ZA]
 |_=>simp[ZA]
theorem rX(v:V)(ys:List (List V)):JA (v.ren σ δ) (ys.map (List.map (V.ren σ δ)))=(JA v ys).map (List.map (List.map (V.ren σ δ))):=by
 cases v with
 |list f es=>cases f<;>cases es<;>cases ys<;>simp[JA]
 |_=>simp[JA]
theorem wD{v:V}{es ys:List (List V)}(h:JA v ys=some es):elemsOf s v=some es:=by unfold JA at h;split at h<;>cases h<;>rfl
theorem jM{e:TypeId}{n:Nat}(ys:List (List V)):B9 P e n (ys.map (List.map (V.ren σ δ)))=B9 P e n ys:=by unfold B9;rw[GB,List.length_map]
theorem AIV{n:Nat}(ys es:List (List V)):cL n (ys.map (List.map (V.ren σ δ))) (es.map (List.map (V.ren σ δ)))=(cL n ys es).map (List.map (V.ren σ δ)):=by
 cases ys with
 |nil=>rfl
 |cons y ys=>
  show(if _ then _ else _)=(if _ then _ else _:List (List V)).map _
  have e:(es.map (List.map (V.ren σ δ))).all (fun x=>x.length==(y.map (V.ren σ δ)).length)=es.all (fun x=>x.length==y.length):=by rw[List.all_map,List.length_map];congr 1;funext x;simp
  rw[e]
  split
  ·rw[List.map_take]
  ·rfl
theorem rY{n γ:Nat}{ys es:List (List V)}{U:TypeId}{o:Option (Nat×A6)}(h:S6 n ys o=some (γ,.vec U es)):S6 n (ys.map (List.map (V.ren σ δ))) (o.map fun p=>(σ p.1,p.2.ren σ δ))=some (σ γ,.vec U (es.map (List.map (V.ren σ δ)))):=by obtain⟨es0,rfl,rfl⟩:=Q0 h;show some (σ γ,A6.vec U (cL n _ _))=_;rw[AIV]
theorem dW{el:St→V→Option (List (List V))}(hel0:∀s v es,el s v=some es→elemsOf s v=some es){o:Oper}{args:Array Operand}{Ts:Array TypeId}{st st':XS}{l q:Nat}(h:Bd st)(ho:o.op=.call { callee:=.builtin .append,args:=args,argTypes:=Ts })
  (hx:xAppG el P o.dst args.toList Ts.toList st=some (st',l,q)):∃d r,o.dst=some d∧gA r=true∧st'=⟨st.c+1,(d,true,H3 r l q st.c)::st.fr,st.s.put l q st.c r⟩∧(∀σ σ' δ,AX st.c σ σ'→r.ren σ δ=r.ren σ' δ) ∧
   (∀(σ:Nat→Nat) (pre:List AA) (k:Fr→St→Prop),(∀γ,k ((st.fr.ren σ pre.length).put d true (H3 (r.ren σ pre.length) (l+pre.length) q γ)) ((st.s.emb σ pre).put (l+pre.length) q γ (r.ren σ pre.length)))→E5 P true o (st.fr.ren σ pre.length) (st.s.emb σ pre) k) ∧
   (∀(W:AN) (σ:Nat→Nat) (pre:List AA),(∀p∈K5 (CO st.fr) args.toList,p∉W)→ZC P o (st.fr.ren σ pre.length) ((st.s.emb σ pre).hide (gB pre.length W)) (st.s.emb σ pre)=some (l+pre.length,q,r.ren σ pre.length)):=by
 unfold xAppG at hx
 split at hx
 ·rename_i x y T U d ha hT hd;obtain⟨hTU,hx2⟩:=E7 hx;clear hx;have hTU:=Nat.eq_of_beq_eq_true hTU;subst hTU;have hx:=hx2;clear hx2;split at hx
  ·rename_i e hel;split at hx
   ·rename_i xv yv h1 h2;split at hx
    ·rename_i ys hys0;have hys:=hel0 _ _ _ hys0;have hyb:=VY h (h.rd h2) hys;have r1:=h1;have r2:=h2;rw[EM]at r1 r2;have hys2:∀(W:AN) (σ:Nat→Nat) (pre:List AA),(∀p∈K5 (CO st.fr) args.toList,p∉W)→elemsOf ((st.s.emb σ pre).hide (gB pre.length W)) (yv.ren σ pre.length)=some (ys.map (List.map (V.ren σ pre.length))):=fun W σ pre hW=>by refine mD (HK hys) ?_;rw[ha]at hW;simp only[K5,h2]at hW;have:=rU (δ:=pre.length) hW;rw[←TF (σ:=σ)]at this;exact this
     cases hn:JA xv ys with
     |some es=>
      rw[hn]at hx
      obtain⟨hc,he⟩:=KN hx
      simp only[Prod.mk.injEq]at he
      obtain⟨rfl,rfl,rfl⟩:=he
      simp only[Bool.and_eq_true]at hc
      obtain⟨hce,hc⟩:=hc
      have heb:=VY h (h.rd h1) (wD hn)
      refine⟨d,.vec e (es++ys),hd,rfl,rfl,fun σ σ' δ hag=>by simp only[A6.ren,List.map_append,hyb σ σ' δ hag,heb σ σ' δ hag],fun σ pre k hk=>?_,fun W σ pre hW=>?_⟩
      ·have hc':=hc;simp only[B9,Bool.and_eq_true,Nat.blt_eq,Nat.ble_eq]at hc;obtain⟨⟨⟨⟨c1,c2⟩,c3⟩,c4⟩,c5⟩:=hc;unfold E5;simp only[ho,ha,hT,hd,hel,D8,r1,r2,Option.map_some,Option.bind_some,HK hys,rX,hn,true_and];refine⟨c1,c2,by rw[GB];exact hce,by rw[GB];exact c3,by simpa using c4,by simpa using c5,fun γ=>?_⟩;have:=hk γ;simp only[H3,A6.ren]at this;rw[DV,←List.map_append];exact this
      ·unfold ZC;simp only[ho,ha,hT,hd,hel,D8,r1,r2,Option.map_some,Option.bind_some,hys2 _ _ _ hW,rX,hn,if_true,DV,A6.ren];rw[if_pos ⟨by rw[GB];exact hce,by rw[jM,List.length_map];exact hc⟩,List.map_append]
     |none=>
      rw[hn]at hx
      replace hx:rW P d e ys st xv=some (st',l,q):=hx
      unfold rW at hx
      split at hx
      ·rename_i l0 q0 γ0 n';split at hx
       ·rename_i γ' W es hg;obtain⟨hc,he⟩:=KN hx;simp only[Prod.mk.injEq]at he;obtain⟨rfl,rfl,rfl⟩:=he;simp only[Bool.and_eq_true]at hc;obtain⟨⟨⟨⟨c1,c2⟩,c3⟩,c6⟩,c7⟩:=hc;have c1:=Nat.eq_of_beq_eq_true c1;have c2:=Nat.eq_of_beq_eq_true c2;have c3:=Nat.eq_of_beq_eq_true c3;subst c1;subst c2;subst c3;have heb:∀σ σ' δ,AX st.c σ σ'→es.map (List.map (V.ren σ δ))=es.map (List.map (V.ren σ' δ)):=fun σ σ' δ ha=>by
         obtain⟨es0,hg0,e0⟩:=Q0 hg;have:=OB h hg0 σ σ' δ ha;have e1:es0.map (List.map (V.ren σ δ))=es0.map (List.map (V.ren σ' δ)):=by simpa [A6.ren]using this
         rcases W2 es.length ys es0 with e2|⟨e2,_⟩
         ·rw[e0,e2,e1]
         ·rw[e0,e2,List.map_take,List.map_take,e1]
        refine⟨d,.vec W (es++ys),hd,rfl,rfl,fun σ σ' δ hag=>by simp only[A6.ren,List.map_append,hyb σ σ' δ hag,heb σ σ' δ hag],fun σ pre k hk=>?_,fun W σ pre hW=>?_⟩
        ·simp only[B9,Bool.and_eq_true,Nat.blt_eq,Nat.ble_eq]at c7;obtain⟨⟨⟨⟨d1,d2⟩,d3⟩,d4⟩,d5⟩:=c7;have hnn:JA (V.vec (l0+pre.length) q0 (σ γ') es.length) (ys.map (List.map (V.ren σ pre.length)))=none:=rfl;unfold E5;simp only[ho,ha,hT,hd,hel,D8,r1,r2,Option.map_some,Option.bind_some,HK hys,H9,CH,rY hg,true_and,hnn];refine⟨by simp,d1,d2,by rw[GB];exact c6,by rw[GB];exact d3,by simpa using d4,by simpa using d5,fun γ=>?_⟩;have:=hk γ;simp only[H3,A6.ren,List.map_append,List.length_append,List.length_map]at this⊢;exact this
        ·have hnn:JA (V.vec (l0+pre.length) q0 (σ γ') es.length) (ys.map (List.map (V.ren σ pre.length)))=none:=rfl;unfold ZC;simp only[ho,ha,hT,hd,hel,D8,r1,r2,Option.map_some,Option.bind_some,hys2 _ _ _ hW,H9,CH,rY hg,hnn,if_true];rw[if_pos ⟨trivial,trivial,by simp,by rw[GB];exact c6,by rw[jM,List.length_map];exact c7⟩];simp only[A6.ren,List.map_append]
       ·cases hx
      ·cases hx
    ·cases hx
   ·cases hx
  ·cases hx
 ·cases hx
theorem dX{st:XS}(h:Bd st){d l q:Nat}{r:A6}(hp:gA r=true)(hr:∀σ σ' δ,AX st.c σ σ'→r.ren σ δ=r.ren σ' δ):LM st ⟨st.c+1,(d,true,H3 r l q st.c)::st.fr,st.s.put l q st.c r⟩:=by
 have hb:∀σ σ',AX (st.c+1) σ σ'→AX st.c σ σ':=fun σ σ' ha=>ha.mono (Nat.le_succ _);refine⟨Nat.le_succ _,⟨fun σ σ' δ ha=>?_,fun σ σ' pre ha=>?_,h.lp.put (XI hp)⟩,St.put_len _ _ _ _ _⟩
 ·show((st.fr.put d true (H3 r l q st.c)).ren σ δ)=((st.fr.put d true (H3 r l q st.c)).ren σ' δ);have e:∀σ:Nat→Nat,(H3 r l q st.c).ren σ δ=H3 (r.ren σ δ) (l+δ) q (σ st.c):=fun σ=>by cases r<;>simp[H3,A6.ren]
  simp only[IA,e];rw[h.f σ σ' δ (hb _ _ ha),ha st.c (Nat.lt_succ_self _),hr σ σ' δ (hb _ _ ha)]
 ·simp only[C4];rw[h.s σ σ' pre (hb _ _ ha),hr σ σ' _ (hb _ _ ha),ha st.c (Nat.lt_succ_self _)]
theorem rZ(r:A6)(l q γ:Nat):(H3 r l q γ).ren σ δ=H3 (r.ren σ δ) (l+δ) q (σ γ):=by cases r<;>simp[H3,A6.ren]
theorem wE{st:XS}(h:Bd st){d l q:Nat}{r:A6}(hr:∀σ σ' δ,AX st.c σ σ'→r.ren σ δ=r.ren σ' δ){σ:Nat→Nat}{pre:List AA}{k:Fr→St→Prop}
  (hk:∀σ',AX st.c σ σ'→k (Fr.ren σ' pre.length ((d,true,H3 r l q st.c)::st.fr)) ((st.s.put l q st.c r).emb σ' pre)) (γ:Nat):k ((st.fr.ren σ pre.length).put d true (H3 (r.ren σ pre.length) (l+pre.length) q γ)) ((st.s.emb σ pre).put (l+pre.length) q γ (r.ren σ pre.length)):=by
 have:=hk (fun i=>if i=st.c then γ else σ i) (AX.upd _ _ _)
 have hag:=AX.upd st.c γ σ
 change k ((st.fr.put d true _).ren _ _) _ at this
 simp only[IA,rZ,if_true,C4]at this
 rw[←h.f _ _ _ hag,←h.s _ _ _ hag,←hr _ _ _ hag]at this
 exact this
theorem AAQ(r:Mk)(l k γ:Nat):(r.val l k γ).ren σ δ=Mk.val ⟨r.res.ren σ δ,r.t⟩ (l+δ) k (σ γ):=by
 obtain⟨r,t⟩:=r;cases t with
 |none=>exact rZ _ _ _ _
 |some t=>exact N7 t
theorem AD3{st:XS}(h:Bd st){d l q:Nat}{r:Mk}(hp:gA r.res=true)(hr:∀σ σ' δ,AX st.c σ σ'→r.res.ren σ δ=r.res.ren σ' δ):LM st ⟨st.c+1,(d,true,r.val l q st.c)::st.fr,st.s.put l q st.c r.res⟩:=by
 have hb:∀σ σ',AX (st.c+1) σ σ'→AX st.c σ σ':=fun σ σ' ha=>ha.mono (Nat.le_succ _);refine⟨Nat.le_succ _,⟨fun σ σ' δ ha=>?_,fun σ σ' pre ha=>?_,h.lp.put (XI hp)⟩,St.put_len _ _ _ _ _⟩
 ·show((st.fr.put d true (r.val l q st.c)).ren σ δ)=((st.fr.put d true (r.val l q st.c)).ren σ' δ);simp only[IA,AAQ];rw[h.f σ σ' δ (hb _ _ ha),ha st.c (Nat.lt_succ_self _),hr σ σ' δ (hb _ _ ha)]
 ·simp only[C4];rw[h.s σ σ' pre (hb _ _ ha),hr σ σ' _ (hb _ _ ha),ha st.c (Nat.lt_succ_self _)]
theorem AO9{st:XS}(h:Bd st){d l q:Nat}{r:Mk}(hr:∀σ δ,r.res.ren σ δ=r.res){σ:Nat→Nat}{pre:List AA}{k:Fr→St→Prop}
  (hk:∀σ',AX st.c σ σ'→k (Fr.ren σ' pre.length ((d,true,r.val l q st.c)::st.fr)) ((st.s.put l q st.c r.res).emb σ' pre)) (γ:Nat):k ((st.fr.ren σ pre.length).put d true (r.val (l+pre.length) q γ)) ((st.s.emb σ pre).put (l+pre.length) q γ r.res):=by
 have:=hk (fun i=>if i=st.c then γ else σ i) (AX.upd _ _ _)
 have hag:=AX.upd st.c γ σ
 change k ((st.fr.put d true _).ren _ _) _ at this
 simp only[IA,AAQ,if_true,C4,hr]at this
 rw[←h.f _ _ _ hag,←h.s _ _ _ hag]at this
 exact this
noncomputable def xAppend(P:Program)(d:Option Tmp)(args:List Operand)(Ts:List TypeId)(st:XS):Option XS:=match xAppG elemsOf P d args Ts st with
 |some (st',_,_)=>some st'
 |none=>none
theorem wF{o:Oper}{args:Array Operand}{Ts:Array TypeId}{st st':XS}(h:Bd st)(ho:o.op=.call { callee:=.builtin .append,args:=args,argTypes:=Ts })(hx:xAppend P o.dst args.toList Ts.toList st=some st'):StepX P o st st':=by
 unfold xAppend at hx;split at hx
 ·rename_i st1 l q e1;cases hx;obtain⟨d,r,hd,hp,rfl,hr,hs,_⟩:=dW (fun _ _ _ h=>h) h ho e1;exact⟨dX h hp hr,fun σ pre k hk=>hs σ pre k fun γ=>wE h hr hk γ⟩
 ·cases hx
noncomputable def AAR(P:Program)(d:Option Tmp)(args:List Operand)(Ts:List TypeId)(st:XS):Option XS:=match args,Ts with
 |[x,y],[T,_]=>match B0 P T,CO st.fr x,CO st.fr y with
  |some (none,e),some (.vtl l q γ i n),some yv=>match st.s.get l q,elemsOf st.s yv with
   |some (γ',.box cs),some ys=>Bool.rec none (some { st with fr:=putD st.fr d true (.int .i64 ((min ys.length n:Nat):Int)),s:=st.s.put l q γ (.box (BC cs i (ys.take n).flatten)) }) (Nat.beq γ' γ&&Nat.beq (P.cellsOf e) 1&&ys.all (fun y=>y.length==1)&&Nat.ble (i+n) cs.length&&Nat.blt γ st.c)
   |_,_=>none
  |_,_,_=>none
 |_,_=>none
theorem AIW{o:Oper}{args:Array Operand}{Ts:Array TypeId}{st st':XS}(h:Bd st)(ho:o.op=.call { callee:=.builtin .copy,args:=args,argTypes:=Ts })(hx:AAR P o.dst args.toList Ts.toList st=some st'):StepX P o st st':=by
 unfold AAR at hx;split at hx
 ·rename_i x y T U ha hT;split at hx
  ·rename_i e l q γ i n yv hel h1 h2;split at hx
   ·rename_i γ' cs ys hg hys;cases hb:(Nat.beq γ' γ&&Nat.beq (P.cellsOf e) 1&&ys.all (fun y=>y.length==1)&&Nat.ble (i+n) cs.length&&Nat.blt γ st.c)with
    |false=>rw[hb]at hx;cases hx
    |true=>
     rw[hb]at hx
     cases hx
     simp only[Bool.and_eq_true,Nat.blt_eq,Nat.ble_eq]at hb
     obtain⟨⟨⟨⟨c1,c2⟩,c3⟩,c4⟩,c5⟩:=hb
     have c1:=Nat.eq_of_beq_eq_true c1
     have c2:=Nat.eq_of_beq_eq_true c2
     subst c1
     have hB:Bd { st with s:=st.s.put l q γ' (.box (BC cs i (ys.take n).flatten)) }:=h.putS c5 fun σ σ' δ ha=>by have hr:=OB h hg σ σ' δ ha;have he:=VY h (h.rd h2) hys σ σ' δ ha;simp only[A6.ren,A6.box.injEq]at hr⊢;rw[←DQ,←DQ,hr,List.map_flatten,List.map_flatten,List.map_take,List.map_take,he]
     refine⟨⟨Nat.le_refl _,hB.putF (fun _ _ _ _=>rfl),St.put_len _ _ _ _ _⟩,fun σ pre k hk=>?_⟩
     have:=hk σ (AX.refl _ _)
     rw[EM]at h1 h2
     unfold E5
     simp only[ho,ha,hT,hel,D8,h1,h2,Option.map_some,ZR,Option.bind_some,HK hys,CH,hg,A6.ren]
     refine⟨trivial,trivial,c2,?_,by simpa using c4,?_⟩
     ·rw[List.all_map];exact c3▸(by congr 1;funext x;simp)
     ·simp only[GA,E6,C4,A6.ren,←DQ,List.map_flatten,List.map_take]at this;simpa only[List.length_map]using this
   ·cases hx
  ·cases hx
 ·cases hx
end Go.Pg
namespace Go.Pg
variable {P:Program}{Ω:H4 P}{σ σ':Nat→Nat}{δ:Nat}{pre:List AA}{s:St}{fr:Fr}{g:Bool}
def F3{α β:Type}(f:α→Option β):List α→Option (List β)
 |[]=>some []
 |x::l=>match f x with
  |some y=>match F3 f l with
   |some r=>some (y::r)
   |none=>none
  |none=>none
theorem MF{α β:Type}(f:α→Option β):∀(l:List α),F3 f l=l.mapM f
 |[]=>rfl
 |x::l=>by
  simp only[F3,List.mapM_cons,←MF f l];cases f x with
  |none=>rfl
  |some y=>cases F3 f l<;>rfl
abbrev CF:=FuncId→List V→XS→Option (V×XS)
abbrev CY:=Nat→Nat→Nat→List V→XS→Option (V×XS)
abbrev CF0:=FuncId→List V→Option V
abbrev CFO:=FuncId→List V→Tmp→Option Mk
structure XE where
 cf:CF
 cy:CY
 c0:CF0
 co:CFO
 lit:Tmp→Bool
def jN(P:Program)(cf:CF):Prop:=∀f args st r st',cf f args st=some (r,st')→Bd st→(∀v∈args,WK st.c v)→LM st st'∧WK st'.c r∧st'.fr=st.fr ∧
 ∀(σ:Nat→Nat) (pre:List AA) (K:V→St→Prop),(∀σ',AX st.c σ σ'→K (r.ren σ' pre.length) (st'.s.emb σ' pre))→F6 P f (args.map (V.ren σ pre.length)) (st.s.emb σ pre) K
def AX0(P:Program)(cy:CY):Prop:=∀l q γ vs st r st',cy l q γ vs st=some (r,st')→Bd st→(∀v∈vs,WK st.c v)→LM st st'∧WK st'.c r∧st'.fr=st.fr ∧
 ∃fr0 ps asg body N,st.s.get l q=some (γ,.loop fr0 ps asg body N .ready)∧∀(σ:Nat→Nat) (pre:List AA) (k:V→St→Prop),(∀σ',AX st.c σ σ'→k (r.ren σ' pre.length) (st'.s.emb σ' pre)) →
  cK P (l+pre.length) q (σ γ) (Fr.ren σ pre.length fr0) ps asg body N (vs.map (V.ren σ pre.length)) (st.s.emb σ pre) k
def IB(P:Program)(cf:CF0):Prop:=∀f args r,cf f args=some r→(∀s,F6 P f args s fun r' s'=>r'=r∧s'=s)∧(∀v∈args,∀σ δ,v.ren σ δ=v)∧(∀σ δ,r.ren σ δ=r)
def mE(P:Program)(co:CFO):Prop:=∀f args d r,co f args d=some r→(∀(s:St),F6 P f args s fun v s'=>∃γ,v=r.val s.up.length d γ∧s'=s.put s.up.length d γ r.res) ∧
 (∀v∈args,∀σ δ,v.ren σ δ=v)∧(∀σ δ,r.res.ren σ δ=r.res)∧gA r.res=true
structure K6(P:Program)(E:XE):Prop where
 cf:jN P E.cf
 cy:AX0 P E.cy
 c0:IB P E.c0
 co:mE P E.co
def K6.tab{E:XE}(h:K6 P E)(own:Oper→Bool):H4 P:=⟨own,E.co,fun f args d r hc=>(h.co f args d r hc).1⟩
noncomputable def wG(cy:CY)(d:Option Tmp)(l q γ:Nat)(args:List Operand)(st:XS):Option XS:=match F3 (CO st.fr) args with
 |some vs=>match cy l q γ vs st with
  |some (r,st')=>some { st' with fr:=putD st'.fr d true r }
  |none=>none
 |none=>none
noncomputable def R9(cf:CF)(cy:CY)(d:Option Tmp)(f:Operand)(args:List Operand)(st:XS):Option XS:=match CO st.fr f with
 |some (.fn fid first cap)=>match F3 (CO st.fr) args with
  |some vs=>match cf fid ((first++vs++cap).map weakV) st with
   |some (r,st')=>some { st' with fr:=putD st'.fr d true r }
   |none=>none
  |none=>none
 |some (.yld l q γ)=>wG cy d l q γ args st
 |_=>none
noncomputable def IC(co:CFO)(d:Option Tmp)(f:Operand)(args:List Operand)(st:XS):Option XS:=match d,CO st.fr f with
 |some d,some (.fn fid first cap)=>match F3 (CO st.fr) args with
  |some vs=>match co fid ((first++vs++cap).map weakV) d with
   |some r=>some ⟨st.c+1,(d,true,r.val st.s.up.length d st.c)::st.fr,st.s.put st.s.up.length d st.c r.res⟩
   |none=>none
  |none=>none
 |_,_=>none
noncomputable def gW(P:Program)(o:Oper)(st:XS):Option XS:=match AO8 P o st.fr st.s with
 |some v=>some { st with fr:=putD st.fr o.dst true v }
 |none=>none
noncomputable def dY(E:XE)(own:Bool)(d:Option Tmp)(f:Operand)(args:List Operand)(st:XS):Option XS:=Bool.rec (R9 E.cf E.cy d f args st) (match IC E.co d f args st with
 |some st'=>some st'
 | none=>R9 E.cf E.cy d f args st) own
noncomputable def BBJ(P:Program)(E:XE)(own:Oper→Bool)(o:Oper)(c:Call)(st:XS):Option XS:=match c.callee with
 |.value f=>dY E (own o) o.dst f c.args.toList st
 |.builtin .append=>xAppend P o.dst c.args.toList c.argTypes.toList st
 |.builtin .clear=>mC P o.dst c.args.toList c.argTypes.toList st
 |.builtin .copy=>AAR P o.dst c.args.toList c.argTypes.toList st
 |_=>gW P o st
noncomputable def SA(P:Program)(E:XE)(own:Oper→Bool)(o:Oper)(st:XS):Option XS:=match o.op with
 |.alloc T=>QA P o.dst T st
 |.box _ x=>rR o.dst x st
 |.makeMap _ r=>ADZ o.dst r st
 |.makeSlice T x y=>Y0 P o.dst T x y st
 |.store T x y=>J4 P o.dst T x y st
 |.mapUpdate T x i y=>AD0 P o.dst T x i y st
 |.call c=>BBJ P E own o c st
 |_=>gW P o st
theorem AAS{o:Oper}{st st':XS}(h:Bd st)(hx:gW P o st=some st'):StepX P o st st':=by
 unfold gW at hx;split at hx
 ·rename_i v hv;cases hx;exact ADY h (Q7 hv)
 ·cases hx
theorem ZS{st:XS}(h:Bd st):∀{args:List Operand} {vs:List V},F3 (CO st.fr) args=some vs→∀v∈vs,WK st.c v
 |[],vs,e,v,hv=>by cases e;cases hv
 |x::l,vs,e,v,hv=>by
  simp only[F3]at e;split at e
  ·rename_i y hy;split at e
   ·rename_i r hr;cases e;rcases List.mem_cons.1 hv with rfl|hv
    ·exact h.rd hy
    ·exact ZS h hr v hv
   ·cases e
  ·cases e
theorem mF{c:Nat}{v:V}(h:WK c v):WK c (weakV v):=fun σ σ' δ ha=>by rw[←XC,←XC,h σ σ' δ ha]
theorem AIX{c:Nat}{f:FuncId}{xs ys:List V}(h:WK c (.fn f xs ys)):(∀v∈xs,WK c v)∧(∀v∈ys,WK c v):=by
 refine⟨fun v hv σ σ' δ ha=>?_,fun v hv σ σ' δ ha=>?_⟩
 ·have:=h σ σ' δ ha;simp only[P7,V.fn.injEq]at this;exact List.map_inj_left.1 this.2.1 v hv
 ·have:=h σ σ' δ ha;simp only[P7,V.fn.injEq]at this;exact List.map_inj_left.1 this.2.2 v hv
theorem ID(l:List V):(l.map weakV).map (V.ren σ δ)=(l.map (V.ren σ δ)).map weakV:=by simp only[List.map_map];congr 1;funext v;exact(XC v).symm
theorem jO{E:XE}(hE:K6 P E){own:Oper→Bool}{o:Oper}(hown:own o=true){f:Operand}{args:Array Operand}{Ts:Array TypeId}{st st':XS}(h:Bd st)(ho:o.op=.call { callee:=.value f,args:=args,argTypes:=Ts })(hx:IC E.co o.dst f args.toList st=some st'):mB P (hE.tab own) o st st':=by
 unfold IC at hx;split at hx
 ·rename_i d fid first cap hd hf;split at hx
  ·rename_i vs hvs;split at hx
   ·rename_i r hc;cases hx;obtain⟨_,hcl,hr,hpl⟩:=hE.co _ _ _ _ hc;refine⟨AD3 h hpl (fun σ σ' δ _=>by rw[hr,hr]),d,hd,fun σ pre k hk=>⟨r,?_,fun γ=>?_⟩⟩
    ·have hcd:JU true o (st.fr.ren σ pre.length)=some (fid,(first++vs++cap).map weakV):=by
      rw[MF,F1]at hvs;rw[EM]at hf;simp only[JU,ho,KG,hf,Option.map_some,P7,JV hvs,Option.some.injEq,Prod.mk.injEq,true_and];have e:((first++vs++cap).map weakV).map (V.ren σ pre.length)=(first++vs++cap).map weakV:=by
       conv=>rhs;rw[←List.map_id ((first++vs++cap).map weakV)]
       exact List.map_congr_left fun v hv=>hcl v hv σ _
      rw[ID]at e;simpa only[List.map_append]using e
     simp only[RZ,ho,K6.tab,hown,if_true,hcd,hd,hc]
    ·have:=AO9 h (d:=d) hr hk γ;rw[←DV]at this;exact this
   ·cases hx
  ·cases hx
 ·cases hx
theorem sA{cf:CF}{cy:CY}(hcf:jN P cf)(hcy:AX0 P cy){o:Oper}{f:Operand}{args:Array Operand}{Ts:Array TypeId}{st st':XS}(h:Bd st)(ho:o.op=.call { callee:=.value f,args:=args,argTypes:=Ts })(hx:R9 cf cy o.dst f args.toList st=some st'):StepX P o st st':=by
 unfold R9 at hx;split at hx
 ·rename_i fid first cap hf;split at hx
  ·rename_i vs hvs;split at hx
   ·rename_i r st1 hr;cases hx;have b1:=AIX (h.rd hf);have b2:=ZS h hvs;obtain⟨hE,hrb,hfr,hA⟩:=hcf _ _ _ _ _ hr h (fun v hv=>by
     obtain⟨u,hu,rfl⟩:=List.mem_map.1 hv;refine mF ?_;rcases List.mem_append.1 hu with hu|hu
     ·rcases List.mem_append.1 hu with hu|hu
      ·exact b1.1 u hu
      ·exact b2 u hu
     ·exact b1.2 u hu)
    refine⟨⟨hE.c,hE.bd.putF hrb,hE.n⟩,fun σ pre k hk=>?_⟩;rw[MF,F1]at hvs;rw[EM]at hf;unfold E5;simp only[ho,KG,hf,Option.map_some,P7,JV hvs];refine .inl ⟨rfl,?_⟩;have:=hA σ pre (fun r s'=>k (putD (st.fr.ren σ pre.length) o.dst true r) s') fun σ' ha=>?_
    ·rw[ID]at this;simpa only[List.map_append]using this
    ·have h1:=hk σ' ha;rw[GA,hfr,←h.f σ σ' _ ha]at h1;exact h1
   ·cases hx
  ·cases hx
 ·rename_i l q γ hf;unfold wG at hx;split at hx
  ·rename_i vs hvs;split at hx
   ·rename_i r st1 hr;cases hx;obtain⟨hE,hrb,hfr,fr0,ps,asg,body,N,hget,hA⟩:=hcy _ _ _ _ _ _ _ hr h (ZS h hvs);refine⟨⟨hE.c,hE.bd.putF hrb,hE.n⟩,fun σ pre k hk=>?_⟩;rw[MF,F1]at hvs;rw[EM]at hf;unfold E5;simp only[ho,KG,hf,Option.map_some,lY,JV hvs,CH,hget,A6.ren];refine⟨trivial,trivial,?_⟩;refine hA σ pre (fun r s'=>k (putD (st.fr.ren σ pre.length) o.dst true r) s') fun σ' ha=>?_;have h1:=hk σ' ha;rw[GA,hfr,←h.f σ σ' _ ha]at h1;exact h1
   ·cases hx
  ·cases hx
 ·cases hx
theorem sB{E:XE}(hE:K6 P E){own:Oper→Bool}{o:Oper}{st st':XS}(h:Bd st)(hx:SA P E own o st=some st'):StepX P o st st':=by
 unfold SA at hx;split at hx
 ·rename_i T ho;exact(jK (Ω:=H4.nothing P) h ho hx).step
 ·rename_i T x ho;exact(AAO (Ω:=H4.nothing P) h ho hx).step
 ·rename_i T r ho;exact(AAP (Ω:=H4.nothing P) h ho hx).step
 ·rename_i T x y ho;exact(rS (Ω:=H4.nothing P) h ho hx).step
 ·rename_i T x y ho;exact jL h ho hx
 ·rename_i T x i y ho;exact AO7 h ho hx
 ·rename_i c ho;obtain⟨callee,args,Ts⟩:=c;unfold BBJ at hx;split at hx
  ·rename_i f hc;have hc:callee=.value f:=hc;subst hc;unfold dY at hx;cases hown:own o with
   |false=>rw[hown]at hx;exact sA hE.cf hE.cy h ho hx
   |true=>
    rw[hown]at hx
    have hx:(match IC E.co o.dst f args.toList st with
     |some st'=>some st'
     | none=>R9 E.cf E.cy o.dst f args.toList st)=some st':=hx
    split at hx
    ·rename_i st1 h1;cases hx;exact(jO hE hown h ho h1).step
    ·exact sA hE.cf hE.cy h ho hx
  ·rename_i hc;have hc:callee=.builtin .append:=hc;subst hc;exact wF h ho hx
  ·rename_i hc;have hc:callee=.builtin .clear:=hc;subst hc;exact AD1 h ho hx
  ·rename_i hc;have hc:callee=.builtin .copy:=hc;subst hc;exact AIW h ho hx
  ·exact AAS h hx
 ·exact AAS h hx
noncomputable def gdX(fr:Fr)(gd:Option (Tmp×Bool)):Option Bool:=match gd with
 |none=>some true
 |some (d,want)=>match BE fr d with
  |some (c,.bool b)=>some (c&&(b==want))
  |_=>none
theorem wH(gd:Option (Tmp×Bool)):gdX fr gd=RY fr gd:=by
 cases gd with
 |none=>rfl
 |some p=>simp only[gdX,RY,F0];rfl
theorem OE{gd:Option (Tmp×Bool)}(h:RY fr gd=some g):RY (fr.ren σ δ) gd=some g:=by
 cases gd with
 |none=>exact h
 |some p=>
  simp only[RY]at h⊢
  split at h
  ·rename_i c b e;simp only[Fr.get_ren,e,Option.map_some,M6];exact h
  ·cases h
noncomputable def IY(d:Option Tmp)(st:XS):XS:={ st with fr:=putD st.fr d false (.bool false) }
noncomputable def AIY(P:Program)(lit:Tmp→Bool)(o:Oper)(st:XS):Option XS:=match o.op,o.dst with
 | .buildSlice T _ _,some d=>Bool.rec none (match B0 P T,AO8 P o st.fr st.s with
  |some (none,e),some (.list true (x::es))=>Bool.rec none (some ⟨st.c+1,(d,true,H3 (.vec e (x::es)) st.s.up.length d st.c)::st.fr,st.s.put st.s.up.length d st.c (.vec e (x::es))⟩) (Nat.ble (x::es).length maxLen)
  | _,_=>none) (lit d)
 |_,_=>none
theorem APB{lit:Tmp→Bool}{o:Oper}{st st':XS}(h:Bd st)(hx:AIY P lit o st=some st'):LM st st' ∧
  ∀(σ:Nat→Nat) (pre:List AA) (k:Fr→St→Prop),(∀σ',AX st.c σ σ'→k (st'.fr.ren σ' pre.length) (st'.s.emb σ' pre))→BBB P true o (st.fr.ren σ pre.length) (st.s.emb σ pre) k:=by
 unfold AIY at hx
 split at hx
 ·rename_i T len parts d ho hd;obtain⟨_,hx⟩:=E7 hx;split at hx
  ·rename_i e x es hel hv;obtain⟨hc,he⟩:=KN hx;cases he;have hv:=Q7 hv;have hb:=VY h (h.val hv) (ys:=x::es) rfl;refine⟨dX h rfl fun σ σ' δ ha=>by simp only[A6.ren,hb σ σ' δ ha],fun σ pre k hk=>?_⟩;have hv':=JW (σ:=σ) (pre:=pre) hv;unfold F9 at hv';simp only[ho]at hv';obtain⟨ps,h1,h2⟩:=Option.bind_eq_some_iff.1 hv';rw[FI]at h2;refine⟨T,len,parts,d,e,_,ps,ho,rfl,hd,hel,h1,h2,by simp,by simpa [Nat.ble_eq]using hc,fun γ=>?_⟩;have:=wE h (d:=d) (r:=.vec e (x::es)) (fun σ σ' δ ha=>by simp only[A6.ren,hb σ σ' δ ha]) hk γ;rw[DV];simpa only[H3,A6.ren]using this
  ·cases hx
 ·cases hx
def APC(all:List Oper)(t:Tmp):Bool:=all.any fun p=>match p.op,p.dst with
 |.call { callee:=.builtin .append,.. },some d=>Nat.beq d t
 |_,_=>false
noncomputable def OG(all:List Oper)(st:XS):List Operand→Option XS
 |[]=>none
 |x::r=>match x with
  | .tmp t=>Bool.rec (OG all st r) (match BE st.fr t with
   |some (true,.vec l q γ n)=>match st.s.get l q with
    |some (γ',.vec _ es)=>Bool.rec none (some ⟨st.c,(t,true,.list false (es.take n))::st.fr,st.s.put l q γ .dead⟩) (Nat.beq γ' γ&&Nat.ble n es.length&&Nat.blt γ st.c)
    |_=>none
   | _=>none) (APC all t)
  |_=>OG all st r
noncomputable def AIZ(all:List Oper)(o:Oper)(st:XS):Option XS:=match o.op with
 |.call c=>match c.callee with
  |.value _=>OG all st c.args.toList
  |_=>none
 |_=>none
theorem XJ{all:List Oper}{st st1:XS}(h:Bd st):∀{xs:List Operand},OG all st xs=some st1→LM st st1 ∧
  ∀(o:Oper) (σ:Nat→Nat) (pre:List AA) (k:Fr→St→Prop),E5 P true o (st1.fr.ren σ pre.length) (st1.s.emb σ pre) k→AS9 P true o (st.fr.ren σ pre.length) (st.s.emb σ pre) k
 |[],hx=>by cases hx
 |x::r,hx=>by
  unfold OG at hx;split at hx
  ·rename_i t;cases hA:APC all t with
   |false=>rw[hA]at hx;exact XJ h hx
   |true=>
    rw[hA]at hx
    have hx:(match BE st.fr t with
     |some (true,.vec l q γ n)=>match st.s.get l q with
      |some (γ',.vec _ es)=>Bool.rec none (some ⟨st.c,(t,true,.list false (es.take n))::st.fr,st.s.put l q γ .dead⟩) (Nat.beq γ' γ&&Nat.ble n es.length&&Nat.blt γ st.c)
      |_=>none
     | _=>none)=some st1:=hx
    split at hx
    ·rename_i l q γ n hg;split at hx
     ·rename_i γ' T es hs;obtain⟨hc,he⟩:=KN hx;simp only[Bool.and_eq_true]at hc;obtain⟨⟨h1,h2⟩,h3⟩:=hc;have h1:=Nat.eq_of_beq_eq_true h1;have h2:n≤es.length:=by simpa [Nat.ble_eq]using h2
      have h3:γ<st.c:=by simpa [Nat.blt_eq]using h3
      subst h1;cases he;rw[F0]at hg;have hb:∀σ σ' δ,AX st.c σ σ'→es.map (List.map (V.ren σ δ))=es.map (List.map (V.ren σ' δ)):=fun σ σ' δ ha=>by have:=OB h hs σ σ' δ ha;simpa [A6.ren]using this
      have hv:WK st.c (.list false (es.take n)):=fun σ σ' δ ha=>by simp only[FI,List.map_take,hb σ σ' δ ha]
      have hbd:Bd ⟨st.c,(t,true,.list false (es.take n))::st.fr,st.s.put l q γ' .dead⟩:=(h.putS (l:=l) (k:=q) (r:=.dead) h3 (fun _ _ _ _=>rfl)).putF (d:=some t) (c:=true) hv;refine⟨⟨Nat.le_refl _,hbd,St.put_len _ _ _ _ _⟩,fun o σ pre k hk=>⟨t,l+pre.length,q,σ γ',n,T,es.map (List.map (V.ren σ pre.length)),rfl,?_,?_,by simpa using h2,?_⟩⟩
      ·rw[Fr.get_ren,hg];simp
      ·rw[CH,hs];simp[A6.ren]
      ·change E5 P true o ((st.fr.put t true _).ren _ _) _ k at hk;simp only[IA,FI,C4,A6.ren,List.map_take]at hk;exact hk
     ·cases hx
    ·cases hx
  ·exact XJ h hx
noncomputable def opX(P:Program)(E:XE)(all:List Oper)(o:Oper)(st:XS):Option XS:=match gdX st.fr (MC all o)with
 |some true=>match AIY P E.lit o st with
  |some st'=>some st'
  |none=>match AIZ all o st with
   |some st1=>SA P E (EB all) o st1
   |none=>SA P E (EB all) o st
 |some false=>some (IY o.dst st)
 |none=>none
theorem jP{d:Option Tmp}{st:XS}(h:Bd st):LM st (IY d st):=⟨Nat.le_refl _,h.putF (fun σ σ' δ _=>by simp),rfl⟩
theorem AI0{E:XE}(hE:K6 P E){all:List Oper}{o:Oper}{st st':XS}(h:Bd st)(hx:opX P E all o st=some st'):LM st st'∧∃g,(∀σ δ,RY (st.fr.ren σ δ) (MC all o)=some g) ∧
  ∀(σ:Nat→Nat) (pre:List AA) (k:Fr→St→Prop),(∀σ',AX st.c σ σ'→k (st'.fr.ren σ' pre.length) (st'.s.emb σ' pre))→VI P g o (st.fr.ren σ pre.length) (st.s.emb σ pre) k:=by
 unfold opX at hx
 rw[wH]at hx
 split at hx
 ·rename_i hg;split at hx
  ·rename_i st1 hl;cases hx;obtain⟨h1,h2⟩:=APB h hl;exact⟨h1,true,fun σ δ=>OE hg,fun σ pre k hk=>.inr (.inr (.inl (h2 σ pre k hk)))⟩
  ·split at hx
   ·rename_i st1 ht;have ht':∃xs,OG all st xs=some st1:=by
     unfold AIZ at ht;split at ht
     ·split at ht
      ·exact⟨_,ht⟩
      ·cases ht
     ·cases ht
    obtain⟨xs,ht'⟩:=ht';obtain⟨hE1,hs1⟩:=XJ (P:=P) h ht';obtain⟨h1,h2⟩:=sB hE hE1.bd hx;exact⟨⟨Nat.le_trans hE1.c h1.c,h1.bd,h1.n.trans hE1.n⟩,true,fun σ δ=>OE hg,fun σ pre k hk=>.inr (.inr (.inr (hs1 o σ pre k (h2 σ pre k fun σ' ha=>hk σ' (ha.mono hE1.c)))))⟩
   ·obtain⟨h1,h2⟩:=sB hE h hx;exact⟨h1,true,fun σ δ=>OE hg,fun σ pre k hk=>.inl (h2 σ pre k hk)⟩
 ·rename_i hg;cases hx;refine⟨jP h,false,fun σ δ=>OE hg,fun σ pre k hk=>.inr (.inl ⟨rfl,.bool false,?_⟩)⟩;have:=hk σ (AX.refl _ _);simpa only[IY,GA,M6]using this
 ·cases hx
noncomputable def mG(P:Program)(E:XE)(all:List Oper):List Oper→XS→Option XS
 |[],st=>some st
 |o::r,st=>match opX P E all o st with
  |some st'=>mG P E all r st'
  |none=>none
theorem mH{E:XE}(hEE:K6 P E){all:List Oper}:∀{l:List Oper} {st st':XS},Bd st→mG P E all l st=some st'→LM st st' ∧
  ∀(σ:Nat→Nat) (pre:List AA) (K:Fr→St→Prop),(∀σ',AX st.c σ σ'→K (st'.fr.ren σ' pre.length) (st'.s.emb σ' pre))→YQ P (l.map (MC all)) l (st.fr.ren σ pre.length) (st.s.emb σ pre) K
 |[],st,st',h,hx=>by cases hx;exact⟨⟨Nat.le_refl _,h,rfl⟩,fun σ pre K hk=>hk σ (AX.refl _ _)⟩
 |o::l,st,st',h,hx=>by
  simp only[mG]at hx;split at hx
  ·rename_i st1 h1;obtain⟨hE,g,hg,hs⟩:=AI0 hEE h h1;obtain⟨hE',hs'⟩:=mH hEE hE.bd hx;refine⟨⟨Nat.le_trans hE.c hE'.c,hE'.bd,hE'.n.trans hE.n⟩,fun σ pre K hk=>?_⟩;simp only[List.map_cons,YQ,hg];exact hs σ pre _ fun σ' ha=>hs' σ' pre K fun σ'' ha'=>hk σ'' (ha.trans ha' hE.c)
  ·cases hx
noncomputable def dZ(cf:CF0)(d:Option Tmp)(f:Operand)(args:List Operand)(st:XS):Option XS:=match CO st.fr f with
 |some (.fn fid first cap)=>match F3 (CO st.fr) args with
  |some vs=>match cf fid ((first++vs++cap).map weakV)with
   |some r=>some { st with fr:=putD st.fr d true r }
   |none=>none
  |none=>none
 |_=>none
noncomputable def VZ(r:Option XS):Option (XS×AN):=match r with
 |some st=>some (st,[])
 |none=>none
noncomputable def xAppD(P:Program)(d:Option Tmp)(args:List Operand)(Ts:List TypeId)(st:XS):Option (XS×AN):=match xAppG elemsOf P d args Ts st with
 |some (st',l,q)=>some (st',[(l,q),(l,q+GD)])
 |none=>none
noncomputable def ATI(P:Program)(E:XE)(own:Oper→Bool)(o:Oper)(c:Call)(st:XS):Option (XS×AN):=match c.callee with
 |.value f=>Bool.rec (VZ (dZ E.c0 o.dst f c.args.toList st)) (VZ (IC E.co o.dst f c.args.toList st)) (own o)
 |.builtin .append=>xAppD P o.dst c.args.toList c.argTypes.toList st
 |_=>VZ (gW P o st)
noncomputable def AI1(P:Program)(d:Option Tmp)(T:TypeId)(x y:Operand)(st:XS):Option (XS×AN):=match J4 P d T x y st with
 |some st'=>some (st',B5 (Nat.beq (P.cellsOf T) 1) (CO st.fr x))
 |none=>none
noncomputable def mI(P:Program)(E:XE)(own:Oper→Bool)(o:Oper)(st:XS):Option (XS×AN):=match o.op with
 |.alloc T=>VZ (QA P o.dst T st)
 |.box _ x=>VZ (rR o.dst x st)
 |.makeMap _ r=>VZ (ADZ o.dst r st)
 |.makeSlice T x y=>VZ (Y0 P o.dst T x y st)
 |.store T x y=>AI1 P o.dst T x y st
 |.call c=>ATI P E own o c st
 |_=>VZ (gW P o st)
noncomputable def wI(P:Program)(E:XE)(all:List Oper)(o:Oper)(st:XS):Option (XS×AN):=match gdX st.fr (MC all o)with
 |some true=>mI P E (EB all) o st
 |some false=>Bool.rec (some (IY o.dst st,[])) none (kA (EB all) o||kW o||kP o)
 |none=>none
theorem IE{r:Option XS}{st':XS}{wr:AN}(h:VZ r=some (st',wr)):r=some st'∧wr=[]:=by
 unfold VZ at h;split at h
 ·cases h;exact⟨rfl,rfl⟩
 ·cases h
def AX1(P:Program)(Ω:H4 P)(all:List Oper)(o:Oper)(st st':XS)(wr:AN):Prop:=LM st st' ∧
  ∀(W:AN) (σ:Nat→Nat) (pre:List AA) (k:Fr→St→Prop),(∀p∈E1 P o (CO st.fr),p∉W)→(∀p∈wr,p∈W)→(∀σ',AX st.c σ σ'→k (st'.fr.ren σ' pre.length) (st'.s.emb σ' pre))→IW P Ω (gB pre.length W) o (MC all o) (st.fr.ren σ pre.length) (st.s.emb σ pre) k
theorem APD{E:XE}(hE:K6 P E){all:List Oper}{o:Oper}{st st':XS}{wr:AN}(h:Bd st)(hx:wI P E all o st=some (st',wr)):AX1 P (hE.tab (EB all)) all o st st' wr:=by
 have val:∀{st'},(∀σ δ,RY (st.fr.ren σ δ) (MC all o)=some true)→gW P o st=some st'→AX1 P (hE.tab (EB all)) all o st st' wr:=by
  intro st' hg hx;unfold gW at hx;split at hx
  ·rename_i v hv;cases hx;have hv:=Q7 hv;refine⟨⟨Nat.le_refl _,h.putF (h.val hv),rfl⟩,fun W σ pre k hr _ hk=>.inl ⟨true,v.ren σ pre.length,⟨hg _ _,?_⟩,?_⟩⟩
   ·have hrd:∀p∈E1 P o (EI true (st.fr.ren σ pre.length)),p∉gB pre.length W:=by rw[KG,wB,←F1];exact rU hr
    cases hi:rT P o (EI true (st.fr.ren σ pre.length))with
    |true=>exact .inr (.inr (.inl (AXX (JW hv) hi hrd)))
    |false=>exact .inl ⟨_,dV _,AD2 (JW hv) hi hrd⟩
   ·have:=hk σ (AX.refl _ _);rwa [GA]at this
  ·cases hx
 have new:∀{st'},(∀σ δ,RY (st.fr.ren σ δ) (MC all o)=some true)→mB P (hE.tab (EB all)) o st st'→AX1 P (hE.tab (EB all)) all o st st' wr:=by intro st' hg hn;obtain⟨h1,d,hd,h2⟩:=hn;refine⟨h1,fun W σ pre k _ _ hk=>?_⟩;obtain⟨r,hr,h3⟩:=h2 σ pre k hk;exact .inr (.inl ⟨r,d,⟨hg _ _,hd,hr⟩,h3⟩)
 unfold wI at hx;rw[wH]at hx;split at hx
 ·rename_i hg;have hg':∀σ δ,RY (st.fr.ren σ δ) (MC all o)=some true:=fun σ δ=>OE hg;unfold mI at hx;split at hx
  ·rename_i T ho;exact new hg' (jK h ho (IE hx).1)
  ·rename_i T x ho;exact new hg' (AAO h ho (IE hx).1)
  ·rename_i T r ho;exact new hg' (AAP h ho (IE hx).1)
  ·rename_i T x y ho;exact new hg' (rS h ho (IE hx).1)
  ·rename_i T x y ho;unfold AI1 at hx;split at hx
   ·rename_i st1 hx1;cases hx;obtain⟨hE1,_⟩:=jL h ho hx1;obtain⟨l,q,γ,r,hD,rfl⟩:=AIR ho hx1;refine⟨hE1,fun W σ pre k _ hw hk=>.inr (.inr (.inl ⟨_,_,_,_,⟨hg' _ _,?_,vX hD⟩,?_⟩))⟩
    ·have hp:=dB hD;unfold vN at hp;simp only[ho]at hp;have main:∀off,(EI true st.fr x=some (.ptr l q γ off)∨∃i,EI true st.fr x=some (.eptr l q γ i off))→WOK P (gB pre.length W) o (st.fr.ren σ pre.length) (l+pre.length) q:=by
      intro off hx;have hC:J3 P o (st.fr.ren σ pre.length)=some (off,P.cellsOf T):=by unfold J3;rcases hx with hx|⟨i,hx⟩<;>simp only[ho,D8,hx,Option.map_some,H8,P6]
      cases hb:Nat.beq (P.cellsOf T) 1 with
      |true=>
       have h1:=Nat.eq_of_beq_eq_true hb
       have hpl:B5 (Nat.beq (P.cellsOf T) 1) (CO st.fr x)=[(l,q),(l,EK q off)]:=by rw[EM,hb];rcases hx with hx|⟨i,hx⟩<;>rw[hx]<;>rfl
       rw[hpl]at hw
       refine⟨OC.2 (hw _ (by simp)),.inr fun off' n' e c h2 h3=>?_⟩
       rw[hC]at e
       cases e
       obtain rfl:c=off:=by omega
       exact OC.2 (hw _ (by simp))
      |false=>
       have hpl:B5 (Nat.beq (P.cellsOf T) 1) (CO st.fr x)=[(l,q),(l,q+EZ)]:=by rw[EM,hb];rcases hx with hx|⟨i,hx⟩<;>rw[hx]<;>rfl
       rw[hpl]at hw
       exact⟨OC.2 (hw _ (by simp)),.inl (OC.2 (hw _ (by simp)))⟩
     split at hp
     ·rename_i l1 q1 γ1 off e;cases hp;exact main off (.inl e)
     ·rename_i l1 q1 γ1 i off e;cases hp;exact main off (.inr ⟨i,e⟩)
     ·cases hp
    ·have:=hk σ (AX.refl _ _);simp only[C4]at this;exact this
   ·cases hx
  ·rename_i c ho;obtain⟨callee,args,Ts⟩:=c;unfold ATI at hx;split at hx
   ·rename_i f hc;have hc:callee=.value f:=hc;subst hc;cases hown:EB all o with
    |true=>
     rw[hown]at hx
     exact new hg' (jO hE hown h ho (IE hx).1)
    |false=>
     rw[hown]at hx
     have hx:=(IE hx).1
     unfold dZ at hx
     split at hx
     ·rename_i fid first cap hf;split at hx
      ·rename_i vs hvs;split at hx
       ·rename_i r hr;cases hx;obtain⟨hA,hcl,hrc⟩:=hE.c0 _ _ _ hr;refine⟨⟨Nat.le_refl _,h.putF (fun σ σ' δ _=>by rw[hrc,hrc]),rfl⟩,fun W σ pre k _ _ hk=>.inl ⟨true,r,⟨hg' _ _,.inr (.inl ⟨fid,(first++vs++cap).map weakV,?_,hown,fun _ s=>hA s⟩)⟩,?_⟩⟩
        ·rw[MF,F1]at hvs;rw[EM]at hf;simp only[JU,ho,KG,hf,Option.map_some,P7,JV hvs,Option.some.injEq,Prod.mk.injEq,true_and];have e:((first++vs++cap).map weakV).map (V.ren σ pre.length)=(first++vs++cap).map weakV:=by
          conv=>rhs;rw[←List.map_id ((first++vs++cap).map weakV)]
          exact List.map_congr_left fun v hv=>hcl v hv σ _
         rw[ID]at e;simpa only[List.map_append]using e
        ·have:=hk σ (AX.refl _ _);rwa [GA,hrc]at this
       ·cases hx
      ·cases hx
     ·cases hx
   ·rename_i hc;have hc:callee=.builtin .append:=hc;subst hc;unfold xAppD at hx;split at hx
    ·rename_i st1 l q e1;cases hx;obtain⟨d,r,hd,hp,rfl,hr,_,hs⟩:=dW (fun _ _ _ h=>h) h ho e1;have hra:E1 P o (CO st.fr)=K5 (CO st.fr) args.toList:=by simp only[E1,ho]
     refine⟨dX h hp hr,fun W σ pre k hrd hw hk=>.inr (.inr (.inr ⟨l+pre.length,q,r.ren σ pre.length,d,⟨hg' _ _,⟨OC.2 (hw _ (by simp)),OC.2 (hw _ (by simp))⟩,hd,_,dV _,hs W σ pre (by rw[←hra];exact hrd)⟩,fun γ=>wE h hr hk γ⟩))⟩
    ·cases hx
   ·exact val hg' (IE hx).1
  ·exact val hg' (IE hx).1
 ·rename_i hg;cases hk:(kA (EB all) o||kW o||kP o)with
  |true=>rw[hk]at hx;cases hx
  |false=>
   rw[hk]at hx
   cases hx
   rw[Bool.or_eq_false_iff,Bool.or_eq_false_iff]at hk
   refine⟨jP h,fun W σ pre k _ _ hk'=>.inl ⟨false,.bool false,⟨OE hg,.inr (.inr (.inr ⟨rfl,hk.1.1,hk.1.2,hk.2⟩))⟩,?_⟩⟩
   have:=hk' σ (AX.refl _ _)
   simpa only[IY,GA,M6]using this
 ·cases hx
noncomputable def phX(P:Program)(E:XE)(l:List Oper):List Nat→XS→AN→AN→Option (XS×AN×AN)
 |[],st,rd,wr=>some (st,rd,wr)
 |i::r,st,rd,wr=>match l[i]? with
  |some o=>match wI P E l o st with
   |some (st',w)=>phX P E l r st' (cond (zB l o) [] (E1 P o (CO st.fr))++rd) (w++wr)
   |none=>none
  |none=>none
noncomputable def sqX(P:Program)(E:XE)(l:List Oper):List Nat→XS→Option XS
 |[],st=>some st
 |i::r,st=>match l[i]? with
  |some o=>match opX P E l o st with
   |some st'=>sqX P E l r st'
   |none=>none
  |none=>none
noncomputable def AD4(P:Program)(E:XE)(l:List Oper):ZD→XS→Option XS
 |[],st=>some st
 | p :: S,st=>Bool.rec none (match phX P E l p.1 st [] []with
  | some (st1,rd,wr)=>Bool.rec none (match sqX P E l p.2 st1 with
   |some HP=>AD4 P E l S HP
   | none=>none) (wr.all fun p=>!(rd.contains p))
  | none=>none) (dO (EB l) l p.1 st.s.loc)
theorem ZT{l:List Oper}{i:Nat}{o:Oper}(h:l[i]? = some o):fZ (l.map (MC l)) i=MC l o:=by simp[fZ,h]
theorem APE{E:XE}{all:List Oper}{o:Oper}{st st':XS}{wr:AN}(ho:∃T x,o.op=.load T x)(hx:wI P E all o st=some (st',wr)):wr=[]:=by
 obtain⟨T,x,ho⟩:=ho;unfold wI at hx;split at hx
 ·unfold mI at hx;rw[ho]at hx;exact(IE hx).2
 ·cases hk:(kA (EB all) o||kW o||kP o)with
  |true=>rw[hk]at hx;cases hx
  |false=>rw[hk]at hx;exact(Prod.mk.inj (Option.some.inj hx)).2.symm
 ·cases hx
theorem AI2{E:XE}(hEE:K6 P E){l:List Oper}:∀{R:List Nat} {st st':XS} {rd wr rd' wr':AN},Bd st→phX P E l R st rd wr=some (st',rd',wr')→LM st st'∧(∀p∈rd,p∈rd')∧(∀p∈wr,p∈wr') ∧
  ∀(W:AN) (σ:Nat→Nat) (pre:List AA) (K:Fr→St→Prop),(∀p∈rd',p∉W)→(∀p∈wr',p∈W)→(∀σ',AX st.c σ σ'→K (st'.fr.ren σ' pre.length) (st'.s.emb σ' pre))→R8 P (hEE.tab (EB l)) (gB pre.length W) l (l.map (MC l)) R (st.fr.ren σ pre.length) (st.s.emb σ pre) K
 |[],st,st',rd,wr,rd',wr',h,hx=>by cases hx;exact⟨⟨Nat.le_refl _,h,rfl⟩,fun _ h=>h,fun _ h=>h,fun W σ pre K _ _ hk=>hk σ (AX.refl _ _)⟩
 |i::r,st,st',rd,wr,rd',wr',h,hx=>by
  simp only[phX]at hx;split at hx
  ·rename_i o ho;split at hx
   ·rename_i st1 w1 h1;obtain⟨hE,hs⟩:=APD hEE h h1;obtain⟨hE',hr,hw,hs'⟩:=AI2 hEE hE.bd hx;refine⟨⟨Nat.le_trans hE.c hE'.c,hE'.bd,hE'.n.trans hE.n⟩,fun p hp=>hr p (List.mem_append_right _ hp),fun p hp=>hw p (List.mem_append_right _ hp),fun W σ pre K hrd hwr hk=>?_⟩;simp only[R8,OT,ho,ZT ho];cases hz:zB l o with
    |true=>
     have hw0:w1=[]:=APE (ATC hz) h1
     subst hw0
     unfold wz
     rw[hz]
     exact hs [] σ pre _ (fun p _=>by simp) (fun p hp=>hp) fun σ' ha=>hs' W σ' pre K hrd hwr fun σ'' ha'=>hk σ'' (ha.trans ha' hE.c)
    |false=>
    rw[hz]at hr;unfold wz;rw[hz];exact hs W σ pre _ (fun p hp=>hrd p (hr p (List.mem_append_left _ hp))) (fun p hp=>hwr p (hw p (List.mem_append_left _ hp))) fun σ' ha=>hs' W σ' pre K hrd hwr fun σ'' ha'=>hk σ'' (ha.trans ha' hE.c)
   ·cases hx
  ·cases hx
theorem AI3{E:XE}(hEE:K6 P E){l:List Oper}:∀{R:List Nat} {st st':XS},Bd st→sqX P E l R st=some st'→LM st st' ∧
  ∀(σ:Nat→Nat) (pre:List AA) (K:Fr→St→Prop),(∀σ',AX st.c σ σ'→K (st'.fr.ren σ' pre.length) (st'.s.emb σ' pre))→ADP P l (l.map (MC l)) R (st.fr.ren σ pre.length) (st.s.emb σ pre) K
 |[],st,st',h,hx=>by cases hx;exact⟨⟨Nat.le_refl _,h,rfl⟩,fun σ pre K hk=>hk σ (AX.refl _ _)⟩
 |i::r,st,st',h,hx=>by
  simp only[sqX]at hx;split at hx
  ·rename_i o ho;split at hx
   ·rename_i st1 h1;obtain⟨hE,g,hg,hs⟩:=AI0 hEE h h1;obtain⟨hE',hs'⟩:=AI3 hEE hE.bd hx;refine⟨⟨Nat.le_trans hE.c hE'.c,hE'.bd,hE'.n.trans hE.n⟩,fun σ pre K hk=>?_⟩;simp only[ADP,ho,ZT ho,hg];exact hs σ pre _ fun σ' ha=>hs' σ' pre K fun σ'' ha'=>hk σ'' (ha.trans ha' hE.c)
   ·cases hx
  ·cases hx
end Go.Pg
namespace Go.Pg
variable {P:Program}{σ σ':Nat→Nat}{δ:Nat}{pre:List AA}{s:St}{fr:Fr}{g:Bool}
def AH:Nat→V→Bool
 |0,_=>false
 |f+1,v=>match v with
  |.int ..|.bool _|.raw _|.nil|.any=>true
  |.agg cs|.tup cs|.ref cs=>cs.all (AH f)
  |.list _ es=>es.all fun e=>e.all (AH f)
  |.fn _ a b=>a.all (AH f)&&b.all (AH f)
  |_=>false
theorem OH{f:Nat}(ih:∀v,AH f v=true→v.ren σ δ=v){cs:List V}(h:cs.all (AH f)=true):cs.map (V.ren σ δ)=cs:=by
 conv=>rhs;rw[←List.map_id cs]
 exact List.map_congr_left fun v hv=>ih v (List.all_eq_true.1 h v hv)
theorem E9:∀(f:Nat) (v:V),AH f v=true→v.ren σ δ=v
 |0,_,h=>by cases h
 |f+1,v,h=>by
  have ih:=fun v=>E9 f v;cases v with
  |agg cs=>rw[H7,OH ih (by simpa [AH]using h)]
  |tup cs=>rw[L9,OH ih (by simpa [AH]using h)]
  |ref cs=>rw[N6,OH ih (by simpa [AH]using h)]
  |list b es=>
   have h':(es.all fun e=>e.all (AH f))=true:=by simpa [AH]using h
   rw[FI]
   congr 1
   conv=>rhs;rw[←List.map_id es]
   exact List.map_congr_left fun e he=>OH ih (List.all_eq_true.1 h' e he)
  |fn g a b=>
   have h':a.all (AH f)=true∧b.all (AH f)=true:=by simpa [AH]using h
   rw[P7,OH ih h'.1,OH ih h'.2]
  |int k n=>simp
  |bool b=>simp
  |raw v=>simp
  |nil=>simp
  |any=>simp
  |_=>simp[AH]at h
noncomputable def SB(ks:List Nat)(fr:Fr):Fr:=List.rec (motive:=fun _=>Fr) [] (fun k _ ih=>match BE fr k with
 |some (c,v)=>(k,c,v)::ih
 | none=>ih) ks
theorem eA(fr:Fr):∀(ks:List Nat),SB ks fr=P1 ks fr
 |[]=>rfl
 |k::r=>by have:=eA fr r;show(match BE fr k with|some (c,v)=>(k,c,v)::SB r fr|none=>SB r fr)=P1 (k::r) fr;rw[this,F0];rfl
theorem XK:∀(ks:List Nat),P1 ks (fr.ren σ δ)=(P1 ks fr).ren σ δ
 |[]=>rfl
 |k::r=>by
  simp only[P1,Fr.get_ren,XK r];cases fr.get k with
  |none=>rfl
  |some p=>rfl
theorem XL{L:AA}:∀(ks:List Nat),JT ks (L.ren σ δ)=(JT ks L).ren σ δ
 |[]=>rfl
 |k::r=>by
  simp only[JT,AA.get_ren,XL r];cases L.get k with
  |none=>rfl
  |some p=>rfl
def V0:List Nat→List Nat→List Nat
 |acc,[]=>acc
 |acc,k::r=>V0 (cond (acc.any (Nat.beq k)) acc (k::acc)) r
noncomputable def TH(ks ls:List Nat)(st:XS):XS:=⟨st.c,SB ks st.fr,⟨st.s.up,JT ls st.s.loc⟩⟩
theorem AI4{ks ls:List Nat}{st:XS}{l k:Nat}{x:Nat×A6}(h:(TH ks ls st).s.get l k=some x):st.s.get l k=some x:=by
 unfold St.get TH at h;unfold St.get;simp only at h;split at h
 ·rename_i e;rw[if_pos e];exact Q2 h
 ·rename_i e;rw[if_neg e];exact h
theorem V1{ks ls:List Nat}{st:XS}(h:Bd st):LM st (TH ks ls st):=by
 refine⟨Nat.le_refl _,⟨fun σ σ' δ ha=>?_,fun σ σ' pre ha=>?_,fun l k γ fr ps asg body N ls hg=>h.lp l k γ fr ps asg body N ls (AI4 hg)⟩,rfl⟩
 ·simp only[TH,eA,←XK];rw[h.f σ σ' δ ha]
 ·have:=h.s σ σ' pre ha;simp only[St.emb,St.mk.injEq]at this;simp only[TH,St.emb,St.mk.injEq,←XL];exact⟨this.1,by rw[this.2]⟩
theorem XM{n N:Nat}{ρ:Option Nat}{c:Code}{K:Exit→Fr→St→Prop}{ks ls:List Nat}{st:XS}(h:BQ P n N ρ c K ((TH ks ls st).fr.ren σ pre.length) ((TH ks ls st).s.emb σ pre)):BQ P n N ρ c K (st.fr.ren σ pre.length) (st.s.emb σ pre):=by
 refine ADI ks ls ?_;have e2:(⟨(st.s.emb σ pre).up,JT ls (st.s.emb σ pre).loc⟩:St)=(TH ks ls st).s.emb σ pre:=by simp only[TH,St.emb,XL]
 rw[XK,e2,←eA];exact h
abbrev gC:=Code→XS→Option (Exit×XS)
noncomputable def SD(P:Program)(E:XE)(l:List Oper)(st:XS):Option XS:=AD4 P E l (gV l) st
noncomputable def BBK(P:Program)(E:XE)(l:List Oper)(draw:Bool)(st:XS):Option XS:=Bool.rec (mG P E l l st)
 (match AXW l with
  |[]=>SD P E l st
  | ds=>SD P E l (TH (V0 [] (st.fr.map (·.1))) ((V0 [] (st.s.loc.map (·.1))).filter fun k=>!(ds.any (Nat.beq k))) st)) draw
noncomputable def OW(r:Option XS):Option (Exit×XS):=match r with
 |some st=>some (.normal,st)
 |none=>none
noncomputable def mJ(rec:gC)(b:Code)(r:Option (Exit×XS)):Option (Exit×XS):=match r with
 |some (.normal,st')=>rec b st'
 |r=>r
noncomputable def OI(id:Nat)(r:Option (Exit×XS)):Option (Exit×XS):=match r with
 |some (.exit i,st')=>Bool.rec (some (.exit i,st')) (some (.normal,st')) (Nat.beq i id)
 |r=>r
noncomputable def sC(rec:gC)(a b:Code)(st:XS)(r:Option V):Option (Exit×XS):=match r with
 |some (.bool c)=>Bool.rec (rec b st) (rec a st) c
 |_=>none
noncomputable def jQ(rec:gC)(body:Code)(ks:List Nat)(n:Nat):XS→Option (Exit×XS):=Nat.rec (motive:=fun _=>XS→Option (Exit×XS)) (fun _=>none) (fun _ ih st=>match rec body (TH ks (V0 [] (st.s.loc.map (·.1))) st)with
 |some (.normal,st')=>ih st'
 | r=>r) n
def BT:Nat:=1000000
noncomputable def mK(fr:Fr)(n γ:Nat)(r:Option (V×XS)):Option (Exit×XS):=match r with
 |some (_,st)=>match st.s.get n BT with
  | some (γ',.loop _ _ _ _ _ ls)=>Bool.rec none (match ls with
   |.ready=>some (.normal,⟨st.c,fr,st.s.put n BT γ .dead⟩)
   |.left .ret=>some (.ret,⟨st.c,fr,st.s.put n BT γ .dead⟩)
   |.left (.exit id)=>some (.exit id,⟨st.c,fr,st.s.put n BT γ .dead⟩)
   | _=>none) (Nat.beq γ' γ&&Nat.blt γ st.c)
  |_=>none
 |none=>none
noncomputable def XN(cf:CF)(N:Nat)(g:Operand)(ps:List Tmp)(asg body:Code)(st:XS):Option (Exit×XS):=match CO st.fr g with
 |some (.fn f first cap)=>mK st.fr st.s.up.length st.c (cf f ((first++[V.yld st.s.up.length BT st.c]++cap).map weakV) ⟨st.c+1,st.fr,st.s.put st.s.up.length BT st.c (.loop st.fr ps asg body N .ready)⟩)
 |_=>none
noncomputable def V2(P:Program)(E:XE)(n N:Nat)(rec:gC):gC:=fun code st=>match code with
 |.skip=>some (.normal,st)
 |.label _=>some (.normal,st)
 |.region _ ops draw=>OW (BBK P E ops.toList draw st)
 |.seq a b=>mJ rec b (rec a st)
 |.cond c a b=>sC rec a b st (CO st.fr c)
 |.block id body=>OI id (rec body st)
 |.loop body=>jQ rec body (V0 [] (st.fr.map (·.1))) n st
 |.exit id=>some (.exit id,st)
 |.ret=>some (.ret,st)
 |.scope body=>rec body st
 |.rangeFunc g ps asg body=>XN E.cf N g ps.toList asg body st
 |_=>none
abbrev GU:=Nat→gC
noncomputable def AD5(P:Program)(rs:List ResultVar)(st:XS):Option (V×Nat×List AA):=match F8 P rs st.fr st.s with
 |some r=>match A9 st.s 4 r with
  |some r'=>some (r',st.c,st.s.up.map (AL st.s))
  |none=>none
 |none=>none
noncomputable def AAT{α:Type}(rec:gC)(ret:XS→Option α)(code:Code)(st:XS):Option α:=match rec code st with
 |some (.ret,st')=>ret st'
 |some (.normal,st')=>ret st'
 |_=>none
noncomputable def Y2{α:Type}(P:Program)(rec:GU)(ret:Func→XS→Option α)(f:FuncId)(args:List V)(c:Nat)(up:List AA):Option α:=match P.funcs[f]? with
 |some fn=>match fn.body with
  |some code=>Bool.rec none (AAT (rec fn.ntmps) (ret fn) code ⟨c,AG 0 args,⟨up,[]⟩⟩) (Nat.ble args.length fn.ntmps)
  |none=>none
 |none=>none
noncomputable def jR(P:Program)(rec:GU)(f:FuncId)(args:List V)(c:Nat)(up:List AA):Option (V×Nat×List AA):=Y2 P rec (fun fn=>AD5 P fn.results.toList) f args c up
noncomputable def FB(P:Program)(rec:GU):CF0:=fun f args=>Bool.rec none (match jR P rec f args 0 []with
 |some (r,_,_)=>Bool.rec none (some r) (AH 9 r)
 | none=>none) (args.all (AH 9))
def CL{α:Type}:List α→Option (List α×α)
 |[]=>none
 |[x]=>some ([],x)
 |x::r=>match CL r with
  |some (a,b)=>some (x::a,b)
  |none=>none
noncomputable def A0(P:Program)(kn:CF0)(rec:GU):CF0:=fun f args=>match kn f args with
 |some r=>some r
 |none=>FB P rec f args
def weakM:V→V
 |.nil=>.list false []
 |v=>v
def weakN:V→V
 |.nil=>.list false []
 |.agg cs=>.agg (cs.map weakM)
 |v=>v
theorem RepV.empty{G:Gh}{v:Value}(h:RepV G .nil v):RepV G (.list false []) v:=by cases h;exact .list false [] none 0 0 0 0 #[] 0 (0,0) (fun _ _=>undef) (by simp) (fun h=>by cases h) (fun h=>absurd rfl h) (fun i h=>absurd h (by simp)) (fun i h=>absurd h (by simp)) (fun i h=>absurd h (by simp))
theorem RepV.weakM{G:Gh}{x:V}{v:Value}(h:RepV G x v):RepV G (weakM x) v:=by cases x<;>first|exact h|exact h.empty
theorem mL(x:V):(weakM x).isCell=x.isCell:=by cases x<;>rfl
theorem RepV.weakN{G:Gh}{x:V}{v:Value}(h:RepV G x v):RepV G (weakN x) v:=by
 cases x with
 |nil=>exact h.empty
 |agg cs=>
  cases h with
  |agg _ arr hl hc hr=>
   refine .agg _ arr (by simpa using hl) (fun c hc'=>?_) (fun i h1 h2=>?_)
   ·obtain⟨d,hd,rfl⟩:=List.mem_map.1 hc';rw[mL];exact hc d hd
   ·simp only[List.getElem_map];exact(hr i (by simpa using h1) h2).weakM
 |_=>exact h
theorem RepA.weakN{G:Gh}{xs:List V}{vs:List Value}(h:RepA G xs vs):RepA G (xs.map Pg.weakN) vs :=
 ⟨by simpa using h.1,fun i h1 h2=>by simp only[List.getElem_map];exact(h.2 i (by simpa using h1) h2).weakN⟩
noncomputable def GC(P:Program)(kn:CF0)(rec:GU):CF0:=fun f args=>match A0 P kn rec f (args.map weakN)with
 |some r=>Bool.rec (A0 P kn rec f args) (some r) (args.all (AH 9))
 |none=>A0 P kn rec f args
def BNF(P:Program)(T:TypeId):Bool:=match P.underlying T with
 |some (.pointer _)=>true
 |_=>false
def BL(P:Program)(f:FuncId):Bool:=match P.funcs[f]? with
 |some fn=>fn.resultTypes.toList.any (BNF P)
 |none=>false
noncomputable def eB(P:Program)(kn:CF0)(rec:GU):CF:=fun f args st=>Bool.rec (match jR P rec f args st.c (st.s.up++[st.s.loc])with
 |some (r,c,up)=>match CL up with
  |some (u,l)=>some (r,⟨c,st.fr,⟨u,l⟩⟩)
  |none=>none
 | none=>none) (match GC P kn rec f args with
  |some r=>some (r,st)
  | none=>none) (args.all (AH 9)&&!(BL P f))
noncomputable def wJ(P:Program)(fn:Func)(st:XS):Option Mk:=match F8 P fn.results.toList st.fr st.s with
 | some (.vec l k γ n)=>Bool.rec none (match st.s.loc.get k with
  |some (γ',.vec T es)=>Bool.rec none (some ⟨.vec T es,none⟩) (Nat.beq γ' γ&&Nat.beq n es.length&&es.all fun e=>e.all (AH 9))
  | _=>none) (Nat.beq l st.s.up.length)
 | some v=>Bool.rec none (match fn.resultTypes.toList with
  |[R]=>match B0 P R with
   |some (none,T)=>some ⟨.vec T [],none⟩
   |_=>none
  | _=>none) (ZA v)
 |none=>none
def IF(P:Program)(f:FuncId):Bool:=match P.funcs[f]? with
 |some fn=>match fn.resultTypes.toList with
  |[R]=>match B0 P R with
   |some (none,_)=>true
   |_=>false
  |_=>false
 |none=>false
noncomputable def OJ(P:Program)(rec:GU)(f:FuncId)(args:List V):Option Mk:=Bool.rec none (Y2 P rec (wJ P) f args 0 []) (args.all (AH 9))
noncomputable def QB(P:Program)(kn:CF0)(ko:CFO)(rec:GU):CFO:=fun f args d=>match ko f args d with
 |some r=>some r
 | none=>Bool.rec (match GC P kn rec f args with
  |some r=>some ⟨.dead,some r⟩
  | none=>none) (OJ P rec f args) (IF P f)
def AAU(k γ:Nat):Nat→V→Bool
 |0=>fun _=>false
 |f+1=>fun v=>match v with
  |.vec l k' γ' _=>Nat.beq l 0&&Nat.beq k' k&&Nat.beq γ' γ
  |.agg cs=>cs.all (AAU k γ f)
  |.tup cs=>cs.all (AAU k γ f)
  |.list _ es=>es.all fun e=>e.all (AAU k γ f)
  |.int _ _=>true
  |.bool _=>true
  |.nil=>true
  |_=>false
def tmV(d:Nat):Nat→V→V
 |0=>fun v=>v
 |f+1=>fun v=>match v with
  |.vec _ _ _ m=>.vec 0 d 0 m
  |.agg cs=>.agg (cs.map (tmV d f))
  |.tup cs=>.tup (cs.map (tmV d f))
  |.list b es=>.list b (es.map (List.map (tmV d f)))
  |v=>v
noncomputable def BNG(P:Program)(k d:Nat)(fn:Func)(st:XS):Option Mk:=match F8 P fn.results.toList st.fr st.s,st.s.loc.get k with
 |some v,some (γ,.vec T es)=>Bool.rec none (some ⟨.vec T es,some (tmV d 4 v)⟩) (AAU k γ 4 v&&es.all fun e=>e.all (AH 9))
 |_,_=>none
noncomputable def BR2(P:Program)(rec:GU)(k:Nat)(f:FuncId)(args:List V)(d:Tmp):Option Mk:=Bool.rec none (Y2 P rec (BNG P k d) f args 0 []) (args.all (AH 9))
noncomputable def IZ(s:St)(u:List AA)(l:AA):St:=⟨u.map (AL s),AL s l⟩
noncomputable def XO(fr:Fr)(l q γ:Nat)(r:Option (Exit×XS)):Option (V×XS):=match r with
 |some (e,st)=>match st.s.get l q with
  | some (γ',.loop fr0 ps asg body N .busy)=>Bool.rec none (match CL st.s.up with
   |some (u,lc)=>match e with
    |.normal=>some (.bool true,⟨st.c,fr,(IZ st.s u lc).put l q γ (.loop fr0 ps asg body N .ready)⟩)
    |.ret=>some (.bool false,⟨st.c,fr,(IZ st.s u lc).put l q γ (.loop fr0 ps asg body N (.left .ret))⟩)
    |.exit id=>some (.bool false,⟨st.c,fr,(IZ st.s u lc).put l q γ (.loop fr0 ps asg body N (.left (.exit id)))⟩)
    |_=>none
   | none=>none) (Nat.beq γ' γ&&Nat.blt l st.s.up.length&&Nat.blt γ st.c)
  |_=>none
 |none=>none
noncomputable def eC(rec:gC)(l q γ:Nat)(body:Code)(r:Option (Exit×XS)):Option (Exit×XS):=match r with
 |some (.normal,st)=>match st.s.get l q with
  |some (γ',.loop fr0 ps asg body' N .ready)=>Bool.rec none (rec body ⟨st.c,st.fr,st.s.put l q γ (.loop fr0 ps asg body' N .busy)⟩) (Nat.beq γ' γ&&Nat.blt γ st.c)
  |_=>none
 |_=>none
noncomputable def eD(rec:GU):CY:=fun l q γ vs st=>match st.s.get l q with
 |some (γ',.loop fr0 ps asg body N .ready)=>Bool.rec none (XO st.fr l q γ (eC (rec N) l q γ body (rec N asg ⟨st.c,J8 fr0 ps vs,⟨st.s.up++[st.s.loc],[]⟩⟩))) (Nat.beq γ' γ&&Nat.beq vs.length ps.length&&Nat.blt γ st.c)
 |_=>none
noncomputable def AX2(P:Program)(kn:CF0)(ko:CFO)(lit:Tmp→Bool)(rec:GU):XE:=⟨eB P kn rec,eD rec,GC P kn rec,QB P kn ko rec,lit⟩
noncomputable def BXI(P:Program)(kn:CF0)(ko:CFO)(lit:Tmp→Bool)(n:Nat):GU:=Nat.rec (motive:=fun _=>GU) (fun _ _ _=>none) (fun n ih N=>V2 P (AX2 P kn ko lit ih) n N (ih N)) n
def wK(fn:Func):Bool:=match fn.body with
 | some c => !(fn.name == "runtime.NumGoroutine") && FJ fn.ntmps c
 |none=>true
structure E2(P:Program):Prop where
 all:P.funcs.toList.all wK=true
 mixed:P.follows .mixedOrders=true
def eE(P:Program)(N:Nat)(rec:gC):Prop:=∀code st e st',rec code st=some (e,st')→Bd st→FJ N code=true→LM st st'∧(∀l,e≠.goto l) ∧
 ∀(n:Nat) (ρ:Option Nat) (σ:Nat→Nat) (pre:List AA) (K:Exit→Fr→St→Prop),(ρ=none∨GY code=true)→(∀σ',AX st.c σ σ'→K e (st'.fr.ren σ' pre.length) (st'.s.emb σ' pre))→BQ P n N ρ code K (st.fr.ren σ pre.length) (st.s.emb σ pre)
def eF(P:Program)(rec:GU):Prop:=∀N,eE P N (rec N)
theorem QC{α:Type}:∀{l:List α} {u:List α} {x:α},CL l=some (u,x)→l=u++[x]
 |[],u,x,h=>by cases h
 |[y],u,x,h=>by cases h;rfl
 |y::z::r,u,x,h=>by
  simp only[CL]at h;split at h
  ·rename_i a b e;cases h;rw[QC (l:=z::r) e];rfl
  ·cases h
theorem AI5{c:Nat}{args:List V}(h:∀v∈args,WK c v)(σ σ':Nat→Nat)(δ:Nat)(ha:AX c σ σ'):(AG 0 args).ren σ δ=(AG 0 args).ren σ' δ:=by rw[←Q6,←Q6];congr 1;exact List.map_congr_left fun v hv=>h v hv σ σ' δ ha
theorem AX3{st:XS}(h:Bd st){rs:List ResultVar}{v r:V}(hv:F8 P rs st.fr st.s=some v)(hr:A9 st.s 4 v=some r):WK st.c r:=by intro σ σ' δ ha;have q1:=P9 (σ:=σ) (pre:=List.replicate δ []) hv;have q2:=P9 (σ:=σ') (pre:=List.replicate δ []) hv;rw[h.f σ σ' _ ha,h.s σ σ' _ ha,q2]at q1;have q:=Option.some.inj q1;have r1:=K2 (σ:=σ) (pre:=List.replicate δ []) 4 hr;have r2:=K2 (σ:=σ') (pre:=List.replicate δ []) 4 hr;rw[h.s σ σ' _ ha,←q,r2]at r1;have:=Option.some.inj r1;rw[List.length_replicate]at this;exact this.symm
theorem IG(u:List AA)(l:AA)(i k:Nat):(⟨u,l⟩:St).get i k=match(u++[l])[i]? with
  |some L=>L.get k
  |none=>none:=by
 unfold St.get
 simp only
 by_cases h:i=u.length
 ·subst h;simp
 ·rw[if_neg h];rcases Nat.lt_or_ge i u.length with h'|h'
  ·rw[List.getElem?_append_left h'];rfl
  ·rw[List.getElem?_append_right h',List.getElem?_eq_none h'];have:1≤i-u.length:=by omega
   rw[List.getElem?_eq_none (by simpa using this)]
theorem wL(L:AA)(k g:Nat)(r:A6)(h:((AL s L).ren σ pre.length).get k=some (g,r)):∃r0,(L.ren σ pre.length).get k=some (g,r0)∧(r=r0∨r=H2 (s.emb σ pre) r0):=by
 rw[AA.get_ren,OA]at h;rw[AA.get_ren];cases hL:L.get k with
 |none=>rw[hL]at h;cases h
 |some p=>
  rw[hL]at h
  cases h
  exact⟨p.2.ren σ pre.length,rfl,rQ p.2⟩
theorem jS{s:St}{F:List AA}{u u2:List AA}{l l2:AA}(h1:u++[l]=pre++F.map (AA.ren σ pre.length))(h2:u2++[l2]=pre++(F.map (AL s)).map (AA.ren σ pre.length)):pV (s.emb σ pre) ⟨u,l⟩ ⟨u2,l2⟩:=by
 have hlen:u2.length=u.length:=by have a1:=congrArg List.length h1;have a2:=congrArg List.length h2;simp at a1 a2;omega
 refine⟨hlen,fun i k g r hg=>?_⟩;rw[IG,h2]at hg;rw[IG,h1];rcases Nat.lt_or_ge i pre.length with hi|hi
 ·rw[List.getElem?_append_left hi]at hg⊢;exact⟨r,hg,.inl rfl⟩
 ·rw[List.getElem?_append_right hi]at hg⊢;simp only[List.map_map,List.getElem?_map]at hg⊢;cases hF:F[i-pre.length]? with
  |none=>rw[hF]at hg;cases hg
  |some L=>
   rw[hF]at hg
   exact wL L k g r hg
theorem wM{s:St}{c:Nat}(hs:∀σ σ' pre,AX c σ σ'→s.emb σ pre=s.emb σ' pre){r:A6}(hr:∀σ σ' δ,AX c σ σ'→r.ren σ δ=r.ren σ' δ)(σ σ':Nat→Nat)(δ:Nat)(ha:AX c σ σ'):(CM s r).ren σ δ=(CM s r).ren σ' δ:=by
 unfold CM;split
 ·rename_i r' h;have q1:=MN (σ:=σ) (pre:=List.replicate δ []) h;have q2:=MN (σ:=σ') (pre:=List.replicate δ []) h;rw[hs σ σ' _ ha]at q1;simp only[List.length_replicate]at q1 q2;rw[hr σ σ' _ ha,q2]at q1;exact(Option.some.inj q1).symm
 ·exact hr σ σ' δ ha
theorem sD{L:AA}{δ:Nat}(σ σ':Nat→Nat):L.ren σ δ=L.ren σ' δ↔∀p∈L,σ p.2.1=σ' p.2.1∧p.2.2.ren σ δ=p.2.2.ren σ' δ:=by unfold AA.ren;rw[List.map_inj_left];simp only[Prod.mk.injEq,true_and]
theorem jT{s:St}{c:Nat}(hs:∀σ σ' pre,AX c σ σ'→s.emb σ pre=s.emb σ' pre){L:AA}(hL:∀σ σ' δ,AX c σ σ'→L.ren σ δ=L.ren σ' δ)(σ σ':Nat→Nat)(δ:Nat)(ha:AX c σ σ'):(AL s L).ren σ δ=(AL s L).ren σ' δ:=by rw[sD];intro p hp;obtain⟨x,hx,rfl⟩:=List.mem_map.1 hp;have h1:∀σ σ' δ,AX c σ σ'→σ x.2.1=σ' x.2.1∧x.2.2.ren σ δ=x.2.2.ren σ' δ:=fun σ σ' δ ha=>(sD σ σ').1 (hL σ σ' δ ha) x hx;exact⟨(h1 σ σ' δ ha).1,wM hs (fun σ σ' δ ha=>(h1 σ σ' δ ha).2) σ σ' δ ha⟩
theorem AI6{s:St}{c:Nat}(hs:∀σ σ' pre,AX c σ σ'→s.emb σ pre=s.emb σ' pre):∀L∈s.up,∀σ σ' δ,AX c σ σ'→L.ren σ δ=L.ren σ' δ:=by intro L hL σ σ' δ ha;have:=hs σ σ' (List.replicate δ []) ha;simp only[St.emb,St.mk.injEq,List.length_replicate]at this;exact List.map_inj_left.1 (List.append_cancel_left this.1) L hL
theorem jU(s:St)(L:AA){k γ:Nat}{fr:Fr}{ps:List Tmp}{asg body:Code}{N:Nat}{st:LS}(h:(AL s L).get k=some (γ,.loop fr ps asg body N st)):L.get k=some (γ,.loop fr ps asg body N st):=by
 rw[OA]at h;cases hL:L.get k with
 |none=>rw[hL]at h;cases h
 |some p=>
  rw[hL]at h
  simp only[Option.map_some,Option.some.injEq,Prod.mk.injEq]at h
  obtain⟨h1,h2⟩:=h
  obtain⟨g,r⟩:=p
  simp only at h1 h2
  subst h1
  congr 2
  cases r with
  |loop=>exact h2
  |box cs=>unfold CM at h2;split at h2<;>rename_i e<;>simp only[CJ]at e<;>(try (split at e<;>cases e))<;>cases h2
  |vec T es=>unfold CM at h2;split at h2<;>rename_i e<;>simp only[CJ]at e<;>(try (split at e<;>cases e))<;>cases h2
  |map es=>unfold CM at h2;split at h2<;>rename_i e<;>simp only[CJ]at e<;>(try (split at e<;>cases e))<;>cases h2
  |dead=>unfold CM at h2;split at h2<;>rename_i e<;>simp only[CJ]at e<;>cases e;cases h2
def FX(P:Program)(f:FuncId)(args:List V)(c:Nat)(up:List AA)(r:V)(c':Nat)(up':List AA):Prop:=c≤c'∧WK c' r∧(∀σ σ' δ,AX c' σ σ'→up'.map (AA.ren σ δ)=up'.map (AA.ren σ' δ))∧up'.length=up.length ∧
  (∀L∈up',∀k γ fr ps asg body N st,L.get k=some (γ,.loop fr ps asg body N st)→VW N ps asg body=true) ∧
  ∀(σ:Nat→Nat) (pre:List AA) (s:St) (K:V→St→Prop),s.up++[s.loc]=pre++up.map (AA.ren σ pre.length)→(∀σ' u l,AX c σ σ'→u++[l]=pre++up'.map (AA.ren σ' pre.length)→K (r.ren σ' pre.length) ⟨u,l⟩)→F6 P f (args.map (V.ren σ pre.length)) s K
theorem eG(hP:E2 P){rec:GU}(hrec:eF P rec){α:Type}{ret:Func→XS→Option α}{f:FuncId}{args:List V}{c:Nat}{up:List AA}{x:α}(hx:Y2 P rec ret f args c up=some x)(hargs:∀v∈args,WK c v)
  (hup:∀σ σ' δ,AX c σ σ'→up.map (AA.ren σ δ)=up.map (AA.ren σ' δ)) (hlp:∀L∈up,∀k γ fr ps asg body N st,L.get k=some (γ,.loop fr ps asg body N st)→VW N ps asg body=true) :
  ∃fn st',ret fn st'=some x∧Bd st'∧c≤st'.c∧st'.s.up.length=up.length∧∀(σ:Nat→Nat) (pre:List AA) (s:St) (K:V→St→Prop),s.up++[s.loc]=pre++up.map (AA.ren σ pre.length) →
   (∀σ',AX c σ σ'→AXR P fn.results.toList (s.up.length+1) K .ret (st'.fr.ren σ' pre.length) (st'.s.emb σ' pre))→F6 P f (args.map (V.ren σ pre.length)) s K:=by
 unfold Y2 at hx
 split at hx
 ·rename_i fn hf;split at hx
  ·rename_i code hb;obtain⟨hsz,hx1⟩:=E7 hx;have hck:wK fn=true:=List.all_eq_true.1 hP.all fn (by
    have:=Array.mem_of_getElem? hf;simpa using this)
   simp only[wK,hb,Bool.and_eq_true,Bool.not_eq_true']at hck;have hbd:Bd ⟨c,AG 0 args,⟨up,[]⟩⟩:=⟨fun σ σ' δ ha=>AI5 hargs σ σ' δ ha,fun σ σ' pre ha=>by simp only[St.emb,hup σ σ' _ ha]; rfl,fun l k γ fr ps asg body N st hg=>by
    rw[IG]at hg;split at hg
    ·rename_i L hL;rcases List.mem_append.1 (List.mem_of_getElem? hL)with hm|hm
     ·exact hlp L hm _ _ _ _ _ _ _ _ hg
     ·have:L=[]:=by simpa using hm
      subst this;simp at hg
    ·cases hg⟩
   have main:∀e st',rec fn.ntmps code ⟨c,AG 0 args,⟨up,[]⟩⟩=some (e,st')→(e=.ret∨e=.normal)→ret fn st'=some x→∃fn st',ret fn st'=some x∧Bd st'∧c≤st'.c∧st'.s.up.length=up.length∧∀(σ:Nat→Nat) (pre:List AA) (s:St) (K:V→St→Prop),s.up++[s.loc]=pre++up.map (AA.ren σ pre.length) →
     (∀σ',AX c σ σ'→AXR P fn.results.toList (s.up.length+1) K .ret (st'.fr.ren σ' pre.length) (st'.s.emb σ' pre))→F6 P f (args.map (V.ren σ pre.length)) s K:=by
    intro e st' h1 he h2
    obtain⟨hE,_,hC⟩:=hrec _ _ _ _ _ h1 hbd hck.2
    refine⟨fn,st',h2,hE.bd,hE.c,hE.n,fun σ pre s K hs hk=>?_⟩
    refine BBD hf hb (qQ hf hb hck.1) (by simpa using hsz) ?_
    have e1:(⟨s.up++[s.loc],[]⟩:St)=(⟨up,[]⟩:St).emb σ pre:=by simp only[St.emb,hs];rfl
    rw[Q6,e1]
    refine hC _ none σ pre _ (.inl rfl) fun σ' ha=>?_
    have:=hk σ' ha
    rcases he with rfl|rfl<;>exact this
   unfold AAT at hx1;split at hx1
   ·rename_i st' h1;exact main _ _ h1 (.inl rfl) hx1
   ·rename_i st' h1;exact main _ _ h1 (.inr rfl) hx1
   ·cases hx1
  ·cases hx
 ·cases hx
theorem sE(hP:E2 P){rec:GU}(hrec:eF P rec){f:FuncId}{args:List V}{c:Nat}{up:List AA}{r:V}{c':Nat}{up':List AA}(hx:jR P rec f args c up=some (r,c',up'))(hargs:∀v∈args,WK c v)
  (hup:∀σ σ' δ,AX c σ σ'→up.map (AA.ren σ δ)=up.map (AA.ren σ' δ)) (hlp:∀L∈up,∀k γ fr ps asg body N st,L.get k=some (γ,.loop fr ps asg body N st)→VW N ps asg body=true):FX P f args c up r c' up':=by
 obtain⟨fn,st',hret,hbd,hc,hlen,hA⟩:=eG hP hrec hx hargs hup hlp
 unfold AD5 at hret
 split at hret
 ·rename_i r0 hr0;split at hret
  ·rename_i r1 hr1;cases hret;refine⟨hc,AX3 hbd hr0 hr1,fun σ σ' δ ha=>?_,by simpa using hlen,fun L hL k γ fr ps asg body N st hg=>?_,fun σ pre s K hs hk=>hA σ pre s K hs fun σ' ha=>?_⟩
   ·simp only[List.map_map];exact List.map_congr_left fun L hL=>jT hbd.s (AI6 hbd.s L hL) σ σ' δ ha
   ·obtain⟨L0,hL0,rfl⟩:=List.mem_map.1 hL;have hg:=jU _ _ hg;obtain⟨i,hi,rfl⟩:=List.getElem_of_mem hL0;refine hbd.lp i k γ fr ps asg body N st ?_;unfold St.get;rw[if_neg (by omega),List.getElem?_eq_getElem hi];exact hg
   ·have hl2:(st'.s.emb σ' pre).up.length=s.up.length+1:=by have q:=congrArg List.length hs;simp only[List.length_append,List.length_singleton,List.length_map]at q;rw[DV,hlen];omega
    rcases List.eq_nil_or_concat (st'.s.emb σ' pre).up with h0|⟨u,l,h0⟩
    ·rw[h0]at hl2;simp at hl2
    ·have h0:(st'.s.emb σ' pre).up=u++[l]:=by simpa using h0
     have hu:u.length+1=s.up.length+1:=by rw[←hl2,h0];simp
     have hcl:=P8 4 (K2 (σ:=σ') (pre:=pre) 4 hr1);have hres:=P9 (σ:=σ') (pre:=pre) hr0;rcases List.eq_nil_or_concat (pre++(st'.s.up.map (AL st'.s)).map (AA.ren σ' pre.length))with h3|⟨u2,l2,h3⟩
     ·have h4:=congrArg List.length h3;have h5:=congrArg List.length h0;simp only[St.emb,List.length_append,List.length_map,List.length_nil,List.length_singleton]at h4 h5;omega
     ·have h3:pre++(st'.s.up.map (AL st'.s)).map (AA.ren σ' pre.length)=u2++[l2]:=by simpa using h3
      have hK:=hk σ' u2 l2 ha h3.symm;have hS:=jS (s:=st'.s) (F:=st'.s.up) (u:=u) (l:=l) (u2:=u2) (l2:=l2) (σ:=σ') (pre:=pre) h0.symm h3.symm;exact⟨u,l,_,h0,hu,hres,.inl ⟨_,_,by rw[hcl];exact Wk.refl _,hS,hK⟩⟩
  ·cases hret
 ·cases hret
theorem XP{c:Nat}{args:List V}(h:args.all (AH 9)=true):∀v∈args,WK c v:=fun v hv σ σ' δ _=>by rw[E9 9 v (List.all_eq_true.1 h v hv),E9 9 v (List.all_eq_true.1 h v hv)]
theorem eH(hP:E2 P){rec:GU}(hrec:eF P rec):IB P (FB P rec):=by
 intro f args r hx;unfold FB at hx;obtain⟨hcl,hx1⟩:=E7 hx;split at hx1
 ·rename_i r0 c' up' h1;obtain⟨hr,rfl⟩:=KN hx1;obtain⟨_,_,_,hlen,_,hA⟩:=sE hP hrec h1 (XP hcl) (fun _ _ _ _=>rfl) (fun L hL=>by cases hL);have hargs:∀v∈args,∀σ δ,V.ren σ δ v=v:=fun v hv σ δ=>E9 9 v (List.all_eq_true.1 hcl v hv);have hup:up'=[]:=List.eq_nil_of_length_eq_zero hlen;refine⟨fun s=>?_,hargs,fun σ δ=>E9 9 _ hr⟩;have:=hA id (s.up++[s.loc]) s (fun r' s'=>r'=r0∧s'=s) (by simp) fun σ' u l _ hu=>?_
  ·have e:args.map (V.ren id (s.up++[s.loc]).length)=args:=by
    conv=>rhs;rw[←List.map_id args]
    exact List.map_congr_left fun v hv=>hargs v hv _ _
   rw[e]at this;exact this
  ·rw[hup]at hu;simp only[List.map_nil,List.append_nil]at hu;obtain⟨e1,e2⟩:=List.append_inj' hu rfl;refine⟨E9 9 _ hr,?_⟩;subst e1;simp only[List.cons.injEq,and_true]at e2;subst e2;rfl
 ·cases hx1
theorem eI(hP:E2 P){kn:CF0}(hkn:IB P kn){rec:GU}(hrec:eF P rec):IB P (A0 P kn rec):=by
 intro f args r hx;unfold A0 at hx;split at hx
 ·rename_i r0 h0;cases hx;exact hkn _ _ _ h0
 ·exact eH hP hrec _ _ _ hx
theorem eJ(hP:E2 P){kn:CF0}(hkn:IB P kn){rec:GU}(hrec:eF P rec):IB P (GC P kn rec):=by
 intro f args r hx;unfold GC at hx;split at hx
 ·rename_i r0 h0;cases hcl:args.all (AH 9)with
  |false=>rw[hcl]at hx;exact eI hP hkn hrec _ _ _ hx
  |true=>
   rw[hcl]at hx
   cases hx
   obtain⟨hA,_,h2⟩:=eI hP hkn hrec _ _ _ h0
   exact⟨fun s=>⟨(hA s).1,fun G vals w R hI ha hR=>(hA s).2 G vals w R hI ha.weakN hR⟩,fun v hv σ δ=>E9 9 v (List.all_eq_true.1 hcl v hv),h2⟩
 ·exact eI hP hkn hrec _ _ _ hx
theorem handed(hP:E2 P){rec:GU}(hrec:eF P rec){f:FuncId}{args:List V}{ret:Func→XS→Option Mk}{r:Mk}{d:Tmp}(hcl:args.all (AH 9)=true)(hx:Y2 P rec ret f args 0 []=some r)
  (hr:∀(fn:Func) (st':XS),ret fn st'=some r→st'.s.up=[]→∀(s:St) (σ':Nat→Nat),∃r0,F8 P fn.results.toList (st'.fr.ren σ' (s.up++[s.loc]).length) (st'.s.emb σ' (s.up++[s.loc]))=some r0 ∧
   ((∃k γ T es,(st'.s.emb σ' (s.up++[s.loc])).loc.get k=some (γ,.vec T es)∧mvV (s.up.length+1) k s.up.length d 4 r0=r.val s.up.length d γ∧r.res=.vec T es)∨(∃T,ZA r0=true∧r=⟨.vec T [],none⟩)))
  (s:St):F6 P f args s fun v s'=>∃γ,v=r.val s.up.length d γ∧s'=s.put s.up.length d γ r.res:=by
 obtain⟨fn,st',hret,hbd,hc,hlen,hA⟩:=eG hP hrec hx (XP hcl) (fun _ _ _ _=>rfl) (fun L hL=>by cases hL)
 have hargs:∀v∈args,∀σ δ,V.ren σ δ v=v:=fun v hv σ δ=>E9 9 v (List.all_eq_true.1 hcl v hv)
 have hup:st'.s.up=[]:=List.eq_nil_of_length_eq_zero hlen
 have:=hA id (s.up++[s.loc]) s (fun v s'=>∃γ,v=r.val s.up.length d γ∧s'=s.put s.up.length d γ r.res) (by simp) fun σ' _=>?_
 ·have e:args.map (V.ren id (s.up++[s.loc]).length)=args:=by
   conv=>rhs;rw[←List.map_id args]
   exact List.map_congr_left fun v hv=>hargs v hv _ _
  rw[e]at this;exact this
 ·obtain⟨r0,h1,h2⟩:=hr fn st' hret hup s σ';refine⟨s.up,s.loc,r0,by simp[St.emb,hup],rfl,h1,.inr ?_⟩;rcases h2 with⟨k,γ,T,es,h3,h4,h5⟩|⟨T,h3,h4⟩
  ·exact .inl ⟨k,γ,T,es,d,h3,γ,h4,by rw[h5]⟩
  ·subst h4;exact .inr ⟨d,T,h3,fun γ=>⟨γ,rfl,rfl⟩⟩
theorem AD6(hP:E2 P){rec:GU}(hrec:eF P rec){f:FuncId}{args:List V}{r:Mk}{d:Tmp}(hx:OJ P rec f args=some r) :
  (∀(s:St),F6 P f args s fun v s'=>∃γ,v=r.val s.up.length d γ∧s'=s.put s.up.length d γ r.res)∧(∀v∈args,∀σ δ,v.ren σ δ=v)∧(∀σ δ,r.res.ren σ δ=r.res)∧gA r.res=true:=by
 unfold OJ at hx
 obtain⟨hcl,hx1⟩:=E7 hx
 have hargs:∀v∈args,∀σ δ,V.ren σ δ v=v:=fun v hv σ δ=>E9 9 v (List.all_eq_true.1 hcl v hv)
 have main:∀(fn:Func) (st':XS),wJ P fn st'=some r→((∀σ δ,r.res.ren σ δ=r.res)∧gA r.res=true)∧(st'.s.up=[]→∀(s:St) (σ':Nat→Nat),∃r0,F8 P fn.results.toList (st'.fr.ren σ' (s.up++[s.loc]).length) (st'.s.emb σ' (s.up++[s.loc]))=some r0 ∧
   ((∃k γ T es,(st'.s.emb σ' (s.up++[s.loc])).loc.get k=some (γ,.vec T es)∧mvV (s.up.length+1) k s.up.length d 4 r0=r.val s.up.length d γ∧r.res=.vec T es)∨(∃T,ZA r0=true∧r=⟨.vec T [],none⟩))):=by
  intro fn st' hret
  unfold wJ at hret
  split at hret
  ·rename_i l k γ n hres;obtain⟨hl,hret⟩:=E7 hret;have hl:=Nat.eq_of_beq_eq_true hl;split at hret
   ·rename_i γ' T es hget;obtain⟨hc2,he⟩:=KN hret;cases he;simp only[Bool.and_eq_true]at hc2;obtain⟨⟨h1,h2⟩,h3⟩:=hc2;have h1:=Nat.eq_of_beq_eq_true h1;have h2:=Nat.eq_of_beq_eq_true h2;subst h1;subst h2;have hes:∀σ δ,es.map (List.map (V.ren σ δ))=es:=fun σ δ=>by
     conv=>rhs;rw[←List.map_id es]
     exact List.map_congr_left fun e he=>OH (fun v=>E9 9 v) (List.all_eq_true.1 h3 e he)
    refine⟨⟨fun σ δ=>by simp only[A6.ren,hes],rfl⟩,fun hup s σ'=>⟨_,P9 hres,.inl ⟨k,σ' γ',T,es,?_,?_,rfl⟩⟩⟩
    ·rw[MA,hget];simp only[Option.map_some,A6.ren,hes]
    ·rw[hup]at hl;subst hl;simp[mvV,Mk.val,H3]
   ·cases hret
  ·rename_i v hnv hres;obtain⟨hn,hret⟩:=E7 hret;split at hret
   ·split at hret
    ·rename_i T _;cases hret;exact⟨⟨fun _ _=>rfl,rfl⟩,fun hup s σ'=>⟨_,P9 hres,.inr ⟨_,by rw[AIU];exact hn,rfl⟩⟩⟩
    ·cases hret
   ·cases hret
  ·cases hret
 obtain⟨fn,st',hret,_⟩:=eG hP hrec hx1 (XP hcl) (fun _ _ _ _=>rfl) (fun L hL=>by cases hL)
 exact⟨handed hP hrec hcl hx1 fun fn st' h=>(main fn st' h).2,hargs,(main fn st' hret).1⟩
theorem C6.nought{G:Gh}{s:St}{w:World}(hI:C6 G s w)(d γ:Nat):C6 G (s.put s.up.length d γ .dead) w:=by
 have look:∀{l k x},(s.put s.up.length d γ .dead).get l k=some x→x=(γ,.dead)∨s.get l k=some x:=fun {l k x} h=>by
  rw[St.get_putLoc]at h;split at h
  ·exact .inl (Option.some.inj h).symm
  ·exact .inr h
 refine⟨hI.sl,fun l k g r h=>?_,fun l k g r l' k' g' r' b h1 h2 h3 h4=>?_,fun l k g r b h1 h2=>?_,hI.fresh,hI.env⟩
 ·rcases look h with e|e
  ·cases e;trivial
  ·exact hI.res _ _ _ _ e
 ·rcases look h1 with e|e1
  ·cases e;cases h3
  ·rcases look h2 with e|e2
   ·cases e;cases h4
   ·exact hI.sep _ _ _ _ _ _ _ _ _ e1 e2 h3 h4
 ·rcases look h1 with e|e
  ·cases e;cases h2
  ·exact hI.out _ _ _ _ _ e h2
theorem AI7(hP:E2 P){kn:CF0}(hkn:IB P kn){ko:CFO}(hko:mE P ko){rec:GU}(hrec:eF P rec):mE P (QB P kn ko rec):=by
 intro f args d r hx;unfold QB at hx;split at hx
 ·rename_i r0 h0;cases hx;exact hko _ _ _ _ h0
 ·cases hs:IF P f with
  |true=>
   rw[hs]at hx
   exact AD6 hP hrec hx
  |false=>
   rw[hs]at hx
   have hx:(match GC P kn rec f args with
    |some r=>some (⟨.dead,some r⟩:Mk)
    | none=>none)=some r:=hx
   split at hx
   ·rename_i r0 h0;cases hx;obtain⟨hA,h1,h2⟩:=eJ hP hkn hrec _ _ _ h0;refine⟨fun s=>⟨(hA s).1,fun G vals w R hI ha hR=>(hA s).2 G vals w R hI ha fun G' v u w' s' hle hI' hv hlen hk=>?_⟩,h1,fun _ _=>rfl,rfl⟩;obtain⟨rfl,rfl⟩:=hk;exact hR G' _ u w' (s'.put s'.up.length d 0 .dead) hle (hI'.nought d 0) hv (St.put_len _ _ _ _ _) ⟨0,(h2 _ _).symm,rfl⟩
   ·cases hx
theorem AI8(hP:E2 P){kn:CF0}(hkn:IB P kn){rec:GU}(hrec:eF P rec):jN P (eB P kn rec):=by
 intro f args st r st' hx hbd hargs;unfold eB at hx;cases hcl:(args.all (AH 9)&&!(BL P f))with
 |true=>
  rw[hcl]at hx
  have hx:(match GC P kn rec f args with|some r=>some (r,st)|none=>none)=some (r,st'):=hx
  split at hx
  ·rename_i r0 h0;cases hx;obtain⟨hA,h1,h2⟩:=eJ hP hkn hrec _ _ _ h0;refine⟨⟨Nat.le_refl _,hbd,rfl⟩,fun σ σ' δ _=>by rw[h2,h2],rfl,fun σ pre K hk=>?_⟩;have e:args.map (V.ren σ pre.length)=args:=by
    conv=>rhs;rw[←List.map_id args]
    exact List.map_congr_left fun v hv=>h1 v hv _ _
   rw[e];refine(hA (st.s.emb σ pre)).mono fun r' s' q5=>?_;obtain⟨rfl,rfl⟩:=q5;have:=hk σ (AX.refl _ _);rwa [h2]at this
  ·cases hx
 |false=>
  rw[hcl]at hx
  have hx:(match jR P rec f args st.c (st.s.up++[st.s.loc])with
   |some (r,c,up)=>match CL up with
    |some (u,l)=>some (r,(⟨c,st.fr,⟨u,l⟩⟩:XS))
    |none=>none
   | none=>none)=some (r,st'):=hx
  split at hx
  ·rename_i r0 c0 up0 h1;split at hx
   ·rename_i u l hu;cases hx;have hup0:=QC hu;have hsb:∀σ σ' δ,AX st.c σ σ'→(st.s.up++[st.s.loc]).map (AA.ren σ δ)=(st.s.up++[st.s.loc]).map (AA.ren σ' δ):=by intro σ σ' δ ha;have:=hbd.s σ σ' (List.replicate δ []) ha;simp only[St.emb,St.mk.injEq,List.length_replicate]at this;simp only[List.map_append,List.map_cons,List.map_nil];rw[List.append_cancel_left this.1,this.2]
    have hlp:∀L∈st.s.up++[st.s.loc],∀k γ fr ps asg body N st,L.get k=some (γ,.loop fr ps asg body N st)→VW N ps asg body=true:=by intro L hL k γ fr ps asg body N ls hg;obtain⟨i,hi⟩:=List.getElem?_of_mem hL;refine hbd.lp i k γ fr ps asg body N ls ?_;have:=IG st.s.up st.s.loc i k;rw[hi]at this;exact this.trans hg
    obtain⟨hc,hrb,hub,hlen,hlp',hA⟩:=sE hP hrec h1 hargs hsb hlp;subst hup0;refine⟨⟨hc,⟨fun σ σ' δ ha=>hbd.f σ σ' δ (ha.mono hc),fun σ σ' pre ha=>?_,fun i k γ fr ps asg body N ls hg=>?_⟩,?_⟩,hrb,rfl,fun σ pre K hk=>?_⟩
    ·have:=hub σ σ' pre.length ha;simp only[List.map_append,List.map_cons,List.map_nil]at this;obtain⟨e1,e2⟩:=List.append_inj' this rfl;simp only[List.cons.injEq,and_true]at e2;simp only[St.emb,e1,e2]
    ·rw[IG]at hg;split at hg
     ·rename_i L hL;exact hlp' L (List.mem_of_getElem? hL) _ _ _ _ _ _ _ _ hg
     ·cases hg
    ·simp only[List.length_append,List.length_singleton]at hlen;simp only;omega
    ·refine hA σ pre (st.s.emb σ pre) K (by simp[St.emb]) fun σ' u' l' ha hu'=>?_;have:=hk σ' ha;simp only[List.map_append,List.map_cons,List.map_nil,←List.append_assoc]at hu';obtain⟨e1,e2⟩:=List.append_inj' hu' rfl;simp only[List.cons.injEq,and_true]at e2;subst e1;subst e2;exact this
   ·cases hx
  ·cases hx
end Go.Pg
