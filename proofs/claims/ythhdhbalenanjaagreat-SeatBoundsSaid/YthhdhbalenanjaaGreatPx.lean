/- Running a Go function upon abstract values, by computing: one operation, and that it is what the walk asks. No program in sight. -/
import Derived.Test.YthhdhbalenanjaaGreatP5
namespace Go.Pg
variable {P:Program}{Ω:HC P}{σ σ':Nat→Nat}{δ:Nat}{pre:List AA}{s:St}{fr:Fr}{g:Bool}
def KX(all:List Oper)(o:Oper):Option (Tmp×Bool):=match o.guard with
 |none=>none
 |some (j,w)=>match all[j]? with
  |some p=>match p.dst with
   |some d=>some (d,w)
   |none=>none
  |none=>none
def uB(all:List Oper):Bool:=all.all fun o=>G9 all o (KX all o)
theorem gF{all:List Oper}:∀{l:List Oper},(∀o∈l,G9 all o (KX all o)=true)→JD all (l.map (KX all)) l=true
 |[],_=>rfl
 |o::l,h=>by simp only[List.map_cons,JD,Bool.and_eq_true];exact⟨h o (by simp),gF fun p hp=>h p (by simp[hp])⟩
theorem TV{all:List Oper}(h:uB all=true):∀o∈all,G9 all o (KX all o)=true:=fun o ho=>List.all_eq_true.1 h o ho
def A4J(d:Tmp)(p:Oper):Bool:=match p.op with
 |.call { callee:=.builtin .append,args,.. }=>match args.toList with
  |.tmp t::_=>Nat.beq t d
  |_=>false
 |.call { callee:=.value (.func _),args,argTypes }=>match args.toList,argTypes.toList with
  |[.tmp t,_],[T,U]=>Nat.beq t d&&Nat.beq T p.type&&!(Nat.beq U T)
  |_,_=>false
 |_=>false
def ARG(d:Tmp)(p:Oper):Bool:=match p.op with
 |.store _ _ (.tmp t)=>Nat.beq t d
 |_=>false
def DR(l:List Oper)(o:Oper):Bool:=match o.op,o.dst with
 |.call { callee:=.value _,.. },some d=>l.any fun p=>A4J d p||ARG d p
 |_,_=>false
def kS(o:Oper):Bool:=match o.op with
 |.mapUpdate ..|.insert ..=>true
 |.call { callee:=.builtin b,.. }=>match b with
  |.len|.max|.min|.cap|.append=>false
  |_=>true
 |_=>false
def kC(o:Oper):Bool:=match o.op with
 |.call { callee:=.value _,.. }=>true
 |_=>false
def onB(o:Oper)(A:List Nat):Bool:=o.after.any fun e=>Region.binds .any e&&A.contains e.on
def A4K(o:Oper)(l:List Oper)(A:List Nat):Bool:=kW o&&l.isEmpty&&A.all fun j=>o.after.any fun e=>Region.binds .any e&&Nat.beq e.on j
def A4L(o:Oper)(i:Nat):List Nat→List Nat
 |[]=>[i]
 |a::A=>cond (onB o [a]) (i::a::A) (a::A4L o i A)
def J2(own:Oper→Bool):List Oper→Nat→List Nat→List Nat→List Nat→List Nat→List Nat→List Nat→List Nat×List Nat
 |[],_,R,Q,A,S,R2,T=>(R.reverse++Q.reverse++A.reverse++S.reverse++R2.reverse,T.reverse)
 |o::l,i,R,Q,A,S,R2,T=>
  cond (onB o T||kS o||A4K o l (R++Q++A++S++R2++T)||(kC o&&(onB o (Q++S++R2)||(!(own o)&&onB o A)))) (J2 own l (i+1) R Q A S R2 (i::T))
   (cond (kP o) (cond (onB o (A++S++R2)) (J2 own l (i+1) R Q A S (i :: R2) T) (J2 own l (i+1) R (i :: Q) A S R2 T))
   (cond (kW o) (cond (onB o R2) (J2 own l (i+1) R Q A S (i :: R2) T) (J2 own l (i+1) R Q A (i :: S) R2 T))
    (cond (onB o (Q++S++R2)||(cond (kA own o) (!R2.isEmpty) (onB o (A.take 1)))) (J2 own l (i+1) R Q A S (i :: R2) T)
     (cond (kA own o) (J2 own l (i+1) R Q (i :: A) S R2 T) (cond (onB o A) (J2 own l (i+1) R Q (A4L o i A) S R2 T) (J2 own l (i+1) (i :: R) Q A S R2 T))))))
def ANE(af:Nat):List (Nat×Nat)→Nat→Nat
 |[],m=>m
 |p::r,m=>HD (cond (U6 af p.1) (Nat.lor m (Nat.lor p.2 (Nat.shiftLeft 1 p.1))) m) (ANE af r)
def A4M:List (Nat×Nat)→List (Nat×Nat)→List (Nat×Nat)
 |[],acc=>acc
 |p::r,acc=>HD (ANE p.2 acc 0) fun m=>A4M r ((p.1,m)::acc)
def ARH(l:List Oper):List Nat:=((A4M (afL l 0) []).filterMap fun p=>cond (Nat.beq p.2 (Nat.sub (Nat.pow 2 p.1) 1)) (match l[p.1]? with
 |some o=>cond (kC o&&Nat.beq (KT p.1 (afL l 0) 0) (Nat.sub (Nat.pow 2 l.length) (Nat.pow 2 (p.1+1)))) (some p.1) none
 | none=>none) none).reverse
def ANF(own:Oper→Bool)(l:List Oper):Nat→List Nat→WS
 |i,[]=>[J2 own (l.drop i) i [] [] [] [] [] []]
 |i,c::cs=>match J2 own ((l.drop i).take (c-i)) i [] [] [] [] [] []with
  |(R,T)=>(R,T++[c])::ANF own l (c+1) cs
def cG(l:List Oper):WS:=ANF (DR l) l 0 (ARH l)
def ARI(l:List Oper):List Nat:=l.filterMap fun o=>cond (kA (DR l) o) o.dst none
def GB:Code→Bool
 |.seq a b=>GB a&&GB b
 |.cond _ a b=>GB a&&GB b
 |.block _ c=>GB c
 |.loop c=>GB c
 |.scope _=>false
 |.rangeFunc ..=>false
 |_=>true
def E0(N:Nat):Code→Bool
 |.region _ ops draw=>cond draw (OQ (DR ops.toList) N (ops.toList.map (KX ops.toList)) (cG ops.toList) ops.toList) (LQ N ops.toList&&uB ops.toList)
 |.seq a b=>E0 N a&&E0 N b
 |.cond _ a b=>E0 N a&&E0 N b
 |.block _ c=>E0 N c
 |.loop c=>E0 N c
 |.scope c=>E0 N c
 |.rangeFunc _ ps asg body=>ps.toList.all (fun p=>Nat.blt p N)&&GB asg&&GB body&&E0 N asg&&E0 N body
 |_=>true
def TW(N:Nat)(ps:List Tmp)(asg body:Code):Bool:=ps.all (fun p=>Nat.blt p N)&&GB asg&&GB body&&E0 N asg&&E0 N body
def TX(s:St):Prop:=∀l k γ fr ps asg body N st,s.get l k=some (γ,.loop fr ps asg body N st)→TW N ps asg body=true
theorem pU{s:St}{l k γ:Nat}{r:AZ}{l' k':Nat}{x:Nat×AZ}(h:(s.put l k γ r).get l' k'=some x):x=(γ,r)∨s.get l' k'=some x:=by
 unfold St.put at h;unfold St.get at h⊢;by_cases e1:l=s.up.length
 ·rw[if_pos e1]at h;by_cases e2:l'=s.up.length
  ·rw[if_pos e2]at h⊢;rw[AA.get_put]at h;split at h
   ·exact .inl (Option.some.inj h).symm
   ·exact .inr h
  ·rw[if_neg e2]at h⊢;exact .inr h
 ·rw[if_neg e1]at h;have hl:({ s with up:=s.up.modify l (fun L=>L.put k γ r) }:St).up.length=s.up.length:=by simp
  rw[hl]at h;by_cases e2:l'=s.up.length
  ·rw[if_pos e2]at h⊢;exact .inr h
  ·rw[if_neg e2]at h⊢;rw[List.getElem?_modify]at h;cases hu:s.up[l']? with
   |none=>simp[hu]at h
   |some L=>
    rw[hu]at h
    simp only[Option.map_eq_map,Option.map_some]at h
    by_cases e3:l=l'
    ·simp only[e3,if_true,AA.get_put]at h;split at h
     ·exact .inl (Option.some.inj h).symm
     ·exact .inr h
    ·simp only[e3,if_false]at h;exact .inr h
theorem TX.put{s:St}(h:TX s){l k γ:Nat}{r:AZ}(hr:∀fr ps asg body N st,r=.loop fr ps asg body N st→TW N ps asg body=true):TX (s.put l k γ r):=by
 intro l' k' γ' fr ps asg body N st hg;rcases pU hg with e|e
 ·cases e;exact hr _ _ _ _ _ _ rfl
 ·exact h _ _ _ _ _ _ _ _ _ e
structure XS where
 c:Nat
 fr:Fr
 s:St
noncomputable def BZ(fr:Fr)(k:Nat):Option (Bool×V):=List.rec (motive:=fun _=>Option (Bool×V)) none (fun x _ ih=>Bool.rec ih (some x.2) (Nat.beq k x.1)) fr
theorem FG:∀(fr:Fr) (k:Nat),BZ fr k=fr.get k
 |[],_=>rfl
 |(j,x)::fr,k=>by
  show(Bool.rec (BZ fr k) (some x) (Nat.beq k j):Option (Bool×V))=if k=j then some x else Fr.get fr k
  by_cases h:k=j
  ·subst h;rw[if_pos rfl,Nat.beq_refl]
  ·rw[if_neg h,←FG fr k];have:Nat.beq k j=false:=by
    cases hb:Nat.beq k j with
    |false=>rfl
    |true=>exact absurd (Nat.eq_of_beq_eq_true hb) h
   rw[this]
noncomputable def CM(fr:Fr)(x:Operand):Option V:=match x with
 |.tmp t=>match BZ fr t with
  |some (true,v)=>some v
  |_=>none
 |.const v=>CP v
 |.func f=>some (.fn f [] [])
 |.global _=>none
theorem D3(x:Operand):CM fr x=DZ true fr x:=by
 cases x with
 |tmp t=>
  simp only[CM,DZ,rd,FG]
  cases fr.get t with
  |none=>rfl
  |some p=>
   obtain⟨c,v⟩:=p
   cases c<;>rfl
 |const v=>
  simp only[CM,DZ,rd]
  cases CP v<;>rfl
 |func f=>rfl
 |global g=>rfl
theorem FH:CM fr=DZ true fr:=funext fun x=>D3 x
def AS(c:Nat)(σ σ':Nat→Nat):Prop:=∀i,i<c→σ i=σ' i
theorem AS.refl(c:Nat)(σ:Nat→Nat):AS c σ σ:=fun _ _=>rfl
theorem AS.trans{c c':Nat}{σ σ' σ'':Nat→Nat}(h:AS c σ σ')(h':AS c' σ' σ'')(hc:c≤c'):AS c σ σ'':=fun i hi=>(h i hi).trans (h' i (Nat.lt_of_lt_of_le hi hc))
theorem AS.mono{c c':Nat}(h:AS c' σ σ')(hc:c≤c'):AS c σ σ':=fun i hi=>h i (Nat.lt_of_lt_of_le hi hc)
theorem AS.upd(c γ:Nat)(σ:Nat→Nat):AS c σ (fun i=>if i=c then γ else σ i):=fun i hi=>by simp[Nat.ne_of_lt hi]
structure Bd(st:XS):Prop where
 f:∀σ σ' δ,AS st.c σ σ'→st.fr.ren σ δ=st.fr.ren σ' δ
 s:∀σ σ' pre,AS st.c σ σ'→st.s.emb σ pre=st.s.emb σ' pre
 lp:TX st.s
def UM(c:Nat)(v:V):Prop:=∀σ σ' δ,AS c σ σ'→v.ren σ δ=v.ren σ' δ
structure KH(st st':XS):Prop where
 c:st.c≤st'.c
 bd:Bd st'
 n:st'.s.up.length=st.s.up.length
def StepX(P:Program)(o:Oper)(st st':XS):Prop:=KH st st'∧∀(σ:Nat→Nat) (pre:List AA) (k:Fr→St→Prop),(∀σ',AS st.c σ σ'→k (st'.fr.ren σ' pre.length) (st'.s.emb σ' pre))→EK P true o (st.fr.ren σ pre.length) (st.s.emb σ pre) k
theorem FO(d:Option Tmp)(c:Bool)(v:V):(putD fr d c v).ren σ δ=putD (fr.ren σ δ) d c (v.ren σ δ):=by cases d<;>rfl
theorem HI(d:Nat)(c:Bool)(v:V):(fr.put d c v).ren σ δ=(fr.ren σ δ).put d c (v.ren σ δ):=rfl
theorem UM.mono{c c':Nat}{v:V}(h:UM c v)(hc:c≤c'):UM c' v:=fun σ σ' δ ha=>h σ σ' δ (ha.mono hc)
theorem Bd.val{st:XS}(h:Bd st){o:Oper}{v:V}(hv:FN P g o st.fr st.s=some v):UM st.c v:=by intro σ σ' δ ha;have h1:=IZ (σ:=σ) (pre:=List.replicate δ []) hv;have h2:=IZ (σ:=σ') (pre:=List.replicate δ []) hv;rw[h.f σ σ' _ ha,h.s σ σ' _ ha,h2]at h1;have:=Option.some.inj h1;rw[List.length_replicate]at this;exact this.symm
theorem Bd.rd{st:XS}(h:Bd st){x:Operand}{v:V}(hv:CM st.fr x=some v):UM st.c v:=by intro σ σ' δ ha;rw[D3]at hv;have h1:=DL (g:=true) (fr:=st.fr) (σ:=σ) (δ:=δ) x;have h2:=DL (g:=true) (fr:=st.fr) (σ:=σ') (δ:=δ) x;rw[h.f σ σ' _ ha,h2,hv]at h1;simpa using h1.symm
theorem Bd.putF{st:XS}(h:Bd st){d:Option Tmp}{c:Bool}{v:V}(hv:UM st.c v):Bd { st with fr:=putD st.fr d c v } :=
 ⟨fun σ σ' δ ha=>by simp only[FO];rw[h.f σ σ' δ ha,hv σ σ' δ ha],h.s,h.lp⟩
theorem Bd.mono{st:XS}(h:Bd st){c:Nat}(hc:st.c≤c):Bd { st with c:=c }:=⟨fun σ σ' δ ha=>h.f σ σ' δ (ha.mono hc),fun σ σ' pre ha=>h.s σ σ' pre (ha.mono hc),h.lp⟩
def dP:AZ→Bool
 |.loop ..=>false
 |_=>true
theorem VC{r:AZ}(h:dP r=true):∀fr ps asg body N st,r=.loop fr ps asg body N st→TW N ps asg body=true:=by intro fr ps asg body N st e;subst e;cases h
theorem Bd.putS{st:XS}(h:Bd st){l k γ:Nat}{r:AZ}(hγ:γ<st.c)(hr:∀σ σ' δ,AS st.c σ σ'→r.ren σ δ=r.ren σ' δ)(hp:dP r=true:=by rfl):Bd { st with s:=st.s.put l k γ r } :=
 ⟨h.f,fun σ σ' pre ha=>by simp only[CR];rw[h.s σ σ' pre ha,hr σ σ' _ ha,ha γ hγ],h.lp.put (VC hp)⟩
theorem xZ{o:Oper}{st:XS}{v:V}(h:Bd st)(hv:FN P true o st.fr st.s=some v):StepX P o st { st with fr:=putD st.fr o.dst true v }:=by refine⟨⟨Nat.le_refl _,h.putF (h.val hv),rfl⟩,fun σ pre k hk=>DQ (Ω:=HC.nothing P) (.inl ⟨_,IZ hv,?_⟩)⟩;have:=hk σ (AS.refl _ _);rwa [FO]at this
theorem Z3{c:Nat}{v:V}(h:UM c v)(σ σ':Nat→Nat)(δ:Nat)(ha:AS c σ σ'):(A9 v).map (V.ren σ δ)=(A9 v).map (V.ren σ' δ):=by rw[←ER,←ER,h σ σ' δ ha]
def gG(P:Program)(Ω:HC P)(o:Oper)(st st':XS):Prop:=KH st st'∧∃d,o.dst=some d∧∀(σ:Nat→Nat) (pre:List AA) (k:Fr→St→Prop),(∀σ',AS st.c σ σ'→k (st'.fr.ren σ' pre.length) (st'.s.emb σ' pre)) →
 ∃r,QI P Ω o (st.fr.ren σ pre.length)=some r∧∀γ,k ((st.fr.ren σ pre.length).put d true (r.val (st.s.emb σ pre).up.length d γ)) ((st.s.emb σ pre).put (st.s.emb σ pre).up.length d γ r.res)
theorem gG.step{o:Oper}{st st':XS}(h:gG P Ω o st st'):StepX P o st st':=by obtain⟨h1,d,hd,h2⟩:=h;refine⟨h1,fun σ pre k hk=>?_⟩;obtain⟨r,hr,h3⟩:=h2 σ pre k hk;exact DQ (Ω:=Ω) (.inr (.inr ⟨r,d,rfl,hd,hr,h3⟩))
theorem dQ{o:Oper}{st:XS}{d:Nat}{cs:List V}(h:Bd st)(hd:o.dst=some d)(hcs:∀σ σ' δ,AS st.c σ σ'→cs.map (V.ren σ δ)=cs.map (V.ren σ' δ))
  (hn:∀σ pre,QI P Ω o (st.fr.ren σ (List.length (α:=AA) pre))=some ⟨.box (cs.map (V.ren σ pre.length)),none⟩) :
  gG P Ω o st ⟨st.c+1,st.fr.put d true (.ptr st.s.up.length d st.c 0),st.s.put st.s.up.length d st.c (.box cs)⟩:=by
 have hb:∀σ σ',AS (st.c+1) σ σ'→AS st.c σ σ':=fun σ σ' ha=>ha.mono (Nat.le_succ _)
 refine⟨⟨Nat.le_succ _,⟨fun σ σ' δ ha=>?_,fun σ σ' pre ha=>?_,h.lp.put (VC rfl)⟩,St.put_len _ _ _ _ _⟩,d,hd,fun σ pre k hk=>⟨_,hn σ pre,fun γ=>?_⟩⟩
 ·simp only[HI,HG];rw[h.f σ σ' δ (hb _ _ ha),ha st.c (Nat.lt_succ_self _)]
 ·simp only[CR,AZ.ren];rw[h.s σ σ' pre (hb _ _ ha),hcs σ σ' _ (hb _ _ ha),ha st.c (Nat.lt_succ_self _)]
 ·have:=hk (fun i=>if i=st.c then γ else σ i) (AS.upd _ _ _);have ha:=AS.upd st.c γ σ;simp only[HI,HG,if_true,CR,AZ.ren]at this;rw[←h.f _ _ _ ha,←h.s _ _ _ ha,←hcs _ _ _ ha]at this;rw[DB];exact this
noncomputable def OV(P:Program)(d:Option Tmp)(T:TypeId)(st:XS):Option XS:=match d,BW P T with
 |some d,some cs=>some ⟨st.c+1,(d,true,.ptr st.s.up.length d st.c 0)::st.fr,st.s.put st.s.up.length d st.c (.box cs)⟩
 |_,_=>none
noncomputable def lU(d:Option Tmp)(x:Operand)(st:XS):Option XS:=match d,CM st.fr x with
 |some d,some v=>Bool.rec none (some ⟨st.c+1,(d,true,.ptr st.s.up.length d st.c 0)::st.fr,st.s.put st.s.up.length d st.c (.box (A9 v))⟩) (BA v)
 |_,_=>none
theorem dR{o:Oper}{T:TypeId}{st st':XS}(h:Bd st)(ho:o.op=.alloc T)(hx:OV P o.dst T st=some st'):gG P Ω o st st':=by
 unfold OV at hx;split at hx
 ·rename_i d cs hd hz;cases hx;refine dQ h hd (fun σ σ' δ _=>by rw[GR hz,GR hz]) fun σ pre=>?_;simp[QI,ho,hz,GR hz]
 ·cases hx
theorem uC{o:Oper}{T:TypeId}{x:Operand}{st st':XS}(h:Bd st)(ho:o.op=.box T x)(hx:lU o.dst x st=some st'):gG P Ω o st st':=by
 unfold lU at hx;split at hx
 ·rename_i d v hd hv;cases hf:BA v with
  |false=>rw[hf]at hx;cases hx
  |true=>
   rw[hf]at hx
   cases hx
   refine dQ h hd (fun σ σ' δ ha=>Z3 (h.rd hv) σ σ' δ ha) fun σ pre=>?_
   rw[D3]at hv
   simp[QI,ho,DL,hv,H9,hf,ER]
 ·cases hx
noncomputable def WG(P:Program)(d:Option Tmp)(T:TypeId)(x y:Operand)(st:XS):Option XS:=match d,BQ P T with
 |some d,some (none,e)=>match CM st.fr x,CM st.fr y with
  |some (.int _ n),some (.int _ m)=>match BW P e with
   |some z=>if 0≤n∧m=n∧z.length=P.cellsOf e∧n.toNat*P.bytesOf e≤140737488355328∧n.toNat≤maxLen then
     some ⟨st.c+1,(d,true,.vec st.s.up.length d st.c n.toNat)::st.fr,st.s.put st.s.up.length d st.c (.vec e (List.replicate n.toNat z))⟩ else none
   |none=>none
  |_,_=>none
 |_,_=>none
theorem lV{o:Oper}{T:TypeId}{x y:Operand}{st st':XS}(h:Bd st)(ho:o.op=.makeSlice T x y)(hx:WG P o.dst T x y st=some st'):gG P Ω o st st':=by
 unfold WG at hx;split at hx
 ·rename_i d e hd hel;split at hx
  ·rename_i k1 n k2 m h1 h2;split at hx
   ·rename_i z hz;split at hx
    ·rename_i hc;cases hx;rw[D3]at h1 h2;have hr:∀σ δ,(List.replicate n.toNat z).map (List.map (V.ren σ δ))=List.replicate n.toNat z:=fun σ δ=>by rw[List.map_replicate,GR hz]
     have hb:∀σ σ',AS (st.c+1) σ σ'→AS st.c σ σ':=fun σ σ' ha=>ha.mono (Nat.le_succ _);refine⟨⟨Nat.le_succ _,⟨fun σ σ' δ ha=>?_,fun σ σ' pre ha=>?_,h.lp.put (VC rfl)⟩,St.put_len _ _ _ _ _⟩,d,hd,fun σ pre k hk=>⟨⟨.vec e (List.replicate n.toNat z),none⟩,?_,fun γ=>?_⟩⟩
     ·show((st.fr.put d true _).ren σ δ)=((st.fr.put d true _).ren σ' δ);simp only[HI,HH];rw[h.f σ σ' δ (hb _ _ ha),ha st.c (Nat.lt_succ_self _)]
     ·simp only[CR,AZ.ren,hr];rw[h.s σ σ' pre (hb _ _ ha),ha st.c (Nat.lt_succ_self _)]
     ·simp only[QI,ho,DL,h1,h2,Option.map_some,EL,hel,hz];rw[if_pos hc]
     ·have:=hk (fun i=>if i=st.c then γ else σ i) (AS.upd _ _ _);have ha:=AS.upd st.c γ σ;change k ((st.fr.put d true _).ren _ _) _ at this;simp only[HI,HH,if_true,CR,AZ.ren,hr]at this;rw[←h.f _ _ _ ha,←h.s _ _ _ ha]at this;simp only[Mk.val,HB,List.length_replicate];rw[DB];exact this
    ·cases hx
   ·cases hx
  ·cases hx
 ·cases hx
noncomputable def yA(d:Option Tmp)(r:Option Operand)(st:XS):Option XS:=match d,r with
 |some d,none=>some ⟨st.c+1,(d,true,.mp st.s.up.length d st.c)::st.fr,st.s.put st.s.up.length d st.c (.map [])⟩
 |_,_=>none
theorem uD{o:Oper}{T:TypeId}{r:Option Operand}{st st':XS}(h:Bd st)(ho:o.op=.makeMap T r)(hx:yA o.dst r st=some st'):gG P Ω o st st':=by
 unfold yA at hx;split at hx
 ·rename_i d hd;cases hx;have hb:∀σ σ',AS (st.c+1) σ σ'→AS st.c σ σ':=fun σ σ' ha=>ha.mono (Nat.le_succ _);refine⟨⟨Nat.le_succ _,⟨fun σ σ' δ ha=>?_,fun σ σ' pre ha=>?_,h.lp.put (VC rfl)⟩,St.put_len _ _ _ _ _⟩,d,hd,fun σ pre k hk=>⟨⟨.map [],none⟩,?_,fun γ=>?_⟩⟩
  ·show((st.fr.put d true _).ren σ δ)=((st.fr.put d true _).ren σ' δ);simp only[HI,Q7];rw[h.f σ σ' δ (hb _ _ ha),ha st.c (Nat.lt_succ_self _)]
  ·simp only[CR,AZ.ren,List.map_nil];rw[h.s σ σ' pre (hb _ _ ha),ha st.c (Nat.lt_succ_self _)]
  ·simp only[QI,ho]
  ·have:=hk (fun i=>if i=st.c then γ else σ i) (AS.upd _ _ _);have ha:=AS.upd st.c γ σ;change k ((st.fr.put d true _).ren _ _) _ at this;simp only[HI,Q7,if_true,CR,AZ.ren,List.map_nil]at this;rw[←h.f _ _ _ ha,←h.s _ _ _ ha]at this;simp only[Mk.val,HB];rw[DB];exact this
 ·cases hx
noncomputable def I6(P:Program)(d:Option Tmp)(T:TypeId)(x y:Operand)(st:XS):Option XS:=match d with
 |some _=>none
 |none=>match CM st.fr x,CM st.fr y with
  |some (.ptr l q γ off),some v=>match st.s.get l q with
   |some (γ',.box cs)=>if Nat.beq γ' γ&&BA v&&Nat.blt 0 (P.cellsOf T)&&Nat.beq (A9 v).length (P.cellsOf T)&&Nat.ble (off+P.cellsOf T) cs.length&&Nat.blt γ st.c then some { st with s:=st.s.put l q γ (.box (A4 cs off (A9 v))) } else none
   |_=>none
  |some (.eptr l q γ i off),some v=>match st.s.get l q with
   |some (γ',.vec U es)=>if Nat.beq γ' γ&&BA v&&Nat.blt 0 (P.cellsOf T)&&Nat.beq (A9 v).length (P.cellsOf T)&&Nat.blt i es.length&&Nat.ble (off+P.cellsOf T) (es.getD i []).length&&Nat.blt γ st.c then some { st with s:=st.s.put l q γ (.vec U (es.set i (A4 (es.getD i []) off (A9 v)))) } else none
   |_=>none
  |_,_=>none
theorem MW{st:XS}(h:Bd st){l q γ:Nat}{r:AZ}(hg:st.s.get l q=some (γ,r))(σ σ':Nat→Nat)(δ:Nat)(ha:AS st.c σ σ'):r.ren σ δ=r.ren σ' δ:=by have h1:=B5 (s:=st.s) (σ:=σ) (pre:=List.replicate δ []) l q;have h2:=B5 (s:=st.s) (σ:=σ') (pre:=List.replicate δ []) l q;rw[h.s σ σ' _ ha,h2,hg]at h1;simp only[Option.map_some,List.length_replicate,Option.some.injEq,Prod.mk.injEq]at h1;exact h1.2.symm
theorem KY(es:List (List V))(i:Nat)(x:List V):(es.set i x).map (List.map (V.ren σ δ))=(es.map (List.map (V.ren σ δ))).set i (x.map (V.ren σ δ)):=by simp[List.map_set]
theorem dS{o:Oper}{T:TypeId}{x y:Operand}{st st':XS}(h:Bd st)(ho:o.op=.store T x y)(hx:I6 P o.dst T x y st=some st'):StepX P o st st':=by
 unfold I6 at hx;split at hx
 ·cases hx
 ·rename_i hd;split at hx
  ·rename_i l q γ off v h1 h2;split at hx
   ·rename_i γ' cs hg;split at hx
    ·rename_i hc;simp only[Bool.and_eq_true,Nat.blt_eq,Nat.ble_eq]at hc;obtain⟨⟨⟨⟨⟨c1,c2⟩,c3⟩,c4⟩,c5⟩,c6⟩:=hc;have c1:=Nat.eq_of_beq_eq_true c1;have c4:=Nat.eq_of_beq_eq_true c4;subst c1;cases hx;have hv:=h.rd h2;refine⟨⟨Nat.le_refl _,h.putS c6 fun σ σ' δ ha=>?_,St.put_len _ _ _ _ _⟩,fun σ pre k hk=>?_⟩
     ·have hr:=MW h hg σ σ' δ ha;simp only[AZ.ren,AZ.box.injEq]at hr⊢;rw[←C8,←C8,hr,Z3 hv σ σ' δ ha]
     ·have:=hk σ (AS.refl _ _);rw[D3]at h1 h2;unfold EK;simp only[ho,DL,h1,h2,Option.map_some,HG,B5,hg,AZ.ren];refine⟨trivial,trivial,by rw[H9];exact c2,c3,by rw[ER];simpa using c4,by simpa using c5,hd,?_⟩;rw[ER,C8];rw[CR]at this;exact this
    ·cases hx
   ·cases hx
  ·rename_i l q γ i off v h1 h2;split at hx
   ·rename_i γ' U es hg;split at hx
    ·rename_i hc;simp only[Bool.and_eq_true,Nat.blt_eq,Nat.ble_eq]at hc;obtain⟨⟨⟨⟨⟨⟨c1,c2⟩,c3⟩,c4⟩,c5⟩,c6⟩,c7⟩:=hc;have c1:=Nat.eq_of_beq_eq_true c1;have c4:=Nat.eq_of_beq_eq_true c4;subst c1;cases hx;have hv:=h.rd h2;refine⟨⟨Nat.le_refl _,h.putS c7 fun σ σ' δ ha=>?_,St.put_len _ _ _ _ _⟩,fun σ pre k hk=>?_⟩
     ·have hr:=MW h hg σ σ' δ ha;simp only[AZ.ren,AZ.vec.injEq,true_and]at hr⊢;rw[KY,KY,←C8,←C8,←E8,←E8,hr,Z3 hv σ σ' δ ha]
     ·have:=hk σ (AS.refl _ _);rw[D3]at h1 h2;unfold EK;simp only[ho,DL,h1,h2,Option.map_some,OR,B5,hg,AZ.ren];refine⟨trivial,trivial,by rw[H9];exact c2,c3,by rw[ER];simpa using c4,by simpa using c5,by rw[E8];simpa using c6,hd,?_⟩;rw[E8,ER,C8,←KY];rw[CR]at this;exact this
    ·cases hx
   ·cases hx
  ·cases hx
noncomputable def AJO(P:Program)(d:Option Tmp)(T:TypeId)(x i y:Operand)(st:XS):Option XS:=match d with
 |some _=>none
 |none=>match CM st.fr x,CM st.fr i,CM st.fr y with
  |some m,some i,some v=>match QN P st.s T m i v with
   |some (l,q,γ,es)=>Bool.rec none (some { st with s:=st.s.put l q γ (.map es) }) (Nat.blt γ st.c)
   |none=>none
  |_,_,_=>none
theorem AJP{o:Oper}{T:TypeId}{x i y:Operand}{st st':XS}(h:Bd st)(ho:o.op=.mapUpdate T x i y)(hx:AJO P o.dst T x i y st=some st'):StepX P o st st':=by
 unfold AJO at hx;split at hx
 ·cases hx
 ·rename_i hd;split at hx
  ·rename_i m i' v h1 h2 h3;split at hx
   ·rename_i l q γ es hu;cases hb:Nat.blt γ st.c with
    |false=>rw[hb]at hx;cases hx
    |true=>
     rw[hb]at hx
     have hlt:γ<st.c:=by simpa using hb
     cases hx
     have hm:=h.rd h1
     have hi:=h.rd h2
     have hv:=h.rd h3
     refine⟨⟨Nat.le_refl _,h.putS hlt fun σ σ' δ ha=>?_,St.put_len _ _ _ _ _⟩,fun σ pre k hk=>?_⟩
     ·have q1:=VA (σ:=σ) (pre:=List.replicate δ []) hu;have q2:=VA (σ:=σ') (pre:=List.replicate δ []) hu;rw[h.s σ σ' _ ha,hm σ σ' _ ha,hi σ σ' _ ha,hv σ σ' _ ha,q2]at q1;simp only[Option.some.injEq,Prod.mk.injEq,List.length_replicate]at q1;simp only[AZ.ren,q1.2.2.2]
     ·have:=hk σ (AS.refl _ _);rw[D3]at h1 h2 h3;unfold EK;simp only[ho,DL,h1,h2,h3,Option.map_some,VA hu];refine⟨trivial,hd,?_⟩;rw[CR]at this;exact this
   ·cases hx
  ·cases hx
noncomputable def gH(P:Program)(d:Option Tmp)(args:List Operand)(Ts:List TypeId)(st:XS):Option XS:=match args,Ts,d with
 |[x],[T],none=>match BQ P T,CM st.fr x with
  |some (none,e),some (.vtl l q γ i n)=>match st.s.get l q,BW P e with
   |some (γ',.vec U es),some z=>Bool.rec none (some { st with s:=st.s.put l q γ (.vec U (es.take i++List.replicate n z++es.drop (i+n))) }) (Nat.beq γ' γ&&Nat.beq U e&&Nat.ble (i+n) es.length&&es.all (fun y=>y.length==z.length)&&Nat.blt γ st.c)
   |_,_=>none
  |_,_=>none
 |_,_,_=>none
theorem yB{o:Oper}{args:Array Operand}{Ts:Array TypeId}{st st':XS}(h:Bd st)(ho:o.op=.call { callee:=.builtin .clear,args:=args,argTypes:=Ts })(hx:gH P o.dst args.toList Ts.toList st=some st'):StepX P o st st':=by
 unfold gH at hx;split at hx
 ·rename_i x T ha hT hd;split at hx
  ·rename_i e l q γ i n hel h1;split at hx
   ·rename_i γ' U es z hg hz;cases hb:(Nat.beq γ' γ&&Nat.beq U e&&Nat.ble (i+n) es.length&&es.all (fun y=>y.length==z.length)&&Nat.blt γ st.c)with
    |false=>rw[hb]at hx;cases hx
    |true=>
     rw[hb]at hx
     cases hx
     simp only[Bool.and_eq_true,Nat.blt_eq,Nat.ble_eq]at hb
     obtain⟨⟨⟨⟨c1,c2⟩,c3⟩,c4⟩,c5⟩:=hb
     have c1:=Nat.eq_of_beq_eq_true c1
     have c2:=Nat.eq_of_beq_eq_true c2
     subst c1;subst c2
     have hz':∀σ δ,z.map (V.ren σ δ)=z:=fun σ δ=>GR hz
     refine⟨⟨Nat.le_refl _,h.putS c5 fun σ σ' δ ha=>?_,St.put_len _ _ _ _ _⟩,fun σ pre k hk=>?_⟩
     ·have hr:=MW h hg σ σ' δ ha;simp only[AZ.ren,AZ.vec.injEq,true_and]at hr⊢;simp only[List.map_append,List.map_take,List.map_drop,List.map_replicate,hz',hr]
     ·have:=hk σ (AS.refl _ _);rw[D3]at h1;unfold EK;simp only[ho,ha,hT,hd,hel,DL,h1,Option.map_some,W7,B5,hg,hz,AZ.ren];refine⟨trivial,trivial,trivial,by simpa using c3,?_,?_⟩
      ·rw[List.all_map];exact c4▸(by congr 1;funext x;simp)
      ·rw[CR]at this;simp only[AZ.ren,List.map_append,List.map_take,List.map_drop,List.map_replicate,hz']at this;exact this
   ·cases hx
  ·cases hx
 ·cases hx
theorem pV{o:Oper}{l q γ:Nat}{r:AZ}(h:C9 P o fr s=some (l,q,γ,r)):C9 P o (fr.ren σ pre.length) (s.emb σ pre)=some (l+pre.length,q,σ γ,r.ren σ pre.length):=by
 unfold C9 at h⊢;split at h
 ·rename_i T x y ho;simp only[DL];split at h
  ·rename_i l1 q1 γ1 off v e1 e2;simp only[e1,e2,Option.map_some,HG,B5];split at h
   ·rename_i γ2 cs e3;split at h
    ·rename_i hc;cases h;obtain⟨c1,c2,c3,c4,c5,c6⟩:=hc;subst c1;simp only[e3,Option.map_some,AZ.ren,H9,ER,List.length_map];rw[if_pos ⟨trivial,c2,c3,c4,c5,c6⟩,C8]
    ·cases h
   ·cases h
  ·rename_i l1 q1 γ1 i off v e1 e2;simp only[e1,e2,Option.map_some,OR,B5];split at h
   ·rename_i γ2 U es e3;split at h
    ·rename_i hc;cases h;obtain⟨c1,c2,c3,c4,c5,c6,c7⟩:=hc;subst c1;simp only[e3,Option.map_some,AZ.ren,H9,ER,List.length_map,E8];rw[if_pos ⟨trivial,c2,c3,c4,c5,c6,c7⟩,C8,←KY]
    ·cases h
   ·cases h
  ·cases h
 ·cases h
theorem ADC{o:Oper}{T:TypeId}{x y:Operand}{st st':XS}(ho:o.op=.store T x y)(hx:I6 P o.dst T x y st=some st'):∃l q γ r,C9 P o st.fr st.s=some (l,q,γ,r)∧st'={ st with s:=st.s.put l q γ r }:=by
 unfold I6 at hx;unfold C9;simp only[ho];split at hx
 ·cases hx
 ·rename_i hd;split at hx
  ·rename_i l q γ off v h1 h2;split at hx
   ·rename_i γ' cs hg;split at hx
    ·rename_i hc;simp only[Bool.and_eq_true,Nat.blt_eq,Nat.ble_eq]at hc;obtain⟨⟨⟨⟨⟨c1,c2⟩,c3⟩,c4⟩,c5⟩,c6⟩:=hc;have c1:=Nat.eq_of_beq_eq_true c1;have c4:=Nat.eq_of_beq_eq_true c4;subst c1;cases hx;rw[D3]at h1 h2;refine⟨_,_,_,_,?_,rfl⟩;simp only[h1,h2,hg];rw[if_pos ⟨trivial,c2,c3,c4,c5,hd⟩]
    ·cases hx
   ·cases hx
  ·rename_i l q γ i off v h1 h2;split at hx
   ·rename_i γ' U es hg;split at hx
    ·rename_i hc;simp only[Bool.and_eq_true,Nat.blt_eq,Nat.ble_eq]at hc;obtain⟨⟨⟨⟨⟨⟨c1,c2⟩,c3⟩,c4⟩,c5⟩,c6⟩,c7⟩:=hc;have c1:=Nat.eq_of_beq_eq_true c1;have c4:=Nat.eq_of_beq_eq_true c4;subst c1;cases hx;rw[D3]at h1 h2;refine⟨_,_,_,_,?_,rfl⟩;simp only[h1,h2,hg];rw[if_pos ⟨trivial,c2,c3,c4,c5,c6,hd⟩]
    ·cases hx
   ·cases hx
  ·cases hx
def AA.hide(W:AN)(l:Nat)(L:AA):AA:=L.filter fun e=>!(W.contains (l,e.1))
theorem AA.get_hide(W:AN)(l:Nat):∀(L:AA) (k:Nat),(l,k)∉W→(L.hide W l).get k=L.get k
 |[],k,_=>rfl
 |(j,x)::L,k,hk=>by
  have ih:=AA.get_hide W l L k hk;unfold AA.hide at ih⊢;rw[List.filter_cons];split
  ·simp only[AA.get];split
   ·rfl
   ·exact ih
  ·rename_i hc;simp only[Bool.not_eq_true',Bool.not_eq_false,List.contains_iff_mem]at hc;rw[ih];simp only[AA.get];rw[if_neg (fun e=>hk (by rw[e];simpa using hc))]
theorem AA.get_hide'(W:AN)(l:Nat):∀(L:AA) (k:Nat),(l,k)∈W→(L.hide W l).get k=none
 |[],k,_=>rfl
 |(j,x)::L,k,hk=>by
  have ih:=AA.get_hide' W l L k hk;unfold AA.hide at ih⊢;rw[List.filter_cons];split
  ·rename_i hc;simp only[AA.get];rw[if_neg (fun e=>by subst e;simp[hk]at hc)];exact ih
  ·exact ih
def St.hide(W:AN)(s:St):St:=⟨s.up.mapIdx fun l L=>L.hide W l,s.loc.hide W s.up.length⟩
theorem St.get_hide{W:AN}{l k:Nat}(h:(l,k)∉W):(s.hide W).get l k=s.get l k:=by
 unfold St.get St.hide;simp only[List.length_mapIdx];split
 ·rename_i e;subst e;exact AA.get_hide W _ _ _ h
 ·rw[List.getElem?_mapIdx];cases s.up[l]? with
  |none=>rfl
  |some L=>exact AA.get_hide W _ _ _ h
theorem St.get_hide'{W:AN}{l k:Nat}(h:(l,k)∈W):(s.hide W).get l k=none:=by
 unfold St.get St.hide;simp only[List.length_mapIdx];split
 ·rename_i e;subst e;exact AA.get_hide' W _ _ _ h
 ·rw[List.getElem?_mapIdx];cases s.up[l]? with
  |none=>rfl
  |some L=>exact AA.get_hide' W _ _ _ h
theorem Z4(W:AN):WC W (s.hide W) s:=fun l k x e=>by
 by_cases h:(l,k)∈W
 ·rw[St.get_hide' h]at e;cases e
 ·exact⟨h,by rw[←St.get_hide h];exact e⟩
def BK:Option V→AN
 |some (.ptr l k _ _)=>[(l,k)]
 |some (.eptr l k _ _ _)=>[(l,k)]
 |some (.vec l k _ _)=>[(l,k)]
 |some (.mp l k _)=>[(l,k)]
 |_=>[]
def BV(one:Bool)(x:Option V):AN:=match one,x with
 |true,some (.ptr l k _ off)=>[(l,k+HV),(l,k+E7),(l,EQ k off)]
 |true,some (.eptr l k _ _ off)=>[(l,k+HV),(l,k+E7),(l,EQ k off)]
 |_,x=>BK x
def CB(one:Bool)(x:Option V):AN:=match one,x with
 |true,some (.ptr l k _ off)=>[(l,k),(l,EQ k off)]
 |true,some (.eptr l k _ _ off)=>[(l,k),(l,EQ k off)]
 |false,some (.ptr l k _ _)=>[(l,k),(l,k+E7)]
 |false,some (.eptr l k _ _ _)=>[(l,k),(l,k+E7)]
 |_,_=>[]
def ADD:Option V→Bool
 |some (.ptr ..)=>true
 |some (.eptr ..)=>true
 |_=>false
def EC:Option V→AN
 |some (.vec l k _ _)=>[(l,k)]
 |some (.vtl l k _ _ _)=>[(l,k)]
 |some (.ptr l k _ _)=>[(l,k)]
 |_=>[]
def J3:Option V→AN
 |some (.vec l k _ _)=>[(l,k+HV)]
 |_=>[]
def lW(P:Program)(o:Oper)(r:Operand→Option V):Bool:=match o.op with
 |.load T x=>Nat.beq (P.cellsOf T) 1&&ADD (r x)
 |.indexAddr _ x _=>match r x with
  |some (.vec ..)=>true
  |_=>false
 |_=>false
def J4(r:Operand→Option V):List Operand→AN
 |[_,y]=>EC (r y)
 |_=>[]
def ED(P:Program)(o:Oper)(r:Operand→Option V):AN:=match o.op with
 |.load T x=>BV (Nat.beq (P.cellsOf T) 1) (r x)
 |.indexAddr _ x _=>J3 (r x)
 |.slice _ x ..=>EC (r x)
 |.lookup _ x ..=>BK (r x)
 |.call { callee:=.builtin .append,args,.. }=>J4 r args.toList
 |_=>[]
theorem gJ{W:AN}{x:V}{es:List (List V)}(h:elemsOf s x=some es)(hr:∀p∈EC (some x),p∉W):elemsOf (s.hide W) x=some es:=by
 cases x with
 |vec l k g n=>
  have hn:(l,k)∉W:=hr _ (by simp[EC])
  simp only[elemsOf,St.get_hide hn]at h⊢
  exact h
 |vtl l k g i n=>
  have hn:(l,k)∉W:=hr _ (by simp[EC])
  simp only[elemsOf,St.get_hide hn]at h⊢
  exact h
 |list b es=>exact h
 |nil=>exact h
 |_=>cases h
theorem ADE{W:AN}{o:Oper}{r:Operand→Option V}{v:V}(h:IQ P o s r=some v)(hi:lW P o r=false)(hr:∀p∈ED P o r,p∉W):IQ P o (s.hide W) r=some v:=by
 unfold IQ at h⊢;split at h;case h_4 T x ho=>
  obtain⟨p,h1,h2⟩:=Option.bind_eq_some_iff.1 h
  obtain⟨cs,h3,h4⟩:=Option.bind_eq_some_iff.1 h2
  have:A8 (s.hide W) p=some cs:=by
   cases p with
   |ptr l k g off=>
    have hb:Nat.beq (P.cellsOf T) 1=false:=by simpa [lW,ho,h1,ADD]using hi
    have hn:(l,k)∉W:=hr _ (by simp[ED,ho,h1,BV,hb,BK])
    simp only[A8,St.get_hide hn]at h3⊢;exact h3
   |eptr l k g i off=>
    have hb:Nat.beq (P.cellsOf T) 1=false:=by simpa [lW,ho,h1,ADD]using hi
    have hn:(l,k)∉W:=hr _ (by simp[ED,ho,h1,BV,hb,BK])
    simp only[A8,St.get_hide hn]at h3⊢;exact h3
   |_=>exact h3
  simp only[h1,Option.bind_some,this,h4]
 case h_10 T x i ho=>
  obtain⟨p,h1,h2⟩:=Option.bind_eq_some_iff.1 h
  obtain⟨q,h3,h4⟩:=Option.bind_eq_some_iff.1 h2
  have:BS P (s.hide W) T p q=some v:=by
   unfold BS at h4⊢;split at h4
   ·exact h4
   ·rename_i e l k g n k' j e1;simp[lW,ho,h1]at hi
   ·exact h4
   ·exact h4
   ·exact h4
   ·cases h4
  simp only[h1,h3,Option.bind_some,this]
 case h_16 T x lo hi mx ho=>
  obtain⟨p,h1,h2⟩:=Option.bind_eq_some_iff.1 h
  obtain⟨q,h3,h4⟩:=Option.bind_eq_some_iff.1 h2
  obtain⟨q',h5,h6⟩:=Option.bind_eq_some_iff.1 h4
  obtain⟨q2,h7,h8⟩:=Option.bind_eq_some_iff.1 h6
  have:B4 P (s.hide W) T p q q' q2=some v:=by
   unfold B4 at h8⊢;split at h8;case h_6 e l k g n k' i e1=>
    have hn:(l,k)∉W:=hr _ (by simp[ED,ho,h1,EC])
    simp only[St.get_hide hn];exact h8
   case h_7 n e l k g o e1=>
    have hn:(l,k)∉W:=hr _ (by simp[ED,ho,h1,EC])
    simp only[St.get_hide hn];exact h8
   all_goals exact h8
  simp only[h1,h3,h5,h7,Option.bind_some,this]
 case h_17 T x i ok ho=>
  obtain⟨p,h1,h2⟩:=Option.bind_eq_some_iff.1 h
  obtain⟨q,h3,h4⟩:=Option.bind_eq_some_iff.1 h2
  have:EJ P (s.hide W) T p q ok=some v:=by
   unfold EJ at h4⊢;split at h4
   ·rename_i K E l k g e1;have hn:(l,k)∉W:=hr _ (by simp[ED,ho,h1,BK]);simp only[St.get_hide hn];exact h4
   ·cases h4
  simp only[h1,h3,Option.bind_some,this]
 all_goals exact h
theorem yC{W:AN}{o:Oper}{v:V}(h:FN P g o fr s=some v)(hi:lW P o (DZ g fr)=false)(hr:∀p∈ED P o (DZ g fr),p∉W):FN P g o fr (s.hide W)=some v:=by
 unfold FN at h⊢;split at h
 ·exact h
 ·exact h
 ·exact h
 ·exact ADE h hi hr
def bN(δ:Nat)(W:AN):AN:=W.map fun p=>(p.1+δ,p.2)
theorem MX{W:AN}{l k:Nat}:(l+δ,k)∈bN δ W↔(l,k)∈W:=by
 unfold bN;simp only[List.mem_map,Prod.mk.injEq,Prod.exists];constructor
 ·rintro ⟨a,b,h,h1,h2⟩;have:a=l:=by omega
  subst this;subst h2;exact h
 ·intro h;exact⟨l,k,h,rfl,rfl⟩
theorem WH(x:Option V):BK (x.map (V.ren σ δ))=bN δ (BK x):=by
 cases x with
 |none=>rfl
 |some v=>cases v<;>simp[BK,bN]
theorem RB(x:Option V):EC (x.map (V.ren σ δ))=bN δ (EC x):=by
 cases x with
 |none=>rfl
 |some v=>cases v<;>simp[EC,bN]
theorem pW(x:Option V):J3 (x.map (V.ren σ δ))=bN δ (J3 x):=by
 cases x with
 |none=>rfl
 |some v=>cases v<;>simp[J3,bN]
theorem pX(b:Bool)(x:Option V):BV b (x.map (V.ren σ δ))=bN δ (BV b x):=by
 cases b with
 |false=>exact WH x
 |true=>
  cases x with
  |none=>rfl
  |some v=>cases v<;>simp[BV,BK,bN]
theorem ARJ{W:AN}{o:Oper}{v:V}(h:FN P g o fr s=some v)(hi:lW P o (DZ g fr)=true)(hr:∀p∈ED P o (DZ g fr),p∉W):cE P W g o fr s v:=by
 unfold lW at hi;split at hi
 ·rename_i T x ho;rw[Bool.and_eq_true]at hi;have h1:=Nat.eq_of_beq_eq_true hi.1;unfold FN at h;simp only[ho,IQ]at h;obtain⟨p,hx,h⟩:=Option.bind_eq_some_iff.1 h;obtain⟨cs,hcs,hv⟩:=Option.bind_eq_some_iff.1 h;have hp:=hi.2;rw[hx]at hp;cases p with
  |ptr l k γ off=>
   have hr':∀p∈[(l,k+HV),(l,k+E7),(l,EQ k off)],p∉W:=fun p hp=>hr p (by simp only[ED,ho,hx,hi.1,BV];exact hp)
   refine .inr ⟨T,x,_,cs,l,k,off,ho,hx,rfl,hcs,hv,by omega,hr' _ (by simp),hr' _ (by simp),fun c hc=>?_⟩
   obtain rfl:c=0:=by omega
   exact hr' _ (by simp)
  |eptr l k γ i off=>
   have hr':∀p∈[(l,k+HV),(l,k+E7),(l,EQ k off)],p∉W:=fun p hp=>hr p (by simp only[ED,ho,hx,hi.1,BV];exact hp)
   refine .inr ⟨T,x,_,cs,l,k,off,ho,hx,rfl,hcs,hv,by omega,hr' _ (by simp),hr' _ (by simp),fun c hc=>?_⟩
   obtain rfl:c=0:=by omega
   exact hr' _ (by simp)
  |_=>cases hp
 ·rename_i T x i ho;split at hi
  ·rename_i l k γ n hx;unfold FN at h;simp only[ho,IQ,hx,Option.bind_some]at h;obtain⟨iv,hiv,h⟩:=Option.bind_eq_some_iff.1 h;unfold BS at h;split at h
   ·rename_i e1 e2;cases e2
   ·rename_i e l' k' γ' n' ki j e1 e2;cases e2;split at h
    ·rename_i γ2 T' es hget;split at h
     ·rename_i hc;obtain⟨rfl,hc⟩:=hc;exact .inl ⟨T,x,i,e,_,_,_,_,ki,j,T',es,ho,hx,hiv,e1,hr _ (by simp[ED,ho,hx,J3]),hget,hc,(Option.some.inj h).symm⟩
     ·cases h
    ·cases h
   ·rename_i e1 e2;cases e2
   ·rename_i e1 e2;cases e2
   ·rename_i e1 e2;cases e2
   ·cases h
  ·cases hi
 ·cases hi
theorem pY{r:Operand→Option V}(l:List Operand):J4 (fun x=>(r x).map (V.ren σ δ)) l=bN δ (J4 r l):=by
 unfold J4;split
 ·exact RB _
 ·rfl
theorem pZ{o:Oper}{r:Operand→Option V}:ED P o (fun x=>(r x).map (V.ren σ δ))=bN δ (ED P o r):=by
 unfold ED;split
 ·exact pX _ _
 ·exact pW _
 ·exact RB _
 ·exact WH _
 ·exact pY _
 ·rfl
theorem lX{W rd:AN}(h:∀p∈rd,p∉W):∀p∈bN δ rd,p∉bN δ W:=by intro p hp;unfold bN at hp;obtain⟨⟨l,k⟩,hq,rfl⟩:=List.mem_map.1 hp;exact fun hc=>h _ hq (MX.1 hc)
end Go.Pg
namespace Go.Pg
variable {P:Program}{σ σ':Nat→Nat}{δ:Nat}{pre:List AA}{s:St}{fr:Fr}{g:Bool}
noncomputable def rdC(fr:Fr)(x:Operand):Option (Bool×V):=match x with
 |.tmp t=>BZ fr t
 |.const v=>match CP v with
  |some x=>some (true,x)
  |none=>none
 |.func f=>some (true,.fn f [] [])
 |.global _=>none
theorem ARK(x:Operand):rdC fr x=rd fr x:=by
 cases x with
 |tmp t=>exact FG fr t
 |const v=>simp only[rdC,rd];cases CP v<;>rfl
 |func f=>rfl
 |global g=>rfl
noncomputable def lY(fr:Fr)(c a b:Operand):Option V:=match CM fr c,rdC fr a,rdC fr b with
 |some (.bool c),some (ca,.bool a),some (cb,.bool b)=>Bool.rec (Bool.rec none (some (.bool b)) cb) (Bool.rec none (some (.bool a)) ca) c
 |_,_,_=>none
noncomputable def LW(P:Program)(fr:Fr)(s:St)(T:TypeId)(x:Operand):Option V:=match CM fr x with
 |some p=>match A8 s p with
  |some cs=>BL P T cs
  |none=>none
 |none=>none
noncomputable def xFA(P:Program)(fr:Fr)(T:TypeId)(x:Operand)(f:Nat):Option V:=match CM fr x with
 |some p=>C7 P T p f
 |none=>none
noncomputable def qA(P:Program)(fr:Fr)(op:BinOp)(T:TypeId)(x y:Operand):Option V:=match CM fr x,CM fr y with
 |some a,some b=>G8 P op T a b
 |_,_=>none
noncomputable def RC(P:Program)(fr:Fr)(T:TypeId)(ps:List (Nat×Operand)):Option V:=match C4 (CM fr) ps with
 |some l=>CI P T l
 |none=>none
noncomputable def MY(P:Program)(fr:Fr)(T:TypeId)(n:Nat)(ps:List (Nat×Operand)):Option V:=match C4 (CM fr) ps with
 |some l=>B8 P T n l
 |none=>none
noncomputable def AJQ(P:Program)(o:Oper)(fr:Fr)(s:St):Option V:=match o.op with
 |.move x=>CM fr x
 |.assign x=>CM fr x
 |.load T x=>LW P fr s T x
 |.fieldAddr T x f=>xFA P fr T x f
 |.binOp op T x y _=>qA P fr op T x y
 |.pick c a b=>lY fr c a b
 |.build T ps=>RC P fr T ps.toList
 |.buildSlice T n ps=>MY P fr T n ps.toList
 |_=>IQ P o s (CM fr)
theorem PZ{o:Oper}{v:V}(h:AJQ P o fr s=some v):FN P true o fr s=some v:=by
 unfold AJQ at h;unfold FN;split at h<;>rename_i ho
 ·simp only[ho,IQ,←FH];exact h
 ·simp only[ho,IQ,←FH];exact h
 ·unfold LW at h;split at h
  ·rename_i p e1;split at h
   ·rename_i cs e2;simp only[ho,IQ,←FH,e1,e2,Option.bind_some];exact h
   ·cases h
  ·cases h
 ·unfold xFA at h;split at h
  ·rename_i p e1;simp only[ho,IQ,←FH,e1,Option.bind_some];exact h
  ·cases h
 ·unfold qA at h;split at h
  ·rename_i a b e1 e2;simp only[ho,IQ,←FH,e1,e2,Option.bind_some];exact h
  ·cases h
 ·unfold lY at h;simp only[ARK]at h;split at h
  ·rename_i c ca a cb b e1 e2 e3;rw[D3]at e1;simp only[ho,e1,e2,e3];cases c with
   |true=>
    cases ca with
    |false=>cases h
    |true=>cases h;simp
   |false=>
    cases cb with
    |false=>cases h
    |true=>cases h;simp
  ·cases h
 ·unfold RC at h;split at h
  ·rename_i l e1;simp only[ho,←FH,e1,Option.bind_some];exact h
  ·cases h
 ·unfold MY at h;split at h
  ·rename_i l e1;simp only[ho,←FH,e1,Option.bind_some];exact h
  ·cases h
 ·rw[FH]at h;split
  ·rename_i ho';rw[IQ,ho']at h;cases h
  ·rename_i ho';rw[IQ,ho']at h;cases h
  ·rename_i ho';rw[IQ,ho']at h;cases h
  ·exact h
theorem JK{α:Type}{b:Bool}{x y:α}(h:(Bool.rec none (some x) b:Option α)=some y):b=true∧x=y:=by
 cases b with
 |false=>cases h
 |true=>exact⟨rfl,Option.some.inj h⟩
theorem EM{α:Type}{b:Bool}{x:Option α}{y:α}(h:(Bool.rec none x b:Option α)=some y):b=true∧x=some y:=by
 cases b with
 |false=>cases h
 |true=>exact⟨rfl,h⟩
theorem TY{st:XS}(h:Bd st){v:V}{ys:List (List V)}(hv:UM st.c v)(he:elemsOf st.s v=some ys)(σ σ':Nat→Nat)(δ:Nat)(ha:AS st.c σ σ'):ys.map (List.map (V.ren σ δ))=ys.map (List.map (V.ren σ' δ)):=by have h1:=GS (σ:=σ) (pre:=List.replicate δ []) he;have h2:=GS (σ:=σ') (pre:=List.replicate δ []) he;rw[h.s σ σ' _ ha,hv σ σ' _ ha,h2]at h1;have:=Option.some.inj h1;rw[List.length_replicate]at this;exact this.symm
theorem FP(ys:List (List V))(m:Nat):(ys.map (List.map (V.ren σ δ))).all (fun y=>y.length==m)=ys.all (fun y=>y.length==m):=by rw[List.all_map];congr 1;funext y;simp
noncomputable def lZ(P:Program)(d:Tmp)(e:TypeId)(ys:List (List V))(st:XS)(xv:V):Option (XS×Nat×Nat):=match xv with
 |.vec l q γ n=>match Q2 n ys (st.s.get l q)with
  |some (γ',.vec W es)=>Bool.rec none (some (⟨st.c+1,(d,true,.vec l q st.c (es++ys).length)::st.fr,st.s.put l q st.c (.vec e (es++ys))⟩,l,q))
    (Nat.beq γ' γ&&Nat.beq W e&&Nat.beq n es.length&&es.all (fun y=>y.length==P.cellsOf e)&&CA P e es.length ys)
  |_=>none
 |_=>none
noncomputable def xAppG(el:St→V→Option (List (List V)))(P:Program)(d:Option Tmp)(args:List Operand)(Ts:List TypeId)(st:XS):Option (XS×Nat×Nat):=match args,Ts,d with
 | [x,y],[T,U],some d=>Bool.rec none (match BQ P T with
  |some (none,e)=>match CM st.fr x,CM st.fr y with
   |some xv,some yv=>match el st.s yv with
    |some ys=>match IV xv ys with
     |some es=>Bool.rec none (some (⟨st.c+1,(d,true,.vec st.s.up.length d st.c (es++ys).length)::st.fr,st.s.put st.s.up.length d st.c (.vec e (es++ys))⟩,st.s.up.length,d)) (es.all (fun y=>y.length==P.cellsOf e)&&CA P e es.length ys)
     |none=>lZ P d e ys st xv
    |none=>none
   |_,_=>none
  | _=>none) (Nat.beq T U)
 |_,_,_=>none
theorem ADF(v:V):WP (v.ren σ δ)=WP v:=by
 cases v with
 |list f es=>cases f<;>cases es<;>simp[WP]
 |_=>simp[WP]
theorem mA(v:V)(ys:List (List V)):IV (v.ren σ δ) (ys.map (List.map (V.ren σ δ)))=(IV v ys).map (List.map (List.map (V.ren σ δ))):=by
 cases v with
 |list f es=>cases f<;>cases es<;>cases ys<;>simp[IV]
 |_=>simp[IV]
theorem qE{v:V}{es ys:List (List V)}(h:IV v ys=some es):elemsOf s v=some es:=by unfold IV at h;split at h<;>cases h<;>rfl
theorem dT{e:TypeId}{n:Nat}(ys:List (List V)):CA P e n (ys.map (List.map (V.ren σ δ)))=CA P e n ys:=by unfold CA;rw[FP,List.length_map]
theorem ADG{n:Nat}(ys es:List (List V)):fV n (ys.map (List.map (V.ren σ δ))) (es.map (List.map (V.ren σ δ)))=(fV n ys es).map (List.map (V.ren σ δ)):=by
 cases ys with
 |nil=>rfl
 |cons y ys=>
  show(if _ then _ else _)=(if _ then _ else _:List (List V)).map _
  have e:(es.map (List.map (V.ren σ δ))).all (fun x=>x.length==(y.map (V.ren σ δ)).length)=es.all (fun x=>x.length==y.length):=by rw[List.all_map,List.length_map];congr 1;funext x;simp
  rw[e]
  split
  ·rw[List.map_take]
  ·rfl
theorem mB{n γ:Nat}{ys es:List (List V)}{U:TypeId}{o:Option (Nat×AZ)}(h:Q2 n ys o=some (γ,.vec U es)):Q2 n (ys.map (List.map (V.ren σ δ))) (o.map fun p=>(σ p.1,p.2.ren σ δ))=some (σ γ,.vec U (es.map (List.map (V.ren σ δ)))):=by obtain⟨es0,rfl,rfl⟩:=PS h;show some (σ γ,AZ.vec U (fV n _ _))=_;rw[ADG]
theorem Z5{el:St→V→Option (List (List V))}(hel0:∀s v es,el s v=some es→elemsOf s v=some es){o:Oper}{args:Array Operand}{Ts:Array TypeId}{st st':XS}{l q:Nat}(h:Bd st)(ho:o.op=.call { callee:=.builtin .append,args:=args,argTypes:=Ts })
  (hx:xAppG el P o.dst args.toList Ts.toList st=some (st',l,q)):∃d r,o.dst=some d∧dP r=true∧st'=⟨st.c+1,(d,true,HB r l q st.c)::st.fr,st.s.put l q st.c r⟩∧(∀σ σ' δ,AS st.c σ σ'→r.ren σ δ=r.ren σ' δ) ∧
   (∀(σ:Nat→Nat) (pre:List AA) (k:Fr→St→Prop),(∀γ,k ((st.fr.ren σ pre.length).put d true (HB (r.ren σ pre.length) (l+pre.length) q γ)) ((st.s.emb σ pre).put (l+pre.length) q γ (r.ren σ pre.length)))→EK P true o (st.fr.ren σ pre.length) (st.s.emb σ pre) k) ∧
   (∀(W:AN) (σ:Nat→Nat) (pre:List AA),(∀p∈J4 (CM st.fr) args.toList,p∉W)→WR P o (st.fr.ren σ pre.length) ((st.s.emb σ pre).hide (bN pre.length W)) (st.s.emb σ pre)=some (l+pre.length,q,r.ren σ pre.length)):=by
 unfold xAppG at hx
 split at hx
 ·rename_i x y T U d ha hT hd;obtain⟨hTU,hx2⟩:=EM hx;clear hx;have hTU:=Nat.eq_of_beq_eq_true hTU;subst hTU;have hx:=hx2;clear hx2;split at hx
  ·rename_i e hel;split at hx
   ·rename_i xv yv h1 h2;split at hx
    ·rename_i ys hys0;have hys:=hel0 _ _ _ hys0;have hyb:=TY h (h.rd h2) hys;have r1:=h1;have r2:=h2;rw[D3]at r1 r2;have hys2:∀(W:AN) (σ:Nat→Nat) (pre:List AA),(∀p∈J4 (CM st.fr) args.toList,p∉W)→elemsOf ((st.s.emb σ pre).hide (bN pre.length W)) (yv.ren σ pre.length)=some (ys.map (List.map (V.ren σ pre.length))):=fun W σ pre hW=>by refine gJ (GS hys) ?_;rw[ha]at hW;simp only[J4,h2]at hW;have:=lX (δ:=pre.length) hW;rw[←RB (σ:=σ)]at this;exact this
     cases hn:IV xv ys with
     |some es=>
      rw[hn]at hx
      obtain⟨hc,he⟩:=JK hx
      simp only[Prod.mk.injEq]at he
      obtain⟨rfl,rfl,rfl⟩:=he
      simp only[Bool.and_eq_true]at hc
      obtain⟨hce,hc⟩:=hc
      have heb:=TY h (h.rd h1) (qE hn)
      refine⟨d,.vec e (es++ys),hd,rfl,rfl,fun σ σ' δ hag=>by simp only[AZ.ren,List.map_append,hyb σ σ' δ hag,heb σ σ' δ hag],fun σ pre k hk=>?_,fun W σ pre hW=>?_⟩
      ·have hc':=hc;simp only[CA,Bool.and_eq_true,Nat.blt_eq,Nat.ble_eq]at hc;obtain⟨⟨⟨⟨c1,c2⟩,c3⟩,c4⟩,c5⟩:=hc;unfold EK;simp only[ho,ha,hT,hd,hel,DL,r1,r2,Option.map_some,Option.bind_some,GS hys,mA,hn,true_and];refine⟨c1,c2,by rw[FP];exact hce,by rw[FP];exact c3,by simpa using c4,by simpa using c5,fun γ=>?_⟩;have:=hk γ;simp only[HB,AZ.ren]at this;rw[DB,←List.map_append];exact this
      ·unfold WR;simp only[ho,ha,hT,hd,hel,DL,r1,r2,Option.map_some,Option.bind_some,hys2 _ _ _ hW,mA,hn,if_true,DB,AZ.ren];rw[if_pos ⟨by rw[FP];exact hce,by rw[dT,List.length_map];exact hc⟩,List.map_append]
     |none=>
      rw[hn]at hx
      replace hx:lZ P d e ys st xv=some (st',l,q):=hx
      unfold lZ at hx
      split at hx
      ·rename_i l0 q0 γ0 n';split at hx
       ·rename_i γ' W es hg;obtain⟨hc,he⟩:=JK hx;simp only[Prod.mk.injEq]at he;obtain⟨rfl,rfl,rfl⟩:=he;simp only[Bool.and_eq_true]at hc;obtain⟨⟨⟨⟨c1,c2⟩,c3⟩,c6⟩,c7⟩:=hc;have c1:=Nat.eq_of_beq_eq_true c1;have c2:=Nat.eq_of_beq_eq_true c2;have c3:=Nat.eq_of_beq_eq_true c3;subst c1;subst c2;subst c3;have heb:∀σ σ' δ,AS st.c σ σ'→es.map (List.map (V.ren σ δ))=es.map (List.map (V.ren σ' δ)):=fun σ σ' δ ha=>by
         obtain⟨es0,hg0,e0⟩:=PS hg;have:=MW h hg0 σ σ' δ ha;have e1:es0.map (List.map (V.ren σ δ))=es0.map (List.map (V.ren σ' δ)):=by simpa [AZ.ren]using this
         rcases UW es.length ys es0 with e2|⟨e2,_⟩
         ·rw[e0,e2,e1]
         ·rw[e0,e2,List.map_take,List.map_take,e1]
        refine⟨d,.vec W (es++ys),hd,rfl,rfl,fun σ σ' δ hag=>by simp only[AZ.ren,List.map_append,hyb σ σ' δ hag,heb σ σ' δ hag],fun σ pre k hk=>?_,fun W σ pre hW=>?_⟩
        ·simp only[CA,Bool.and_eq_true,Nat.blt_eq,Nat.ble_eq]at c7;obtain⟨⟨⟨⟨d1,d2⟩,d3⟩,d4⟩,d5⟩:=c7;have hnn:IV (V.vec (l0+pre.length) q0 (σ γ') es.length) (ys.map (List.map (V.ren σ pre.length)))=none:=rfl;unfold EK;simp only[ho,ha,hT,hd,hel,DL,r1,r2,Option.map_some,Option.bind_some,GS hys,HH,B5,mB hg,true_and,hnn];refine⟨by simp,d1,d2,by rw[FP];exact c6,by rw[FP];exact d3,by simpa using d4,by simpa using d5,fun γ=>?_⟩;have:=hk γ;simp only[HB,AZ.ren,List.map_append,List.length_append,List.length_map]at this⊢;exact this
        ·have hnn:IV (V.vec (l0+pre.length) q0 (σ γ') es.length) (ys.map (List.map (V.ren σ pre.length)))=none:=rfl;unfold WR;simp only[ho,ha,hT,hd,hel,DL,r1,r2,Option.map_some,Option.bind_some,hys2 _ _ _ hW,HH,B5,mB hg,hnn,if_true];rw[if_pos ⟨trivial,trivial,by simp,by rw[FP];exact c6,by rw[dT,List.length_map];exact c7⟩];simp only[AZ.ren,List.map_append]
       ·cases hx
      ·cases hx
    ·cases hx
   ·cases hx
  ·cases hx
 ·cases hx
theorem Z6{st:XS}(h:Bd st){d l q:Nat}{r:AZ}(hp:dP r=true)(hr:∀σ σ' δ,AS st.c σ σ'→r.ren σ δ=r.ren σ' δ):KH st ⟨st.c+1,(d,true,HB r l q st.c)::st.fr,st.s.put l q st.c r⟩:=by
 have hb:∀σ σ',AS (st.c+1) σ σ'→AS st.c σ σ':=fun σ σ' ha=>ha.mono (Nat.le_succ _);refine⟨Nat.le_succ _,⟨fun σ σ' δ ha=>?_,fun σ σ' pre ha=>?_,h.lp.put (VC hp)⟩,St.put_len _ _ _ _ _⟩
 ·show((st.fr.put d true (HB r l q st.c)).ren σ δ)=((st.fr.put d true (HB r l q st.c)).ren σ' δ);have e:∀σ:Nat→Nat,(HB r l q st.c).ren σ δ=HB (r.ren σ δ) (l+δ) q (σ st.c):=fun σ=>by cases r<;>simp[HB,AZ.ren]
  simp only[HI,e];rw[h.f σ σ' δ (hb _ _ ha),ha st.c (Nat.lt_succ_self _),hr σ σ' δ (hb _ _ ha)]
 ·simp only[CR];rw[h.s σ σ' pre (hb _ _ ha),hr σ σ' _ (hb _ _ ha),ha st.c (Nat.lt_succ_self _)]
theorem mC(r:AZ)(l q γ:Nat):(HB r l q γ).ren σ δ=HB (r.ren σ δ) (l+δ) q (σ γ):=by cases r<;>simp[HB,AZ.ren]
theorem qF{st:XS}(h:Bd st){d l q:Nat}{r:AZ}(hr:∀σ σ' δ,AS st.c σ σ'→r.ren σ δ=r.ren σ' δ){σ:Nat→Nat}{pre:List AA}{k:Fr→St→Prop}
  (hk:∀σ',AS st.c σ σ'→k (Fr.ren σ' pre.length ((d,true,HB r l q st.c)::st.fr)) ((st.s.put l q st.c r).emb σ' pre)) (γ:Nat):k ((st.fr.ren σ pre.length).put d true (HB (r.ren σ pre.length) (l+pre.length) q γ)) ((st.s.emb σ pre).put (l+pre.length) q γ (r.ren σ pre.length)):=by
 have:=hk (fun i=>if i=st.c then γ else σ i) (AS.upd _ _ _)
 have hag:=AS.upd st.c γ σ
 change k ((st.fr.put d true _).ren _ _) _ at this
 simp only[HI,mC,if_true,CR]at this
 rw[←h.f _ _ _ hag,←h.s _ _ _ hag,←hr _ _ _ hag]at this
 exact this
theorem uE(r:Mk)(l k γ:Nat):(r.val l k γ).ren σ δ=Mk.val ⟨r.res.ren σ δ,r.t⟩ (l+δ) k (σ γ):=by
 obtain⟨r,t⟩:=r;cases t with
 |none=>exact mC _ _ _ _
 |some t=>exact MS t
theorem yD{st:XS}(h:Bd st){d l q:Nat}{r:Mk}(hp:dP r.res=true)(hr:∀σ σ' δ,AS st.c σ σ'→r.res.ren σ δ=r.res.ren σ' δ):KH st ⟨st.c+1,(d,true,r.val l q st.c)::st.fr,st.s.put l q st.c r.res⟩:=by
 have hb:∀σ σ',AS (st.c+1) σ σ'→AS st.c σ σ':=fun σ σ' ha=>ha.mono (Nat.le_succ _);refine⟨Nat.le_succ _,⟨fun σ σ' δ ha=>?_,fun σ σ' pre ha=>?_,h.lp.put (VC hp)⟩,St.put_len _ _ _ _ _⟩
 ·show((st.fr.put d true (r.val l q st.c)).ren σ δ)=((st.fr.put d true (r.val l q st.c)).ren σ' δ);simp only[HI,uE];rw[h.f σ σ' δ (hb _ _ ha),ha st.c (Nat.lt_succ_self _),hr σ σ' δ (hb _ _ ha)]
 ·simp only[CR];rw[h.s σ σ' pre (hb _ _ ha),hr σ σ' _ (hb _ _ ha),ha st.c (Nat.lt_succ_self _)]
theorem AJR{st:XS}(h:Bd st){d l q:Nat}{r:Mk}(hr:∀σ δ,r.res.ren σ δ=r.res){σ:Nat→Nat}{pre:List AA}{k:Fr→St→Prop}
  (hk:∀σ',AS st.c σ σ'→k (Fr.ren σ' pre.length ((d,true,r.val l q st.c)::st.fr)) ((st.s.put l q st.c r.res).emb σ' pre)) (γ:Nat):k ((st.fr.ren σ pre.length).put d true (r.val (l+pre.length) q γ)) ((st.s.emb σ pre).put (l+pre.length) q γ r.res):=by
 have:=hk (fun i=>if i=st.c then γ else σ i) (AS.upd _ _ _)
 have hag:=AS.upd st.c γ σ
 change k ((st.fr.put d true _).ren _ _) _ at this
 simp only[HI,uE,if_true,CR,hr]at this
 rw[←h.f _ _ _ hag,←h.s _ _ _ hag]at this
 exact this
noncomputable def xAppend(P:Program)(d:Option Tmp)(args:List Operand)(Ts:List TypeId)(st:XS):Option XS:=match xAppG elemsOf P d args Ts st with
 |some (st',_,_)=>some st'
 |none=>none
theorem qH{o:Oper}{args:Array Operand}{Ts:Array TypeId}{st st':XS}(h:Bd st)(ho:o.op=.call { callee:=.builtin .append,args:=args,argTypes:=Ts })(hx:xAppend P o.dst args.toList Ts.toList st=some st'):StepX P o st st':=by
 unfold xAppend at hx;split at hx
 ·rename_i st1 l q e1;cases hx;obtain⟨d,r,hd,hp,rfl,hr,hs,_⟩:=Z5 (fun _ _ _ h=>h) h ho e1;exact⟨Z6 h hp hr,fun σ pre k hk=>hs σ pre k fun γ=>qF h hr hk γ⟩
 ·cases hx
noncomputable def uF(P:Program)(d:Option Tmp)(args:List Operand)(Ts:List TypeId)(st:XS):Option XS:=match args,Ts with
 |[x,y],[T,_]=>match BQ P T,CM st.fr x,CM st.fr y with
  |some (none,e),some (.vtl l q γ i n),some yv=>match st.s.get l q,elemsOf st.s yv with
   |some (γ',.box cs),some ys=>Bool.rec none (some { st with fr:=putD st.fr d true (.int .i64 ((min ys.length n:Nat):Int)),s:=st.s.put l q γ (.box (A4 cs i (ys.take n).flatten)) }) (Nat.beq γ' γ&&Nat.beq (P.cellsOf e) 1&&ys.all (fun y=>y.length==1)&&Nat.ble (i+n) cs.length&&Nat.blt γ st.c)
   |_,_=>none
  |_,_,_=>none
 |_,_=>none
theorem ADH{o:Oper}{args:Array Operand}{Ts:Array TypeId}{st st':XS}(h:Bd st)(ho:o.op=.call { callee:=.builtin .copy,args:=args,argTypes:=Ts })(hx:uF P o.dst args.toList Ts.toList st=some st'):StepX P o st st':=by
 unfold uF at hx;split at hx
 ·rename_i x y T U ha hT;split at hx
  ·rename_i e l q γ i n yv hel h1 h2;split at hx
   ·rename_i γ' cs ys hg hys;cases hb:(Nat.beq γ' γ&&Nat.beq (P.cellsOf e) 1&&ys.all (fun y=>y.length==1)&&Nat.ble (i+n) cs.length&&Nat.blt γ st.c)with
    |false=>rw[hb]at hx;cases hx
    |true=>
     rw[hb]at hx
     cases hx
     simp only[Bool.and_eq_true,Nat.blt_eq,Nat.ble_eq]at hb
     obtain⟨⟨⟨⟨c1,c2⟩,c3⟩,c4⟩,c5⟩:=hb
     have c1:=Nat.eq_of_beq_eq_true c1
     have c2:=Nat.eq_of_beq_eq_true c2
     subst c1
     have hB:Bd { st with s:=st.s.put l q γ' (.box (A4 cs i (ys.take n).flatten)) }:=h.putS c5 fun σ σ' δ ha=>by have hr:=MW h hg σ σ' δ ha;have he:=TY h (h.rd h2) hys σ σ' δ ha;simp only[AZ.ren,AZ.box.injEq]at hr⊢;rw[←C8,←C8,hr,List.map_flatten,List.map_flatten,List.map_take,List.map_take,he]
     refine⟨⟨Nat.le_refl _,hB.putF (fun _ _ _ _=>rfl),St.put_len _ _ _ _ _⟩,fun σ pre k hk=>?_⟩
     have:=hk σ (AS.refl _ _)
     rw[D3]at h1 h2
     unfold EK
     simp only[ho,ha,hT,hel,DL,h1,h2,Option.map_some,W7,Option.bind_some,GS hys,B5,hg,AZ.ren]
     refine⟨trivial,trivial,c2,?_,by simpa using c4,?_⟩
     ·rw[List.all_map];exact c3▸(by congr 1;funext x;simp)
     ·simp only[FO,EL,CR,AZ.ren,←C8,List.map_flatten,List.map_take]at this;simpa only[List.length_map]using this
   ·cases hx
  ·cases hx
 ·cases hx
end Go.Pg
namespace Go.Pg
variable {P:Program}{Ω:HC P}{σ σ':Nat→Nat}{δ:Nat}{pre:List AA}{s:St}{fr:Fr}{g:Bool}
def FQ{α β:Type}(f:α→Option β):List α→Option (List β)
 |[]=>some []
 |x::l=>match f x with
  |some y=>match FQ f l with
   |some r=>some (y::r)
   |none=>none
  |none=>none
theorem KZ{α β:Type}(f:α→Option β):∀(l:List α),FQ f l=l.mapM f
 |[]=>rfl
 |x::l=>by
  simp only[FQ,List.mapM_cons,←KZ f l];cases f x with
  |none=>rfl
  |some y=>cases FQ f l<;>rfl
abbrev CF:=FuncId→List V→XS→Option (V×XS)
abbrev CY:=Nat→Nat→Nat→List V→XS→Option (V×XS)
abbrev CF0:=FuncId→List V→Option V
abbrev CFO:=FuncId→List V→Tmp→Option Mk
structure XE where
 cf:CF
 cy:CY
 c0:CF0
 co:CFO
 lit:Tmp→Bool
def dU(P:Program)(cf:CF):Prop:=∀f args st r st',cf f args st=some (r,st')→Bd st→(∀v∈args,UM st.c v)→KH st st'∧UM st'.c r∧st'.fr=st.fr ∧
 ∀(σ:Nat→Nat) (pre:List AA) (K:V→St→Prop),(∀σ',AS st.c σ σ'→K (r.ren σ' pre.length) (st'.s.emb σ' pre))→FL P f (args.map (V.ren σ pre.length)) (st.s.emb σ pre) K
def ARM(P:Program)(cy:CY):Prop:=∀l q γ vs st r st',cy l q γ vs st=some (r,st')→Bd st→(∀v∈vs,UM st.c v)→KH st st'∧UM st'.c r∧st'.fr=st.fr ∧
 ∃fr0 ps asg body N,st.s.get l q=some (γ,.loop fr0 ps asg body N .ready)∧∀(σ:Nat→Nat) (pre:List AA) (k:V→St→Prop),(∀σ',AS st.c σ σ'→k (r.ren σ' pre.length) (st'.s.emb σ' pre)) →
  Y5 P (l+pre.length) q (σ γ) (Fr.ren σ pre.length fr0) ps asg body N (vs.map (V.ren σ pre.length)) (st.s.emb σ pre) k
def HJ(P:Program)(cf:CF0):Prop:=∀f args r,cf f args=some r→(∀s,FL P f args s fun r' s'=>r'=r∧s'=s)∧(∀v∈args,∀σ δ,v.ren σ δ=v)∧(∀σ δ,r.ren σ δ=r)
def gK(P:Program)(co:CFO):Prop:=∀f args d r,co f args d=some r→(∀(s:St),FL P f args s fun v s'=>∃γ,v=r.val s.up.length d γ∧s'=s.put s.up.length d γ r.res) ∧
 (∀v∈args,∀σ δ,v.ren σ δ=v)∧(∀σ δ,r.res.ren σ δ=r.res)∧dP r.res=true
structure J5(P:Program)(E:XE):Prop where
 cf:dU P E.cf
 cy:ARM P E.cy
 c0:HJ P E.c0
 co:gK P E.co
def J5.tab{E:XE}(h:J5 P E)(own:Oper→Bool):HC P:=⟨own,E.co,fun f args d r hc=>(h.co f args d r hc).1⟩
noncomputable def qJ(cy:CY)(d:Option Tmp)(l q γ:Nat)(args:List Operand)(st:XS):Option XS:=match FQ (CM st.fr) args with
 |some vs=>match cy l q γ vs st with
  |some (r,st')=>some { st' with fr:=putD st'.fr d true r }
  |none=>none
 |none=>none
noncomputable def TZ(cf:CF)(cy:CY)(d:Option Tmp)(f:Operand)(args:List Operand)(st:XS):Option XS:=match CM st.fr f with
 |some (.fn fid first cap)=>match FQ (CM st.fr) args with
  |some vs=>match cf fid ((first++vs++cap).map weakV) st with
   |some (r,st')=>some { st' with fr:=putD st'.fr d true r }
   |none=>none
  |none=>none
 |some (.yld l q γ)=>qJ cy d l q γ args st
 |_=>none
noncomputable def HK(co:CFO)(d:Option Tmp)(f:Operand)(args:List Operand)(st:XS):Option XS:=match d,CM st.fr f with
 |some d,some (.fn fid first cap)=>match FQ (CM st.fr) args with
  |some vs=>match co fid ((first++vs++cap).map weakV) d with
   |some r=>some ⟨st.c+1,(d,true,r.val st.s.up.length d st.c)::st.fr,st.s.put st.s.up.length d st.c r.res⟩
   |none=>none
  |none=>none
 |_,_=>none
noncomputable def cH(P:Program)(o:Oper)(st:XS):Option XS:=match AJQ P o st.fr st.s with
 |some v=>some { st with fr:=putD st.fr o.dst true v }
 |none=>none
noncomputable def Z7(E:XE)(own:Bool)(d:Option Tmp)(f:Operand)(args:List Operand)(st:XS):Option XS:=Bool.rec (TZ E.cf E.cy d f args st) (match HK E.co d f args st with
 |some st'=>some st'
 | none=>TZ E.cf E.cy d f args st) own
noncomputable def A4N(P:Program)(E:XE)(own:Oper→Bool)(o:Oper)(c:Call)(st:XS):Option XS:=match c.callee with
 |.value f=>Z7 E (own o) o.dst f c.args.toList st
 |.builtin .append=>xAppend P o.dst c.args.toList c.argTypes.toList st
 |.builtin .clear=>gH P o.dst c.args.toList c.argTypes.toList st
 |.builtin .copy=>uF P o.dst c.args.toList c.argTypes.toList st
 |_=>cH P o st
noncomputable def QR(P:Program)(E:XE)(own:Oper→Bool)(o:Oper)(st:XS):Option XS:=match o.op with
 |.alloc T=>OV P o.dst T st
 |.box _ x=>lU o.dst x st
 |.makeMap _ r=>yA o.dst r st
 |.makeSlice T x y=>WG P o.dst T x y st
 |.store T x y=>I6 P o.dst T x y st
 |.mapUpdate T x i y=>AJO P o.dst T x i y st
 |.call c=>A4N P E own o c st
 |_=>cH P o st
theorem uG{o:Oper}{st st':XS}(h:Bd st)(hx:cH P o st=some st'):StepX P o st st':=by
 unfold cH at hx;split at hx
 ·rename_i v hv;cases hx;exact xZ h (PZ hv)
 ·cases hx
theorem W8{st:XS}(h:Bd st):∀{args:List Operand} {vs:List V},FQ (CM st.fr) args=some vs→∀v∈vs,UM st.c v
 |[],vs,e,v,hv=>by cases e;cases hv
 |x::l,vs,e,v,hv=>by
  simp only[FQ]at e;split at e
  ·rename_i y hy;split at e
   ·rename_i r hr;cases e;rcases List.mem_cons.1 hv with rfl|hv
    ·exact h.rd hy
    ·exact W8 h hr v hv
   ·cases e
  ·cases e
theorem gL{c:Nat}{v:V}(h:UM c v):UM c (weakV v):=fun σ σ' δ ha=>by rw[←U7,←U7,h σ σ' δ ha]
theorem ADI{c:Nat}{f:FuncId}{xs ys:List V}(h:UM c (.fn f xs ys)):(∀v∈xs,UM c v)∧(∀v∈ys,UM c v):=by
 refine⟨fun v hv σ σ' δ ha=>?_,fun v hv σ σ' δ ha=>?_⟩
 ·have:=h σ σ' δ ha;simp only[OS,V.fn.injEq]at this;exact List.map_inj_left.1 this.2.1 v hv
 ·have:=h σ σ' δ ha;simp only[OS,V.fn.injEq]at this;exact List.map_inj_left.1 this.2.2 v hv
theorem HL(l:List V):(l.map weakV).map (V.ren σ δ)=(l.map (V.ren σ δ)).map weakV:=by simp only[List.map_map];congr 1;funext v;exact(U7 v).symm
theorem dV{E:XE}(hE:J5 P E){own:Oper→Bool}{o:Oper}(hown:own o=true){f:Operand}{args:Array Operand}{Ts:Array TypeId}{st st':XS}(h:Bd st)(ho:o.op=.call { callee:=.value f,args:=args,argTypes:=Ts })(hx:HK E.co o.dst f args.toList st=some st'):gG P (hE.tab own) o st st':=by
 unfold HK at hx;split at hx
 ·rename_i d fid first cap hd hf;split at hx
  ·rename_i vs hvs;split at hx
   ·rename_i r hc;cases hx;obtain⟨_,hcl,hr,hpl⟩:=hE.co _ _ _ _ hc;refine⟨yD h hpl (fun σ σ' δ _=>by rw[hr,hr]),d,hd,fun σ pre k hk=>⟨r,?_,fun γ=>?_⟩⟩
    ·have hcd:IX true o (st.fr.ren σ pre.length)=some (fid,(first++vs++cap).map weakV):=by
      rw[KZ,FH]at hvs;rw[D3]at hf;simp only[IX,ho,JE,hf,Option.map_some,OS,IY hvs,Option.some.injEq,Prod.mk.injEq,true_and];have e:((first++vs++cap).map weakV).map (V.ren σ pre.length)=(first++vs++cap).map weakV:=by
       conv=>rhs;rw[←List.map_id ((first++vs++cap).map weakV)]
       exact List.map_congr_left fun v hv=>hcl v hv σ _
      rw[HL]at e;simpa only[List.map_append]using e
     simp only[QI,ho,J5.tab,hown,if_true,hcd,hd,hc]
    ·have:=AJR h (d:=d) hr hk γ;rw[←DB]at this;exact this
   ·cases hx
  ·cases hx
 ·cases hx
theorem mD{cf:CF}{cy:CY}(hcf:dU P cf)(hcy:ARM P cy){o:Oper}{f:Operand}{args:Array Operand}{Ts:Array TypeId}{st st':XS}(h:Bd st)(ho:o.op=.call { callee:=.value f,args:=args,argTypes:=Ts })(hx:TZ cf cy o.dst f args.toList st=some st'):StepX P o st st':=by
 unfold TZ at hx;split at hx
 ·rename_i fid first cap hf;split at hx
  ·rename_i vs hvs;split at hx
   ·rename_i r st1 hr;cases hx;have b1:=ADI (h.rd hf);have b2:=W8 h hvs;obtain⟨hE,hrb,hfr,hA⟩:=hcf _ _ _ _ _ hr h (fun v hv=>by
     obtain⟨u,hu,rfl⟩:=List.mem_map.1 hv;refine gL ?_;rcases List.mem_append.1 hu with hu|hu
     ·rcases List.mem_append.1 hu with hu|hu
      ·exact b1.1 u hu
      ·exact b2 u hu
     ·exact b1.2 u hu)
    refine⟨⟨hE.c,hE.bd.putF hrb,hE.n⟩,fun σ pre k hk=>?_⟩;rw[KZ,FH]at hvs;rw[D3]at hf;unfold EK;simp only[ho,JE,hf,Option.map_some,OS,IY hvs];refine .inl ⟨rfl,?_⟩;have:=hA σ pre (fun r s'=>k (putD (st.fr.ren σ pre.length) o.dst true r) s') fun σ' ha=>?_
    ·rw[HL]at this;simpa only[List.map_append]using this
    ·have h1:=hk σ' ha;rw[FO,hfr,←h.f σ σ' _ ha]at h1;exact h1
   ·cases hx
  ·cases hx
 ·rename_i l q γ hf;unfold qJ at hx;split at hx
  ·rename_i vs hvs;split at hx
   ·rename_i r st1 hr;cases hx;obtain⟨hE,hrb,hfr,fr0,ps,asg,body,N,hget,hA⟩:=hcy _ _ _ _ _ _ _ hr h (W8 h hvs);refine⟨⟨hE.c,hE.bd.putF hrb,hE.n⟩,fun σ pre k hk=>?_⟩;rw[KZ,FH]at hvs;rw[D3]at hf;unfold EK;simp only[ho,JE,hf,Option.map_some,gD,IY hvs,B5,hget,AZ.ren];refine⟨trivial,trivial,?_⟩;refine hA σ pre (fun r s'=>k (putD (st.fr.ren σ pre.length) o.dst true r) s') fun σ' ha=>?_;have h1:=hk σ' ha;rw[FO,hfr,←h.f σ σ' _ ha]at h1;exact h1
   ·cases hx
  ·cases hx
 ·cases hx
theorem mE{E:XE}(hE:J5 P E){own:Oper→Bool}{o:Oper}{st st':XS}(h:Bd st)(hx:QR P E own o st=some st'):StepX P o st st':=by
 unfold QR at hx;split at hx
 ·rename_i T ho;exact(dR (Ω:=HC.nothing P) h ho hx).step
 ·rename_i T x ho;exact(uC (Ω:=HC.nothing P) h ho hx).step
 ·rename_i T r ho;exact(uD (Ω:=HC.nothing P) h ho hx).step
 ·rename_i T x y ho;exact(lV (Ω:=HC.nothing P) h ho hx).step
 ·rename_i T x y ho;exact dS h ho hx
 ·rename_i T x i y ho;exact AJP h ho hx
 ·rename_i c ho;obtain⟨callee,args,Ts⟩:=c;unfold A4N at hx;split at hx
  ·rename_i f hc;have hc:callee=.value f:=hc;subst hc;unfold Z7 at hx;cases hown:own o with
   |false=>rw[hown]at hx;exact mD hE.cf hE.cy h ho hx
   |true=>
    rw[hown]at hx
    have hx:(match HK E.co o.dst f args.toList st with
     |some st'=>some st'
     | none=>TZ E.cf E.cy o.dst f args.toList st)=some st':=hx
    split at hx
    ·rename_i st1 h1;cases hx;exact(dV hE hown h ho h1).step
    ·exact mD hE.cf hE.cy h ho hx
  ·rename_i hc;have hc:callee=.builtin .append:=hc;subst hc;exact qH h ho hx
  ·rename_i hc;have hc:callee=.builtin .clear:=hc;subst hc;exact yB h ho hx
  ·rename_i hc;have hc:callee=.builtin .copy:=hc;subst hc;exact ADH h ho hx
  ·exact uG h hx
 ·exact uG h hx
noncomputable def gdX(fr:Fr)(gd:Option (Tmp×Bool)):Option Bool:=match gd with
 |none=>some true
 |some (d,want)=>match BZ fr d with
  |some (c,.bool b)=>some (c&&(b==want))
  |_=>none
theorem qK(gd:Option (Tmp×Bool)):gdX fr gd=QH fr gd:=by
 cases gd with
 |none=>rfl
 |some p=>simp only[gdX,QH,FG];rfl
theorem MZ{gd:Option (Tmp×Bool)}(h:QH fr gd=some g):QH (fr.ren σ δ) gd=some g:=by
 cases gd with
 |none=>exact h
 |some p=>
  simp only[QH]at h⊢
  split at h
  ·rename_i c b e;simp only[Fr.get_ren,e,Option.map_some,LR];exact h
  ·cases h
noncomputable def HY(d:Option Tmp)(st:XS):XS:={ st with fr:=putD st.fr d false (.bool false) }
noncomputable def ADJ(P:Program)(lit:Tmp→Bool)(o:Oper)(st:XS):Option XS:=match o.op,o.dst with
 | .buildSlice T _ _,some d=>Bool.rec none (match BQ P T,AJQ P o st.fr st.s with
  |some (none,e),some (.list true (x::es))=>Bool.rec none (some ⟨st.c+1,(d,true,HB (.vec e (x::es)) st.s.up.length d st.c)::st.fr,st.s.put st.s.up.length d st.c (.vec e (x::es))⟩) (Nat.ble (x::es).length maxLen)
  | _,_=>none) (lit d)
 |_,_=>none
theorem AJT{lit:Tmp→Bool}{o:Oper}{st st':XS}(h:Bd st)(hx:ADJ P lit o st=some st'):KH st st' ∧
  ∀(σ:Nat→Nat) (pre:List AA) (k:Fr→St→Prop),(∀σ',AS st.c σ σ'→k (st'.fr.ren σ' pre.length) (st'.s.emb σ' pre))→A4F P true o (st.fr.ren σ pre.length) (st.s.emb σ pre) k:=by
 unfold ADJ at hx
 split at hx
 ·rename_i T len parts d ho hd;obtain⟨_,hx⟩:=EM hx;split at hx
  ·rename_i e x es hel hv;obtain⟨hc,he⟩:=JK hx;cases he;have hv:=PZ hv;have hb:=TY h (h.val hv) (ys:=x::es) rfl;refine⟨Z6 h rfl fun σ σ' δ ha=>by simp only[AZ.ren,hb σ σ' δ ha],fun σ pre k hk=>?_⟩;have hv':=IZ (σ:=σ) (pre:=pre) hv;unfold FN at hv';simp only[ho]at hv';obtain⟨ps,h1,h2⟩:=Option.bind_eq_some_iff.1 hv';rw[EZ]at h2;refine⟨T,len,parts,d,e,_,ps,ho,rfl,hd,hel,h1,h2,by simp,by simpa [Nat.ble_eq]using hc,fun γ=>?_⟩;have:=qF h (d:=d) (r:=.vec e (x::es)) (fun σ σ' δ ha=>by simp only[AZ.ren,hb σ σ' δ ha]) hk γ;rw[DB];simpa only[HB,AZ.ren]using this
  ·cases hx
 ·cases hx
def AJU(all:List Oper)(t:Tmp):Bool:=all.any fun p=>match p.op,p.dst with
 |.call { callee:=.builtin .append,.. },some d=>Nat.beq d t
 |_,_=>false
noncomputable def M0(all:List Oper)(st:XS):List Operand→Option XS
 |[]=>none
 |x::r=>match x with
  | .tmp t=>Bool.rec (M0 all st r) (match BZ st.fr t with
   |some (true,.vec l q γ n)=>match st.s.get l q with
    |some (γ',.vec _ es)=>Bool.rec none (some ⟨st.c,(t,true,.list false (es.take n))::st.fr,st.s.put l q γ .dead⟩) (Nat.beq γ' γ&&Nat.ble n es.length&&Nat.blt γ st.c)
    |_=>none
   | _=>none) (AJU all t)
  |_=>M0 all st r
noncomputable def ADK(all:List Oper)(o:Oper)(st:XS):Option XS:=match o.op with
 |.call c=>match c.callee with
  |.value _=>M0 all st c.args.toList
  |_=>none
 |_=>none
theorem VD{all:List Oper}{st st1:XS}(h:Bd st):∀{xs:List Operand},M0 all st xs=some st1→KH st st1 ∧
  ∀(o:Oper) (σ:Nat→Nat) (pre:List AA) (k:Fr→St→Prop),EK P true o (st1.fr.ren σ pre.length) (st1.s.emb σ pre) k→AM8 P true o (st.fr.ren σ pre.length) (st.s.emb σ pre) k
 |[],hx=>by cases hx
 |x::r,hx=>by
  unfold M0 at hx;split at hx
  ·rename_i t;cases hA:AJU all t with
   |false=>rw[hA]at hx;exact VD h hx
   |true=>
    rw[hA]at hx
    have hx:(match BZ st.fr t with
     |some (true,.vec l q γ n)=>match st.s.get l q with
      |some (γ',.vec _ es)=>Bool.rec none (some ⟨st.c,(t,true,.list false (es.take n))::st.fr,st.s.put l q γ .dead⟩) (Nat.beq γ' γ&&Nat.ble n es.length&&Nat.blt γ st.c)
      |_=>none
     | _=>none)=some st1:=hx
    split at hx
    ·rename_i l q γ n hg;split at hx
     ·rename_i γ' T es hs;obtain⟨hc,he⟩:=JK hx;simp only[Bool.and_eq_true]at hc;obtain⟨⟨h1,h2⟩,h3⟩:=hc;have h1:=Nat.eq_of_beq_eq_true h1;have h2:n≤es.length:=by simpa [Nat.ble_eq]using h2
      have h3:γ<st.c:=by simpa [Nat.blt_eq]using h3
      subst h1;cases he;rw[FG]at hg;have hb:∀σ σ' δ,AS st.c σ σ'→es.map (List.map (V.ren σ δ))=es.map (List.map (V.ren σ' δ)):=fun σ σ' δ ha=>by have:=MW h hs σ σ' δ ha;simpa [AZ.ren]using this
      have hv:UM st.c (.list false (es.take n)):=fun σ σ' δ ha=>by simp only[EZ,List.map_take,hb σ σ' δ ha]
      have hbd:Bd ⟨st.c,(t,true,.list false (es.take n))::st.fr,st.s.put l q γ' .dead⟩:=(h.putS (l:=l) (k:=q) (r:=.dead) h3 (fun _ _ _ _=>rfl)).putF (d:=some t) (c:=true) hv;refine⟨⟨Nat.le_refl _,hbd,St.put_len _ _ _ _ _⟩,fun o σ pre k hk=>⟨t,l+pre.length,q,σ γ',n,T,es.map (List.map (V.ren σ pre.length)),rfl,?_,?_,by simpa using h2,?_⟩⟩
      ·rw[Fr.get_ren,hg];simp
      ·rw[B5,hs];simp[AZ.ren]
      ·change EK P true o ((st.fr.put t true _).ren _ _) _ k at hk;simp only[HI,EZ,CR,AZ.ren,List.map_take]at hk;exact hk
     ·cases hx
    ·cases hx
  ·exact VD h hx
noncomputable def opX(P:Program)(E:XE)(all:List Oper)(o:Oper)(st:XS):Option XS:=match gdX st.fr (KX all o)with
 |some true=>match ADJ P E.lit o st with
  |some st'=>some st'
  |none=>match ADK all o st with
   |some st1=>QR P E (DR all) o st1
   |none=>QR P E (DR all) o st
 |some false=>some (HY o.dst st)
 |none=>none
theorem dW{d:Option Tmp}{st:XS}(h:Bd st):KH st (HY d st):=⟨Nat.le_refl _,h.putF (fun σ σ' δ _=>by simp),rfl⟩
theorem ADL{E:XE}(hE:J5 P E){all:List Oper}{o:Oper}{st st':XS}(h:Bd st)(hx:opX P E all o st=some st'):KH st st'∧∃g,(∀σ δ,QH (st.fr.ren σ δ) (KX all o)=some g) ∧
  ∀(σ:Nat→Nat) (pre:List AA) (k:Fr→St→Prop),(∀σ',AS st.c σ σ'→k (st'.fr.ren σ' pre.length) (st'.s.emb σ' pre))→TH P g o (st.fr.ren σ pre.length) (st.s.emb σ pre) k:=by
 unfold opX at hx
 rw[qK]at hx
 split at hx
 ·rename_i hg;split at hx
  ·rename_i st1 hl;cases hx;obtain⟨h1,h2⟩:=AJT h hl;exact⟨h1,true,fun σ δ=>MZ hg,fun σ pre k hk=>.inr (.inr (.inl (h2 σ pre k hk)))⟩
  ·split at hx
   ·rename_i st1 ht;have ht':∃xs,M0 all st xs=some st1:=by
     unfold ADK at ht;split at ht
     ·split at ht
      ·exact⟨_,ht⟩
      ·cases ht
     ·cases ht
    obtain⟨xs,ht'⟩:=ht';obtain⟨hE1,hs1⟩:=VD (P:=P) h ht';obtain⟨h1,h2⟩:=mE hE hE1.bd hx;exact⟨⟨Nat.le_trans hE1.c h1.c,h1.bd,h1.n.trans hE1.n⟩,true,fun σ δ=>MZ hg,fun σ pre k hk=>.inr (.inr (.inr (hs1 o σ pre k (h2 σ pre k fun σ' ha=>hk σ' (ha.mono hE1.c)))))⟩
   ·obtain⟨h1,h2⟩:=mE hE h hx;exact⟨h1,true,fun σ δ=>MZ hg,fun σ pre k hk=>.inl (h2 σ pre k hk)⟩
 ·rename_i hg;cases hx;refine⟨dW h,false,fun σ δ=>MZ hg,fun σ pre k hk=>.inr (.inl ⟨rfl,.bool false,?_⟩)⟩;have:=hk σ (AS.refl _ _);simpa only[HY,FO,LR]using this
 ·cases hx
noncomputable def gM(P:Program)(E:XE)(all:List Oper):List Oper→XS→Option XS
 |[],st=>some st
 |o::r,st=>match opX P E all o st with
  |some st'=>gM P E all r st'
  |none=>none
theorem gN{E:XE}(hEE:J5 P E){all:List Oper}:∀{l:List Oper} {st st':XS},Bd st→gM P E all l st=some st'→KH st st' ∧
  ∀(σ:Nat→Nat) (pre:List AA) (K:Fr→St→Prop),(∀σ',AS st.c σ σ'→K (st'.fr.ren σ' pre.length) (st'.s.emb σ' pre))→V6 P (l.map (KX all)) l (st.fr.ren σ pre.length) (st.s.emb σ pre) K
 |[],st,st',h,hx=>by cases hx;exact⟨⟨Nat.le_refl _,h,rfl⟩,fun σ pre K hk=>hk σ (AS.refl _ _)⟩
 |o::l,st,st',h,hx=>by
  simp only[gM]at hx;split at hx
  ·rename_i st1 h1;obtain⟨hE,g,hg,hs⟩:=ADL hEE h h1;obtain⟨hE',hs'⟩:=gN hEE hE.bd hx;refine⟨⟨Nat.le_trans hE.c hE'.c,hE'.bd,hE'.n.trans hE.n⟩,fun σ pre K hk=>?_⟩;simp only[List.map_cons,V6,hg];exact hs σ pre _ fun σ' ha=>hs' σ' pre K fun σ'' ha'=>hk σ'' (ha.trans ha' hE.c)
  ·cases hx
noncomputable def Z8(cf:CF0)(d:Option Tmp)(f:Operand)(args:List Operand)(st:XS):Option XS:=match CM st.fr f with
 |some (.fn fid first cap)=>match FQ (CM st.fr) args with
  |some vs=>match cf fid ((first++vs++cap).map weakV)with
   |some r=>some { st with fr:=putD st.fr d true r }
   |none=>none
  |none=>none
 |_=>none
noncomputable def T1(r:Option XS):Option (XS×AN):=match r with
 |some st=>some (st,[])
 |none=>none
noncomputable def xAppD(P:Program)(d:Option Tmp)(args:List Operand)(Ts:List TypeId)(st:XS):Option (XS×AN):=match xAppG elemsOf P d args Ts st with
 |some (st',l,q)=>some (st',[(l,q),(l,q+HV)])
 |none=>none
noncomputable def ANH(P:Program)(E:XE)(own:Oper→Bool)(o:Oper)(c:Call)(st:XS):Option (XS×AN):=match c.callee with
 |.value f=>Bool.rec (T1 (Z8 E.c0 o.dst f c.args.toList st)) (T1 (HK E.co o.dst f c.args.toList st)) (own o)
 |.builtin .append=>xAppD P o.dst c.args.toList c.argTypes.toList st
 |_=>T1 (cH P o st)
noncomputable def ADM(P:Program)(d:Option Tmp)(T:TypeId)(x y:Operand)(st:XS):Option (XS×AN):=match I6 P d T x y st with
 |some st'=>some (st',CB (Nat.beq (P.cellsOf T) 1) (CM st.fr x))
 |none=>none
noncomputable def gO(P:Program)(E:XE)(own:Oper→Bool)(o:Oper)(st:XS):Option (XS×AN):=match o.op with
 |.alloc T=>T1 (OV P o.dst T st)
 |.box _ x=>T1 (lU o.dst x st)
 |.makeMap _ r=>T1 (yA o.dst r st)
 |.makeSlice T x y=>T1 (WG P o.dst T x y st)
 |.store T x y=>ADM P o.dst T x y st
 |.call c=>ANH P E own o c st
 |_=>T1 (cH P o st)
noncomputable def qM(P:Program)(E:XE)(all:List Oper)(o:Oper)(st:XS):Option (XS×AN):=match gdX st.fr (KX all o)with
 |some true=>gO P E (DR all) o st
 |some false=>Bool.rec (some (HY o.dst st,[])) none (kA (DR all) o||kW o||kP o)
 |none=>none
theorem HM{r:Option XS}{st':XS}{wr:AN}(h:T1 r=some (st',wr)):r=some st'∧wr=[]:=by
 unfold T1 at h;split at h
 ·cases h;exact⟨rfl,rfl⟩
 ·cases h
def ARN(P:Program)(Ω:HC P)(all:List Oper)(o:Oper)(st st':XS)(wr:AN):Prop:=KH st st' ∧
  ∀(W:AN) (σ:Nat→Nat) (pre:List AA) (k:Fr→St→Prop),(∀p∈ED P o (CM st.fr),p∉W)→(∀p∈wr,p∈W)→(∀σ',AS st.c σ σ'→k (st'.fr.ren σ' pre.length) (st'.s.emb σ' pre))→I9 P Ω (bN pre.length W) o (KX all o) (st.fr.ren σ pre.length) (st.s.emb σ pre) k
theorem AJV{E:XE}(hE:J5 P E){all:List Oper}{o:Oper}{st st':XS}{wr:AN}(h:Bd st)(hx:qM P E all o st=some (st',wr)):ARN P (hE.tab (DR all)) all o st st' wr:=by
 have val:∀{st'},(∀σ δ,QH (st.fr.ren σ δ) (KX all o)=some true)→cH P o st=some st'→ARN P (hE.tab (DR all)) all o st st' wr:=by
  intro st' hg hx;unfold cH at hx;split at hx
  ·rename_i v hv;cases hx;have hv:=PZ hv;refine⟨⟨Nat.le_refl _,h.putF (h.val hv),rfl⟩,fun W σ pre k hr _ hk=>.inl ⟨true,v.ren σ pre.length,⟨hg _ _,?_⟩,?_⟩⟩
   ·have hrd:∀p∈ED P o (DZ true (st.fr.ren σ pre.length)),p∉bN pre.length W:=by rw[JE,pZ,←FH];exact lX hr
    cases hi:lW P o (DZ true (st.fr.ren σ pre.length))with
    |true=>exact .inr (.inr (.inl (ARJ (IZ hv) hi hrd)))
    |false=>exact .inl ⟨_,Z4 _,yC (IZ hv) hi hrd⟩
   ·have:=hk σ (AS.refl _ _);rwa [FO]at this
  ·cases hx
 have new:∀{st'},(∀σ δ,QH (st.fr.ren σ δ) (KX all o)=some true)→gG P (hE.tab (DR all)) o st st'→ARN P (hE.tab (DR all)) all o st st' wr:=by intro st' hg hn;obtain⟨h1,d,hd,h2⟩:=hn;refine⟨h1,fun W σ pre k _ _ hk=>?_⟩;obtain⟨r,hr,h3⟩:=h2 σ pre k hk;exact .inr (.inl ⟨r,d,⟨hg _ _,hd,hr⟩,h3⟩)
 unfold qM at hx;rw[qK]at hx;split at hx
 ·rename_i hg;have hg':∀σ δ,QH (st.fr.ren σ δ) (KX all o)=some true:=fun σ δ=>MZ hg;unfold gO at hx;split at hx
  ·rename_i T ho;exact new hg' (dR h ho (HM hx).1)
  ·rename_i T x ho;exact new hg' (uC h ho (HM hx).1)
  ·rename_i T r ho;exact new hg' (uD h ho (HM hx).1)
  ·rename_i T x y ho;exact new hg' (lV h ho (HM hx).1)
  ·rename_i T x y ho;unfold ADM at hx;split at hx
   ·rename_i st1 hx1;cases hx;obtain⟨hE1,_⟩:=dS h ho hx1;obtain⟨l,q,γ,r,hD,rfl⟩:=ADC ho hx1;refine⟨hE1,fun W σ pre k _ hw hk=>.inr (.inr (.inl ⟨_,_,_,_,⟨hg' _ _,?_,pV hD⟩,?_⟩))⟩
    ·have hp:=ZK hD;unfold pL at hp;simp only[ho]at hp;have main:∀off,(DZ true st.fr x=some (.ptr l q γ off)∨∃i,DZ true st.fr x=some (.eptr l q γ i off))→WOK P (bN pre.length W) o (st.fr.ren σ pre.length) (l+pre.length) q:=by
      intro off hx;have hC:I5 P o (st.fr.ren σ pre.length)=some (off,P.cellsOf T):=by unfold I5;rcases hx with hx|⟨i,hx⟩<;>simp only[ho,DL,hx,Option.map_some,HG,OR]
      cases hb:Nat.beq (P.cellsOf T) 1 with
      |true=>
       have h1:=Nat.eq_of_beq_eq_true hb
       have hpl:CB (Nat.beq (P.cellsOf T) 1) (CM st.fr x)=[(l,q),(l,EQ q off)]:=by rw[D3,hb];rcases hx with hx|⟨i,hx⟩<;>rw[hx]<;>rfl
       rw[hpl]at hw
       refine⟨MX.2 (hw _ (by simp)),.inr fun off' n' e c h2 h3=>?_⟩
       rw[hC]at e
       cases e
       obtain rfl:c=off:=by omega
       exact MX.2 (hw _ (by simp))
      |false=>
       have hpl:CB (Nat.beq (P.cellsOf T) 1) (CM st.fr x)=[(l,q),(l,q+E7)]:=by rw[D3,hb];rcases hx with hx|⟨i,hx⟩<;>rw[hx]<;>rfl
       rw[hpl]at hw
       exact⟨MX.2 (hw _ (by simp)),.inl (MX.2 (hw _ (by simp)))⟩
     split at hp
     ·rename_i l1 q1 γ1 off e;cases hp;exact main off (.inl e)
     ·rename_i l1 q1 γ1 i off e;cases hp;exact main off (.inr ⟨i,e⟩)
     ·cases hp
    ·have:=hk σ (AS.refl _ _);simp only[CR]at this;exact this
   ·cases hx
  ·rename_i c ho;obtain⟨callee,args,Ts⟩:=c;unfold ANH at hx;split at hx
   ·rename_i f hc;have hc:callee=.value f:=hc;subst hc;cases hown:DR all o with
    |true=>
     rw[hown]at hx
     exact new hg' (dV hE hown h ho (HM hx).1)
    |false=>
     rw[hown]at hx
     have hx:=(HM hx).1
     unfold Z8 at hx
     split at hx
     ·rename_i fid first cap hf;split at hx
      ·rename_i vs hvs;split at hx
       ·rename_i r hr;cases hx;obtain⟨hA,hcl,hrc⟩:=hE.c0 _ _ _ hr;refine⟨⟨Nat.le_refl _,h.putF (fun σ σ' δ _=>by rw[hrc,hrc]),rfl⟩,fun W σ pre k _ _ hk=>.inl ⟨true,r,⟨hg' _ _,.inr (.inl ⟨fid,(first++vs++cap).map weakV,?_,hown,fun _ s=>hA s⟩)⟩,?_⟩⟩
        ·rw[KZ,FH]at hvs;rw[D3]at hf;simp only[IX,ho,JE,hf,Option.map_some,OS,IY hvs,Option.some.injEq,Prod.mk.injEq,true_and];have e:((first++vs++cap).map weakV).map (V.ren σ pre.length)=(first++vs++cap).map weakV:=by
          conv=>rhs;rw[←List.map_id ((first++vs++cap).map weakV)]
          exact List.map_congr_left fun v hv=>hcl v hv σ _
         rw[HL]at e;simpa only[List.map_append]using e
        ·have:=hk σ (AS.refl _ _);rwa [FO,hrc]at this
       ·cases hx
      ·cases hx
     ·cases hx
   ·rename_i hc;have hc:callee=.builtin .append:=hc;subst hc;unfold xAppD at hx;split at hx
    ·rename_i st1 l q e1;cases hx;obtain⟨d,r,hd,hp,rfl,hr,_,hs⟩:=Z5 (fun _ _ _ h=>h) h ho e1;have hra:ED P o (CM st.fr)=J4 (CM st.fr) args.toList:=by simp only[ED,ho]
     refine⟨Z6 h hp hr,fun W σ pre k hrd hw hk=>.inr (.inr (.inr ⟨l+pre.length,q,r.ren σ pre.length,d,⟨hg' _ _,⟨MX.2 (hw _ (by simp)),MX.2 (hw _ (by simp))⟩,hd,_,Z4 _,hs W σ pre (by rw[←hra];exact hrd)⟩,fun γ=>qF h hr hk γ⟩))⟩
    ·cases hx
   ·exact val hg' (HM hx).1
  ·exact val hg' (HM hx).1
 ·rename_i hg;cases hk:(kA (DR all) o||kW o||kP o)with
  |true=>rw[hk]at hx;cases hx
  |false=>
   rw[hk]at hx
   cases hx
   rw[Bool.or_eq_false_iff,Bool.or_eq_false_iff]at hk
   refine⟨dW h,fun W σ pre k _ _ hk'=>.inl ⟨false,.bool false,⟨MZ hg,.inr (.inr (.inr ⟨rfl,hk.1.1,hk.1.2,hk.2⟩))⟩,?_⟩⟩
   have:=hk' σ (AS.refl _ _)
   simpa only[HY,FO,LR]using this
 ·cases hx
noncomputable def phX(P:Program)(E:XE)(l:List Oper):List Nat→XS→AN→AN→Option (XS×AN×AN)
 |[],st,rd,wr=>some (st,rd,wr)
 |i::r,st,rd,wr=>match l[i]? with
  |some o=>match qM P E l o st with
   |some (st',w)=>phX P E l r st' (cond (zB l o) [] (ED P o (CM st.fr))++rd) (w++wr)
   |none=>none
  |none=>none
noncomputable def sqX(P:Program)(E:XE)(l:List Oper):List Nat→XS→Option XS
 |[],st=>some st
 |i::r,st=>match l[i]? with
  |some o=>match opX P E l o st with
   |some st'=>sqX P E l r st'
   |none=>none
  |none=>none
noncomputable def yE(P:Program)(E:XE)(l:List Oper):WS→XS→Option XS
 |[],st=>some st
 | p :: S,st=>Bool.rec none (match phX P E l p.1 st [] []with
  | some (st1,rd,wr)=>Bool.rec none (match sqX P E l p.2 st1 with
   |some GZ=>yE P E l S GZ
   | none=>none) (wr.all fun p=>!(rd.contains p))
  | none=>none) (ZX (DR l) l p.1 st.s.loc)
theorem W9{l:List Oper}{i:Nat}{o:Oper}(h:l[i]? = some o):bM (l.map (KX l)) i=KX l o:=by simp[bM,h]
theorem AJW{E:XE}{all:List Oper}{o:Oper}{st st':XS}{wr:AN}(ho:∃T x,o.op=.load T x)(hx:qM P E all o st=some (st',wr)):wr=[]:=by
 obtain⟨T,x,ho⟩:=ho;unfold qM at hx;split at hx
 ·unfold gO at hx;rw[ho]at hx;exact(HM hx).2
 ·cases hk:(kA (DR all) o||kW o||kP o)with
  |true=>rw[hk]at hx;cases hx
  |false=>rw[hk]at hx;exact(Prod.mk.inj (Option.some.inj hx)).2.symm
 ·cases hx
theorem ADN{E:XE}(hEE:J5 P E){l:List Oper}:∀{R:List Nat} {st st':XS} {rd wr rd' wr':AN},Bd st→phX P E l R st rd wr=some (st',rd',wr')→KH st st'∧(∀p∈rd,p∈rd')∧(∀p∈wr,p∈wr') ∧
  ∀(W:AN) (σ:Nat→Nat) (pre:List AA) (K:Fr→St→Prop),(∀p∈rd',p∉W)→(∀p∈wr',p∈W)→(∀σ',AS st.c σ σ'→K (st'.fr.ren σ' pre.length) (st'.s.emb σ' pre))→QP P (hEE.tab (DR l)) (bN pre.length W) l (l.map (KX l)) R (st.fr.ren σ pre.length) (st.s.emb σ pre) K
 |[],st,st',rd,wr,rd',wr',h,hx=>by cases hx;exact⟨⟨Nat.le_refl _,h,rfl⟩,fun _ h=>h,fun _ h=>h,fun W σ pre K _ _ hk=>hk σ (AS.refl _ _)⟩
 |i::r,st,st',rd,wr,rd',wr',h,hx=>by
  simp only[phX]at hx;split at hx
  ·rename_i o ho;split at hx
   ·rename_i st1 w1 h1;obtain⟨hE,hs⟩:=AJV hEE h h1;obtain⟨hE',hr,hw,hs'⟩:=ADN hEE hE.bd hx;refine⟨⟨Nat.le_trans hE.c hE'.c,hE'.bd,hE'.n.trans hE.n⟩,fun p hp=>hr p (List.mem_append_right _ hp),fun p hp=>hw p (List.mem_append_right _ hp),fun W σ pre K hrd hwr hk=>?_⟩;simp only[QP,NB,ho,W9 ho];cases hz:zB l o with
    |true=>
     have hw0:w1=[]:=AJW (ANB hz) h1
     subst hw0
     unfold wz
     rw[hz]
     exact hs [] σ pre _ (fun p _=>by simp) (fun p hp=>hp) fun σ' ha=>hs' W σ' pre K hrd hwr fun σ'' ha'=>hk σ'' (ha.trans ha' hE.c)
    |false=>
    rw[hz]at hr;unfold wz;rw[hz];exact hs W σ pre _ (fun p hp=>hrd p (hr p (List.mem_append_left _ hp))) (fun p hp=>hwr p (hw p (List.mem_append_left _ hp))) fun σ' ha=>hs' W σ' pre K hrd hwr fun σ'' ha'=>hk σ'' (ha.trans ha' hE.c)
   ·cases hx
  ·cases hx
theorem ADO{E:XE}(hEE:J5 P E){l:List Oper}:∀{R:List Nat} {st st':XS},Bd st→sqX P E l R st=some st'→KH st st' ∧
  ∀(σ:Nat→Nat) (pre:List AA) (K:Fr→St→Prop),(∀σ',AS st.c σ σ'→K (st'.fr.ren σ' pre.length) (st'.s.emb σ' pre))→xQ P l (l.map (KX l)) R (st.fr.ren σ pre.length) (st.s.emb σ pre) K
 |[],st,st',h,hx=>by cases hx;exact⟨⟨Nat.le_refl _,h,rfl⟩,fun σ pre K hk=>hk σ (AS.refl _ _)⟩
 |i::r,st,st',h,hx=>by
  simp only[sqX]at hx;split at hx
  ·rename_i o ho;split at hx
   ·rename_i st1 h1;obtain⟨hE,g,hg,hs⟩:=ADL hEE h h1;obtain⟨hE',hs'⟩:=ADO hEE hE.bd hx;refine⟨⟨Nat.le_trans hE.c hE'.c,hE'.bd,hE'.n.trans hE.n⟩,fun σ pre K hk=>?_⟩;simp only[xQ,ho,W9 ho,hg];exact hs σ pre _ fun σ' ha=>hs' σ' pre K fun σ'' ha'=>hk σ'' (ha.trans ha' hE.c)
   ·cases hx
  ·cases hx
end Go.Pg
namespace Go.Pg
variable {P:Program}{σ σ':Nat→Nat}{δ:Nat}{pre:List AA}{s:St}{fr:Fr}{g:Bool}
def AK:Nat→V→Bool
 |0,_=>false
 |f+1,v=>match v with
  |.int ..|.bool _|.raw _|.nil|.any=>true
  |.agg cs|.tup cs|.ref cs=>cs.all (AK f)
  |.list _ es=>es.all fun e=>e.all (AK f)
  |.fn _ a b=>a.all (AK f)&&b.all (AK f)
  |_=>false
theorem M1{f:Nat}(ih:∀v,AK f v=true→v.ren σ δ=v){cs:List V}(h:cs.all (AK f)=true):cs.map (V.ren σ δ)=cs:=by
 conv=>rhs;rw[←List.map_id cs]
 exact List.map_congr_left fun v hv=>ih v (List.all_eq_true.1 h v hv)
theorem ES:∀(f:Nat) (v:V),AK f v=true→v.ren σ δ=v
 |0,_,h=>by cases h
 |f+1,v,h=>by
  have ih:=fun v=>ES f v;cases v with
  |agg cs=>rw[HF,M1 ih (by simpa [AK]using h)]
  |tup cs=>rw[KU,M1 ih (by simpa [AK]using h)]
  |ref cs=>rw[MR,M1 ih (by simpa [AK]using h)]
  |list b es=>
   have h':(es.all fun e=>e.all (AK f))=true:=by simpa [AK]using h
   rw[EZ]
   congr 1
   conv=>rhs;rw[←List.map_id es]
   exact List.map_congr_left fun e he=>M1 ih (List.all_eq_true.1 h' e he)
  |fn g a b=>
   have h':a.all (AK f)=true∧b.all (AK f)=true:=by simpa [AK]using h
   rw[OS,M1 ih h'.1,M1 ih h'.2]
  |int k n=>simp
  |bool b=>simp
  |raw v=>simp
  |nil=>simp
  |any=>simp
  |_=>simp[AK]at h
noncomputable def QS(ks:List Nat)(fr:Fr):Fr:=List.rec (motive:=fun _=>Fr) [] (fun k _ ih=>match BZ fr k with
 |some (c,v)=>(k,c,v)::ih
 | none=>ih) ks
theorem Z9(fr:Fr):∀(ks:List Nat),QS ks fr=OM ks fr
 |[]=>rfl
 |k::r=>by have:=Z9 fr r;show(match BZ fr k with|some (c,v)=>(k,c,v)::QS r fr|none=>QS r fr)=OM (k::r) fr;rw[this,FG];rfl
theorem VE:∀(ks:List Nat),OM ks (fr.ren σ δ)=(OM ks fr).ren σ δ
 |[]=>rfl
 |k::r=>by
  simp only[OM,Fr.get_ren,VE r];cases fr.get k with
  |none=>rfl
  |some p=>rfl
theorem VF{L:AA}:∀(ks:List Nat),IW ks (L.ren σ δ)=(IW ks L).ren σ δ
 |[]=>rfl
 |k::r=>by
  simp only[IW,AA.get_ren,VF r];cases L.get k with
  |none=>rfl
  |some p=>rfl
def T3:List Nat→List Nat→List Nat
 |acc,[]=>acc
 |acc,k::r=>T3 (cond (acc.any (Nat.beq k)) acc (k::acc)) r
noncomputable def RD(ks ls:List Nat)(st:XS):XS:=⟨st.c,QS ks st.fr,⟨st.s.up,IW ls st.s.loc⟩⟩
theorem ADP{ks ls:List Nat}{st:XS}{l k:Nat}{x:Nat×AZ}(h:(RD ks ls st).s.get l k=some x):st.s.get l k=some x:=by
 unfold St.get RD at h;unfold St.get;simp only at h;split at h
 ·rename_i e;rw[if_pos e];exact PU h
 ·rename_i e;rw[if_neg e];exact h
theorem T4{ks ls:List Nat}{st:XS}(h:Bd st):KH st (RD ks ls st):=by
 refine⟨Nat.le_refl _,⟨fun σ σ' δ ha=>?_,fun σ σ' pre ha=>?_,fun l k γ fr ps asg body N ls hg=>h.lp l k γ fr ps asg body N ls (ADP hg)⟩,rfl⟩
 ·simp only[RD,Z9,←VE];rw[h.f σ σ' δ ha]
 ·have:=h.s σ σ' pre ha;simp only[St.emb,St.mk.injEq]at this;simp only[RD,St.emb,St.mk.injEq,←VF];exact⟨this.1,by rw[this.2]⟩
theorem VG{n N:Nat}{ρ:Option Nat}{c:Code}{K:Exit→Fr→St→Prop}{ks ls:List Nat}{st:XS}(h:BG P n N ρ c K ((RD ks ls st).fr.ren σ pre.length) ((RD ks ls st).s.emb σ pre)):BG P n N ρ c K (st.fr.ren σ pre.length) (st.s.emb σ pre):=by
 refine xJ ks ls ?_;have e2:(⟨(st.s.emb σ pre).up,IW ls (st.s.emb σ pre).loc⟩:St)=(RD ks ls st).s.emb σ pre:=by simp only[RD,St.emb,VF]
 rw[VE,e2,←Z9];exact h
abbrev bO:=Code→XS→Option (Exit×XS)
noncomputable def QT(P:Program)(E:XE)(l:List Oper)(st:XS):Option XS:=yE P E l (cG l) st
noncomputable def A4O(P:Program)(E:XE)(l:List Oper)(draw:Bool)(st:XS):Option XS:=Bool.rec (gM P E l l st)
 (match ARI l with
  |[]=>QT P E l st
  | ds=>QT P E l (RD (T3 [] (st.fr.map (·.1))) ((T3 [] (st.s.loc.map (·.1))).filter fun k=>!(ds.any (Nat.beq k))) st)) draw
noncomputable def OW(r:Option XS):Option (Exit×XS):=match r with
 |some st=>some (.normal,st)
 |none=>none
noncomputable def gP(rec:bO)(b:Code)(r:Option (Exit×XS)):Option (Exit×XS):=match r with
 |some (.normal,st')=>rec b st'
 |r=>r
noncomputable def M2(id:Nat)(r:Option (Exit×XS)):Option (Exit×XS):=match r with
 |some (.exit i,st')=>Bool.rec (some (.exit i,st')) (some (.normal,st')) (Nat.beq i id)
 |r=>r
noncomputable def mF(rec:bO)(a b:Code)(st:XS)(r:Option V):Option (Exit×XS):=match r with
 |some (.bool c)=>Bool.rec (rec b st) (rec a st) c
 |_=>none
noncomputable def dX(rec:bO)(body:Code)(ks:List Nat)(n:Nat):XS→Option (Exit×XS):=Nat.rec (motive:=fun _=>XS→Option (Exit×XS)) (fun _=>none) (fun _ ih st=>match rec body (RD ks (T3 [] (st.s.loc.map (·.1))) st)with
 |some (.normal,st')=>ih st'
 | r=>r) n
def B9:Nat:=1000000
noncomputable def gQ(fr:Fr)(n γ:Nat)(r:Option (V×XS)):Option (Exit×XS):=match r with
 |some (_,st)=>match st.s.get n B9 with
  | some (γ',.loop _ _ _ _ _ ls)=>Bool.rec none (match ls with
   |.ready=>some (.normal,⟨st.c,fr,st.s.put n B9 γ .dead⟩)
   |.left .ret=>some (.ret,⟨st.c,fr,st.s.put n B9 γ .dead⟩)
   |.left (.exit id)=>some (.exit id,⟨st.c,fr,st.s.put n B9 γ .dead⟩)
   | _=>none) (Nat.beq γ' γ&&Nat.blt γ st.c)
  |_=>none
 |none=>none
noncomputable def VH(cf:CF)(N:Nat)(g:Operand)(ps:List Tmp)(asg body:Code)(st:XS):Option (Exit×XS):=match CM st.fr g with
 |some (.fn f first cap)=>gQ st.fr st.s.up.length st.c (cf f ((first++[V.yld st.s.up.length B9 st.c]++cap).map weakV) ⟨st.c+1,st.fr,st.s.put st.s.up.length B9 st.c (.loop st.fr ps asg body N .ready)⟩)
 |_=>none
noncomputable def T5(P:Program)(E:XE)(n N:Nat)(rec:bO):bO:=fun code st=>match code with
 |.skip=>some (.normal,st)
 |.label _=>some (.normal,st)
 |.region _ ops draw=>OW (A4O P E ops.toList draw st)
 |.seq a b=>gP rec b (rec a st)
 |.cond c a b=>mF rec a b st (CM st.fr c)
 |.block id body=>M2 id (rec body st)
 |.loop body=>dX rec body (T3 [] (st.fr.map (·.1))) n st
 |.exit id=>some (.exit id,st)
 |.ret=>some (.ret,st)
 |.scope body=>rec body st
 |.rangeFunc g ps asg body=>VH E.cf N g ps.toList asg body st
 |_=>none
abbrev GL:=Nat→bO
noncomputable def yF(P:Program)(rs:List ResultVar)(st:XS):Option (V×Nat×List AA):=match F7 P rs st.fr st.s with
 |some r=>match A2 st.s 4 r with
  |some r'=>some (r',st.c,st.s.up.map (AL st.s))
  |none=>none
 |none=>none
noncomputable def uH{α:Type}(rec:bO)(ret:XS→Option α)(code:Code)(st:XS):Option α:=match rec code st with
 |some (.ret,st')=>ret st'
 |some (.normal,st')=>ret st'
 |_=>none
noncomputable def WI{α:Type}(P:Program)(rec:GL)(ret:Func→XS→Option α)(f:FuncId)(args:List V)(c:Nat)(up:List AA):Option α:=match P.funcs[f]? with
 |some fn=>match fn.body with
  |some code=>Bool.rec none (uH (rec fn.ntmps) (ret fn) code ⟨c,AF 0 args,⟨up,[]⟩⟩) (Nat.ble args.length fn.ntmps)
  |none=>none
 |none=>none
noncomputable def dY(P:Program)(rec:GL)(f:FuncId)(args:List V)(c:Nat)(up:List AA):Option (V×Nat×List AA):=WI P rec (fun fn=>yF P fn.results.toList) f args c up
noncomputable def E4(P:Program)(rec:GL):CF0:=fun f args=>Bool.rec none (match dY P rec f args 0 []with
 |some (r,_,_)=>Bool.rec none (some r) (AK 9 r)
 | none=>none) (args.all (AK 9))
def CX{α:Type}:List α→Option (List α×α)
 |[]=>none
 |[x]=>some ([],x)
 |x::r=>match CX r with
  |some (a,b)=>some (x::a,b)
  |none=>none
noncomputable def AW(P:Program)(kn:CF0)(rec:GL):CF0:=fun f args=>match kn f args with
 |some r=>some r
 |none=>E4 P rec f args
def weakM:V→V
 |.nil=>.list false []
 |v=>v
def weakN:V→V
 |.nil=>.list false []
 |.agg cs=>.agg (cs.map weakM)
 |v=>v
theorem RepV.empty{G:Gh}{v:Value}(h:RepV G .nil v):RepV G (.list false []) v:=by cases h;exact .list false [] none 0 0 0 0 #[] 0 (0,0) (fun _ _=>undef) (by simp) (fun h=>by cases h) (fun h=>absurd rfl h) (fun i h=>absurd h (by simp)) (fun i h=>absurd h (by simp)) (fun i h=>absurd h (by simp))
theorem RepV.weakM{G:Gh}{x:V}{v:Value}(h:RepV G x v):RepV G (weakM x) v:=by cases x<;>first|exact h|exact h.empty
theorem gR(x:V):(weakM x).isCell=x.isCell:=by cases x<;>rfl
theorem RepV.weakN{G:Gh}{x:V}{v:Value}(h:RepV G x v):RepV G (weakN x) v:=by
 cases x with
 |nil=>exact h.empty
 |agg cs=>
  cases h with
  |agg _ arr hl hc hr=>
   refine .agg _ arr (by simpa using hl) (fun c hc'=>?_) (fun i h1 h2=>?_)
   ·obtain⟨d,hd,rfl⟩:=List.mem_map.1 hc';rw[gR];exact hc d hd
   ·simp only[List.getElem_map];exact(hr i (by simpa using h1) h2).weakM
 |_=>exact h
theorem RepA.weakN{G:Gh}{xs:List V}{vs:List Value}(h:RepA G xs vs):RepA G (xs.map Pg.weakN) vs :=
 ⟨by simpa using h.1,fun i h1 h2=>by simp only[List.getElem_map];exact(h.2 i (by simpa using h1) h2).weakN⟩
noncomputable def FR(P:Program)(kn:CF0)(rec:GL):CF0:=fun f args=>match AW P kn rec f (args.map weakN)with
 |some r=>Bool.rec (AW P kn rec f args) (some r) (args.all (AK 9))
 |none=>AW P kn rec f args
def BFX(P:Program)(T:TypeId):Bool:=match P.underlying T with
 |some (.pointer _)=>true
 |_=>false
def BE(P:Program)(f:FuncId):Bool:=match P.funcs[f]? with
 |some fn=>fn.resultTypes.toList.any (BFX P)
 |none=>false
noncomputable def aA(P:Program)(kn:CF0)(rec:GL):CF:=fun f args st=>Bool.rec (match dY P rec f args st.c (st.s.up++[st.s.loc])with
 |some (r,c,up)=>match CX up with
  |some (u,l)=>some (r,⟨c,st.fr,⟨u,l⟩⟩)
  |none=>none
 | none=>none) (match FR P kn rec f args with
  |some r=>some (r,st)
  | none=>none) (args.all (AK 9)&&!(BE P f))
noncomputable def qN(P:Program)(fn:Func)(st:XS):Option Mk:=match F7 P fn.results.toList st.fr st.s with
 | some (.vec l k γ n)=>Bool.rec none (match st.s.loc.get k with
  |some (γ',.vec T es)=>Bool.rec none (some ⟨.vec T es,none⟩) (Nat.beq γ' γ&&Nat.beq n es.length&&es.all fun e=>e.all (AK 9))
  | _=>none) (Nat.beq l st.s.up.length)
 | some v=>Bool.rec none (match fn.resultTypes.toList with
  |[R]=>match BQ P R with
   |some (none,T)=>some ⟨.vec T [],none⟩
   |_=>none
  | _=>none) (WP v)
 |none=>none
def J6(P:Program)(f:FuncId):Bool:=match P.funcs[f]? with
 |some fn=>match fn.resultTypes.toList with
  |[R]=>match BQ P R with
   |some (none,_)=>true
   |_=>false
  |_=>false
 |none=>false
noncomputable def M3(P:Program)(rec:GL)(f:FuncId)(args:List V):Option Mk:=Bool.rec none (WI P rec (qN P) f args 0 []) (args.all (AK 9))
noncomputable def OX(P:Program)(kn:CF0)(ko:CFO)(rec:GL):CFO:=fun f args d=>match ko f args d with
 |some r=>some r
 | none=>Bool.rec (match FR P kn rec f args with
  |some r=>some ⟨.dead,some r⟩
  | none=>none) (M3 P rec f args) (J6 P f)
def uI(k γ:Nat):Nat→V→Bool
 |0=>fun _=>false
 |f+1=>fun v=>match v with
  |.vec l k' γ' _=>Nat.beq l 0&&Nat.beq k' k&&Nat.beq γ' γ
  |.agg cs=>cs.all (uI k γ f)
  |.tup cs=>cs.all (uI k γ f)
  |.list _ es=>es.all fun e=>e.all (uI k γ f)
  |.int _ _=>true
  |.bool _=>true
  |.nil=>true
  |_=>false
def tmV(d:Nat):Nat→V→V
 |0=>fun v=>v
 |f+1=>fun v=>match v with
  |.vec _ _ _ m=>.vec 0 d 0 m
  |.agg cs=>.agg (cs.map (tmV d f))
  |.tup cs=>.tup (cs.map (tmV d f))
  |.list b es=>.list b (es.map (List.map (tmV d f)))
  |v=>v
noncomputable def BFY(P:Program)(k d:Nat)(fn:Func)(st:XS):Option Mk:=match F7 P fn.results.toList st.fr st.s,st.s.loc.get k with
 |some v,some (γ,.vec T es)=>Bool.rec none (some ⟨.vec T es,some (tmV d 4 v)⟩) (uI k γ 4 v&&es.all fun e=>e.all (AK 9))
 |_,_=>none
noncomputable def BKL(P:Program)(rec:GL)(k:Nat)(f:FuncId)(args:List V)(d:Tmp):Option Mk:=Bool.rec none (WI P rec (BFY P k d) f args 0 []) (args.all (AK 9))
noncomputable def HZ(s:St)(u:List AA)(l:AA):St:=⟨u.map (AL s),AL s l⟩
noncomputable def aB(fr:Fr)(l q γ:Nat)(r:Option (Exit×XS)):Option (V×XS):=match r with
 |some (e,st)=>match st.s.get l q with
  | some (γ',.loop fr0 ps asg body N .busy)=>Bool.rec none (match CX st.s.up with
   |some (u,lc)=>match e with
    |.normal=>some (.bool true,⟨st.c,fr,(HZ st.s u lc).put l q γ (.loop fr0 ps asg body N .ready)⟩)
    |.ret=>some (.bool false,⟨st.c,fr,(HZ st.s u lc).put l q γ (.loop fr0 ps asg body N (.left .ret))⟩)
    |.exit id=>some (.bool false,⟨st.c,fr,(HZ st.s u lc).put l q γ (.loop fr0 ps asg body N (.left (.exit id)))⟩)
    |_=>none
   | none=>none) (Nat.beq γ' γ&&Nat.blt l st.s.up.length&&Nat.blt γ st.c)
  |_=>none
 |none=>none
noncomputable def aC(rec:bO)(l q γ:Nat)(body:Code)(r:Option (Exit×XS)):Option (Exit×XS):=match r with
 |some (.normal,st)=>match st.s.get l q with
  |some (γ',.loop fr0 ps asg body' N .ready)=>Bool.rec none (rec body ⟨st.c,st.fr,st.s.put l q γ (.loop fr0 ps asg body' N .busy)⟩) (Nat.beq γ' γ&&Nat.blt γ st.c)
  |_=>none
 |_=>none
noncomputable def gS(rec:GL):CY:=fun l q γ vs st=>match st.s.get l q with
 |some (γ',.loop fr0 ps asg body N .ready)=>Bool.rec none (aB st.fr l q γ (aC (rec N) l q γ body (rec N asg ⟨st.c,LP fr0 ps vs,⟨st.s.up++[st.s.loc],[]⟩⟩))) (Nat.beq γ' γ&&Nat.beq vs.length ps.length&&Nat.blt γ st.c)
 |_=>none
noncomputable def ARO(P:Program)(kn:CF0)(ko:CFO)(lit:Tmp→Bool)(rec:GL):XE:=⟨aA P kn rec,gS rec,FR P kn rec,OX P kn ko rec,lit⟩
noncomputable def BPW(P:Program)(kn:CF0)(ko:CFO)(lit:Tmp→Bool)(n:Nat):GL:=Nat.rec (motive:=fun _=>GL) (fun _ _ _=>none) (fun n ih N=>T5 P (ARO P kn ko lit ih) n N (ih N)) n
def qO(fn:Func):Bool:=match fn.body with
 | some c => !(fn.name == "runtime.NumGoroutine") && E0 fn.ntmps c
 |none=>true
structure EE(P:Program):Prop where
 all:P.funcs.toList.all qO=true
 mixed:P.follows .mixedOrders=true
def aD(P:Program)(N:Nat)(rec:bO):Prop:=∀code st e st',rec code st=some (e,st')→Bd st→E0 N code=true→KH st st'∧(∀l,e≠.goto l) ∧
 ∀(n:Nat) (ρ:Option Nat) (σ:Nat→Nat) (pre:List AA) (K:Exit→Fr→St→Prop),(ρ=none∨GB code=true)→(∀σ',AS st.c σ σ'→K e (st'.fr.ren σ' pre.length) (st'.s.emb σ' pre))→BG P n N ρ code K (st.fr.ren σ pre.length) (st.s.emb σ pre)
def aE(P:Program)(rec:GL):Prop:=∀N,aD P N (rec N)
theorem OY{α:Type}:∀{l:List α} {u:List α} {x:α},CX l=some (u,x)→l=u++[x]
 |[],u,x,h=>by cases h
 |[y],u,x,h=>by cases h;rfl
 |y::z::r,u,x,h=>by
  simp only[CX]at h;split at h
  ·rename_i a b e;cases h;rw[OY (l:=z::r) e];rfl
  ·cases h
theorem ADQ{c:Nat}{args:List V}(h:∀v∈args,UM c v)(σ σ':Nat→Nat)(δ:Nat)(ha:AS c σ σ'):(AF 0 args).ren σ δ=(AF 0 args).ren σ' δ:=by rw[←PY,←PY];congr 1;exact List.map_congr_left fun v hv=>h v hv σ σ' δ ha
theorem ARP{st:XS}(h:Bd st){rs:List ResultVar}{v r:V}(hv:F7 P rs st.fr st.s=some v)(hr:A2 st.s 4 v=some r):UM st.c r:=by intro σ σ' δ ha;have q1:=OU (σ:=σ) (pre:=List.replicate δ []) hv;have q2:=OU (σ:=σ') (pre:=List.replicate δ []) hv;rw[h.f σ σ' _ ha,h.s σ σ' _ ha,q2]at q1;have q:=Option.some.inj q1;have r1:=J1 (σ:=σ) (pre:=List.replicate δ []) 4 hr;have r2:=J1 (σ:=σ') (pre:=List.replicate δ []) 4 hr;rw[h.s σ σ' _ ha,←q,r2]at r1;have:=Option.some.inj r1;rw[List.length_replicate]at this;exact this.symm
theorem HO(u:List AA)(l:AA)(i k:Nat):(⟨u,l⟩:St).get i k=match(u++[l])[i]? with
  |some L=>L.get k
  |none=>none:=by
 unfold St.get
 simp only
 by_cases h:i=u.length
 ·subst h;simp
 ·rw[if_neg h];rcases Nat.lt_or_ge i u.length with h'|h'
  ·rw[List.getElem?_append_left h'];rfl
  ·rw[List.getElem?_append_right h',List.getElem?_eq_none h'];have:1≤i-u.length:=by omega
   rw[List.getElem?_eq_none (by simpa using this)]
theorem qQ(L:AA)(k g:Nat)(r:AZ)(h:((AL s L).ren σ pre.length).get k=some (g,r)):∃r0,(L.ren σ pre.length).get k=some (g,r0)∧(r=r0∨r=HA (s.emb σ pre) r0):=by
 rw[AA.get_ren,MV]at h;rw[AA.get_ren];cases hL:L.get k with
 |none=>rw[hL]at h;cases h
 |some p=>
  rw[hL]at h
  cases h
  exact⟨p.2.ren σ pre.length,rfl,lT p.2⟩
theorem dZ{s:St}{F:List AA}{u u2:List AA}{l l2:AA}(h1:u++[l]=pre++F.map (AA.ren σ pre.length))(h2:u2++[l2]=pre++(F.map (AL s)).map (AA.ren σ pre.length)):kJ (s.emb σ pre) ⟨u,l⟩ ⟨u2,l2⟩:=by
 have hlen:u2.length=u.length:=by have a1:=congrArg List.length h1;have a2:=congrArg List.length h2;simp at a1 a2;omega
 refine⟨hlen,fun i k g r hg=>?_⟩;rw[HO,h2]at hg;rw[HO,h1];rcases Nat.lt_or_ge i pre.length with hi|hi
 ·rw[List.getElem?_append_left hi]at hg⊢;exact⟨r,hg,.inl rfl⟩
 ·rw[List.getElem?_append_right hi]at hg⊢;simp only[List.map_map,List.getElem?_map]at hg⊢;cases hF:F[i-pre.length]? with
  |none=>rw[hF]at hg;cases hg
  |some L=>
   rw[hF]at hg
   exact qQ L k g r hg
theorem qU{s:St}{c:Nat}(hs:∀σ σ' pre,AS c σ σ'→s.emb σ pre=s.emb σ' pre){r:AZ}(hr:∀σ σ' δ,AS c σ σ'→r.ren σ δ=r.ren σ' δ)(σ σ':Nat→Nat)(δ:Nat)(ha:AS c σ σ'):(CJ s r).ren σ δ=(CJ s r).ren σ' δ:=by
 unfold CJ;split
 ·rename_i r' h;have q1:=K6 (σ:=σ) (pre:=List.replicate δ []) h;have q2:=K6 (σ:=σ') (pre:=List.replicate δ []) h;rw[hs σ σ' _ ha]at q1;simp only[List.length_replicate]at q1 q2;rw[hr σ σ' _ ha,q2]at q1;exact(Option.some.inj q1).symm
 ·exact hr σ σ' δ ha
theorem mG{L:AA}{δ:Nat}(σ σ':Nat→Nat):L.ren σ δ=L.ren σ' δ↔∀p∈L,σ p.2.1=σ' p.2.1∧p.2.2.ren σ δ=p.2.2.ren σ' δ:=by unfold AA.ren;rw[List.map_inj_left];simp only[Prod.mk.injEq,true_and]
theorem eA{s:St}{c:Nat}(hs:∀σ σ' pre,AS c σ σ'→s.emb σ pre=s.emb σ' pre){L:AA}(hL:∀σ σ' δ,AS c σ σ'→L.ren σ δ=L.ren σ' δ)(σ σ':Nat→Nat)(δ:Nat)(ha:AS c σ σ'):(AL s L).ren σ δ=(AL s L).ren σ' δ:=by rw[mG];intro p hp;obtain⟨x,hx,rfl⟩:=List.mem_map.1 hp;have h1:∀σ σ' δ,AS c σ σ'→σ x.2.1=σ' x.2.1∧x.2.2.ren σ δ=x.2.2.ren σ' δ:=fun σ σ' δ ha=>(mG σ σ').1 (hL σ σ' δ ha) x hx;exact⟨(h1 σ σ' δ ha).1,qU hs (fun σ σ' δ ha=>(h1 σ σ' δ ha).2) σ σ' δ ha⟩
theorem ADR{s:St}{c:Nat}(hs:∀σ σ' pre,AS c σ σ'→s.emb σ pre=s.emb σ' pre):∀L∈s.up,∀σ σ' δ,AS c σ σ'→L.ren σ δ=L.ren σ' δ:=by intro L hL σ σ' δ ha;have:=hs σ σ' (List.replicate δ []) ha;simp only[St.emb,St.mk.injEq,List.length_replicate]at this;exact List.map_inj_left.1 (List.append_cancel_left this.1) L hL
theorem eB(s:St)(L:AA){k γ:Nat}{fr:Fr}{ps:List Tmp}{asg body:Code}{N:Nat}{st:LS}(h:(AL s L).get k=some (γ,.loop fr ps asg body N st)):L.get k=some (γ,.loop fr ps asg body N st):=by
 rw[MV]at h;cases hL:L.get k with
 |none=>rw[hL]at h;cases h
 |some p=>
  rw[hL]at h
  simp only[Option.map_some,Option.some.injEq,Prod.mk.injEq]at h
  obtain⟨h1,h2⟩:=h
  obtain⟨g,r⟩:=p
  simp only at h1 h2
  subst h1
  congr 2
  cases r with
  |loop=>exact h2
  |box cs=>unfold CJ at h2;split at h2<;>rename_i e<;>simp only[CG]at e<;>(try (split at e<;>cases e))<;>cases h2
  |vec T es=>unfold CJ at h2;split at h2<;>rename_i e<;>simp only[CG]at e<;>(try (split at e<;>cases e))<;>cases h2
  |map es=>unfold CJ at h2;split at h2<;>rename_i e<;>simp only[CG]at e<;>(try (split at e<;>cases e))<;>cases h2
  |dead=>unfold CJ at h2;split at h2<;>rename_i e<;>simp only[CG]at e<;>cases e;cases h2
def FX(P:Program)(f:FuncId)(args:List V)(c:Nat)(up:List AA)(r:V)(c':Nat)(up':List AA):Prop:=c≤c'∧UM c' r∧(∀σ σ' δ,AS c' σ σ'→up'.map (AA.ren σ δ)=up'.map (AA.ren σ' δ))∧up'.length=up.length ∧
  (∀L∈up',∀k γ fr ps asg body N st,L.get k=some (γ,.loop fr ps asg body N st)→TW N ps asg body=true) ∧
  ∀(σ:Nat→Nat) (pre:List AA) (s:St) (K:V→St→Prop),s.up++[s.loc]=pre++up.map (AA.ren σ pre.length)→(∀σ' u l,AS c σ σ'→u++[l]=pre++up'.map (AA.ren σ' pre.length)→K (r.ren σ' pre.length) ⟨u,l⟩)→FL P f (args.map (V.ren σ pre.length)) s K
theorem aF(hP:EE P){rec:GL}(hrec:aE P rec){α:Type}{ret:Func→XS→Option α}{f:FuncId}{args:List V}{c:Nat}{up:List AA}{x:α}(hx:WI P rec ret f args c up=some x)(hargs:∀v∈args,UM c v)
  (hup:∀σ σ' δ,AS c σ σ'→up.map (AA.ren σ δ)=up.map (AA.ren σ' δ)) (hlp:∀L∈up,∀k γ fr ps asg body N st,L.get k=some (γ,.loop fr ps asg body N st)→TW N ps asg body=true) :
  ∃fn st',ret fn st'=some x∧Bd st'∧c≤st'.c∧st'.s.up.length=up.length∧∀(σ:Nat→Nat) (pre:List AA) (s:St) (K:V→St→Prop),s.up++[s.loc]=pre++up.map (AA.ren σ pre.length) →
   (∀σ',AS c σ σ'→ARD P fn.results.toList (s.up.length+1) K .ret (st'.fr.ren σ' pre.length) (st'.s.emb σ' pre))→FL P f (args.map (V.ren σ pre.length)) s K:=by
 unfold WI at hx
 split at hx
 ·rename_i fn hf;split at hx
  ·rename_i code hb;obtain⟨hsz,hx1⟩:=EM hx;have hck:qO fn=true:=List.all_eq_true.1 hP.all fn (by
    have:=Array.mem_of_getElem? hf;simpa using this)
   simp only[qO,hb,Bool.and_eq_true,Bool.not_eq_true']at hck;have hbd:Bd ⟨c,AF 0 args,⟨up,[]⟩⟩:=⟨fun σ σ' δ ha=>ADQ hargs σ σ' δ ha,fun σ σ' pre ha=>by simp only[St.emb,hup σ σ' _ ha]; rfl,fun l k γ fr ps asg body N st hg=>by
    rw[HO]at hg;split at hg
    ·rename_i L hL;rcases List.mem_append.1 (List.mem_of_getElem? hL)with hm|hm
     ·exact hlp L hm _ _ _ _ _ _ _ _ hg
     ·have:L=[]:=by simpa using hm
      subst this;simp at hg
    ·cases hg⟩
   have main:∀e st',rec fn.ntmps code ⟨c,AF 0 args,⟨up,[]⟩⟩=some (e,st')→(e=.ret∨e=.normal)→ret fn st'=some x→∃fn st',ret fn st'=some x∧Bd st'∧c≤st'.c∧st'.s.up.length=up.length∧∀(σ:Nat→Nat) (pre:List AA) (s:St) (K:V→St→Prop),s.up++[s.loc]=pre++up.map (AA.ren σ pre.length) →
     (∀σ',AS c σ σ'→ARD P fn.results.toList (s.up.length+1) K .ret (st'.fr.ren σ' pre.length) (st'.s.emb σ' pre))→FL P f (args.map (V.ren σ pre.length)) s K:=by
    intro e st' h1 he h2
    obtain⟨hE,_,hC⟩:=hrec _ _ _ _ _ h1 hbd hck.2
    refine⟨fn,st',h2,hE.bd,hE.c,hE.n,fun σ pre s K hs hk=>?_⟩
    refine A4H hf hb (kZ hf hb hck.1) (by simpa using hsz) ?_
    have e1:(⟨s.up++[s.loc],[]⟩:St)=(⟨up,[]⟩:St).emb σ pre:=by simp only[St.emb,hs];rfl
    rw[PY,e1]
    refine hC _ none σ pre _ (.inl rfl) fun σ' ha=>?_
    have:=hk σ' ha
    rcases he with rfl|rfl<;>exact this
   unfold uH at hx1;split at hx1
   ·rename_i st' h1;exact main _ _ h1 (.inl rfl) hx1
   ·rename_i st' h1;exact main _ _ h1 (.inr rfl) hx1
   ·cases hx1
  ·cases hx
 ·cases hx
theorem mH(hP:EE P){rec:GL}(hrec:aE P rec){f:FuncId}{args:List V}{c:Nat}{up:List AA}{r:V}{c':Nat}{up':List AA}(hx:dY P rec f args c up=some (r,c',up'))(hargs:∀v∈args,UM c v)
  (hup:∀σ σ' δ,AS c σ σ'→up.map (AA.ren σ δ)=up.map (AA.ren σ' δ)) (hlp:∀L∈up,∀k γ fr ps asg body N st,L.get k=some (γ,.loop fr ps asg body N st)→TW N ps asg body=true):FX P f args c up r c' up':=by
 obtain⟨fn,st',hret,hbd,hc,hlen,hA⟩:=aF hP hrec hx hargs hup hlp
 unfold yF at hret
 split at hret
 ·rename_i r0 hr0;split at hret
  ·rename_i r1 hr1;cases hret;refine⟨hc,ARP hbd hr0 hr1,fun σ σ' δ ha=>?_,by simpa using hlen,fun L hL k γ fr ps asg body N st hg=>?_,fun σ pre s K hs hk=>hA σ pre s K hs fun σ' ha=>?_⟩
   ·simp only[List.map_map];exact List.map_congr_left fun L hL=>eA hbd.s (ADR hbd.s L hL) σ σ' δ ha
   ·obtain⟨L0,hL0,rfl⟩:=List.mem_map.1 hL;have hg:=eB _ _ hg;obtain⟨i,hi,rfl⟩:=List.getElem_of_mem hL0;refine hbd.lp i k γ fr ps asg body N st ?_;unfold St.get;rw[if_neg (by omega),List.getElem?_eq_getElem hi];exact hg
   ·have hl2:(st'.s.emb σ' pre).up.length=s.up.length+1:=by have q:=congrArg List.length hs;simp only[List.length_append,List.length_singleton,List.length_map]at q;rw[DB,hlen];omega
    rcases List.eq_nil_or_concat (st'.s.emb σ' pre).up with h0|⟨u,l,h0⟩
    ·rw[h0]at hl2;simp at hl2
    ·have h0:(st'.s.emb σ' pre).up=u++[l]:=by simpa using h0
     have hu:u.length+1=s.up.length+1:=by rw[←hl2,h0];simp
     have hcl:=OT 4 (J1 (σ:=σ') (pre:=pre) 4 hr1);have hres:=OU (σ:=σ') (pre:=pre) hr0;rcases List.eq_nil_or_concat (pre++(st'.s.up.map (AL st'.s)).map (AA.ren σ' pre.length))with h3|⟨u2,l2,h3⟩
     ·have h4:=congrArg List.length h3;have h5:=congrArg List.length h0;simp only[St.emb,List.length_append,List.length_map,List.length_nil,List.length_singleton]at h4 h5;omega
     ·have h3:pre++(st'.s.up.map (AL st'.s)).map (AA.ren σ' pre.length)=u2++[l2]:=by simpa using h3
      have hK:=hk σ' u2 l2 ha h3.symm;have hS:=dZ (s:=st'.s) (F:=st'.s.up) (u:=u) (l:=l) (u2:=u2) (l2:=l2) (σ:=σ') (pre:=pre) h0.symm h3.symm;exact⟨u,l,_,h0,hu,hres,.inl ⟨_,_,by rw[hcl];exact Wk.refl _,hS,hK⟩⟩
  ·cases hret
 ·cases hret
theorem VI{c:Nat}{args:List V}(h:args.all (AK 9)=true):∀v∈args,UM c v:=fun v hv σ σ' δ _=>by rw[ES 9 v (List.all_eq_true.1 h v hv),ES 9 v (List.all_eq_true.1 h v hv)]
theorem aG(hP:EE P){rec:GL}(hrec:aE P rec):HJ P (E4 P rec):=by
 intro f args r hx;unfold E4 at hx;obtain⟨hcl,hx1⟩:=EM hx;split at hx1
 ·rename_i r0 c' up' h1;obtain⟨hr,rfl⟩:=JK hx1;obtain⟨_,_,_,hlen,_,hA⟩:=mH hP hrec h1 (VI hcl) (fun _ _ _ _=>rfl) (fun L hL=>by cases hL);have hargs:∀v∈args,∀σ δ,V.ren σ δ v=v:=fun v hv σ δ=>ES 9 v (List.all_eq_true.1 hcl v hv);have hup:up'=[]:=List.eq_nil_of_length_eq_zero hlen;refine⟨fun s=>?_,hargs,fun σ δ=>ES 9 _ hr⟩;have:=hA id (s.up++[s.loc]) s (fun r' s'=>r'=r0∧s'=s) (by simp) fun σ' u l _ hu=>?_
  ·have e:args.map (V.ren id (s.up++[s.loc]).length)=args:=by
    conv=>rhs;rw[←List.map_id args]
    exact List.map_congr_left fun v hv=>hargs v hv _ _
   rw[e]at this;exact this
  ·rw[hup]at hu;simp only[List.map_nil,List.append_nil]at hu;obtain⟨e1,e2⟩:=List.append_inj' hu rfl;refine⟨ES 9 _ hr,?_⟩;subst e1;simp only[List.cons.injEq,and_true]at e2;subst e2;rfl
 ·cases hx1
theorem aH(hP:EE P){kn:CF0}(hkn:HJ P kn){rec:GL}(hrec:aE P rec):HJ P (AW P kn rec):=by
 intro f args r hx;unfold AW at hx;split at hx
 ·rename_i r0 h0;cases hx;exact hkn _ _ _ h0
 ·exact aG hP hrec _ _ _ hx
theorem aI(hP:EE P){kn:CF0}(hkn:HJ P kn){rec:GL}(hrec:aE P rec):HJ P (FR P kn rec):=by
 intro f args r hx;unfold FR at hx;split at hx
 ·rename_i r0 h0;cases hcl:args.all (AK 9)with
  |false=>rw[hcl]at hx;exact aH hP hkn hrec _ _ _ hx
  |true=>
   rw[hcl]at hx
   cases hx
   obtain⟨hA,_,h2⟩:=aH hP hkn hrec _ _ _ h0
   exact⟨fun s=>⟨(hA s).1,fun G vals w R hI ha hR=>(hA s).2 G vals w R hI ha.weakN hR⟩,fun v hv σ δ=>ES 9 v (List.all_eq_true.1 hcl v hv),h2⟩
 ·exact aH hP hkn hrec _ _ _ hx
theorem handed(hP:EE P){rec:GL}(hrec:aE P rec){f:FuncId}{args:List V}{ret:Func→XS→Option Mk}{r:Mk}{d:Tmp}(hcl:args.all (AK 9)=true)(hx:WI P rec ret f args 0 []=some r)
  (hr:∀(fn:Func) (st':XS),ret fn st'=some r→st'.s.up=[]→∀(s:St) (σ':Nat→Nat),∃r0,F7 P fn.results.toList (st'.fr.ren σ' (s.up++[s.loc]).length) (st'.s.emb σ' (s.up++[s.loc]))=some r0 ∧
   ((∃k γ T es,(st'.s.emb σ' (s.up++[s.loc])).loc.get k=some (γ,.vec T es)∧xI (s.up.length+1) k s.up.length d 4 r0=r.val s.up.length d γ∧r.res=.vec T es)∨(∃T,WP r0=true∧r=⟨.vec T [],none⟩)))
  (s:St):FL P f args s fun v s'=>∃γ,v=r.val s.up.length d γ∧s'=s.put s.up.length d γ r.res:=by
 obtain⟨fn,st',hret,hbd,hc,hlen,hA⟩:=aF hP hrec hx (VI hcl) (fun _ _ _ _=>rfl) (fun L hL=>by cases hL)
 have hargs:∀v∈args,∀σ δ,V.ren σ δ v=v:=fun v hv σ δ=>ES 9 v (List.all_eq_true.1 hcl v hv)
 have hup:st'.s.up=[]:=List.eq_nil_of_length_eq_zero hlen
 have:=hA id (s.up++[s.loc]) s (fun v s'=>∃γ,v=r.val s.up.length d γ∧s'=s.put s.up.length d γ r.res) (by simp) fun σ' _=>?_
 ·have e:args.map (V.ren id (s.up++[s.loc]).length)=args:=by
   conv=>rhs;rw[←List.map_id args]
   exact List.map_congr_left fun v hv=>hargs v hv _ _
  rw[e]at this;exact this
 ·obtain⟨r0,h1,h2⟩:=hr fn st' hret hup s σ';refine⟨s.up,s.loc,r0,by simp[St.emb,hup],rfl,h1,.inr ?_⟩;rcases h2 with⟨k,γ,T,es,h3,h4,h5⟩|⟨T,h3,h4⟩
  ·exact .inl ⟨k,γ,T,es,d,h3,γ,h4,by rw[h5]⟩
  ·subst h4;exact .inr ⟨d,T,h3,fun γ=>⟨γ,rfl,rfl⟩⟩
theorem yG(hP:EE P){rec:GL}(hrec:aE P rec){f:FuncId}{args:List V}{r:Mk}{d:Tmp}(hx:M3 P rec f args=some r) :
  (∀(s:St),FL P f args s fun v s'=>∃γ,v=r.val s.up.length d γ∧s'=s.put s.up.length d γ r.res)∧(∀v∈args,∀σ δ,v.ren σ δ=v)∧(∀σ δ,r.res.ren σ δ=r.res)∧dP r.res=true:=by
 unfold M3 at hx
 obtain⟨hcl,hx1⟩:=EM hx
 have hargs:∀v∈args,∀σ δ,V.ren σ δ v=v:=fun v hv σ δ=>ES 9 v (List.all_eq_true.1 hcl v hv)
 have main:∀(fn:Func) (st':XS),qN P fn st'=some r→((∀σ δ,r.res.ren σ δ=r.res)∧dP r.res=true)∧(st'.s.up=[]→∀(s:St) (σ':Nat→Nat),∃r0,F7 P fn.results.toList (st'.fr.ren σ' (s.up++[s.loc]).length) (st'.s.emb σ' (s.up++[s.loc]))=some r0 ∧
   ((∃k γ T es,(st'.s.emb σ' (s.up++[s.loc])).loc.get k=some (γ,.vec T es)∧xI (s.up.length+1) k s.up.length d 4 r0=r.val s.up.length d γ∧r.res=.vec T es)∨(∃T,WP r0=true∧r=⟨.vec T [],none⟩))):=by
  intro fn st' hret
  unfold qN at hret
  split at hret
  ·rename_i l k γ n hres;obtain⟨hl,hret⟩:=EM hret;have hl:=Nat.eq_of_beq_eq_true hl;split at hret
   ·rename_i γ' T es hget;obtain⟨hc2,he⟩:=JK hret;cases he;simp only[Bool.and_eq_true]at hc2;obtain⟨⟨h1,h2⟩,h3⟩:=hc2;have h1:=Nat.eq_of_beq_eq_true h1;have h2:=Nat.eq_of_beq_eq_true h2;subst h1;subst h2;have hes:∀σ δ,es.map (List.map (V.ren σ δ))=es:=fun σ δ=>by
     conv=>rhs;rw[←List.map_id es]
     exact List.map_congr_left fun e he=>M1 (fun v=>ES 9 v) (List.all_eq_true.1 h3 e he)
    refine⟨⟨fun σ δ=>by simp only[AZ.ren,hes],rfl⟩,fun hup s σ'=>⟨_,OU hres,.inl ⟨k,σ' γ',T,es,?_,?_,rfl⟩⟩⟩
    ·rw[KV,hget];simp only[Option.map_some,AZ.ren,hes]
    ·rw[hup]at hl;subst hl;simp[xI,Mk.val,HB]
   ·cases hret
  ·rename_i v hnv hres;obtain⟨hn,hret⟩:=EM hret;split at hret
   ·split at hret
    ·rename_i T _;cases hret;exact⟨⟨fun _ _=>rfl,rfl⟩,fun hup s σ'=>⟨_,OU hres,.inr ⟨_,by rw[ADF];exact hn,rfl⟩⟩⟩
    ·cases hret
   ·cases hret
  ·cases hret
 obtain⟨fn,st',hret,_⟩:=aF hP hrec hx1 (VI hcl) (fun _ _ _ _=>rfl) (fun L hL=>by cases hL)
 exact⟨handed hP hrec hcl hx1 fun fn st' h=>(main fn st' h).2,hargs,(main fn st' hret).1⟩
theorem CU.nought{G:Gh}{s:St}{w:World}(hI:CU G s w)(d γ:Nat):CU G (s.put s.up.length d γ .dead) w:=by
 have look:∀{l k x},(s.put s.up.length d γ .dead).get l k=some x→x=(γ,.dead)∨s.get l k=some x:=fun {l k x} h=>by
  rw[St.get_putLoc]at h;split at h
  ·exact .inl (Option.some.inj h).symm
  ·exact .inr h
 refine⟨hI.sl,fun l k g r h=>?_,fun l k g r l' k' g' r' b h1 h2 h3 h4=>?_,fun l k g r b h1 h2=>?_,hI.fresh,hI.env⟩
 ·rcases look h with e|e
  ·cases e;trivial
  ·exact hI.res _ _ _ _ e
 ·rcases look h1 with e|e1
  ·cases e;cases h3
  ·rcases look h2 with e|e2
   ·cases e;cases h4
   ·exact hI.sep _ _ _ _ _ _ _ _ _ e1 e2 h3 h4
 ·rcases look h1 with e|e
  ·cases e;cases h2
  ·exact hI.out _ _ _ _ _ e h2
theorem ADS(hP:EE P){kn:CF0}(hkn:HJ P kn){ko:CFO}(hko:gK P ko){rec:GL}(hrec:aE P rec):gK P (OX P kn ko rec):=by
 intro f args d r hx;unfold OX at hx;split at hx
 ·rename_i r0 h0;cases hx;exact hko _ _ _ _ h0
 ·cases hs:J6 P f with
  |true=>
   rw[hs]at hx
   exact yG hP hrec hx
  |false=>
   rw[hs]at hx
   have hx:(match FR P kn rec f args with
    |some r=>some (⟨.dead,some r⟩:Mk)
    | none=>none)=some r:=hx
   split at hx
   ·rename_i r0 h0;cases hx;obtain⟨hA,h1,h2⟩:=aI hP hkn hrec _ _ _ h0;refine⟨fun s=>⟨(hA s).1,fun G vals w R hI ha hR=>(hA s).2 G vals w R hI ha fun G' v u w' s' hle hI' hv hlen hk=>?_⟩,h1,fun _ _=>rfl,rfl⟩;obtain⟨rfl,rfl⟩:=hk;exact hR G' _ u w' (s'.put s'.up.length d 0 .dead) hle (hI'.nought d 0) hv (St.put_len _ _ _ _ _) ⟨0,(h2 _ _).symm,rfl⟩
   ·cases hx
theorem ADT(hP:EE P){kn:CF0}(hkn:HJ P kn){rec:GL}(hrec:aE P rec):dU P (aA P kn rec):=by
 intro f args st r st' hx hbd hargs;unfold aA at hx;cases hcl:(args.all (AK 9)&&!(BE P f))with
 |true=>
  rw[hcl]at hx
  have hx:(match FR P kn rec f args with|some r=>some (r,st)|none=>none)=some (r,st'):=hx
  split at hx
  ·rename_i r0 h0;cases hx;obtain⟨hA,h1,h2⟩:=aI hP hkn hrec _ _ _ h0;refine⟨⟨Nat.le_refl _,hbd,rfl⟩,fun σ σ' δ _=>by rw[h2,h2],rfl,fun σ pre K hk=>?_⟩;have e:args.map (V.ren σ pre.length)=args:=by
    conv=>rhs;rw[←List.map_id args]
    exact List.map_congr_left fun v hv=>h1 v hv _ _
   rw[e];refine(hA (st.s.emb σ pre)).mono fun r' s' q5=>?_;obtain⟨rfl,rfl⟩:=q5;have:=hk σ (AS.refl _ _);rwa [h2]at this
  ·cases hx
 |false=>
  rw[hcl]at hx
  have hx:(match dY P rec f args st.c (st.s.up++[st.s.loc])with
   |some (r,c,up)=>match CX up with
    |some (u,l)=>some (r,(⟨c,st.fr,⟨u,l⟩⟩:XS))
    |none=>none
   | none=>none)=some (r,st'):=hx
  split at hx
  ·rename_i r0 c0 up0 h1;split at hx
   ·rename_i u l hu;cases hx;have hup0:=OY hu;have hsb:∀σ σ' δ,AS st.c σ σ'→(st.s.up++[st.s.loc]).map (AA.ren σ δ)=(st.s.up++[st.s.loc]).map (AA.ren σ' δ):=by intro σ σ' δ ha;have:=hbd.s σ σ' (List.replicate δ []) ha;simp only[St.emb,St.mk.injEq,List.length_replicate]at this;simp only[List.map_append,List.map_cons,List.map_nil];rw[List.append_cancel_left this.1,this.2]
    have hlp:∀L∈st.s.up++[st.s.loc],∀k γ fr ps asg body N st,L.get k=some (γ,.loop fr ps asg body N st)→TW N ps asg body=true:=by intro L hL k γ fr ps asg body N ls hg;obtain⟨i,hi⟩:=List.getElem?_of_mem hL;refine hbd.lp i k γ fr ps asg body N ls ?_;have:=HO st.s.up st.s.loc i k;rw[hi]at this;exact this.trans hg
    obtain⟨hc,hrb,hub,hlen,hlp',hA⟩:=mH hP hrec h1 hargs hsb hlp;subst hup0;refine⟨⟨hc,⟨fun σ σ' δ ha=>hbd.f σ σ' δ (ha.mono hc),fun σ σ' pre ha=>?_,fun i k γ fr ps asg body N ls hg=>?_⟩,?_⟩,hrb,rfl,fun σ pre K hk=>?_⟩
    ·have:=hub σ σ' pre.length ha;simp only[List.map_append,List.map_cons,List.map_nil]at this;obtain⟨e1,e2⟩:=List.append_inj' this rfl;simp only[List.cons.injEq,and_true]at e2;simp only[St.emb,e1,e2]
    ·rw[HO]at hg;split at hg
     ·rename_i L hL;exact hlp' L (List.mem_of_getElem? hL) _ _ _ _ _ _ _ _ hg
     ·cases hg
    ·simp only[List.length_append,List.length_singleton]at hlen;simp only;omega
    ·refine hA σ pre (st.s.emb σ pre) K (by simp[St.emb]) fun σ' u' l' ha hu'=>?_;have:=hk σ' ha;simp only[List.map_append,List.map_cons,List.map_nil,←List.append_assoc]at hu';obtain⟨e1,e2⟩:=List.append_inj' hu' rfl;simp only[List.cons.injEq,and_true]at e2;subst e1;subst e2;exact this
   ·cases hx
  ·cases hx
end Go.Pg
