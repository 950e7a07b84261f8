/- Running a Go function upon abstract values, by computing: one operation, and that it is what the walk asks. No program in sight. -/
import Derived.Test.YthhdhbalenanjaaGreatP5
namespace Go.Pg
variable {P:Program}{Ω:GP P}{σ σ':Nat→Nat}{δ:Nat}{pre:List AB}{s:St}{fr:Fr}{g:Bool}
def J7(all:List Oper)(o:Oper):Option (Tmp×Bool):=match o.guard with
 | none=>none
 | some (j,w)=>match all[j]? with
  | some p=>match p.dst with
   | some d=>some (d,w)
   | none=>none
  | none=>none
def qW(all:List Oper):Bool:=all.all fun o=>GM all o (J7 all o)
theorem eE{all:List Oper}:∀{l:List Oper},(∀o∈l,GM all o (J7 all o)=true)→IW all (l.map (J7 all)) l=true
 | [],_=>rfl
 | o :: l,h=>by
  simp only[List.map_cons,IW,Bool.and_eq_true]
  exact⟨h o (by simp),eE fun p hp=>h p (by simp[hp])⟩
theorem SW{all:List Oper}(h:qW all=true):∀o∈all,GM all o (J7 all o)=true:=fun o ho=>List.all_eq_true.1 h o ho
def A0Z(d:Tmp)(p:Oper):Bool:=match p.op with
 | .call { callee:=.builtin .append,args,.. }=>match args.toList with
  | .tmp t :: _=>Nat.beq t d
  | _=>false
 | .call { callee:=.value (.func _),args,argTypes }=>match args.toList,argTypes.toList with
  | [.tmp t,_],[T,U]=>Nat.beq t d&&Nat.beq T p.type&&!(Nat.beq U T)
  | _,_=>false
 | _=>false
def AN0(d:Tmp)(p:Oper):Bool:=match p.op with
 | .store _ _ (.tmp t)=>Nat.beq t d
 | _=>false
def DK(l:List Oper)(o:Oper):Bool:=match o.op,o.dst with
 | .call { callee:=.value _,.. },some d=>l.any fun p=>A0Z d p||AN0 d p
 | _,_=>false
def kS(o:Oper):Bool:=match o.op with
 | .mapUpdate .. | .insert ..=>true
 | .call { callee:=.builtin b,.. }=>match b with
  | .len | .max | .min | .cap | .append=>false
  | _=>true
 | _=>false
def kC(o:Oper):Bool:=match o.op with
 | .call { callee:=.value _,.. }=>true
 | _=>false
def onB(o:Oper)(A:List Nat):Bool:=o.after.any fun e=>Region.binds .any e&&A.contains e.on
def A00(o:Oper)(l:List Oper)(A:List Nat):Bool:=kW o&&l.isEmpty&&A.all fun j=>o.after.any fun e=>Region.binds .any e&&Nat.beq e.on j
def A01(o:Oper)(i:Nat):List Nat→List Nat
 | []=>[i]
 | a :: A=>cond (onB o [a]) (i :: a :: A) (a :: A01 o i A)
def JI(own:Oper→Bool):List Oper→Nat→List Nat→List Nat→List Nat→List Nat→List Nat→List Nat→List Nat×List Nat
 | [],_,R,Q,A,S,R2,T=>(R.reverse++Q.reverse++A.reverse++S.reverse++R2.reverse,T.reverse)
 | o :: l,i,R,Q,A,S,R2,T =>
  cond (onB o T||kS o||A00 o l (R++Q++A++S++R2++T)||(kC o&&(onB o (Q++S++R2)||(!(own o)&&onB o A)))) (JI own l (i+1) R Q A S R2 (i :: T))
   (cond (kP o) (cond (onB o (A++S++R2)) (JI own l (i+1) R Q A S (i :: R2) T) (JI own l (i+1) R (i :: Q) A S R2 T))
   (cond (kW o) (cond (onB o R2) (JI own l (i+1) R Q A S (i :: R2) T) (JI own l (i+1) R Q A (i :: S) R2 T))
    (cond (onB o (Q++S++R2)||(cond (kA own o) (!R2.isEmpty) (onB o (A.take 1)))) (JI own l (i+1) R Q A S (i :: R2) T)
     (cond (kA own o) (JI own l (i+1) R Q (i :: A) S R2 T) (cond (onB o A) (JI own l (i+1) R Q (A01 o i A) S R2 T) (JI own l (i+1) (i :: R) Q A S R2 T))))))
def AJ7(af:Nat):List (Nat×Nat)→Nat→Nat
 | [],m=>m
 | p :: r,m=>GQ (cond (T7 af p.1) (Nat.lor m (Nat.lor p.2 (Nat.shiftLeft 1 p.1))) m) (AJ7 af r)
def A02:List (Nat×Nat)→List (Nat×Nat)→List (Nat×Nat)
 | [],acc=>acc
 | p :: r,acc=>GQ (AJ7 p.2 acc 0) fun m=>A02 r ((p.1,m) :: acc)
def AN1(l:List Oper):List Nat:=((A02 (wU l 0) []).filterMap fun p=>cond (Nat.beq p.2 (Nat.sub (Nat.pow 2 p.1) 1)) (match l[p.1]? with
 | some o=>cond (kC o&&Nat.beq (J3 p.1 (wU l 0) 0) (Nat.sub (Nat.pow 2 l.length) (Nat.pow 2 (p.1+1)))) (some p.1) none
 | none=>none) none).reverse
def AJ8(own:Oper→Bool)(l:List Oper):Nat→List Nat→VT
 | i,[]=>[JI own (l.drop i) i [] [] [] [] [] []]
 | i,c :: cs=>match JI own ((l.drop i).take (c-i)) i [] [] [] [] [] []with
  | (R,T)=>(R,T++[c]) :: AJ8 own l (c+1) cs
def aJ(l:List Oper):VT:=AJ8 (DK l) l 0 (AN1 l)
def AN2(l:List Oper):List Nat:=l.filterMap fun o=>cond (kA (DK l) o) o.dst none
def FR:Code→Bool
 | .seq a b=>FR a&&FR b
 | .cond _ a b=>FR a&&FR b
 | .block _ c=>FR c
 | .loop c=>FR c
 | .scope _=>false
 | .rangeFunc ..=>false
 | _=>true
def EH(N:Nat):Code→Bool
 | .region _ ops draw=>cond draw (NS (DK ops.toList) N (ops.toList.map (J7 ops.toList)) (aJ ops.toList) ops.toList) (K0 N ops.toList&&qW ops.toList)
 | .seq a b=>EH N a&&EH N b
 | .cond _ a b=>EH N a&&EH N b
 | .block _ c=>EH N c
 | .loop c=>EH N c
 | .scope c=>EH N c
 | .rangeFunc _ ps asg body=>ps.toList.all (fun p=>Nat.blt p N)&&FR asg&&FR body&&EH N asg&&EH N body
 | _=>true
def SY(N:Nat)(ps:List Tmp)(asg body:Code):Bool:=ps.all (fun p=>Nat.blt p N)&&FR asg&&FR body&&EH N asg&&EH N body
def SZ(s:St):Prop:=∀l k γ fr ps asg body N st,s.get l k=some (γ,.loop fr ps asg body N st)→SY N ps asg body=true
theorem nD{s:St}{l k γ:Nat}{r:AX}{l' k':Nat}{x:Nat×AX}(h:(s.put l k γ r).get l' k'=some x):x=(γ,r)∨s.get l' k'=some x:=by
 unfold St.put at h
 unfold St.get at h ⊢
 by_cases e1:l=s.up.length
 ·rw[if_pos e1]at h
  by_cases e2:l'=s.up.length
  ·rw[if_pos e2]at h ⊢
   rw[AB.get_put]at h
   split at h
   ·exact .inl (Option.some.inj h).symm
   ·exact .inr h
  ·rw[if_neg e2]at h ⊢; exact .inr h
 ·rw[if_neg e1]at h
  have hl:({ s with up:=s.up.modify l (fun L=>L.put k γ r) }:St).up.length=s.up.length:=by simp
  rw[hl]at h
  by_cases e2:l'=s.up.length
  ·rw[if_pos e2]at h ⊢; exact .inr h
  ·rw[if_neg e2]at h ⊢
   rw[List.getElem?_modify]at h
   cases hu:s.up[l']? with
   | none=>simp[hu]at h
   | some L =>
    rw[hu]at h
    simp only[Option.map_eq_map,Option.map_some]at h
    by_cases e3:l=l'
    ·simp only[e3,if_true,AB.get_put]at h
     split at h
     ·exact .inl (Option.some.inj h).symm
     ·exact .inr h
    ·simp only[e3,if_false]at h; exact .inr h
theorem SZ.put{s:St}(h:SZ s){l k γ:Nat}{r:AX}(hr:∀fr ps asg body N st,r=.loop fr ps asg body N st→SY N ps asg body=true):SZ (s.put l k γ r):=by
 intro l' k' γ' fr ps asg body N st hg
 rcases nD hg with e | e
 ·cases e; exact hr _ _ _ _ _ _ rfl
 ·exact h _ _ _ _ _ _ _ _ _ e
structure XS where
 c:Nat
 fr:Fr
 s:St
noncomputable def BT(fr:Fr)(k:Nat):Option (Bool×V):=List.rec (motive:=fun _=>Option (Bool×V)) none (fun x _ ih=>Bool.rec ih (some x.2) (Nat.beq k x.1)) fr
theorem EX:∀(fr:Fr) (k:Nat),BT fr k=fr.get k
 | [],_=>rfl
 | (j,x) :: fr,k=>by
  show(Bool.rec (BT fr k) (some x) (Nat.beq k j):Option (Bool×V))=if k=j then some x else Fr.get fr k
  by_cases h:k=j
  ·subst h; rw[if_pos rfl,Nat.beq_refl]
  ·rw[if_neg h,← EX fr k]
   have:Nat.beq k j=false:=by
    cases hb:Nat.beq k j with
    | false=>rfl
    | true=>exact absurd (Nat.eq_of_beq_eq_true hb) h
   rw[this]
noncomputable def B9(fr:Fr)(x:Operand):Option V:=match x with
 | .tmp t=>match BT fr t with
  | some (true,v)=>some v
  | _=>none
 | .const v=>CK v
 | .func f=>some (.fn f [] [])
 | .global _=>none
theorem DQ(x:Operand):B9 fr x=DO true fr x:=by
 cases x with
 | tmp t =>
  simp only[B9,DO,rd,EX]
  cases fr.get t with
  | none=>rfl
  | some p =>
   obtain⟨c,v⟩:=p
   cases c <;> rfl
 | const v =>
  simp only[B9,DO,rd]
  cases CK v <;> rfl
 | func f=>rfl
 | global g=>rfl
theorem EY:B9 fr=DO true fr:=funext fun x=>DQ x
def AU(c:Nat)(σ σ':Nat→Nat):Prop:=∀i,i<c→σ i=σ' i
theorem AU.refl(c:Nat)(σ:Nat→Nat):AU c σ σ:=fun _ _=>rfl
theorem AU.trans{c c':Nat}{σ σ' σ'':Nat→Nat}(h:AU c σ σ')(h':AU c' σ' σ'')(hc:c≤c'):AU c σ σ'':=fun i hi=>(h i hi).trans (h' i (Nat.lt_of_lt_of_le hi hc))
theorem AU.mono{c c':Nat}(h:AU c' σ σ')(hc:c≤c'):AU c σ σ':=fun i hi=>h i (Nat.lt_of_lt_of_le hi hc)
theorem AU.upd(c γ:Nat)(σ:Nat→Nat):AU c σ (fun i=>if i=c then γ else σ i):=fun i hi=>by simp[Nat.ne_of_lt hi]
structure Bd(st:XS):Prop where
 f:∀σ σ' δ,AU st.c σ σ'→st.fr.ren σ δ=st.fr.ren σ' δ
 s:∀σ σ' pre,AU st.c σ σ'→st.s.emb σ pre=st.s.emb σ' pre
 lp:SZ st.s
def TL(c:Nat)(v:V):Prop:=∀σ σ' δ,AU c σ σ'→v.ren σ δ=v.ren σ' δ
structure JU(st st':XS):Prop where
 c:st.c≤st'.c
 bd:Bd st'
 n:st'.s.up.length=st.s.up.length
def StepX(P:Program)(o:Oper)(st st':XS):Prop:=JU st st'∧∀(σ:Nat→Nat) (pre:List AB) (k:Fr→St→Prop),(∀σ',AU st.c σ σ'→k (st'.fr.ren σ' pre.length) (st'.s.emb σ' pre))→D4 P true o (st.fr.ren σ pre.length) (st.s.emb σ pre) k
theorem E7(d:Option Tmp)(c:Bool)(v:V):(putD fr d c v).ren σ δ=putD (fr.ren σ δ) d c (v.ren σ δ):=by cases d <;> rfl
theorem GW(d:Nat)(c:Bool)(v:V):(fr.put d c v).ren σ δ=(fr.ren σ δ).put d c (v.ren σ δ):=rfl
theorem TL.mono{c c':Nat}{v:V}(h:TL c v)(hc:c≤c'):TL c' v:=fun σ σ' δ ha=>h σ σ' δ (ha.mono hc)
theorem Bd.val{st:XS}(h:Bd st){o:Oper}{v:V}(hv:E6 P g o st.fr st.s=some v):TL st.c v:=by
 intro σ σ' δ ha
 have h1:=IB (σ:=σ) (pre:=List.replicate δ []) hv
 have h2:=IB (σ:=σ') (pre:=List.replicate δ []) hv
 rw[h.f σ σ' _ ha,h.s σ σ' _ ha,h2]at h1
 have:=Option.some.inj h1
 rw[List.length_replicate]at this
 exact this.symm
theorem Bd.rd{st:XS}(h:Bd st){x:Operand}{v:V}(hv:B9 st.fr x=some v):TL st.c v:=by
 intro σ σ' δ ha
 rw[DQ]at hv
 have h1:=DG (g:=true) (fr:=st.fr) (σ:=σ) (δ:=δ) x
 have h2:=DG (g:=true) (fr:=st.fr) (σ:=σ') (δ:=δ) x
 rw[h.f σ σ' _ ha,h2,hv]at h1
 simpa using h1.symm
theorem Bd.putF{st:XS}(h:Bd st){d:Option Tmp}{c:Bool}{v:V}(hv:TL st.c v):Bd { st with fr:=putD st.fr d c v } :=
 ⟨fun σ σ' δ ha=>by simp only[E7]; rw[h.f σ σ' δ ha,hv σ σ' δ ha],h.s,h.lp⟩
theorem Bd.mono{st:XS}(h:Bd st){c:Nat}(hc:st.c≤c):Bd { st with c:=c }:=⟨fun σ σ' δ ha=>h.f σ σ' δ (ha.mono hc),fun σ σ' pre ha=>h.s σ σ' pre (ha.mono hc),h.lp⟩
def eF:AX→Bool
 | .loop ..=>false
 | _=>true
theorem UD{r:AX}(h:eF r=true):∀fr ps asg body N st,r=.loop fr ps asg body N st→SY N ps asg body=true:=by
 intro fr ps asg body N st e; subst e; cases h
theorem Bd.putS{st:XS}(h:Bd st){l k γ:Nat}{r:AX}(hγ:γ<st.c)(hr:∀σ σ' δ,AU st.c σ σ'→r.ren σ δ=r.ren σ' δ)(hp:eF r=true:=by rfl):Bd { st with s:=st.s.put l k γ r } :=
 ⟨h.f,fun σ σ' pre ha=>by simp only[CM]; rw[h.s σ σ' pre ha,hr σ σ' _ ha,ha γ hγ],h.lp.put (UD hp)⟩
theorem uU{o:Oper}{st:XS}{v:V}(h:Bd st)(hv:E6 P true o st.fr st.s=some v):StepX P o st { st with fr:=putD st.fr o.dst true v }:=by
 refine⟨⟨Nat.le_refl _,h.putF (h.val hv),rfl⟩,fun σ pre k hk=>DJ (Ω:=GP.nothing P) (.inl ⟨_,IB hv,?_⟩)⟩
 have:=hk σ (AU.refl _ _)
 rwa [E7]at this
theorem YW{c:Nat}{v:V}(h:TL c v)(σ σ':Nat→Nat)(δ:Nat)(ha:AU c σ σ'):(A6 v).map (V.ren σ δ)=(A6 v).map (V.ren σ' δ):=by
 rw[← D9,← D9,h σ σ' δ ha]
def eG(P:Program)(Ω:GP P)(o:Oper)(st st':XS):Prop:=JU st st'∧∃d,o.dst=some d∧∀(σ:Nat→Nat) (pre:List AB) (k:Fr→St→Prop),(∀σ',AU st.c σ σ'→k (st'.fr.ren σ' pre.length) (st'.s.emb σ' pre)) →
 ∃r,PM P Ω o (st.fr.ren σ pre.length)=some r∧∀γ,k ((st.fr.ren σ pre.length).put d true (r.val (st.s.emb σ pre).up.length d γ)) ((st.s.emb σ pre).put (st.s.emb σ pre).up.length d γ r.res)
theorem eG.step{o:Oper}{st st':XS}(h:eG P Ω o st st'):StepX P o st st':=by
 obtain⟨h1,d,hd,h2⟩:=h
 refine⟨h1,fun σ pre k hk=>?_⟩
 obtain⟨r,hr,h3⟩:=h2 σ pre k hk
 exact DJ (Ω:=Ω) (.inr (.inr ⟨r,d,rfl,hd,hr,h3⟩))
theorem bT{o:Oper}{st:XS}{d:Nat}{cs:List V}(h:Bd st)(hd:o.dst=some d)(hcs:∀σ σ' δ,AU st.c σ σ'→cs.map (V.ren σ δ)=cs.map (V.ren σ' δ))
  (hn:∀σ pre,PM P Ω o (st.fr.ren σ (List.length (α:=AB) pre))=some ⟨.box (cs.map (V.ren σ pre.length)),none⟩) :
  eG P Ω o st ⟨st.c+1,st.fr.put d true (.ptr st.s.up.length d st.c 0),st.s.put st.s.up.length d st.c (.box cs)⟩:=by
 have hb:∀σ σ',AU (st.c+1) σ σ'→AU st.c σ σ':=fun σ σ' ha=>ha.mono (Nat.le_succ _)
 refine⟨⟨Nat.le_succ _,⟨fun σ σ' δ ha=>?_,fun σ σ' pre ha=>?_,h.lp.put (UD rfl)⟩,St.put_len _ _ _ _ _⟩,d,hd,fun σ pre k hk=>⟨_,hn σ pre,fun γ=>?_⟩⟩
 ·simp only[GW,GU]
  rw[h.f σ σ' δ (hb _ _ ha),ha st.c (Nat.lt_succ_self _)]
 ·simp only[CM,AX.ren]
  rw[h.s σ σ' pre (hb _ _ ha),hcs σ σ' _ (hb _ _ ha),ha st.c (Nat.lt_succ_self _)]
 ·have:=hk (fun i=>if i=st.c then γ else σ i) (AU.upd _ _ _)
  have ha:=AU.upd st.c γ σ
  simp only[GW,GU,if_true,CM,AX.ren]at this
  rw[← h.f _ _ _ ha,← h.s _ _ _ ha,← hcs _ _ _ ha]at this
  rw[C6]
  exact this
noncomputable def NX(P:Program)(d:Option Tmp)(T:TypeId)(st:XS):Option XS:=match d,B5 P T with
 | some d,some cs=>some ⟨st.c+1,(d,true,.ptr st.s.up.length d st.c 0) :: st.fr,st.s.put st.s.up.length d st.c (.box cs)⟩
 | _,_=>none
noncomputable def jD(d:Option Tmp)(x:Operand)(st:XS):Option XS:=match d,B9 st.fr x with
 | some d,some v=>Bool.rec none (some ⟨st.c+1,(d,true,.ptr st.s.up.length d st.c 0) :: st.fr,st.s.put st.s.up.length d st.c (.box (A6 v))⟩) (A7 v)
 | _,_=>none
theorem bU{o:Oper}{T:TypeId}{st st':XS}(h:Bd st)(ho:o.op=.alloc T)(hx:NX P o.dst T st=some st'):eG P Ω o st st':=by
 unfold NX at hx
 split at hx
 ·rename_i d cs hd hz
  cases hx
  refine bT h hd (fun σ σ' δ _=>by rw[F7 hz,F7 hz]) fun σ pre=>?_
  simp[PM,ho,hz,F7 hz]
 ·cases hx
theorem qX{o:Oper}{T:TypeId}{x:Operand}{st st':XS}(h:Bd st)(ho:o.op=.box T x)(hx:jD o.dst x st=some st'):eG P Ω o st st':=by
 unfold jD at hx
 split at hx
 ·rename_i d v hd hv
  cases hf:A7 v with
  | false=>rw[hf]at hx; cases hx
  | true =>
   rw[hf]at hx
   cases hx
   refine bT h hd (fun σ σ' δ ha=>YW (h.rd hv) σ σ' δ ha) fun σ pre=>?_
   rw[DQ]at hv
   simp[PM,ho,DG,hv,HS,hf,D9]
 ·cases hx
noncomputable def VG(P:Program)(d:Option Tmp)(T:TypeId)(x y:Operand)(st:XS):Option XS:=match d,BI P T with
 | some d,some (none,e)=>match B9 st.fr x,B9 st.fr y with
  | some (.int _ n),some (.int _ m)=>match B5 P e with
   | some z=>if 0≤n∧m=n∧z.length=P.cellsOf e∧n.toNat*P.bytesOf e≤140737488355328∧n.toNat≤maxLen then
     some ⟨st.c+1,(d,true,.vec st.s.up.length d st.c n.toNat) :: st.fr,st.s.put st.s.up.length d st.c (.vec e (List.replicate n.toNat z))⟩ else none
   | none=>none
  | _,_=>none
 | _,_=>none
theorem jE{o:Oper}{T:TypeId}{x y:Operand}{st st':XS}(h:Bd st)(ho:o.op=.makeSlice T x y)(hx:VG P o.dst T x y st=some st'):eG P Ω o st st':=by
 unfold VG at hx
 split at hx
 ·rename_i d e hd hel
  split at hx
  ·rename_i k1 n k2 m h1 h2
   split at hx
   ·rename_i z hz
    split at hx
    ·rename_i hc
     cases hx
     rw[DQ]at h1 h2
     have hr:∀σ δ,(List.replicate n.toNat z).map (List.map (V.ren σ δ))=List.replicate n.toNat z:=fun σ δ=>by rw[List.map_replicate,F7 hz]
     have hb:∀σ σ',AU (st.c+1) σ σ'→AU st.c σ σ':=fun σ σ' ha=>ha.mono (Nat.le_succ _)
     refine⟨⟨Nat.le_succ _,⟨fun σ σ' δ ha=>?_,fun σ σ' pre ha=>?_,h.lp.put (UD rfl)⟩,St.put_len _ _ _ _ _⟩,d,hd,fun σ pre k hk=>⟨⟨.vec e (List.replicate n.toNat z),none⟩,?_,fun γ=>?_⟩⟩
     ·show((st.fr.put d true _).ren σ δ)=((st.fr.put d true _).ren σ' δ)
      simp only[GW,GV]
      rw[h.f σ σ' δ (hb _ _ ha),ha st.c (Nat.lt_succ_self _)]
     ·simp only[CM,AX.ren,hr]
      rw[h.s σ σ' pre (hb _ _ ha),ha st.c (Nat.lt_succ_self _)]
     ·simp only[PM,ho,DG,h1,h2,Option.map_some,D5,hel,hz]
      rw[if_pos hc]
     ·have:=hk (fun i=>if i=st.c then γ else σ i) (AU.upd _ _ _)
      have ha:=AU.upd st.c γ σ
      change k ((st.fr.put d true _).ren _ _) _ at this
      simp only[GW,GV,if_true,CM,AX.ren,hr]at this
      rw[← h.f _ _ _ ha,← h.s _ _ _ ha]at this
      simp only[Mk.val,GO,List.length_replicate]
      rw[C6]
      exact this
    ·cases hx
   ·cases hx
  ·cases hx
 ·cases hx
noncomputable def uV(d:Option Tmp)(r:Option Operand)(st:XS):Option XS:=match d,r with
 | some d,none=>some ⟨st.c+1,(d,true,.mp st.s.up.length d st.c) :: st.fr,st.s.put st.s.up.length d st.c (.map [])⟩
 | _,_=>none
theorem qY{o:Oper}{T:TypeId}{r:Option Operand}{st st':XS}(h:Bd st)(ho:o.op=.makeMap T r)(hx:uV o.dst r st=some st'):eG P Ω o st st':=by
 unfold uV at hx
 split at hx
 ·rename_i d hd
  cases hx
  have hb:∀σ σ',AU (st.c+1) σ σ'→AU st.c σ σ':=fun σ σ' ha=>ha.mono (Nat.le_succ _)
  refine⟨⟨Nat.le_succ _,⟨fun σ σ' δ ha=>?_,fun σ σ' pre ha=>?_,h.lp.put (UD rfl)⟩,St.put_len _ _ _ _ _⟩,d,hd,fun σ pre k hk=>⟨⟨.map [],none⟩,?_,fun γ=>?_⟩⟩
  ·show((st.fr.put d true _).ren σ δ)=((st.fr.put d true _).ren σ' δ)
   simp only[GW,QD]
   rw[h.f σ σ' δ (hb _ _ ha),ha st.c (Nat.lt_succ_self _)]
  ·simp only[CM,AX.ren,List.map_nil]
   rw[h.s σ σ' pre (hb _ _ ha),ha st.c (Nat.lt_succ_self _)]
  ·simp only[PM,ho]
  ·have:=hk (fun i=>if i=st.c then γ else σ i) (AU.upd _ _ _)
   have ha:=AU.upd st.c γ σ
   change k ((st.fr.put d true _).ren _ _) _ at this
   simp only[GW,QD,if_true,CM,AX.ren,List.map_nil]at this
   rw[← h.f _ _ _ ha,← h.s _ _ _ ha]at this
   simp only[Mk.val,GO]
   rw[C6]
   exact this
 ·cases hx
noncomputable def II(P:Program)(d:Option Tmp)(T:TypeId)(x y:Operand)(st:XS):Option XS:=match d with
 | some _=>none
 | none=>match B9 st.fr x,B9 st.fr y with
  | some (.ptr l q γ off),some v=>match st.s.get l q with
   | some (γ',.box cs)=>if Nat.beq γ' γ&&A7 v&&Nat.blt 0 (P.cellsOf T)&&Nat.beq (A6 v).length (P.cellsOf T)&&Nat.ble (off+P.cellsOf T) cs.length&&Nat.blt γ st.c then some { st with s:=st.s.put l q γ (.box (A0 cs off (A6 v))) } else none
   | _=>none
  | some (.eptr l q γ i off),some v=>match st.s.get l q with
   | some (γ',.vec U es)=>if Nat.beq γ' γ&&A7 v&&Nat.blt 0 (P.cellsOf T)&&Nat.beq (A6 v).length (P.cellsOf T)&&Nat.blt i es.length&&Nat.ble (off+P.cellsOf T) (es.getD i []).length&&Nat.blt γ st.c then some { st with s:=st.s.put l q γ (.vec U (es.set i (A0 (es.getD i []) off (A6 v)))) } else none
   | _=>none
  | _,_=>none
theorem L8{st:XS}(h:Bd st){l q γ:Nat}{r:AX}(hg:st.s.get l q=some (γ,r))(σ σ':Nat→Nat)(δ:Nat)(ha:AU st.c σ σ'):r.ren σ δ=r.ren σ' δ:=by
 have h1:=BV (s:=st.s) (σ:=σ) (pre:=List.replicate δ []) l q
 have h2:=BV (s:=st.s) (σ:=σ') (pre:=List.replicate δ []) l q
 rw[h.s σ σ' _ ha,h2,hg]at h1
 simp only[Option.map_some,List.length_replicate,Option.some.injEq,Prod.mk.injEq]at h1
 exact h1.2.symm
theorem J8(es:List (List V))(i:Nat)(x:List V):(es.set i x).map (List.map (V.ren σ δ))=(es.map (List.map (V.ren σ δ))).set i (x.map (V.ren σ δ)):=by simp[List.map_set]
theorem bV{o:Oper}{T:TypeId}{x y:Operand}{st st':XS}(h:Bd st)(ho:o.op=.store T x y)(hx:II P o.dst T x y st=some st'):StepX P o st st':=by
 unfold II at hx
 split at hx
 ·cases hx
 ·rename_i hd
  split at hx
  ·rename_i l q γ off v h1 h2
   split at hx
   ·rename_i γ' cs hg
    split at hx
    ·rename_i hc
     simp only[Bool.and_eq_true,Nat.blt_eq,Nat.ble_eq]at hc
     obtain⟨⟨⟨⟨⟨c1,c2⟩,c3⟩,c4⟩,c5⟩,c6⟩:=hc
     have c1:=Nat.eq_of_beq_eq_true c1
     have c4:=Nat.eq_of_beq_eq_true c4
     subst c1
     cases hx
     have hv:=h.rd h2
     refine⟨⟨Nat.le_refl _,h.putS c6 fun σ σ' δ ha=>?_,St.put_len _ _ _ _ _⟩,fun σ pre k hk=>?_⟩
     ·have hr:=L8 h hg σ σ' δ ha
      simp only[AX.ren,AX.box.injEq]at hr ⊢
      rw[← C0,← C0,hr,YW hv σ σ' δ ha]
     ·have:=hk σ (AU.refl _ _)
      rw[DQ]at h1 h2
      unfold D4
      simp only[ho,DG,h1,h2,Option.map_some,GU,BV,hg,AX.ren]
      refine⟨trivial,trivial,by rw[HS]; exact c2,c3,by rw[D9]; simpa using c4,by simpa using c5,hd,?_⟩
      rw[D9,C0]
      rw[CM]at this
      exact this
    ·cases hx
   ·cases hx
  ·rename_i l q γ i off v h1 h2
   split at hx
   ·rename_i γ' U es hg
    split at hx
    ·rename_i hc
     simp only[Bool.and_eq_true,Nat.blt_eq,Nat.ble_eq]at hc
     obtain⟨⟨⟨⟨⟨⟨c1,c2⟩,c3⟩,c4⟩,c5⟩,c6⟩,c7⟩:=hc
     have c1:=Nat.eq_of_beq_eq_true c1
     have c4:=Nat.eq_of_beq_eq_true c4
     subst c1
     cases hx
     have hv:=h.rd h2
     refine⟨⟨Nat.le_refl _,h.putS c7 fun σ σ' δ ha=>?_,St.put_len _ _ _ _ _⟩,fun σ pre k hk=>?_⟩
     ·have hr:=L8 h hg σ σ' δ ha
      simp only[AX.ren,AX.vec.injEq,true_and]at hr ⊢
      rw[J8,J8,← C0,← C0,← EO,← EO,hr,YW hv σ σ' δ ha]
     ·have:=hk σ (AU.refl _ _)
      rw[DQ]at h1 h2
      unfold D4
      simp only[ho,DG,h1,h2,Option.map_some,NT,BV,hg,AX.ren]
      refine⟨trivial,trivial,by rw[HS]; exact c2,c3,by rw[D9]; simpa using c4,by simpa using c5,by rw[EO]; simpa using c6,hd,?_⟩
      rw[EO,D9,C0,← J8]
      rw[CM]at this
      exact this
    ·cases hx
   ·cases hx
  ·cases hx
noncomputable def uW(P:Program)(d:Option Tmp)(T:TypeId)(x i y:Operand)(st:XS):Option XS:=match d with
 | some _=>none
 | none=>match B9 st.fr x,B9 st.fr i,B9 st.fr y with
  | some m,some i,some v=>match PT P st.s T m i v with
   | some (l,q,γ,es)=>Bool.rec none (some { st with s:=st.s.put l q γ (.map es) }) (Nat.blt γ st.c)
   | none=>none
  | _,_,_=>none
theorem AGR{o:Oper}{T:TypeId}{x i y:Operand}{st st':XS}(h:Bd st)(ho:o.op=.mapUpdate T x i y)(hx:uW P o.dst T x i y st=some st'):StepX P o st st':=by
 unfold uW at hx
 split at hx
 ·cases hx
 ·rename_i hd
  split at hx
  ·rename_i m i' v h1 h2 h3
   split at hx
   ·rename_i l q γ es hu
    cases hb:Nat.blt γ st.c with
    | false=>rw[hb]at hx; cases hx
    | true =>
     rw[hb]at hx
     have hlt:γ<st.c:=by simpa using hb
     cases hx
     have hm:=h.rd h1
     have hi:=h.rd h2
     have hv:=h.rd h3
     refine⟨⟨Nat.le_refl _,h.putS hlt fun σ σ' δ ha=>?_,St.put_len _ _ _ _ _⟩,fun σ pre k hk=>?_⟩
     ·have q1:=UB (σ:=σ) (pre:=List.replicate δ []) hu
      have q2:=UB (σ:=σ') (pre:=List.replicate δ []) hu
      rw[h.s σ σ' _ ha,hm σ σ' _ ha,hi σ σ' _ ha,hv σ σ' _ ha,q2]at q1
      simp only[Option.some.injEq,Prod.mk.injEq,List.length_replicate]at q1
      simp only[AX.ren,q1.2.2.2]
     ·have:=hk σ (AU.refl _ _)
      rw[DQ]at h1 h2 h3
      unfold D4
      simp only[ho,DG,h1,h2,h3,Option.map_some,UB hu]
      refine⟨trivial,hd,?_⟩
      rw[CM]at this
      exact this
   ·cases hx
  ·cases hx
noncomputable def eH(P:Program)(d:Option Tmp)(args:List Operand)(Ts:List TypeId)(st:XS):Option XS:=match args,Ts,d with
 | [x],[T],none=>match BI P T,B9 st.fr x with
  | some (none,e),some (.vtl l q γ i n)=>match st.s.get l q,B5 P e with
   | some (γ',.vec U es),some z=>Bool.rec none (some { st with s:=st.s.put l q γ (.vec U (es.take i++List.replicate n z++es.drop (i+n))) }) (Nat.beq γ' γ&&Nat.beq U e&&Nat.ble (i+n) es.length&&es.all (fun y=>y.length == z.length)&&Nat.blt γ st.c)
   | _,_=>none
  | _,_=>none
 | _,_,_=>none
theorem uX{o:Oper}{args:Array Operand}{Ts:Array TypeId}{st st':XS}(h:Bd st)(ho:o.op=.call { callee:=.builtin .clear,args:=args,argTypes:=Ts })(hx:eH P o.dst args.toList Ts.toList st=some st'):StepX P o st st':=by
 unfold eH at hx
 split at hx
 ·rename_i x T ha hT hd
  split at hx
  ·rename_i e l q γ i n hel h1
   split at hx
   ·rename_i γ' U es z hg hz
    cases hb:(Nat.beq γ' γ&&Nat.beq U e&&Nat.ble (i+n) es.length&&es.all (fun y=>y.length == z.length)&&Nat.blt γ st.c)with
    | false=>rw[hb]at hx; cases hx
    | true =>
     rw[hb]at hx
     cases hx
     simp only[Bool.and_eq_true,Nat.blt_eq,Nat.ble_eq]at hb
     obtain⟨⟨⟨⟨c1,c2⟩,c3⟩,c4⟩,c5⟩:=hb
     have c1:=Nat.eq_of_beq_eq_true c1
     have c2:=Nat.eq_of_beq_eq_true c2
     subst c1; subst c2
     have hz':∀σ δ,z.map (V.ren σ δ)=z:=fun σ δ=>F7 hz
     refine⟨⟨Nat.le_refl _,h.putS c5 fun σ σ' δ ha=>?_,St.put_len _ _ _ _ _⟩,fun σ pre k hk=>?_⟩
     ·have hr:=L8 h hg σ σ' δ ha
      simp only[AX.ren,AX.vec.injEq,true_and]at hr ⊢
      simp only[List.map_append,List.map_take,List.map_drop,List.map_replicate,hz',hr]
     ·have:=hk σ (AU.refl _ _)
      rw[DQ]at h1
      unfold D4
      simp only[ho,ha,hT,hd,hel,DG,h1,Option.map_some,V7,BV,hg,hz,AX.ren]
      refine⟨trivial,trivial,trivial,by simpa using c3,?_,?_⟩
      ·rw[List.all_map]; exact c4▸(by congr 1; funext x; simp)
      ·rw[CM]at this
       simp only[AX.ren,List.map_append,List.map_take,List.map_drop,List.map_replicate,hz']at this
       exact this
   ·cases hx
  ·cases hx
 ·cases hx
theorem nE{o:Oper}{l q γ:Nat}{r:AX}(h:C3 P o fr s=some (l,q,γ,r)):C3 P o (fr.ren σ pre.length) (s.emb σ pre)=some (l+pre.length,q,σ γ,r.ren σ pre.length):=by
 unfold C3 at h ⊢
 split at h
 ·rename_i T x y ho
  simp only[DG]
  split at h
  ·rename_i l1 q1 γ1 off v e1 e2
   simp only[e1,e2,Option.map_some,GU,BV]
   split at h
   ·rename_i γ2 cs e3
    split at h
    ·rename_i hc
     cases h
     obtain⟨c1,c2,c3,c4,c5,c6⟩:=hc
     subst c1
     simp only[e3,Option.map_some,AX.ren,HS,D9,List.length_map]
     rw[if_pos ⟨trivial,c2,c3,c4,c5,c6⟩,C0]
    ·cases h
   ·cases h
  ·rename_i l1 q1 γ1 i off v e1 e2
   simp only[e1,e2,Option.map_some,NT,BV]
   split at h
   ·rename_i γ2 U es e3
    split at h
    ·rename_i hc
     cases h
     obtain⟨c1,c2,c3,c4,c5,c6,c7⟩:=hc
     subst c1
     simp only[e3,Option.map_some,AX.ren,HS,D9,List.length_map,EO]
     rw[if_pos ⟨trivial,c2,c3,c4,c5,c6,c7⟩,C0,← J8]
    ·cases h
   ·cases h
  ·cases h
 ·cases h
theorem AAX{o:Oper}{T:TypeId}{x y:Operand}{st st':XS}(ho:o.op=.store T x y)(hx:II P o.dst T x y st=some st'):∃l q γ r,C3 P o st.fr st.s=some (l,q,γ,r)∧st'={ st with s:=st.s.put l q γ r }:=by
 unfold II at hx
 unfold C3
 simp only[ho]
 split at hx
 ·cases hx
 ·rename_i hd
  split at hx
  ·rename_i l q γ off v h1 h2
   split at hx
   ·rename_i γ' cs hg
    split at hx
    ·rename_i hc
     simp only[Bool.and_eq_true,Nat.blt_eq,Nat.ble_eq]at hc
     obtain⟨⟨⟨⟨⟨c1,c2⟩,c3⟩,c4⟩,c5⟩,c6⟩:=hc
     have c1:=Nat.eq_of_beq_eq_true c1
     have c4:=Nat.eq_of_beq_eq_true c4
     subst c1
     cases hx
     rw[DQ]at h1 h2
     refine⟨_,_,_,_,?_,rfl⟩
     simp only[h1,h2,hg]
     rw[if_pos ⟨trivial,c2,c3,c4,c5,hd⟩]
    ·cases hx
   ·cases hx
  ·rename_i l q γ i off v h1 h2
   split at hx
   ·rename_i γ' U es hg
    split at hx
    ·rename_i hc
     simp only[Bool.and_eq_true,Nat.blt_eq,Nat.ble_eq]at hc
     obtain⟨⟨⟨⟨⟨⟨c1,c2⟩,c3⟩,c4⟩,c5⟩,c6⟩,c7⟩:=hc
     have c1:=Nat.eq_of_beq_eq_true c1
     have c4:=Nat.eq_of_beq_eq_true c4
     subst c1
     cases hx
     rw[DQ]at h1 h2
     refine⟨_,_,_,_,?_,rfl⟩
     simp only[h1,h2,hg]
     rw[if_pos ⟨trivial,c2,c3,c4,c5,c6,hd⟩]
    ·cases hx
   ·cases hx
  ·cases hx
def AB.hide(W:AM)(l:Nat)(L:AB):AB:=L.filter fun e=>!(W.contains (l,e.1))
theorem AB.get_hide(W:AM)(l:Nat):∀(L:AB) (k:Nat),(l,k)∉W→(L.hide W l).get k=L.get k
 | [],k,_=>rfl
 | (j,x) :: L,k,hk=>by
  have ih:=AB.get_hide W l L k hk
  unfold AB.hide at ih ⊢
  rw[List.filter_cons]
  split
  ·simp only[AB.get]
   split
   ·rfl
   ·exact ih
  ·rename_i hc
   simp only[Bool.not_eq_true',Bool.not_eq_false,List.contains_iff_mem]at hc
   rw[ih]
   simp only[AB.get]
   rw[if_neg (fun e=>hk (by rw[e]; simpa using hc))]
theorem AB.get_hide'(W:AM)(l:Nat):∀(L:AB) (k:Nat),(l,k)∈W→(L.hide W l).get k=none
 | [],k,_=>rfl
 | (j,x) :: L,k,hk=>by
  have ih:=AB.get_hide' W l L k hk
  unfold AB.hide at ih ⊢
  rw[List.filter_cons]
  split
  ·rename_i hc
   simp only[AB.get]
   rw[if_neg (fun e=>by subst e; simp[hk]at hc)]
   exact ih
  ·exact ih
def St.hide(W:AM)(s:St):St:=⟨s.up.mapIdx fun l L=>L.hide W l,s.loc.hide W s.up.length⟩
theorem St.get_hide{W:AM}{l k:Nat}(h:(l,k)∉W):(s.hide W).get l k=s.get l k:=by
 unfold St.get St.hide
 simp only[List.length_mapIdx]
 split
 ·rename_i e; subst e; exact AB.get_hide W _ _ _ h
 ·rw[List.getElem?_mapIdx]
  cases s.up[l]? with
  | none=>rfl
  | some L=>exact AB.get_hide W _ _ _ h
theorem St.get_hide'{W:AM}{l k:Nat}(h:(l,k)∈W):(s.hide W).get l k=none:=by
 unfold St.get St.hide
 simp only[List.length_mapIdx]
 split
 ·rename_i e; subst e; exact AB.get_hide' W _ _ _ h
 ·rw[List.getElem?_mapIdx]
  cases s.up[l]? with
  | none=>rfl
  | some L=>exact AB.get_hide' W _ _ _ h
theorem YX(W:AM):VC W (s.hide W) s:=fun l k x e=>by
 by_cases h:(l,k)∈W
 ·rw[St.get_hide' h]at e; cases e
 ·exact⟨h,by rw[← St.get_hide h]; exact e⟩
def BD:Option V→AM
 | some (.ptr l k _ _)=>[(l,k)]
 | some (.eptr l k _ _ _)=>[(l,k)]
 | some (.vec l k _ _)=>[(l,k)]
 | some (.mp l k _)=>[(l,k)]
 | _=>[]
def BR(one:Bool)(x:Option V):AM:=match one,x with
 | true,some (.ptr l k _ off)=>[(l,k+HD),(l,k+EN),(l,D8 k off)]
 | true,some (.eptr l k _ _ off)=>[(l,k+HD),(l,k+EN),(l,D8 k off)]
 | _,x=>BD x
def B6(one:Bool)(x:Option V):AM:=match one,x with
 | true,some (.ptr l k _ off)=>[(l,k),(l,D8 k off)]
 | true,some (.eptr l k _ _ off)=>[(l,k),(l,D8 k off)]
 | false,some (.ptr l k _ _)=>[(l,k),(l,k+EN)]
 | false,some (.eptr l k _ _ _)=>[(l,k),(l,k+EN)]
 | _,_=>[]
def AAY:Option V→Bool
 | some (.ptr ..)=>true
 | some (.eptr ..)=>true
 | _=>false
def EI:Option V→AM
 | some (.vec l k _ _)=>[(l,k)]
 | some (.vtl l k _ _ _)=>[(l,k)]
 | some (.ptr l k _ _)=>[(l,k)]
 | _=>[]
def JJ:Option V→AM
 | some (.vec l k _ _)=>[(l,k+HD)]
 | _=>[]
def jF(P:Program)(o:Oper)(r:Operand→Option V):Bool:=match o.op with
 | .load T x=>Nat.beq (P.cellsOf T) 1&&AAY (r x)
 | .indexAddr _ x _=>match r x with
  | some (.vec ..)=>true
  | _=>false
 | _=>false
def JK(r:Operand→Option V):List Operand→AM
 | [_,y]=>EI (r y)
 | _=>[]
def DX(P:Program)(o:Oper)(r:Operand→Option V):AM:=match o.op with
 | .load T x=>BR (Nat.beq (P.cellsOf T) 1) (r x)
 | .indexAddr _ x _=>JJ (r x)
 | .slice _ x ..=>EI (r x)
 | .lookup _ x ..=>BD (r x)
 | .call { callee:=.builtin .append,args,.. }=>JK r args.toList
 | _=>[]
theorem eI{W:AM}{x:V}{es:List (List V)}(h:elemsOf s x=some es)(hr:∀p∈EI (some x),p∉W):elemsOf (s.hide W) x=some es:=by
 cases x with
 | vec l k g n =>
  have hn:(l,k)∉W:=hr _ (by simp[EI])
  simp only[elemsOf,St.get_hide hn]at h ⊢
  exact h
 | vtl l k g i n =>
  have hn:(l,k)∉W:=hr _ (by simp[EI])
  simp only[elemsOf,St.get_hide hn]at h ⊢
  exact h
 | list b es=>exact h
 | nil=>exact h
 | _=>cases h
theorem AAZ{W:AM}{o:Oper}{r:Operand→Option V}{v:V}(h:H0 P o s r=some v)(hi:jF P o r=false)(hr:∀p∈DX P o r,p∉W):H0 P o (s.hide W) r=some v:=by
 unfold H0 at h ⊢
 split at h
 case h_4 T x ho =>
  obtain⟨p,h1,h2⟩:=Option.bind_eq_some_iff.1 h
  obtain⟨cs,h3,h4⟩:=Option.bind_eq_some_iff.1 h2
  have:A5 (s.hide W) p=some cs:=by
   cases p with
   | ptr l k g off =>
    have hb:Nat.beq (P.cellsOf T) 1=false:=by simpa [jF,ho,h1,AAY]using hi
    have hn:(l,k)∉W:=hr _ (by simp[DX,ho,h1,BR,hb,BD])
    simp only[A5,St.get_hide hn]at h3 ⊢; exact h3
   | eptr l k g i off =>
    have hb:Nat.beq (P.cellsOf T) 1=false:=by simpa [jF,ho,h1,AAY]using hi
    have hn:(l,k)∉W:=hr _ (by simp[DX,ho,h1,BR,hb,BD])
    simp only[A5,St.get_hide hn]at h3 ⊢; exact h3
   | _=>exact h3
  simp only[h1,Option.bind_some,this,h4]
 case h_10 T x i ho =>
  obtain⟨p,h1,h2⟩:=Option.bind_eq_some_iff.1 h
  obtain⟨q,h3,h4⟩:=Option.bind_eq_some_iff.1 h2
  have:BM P (s.hide W) T p q=some v:=by
   unfold BM at h4 ⊢
   split at h4
   ·exact h4
   ·rename_i e l k g n k' j e1
    simp[jF,ho,h1]at hi
   ·exact h4
   ·exact h4
   ·exact h4
   ·cases h4
  simp only[h1,h3,Option.bind_some,this]
 case h_16 T x lo hi mx ho =>
  obtain⟨p,h1,h2⟩:=Option.bind_eq_some_iff.1 h
  obtain⟨q,h3,h4⟩:=Option.bind_eq_some_iff.1 h2
  obtain⟨q',h5,h6⟩:=Option.bind_eq_some_iff.1 h4
  obtain⟨q2,h7,h8⟩:=Option.bind_eq_some_iff.1 h6
  have:BU P (s.hide W) T p q q' q2=some v:=by
   unfold BU at h8 ⊢
   split at h8
   case h_6 e l k g n k' i e1 =>
    have hn:(l,k)∉W:=hr _ (by simp[DX,ho,h1,EI])
    simp only[St.get_hide hn]; exact h8
   case h_7 n e l k g o e1 =>
    have hn:(l,k)∉W:=hr _ (by simp[DX,ho,h1,EI])
    simp only[St.get_hide hn]; exact h8
   all_goals exact h8
  simp only[h1,h3,h5,h7,Option.bind_some,this]
 case h_17 T x i ok ho =>
  obtain⟨p,h1,h2⟩:=Option.bind_eq_some_iff.1 h
  obtain⟨q,h3,h4⟩:=Option.bind_eq_some_iff.1 h2
  have:D3 P (s.hide W) T p q ok=some v:=by
   unfold D3 at h4 ⊢
   split at h4
   ·rename_i K E l k g e1
    have hn:(l,k)∉W:=hr _ (by simp[DX,ho,h1,BD])
    simp only[St.get_hide hn]; exact h4
   ·cases h4
  simp only[h1,h3,Option.bind_some,this]
 all_goals exact h
theorem uY{W:AM}{o:Oper}{v:V}(h:E6 P g o fr s=some v)(hi:jF P o (DO g fr)=false)(hr:∀p∈DX P o (DO g fr),p∉W):E6 P g o fr (s.hide W)=some v:=by
 unfold E6 at h ⊢
 split at h
 ·exact h
 ·exact h
 ·exact h
 ·exact AAZ h hi hr
def Z3(δ:Nat)(W:AM):AM:=W.map fun p=>(p.1+δ,p.2)
theorem L9{W:AM}{l k:Nat}:(l+δ,k)∈Z3 δ W↔(l,k)∈W:=by
 unfold Z3
 simp only[List.mem_map,Prod.mk.injEq,Prod.exists]
 constructor
 ·rintro ⟨a,b,h,h1,h2⟩
  have:a=l:=by omega
  subst this; subst h2; exact h
 ·intro h; exact⟨l,k,h,rfl,rfl⟩
theorem VH(x:Option V):BD (x.map (V.ren σ δ))=Z3 δ (BD x):=by
 cases x with
 | none=>rfl
 | some v=>cases v <;> simp[BD,Z3]
theorem QH(x:Option V):EI (x.map (V.ren σ δ))=Z3 δ (EI x):=by
 cases x with
 | none=>rfl
 | some v=>cases v <;> simp[EI,Z3]
theorem nF(x:Option V):JJ (x.map (V.ren σ δ))=Z3 δ (JJ x):=by
 cases x with
 | none=>rfl
 | some v=>cases v <;> simp[JJ,Z3]
theorem nG(b:Bool)(x:Option V):BR b (x.map (V.ren σ δ))=Z3 δ (BR b x):=by
 cases b with
 | false=>exact VH x
 | true =>
  cases x with
  | none=>rfl
  | some v=>cases v <;> simp[BR,BD,Z3]
theorem AN3{W:AM}{o:Oper}{v:V}(h:E6 P g o fr s=some v)(hi:jF P o (DO g fr)=true)(hr:∀p∈DX P o (DO g fr),p∉W):aH P W g o fr s v:=by
 unfold jF at hi
 split at hi
 ·rename_i T x ho
  rw[Bool.and_eq_true]at hi
  have h1:=Nat.eq_of_beq_eq_true hi.1
  unfold E6 at h
  simp only[ho,H0]at h
  obtain⟨p,hx,h⟩:=Option.bind_eq_some_iff.1 h
  obtain⟨cs,hcs,hv⟩:=Option.bind_eq_some_iff.1 h
  have hp:=hi.2
  rw[hx]at hp
  cases p with
  | ptr l k γ off =>
   have hr':∀p∈[(l,k+HD),(l,k+EN),(l,D8 k off)],p∉W:=fun p hp=>hr p (by simp only[DX,ho,hx,hi.1,BR]; exact hp)
   refine .inr ⟨T,x,_,cs,l,k,off,ho,hx,rfl,hcs,hv,by omega,hr' _ (by simp),hr' _ (by simp),fun c hc=>?_⟩
   obtain rfl:c=0:=by omega
   exact hr' _ (by simp)
  | eptr l k γ i off =>
   have hr':∀p∈[(l,k+HD),(l,k+EN),(l,D8 k off)],p∉W:=fun p hp=>hr p (by simp only[DX,ho,hx,hi.1,BR]; exact hp)
   refine .inr ⟨T,x,_,cs,l,k,off,ho,hx,rfl,hcs,hv,by omega,hr' _ (by simp),hr' _ (by simp),fun c hc=>?_⟩
   obtain rfl:c=0:=by omega
   exact hr' _ (by simp)
  | _=>cases hp
 ·rename_i T x i ho
  split at hi
  ·rename_i l k γ n hx
   unfold E6 at h
   simp only[ho,H0,hx,Option.bind_some]at h
   obtain⟨iv,hiv,h⟩:=Option.bind_eq_some_iff.1 h
   unfold BM at h
   split at h
   ·rename_i e1 e2; cases e2
   ·rename_i e l' k' γ' n' ki j e1 e2
    cases e2
    split at h
    ·rename_i γ2 T' es hget
     split at h
     ·rename_i hc
      obtain⟨rfl,hc⟩:=hc
      exact .inl ⟨T,x,i,e,_,_,_,_,ki,j,T',es,ho,hx,hiv,e1,hr _ (by simp[DX,ho,hx,JJ]),hget,hc,(Option.some.inj h).symm⟩
     ·cases h
    ·cases h
   ·rename_i e1 e2; cases e2
   ·rename_i e1 e2; cases e2
   ·rename_i e1 e2; cases e2
   ·cases h
  ·cases hi
 ·cases hi
theorem nH{r:Operand→Option V}(l:List Operand):JK (fun x=>(r x).map (V.ren σ δ)) l=Z3 δ (JK r l):=by
 unfold JK
 split
 ·exact QH _
 ·rfl
theorem nI{o:Oper}{r:Operand→Option V}:DX P o (fun x=>(r x).map (V.ren σ δ))=Z3 δ (DX P o r):=by
 unfold DX
 split
 ·exact nG _ _
 ·exact nF _
 ·exact QH _
 ·exact VH _
 ·exact nH _
 ·rfl
theorem jG{W rd:AM}(h:∀p∈rd,p∉W):∀p∈Z3 δ rd,p∉Z3 δ W:=by
 intro p hp
 unfold Z3 at hp
 obtain⟨⟨l,k⟩,hq,rfl⟩:=List.mem_map.1 hp
 exact fun hc=>h _ hq (L9.1 hc)
end Go.Pg
namespace Go.Pg
variable {P:Program}{σ σ':Nat→Nat}{δ:Nat}{pre:List AB}{s:St}{fr:Fr}{g:Bool}
noncomputable def rdC(fr:Fr)(x:Operand):Option (Bool×V):=match x with
 | .tmp t=>BT fr t
 | .const v=>match CK v with
  | some x=>some (true,x)
  | none=>none
 | .func f=>some (true,.fn f [] [])
 | .global _=>none
theorem AN4(x:Operand):rdC fr x=rd fr x:=by
 cases x with
 | tmp t=>exact EX fr t
 | const v=>simp only[rdC,rd]; cases CK v <;> rfl
 | func f=>rfl
 | global g=>rfl
noncomputable def jH(fr:Fr)(c a b:Operand):Option V:=match B9 fr c,rdC fr a,rdC fr b with
 | some (.bool c),some (ca,.bool a),some (cb,.bool b)=>Bool.rec (Bool.rec none (some (.bool b)) cb) (Bool.rec none (some (.bool a)) ca) c
 | _,_,_=>none
noncomputable def K4(P:Program)(fr:Fr)(s:St)(T:TypeId)(x:Operand):Option V:=match B9 fr x with
 | some p=>match A5 s p with
  | some cs=>BL P T cs
  | none=>none
 | none=>none
noncomputable def xFA(P:Program)(fr:Fr)(T:TypeId)(x:Operand)(f:Nat):Option V:=match B9 fr x with
 | some p=>CX P T p f
 | none=>none
noncomputable def nJ(P:Program)(fr:Fr)(op:BinOp)(T:TypeId)(x y:Operand):Option V:=match B9 fr x,B9 fr y with
 | some a,some b=>GL P op T a b
 | _,_=>none
noncomputable def QI(P:Program)(fr:Fr)(T:TypeId)(ps:List (Nat×Operand)):Option V:=match CW (B9 fr) ps with
 | some l=>CR P T l
 | none=>none
noncomputable def MA(P:Program)(fr:Fr)(T:TypeId)(n:Nat)(ps:List (Nat×Operand)):Option V:=match CW (B9 fr) ps with
 | some l=>BZ P T n l
 | none=>none
noncomputable def AGS(P:Program)(o:Oper)(fr:Fr)(s:St):Option V:=match o.op with
 | .move x=>B9 fr x
 | .assign x=>B9 fr x
 | .load T x=>K4 P fr s T x
 | .fieldAddr T x f=>xFA P fr T x f
 | .binOp op T x y _=>nJ P fr op T x y
 | .pick c a b=>jH fr c a b
 | .build T ps=>QI P fr T ps.toList
 | .buildSlice T n ps=>MA P fr T n ps.toList
 | _=>H0 P o s (B9 fr)
theorem O1{o:Oper}{v:V}(h:AGS P o fr s=some v):E6 P true o fr s=some v:=by
 unfold AGS at h
 unfold E6
 split at h <;> rename_i ho
 ·simp only[ho,H0,← EY]; exact h
 ·simp only[ho,H0,← EY]; exact h
 ·unfold K4 at h
  split at h
  ·rename_i p e1
   split at h
   ·rename_i cs e2
    simp only[ho,H0,← EY,e1,e2,Option.bind_some]; exact h
   ·cases h
  ·cases h
 ·unfold xFA at h
  split at h
  ·rename_i p e1
   simp only[ho,H0,← EY,e1,Option.bind_some]; exact h
  ·cases h
 ·unfold nJ at h
  split at h
  ·rename_i a b e1 e2
   simp only[ho,H0,← EY,e1,e2,Option.bind_some]; exact h
  ·cases h
 ·unfold jH at h
  simp only[AN4]at h
  split at h
  ·rename_i c ca a cb b e1 e2 e3
   rw[DQ]at e1
   simp only[ho,e1,e2,e3]
   cases c with
   | true =>
    cases ca with
    | false=>cases h
    | true=>cases h; simp
   | false =>
    cases cb with
    | false=>cases h
    | true=>cases h; simp
  ·cases h
 ·unfold QI at h
  split at h
  ·rename_i l e1
   simp only[ho,← EY,e1,Option.bind_some]; exact h
  ·cases h
 ·unfold MA at h
  split at h
  ·rename_i l e1
   simp only[ho,← EY,e1,Option.bind_some]; exact h
  ·cases h
 ·rw[EY]at h
  split
  ·rename_i ho'; rw[H0,ho']at h; cases h
  ·rename_i ho'; rw[H0,ho']at h; cases h
  ·rename_i ho'; rw[H0,ho']at h; cases h
  ·exact h
theorem I5{α:Type}{b:Bool}{x y:α}(h:(Bool.rec none (some x) b:Option α)=some y):b=true∧x=y:=by
 cases b with
 | false=>cases h
 | true=>exact⟨rfl,Option.some.inj h⟩
theorem D6{α:Type}{b:Bool}{x:Option α}{y:α}(h:(Bool.rec none x b:Option α)=some y):b=true∧x=some y:=by
 cases b with
 | false=>cases h
 | true=>exact⟨rfl,h⟩
theorem S0{st:XS}(h:Bd st){v:V}{ys:List (List V)}(hv:TL st.c v)(he:elemsOf st.s v=some ys)(σ σ':Nat→Nat)(δ:Nat)(ha:AU st.c σ σ'):ys.map (List.map (V.ren σ δ))=ys.map (List.map (V.ren σ' δ)):=by
 have h1:=F8 (σ:=σ) (pre:=List.replicate δ []) he
 have h2:=F8 (σ:=σ') (pre:=List.replicate δ []) he
 rw[h.s σ σ' _ ha,hv σ σ' _ ha,h2]at h1
 have:=Option.some.inj h1
 rw[List.length_replicate]at this
 exact this.symm
theorem E8(ys:List (List V))(m:Nat):(ys.map (List.map (V.ren σ δ))).all (fun y=>y.length == m)=ys.all (fun y=>y.length == m):=by
 rw[List.all_map]
 congr 1
 funext y
 simp
noncomputable def jI(P:Program)(d:Tmp)(e:TypeId)(ys:List (List V))(st:XS)(xv:V):Option (XS×Nat×Nat):=match xv with
 | .vec l q γ n=>match P8 n ys (st.s.get l q)with
  | some (γ',.vec W es)=>Bool.rec none (some (⟨st.c+1,(d,true,.vec l q st.c (es++ys).length) :: st.fr,st.s.put l q st.c (.vec e (es++ys))⟩,l,q))
    (Nat.beq γ' γ&&Nat.beq W e&&Nat.beq n es.length&&es.all (fun y=>y.length == P.cellsOf e)&&B4 P e es.length ys)
  | _=>none
 | _=>none
noncomputable def xAppG(el:St→V→Option (List (List V)))(P:Program)(d:Option Tmp)(args:List Operand)(Ts:List TypeId)(st:XS):Option (XS×Nat×Nat):=match args,Ts,d with
 | [x,y],[T,U],some d=>Bool.rec none (match BI P T with
  | some (none,e)=>match B9 st.fr x,B9 st.fr y with
   | some xv,some yv=>match el st.s yv with
    | some ys=>match HQ xv ys with
     | some es=>Bool.rec none (some (⟨st.c+1,(d,true,.vec st.s.up.length d st.c (es++ys).length) :: st.fr,st.s.put st.s.up.length d st.c (.vec e (es++ys))⟩,st.s.up.length,d)) (es.all (fun y=>y.length == P.cellsOf e)&&B4 P e es.length ys)
     | none=>jI P d e ys st xv
    | none=>none
   | _,_=>none
  | _=>none) (Nat.beq T U)
 | _,_,_=>none
theorem AA0(v:V):VQ (v.ren σ δ)=VQ v:=by
 cases v with
 | list f es=>cases f <;> cases es <;> simp[VQ]
 | _=>simp[VQ]
theorem jJ(v:V)(ys:List (List V)):HQ (v.ren σ δ) (ys.map (List.map (V.ren σ δ)))=(HQ v ys).map (List.map (List.map (V.ren σ δ))):=by
 cases v with
 | list f es=>cases f <;> cases es <;> cases ys <;> simp[HQ]
 | _=>simp[HQ]
theorem nK{v:V}{es ys:List (List V)}(h:HQ v ys=some es):elemsOf s v=some es:=by
 unfold HQ at h
 split at h <;> cases h <;> rfl
theorem bW{e:TypeId}{n:Nat}(ys:List (List V)):B4 P e n (ys.map (List.map (V.ren σ δ)))=B4 P e n ys:=by
 unfold B4
 rw[E8,List.length_map]
theorem AA1{n:Nat}(ys es:List (List V)):dU n (ys.map (List.map (V.ren σ δ))) (es.map (List.map (V.ren σ δ)))=(dU n ys es).map (List.map (V.ren σ δ)):=by
 cases ys with
 | nil=>rfl
 | cons y ys =>
  show(if _ then _ else _)=(if _ then _ else _:List (List V)).map _
  have e:(es.map (List.map (V.ren σ δ))).all (fun x=>x.length == (y.map (V.ren σ δ)).length)=es.all (fun x=>x.length == y.length):=by
   rw[List.all_map,List.length_map]
   congr 1
   funext x
   simp
  rw[e]
  split
  ·rw[List.map_take]
  ·rfl
theorem jK{n γ:Nat}{ys es:List (List V)}{U:TypeId}{o:Option (Nat×AX)}(h:P8 n ys o=some (γ,.vec U es)):P8 n (ys.map (List.map (V.ren σ δ))) (o.map fun p=>(σ p.1,p.2.ren σ δ))=some (σ γ,.vec U (es.map (List.map (V.ren σ δ)))):=by
 obtain⟨es0,rfl,rfl⟩:=OU h
 show some (σ γ,AX.vec U (dU n _ _))=_
 rw[AA1]
theorem YY{el:St→V→Option (List (List V))}(hel0:∀s v es,el s v=some es→elemsOf s v=some es){o:Oper}{args:Array Operand}{Ts:Array TypeId}{st st':XS}{l q:Nat}(h:Bd st)(ho:o.op=.call { callee:=.builtin .append,args:=args,argTypes:=Ts })
  (hx:xAppG el P o.dst args.toList Ts.toList st=some (st',l,q)):∃d r,o.dst=some d∧eF r=true∧st'=⟨st.c+1,(d,true,GO r l q st.c) :: st.fr,st.s.put l q st.c r⟩∧(∀σ σ' δ,AU st.c σ σ'→r.ren σ δ=r.ren σ' δ) ∧
   (∀(σ:Nat→Nat) (pre:List AB) (k:Fr→St→Prop),(∀γ,k ((st.fr.ren σ pre.length).put d true (GO (r.ren σ pre.length) (l+pre.length) q γ)) ((st.s.emb σ pre).put (l+pre.length) q γ (r.ren σ pre.length)))→D4 P true o (st.fr.ren σ pre.length) (st.s.emb σ pre) k) ∧
   (∀(W:AM) (σ:Nat→Nat) (pre:List AB),(∀p∈JK (B9 st.fr) args.toList,p∉W)→VS P o (st.fr.ren σ pre.length) ((st.s.emb σ pre).hide (Z3 pre.length W)) (st.s.emb σ pre)=some (l+pre.length,q,r.ren σ pre.length)):=by
 unfold xAppG at hx
 split at hx
 ·rename_i x y T U d ha hT hd
  obtain⟨hTU,hx2⟩:=D6 hx
  clear hx
  have hTU:=Nat.eq_of_beq_eq_true hTU
  subst hTU
  have hx:=hx2
  clear hx2
  split at hx
  ·rename_i e hel
   split at hx
   ·rename_i xv yv h1 h2
    split at hx
    ·rename_i ys hys0
     have hys:=hel0 _ _ _ hys0
     have hyb:=S0 h (h.rd h2) hys
     have r1:=h1
     have r2:=h2
     rw[DQ]at r1 r2
     have hys2:∀(W:AM) (σ:Nat→Nat) (pre:List AB),(∀p∈JK (B9 st.fr) args.toList,p∉W)→elemsOf ((st.s.emb σ pre).hide (Z3 pre.length W)) (yv.ren σ pre.length)=some (ys.map (List.map (V.ren σ pre.length))):=fun W σ pre hW=>by
      refine eI (F8 hys) ?_
      rw[ha]at hW
      simp only[JK,h2]at hW
      have:=jG (δ:=pre.length) hW
      rw[← QH (σ:=σ)]at this
      exact this
     cases hn:HQ xv ys with
     | some es =>
      rw[hn]at hx
      obtain⟨hc,he⟩:=I5 hx
      simp only[Prod.mk.injEq]at he
      obtain⟨rfl,rfl,rfl⟩:=he
      simp only[Bool.and_eq_true]at hc
      obtain⟨hce,hc⟩:=hc
      have heb:=S0 h (h.rd h1) (nK hn)
      refine⟨d,.vec e (es++ys),hd,rfl,rfl,fun σ σ' δ hag=>by simp only[AX.ren,List.map_append,hyb σ σ' δ hag,heb σ σ' δ hag],fun σ pre k hk=>?_,fun W σ pre hW=>?_⟩
      ·have hc':=hc
       simp only[B4,Bool.and_eq_true,Nat.blt_eq,Nat.ble_eq]at hc
       obtain⟨⟨⟨⟨c1,c2⟩,c3⟩,c4⟩,c5⟩:=hc
       unfold D4
       simp only[ho,ha,hT,hd,hel,DG,r1,r2,Option.map_some,Option.bind_some,F8 hys,jJ,hn,true_and]
       refine⟨c1,c2,by rw[E8]; exact hce,by rw[E8]; exact c3,by simpa using c4,by simpa using c5,fun γ=>?_⟩
       have:=hk γ
       simp only[GO,AX.ren]at this
       rw[C6,← List.map_append]
       exact this
      ·unfold VS
       simp only[ho,ha,hT,hd,hel,DG,r1,r2,Option.map_some,Option.bind_some,hys2 _ _ _ hW,jJ,hn,if_true,C6,AX.ren]
       rw[if_pos ⟨by rw[E8]; exact hce,by rw[bW,List.length_map]; exact hc⟩,List.map_append]
     | none =>
      rw[hn]at hx
      replace hx:jI P d e ys st xv=some (st',l,q):=hx
      unfold jI at hx
      split at hx
      ·rename_i l0 q0 γ0 n'
       split at hx
       ·rename_i γ' W es hg
        obtain⟨hc,he⟩:=I5 hx
        simp only[Prod.mk.injEq]at he
        obtain⟨rfl,rfl,rfl⟩:=he
        simp only[Bool.and_eq_true]at hc
        obtain⟨⟨⟨⟨c1,c2⟩,c3⟩,c6⟩,c7⟩:=hc
        have c1:=Nat.eq_of_beq_eq_true c1
        have c2:=Nat.eq_of_beq_eq_true c2
        have c3:=Nat.eq_of_beq_eq_true c3
        subst c1; subst c2; subst c3
        have heb:∀σ σ' δ,AU st.c σ σ'→es.map (List.map (V.ren σ δ))=es.map (List.map (V.ren σ' δ)):=fun σ σ' δ ha=>by
         obtain⟨es0,hg0,e0⟩:=OU hg
         have:=L8 h hg0 σ σ' δ ha
         have e1:es0.map (List.map (V.ren σ δ))=es0.map (List.map (V.ren σ' δ)):=by simpa [AX.ren]using this
         rcases TW es.length ys es0 with e2 | ⟨e2,_⟩
         ·rw[e0,e2,e1]
         ·rw[e0,e2,List.map_take,List.map_take,e1]
        refine⟨d,.vec W (es++ys),hd,rfl,rfl,fun σ σ' δ hag=>by simp only[AX.ren,List.map_append,hyb σ σ' δ hag,heb σ σ' δ hag],fun σ pre k hk=>?_,fun W σ pre hW=>?_⟩
        ·simp only[B4,Bool.and_eq_true,Nat.blt_eq,Nat.ble_eq]at c7
         obtain⟨⟨⟨⟨d1,d2⟩,d3⟩,d4⟩,d5⟩:=c7
         have hnn:HQ (V.vec (l0+pre.length) q0 (σ γ') es.length) (ys.map (List.map (V.ren σ pre.length)))=none:=rfl
         unfold D4
         simp only[ho,ha,hT,hd,hel,DG,r1,r2,Option.map_some,Option.bind_some,F8 hys,GV,BV,jK hg,true_and,hnn]
         refine⟨by simp,d1,d2,by rw[E8]; exact c6,by rw[E8]; exact d3,by simpa using d4,by simpa using d5,fun γ=>?_⟩
         have:=hk γ
         simp only[GO,AX.ren,List.map_append,List.length_append,List.length_map]at this ⊢
         exact this
        ·have hnn:HQ (V.vec (l0+pre.length) q0 (σ γ') es.length) (ys.map (List.map (V.ren σ pre.length)))=none:=rfl
         unfold VS
         simp only[ho,ha,hT,hd,hel,DG,r1,r2,Option.map_some,Option.bind_some,hys2 _ _ _ hW,GV,BV,jK hg,hnn,if_true]
         rw[if_pos ⟨trivial,trivial,by simp,by rw[E8]; exact c6,by rw[bW,List.length_map]; exact c7⟩]
         simp only[AX.ren,List.map_append]
       ·cases hx
      ·cases hx
    ·cases hx
   ·cases hx
  ·cases hx
 ·cases hx
theorem YZ{st:XS}(h:Bd st){d l q:Nat}{r:AX}(hp:eF r=true)(hr:∀σ σ' δ,AU st.c σ σ'→r.ren σ δ=r.ren σ' δ):JU st ⟨st.c+1,(d,true,GO r l q st.c) :: st.fr,st.s.put l q st.c r⟩:=by
 have hb:∀σ σ',AU (st.c+1) σ σ'→AU st.c σ σ':=fun σ σ' ha=>ha.mono (Nat.le_succ _)
 refine⟨Nat.le_succ _,⟨fun σ σ' δ ha=>?_,fun σ σ' pre ha=>?_,h.lp.put (UD hp)⟩,St.put_len _ _ _ _ _⟩
 ·show((st.fr.put d true (GO r l q st.c)).ren σ δ)=((st.fr.put d true (GO r l q st.c)).ren σ' δ)
  have e:∀σ:Nat→Nat,(GO r l q st.c).ren σ δ=GO (r.ren σ δ) (l+δ) q (σ st.c):=fun σ=>by cases r <;> simp[GO,AX.ren]
  simp only[GW,e]
  rw[h.f σ σ' δ (hb _ _ ha),ha st.c (Nat.lt_succ_self _),hr σ σ' δ (hb _ _ ha)]
 ·simp only[CM]
  rw[h.s σ σ' pre (hb _ _ ha),hr σ σ' _ (hb _ _ ha),ha st.c (Nat.lt_succ_self _)]
theorem jL(r:AX)(l q γ:Nat):(GO r l q γ).ren σ δ=GO (r.ren σ δ) (l+δ) q (σ γ):=by cases r <;> simp[GO,AX.ren]
theorem nL{st:XS}(h:Bd st){d l q:Nat}{r:AX}(hr:∀σ σ' δ,AU st.c σ σ'→r.ren σ δ=r.ren σ' δ){σ:Nat→Nat}{pre:List AB}{k:Fr→St→Prop}
  (hk:∀σ',AU st.c σ σ'→k (Fr.ren σ' pre.length ((d,true,GO r l q st.c) :: st.fr)) ((st.s.put l q st.c r).emb σ' pre)) (γ:Nat):k ((st.fr.ren σ pre.length).put d true (GO (r.ren σ pre.length) (l+pre.length) q γ)) ((st.s.emb σ pre).put (l+pre.length) q γ (r.ren σ pre.length)):=by
 have:=hk (fun i=>if i=st.c then γ else σ i) (AU.upd _ _ _)
 have hag:=AU.upd st.c γ σ
 change k ((st.fr.put d true _).ren _ _) _ at this
 simp only[GW,jL,if_true,CM]at this
 rw[← h.f _ _ _ hag,← h.s _ _ _ hag,← hr _ _ _ hag]at this
 exact this
theorem qZ(r:Mk)(l k γ:Nat):(r.val l k γ).ren σ δ=Mk.val ⟨r.res.ren σ δ,r.t⟩ (l+δ) k (σ γ):=by
 obtain⟨r,t⟩:=r
 cases t with
 | none=>exact jL _ _ _ _
 | some t=>exact LZ t
theorem uZ{st:XS}(h:Bd st){d l q:Nat}{r:Mk}(hp:eF r.res=true)(hr:∀σ σ' δ,AU st.c σ σ'→r.res.ren σ δ=r.res.ren σ' δ):JU st ⟨st.c+1,(d,true,r.val l q st.c) :: st.fr,st.s.put l q st.c r.res⟩:=by
 have hb:∀σ σ',AU (st.c+1) σ σ'→AU st.c σ σ':=fun σ σ' ha=>ha.mono (Nat.le_succ _)
 refine⟨Nat.le_succ _,⟨fun σ σ' δ ha=>?_,fun σ σ' pre ha=>?_,h.lp.put (UD hp)⟩,St.put_len _ _ _ _ _⟩
 ·show((st.fr.put d true (r.val l q st.c)).ren σ δ)=((st.fr.put d true (r.val l q st.c)).ren σ' δ)
  simp only[GW,qZ]
  rw[h.f σ σ' δ (hb _ _ ha),ha st.c (Nat.lt_succ_self _),hr σ σ' δ (hb _ _ ha)]
 ·simp only[CM]
  rw[h.s σ σ' pre (hb _ _ ha),hr σ σ' _ (hb _ _ ha),ha st.c (Nat.lt_succ_self _)]
theorem AGT{st:XS}(h:Bd st){d l q:Nat}{r:Mk}(hr:∀σ δ,r.res.ren σ δ=r.res){σ:Nat→Nat}{pre:List AB}{k:Fr→St→Prop}
  (hk:∀σ',AU st.c σ σ'→k (Fr.ren σ' pre.length ((d,true,r.val l q st.c) :: st.fr)) ((st.s.put l q st.c r.res).emb σ' pre)) (γ:Nat):k ((st.fr.ren σ pre.length).put d true (r.val (l+pre.length) q γ)) ((st.s.emb σ pre).put (l+pre.length) q γ r.res):=by
 have:=hk (fun i=>if i=st.c then γ else σ i) (AU.upd _ _ _)
 have hag:=AU.upd st.c γ σ
 change k ((st.fr.put d true _).ren _ _) _ at this
 simp only[GW,qZ,if_true,CM,hr]at this
 rw[← h.f _ _ _ hag,← h.s _ _ _ hag]at this
 exact this
noncomputable def xAppend(P:Program)(d:Option Tmp)(args:List Operand)(Ts:List TypeId)(st:XS):Option XS:=match xAppG elemsOf P d args Ts st with
 | some (st',_,_)=>some st'
 | none=>none
theorem nM{o:Oper}{args:Array Operand}{Ts:Array TypeId}{st st':XS}(h:Bd st)(ho:o.op=.call { callee:=.builtin .append,args:=args,argTypes:=Ts })(hx:xAppend P o.dst args.toList Ts.toList st=some st'):StepX P o st st':=by
 unfold xAppend at hx
 split at hx
 ·rename_i st1 l q e1
  cases hx
  obtain⟨d,r,hd,hp,rfl,hr,hs,_⟩:=YY (fun _ _ _ h=>h) h ho e1
  exact⟨YZ h hp hr,fun σ pre k hk=>hs σ pre k fun γ=>nL h hr hk γ⟩
 ·cases hx
noncomputable def rA(P:Program)(d:Option Tmp)(args:List Operand)(Ts:List TypeId)(st:XS):Option XS:=match args,Ts with
 | [x,y],[T,_]=>match BI P T,B9 st.fr x,B9 st.fr y with
  | some (none,e),some (.vtl l q γ i n),some yv=>match st.s.get l q,elemsOf st.s yv with
   | some (γ',.box cs),some ys=>Bool.rec none (some { st with fr:=putD st.fr d true (.int .i64 ((min ys.length n:Nat):Int)),s:=st.s.put l q γ (.box (A0 cs i (ys.take n).flatten)) }) (Nat.beq γ' γ&&Nat.beq (P.cellsOf e) 1&&ys.all (fun y=>y.length == 1)&&Nat.ble (i+n) cs.length&&Nat.blt γ st.c)
   | _,_=>none
  | _,_,_=>none
 | _,_=>none
theorem AA2{o:Oper}{args:Array Operand}{Ts:Array TypeId}{st st':XS}(h:Bd st)(ho:o.op=.call { callee:=.builtin .copy,args:=args,argTypes:=Ts })(hx:rA P o.dst args.toList Ts.toList st=some st'):StepX P o st st':=by
 unfold rA at hx
 split at hx
 ·rename_i x y T U ha hT
  split at hx
  ·rename_i e l q γ i n yv hel h1 h2
   split at hx
   ·rename_i γ' cs ys hg hys
    cases hb:(Nat.beq γ' γ&&Nat.beq (P.cellsOf e) 1&&ys.all (fun y=>y.length == 1)&&Nat.ble (i+n) cs.length&&Nat.blt γ st.c)with
    | false=>rw[hb]at hx; cases hx
    | true =>
     rw[hb]at hx
     cases hx
     simp only[Bool.and_eq_true,Nat.blt_eq,Nat.ble_eq]at hb
     obtain⟨⟨⟨⟨c1,c2⟩,c3⟩,c4⟩,c5⟩:=hb
     have c1:=Nat.eq_of_beq_eq_true c1
     have c2:=Nat.eq_of_beq_eq_true c2
     subst c1
     have hB:Bd { st with s:=st.s.put l q γ' (.box (A0 cs i (ys.take n).flatten)) }:=h.putS c5 fun σ σ' δ ha=>by
      have hr:=L8 h hg σ σ' δ ha
      have he:=S0 h (h.rd h2) hys σ σ' δ ha
      simp only[AX.ren,AX.box.injEq]at hr ⊢
      rw[← C0,← C0,hr,List.map_flatten,List.map_flatten,List.map_take,List.map_take,he]
     refine⟨⟨Nat.le_refl _,hB.putF (fun _ _ _ _=>rfl),St.put_len _ _ _ _ _⟩,fun σ pre k hk=>?_⟩
     have:=hk σ (AU.refl _ _)
     rw[DQ]at h1 h2
     unfold D4
     simp only[ho,ha,hT,hel,DG,h1,h2,Option.map_some,V7,Option.bind_some,F8 hys,BV,hg,AX.ren]
     refine⟨trivial,trivial,c2,?_,by simpa using c4,?_⟩
     ·rw[List.all_map]; exact c3▸(by congr 1; funext x; simp)
     ·simp only[E7,D5,CM,AX.ren,← C0,List.map_flatten,List.map_take]at this
      simpa only[List.length_map]using this
   ·cases hx
  ·cases hx
 ·cases hx
end Go.Pg
namespace Go.Pg
variable {P:Program}{Ω:GP P}{σ σ':Nat→Nat}{δ:Nat}{pre:List AB}{s:St}{fr:Fr}{g:Bool}
def E1{α β:Type}(f:α→Option β):List α→Option (List β)
 | []=>some []
 | x :: l=>match f x with
  | some y=>match E1 f l with
   | some r=>some (y :: r)
   | none=>none
  | none=>none
theorem J9{α β:Type}(f:α→Option β):∀(l:List α),E1 f l=l.mapM f
 | []=>rfl
 | x :: l=>by
  simp only[E1,List.mapM_cons,← J9 f l]
  cases f x with
  | none=>rfl
  | some y=>cases E1 f l <;> rfl
abbrev CF:=FuncId→List V→XS→Option (V×XS)
abbrev CY:=Nat→Nat→Nat→List V→XS→Option (V×XS)
abbrev CF0:=FuncId→List V→Option V
abbrev CFO:=FuncId→List V→Tmp→Option Mk
structure XE where
 cf:CF
 cy:CY
 c0:CF0
 co:CFO
 lit:Tmp→Bool
def bX(P:Program)(cf:CF):Prop:=∀f args st r st',cf f args st=some (r,st')→Bd st→(∀v∈args,TL st.c v)→JU st st'∧TL st'.c r∧st'.fr=st.fr ∧
 ∀(σ:Nat→Nat) (pre:List AB) (K:V→St→Prop),(∀σ',AU st.c σ σ'→K (r.ren σ' pre.length) (st'.s.emb σ' pre))→E4 P f (args.map (V.ren σ pre.length)) (st.s.emb σ pre) K
def AN6(P:Program)(cy:CY):Prop:=∀l q γ vs st r st',cy l q γ vs st=some (r,st')→Bd st→(∀v∈vs,TL st.c v)→JU st st'∧TL st'.c r∧st'.fr=st.fr ∧
 ∃fr0 ps asg body N,st.s.get l q=some (γ,.loop fr0 ps asg body N .ready)∧∀(σ:Nat→Nat) (pre:List AB) (k:V→St→Prop),(∀σ',AU st.c σ σ'→k (r.ren σ' pre.length) (st'.s.emb σ' pre)) →
  XW P (l+pre.length) q (σ γ) (Fr.ren σ pre.length fr0) ps asg body N (vs.map (V.ren σ pre.length)) (st.s.emb σ pre) k
def GY(P:Program)(cf:CF0):Prop:=∀f args r,cf f args=some r→(∀s,E4 P f args s fun r' s'=>r'=r∧s'=s)∧(∀v∈args,∀σ δ,v.ren σ δ=v)∧(∀σ δ,r.ren σ δ=r)
def eJ(P:Program)(co:CFO):Prop:=∀f args d r,co f args d=some r→(∀(s:St),E4 P f args s fun v s'=>∃γ,v=r.val s.up.length d γ∧s'=s.put s.up.length d γ r.res) ∧
 (∀v∈args,∀σ δ,v.ren σ δ=v)∧(∀σ δ,r.res.ren σ δ=r.res)∧eF r.res=true
structure JL(P:Program)(E:XE):Prop where
 cf:bX P E.cf
 cy:AN6 P E.cy
 c0:GY P E.c0
 co:eJ P E.co
def JL.tab{E:XE}(h:JL P E)(own:Oper→Bool):GP P:=⟨own,E.co,fun f args d r hc=>(h.co f args d r hc).1⟩
noncomputable def nN(cy:CY)(d:Option Tmp)(l q γ:Nat)(args:List Operand)(st:XS):Option XS:=match E1 (B9 st.fr) args with
 | some vs=>match cy l q γ vs st with
  | some (r,st')=>some { st' with fr:=putD st'.fr d true r }
  | none=>none
 | none=>none
noncomputable def S1(cf:CF)(cy:CY)(d:Option Tmp)(f:Operand)(args:List Operand)(st:XS):Option XS:=match B9 st.fr f with
 | some (.fn fid first cap)=>match E1 (B9 st.fr) args with
  | some vs=>match cf fid ((first++vs++cap).map weakV) st with
   | some (r,st')=>some { st' with fr:=putD st'.fr d true r }
   | none=>none
  | none=>none
 | some (.yld l q γ)=>nN cy d l q γ args st
 | _=>none
noncomputable def GZ(co:CFO)(d:Option Tmp)(f:Operand)(args:List Operand)(st:XS):Option XS:=match d,B9 st.fr f with
 | some d,some (.fn fid first cap)=>match E1 (B9 st.fr) args with
  | some vs=>match co fid ((first++vs++cap).map weakV) d with
   | some r=>some ⟨st.c+1,(d,true,r.val st.s.up.length d st.c) :: st.fr,st.s.put st.s.up.length d st.c r.res⟩
   | none=>none
  | none=>none
 | _,_=>none
noncomputable def aK(P:Program)(o:Oper)(st:XS):Option XS:=match AGS P o st.fr st.s with
 | some v=>some { st with fr:=putD st.fr o.dst true v }
 | none=>none
noncomputable def Y0(E:XE)(own:Bool)(d:Option Tmp)(f:Operand)(args:List Operand)(st:XS):Option XS:=Bool.rec (S1 E.cf E.cy d f args st) (match GZ E.co d f args st with
 | some st'=>some st'
 | none=>S1 E.cf E.cy d f args st) own
noncomputable def A03(P:Program)(E:XE)(own:Oper→Bool)(o:Oper)(c:Call)(st:XS):Option XS:=match c.callee with
 | .value f=>Y0 E (own o) o.dst f c.args.toList st
 | .builtin .append=>xAppend P o.dst c.args.toList c.argTypes.toList st
 | .builtin .clear=>eH P o.dst c.args.toList c.argTypes.toList st
 | .builtin .copy=>rA P o.dst c.args.toList c.argTypes.toList st
 | _=>aK P o st
noncomputable def PW(P:Program)(E:XE)(own:Oper→Bool)(o:Oper)(st:XS):Option XS:=match o.op with
 | .alloc T=>NX P o.dst T st
 | .box _ x=>jD o.dst x st
 | .makeMap _ r=>uV o.dst r st
 | .makeSlice T x y=>VG P o.dst T x y st
 | .store T x y=>II P o.dst T x y st
 | .mapUpdate T x i y=>uW P o.dst T x i y st
 | .call c=>A03 P E own o c st
 | _=>aK P o st
theorem rC{o:Oper}{st st':XS}(h:Bd st)(hx:aK P o st=some st'):StepX P o st st':=by
 unfold aK at hx
 split at hx
 ·rename_i v hv; cases hx; exact uU h (O1 hv)
 ·cases hx
theorem V8{st:XS}(h:Bd st):∀{args:List Operand} {vs:List V},E1 (B9 st.fr) args=some vs→∀v∈vs,TL st.c v
 | [],vs,e,v,hv=>by cases e; cases hv
 | x :: l,vs,e,v,hv=>by
  simp only[E1]at e
  split at e
  ·rename_i y hy
   split at e
   ·rename_i r hr
    cases e
    rcases List.mem_cons.1 hv with rfl | hv
    ·exact h.rd hy
    ·exact V8 h hr v hv
   ·cases e
  ·cases e
theorem eK{c:Nat}{v:V}(h:TL c v):TL c (weakV v):=fun σ σ' δ ha=>by rw[← T8,← T8,h σ σ' δ ha]
theorem AA3{c:Nat}{f:FuncId}{xs ys:List V}(h:TL c (.fn f xs ys)):(∀v∈xs,TL c v)∧(∀v∈ys,TL c v):=by
 refine⟨fun v hv σ σ' δ ha=>?_,fun v hv σ σ' δ ha=>?_⟩
 ·have:=h σ σ' δ ha
  simp only[NU,V.fn.injEq]at this
  exact List.map_inj_left.1 this.2.1 v hv
 ·have:=h σ σ' δ ha
  simp only[NU,V.fn.injEq]at this
  exact List.map_inj_left.1 this.2.2 v hv
theorem G4(l:List V):(l.map weakV).map (V.ren σ δ)=(l.map (V.ren σ δ)).map weakV:=by
 simp only[List.map_map]
 congr 1
 funext v
 exact(T8 v).symm
theorem bY{E:XE}(hE:JL P E){own:Oper→Bool}{o:Oper}(hown:own o=true){f:Operand}{args:Array Operand}{Ts:Array TypeId}{st st':XS}(h:Bd st)(ho:o.op=.call { callee:=.value f,args:=args,argTypes:=Ts })(hx:GZ E.co o.dst f args.toList st=some st'):eG P (hE.tab own) o st st':=by
 unfold GZ at hx
 split at hx
 ·rename_i d fid first cap hd hf
  split at hx
  ·rename_i vs hvs
   split at hx
   ·rename_i r hc
    cases hx
    obtain⟨_,hcl,hr,hpl⟩:=hE.co _ _ _ _ hc
    refine⟨uZ h hpl (fun σ σ' δ _=>by rw[hr,hr]),d,hd,fun σ pre k hk=>⟨r,?_,fun γ=>?_⟩⟩
    ·have hcd:H9 true o (st.fr.ren σ pre.length)=some (fid,(first++vs++cap).map weakV):=by
      rw[J9,EY]at hvs
      rw[DQ]at hf
      simp only[H9,ho,IX,hf,Option.map_some,NU,IA hvs,Option.some.injEq,Prod.mk.injEq,true_and]
      have e:((first++vs++cap).map weakV).map (V.ren σ pre.length)=(first++vs++cap).map weakV:=by
       conv=>rhs; rw[← List.map_id ((first++vs++cap).map weakV)]
       exact List.map_congr_left fun v hv=>hcl v hv σ _
      rw[G4]at e
      simpa only[List.map_append]using e
     simp only[PM,ho,JL.tab,hown,if_true,hcd,hd,hc]
    ·have:=AGT h (d:=d) hr hk γ
     rw[← C6]at this
     exact this
   ·cases hx
  ·cases hx
 ·cases hx
theorem jM{cf:CF}{cy:CY}(hcf:bX P cf)(hcy:AN6 P cy){o:Oper}{f:Operand}{args:Array Operand}{Ts:Array TypeId}{st st':XS}(h:Bd st)(ho:o.op=.call { callee:=.value f,args:=args,argTypes:=Ts })(hx:S1 cf cy o.dst f args.toList st=some st'):StepX P o st st':=by
 unfold S1 at hx
 split at hx
 ·rename_i fid first cap hf
  split at hx
  ·rename_i vs hvs
   split at hx
   ·rename_i r st1 hr
    cases hx
    have b1:=AA3 (h.rd hf)
    have b2:=V8 h hvs
    obtain⟨hE,hrb,hfr,hA⟩:=hcf _ _ _ _ _ hr h (fun v hv=>by
     obtain⟨u,hu,rfl⟩:=List.mem_map.1 hv
     refine eK ?_
     rcases List.mem_append.1 hu with hu | hu
     ·rcases List.mem_append.1 hu with hu | hu
      ·exact b1.1 u hu
      ·exact b2 u hu
     ·exact b1.2 u hu)
    refine⟨⟨hE.c,hE.bd.putF hrb,hE.n⟩,fun σ pre k hk=>?_⟩
    rw[J9,EY]at hvs
    rw[DQ]at hf
    unfold D4
    simp only[ho,IX,hf,Option.map_some,NU,IA hvs]
    refine .inl ⟨rfl,?_⟩
    have:=hA σ pre (fun r s'=>k (putD (st.fr.ren σ pre.length) o.dst true r) s') fun σ' ha=>?_
    ·rw[G4]at this
     simpa only[List.map_append]using this
    ·have h1:=hk σ' ha
     rw[E7,hfr,← h.f σ σ' _ ha]at h1
     exact h1
   ·cases hx
  ·cases hx
 ·rename_i l q γ hf
  unfold nN at hx
  split at hx
  ·rename_i vs hvs
   split at hx
   ·rename_i r st1 hr
    cases hx
    obtain⟨hE,hrb,hfr,fr0,ps,asg,body,N,hget,hA⟩:=hcy _ _ _ _ _ _ _ hr h (V8 h hvs)
    refine⟨⟨hE.c,hE.bd.putF hrb,hE.n⟩,fun σ pre k hk=>?_⟩
    rw[J9,EY]at hvs
    rw[DQ]at hf
    unfold D4
    simp only[ho,IX,hf,Option.map_some,eC,IA hvs,BV,hget,AX.ren]
    refine⟨trivial,trivial,?_⟩
    refine hA σ pre (fun r s'=>k (putD (st.fr.ren σ pre.length) o.dst true r) s') fun σ' ha=>?_
    have h1:=hk σ' ha
    rw[E7,hfr,← h.f σ σ' _ ha]at h1
    exact h1
   ·cases hx
  ·cases hx
 ·cases hx
theorem jN{E:XE}(hE:JL P E){own:Oper→Bool}{o:Oper}{st st':XS}(h:Bd st)(hx:PW P E own o st=some st'):StepX P o st st':=by
 unfold PW at hx
 split at hx
 ·rename_i T ho; exact(bU (Ω:=GP.nothing P) h ho hx).step
 ·rename_i T x ho; exact(qX (Ω:=GP.nothing P) h ho hx).step
 ·rename_i T r ho; exact(qY (Ω:=GP.nothing P) h ho hx).step
 ·rename_i T x y ho; exact(jE (Ω:=GP.nothing P) h ho hx).step
 ·rename_i T x y ho; exact bV h ho hx
 ·rename_i T x i y ho; exact AGR h ho hx
 ·rename_i c ho
  obtain⟨callee,args,Ts⟩:=c
  unfold A03 at hx
  split at hx
  ·rename_i f hc
   have hc:callee=.value f:=hc
   subst hc
   unfold Y0 at hx
   cases hown:own o with
   | false=>rw[hown]at hx; exact jM hE.cf hE.cy h ho hx
   | true =>
    rw[hown]at hx
    have hx:(match GZ E.co o.dst f args.toList st with
     | some st'=>some st'
     | none=>S1 E.cf E.cy o.dst f args.toList st)=some st':=hx
    split at hx
    ·rename_i st1 h1; cases hx; exact(bY hE hown h ho h1).step
    ·exact jM hE.cf hE.cy h ho hx
  ·rename_i hc
   have hc:callee=.builtin .append:=hc
   subst hc
   exact nM h ho hx
  ·rename_i hc
   have hc:callee=.builtin .clear:=hc
   subst hc
   exact uX h ho hx
  ·rename_i hc
   have hc:callee=.builtin .copy:=hc
   subst hc
   exact AA2 h ho hx
  ·exact rC h hx
 ·exact rC h hx
noncomputable def gdX(fr:Fr)(gd:Option (Tmp×Bool)):Option Bool:=match gd with
 | none=>some true
 | some (d,want)=>match BT fr d with
  | some (c,.bool b)=>some (c&&(b == want))
  | _=>none
theorem nO(gd:Option (Tmp×Bool)):gdX fr gd=PK fr gd:=by
 cases gd with
 | none=>rfl
 | some p=>simp only[gdX,PK,EX]; rfl
theorem MB{gd:Option (Tmp×Bool)}(h:PK fr gd=some g):PK (fr.ren σ δ) gd=some g:=by
 cases gd with
 | none=>exact h
 | some p =>
  simp only[PK]at h ⊢
  split at h
  ·rename_i c b e
   simp only[Fr.get_ren,e,Option.map_some,K1]
   exact h
  ·cases h
noncomputable def HE(d:Option Tmp)(st:XS):XS:={ st with fr:=putD st.fr d false (.bool false) }
noncomputable def AA4(P:Program)(lit:Tmp→Bool)(o:Oper)(st:XS):Option XS:=match o.op,o.dst with
 | .buildSlice T _ _,some d=>Bool.rec none (match BI P T,AGS P o st.fr st.s with
  | some (none,e),some (.list true (x :: es))=>Bool.rec none (some ⟨st.c+1,(d,true,GO (.vec e (x :: es)) st.s.up.length d st.c) :: st.fr,st.s.put st.s.up.length d st.c (.vec e (x :: es))⟩) (Nat.ble (x :: es).length maxLen)
  | _,_=>none) (lit d)
 | _,_=>none
theorem AGV{lit:Tmp→Bool}{o:Oper}{st st':XS}(h:Bd st)(hx:AA4 P lit o st=some st'):JU st st' ∧
  ∀(σ:Nat→Nat) (pre:List AB) (k:Fr→St→Prop),(∀σ',AU st.c σ σ'→k (st'.fr.ren σ' pre.length) (st'.s.emb σ' pre))→A0V P true o (st.fr.ren σ pre.length) (st.s.emb σ pre) k:=by
 unfold AA4 at hx
 split at hx
 ·rename_i T len parts d ho hd
  obtain⟨_,hx⟩:=D6 hx
  split at hx
  ·rename_i e x es hel hv
   obtain⟨hc,he⟩:=I5 hx
   cases he
   have hv:=O1 hv
   have hb:=S0 h (h.val hv) (ys:=x :: es) rfl
   refine⟨YZ h rfl fun σ σ' δ ha=>by simp only[AX.ren,hb σ σ' δ ha],fun σ pre k hk=>?_⟩
   have hv':=IB (σ:=σ) (pre:=pre) hv
   unfold E6 at hv'
   simp only[ho]at hv'
   obtain⟨ps,h1,h2⟩:=Option.bind_eq_some_iff.1 hv'
   rw[EG]at h2
   refine⟨T,len,parts,d,e,_,ps,ho,rfl,hd,hel,h1,h2,by simp,by simpa [Nat.ble_eq]using hc,fun γ=>?_⟩
   have:=nL h (d:=d) (r:=.vec e (x :: es)) (fun σ σ' δ ha=>by simp only[AX.ren,hb σ σ' δ ha]) hk γ
   rw[C6]
   simpa only[GO,AX.ren]using this
  ·cases hx
 ·cases hx
def AGW(all:List Oper)(t:Tmp):Bool:=all.any fun p=>match p.op,p.dst with
 | .call { callee:=.builtin .append,.. },some d=>Nat.beq d t
 | _,_=>false
noncomputable def MC(all:List Oper)(st:XS):List Operand→Option XS
 | []=>none
 | x :: r=>match x with
  | .tmp t=>Bool.rec (MC all st r) (match BT st.fr t with
   | some (true,.vec l q γ n)=>match st.s.get l q with
    | some (γ',.vec _ es)=>Bool.rec none (some ⟨st.c,(t,true,.list false (es.take n)) :: st.fr,st.s.put l q γ .dead⟩) (Nat.beq γ' γ&&Nat.ble n es.length&&Nat.blt γ st.c)
    | _=>none
   | _=>none) (AGW all t)
  | _=>MC all st r
noncomputable def AA5(all:List Oper)(o:Oper)(st:XS):Option XS:=match o.op with
 | .call c=>match c.callee with
  | .value _=>MC all st c.args.toList
  | _=>none
 | _=>none
theorem UE{all:List Oper}{st st1:XS}(h:Bd st):∀{xs:List Operand},MC all st xs=some st1→JU st st1 ∧
  ∀(o:Oper) (σ:Nat→Nat) (pre:List AB) (k:Fr→St→Prop),D4 P true o (st1.fr.ren σ pre.length) (st1.s.emb σ pre) k→AJ1 P true o (st.fr.ren σ pre.length) (st.s.emb σ pre) k
 | [],hx=>by cases hx
 | x :: r,hx=>by
  unfold MC at hx
  split at hx
  ·rename_i t
   cases hA:AGW all t with
   | false=>rw[hA]at hx; exact UE h hx
   | true =>
    rw[hA]at hx
    have hx:(match BT st.fr t with
     | some (true,.vec l q γ n)=>match st.s.get l q with
      | some (γ',.vec _ es)=>Bool.rec none (some ⟨st.c,(t,true,.list false (es.take n)) :: st.fr,st.s.put l q γ .dead⟩) (Nat.beq γ' γ&&Nat.ble n es.length&&Nat.blt γ st.c)
      | _=>none
     | _=>none)=some st1:=hx
    split at hx
    ·rename_i l q γ n hg
     split at hx
     ·rename_i γ' T es hs
      obtain⟨hc,he⟩:=I5 hx
      simp only[Bool.and_eq_true]at hc
      obtain⟨⟨h1,h2⟩,h3⟩:=hc
      have h1:=Nat.eq_of_beq_eq_true h1
      have h2:n≤es.length:=by simpa [Nat.ble_eq]using h2
      have h3:γ<st.c:=by simpa [Nat.blt_eq]using h3
      subst h1
      cases he
      rw[EX]at hg
      have hb:∀σ σ' δ,AU st.c σ σ'→es.map (List.map (V.ren σ δ))=es.map (List.map (V.ren σ' δ)):=fun σ σ' δ ha=>by
       have:=L8 h hs σ σ' δ ha
       simpa [AX.ren]using this
      have hv:TL st.c (.list false (es.take n)):=fun σ σ' δ ha=>by
       simp only[EG,List.map_take,hb σ σ' δ ha]
      have hbd:Bd ⟨st.c,(t,true,.list false (es.take n)) :: st.fr,st.s.put l q γ' .dead⟩:=(h.putS (l:=l) (k:=q) (r:=.dead) h3 (fun _ _ _ _=>rfl)).putF (d:=some t) (c:=true) hv
      refine⟨⟨Nat.le_refl _,hbd,St.put_len _ _ _ _ _⟩,fun o σ pre k hk=>⟨t,l+pre.length,q,σ γ',n,T,es.map (List.map (V.ren σ pre.length)),rfl,?_,?_,by simpa using h2,?_⟩⟩
      ·rw[Fr.get_ren,hg]; simp
      ·rw[BV,hs]; simp[AX.ren]
      ·change D4 P true o ((st.fr.put t true _).ren _ _) _ k at hk
       simp only[GW,EG,CM,AX.ren,List.map_take]at hk
       exact hk
     ·cases hx
    ·cases hx
  ·exact UE h hx
noncomputable def opX(P:Program)(E:XE)(all:List Oper)(o:Oper)(st:XS):Option XS:=match gdX st.fr (J7 all o)with
 | some true=>match AA4 P E.lit o st with
  | some st'=>some st'
  | none=>match AA5 all o st with
   | some st1=>PW P E (DK all) o st1
   | none=>PW P E (DK all) o st
 | some false=>some (HE o.dst st)
 | none=>none
theorem bZ{d:Option Tmp}{st:XS}(h:Bd st):JU st (HE d st):=⟨Nat.le_refl _,h.putF (fun σ σ' δ _=>by simp),rfl⟩
theorem AA6{E:XE}(hE:JL P E){all:List Oper}{o:Oper}{st st':XS}(h:Bd st)(hx:opX P E all o st=some st'):JU st st'∧∃g,(∀σ δ,PK (st.fr.ren σ δ) (J7 all o)=some g) ∧
  ∀(σ:Nat→Nat) (pre:List AB) (k:Fr→St→Prop),(∀σ',AU st.c σ σ'→k (st'.fr.ren σ' pre.length) (st'.s.emb σ' pre))→SG P g o (st.fr.ren σ pre.length) (st.s.emb σ pre) k:=by
 unfold opX at hx
 rw[nO]at hx
 split at hx
 ·rename_i hg
  split at hx
  ·rename_i st1 hl
   cases hx
   obtain⟨h1,h2⟩:=AGV h hl
   exact⟨h1,true,fun σ δ=>MB hg,fun σ pre k hk=>.inr (.inr (.inl (h2 σ pre k hk)))⟩
  ·split at hx
   ·rename_i st1 ht
    have ht':∃xs,MC all st xs=some st1:=by
     unfold AA5 at ht
     split at ht
     ·split at ht
      ·exact⟨_,ht⟩
      ·cases ht
     ·cases ht
    obtain⟨xs,ht'⟩:=ht'
    obtain⟨hE1,hs1⟩:=UE (P:=P) h ht'
    obtain⟨h1,h2⟩:=jN hE hE1.bd hx
    exact⟨⟨Nat.le_trans hE1.c h1.c,h1.bd,h1.n.trans hE1.n⟩,true,fun σ δ=>MB hg,fun σ pre k hk=>.inr (.inr (.inr (hs1 o σ pre k (h2 σ pre k fun σ' ha=>hk σ' (ha.mono hE1.c)))))⟩
   ·obtain⟨h1,h2⟩:=jN hE h hx
    exact⟨h1,true,fun σ δ=>MB hg,fun σ pre k hk=>.inl (h2 σ pre k hk)⟩
 ·rename_i hg
  cases hx
  refine⟨bZ h,false,fun σ δ=>MB hg,fun σ pre k hk=>.inr (.inl ⟨rfl,.bool false,?_⟩)⟩
  have:=hk σ (AU.refl _ _)
  simpa only[HE,E7,K1]using this
 ·cases hx
noncomputable def eL(P:Program)(E:XE)(all:List Oper):List Oper→XS→Option XS
 | [],st=>some st
 | o :: r,st=>match opX P E all o st with
  | some st'=>eL P E all r st'
  | none=>none
theorem eM{E:XE}(hEE:JL P E){all:List Oper}:∀{l:List Oper} {st st':XS},Bd st→eL P E all l st=some st'→JU st st' ∧
  ∀(σ:Nat→Nat) (pre:List AB) (K:Fr→St→Prop),(∀σ',AU st.c σ σ'→K (st'.fr.ren σ' pre.length) (st'.s.emb σ' pre))→U6 P (l.map (J7 all)) l (st.fr.ren σ pre.length) (st.s.emb σ pre) K
 | [],st,st',h,hx=>by
  cases hx
  exact⟨⟨Nat.le_refl _,h,rfl⟩,fun σ pre K hk=>hk σ (AU.refl _ _)⟩
 | o :: l,st,st',h,hx=>by
  simp only[eL]at hx
  split at hx
  ·rename_i st1 h1
   obtain⟨hE,g,hg,hs⟩:=AA6 hEE h h1
   obtain⟨hE',hs'⟩:=eM hEE hE.bd hx
   refine⟨⟨Nat.le_trans hE.c hE'.c,hE'.bd,hE'.n.trans hE.n⟩,fun σ pre K hk=>?_⟩
   simp only[List.map_cons,U6,hg]
   exact hs σ pre _ fun σ' ha=>hs' σ' pre K fun σ'' ha'=>hk σ'' (ha.trans ha' hE.c)
  ·cases hx
noncomputable def Y1(cf:CF0)(d:Option Tmp)(f:Operand)(args:List Operand)(st:XS):Option XS:=match B9 st.fr f with
 | some (.fn fid first cap)=>match E1 (B9 st.fr) args with
  | some vs=>match cf fid ((first++vs++cap).map weakV)with
   | some r=>some { st with fr:=putD st.fr d true r }
   | none=>none
  | none=>none
 | _=>none
noncomputable def S2(r:Option XS):Option (XS×AM):=match r with
 | some st=>some (st,[])
 | none=>none
noncomputable def xAppD(P:Program)(d:Option Tmp)(args:List Operand)(Ts:List TypeId)(st:XS):Option (XS×AM):=match xAppG elemsOf P d args Ts st with
 | some (st',l,q)=>some (st',[(l,q),(l,q+HD)])
 | none=>none
noncomputable def AKA(P:Program)(E:XE)(own:Oper→Bool)(o:Oper)(c:Call)(st:XS):Option (XS×AM):=match c.callee with
 | .value f=>Bool.rec (S2 (Y1 E.c0 o.dst f c.args.toList st)) (S2 (GZ E.co o.dst f c.args.toList st)) (own o)
 | .builtin .append=>xAppD P o.dst c.args.toList c.argTypes.toList st
 | _=>S2 (aK P o st)
noncomputable def AA7(P:Program)(d:Option Tmp)(T:TypeId)(x y:Operand)(st:XS):Option (XS×AM):=match II P d T x y st with
 | some st'=>some (st',B6 (Nat.beq (P.cellsOf T) 1) (B9 st.fr x))
 | none=>none
noncomputable def eN(P:Program)(E:XE)(own:Oper→Bool)(o:Oper)(st:XS):Option (XS×AM):=match o.op with
 | .alloc T=>S2 (NX P o.dst T st)
 | .box _ x=>S2 (jD o.dst x st)
 | .makeMap _ r=>S2 (uV o.dst r st)
 | .makeSlice T x y=>S2 (VG P o.dst T x y st)
 | .store T x y=>AA7 P o.dst T x y st
 | .call c=>AKA P E own o c st
 | _=>S2 (aK P o st)
noncomputable def nP(P:Program)(E:XE)(all:List Oper)(o:Oper)(st:XS):Option (XS×AM):=match gdX st.fr (J7 all o)with
 | some true=>eN P E (DK all) o st
 | some false=>Bool.rec (some (HE o.dst st,[])) none (kA (DK all) o||kW o||kP o)
 | none=>none
theorem G5{r:Option XS}{st':XS}{wr:AM}(h:S2 r=some (st',wr)):r=some st'∧wr=[]:=by
 unfold S2 at h
 split at h
 ·cases h; exact⟨rfl,rfl⟩
 ·cases h
def AN7(P:Program)(Ω:GP P)(all:List Oper)(o:Oper)(st st':XS)(wr:AM):Prop:=JU st st' ∧
  ∀(W:AM) (σ:Nat→Nat) (pre:List AB) (k:Fr→St→Prop),(∀p∈DX P o (B9 st.fr),p∉W)→(∀p∈wr,p∈W)→(∀σ',AU st.c σ σ'→k (st'.fr.ren σ' pre.length) (st'.s.emb σ' pre))→IM P Ω (Z3 pre.length W) o (J7 all o) (st.fr.ren σ pre.length) (st.s.emb σ pre) k
theorem AGX{E:XE}(hE:JL P E){all:List Oper}{o:Oper}{st st':XS}{wr:AM}(h:Bd st)(hx:nP P E all o st=some (st',wr)):AN7 P (hE.tab (DK all)) all o st st' wr:=by
 have val:∀{st'},(∀σ δ,PK (st.fr.ren σ δ) (J7 all o)=some true)→aK P o st=some st'→AN7 P (hE.tab (DK all)) all o st st' wr:=by
  intro st' hg hx
  unfold aK at hx
  split at hx
  ·rename_i v hv
   cases hx
   have hv:=O1 hv
   refine⟨⟨Nat.le_refl _,h.putF (h.val hv),rfl⟩,fun W σ pre k hr _ hk=>.inl ⟨true,v.ren σ pre.length,⟨hg _ _,?_⟩,?_⟩⟩
   ·have hrd:∀p∈DX P o (DO true (st.fr.ren σ pre.length)),p∉Z3 pre.length W:=by
     rw[IX,nI,← EY]
     exact jG hr
    cases hi:jF P o (DO true (st.fr.ren σ pre.length))with
    | true=>exact .inr (.inr (.inl (AN3 (IB hv) hi hrd)))
    | false=>exact .inl ⟨_,YX _,uY (IB hv) hi hrd⟩
   ·have:=hk σ (AU.refl _ _)
    rwa [E7]at this
  ·cases hx
 have new:∀{st'},(∀σ δ,PK (st.fr.ren σ δ) (J7 all o)=some true)→eG P (hE.tab (DK all)) o st st'→AN7 P (hE.tab (DK all)) all o st st' wr:=by
  intro st' hg hn
  obtain⟨h1,d,hd,h2⟩:=hn
  refine⟨h1,fun W σ pre k _ _ hk=>?_⟩
  obtain⟨r,hr,h3⟩:=h2 σ pre k hk
  exact .inr (.inl ⟨r,d,⟨hg _ _,hd,hr⟩,h3⟩)
 unfold nP at hx
 rw[nO]at hx
 split at hx
 ·rename_i hg
  have hg':∀σ δ,PK (st.fr.ren σ δ) (J7 all o)=some true:=fun σ δ=>MB hg
  unfold eN at hx
  split at hx
  ·rename_i T ho; exact new hg' (bU h ho (G5 hx).1)
  ·rename_i T x ho; exact new hg' (qX h ho (G5 hx).1)
  ·rename_i T r ho; exact new hg' (qY h ho (G5 hx).1)
  ·rename_i T x y ho; exact new hg' (jE h ho (G5 hx).1)
  ·rename_i T x y ho
   unfold AA7 at hx
   split at hx
   ·rename_i st1 hx1
    cases hx
    obtain⟨hE1,_⟩:=bV h ho hx1
    obtain⟨l,q,γ,r,hD,rfl⟩:=AAX ho hx1
    refine⟨hE1,fun W σ pre k _ hw hk=>.inr (.inr (.inl ⟨_,_,_,_,⟨hg' _ _,?_,nE hD⟩,?_⟩))⟩
    ·have hp:=YD hD
     unfold mU at hp
     simp only[ho]at hp
     have main:∀off,(DO true st.fr x=some (.ptr l q γ off)∨∃i,DO true st.fr x=some (.eptr l q γ i off))→WOK P (Z3 pre.length W) o (st.fr.ren σ pre.length) (l+pre.length) q:=by
      intro off hx
      have hC:IH P o (st.fr.ren σ pre.length)=some (off,P.cellsOf T):=by
       unfold IH
       rcases hx with hx | ⟨i,hx⟩ <;> simp only[ho,DG,hx,Option.map_some,GU,NT]
      cases hb:Nat.beq (P.cellsOf T) 1 with
      | true =>
       have h1:=Nat.eq_of_beq_eq_true hb
       have hpl:B6 (Nat.beq (P.cellsOf T) 1) (B9 st.fr x)=[(l,q),(l,D8 q off)]:=by
        rw[DQ,hb]
        rcases hx with hx | ⟨i,hx⟩ <;> rw[hx] <;> rfl
       rw[hpl]at hw
       refine⟨L9.2 (hw _ (by simp)),.inr fun off' n' e c h2 h3=>?_⟩
       rw[hC]at e
       cases e
       obtain rfl:c=off:=by omega
       exact L9.2 (hw _ (by simp))
      | false =>
       have hpl:B6 (Nat.beq (P.cellsOf T) 1) (B9 st.fr x)=[(l,q),(l,q+EN)]:=by
        rw[DQ,hb]
        rcases hx with hx | ⟨i,hx⟩ <;> rw[hx] <;> rfl
       rw[hpl]at hw
       exact⟨L9.2 (hw _ (by simp)),.inl (L9.2 (hw _ (by simp)))⟩
     split at hp
     ·rename_i l1 q1 γ1 off e; cases hp; exact main off (.inl e)
     ·rename_i l1 q1 γ1 i off e; cases hp; exact main off (.inr ⟨i,e⟩)
     ·cases hp
    ·have:=hk σ (AU.refl _ _)
     simp only[CM]at this
     exact this
   ·cases hx
  ·rename_i c ho
   obtain⟨callee,args,Ts⟩:=c
   unfold AKA at hx
   split at hx
   ·rename_i f hc
    have hc:callee=.value f:=hc
    subst hc
    cases hown:DK all o with
    | true =>
     rw[hown]at hx
     exact new hg' (bY hE hown h ho (G5 hx).1)
    | false =>
     rw[hown]at hx
     have hx:=(G5 hx).1
     unfold Y1 at hx
     split at hx
     ·rename_i fid first cap hf
      split at hx
      ·rename_i vs hvs
       split at hx
       ·rename_i r hr
        cases hx
        obtain⟨hA,hcl,hrc⟩:=hE.c0 _ _ _ hr
        refine⟨⟨Nat.le_refl _,h.putF (fun σ σ' δ _=>by rw[hrc,hrc]),rfl⟩,fun W σ pre k _ _ hk=>.inl ⟨true,r,⟨hg' _ _,.inr (.inl ⟨fid,(first++vs++cap).map weakV,?_,hown,fun _ s=>hA s⟩)⟩,?_⟩⟩
        ·rw[J9,EY]at hvs
         rw[DQ]at hf
         simp only[H9,ho,IX,hf,Option.map_some,NU,IA hvs,Option.some.injEq,Prod.mk.injEq,true_and]
         have e:((first++vs++cap).map weakV).map (V.ren σ pre.length)=(first++vs++cap).map weakV:=by
          conv=>rhs; rw[← List.map_id ((first++vs++cap).map weakV)]
          exact List.map_congr_left fun v hv=>hcl v hv σ _
         rw[G4]at e
         simpa only[List.map_append]using e
        ·have:=hk σ (AU.refl _ _)
         rwa [E7,hrc]at this
       ·cases hx
      ·cases hx
     ·cases hx
   ·rename_i hc
    have hc:callee=.builtin .append:=hc
    subst hc
    unfold xAppD at hx
    split at hx
    ·rename_i st1 l q e1
     cases hx
     obtain⟨d,r,hd,hp,rfl,hr,_,hs⟩:=YY (fun _ _ _ h=>h) h ho e1
     have hra:DX P o (B9 st.fr)=JK (B9 st.fr) args.toList:=by simp only[DX,ho]
     refine⟨YZ h hp hr,fun W σ pre k hrd hw hk=>.inr (.inr (.inr ⟨l+pre.length,q,r.ren σ pre.length,d,⟨hg' _ _,⟨L9.2 (hw _ (by simp)),L9.2 (hw _ (by simp))⟩,hd,_,YX _,hs W σ pre (by rw[← hra]; exact hrd)⟩,fun γ=>nL h hr hk γ⟩))⟩
    ·cases hx
   ·exact val hg' (G5 hx).1
  ·exact val hg' (G5 hx).1
 ·rename_i hg
  cases hk:(kA (DK all) o||kW o||kP o)with
  | true=>rw[hk]at hx; cases hx
  | false =>
   rw[hk]at hx
   cases hx
   rw[Bool.or_eq_false_iff,Bool.or_eq_false_iff]at hk
   refine⟨bZ h,fun W σ pre k _ _ hk'=>.inl ⟨false,.bool false,⟨MB hg,.inr (.inr (.inr ⟨rfl,hk.1.1,hk.1.2,hk.2⟩))⟩,?_⟩⟩
   have:=hk' σ (AU.refl _ _)
   simpa only[HE,E7,K1]using this
 ·cases hx
noncomputable def phX(P:Program)(E:XE)(l:List Oper):List Nat→XS→AM→AM→Option (XS×AM×AM)
 | [],st,rd,wr=>some (st,rd,wr)
 | i :: r,st,rd,wr=>match l[i]? with
  | some o=>match nP P E l o st with
   | some (st',w)=>phX P E l r st' (cond (zB l o) [] (DX P o (B9 st.fr))++rd) (w++wr)
   | none=>none
  | none=>none
noncomputable def sqX(P:Program)(E:XE)(l:List Oper):List Nat→XS→Option XS
 | [],st=>some st
 | i :: r,st=>match l[i]? with
  | some o=>match opX P E l o st with
   | some st'=>sqX P E l r st'
   | none=>none
  | none=>none
noncomputable def vA(P:Program)(E:XE)(l:List Oper):VT→XS→Option XS
 | [],st=>some st
 | p :: S,st=>Bool.rec none (match phX P E l p.1 st [] []with
  | some (st1,rd,wr)=>Bool.rec none (match sqX P E l p.2 st1 with
   | some GF=>vA P E l S GF
   | none=>none) (wr.all fun p=>!(rd.contains p))
  | none=>none) (YQ (DK l) l p.1 st.s.loc)
theorem V9{l:List Oper}{i:Nat}{o:Oper}(h:l[i]? = some o):Z2 (l.map (J7 l)) i=J7 l o:=by
 simp[Z2,h]
theorem AGY{E:XE}{all:List Oper}{o:Oper}{st st':XS}{wr:AM}(ho:∃T x,o.op=.load T x)(hx:nP P E all o st=some (st',wr)):wr=[]:=by
 obtain⟨T,x,ho⟩:=ho
 unfold nP at hx
 split at hx
 ·unfold eN at hx
  rw[ho]at hx
  exact(G5 hx).2
 ·cases hk:(kA (DK all) o||kW o||kP o)with
  | true=>rw[hk]at hx; cases hx
  | false=>rw[hk]at hx; exact(Prod.mk.inj (Option.some.inj hx)).2.symm
 ·cases hx
theorem AA8{E:XE}(hEE:JL P E){l:List Oper}:∀{R:List Nat} {st st':XS} {rd wr rd' wr':AM},Bd st→phX P E l R st rd wr=some (st',rd',wr')→JU st st'∧(∀p∈rd,p∈rd')∧(∀p∈wr,p∈wr') ∧
  ∀(W:AM) (σ:Nat→Nat) (pre:List AB) (K:Fr→St→Prop),(∀p∈rd',p∉W)→(∀p∈wr',p∈W)→(∀σ',AU st.c σ σ'→K (st'.fr.ren σ' pre.length) (st'.s.emb σ' pre))→PV P (hEE.tab (DK l)) (Z3 pre.length W) l (l.map (J7 l)) R (st.fr.ren σ pre.length) (st.s.emb σ pre) K
 | [],st,st',rd,wr,rd',wr',h,hx=>by
  cases hx
  exact⟨⟨Nat.le_refl _,h,rfl⟩,fun _ h=>h,fun _ h=>h,fun W σ pre K _ _ hk=>hk σ (AU.refl _ _)⟩
 | i :: r,st,st',rd,wr,rd',wr',h,hx=>by
  simp only[phX]at hx
  split at hx
  ·rename_i o ho
   split at hx
   ·rename_i st1 w1 h1
    obtain⟨hE,hs⟩:=AGX hEE h h1
    obtain⟨hE',hr,hw,hs'⟩:=AA8 hEE hE.bd hx
    refine⟨⟨Nat.le_trans hE.c hE'.c,hE'.bd,hE'.n.trans hE.n⟩,fun p hp=>hr p (List.mem_append_right _ hp),fun p hp=>hw p (List.mem_append_right _ hp),fun W σ pre K hrd hwr hk=>?_⟩
    simp only[PV,ML,ho,V9 ho]
    cases hz:zB l o with
    | true =>
     have hw0:w1=[]:=AGY (AJ4 hz) h1
     subst hw0
     unfold wz
     rw[hz]
     exact hs [] σ pre _ (fun p _=>by simp) (fun p hp=>hp) fun σ' ha=>hs' W σ' pre K hrd hwr fun σ'' ha'=>hk σ'' (ha.trans ha' hE.c)
    | false =>
    rw[hz]at hr
    unfold wz
    rw[hz]
    exact hs W σ pre _ (fun p hp=>hrd p (hr p (List.mem_append_left _ hp))) (fun p hp=>hwr p (hw p (List.mem_append_left _ hp))) fun σ' ha=>hs' W σ' pre K hrd hwr fun σ'' ha'=>hk σ'' (ha.trans ha' hE.c)
   ·cases hx
  ·cases hx
theorem AA9{E:XE}(hEE:JL P E){l:List Oper}:∀{R:List Nat} {st st':XS},Bd st→sqX P E l R st=some st'→JU st st' ∧
  ∀(σ:Nat→Nat) (pre:List AB) (K:Fr→St→Prop),(∀σ',AU st.c σ σ'→K (st'.fr.ren σ' pre.length) (st'.s.emb σ' pre))→uL P l (l.map (J7 l)) R (st.fr.ren σ pre.length) (st.s.emb σ pre) K
 | [],st,st',h,hx=>by
  cases hx
  exact⟨⟨Nat.le_refl _,h,rfl⟩,fun σ pre K hk=>hk σ (AU.refl _ _)⟩
 | i :: r,st,st',h,hx=>by
  simp only[sqX]at hx
  split at hx
  ·rename_i o ho
   split at hx
   ·rename_i st1 h1
    obtain⟨hE,g,hg,hs⟩:=AA6 hEE h h1
    obtain⟨hE',hs'⟩:=AA9 hEE hE.bd hx
    refine⟨⟨Nat.le_trans hE.c hE'.c,hE'.bd,hE'.n.trans hE.n⟩,fun σ pre K hk=>?_⟩
    simp only[uL,ho,V9 ho,hg]
    exact hs σ pre _ fun σ' ha=>hs' σ' pre K fun σ'' ha'=>hk σ'' (ha.trans ha' hE.c)
   ·cases hx
  ·cases hx
end Go.Pg
namespace Go.Pg
variable {P:Program}{σ σ':Nat→Nat}{δ:Nat}{pre:List AB}{s:St}{fr:Fr}{g:Bool}
def AL:Nat→V→Bool
 | 0,_=>false
 | f+1,v=>match v with
  | .int .. | .bool _ | .raw _ | .nil | .any=>true
  | .agg cs | .tup cs | .ref cs=>cs.all (AL f)
  | .list _ es=>es.all fun e=>e.all (AL f)
  | .fn _ a b=>a.all (AL f)&&b.all (AL f)
  | _=>false
theorem MD{f:Nat}(ih:∀v,AL f v=true→v.ren σ δ=v){cs:List V}(h:cs.all (AL f)=true):cs.map (V.ren σ δ)=cs:=by
 conv=>rhs; rw[← List.map_id cs]
 exact List.map_congr_left fun v hv=>ih v (List.all_eq_true.1 h v hv)
theorem EA:∀(f:Nat) (v:V),AL f v=true→v.ren σ δ=v
 | 0,_,h=>by cases h
 | f+1,v,h=>by
  have ih:=fun v=>EA f v
  cases v with
  | agg cs=>rw[GS,MD ih (by simpa [AL]using h)]
  | tup cs=>rw[J4,MD ih (by simpa [AL]using h)]
  | ref cs=>rw[LY,MD ih (by simpa [AL]using h)]
  | list b es =>
   have h':(es.all fun e=>e.all (AL f))=true:=by simpa [AL]using h
   rw[EG]
   congr 1
   conv=>rhs; rw[← List.map_id es]
   exact List.map_congr_left fun e he=>MD ih (List.all_eq_true.1 h' e he)
  | fn g a b =>
   have h':a.all (AL f)=true∧b.all (AL f)=true:=by simpa [AL]using h
   rw[NU,MD ih h'.1,MD ih h'.2]
  | int k n=>simp
  | bool b=>simp
  | raw v=>simp
  | nil=>simp
  | any=>simp
  | _=>simp[AL]at h
noncomputable def PX(ks:List Nat)(fr:Fr):Fr:=List.rec (motive:=fun _=>Fr) [] (fun k _ ih=>match BT fr k with
 | some (c,v)=>(k,c,v) :: ih
 | none=>ih) ks
theorem Y2(fr:Fr):∀(ks:List Nat),PX ks fr=NO ks fr
 | []=>rfl
 | k :: r=>by
  have:=Y2 fr r
  show(match BT fr k with | some (c,v)=>(k,c,v) :: PX r fr | none=>PX r fr)=NO (k :: r) fr
  rw[this,EX]
  rfl
theorem UF:∀(ks:List Nat),NO ks (fr.ren σ δ)=(NO ks fr).ren σ δ
 | []=>rfl
 | k :: r=>by
  simp only[NO,Fr.get_ren,UF r]
  cases fr.get k with
  | none=>rfl
  | some p=>rfl
theorem UG{L:AB}:∀(ks:List Nat),H8 ks (L.ren σ δ)=(H8 ks L).ren σ δ
 | []=>rfl
 | k :: r=>by
  simp only[H8,AB.get_ren,UG r]
  cases L.get k with
  | none=>rfl
  | some p=>rfl
def S3:List Nat→List Nat→List Nat
 | acc,[]=>acc
 | acc,k :: r=>S3 (cond (acc.any (Nat.beq k)) acc (k :: acc)) r
noncomputable def QJ(ks ls:List Nat)(st:XS):XS:=⟨st.c,PX ks st.fr,⟨st.s.up,H8 ls st.s.loc⟩⟩
theorem ABA{ks ls:List Nat}{st:XS}{l k:Nat}{x:Nat×AX}(h:(QJ ks ls st).s.get l k=some x):st.s.get l k=some x:=by
 unfold St.get QJ at h
 unfold St.get
 simp only at h
 split at h
 ·rename_i e; rw[if_pos e]; exact OW h
 ·rename_i e; rw[if_neg e]; exact h
theorem S4{ks ls:List Nat}{st:XS}(h:Bd st):JU st (QJ ks ls st):=by
 refine⟨Nat.le_refl _,⟨fun σ σ' δ ha=>?_,fun σ σ' pre ha=>?_,fun l k γ fr ps asg body N ls hg=>h.lp l k γ fr ps asg body N ls (ABA hg)⟩,rfl⟩
 ·simp only[QJ,Y2,← UF]
  rw[h.f σ σ' δ ha]
 ·have:=h.s σ σ' pre ha
  simp only[St.emb,St.mk.injEq]at this
  simp only[QJ,St.emb,St.mk.injEq,← UG]
  exact⟨this.1,by rw[this.2]⟩
theorem UH{n N:Nat}{ρ:Option Nat}{c:Code}{K:Exit→Fr→St→Prop}{ks ls:List Nat}{st:XS}(h:BB P n N ρ c K ((QJ ks ls st).fr.ren σ pre.length) ((QJ ks ls st).s.emb σ pre)):BB P n N ρ c K (st.fr.ren σ pre.length) (st.s.emb σ pre):=by
 refine uE ks ls ?_
 have e2:(⟨(st.s.emb σ pre).up,H8 ls (st.s.emb σ pre).loc⟩:St)=(QJ ks ls st).s.emb σ pre:=by
  simp only[QJ,St.emb,UG]
 rw[UF,e2,← Y2]
 exact h
abbrev Z4:=Code→XS→Option (Exit×XS)
noncomputable def PY(P:Program)(E:XE)(l:List Oper)(st:XS):Option XS:=vA P E l (aJ l) st
noncomputable def A04(P:Program)(E:XE)(l:List Oper)(draw:Bool)(st:XS):Option XS:=Bool.rec (eL P E l l st)
 (match AN2 l with
  | []=>PY P E l st
  | ds=>PY P E l (QJ (S3 [] (st.fr.map (·.1))) ((S3 [] (st.s.loc.map (·.1))).filter fun k=>!(ds.any (Nat.beq k))) st)) draw
noncomputable def PN(r:Option XS):Option (Exit×XS):=match r with
 | some st=>some (.normal,st)
 | none=>none
noncomputable def eO(rec:Z4)(b:Code)(r:Option (Exit×XS)):Option (Exit×XS):=match r with
 | some (.normal,st')=>rec b st'
 | r=>r
noncomputable def ME(id:Nat)(r:Option (Exit×XS)):Option (Exit×XS):=match r with
 | some (.exit i,st')=>Bool.rec (some (.exit i,st')) (some (.normal,st')) (Nat.beq i id)
 | r=>r
noncomputable def jO(rec:Z4)(a b:Code)(st:XS)(r:Option V):Option (Exit×XS):=match r with
 | some (.bool c)=>Bool.rec (rec b st) (rec a st) c
 | _=>none
noncomputable def cA(rec:Z4)(body:Code)(ks:List Nat)(n:Nat):XS→Option (Exit×XS):=Nat.rec (motive:=fun _=>XS→Option (Exit×XS)) (fun _=>none) (fun _ ih st=>match rec body (QJ ks (S3 [] (st.s.loc.map (·.1))) st)with
 | some (.normal,st')=>ih st'
 | r=>r) n
def B0:Nat:=1000000
noncomputable def eP(fr:Fr)(n γ:Nat)(r:Option (V×XS)):Option (Exit×XS):=match r with
 | some (_,st)=>match st.s.get n B0 with
  | some (γ',.loop _ _ _ _ _ ls)=>Bool.rec none (match ls with
   | .ready=>some (.normal,⟨st.c,fr,st.s.put n B0 γ .dead⟩)
   | .left .ret=>some (.ret,⟨st.c,fr,st.s.put n B0 γ .dead⟩)
   | .left (.exit id)=>some (.exit id,⟨st.c,fr,st.s.put n B0 γ .dead⟩)
   | _=>none) (Nat.beq γ' γ&&Nat.blt γ st.c)
  | _=>none
 | none=>none
noncomputable def UI(cf:CF)(N:Nat)(g:Operand)(ps:List Tmp)(asg body:Code)(st:XS):Option (Exit×XS):=match B9 st.fr g with
 | some (.fn f first cap)=>eP st.fr st.s.up.length st.c (cf f ((first++[V.yld st.s.up.length B0 st.c]++cap).map weakV) ⟨st.c+1,st.fr,st.s.put st.s.up.length B0 st.c (.loop st.fr ps asg body N .ready)⟩)
 | _=>none
noncomputable def S5(P:Program)(E:XE)(n N:Nat)(rec:Z4):Z4:=fun code st=>match code with
 | .skip=>some (.normal,st)
 | .label _=>some (.normal,st)
 | .region _ ops draw=>PN (A04 P E ops.toList draw st)
 | .seq a b=>eO rec b (rec a st)
 | .cond c a b=>jO rec a b st (B9 st.fr c)
 | .block id body=>ME id (rec body st)
 | .loop body=>cA rec body (S3 [] (st.fr.map (·.1))) n st
 | .exit id=>some (.exit id,st)
 | .ret=>some (.ret,st)
 | .scope body=>rec body st
 | .rangeFunc g ps asg body=>UI E.cf N g ps.toList asg body st
 | _=>none
abbrev F0:=Nat→Z4
noncomputable def vB(P:Program)(rs:List ResultVar)(st:XS):Option (V×Nat×List AB):=match FM P rs st.fr st.s with
 | some r=>match AZ st.s 4 r with
  | some r'=>some (r',st.c,st.s.up.map (AQ st.s))
  | none=>none
 | none=>none
noncomputable def rD{α:Type}(rec:Z4)(ret:XS→Option α)(code:Code)(st:XS):Option α:=match rec code st with
 | some (.ret,st')=>ret st'
 | some (.normal,st')=>ret st'
 | _=>none
noncomputable def VI{α:Type}(P:Program)(rec:F0)(ret:Func→XS→Option α)(f:FuncId)(args:List V)(c:Nat)(up:List AB):Option α:=match P.funcs[f]? with
 | some fn=>match fn.body with
  | some code=>Bool.rec none (rD (rec fn.ntmps) (ret fn) code ⟨c,AF 0 args,⟨up,[]⟩⟩) (Nat.ble args.length fn.ntmps)
  | none=>none
 | none=>none
noncomputable def cC(P:Program)(rec:F0)(f:FuncId)(args:List V)(c:Nat)(up:List AB):Option (V×Nat×List AB):=VI P rec (fun fn=>vB P fn.results.toList) f args c up
noncomputable def EL(P:Program)(rec:F0):CF0:=fun f args=>Bool.rec none (match cC P rec f args 0 []with
 | some (r,_,_)=>Bool.rec none (some r) (AL 9 r)
 | none=>none) (args.all (AL 9))
def DA{α:Type}:List α→Option (List α×α)
 | []=>none
 | [x]=>some ([],x)
 | x :: r=>match DA r with
  | some (a,b)=>some (x :: a,b)
  | none=>none
noncomputable def AY(P:Program)(kn:CF0)(rec:F0):CF0:=fun f args=>match kn f args with
 | some r=>some r
 | none=>EL P rec f args
def weakM:V→V
 | .nil=>.list false []
 | v=>v
def weakN:V→V
 | .nil=>.list false []
 | .agg cs=>.agg (cs.map weakM)
 | v=>v
theorem RepV.empty{G:Gh}{v:Value}(h:RepV G .nil v):RepV G (.list false []) v:=by
 cases h
 exact .list false [] none 0 0 0 0 #[] 0 (0,0) (fun _ _=>undef) (by simp) (fun h=>by cases h) (fun h=>absurd rfl h) (fun i h=>absurd h (by simp)) (fun i h=>absurd h (by simp)) (fun i h=>absurd h (by simp))
theorem RepV.weakM{G:Gh}{x:V}{v:Value}(h:RepV G x v):RepV G (weakM x) v:=by
 cases x <;> first | exact h | exact h.empty
theorem eQ(x:V):(weakM x).isCell=x.isCell:=by cases x <;> rfl
theorem RepV.weakN{G:Gh}{x:V}{v:Value}(h:RepV G x v):RepV G (weakN x) v:=by
 cases x with
 | nil=>exact h.empty
 | agg cs =>
  cases h with
  | agg _ arr hl hc hr =>
   refine .agg _ arr (by simpa using hl) (fun c hc'=>?_) (fun i h1 h2=>?_)
   ·obtain⟨d,hd,rfl⟩:=List.mem_map.1 hc'
    rw[eQ]; exact hc d hd
   ·simp only[List.getElem_map]
    exact(hr i (by simpa using h1) h2).weakM
 | _=>exact h
theorem RepA.weakN{G:Gh}{xs:List V}{vs:List Value}(h:RepA G xs vs):RepA G (xs.map Pg.weakN) vs :=
 ⟨by simpa using h.1,fun i h1 h2=>by simp only[List.getElem_map]; exact(h.2 i (by simpa using h1) h2).weakN⟩
noncomputable def E9(P:Program)(kn:CF0)(rec:F0):CF0:=fun f args=>match AY P kn rec f (args.map weakN)with
 | some r=>Bool.rec (AY P kn rec f args) (some r) (args.all (AL 9))
 | none=>AY P kn rec f args
def BB1(P:Program)(T:TypeId):Bool:=match P.underlying T with
 | some (.pointer _)=>true
 | _=>false
def AK(P:Program)(f:FuncId):Bool:=match P.funcs[f]? with
 | some fn=>fn.resultTypes.toList.any (BB1 P)
 | none=>false
noncomputable def Y3(P:Program)(kn:CF0)(rec:F0):CF:=fun f args st=>Bool.rec (match cC P rec f args st.c (st.s.up++[st.s.loc])with
 | some (r,c,up)=>match DA up with
  | some (u,l)=>some (r,⟨c,st.fr,⟨u,l⟩⟩)
  | none=>none
 | none=>none) (match E9 P kn rec f args with
  | some r=>some (r,st)
  | none=>none) (args.all (AL 9)&&!(AK P f))
noncomputable def nQ(P:Program)(fn:Func)(st:XS):Option Mk:=match FM P fn.results.toList st.fr st.s with
 | some (.vec l k γ n)=>Bool.rec none (match st.s.loc.get k with
  | some (γ',.vec T es)=>Bool.rec none (some ⟨.vec T es,none⟩) (Nat.beq γ' γ&&Nat.beq n es.length&&es.all fun e=>e.all (AL 9))
  | _=>none) (Nat.beq l st.s.up.length)
 | some v=>Bool.rec none (match fn.resultTypes.toList with
  | [R]=>match BI P R with
   | some (none,T)=>some ⟨.vec T [],none⟩
   | _=>none
  | _=>none) (VQ v)
 | none=>none
def KJ(P:Program)(f:FuncId):Bool:=match P.funcs[f]? with
 | some fn=>match fn.resultTypes.toList with
  | [R]=>match BI P R with
   | some (none,_)=>true
   | _=>false
  | _=>false
 | none=>false
noncomputable def MF(P:Program)(rec:F0)(f:FuncId)(args:List V):Option Mk:=Bool.rec none (VI P rec (nQ P) f args 0 []) (args.all (AL 9))
noncomputable def NY(P:Program)(kn:CF0)(ko:CFO)(rec:F0):CFO:=fun f args d=>match ko f args d with
 | some r=>some r
 | none=>Bool.rec (match E9 P kn rec f args with
  | some r=>some ⟨.dead,some r⟩
  | none=>none) (MF P rec f args) (KJ P f)
def rF(k γ:Nat):Nat→V→Bool
 | 0=>fun _=>false
 | f+1=>fun v=>match v with
  | .vec l k' γ' _=>Nat.beq l 0&&Nat.beq k' k&&Nat.beq γ' γ
  | .agg cs=>cs.all (rF k γ f)
  | .tup cs=>cs.all (rF k γ f)
  | .list _ es=>es.all fun e=>e.all (rF k γ f)
  | .int _ _=>true
  | .bool _=>true
  | .nil=>true
  | _=>false
def tmV(d:Nat):Nat→V→V
 | 0=>fun v=>v
 | f+1=>fun v=>match v with
  | .vec _ _ _ m=>.vec 0 d 0 m
  | .agg cs=>.agg (cs.map (tmV d f))
  | .tup cs=>.tup (cs.map (tmV d f))
  | .list b es=>.list b (es.map (List.map (tmV d f)))
  | v=>v
noncomputable def BB2(P:Program)(k d:Nat)(fn:Func)(st:XS):Option Mk:=match FM P fn.results.toList st.fr st.s,st.s.loc.get k with
 | some v,some (γ,.vec T es)=>Bool.rec none (some ⟨.vec T es,some (tmV d 4 v)⟩) (rF k γ 4 v&&es.all fun e=>e.all (AL 9))
 | _,_=>none
noncomputable def BH0(P:Program)(rec:F0)(k:Nat)(f:FuncId)(args:List V)(d:Tmp):Option Mk:=Bool.rec none (VI P rec (BB2 P k d) f args 0 []) (args.all (AL 9))
noncomputable def HF(s:St)(u:List AB)(l:AB):St:=⟨u.map (AQ s),AQ s l⟩
noncomputable def Y4(fr:Fr)(l q γ:Nat)(r:Option (Exit×XS)):Option (V×XS):=match r with
 | some (e,st)=>match st.s.get l q with
  | some (γ',.loop fr0 ps asg body N .busy)=>Bool.rec none (match DA st.s.up with
   | some (u,lc)=>match e with
    | .normal=>some (.bool true,⟨st.c,fr,(HF st.s u lc).put l q γ (.loop fr0 ps asg body N .ready)⟩)
    | .ret=>some (.bool false,⟨st.c,fr,(HF st.s u lc).put l q γ (.loop fr0 ps asg body N (.left .ret))⟩)
    | .exit id=>some (.bool false,⟨st.c,fr,(HF st.s u lc).put l q γ (.loop fr0 ps asg body N (.left (.exit id)))⟩)
    | _=>none
   | none=>none) (Nat.beq γ' γ&&Nat.blt l st.s.up.length&&Nat.blt γ st.c)
  | _=>none
 | none=>none
noncomputable def Y5(rec:Z4)(l q γ:Nat)(body:Code)(r:Option (Exit×XS)):Option (Exit×XS):=match r with
 | some (.normal,st)=>match st.s.get l q with
  | some (γ',.loop fr0 ps asg body' N .ready)=>Bool.rec none (rec body ⟨st.c,st.fr,st.s.put l q γ (.loop fr0 ps asg body' N .busy)⟩) (Nat.beq γ' γ&&Nat.blt γ st.c)
  | _=>none
 | _=>none
noncomputable def eR(rec:F0):CY:=fun l q γ vs st=>match st.s.get l q with
 | some (γ',.loop fr0 ps asg body N .ready)=>Bool.rec none (Y4 st.fr l q γ (Y5 (rec N) l q γ body (rec N asg ⟨st.c,KZ fr0 ps vs,⟨st.s.up++[st.s.loc],[]⟩⟩))) (Nat.beq γ' γ&&Nat.beq vs.length ps.length&&Nat.blt γ st.c)
 | _=>none
noncomputable def AN8(P:Program)(kn:CF0)(ko:CFO)(lit:Tmp→Bool)(rec:F0):XE:=⟨Y3 P kn rec,eR rec,E9 P kn rec,NY P kn ko rec,lit⟩
noncomputable def BOX(P:Program)(kn:CF0)(ko:CFO)(lit:Tmp→Bool)(n:Nat):F0:=Nat.rec (motive:=fun _=>F0) (fun _ _ _=>none) (fun n ih N=>S5 P (AN8 P kn ko lit ih) n N (ih N)) n
def nR(fn:Func):Bool:=match fn.body with
 | some c => !(fn.name == "runtime.NumGoroutine") && EH fn.ntmps c
 | none=>true
structure DY(P:Program):Prop where
 all:P.funcs.toList.all nR=true
 mixed:P.follows .mixedOrders=true
def Y6(P:Program)(N:Nat)(rec:Z4):Prop:=∀code st e st',rec code st=some (e,st')→Bd st→EH N code=true→JU st st'∧(∀l,e≠.goto l) ∧
 ∀(n:Nat) (ρ:Option Nat) (σ:Nat→Nat) (pre:List AB) (K:Exit→Fr→St→Prop),(ρ=none∨FR code=true)→(∀σ',AU st.c σ σ'→K e (st'.fr.ren σ' pre.length) (st'.s.emb σ' pre))→BB P n N ρ code K (st.fr.ren σ pre.length) (st.s.emb σ pre)
def Y7(P:Program)(rec:F0):Prop:=∀N,Y6 P N (rec N)
theorem N3{α:Type}:∀{l:List α} {u:List α} {x:α},DA l=some (u,x)→l=u++[x]
 | [],u,x,h=>by cases h
 | [y],u,x,h=>by cases h; rfl
 | y :: z :: r,u,x,h=>by
  simp only[DA]at h
  split at h
  ·rename_i a b e
   cases h
   rw[N3 (l:=z :: r) e]
   rfl
  ·cases h
theorem ABB{c:Nat}{args:List V}(h:∀v∈args,TL c v)(σ σ':Nat→Nat)(δ:Nat)(ha:AU c σ σ'):(AF 0 args).ren σ δ=(AF 0 args).ren σ' δ:=by
 rw[← O0,← O0]
 congr 1
 exact List.map_congr_left fun v hv=>h v hv σ σ' δ ha
theorem AN9{st:XS}(h:Bd st){rs:List ResultVar}{v r:V}(hv:FM P rs st.fr st.s=some v)(hr:AZ st.s 4 v=some r):TL st.c r:=by
 intro σ σ' δ ha
 have q1:=NW (σ:=σ) (pre:=List.replicate δ []) hv
 have q2:=NW (σ:=σ') (pre:=List.replicate δ []) hv
 rw[h.f σ σ' _ ha,h.s σ σ' _ ha,q2]at q1
 have q:=Option.some.inj q1
 have r1:=JH (σ:=σ) (pre:=List.replicate δ []) 4 hr
 have r2:=JH (σ:=σ') (pre:=List.replicate δ []) 4 hr
 rw[h.s σ σ' _ ha,← q,r2]at r1
 have:=Option.some.inj r1
 rw[List.length_replicate]at this
 exact this.symm
theorem G6(u:List AB)(l:AB)(i k:Nat):(⟨u,l⟩:St).get i k=match(u++[l])[i]? with
  | some L=>L.get k
  | none=>none:=by
 unfold St.get
 simp only
 by_cases h:i=u.length
 ·subst h; simp
 ·rw[if_neg h]
  rcases Nat.lt_or_ge i u.length with h' | h'
  ·rw[List.getElem?_append_left h']; rfl
  ·rw[List.getElem?_append_right h',List.getElem?_eq_none h']
   have:1≤i-u.length:=by omega
   rw[List.getElem?_eq_none (by simpa using this)]
theorem nS(L:AB)(k g:Nat)(r:AX)(h:((AQ s L).ren σ pre.length).get k=some (g,r)):∃r0,(L.ren σ pre.length).get k=some (g,r0)∧(r=r0∨r=GN (s.emb σ pre) r0):=by
 rw[AB.get_ren,L7]at h
 rw[AB.get_ren]
 cases hL:L.get k with
 | none=>rw[hL]at h; cases h
 | some p =>
  rw[hL]at h
  cases h
  exact⟨p.2.ren σ pre.length,rfl,jC p.2⟩
theorem cD{s:St}{F:List AB}{u u2:List AB}{l l2:AB}(h1:u++[l]=pre++F.map (AB.ren σ pre.length))(h2:u2++[l2]=pre++(F.map (AQ s)).map (AB.ren σ pre.length)):gY (s.emb σ pre) ⟨u,l⟩ ⟨u2,l2⟩:=by
 have hlen:u2.length=u.length:=by
  have a1:=congrArg List.length h1
  have a2:=congrArg List.length h2
  simp at a1 a2
  omega
 refine⟨hlen,fun i k g r hg=>?_⟩
 rw[G6,h2]at hg
 rw[G6,h1]
 rcases Nat.lt_or_ge i pre.length with hi | hi
 ·rw[List.getElem?_append_left hi]at hg ⊢
  exact⟨r,hg,.inl rfl⟩
 ·rw[List.getElem?_append_right hi]at hg ⊢
  simp only[List.map_map,List.getElem?_map]at hg ⊢
  cases hF:F[i-pre.length]? with
  | none=>rw[hF]at hg; cases hg
  | some L =>
   rw[hF]at hg
   exact nS L k g r hg
theorem nT{s:St}{c:Nat}(hs:∀σ σ' pre,AU c σ σ'→s.emb σ pre=s.emb σ' pre){r:AX}(hr:∀σ σ' δ,AU c σ σ'→r.ren σ δ=r.ren σ' δ)(σ σ':Nat→Nat)(δ:Nat)(ha:AU c σ σ'):(CC s r).ren σ δ=(CC s r).ren σ' δ:=by
 unfold CC
 split
 ·rename_i r' h
  have q1:=KI (σ:=σ) (pre:=List.replicate δ []) h
  have q2:=KI (σ:=σ') (pre:=List.replicate δ []) h
  rw[hs σ σ' _ ha]at q1
  simp only[List.length_replicate]at q1 q2
  rw[hr σ σ' _ ha,q2]at q1
  exact(Option.some.inj q1).symm
 ·exact hr σ σ' δ ha
theorem jP{L:AB}{δ:Nat}(σ σ':Nat→Nat):L.ren σ δ=L.ren σ' δ↔∀p∈L,σ p.2.1=σ' p.2.1∧p.2.2.ren σ δ=p.2.2.ren σ' δ:=by
 unfold AB.ren
 rw[List.map_inj_left]
 simp only[Prod.mk.injEq,true_and]
theorem cE{s:St}{c:Nat}(hs:∀σ σ' pre,AU c σ σ'→s.emb σ pre=s.emb σ' pre){L:AB}(hL:∀σ σ' δ,AU c σ σ'→L.ren σ δ=L.ren σ' δ)(σ σ':Nat→Nat)(δ:Nat)(ha:AU c σ σ'):(AQ s L).ren σ δ=(AQ s L).ren σ' δ:=by
 rw[jP]
 intro p hp
 obtain⟨x,hx,rfl⟩:=List.mem_map.1 hp
 have h1:∀σ σ' δ,AU c σ σ'→σ x.2.1=σ' x.2.1∧x.2.2.ren σ δ=x.2.2.ren σ' δ:=fun σ σ' δ ha=>(jP σ σ').1 (hL σ σ' δ ha) x hx
 exact⟨(h1 σ σ' δ ha).1,nT hs (fun σ σ' δ ha=>(h1 σ σ' δ ha).2) σ σ' δ ha⟩
theorem ABC{s:St}{c:Nat}(hs:∀σ σ' pre,AU c σ σ'→s.emb σ pre=s.emb σ' pre):∀L∈s.up,∀σ σ' δ,AU c σ σ'→L.ren σ δ=L.ren σ' δ:=by
 intro L hL σ σ' δ ha
 have:=hs σ σ' (List.replicate δ []) ha
 simp only[St.emb,St.mk.injEq,List.length_replicate]at this
 exact List.map_inj_left.1 (List.append_cancel_left this.1) L hL
theorem cF(s:St)(L:AB){k γ:Nat}{fr:Fr}{ps:List Tmp}{asg body:Code}{N:Nat}{st:LS}(h:(AQ s L).get k=some (γ,.loop fr ps asg body N st)):L.get k=some (γ,.loop fr ps asg body N st):=by
 rw[L7]at h
 cases hL:L.get k with
 | none=>rw[hL]at h; cases h
 | some p =>
  rw[hL]at h
  simp only[Option.map_some,Option.some.injEq,Prod.mk.injEq]at h
  obtain⟨h1,h2⟩:=h
  obtain⟨g,r⟩:=p
  simp only at h1 h2
  subst h1
  congr 2
  cases r with
  | loop=>exact h2
  | box cs=>unfold CC at h2; split at h2 <;> rename_i e <;> simp only[CA]at e <;> (try (split at e <;> cases e)) <;> cases h2
  | vec T es=>unfold CC at h2; split at h2 <;> rename_i e <;> simp only[CA]at e <;> (try (split at e <;> cases e)) <;> cases h2
  | map es=>unfold CC at h2; split at h2 <;> rename_i e <;> simp only[CA]at e <;> (try (split at e <;> cases e)) <;> cases h2
  | dead=>unfold CC at h2; split at h2 <;> rename_i e <;> simp only[CA]at e <;> cases e; cases h2
def FX(P:Program)(f:FuncId)(args:List V)(c:Nat)(up:List AB)(r:V)(c':Nat)(up':List AB):Prop:=c≤c'∧TL c' r∧(∀σ σ' δ,AU c' σ σ'→up'.map (AB.ren σ δ)=up'.map (AB.ren σ' δ))∧up'.length=up.length ∧
  (∀L∈up',∀k γ fr ps asg body N st,L.get k=some (γ,.loop fr ps asg body N st)→SY N ps asg body=true) ∧
  ∀(σ:Nat→Nat) (pre:List AB) (s:St) (K:V→St→Prop),s.up++[s.loc]=pre++up.map (AB.ren σ pre.length)→(∀σ' u l,AU c σ σ'→u++[l]=pre++up'.map (AB.ren σ' pre.length)→K (r.ren σ' pre.length) ⟨u,l⟩)→E4 P f (args.map (V.ren σ pre.length)) s K
theorem Y8(hP:DY P){rec:F0}(hrec:Y7 P rec){α:Type}{ret:Func→XS→Option α}{f:FuncId}{args:List V}{c:Nat}{up:List AB}{x:α}(hx:VI P rec ret f args c up=some x)(hargs:∀v∈args,TL c v)
  (hup:∀σ σ' δ,AU c σ σ'→up.map (AB.ren σ δ)=up.map (AB.ren σ' δ)) (hlp:∀L∈up,∀k γ fr ps asg body N st,L.get k=some (γ,.loop fr ps asg body N st)→SY N ps asg body=true) :
  ∃fn st',ret fn st'=some x∧Bd st'∧c≤st'.c∧st'.s.up.length=up.length∧∀(σ:Nat→Nat) (pre:List AB) (s:St) (K:V→St→Prop),s.up++[s.loc]=pre++up.map (AB.ren σ pre.length) →
   (∀σ',AU c σ σ'→ANX P fn.results.toList (s.up.length+1) K .ret (st'.fr.ren σ' pre.length) (st'.s.emb σ' pre))→E4 P f (args.map (V.ren σ pre.length)) s K:=by
 unfold VI at hx
 split at hx
 ·rename_i fn hf
  split at hx
  ·rename_i code hb
   obtain⟨hsz,hx1⟩:=D6 hx
   have hck:nR fn=true:=List.all_eq_true.1 hP.all fn (by
    have:=Array.mem_of_getElem? hf
    simpa using this)
   simp only[nR,hb,Bool.and_eq_true,Bool.not_eq_true']at hck
   have hbd:Bd ⟨c,AF 0 args,⟨up,[]⟩⟩:=⟨fun σ σ' δ ha=>ABB hargs σ σ' δ ha,fun σ σ' pre ha=>by simp only[St.emb,hup σ σ' _ ha]; rfl,fun l k γ fr ps asg body N st hg=>by
    rw[G6]at hg
    split at hg
    ·rename_i L hL
     rcases List.mem_append.1 (List.mem_of_getElem? hL)with hm | hm
     ·exact hlp L hm _ _ _ _ _ _ _ _ hg
     ·have:L=[]:=by simpa using hm
      subst this; simp at hg
    ·cases hg⟩
   have main:∀e st',rec fn.ntmps code ⟨c,AF 0 args,⟨up,[]⟩⟩=some (e,st')→(e=.ret∨e=.normal)→ret fn st'=some x→∃fn st',ret fn st'=some x∧Bd st'∧c≤st'.c∧st'.s.up.length=up.length∧∀(σ:Nat→Nat) (pre:List AB) (s:St) (K:V→St→Prop),s.up++[s.loc]=pre++up.map (AB.ren σ pre.length) →
     (∀σ',AU c σ σ'→ANX P fn.results.toList (s.up.length+1) K .ret (st'.fr.ren σ' pre.length) (st'.s.emb σ' pre))→E4 P f (args.map (V.ren σ pre.length)) s K:=by
    intro e st' h1 he h2
    obtain⟨hE,_,hC⟩:=hrec _ _ _ _ _ h1 hbd hck.2
    refine⟨fn,st',h2,hE.bd,hE.c,hE.n,fun σ pre s K hs hk=>?_⟩
    refine A0X hf hb (iI hf hb hck.1) (by simpa using hsz) ?_
    have e1:(⟨s.up++[s.loc],[]⟩:St)=(⟨up,[]⟩:St).emb σ pre:=by simp only[St.emb,hs]; rfl
    rw[O0,e1]
    refine hC _ none σ pre _ (.inl rfl) fun σ' ha=>?_
    have:=hk σ' ha
    rcases he with rfl | rfl <;> exact this
   unfold rD at hx1
   split at hx1
   ·rename_i st' h1; exact main _ _ h1 (.inl rfl) hx1
   ·rename_i st' h1; exact main _ _ h1 (.inr rfl) hx1
   ·cases hx1
  ·cases hx
 ·cases hx
theorem jQ(hP:DY P){rec:F0}(hrec:Y7 P rec){f:FuncId}{args:List V}{c:Nat}{up:List AB}{r:V}{c':Nat}{up':List AB}(hx:cC P rec f args c up=some (r,c',up'))(hargs:∀v∈args,TL c v)
  (hup:∀σ σ' δ,AU c σ σ'→up.map (AB.ren σ δ)=up.map (AB.ren σ' δ)) (hlp:∀L∈up,∀k γ fr ps asg body N st,L.get k=some (γ,.loop fr ps asg body N st)→SY N ps asg body=true):FX P f args c up r c' up':=by
 obtain⟨fn,st',hret,hbd,hc,hlen,hA⟩:=Y8 hP hrec hx hargs hup hlp
 unfold vB at hret
 split at hret
 ·rename_i r0 hr0
  split at hret
  ·rename_i r1 hr1
   cases hret
   refine⟨hc,AN9 hbd hr0 hr1,fun σ σ' δ ha=>?_,by simpa using hlen,fun L hL k γ fr ps asg body N st hg=>?_,fun σ pre s K hs hk=>hA σ pre s K hs fun σ' ha=>?_⟩
   ·simp only[List.map_map]
    exact List.map_congr_left fun L hL=>cE hbd.s (ABC hbd.s L hL) σ σ' δ ha
   ·obtain⟨L0,hL0,rfl⟩:=List.mem_map.1 hL
    have hg:=cF _ _ hg
    obtain⟨i,hi,rfl⟩:=List.getElem_of_mem hL0
    refine hbd.lp i k γ fr ps asg body N st ?_
    unfold St.get
    rw[if_neg (by omega),List.getElem?_eq_getElem hi]
    exact hg
   ·have hl2:(st'.s.emb σ' pre).up.length=s.up.length+1:=by
     have q:=congrArg List.length hs
     simp only[List.length_append,List.length_singleton,List.length_map]at q
     rw[C6,hlen]
     omega
    rcases List.eq_nil_or_concat (st'.s.emb σ' pre).up with h0 | ⟨u,l,h0⟩
    ·rw[h0]at hl2; simp at hl2
    ·have h0:(st'.s.emb σ' pre).up=u++[l]:=by simpa using h0
     have hu:u.length+1=s.up.length+1:=by rw[← hl2,h0]; simp
     have hcl:=NV 4 (JH (σ:=σ') (pre:=pre) 4 hr1)
     have hres:=NW (σ:=σ') (pre:=pre) hr0
     rcases List.eq_nil_or_concat (pre++(st'.s.up.map (AQ st'.s)).map (AB.ren σ' pre.length))with h3 | ⟨u2,l2,h3⟩
     ·have h4:=congrArg List.length h3
      have h5:=congrArg List.length h0
      simp only[St.emb,List.length_append,List.length_map,List.length_nil,List.length_singleton]at h4 h5
      omega
     ·have h3:pre++(st'.s.up.map (AQ st'.s)).map (AB.ren σ' pre.length)=u2++[l2]:=by simpa using h3
      have hK:=hk σ' u2 l2 ha h3.symm
      have hS:=cD (s:=st'.s) (F:=st'.s.up) (u:=u) (l:=l) (u2:=u2) (l2:=l2) (σ:=σ') (pre:=pre) h0.symm h3.symm
      exact⟨u,l,_,h0,hu,hres,.inl ⟨_,_,by rw[hcl]; exact Wk.refl _,hS,hK⟩⟩
  ·cases hret
 ·cases hret
theorem UJ{c:Nat}{args:List V}(h:args.all (AL 9)=true):∀v∈args,TL c v:=fun v hv σ σ' δ _=>by
 rw[EA 9 v (List.all_eq_true.1 h v hv),EA 9 v (List.all_eq_true.1 h v hv)]
theorem Y9(hP:DY P){rec:F0}(hrec:Y7 P rec):GY P (EL P rec):=by
 intro f args r hx
 unfold EL at hx
 obtain⟨hcl,hx1⟩:=D6 hx
 split at hx1
 ·rename_i r0 c' up' h1
  obtain⟨hr,rfl⟩:=I5 hx1
  obtain⟨_,_,_,hlen,_,hA⟩:=jQ hP hrec h1 (UJ hcl) (fun _ _ _ _=>rfl) (fun L hL=>by cases hL)
  have hargs:∀v∈args,∀σ δ,V.ren σ δ v=v:=fun v hv σ δ=>EA 9 v (List.all_eq_true.1 hcl v hv)
  have hup:up'=[]:=List.eq_nil_of_length_eq_zero hlen
  refine⟨fun s=>?_,hargs,fun σ δ=>EA 9 _ hr⟩
  have:=hA id (s.up++[s.loc]) s (fun r' s'=>r'=r0∧s'=s) (by simp) fun σ' u l _ hu=>?_
  ·have e:args.map (V.ren id (s.up++[s.loc]).length)=args:=by
    conv=>rhs; rw[← List.map_id args]
    exact List.map_congr_left fun v hv=>hargs v hv _ _
   rw[e]at this
   exact this
  ·rw[hup]at hu
   simp only[List.map_nil,List.append_nil]at hu
   obtain⟨e1,e2⟩:=List.append_inj' hu rfl
   refine⟨EA 9 _ hr,?_⟩
   subst e1
   simp only[List.cons.injEq,and_true]at e2
   subst e2
   rfl
 ·cases hx1
theorem ZA(hP:DY P){kn:CF0}(hkn:GY P kn){rec:F0}(hrec:Y7 P rec):GY P (AY P kn rec):=by
 intro f args r hx
 unfold AY at hx
 split at hx
 ·rename_i r0 h0
  cases hx
  exact hkn _ _ _ h0
 ·exact Y9 hP hrec _ _ _ hx
theorem ZB(hP:DY P){kn:CF0}(hkn:GY P kn){rec:F0}(hrec:Y7 P rec):GY P (E9 P kn rec):=by
 intro f args r hx
 unfold E9 at hx
 split at hx
 ·rename_i r0 h0
  cases hcl:args.all (AL 9)with
  | false=>rw[hcl]at hx; exact ZA hP hkn hrec _ _ _ hx
  | true =>
   rw[hcl]at hx
   cases hx
   obtain⟨hA,_,h2⟩:=ZA hP hkn hrec _ _ _ h0
   exact⟨fun s=>⟨(hA s).1,fun G vals w R hI ha hR=>(hA s).2 G vals w R hI ha.weakN hR⟩,fun v hv σ δ=>EA 9 v (List.all_eq_true.1 hcl v hv),h2⟩
 ·exact ZA hP hkn hrec _ _ _ hx
theorem handed(hP:DY P){rec:F0}(hrec:Y7 P rec){f:FuncId}{args:List V}{ret:Func→XS→Option Mk}{r:Mk}{d:Tmp}(hcl:args.all (AL 9)=true)(hx:VI P rec ret f args 0 []=some r)
  (hr:∀(fn:Func) (st':XS),ret fn st'=some r→st'.s.up=[]→∀(s:St) (σ':Nat→Nat),∃r0,FM P fn.results.toList (st'.fr.ren σ' (s.up++[s.loc]).length) (st'.s.emb σ' (s.up++[s.loc]))=some r0 ∧
   ((∃k γ T es,(st'.s.emb σ' (s.up++[s.loc])).loc.get k=some (γ,.vec T es)∧uD (s.up.length+1) k s.up.length d 4 r0=r.val s.up.length d γ∧r.res=.vec T es)∨(∃T,VQ r0=true∧r=⟨.vec T [],none⟩)))
  (s:St):E4 P f args s fun v s'=>∃γ,v=r.val s.up.length d γ∧s'=s.put s.up.length d γ r.res:=by
 obtain⟨fn,st',hret,hbd,hc,hlen,hA⟩:=Y8 hP hrec hx (UJ hcl) (fun _ _ _ _=>rfl) (fun L hL=>by cases hL)
 have hargs:∀v∈args,∀σ δ,V.ren σ δ v=v:=fun v hv σ δ=>EA 9 v (List.all_eq_true.1 hcl v hv)
 have hup:st'.s.up=[]:=List.eq_nil_of_length_eq_zero hlen
 have:=hA id (s.up++[s.loc]) s (fun v s'=>∃γ,v=r.val s.up.length d γ∧s'=s.put s.up.length d γ r.res) (by simp) fun σ' _=>?_
 ·have e:args.map (V.ren id (s.up++[s.loc]).length)=args:=by
   conv=>rhs; rw[← List.map_id args]
   exact List.map_congr_left fun v hv=>hargs v hv _ _
  rw[e]at this
  exact this
 ·obtain⟨r0,h1,h2⟩:=hr fn st' hret hup s σ'
  refine⟨s.up,s.loc,r0,by simp[St.emb,hup],rfl,h1,.inr ?_⟩
  rcases h2 with⟨k,γ,T,es,h3,h4,h5⟩ | ⟨T,h3,h4⟩
  ·exact .inl ⟨k,γ,T,es,d,h3,γ,h4,by rw[h5]⟩
  ·subst h4; exact .inr ⟨d,T,h3,fun γ=>⟨γ,rfl,rfl⟩⟩
theorem vC(hP:DY P){rec:F0}(hrec:Y7 P rec){f:FuncId}{args:List V}{r:Mk}{d:Tmp}(hx:MF P rec f args=some r) :
  (∀(s:St),E4 P f args s fun v s'=>∃γ,v=r.val s.up.length d γ∧s'=s.put s.up.length d γ r.res)∧(∀v∈args,∀σ δ,v.ren σ δ=v)∧(∀σ δ,r.res.ren σ δ=r.res)∧eF r.res=true:=by
 unfold MF at hx
 obtain⟨hcl,hx1⟩:=D6 hx
 have hargs:∀v∈args,∀σ δ,V.ren σ δ v=v:=fun v hv σ δ=>EA 9 v (List.all_eq_true.1 hcl v hv)
 have main:∀(fn:Func) (st':XS),nQ P fn st'=some r→((∀σ δ,r.res.ren σ δ=r.res)∧eF r.res=true)∧(st'.s.up=[]→∀(s:St) (σ':Nat→Nat),∃r0,FM P fn.results.toList (st'.fr.ren σ' (s.up++[s.loc]).length) (st'.s.emb σ' (s.up++[s.loc]))=some r0 ∧
   ((∃k γ T es,(st'.s.emb σ' (s.up++[s.loc])).loc.get k=some (γ,.vec T es)∧uD (s.up.length+1) k s.up.length d 4 r0=r.val s.up.length d γ∧r.res=.vec T es)∨(∃T,VQ r0=true∧r=⟨.vec T [],none⟩))):=by
  intro fn st' hret
  unfold nQ at hret
  split at hret
  ·rename_i l k γ n hres
   obtain⟨hl,hret⟩:=D6 hret
   have hl:=Nat.eq_of_beq_eq_true hl
   split at hret
   ·rename_i γ' T es hget
    obtain⟨hc2,he⟩:=I5 hret
    cases he
    simp only[Bool.and_eq_true]at hc2
    obtain⟨⟨h1,h2⟩,h3⟩:=hc2
    have h1:=Nat.eq_of_beq_eq_true h1
    have h2:=Nat.eq_of_beq_eq_true h2
    subst h1; subst h2
    have hes:∀σ δ,es.map (List.map (V.ren σ δ))=es:=fun σ δ=>by
     conv=>rhs; rw[← List.map_id es]
     exact List.map_congr_left fun e he=>MD (fun v=>EA 9 v) (List.all_eq_true.1 h3 e he)
    refine⟨⟨fun σ δ=>by simp only[AX.ren,hes],rfl⟩,fun hup s σ'=>⟨_,NW hres,.inl ⟨k,σ' γ',T,es,?_,?_,rfl⟩⟩⟩
    ·rw[J5,hget]; simp only[Option.map_some,AX.ren,hes]
    ·rw[hup]at hl
     subst hl
     simp[uD,Mk.val,GO]
   ·cases hret
  ·rename_i v hnv hres
   obtain⟨hn,hret⟩:=D6 hret
   split at hret
   ·split at hret
    ·rename_i T _
     cases hret
     exact⟨⟨fun _ _=>rfl,rfl⟩,fun hup s σ'=>⟨_,NW hres,.inr ⟨_,by rw[AA0]; exact hn,rfl⟩⟩⟩
    ·cases hret
   ·cases hret
  ·cases hret
 obtain⟨fn,st',hret,_⟩:=Y8 hP hrec hx1 (UJ hcl) (fun _ _ _ _=>rfl) (fun L hL=>by cases hL)
 exact⟨handed hP hrec hcl hx1 fun fn st' h=>(main fn st' h).2,hargs,(main fn st' hret).1⟩
theorem CP.nought{G:Gh}{s:St}{w:World}(hI:CP G s w)(d γ:Nat):CP G (s.put s.up.length d γ .dead) w:=by
 have look:∀{l k x},(s.put s.up.length d γ .dead).get l k=some x→x=(γ,.dead)∨s.get l k=some x:=fun {l k x} h=>by
  rw[St.get_putLoc]at h
  split at h
  ·exact .inl (Option.some.inj h).symm
  ·exact .inr h
 refine⟨hI.sl,fun l k g r h=>?_,fun l k g r l' k' g' r' b h1 h2 h3 h4=>?_,fun l k g r b h1 h2=>?_,hI.fresh,hI.env⟩
 ·rcases look h with e | e
  ·cases e; trivial
  ·exact hI.res _ _ _ _ e
 ·rcases look h1 with e | e1
  ·cases e; cases h3
  ·rcases look h2 with e | e2
   ·cases e; cases h4
   ·exact hI.sep _ _ _ _ _ _ _ _ _ e1 e2 h3 h4
 ·rcases look h1 with e | e
  ·cases e; cases h2
  ·exact hI.out _ _ _ _ _ e h2
theorem ABD(hP:DY P){kn:CF0}(hkn:GY P kn){ko:CFO}(hko:eJ P ko){rec:F0}(hrec:Y7 P rec):eJ P (NY P kn ko rec):=by
 intro f args d r hx
 unfold NY at hx
 split at hx
 ·rename_i r0 h0
  cases hx
  exact hko _ _ _ _ h0
 ·cases hs:KJ P f with
  | true =>
   rw[hs]at hx
   exact vC hP hrec hx
  | false =>
   rw[hs]at hx
   have hx:(match E9 P kn rec f args with
    | some r=>some (⟨.dead,some r⟩:Mk)
    | none=>none)=some r:=hx
   split at hx
   ·rename_i r0 h0
    cases hx
    obtain⟨hA,h1,h2⟩:=ZB hP hkn hrec _ _ _ h0
    refine⟨fun s=>⟨(hA s).1,fun G vals w R hI ha hR=>(hA s).2 G vals w R hI ha fun G' v u w' s' hle hI' hv hlen hk=>?_⟩,h1,fun _ _=>rfl,rfl⟩
    obtain⟨rfl,rfl⟩:=hk
    exact hR G' _ u w' (s'.put s'.up.length d 0 .dead) hle (hI'.nought d 0) hv (St.put_len _ _ _ _ _) ⟨0,(h2 _ _).symm,rfl⟩
   ·cases hx
theorem ABE(hP:DY P){kn:CF0}(hkn:GY P kn){rec:F0}(hrec:Y7 P rec):bX P (Y3 P kn rec):=by
 intro f args st r st' hx hbd hargs
 unfold Y3 at hx
 cases hcl:(args.all (AL 9)&&!(AK P f))with
 | true =>
  rw[hcl]at hx
  have hx:(match E9 P kn rec f args with | some r=>some (r,st) | none=>none)=some (r,st'):=hx
  split at hx
  ·rename_i r0 h0
   cases hx
   obtain⟨hA,h1,h2⟩:=ZB hP hkn hrec _ _ _ h0
   refine⟨⟨Nat.le_refl _,hbd,rfl⟩,fun σ σ' δ _=>by rw[h2,h2],rfl,fun σ pre K hk=>?_⟩
   have e:args.map (V.ren σ pre.length)=args:=by
    conv=>rhs; rw[← List.map_id args]
    exact List.map_congr_left fun v hv=>h1 v hv _ _
   rw[e]
   refine(hA (st.s.emb σ pre)).mono fun r' s' q5=>?_
   obtain⟨rfl,rfl⟩:=q5
   have:=hk σ (AU.refl _ _)
   rwa [h2]at this
  ·cases hx
 | false =>
  rw[hcl]at hx
  have hx:(match cC P rec f args st.c (st.s.up++[st.s.loc])with
   | some (r,c,up)=>match DA up with
    | some (u,l)=>some (r,(⟨c,st.fr,⟨u,l⟩⟩:XS))
    | none=>none
   | none=>none)=some (r,st'):=hx
  split at hx
  ·rename_i r0 c0 up0 h1
   split at hx
   ·rename_i u l hu
    cases hx
    have hup0:=N3 hu
    have hsb:∀σ σ' δ,AU st.c σ σ'→(st.s.up++[st.s.loc]).map (AB.ren σ δ)=(st.s.up++[st.s.loc]).map (AB.ren σ' δ):=by
     intro σ σ' δ ha
     have:=hbd.s σ σ' (List.replicate δ []) ha
     simp only[St.emb,St.mk.injEq,List.length_replicate]at this
     simp only[List.map_append,List.map_cons,List.map_nil]
     rw[List.append_cancel_left this.1,this.2]
    have hlp:∀L∈st.s.up++[st.s.loc],∀k γ fr ps asg body N st,L.get k=some (γ,.loop fr ps asg body N st)→SY N ps asg body=true:=by
     intro L hL k γ fr ps asg body N ls hg
     obtain⟨i,hi⟩:=List.getElem?_of_mem hL
     refine hbd.lp i k γ fr ps asg body N ls ?_
     have:=G6 st.s.up st.s.loc i k
     rw[hi]at this
     exact this.trans hg
    obtain⟨hc,hrb,hub,hlen,hlp',hA⟩:=jQ hP hrec h1 hargs hsb hlp
    subst hup0
    refine⟨⟨hc,⟨fun σ σ' δ ha=>hbd.f σ σ' δ (ha.mono hc),fun σ σ' pre ha=>?_,fun i k γ fr ps asg body N ls hg=>?_⟩,?_⟩,hrb,rfl,fun σ pre K hk=>?_⟩
    ·have:=hub σ σ' pre.length ha
     simp only[List.map_append,List.map_cons,List.map_nil]at this
     obtain⟨e1,e2⟩:=List.append_inj' this rfl
     simp only[List.cons.injEq,and_true]at e2
     simp only[St.emb,e1,e2]
    ·rw[G6]at hg
     split at hg
     ·rename_i L hL; exact hlp' L (List.mem_of_getElem? hL) _ _ _ _ _ _ _ _ hg
     ·cases hg
    ·simp only[List.length_append,List.length_singleton]at hlen
     simp only
     omega
    ·refine hA σ pre (st.s.emb σ pre) K (by simp[St.emb]) fun σ' u' l' ha hu'=>?_
     have:=hk σ' ha
     simp only[List.map_append,List.map_cons,List.map_nil,← List.append_assoc]at hu'
     obtain⟨e1,e2⟩:=List.append_inj' hu' rfl
     simp only[List.cons.injEq,and_true]at e2
     subst e1; subst e2
     exact this
   ·cases hx
  ·cases hx
end Go.Pg
