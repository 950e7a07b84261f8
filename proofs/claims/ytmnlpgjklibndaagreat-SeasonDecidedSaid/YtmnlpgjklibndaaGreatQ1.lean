/- Running a Go function upon abstract values, by computing: one operation, and that it is what the walk asks. No program in sight. -/
import Derived.Test.YtmnlpgjklibndaaGreatP5
noncomputable section
open Go renaming Oper->dl,Operand->dm,TypeId->dn,Program->dp
open Option renaming bind_eq_some_iff->bj,map_some->bg,bind_some->cg,some->dv
open Nat renaming eq_of_beq_eq_true->bq,le_refl->bc,beq->bn,lt_succ_self->bt,lt_of_lt_of_le->cz,le_succ->cm,blt->dq,le_trans->dw,blt_eq->dx,ble_eq->dz
open List renaming all_eq_true->bw,map_congr_left->bx,replicate->bz,map_inj_left->bf,length_replicate->bh,getElem_mem->br,map_map->cj,getElem_map->ck,map_flatten->cq,map_cons->cx,mem_map_of_mem->cd,mem_map->cp,map->dj,map_replicate->dk,getElem?_mapIdx->db,length_mapIdx->df,map_drop->dg,cons->dh
open Bool renaming and_eq_true->bp
open Prod renaming mk->dc
namespace Go.Pg
variable {P:dp}{Ω:HO P}{σ σ':Nat->Nat}{δ:Nat}{pre:List AA}{s:St}{fr:Fr}{g:Bool}
def LA(all:List dl)(o:dl):Option (Tmp×Bool):=match o.guard with
 |none=>none
 |some (j,w)=>match all[j]? with
  |some p=>match p.dst with
   |some d=>some (d,w)
   |none=>none
  |none=>none
def wP(all:List dl):Bool:=all.all fun o=>HL all o (LA all o)
theorem iI{all:List dl}:∀{l:List dl},(∀o∈l,HL all o (LA all o)=true)->JW all (l.map (LA all)) l=true
 |[],_=>rfl
 |o::l,h=>by simp only[cx,JW,bp];exact⟨h o (by simp),iI fun p hp=>h p (by simp[hp])⟩
theorem S4{all:List dl}(h:wP all=true):∀o∈all,HL all o (LA all o)=true:=fun o ho=>bw.1 h o ho
def A5Q(d:Tmp)(p:dl):Bool:=match p.op with
 |.call { callee:=.builtin .append,args,.. }=>match args.toList with
  |.tmp t::_=>bn t d
  |_=>false
 |.call { callee:=.value (.func _),args,argTypes }=>match args.toList,argTypes.toList with
  |[.tmp t,_],[T,U]=>bn t d&&bn T p.type&&!(bn U T)
  |_,_=>false
 |_=>false
def AS6(d:Tmp)(p:dl):Bool:=match p.op with
 |.store _ _ (.tmp t)=>bn t d
 |_=>false
def DH(l:List dl)(o:dl):Bool:=match o.op,o.dst with
 |.call { callee:=.value _,.. },some d=>l.any fun p=>A5Q d p||AS6 d p
 |_,_=>false
def kS(o:dl):Bool:=match o.op with
 |.mapUpdate ..|.insert ..=>true
 |.call { callee:=.builtin b,.. }=>match b with
  |.len|.max|.min|.cap|.append=>false
  |_=>true
 |_=>false
def kC(o:dl):Bool:=match o.op with
 |.call { callee:=.value _,.. }=>true
 |_=>false
def onB(o:dl)(A:List Nat):Bool:=o.after.any fun e=>Region.binds .any e&&A.contains e.on
def A5R(o:dl)(l:List dl)(A:List Nat):Bool:=kW o&&l.isEmpty&&A.all fun j=>o.after.any fun e=>Region.binds .any e&&bn e.on j
def A5S(o:dl)(i:Nat):List Nat->List Nat
 |[]=>[i]
 |a::A=>cond (onB o [a]) (i::a::A) (a::A5S o i A)
def KE(own:dl->Bool):List dl->Nat->List Nat->List Nat->List Nat->List Nat->List Nat->List Nat->List Nat×List Nat
 |[],_,R,Q,A,S,R2,T=>(R.reverse++Q.reverse++A.reverse++S.reverse++R2.reverse,T.reverse)
 |o::l,i,R,Q,A,S,R2,T=>
  cond (onB o T||kS o||A5R o l (R++Q++A++S++R2++T)||(kC o&&(onB o (Q++S++R2)||(!(own o)&&onB o A)))) (KE own l (i+1) R Q A S R2 (i::T))
   (cond (kP o) (cond (onB o (A++S++R2)) (KE own l (i+1) R Q A S (i :: R2) T) (KE own l (i+1) R (i :: Q) A S R2 T))
   (cond (kW o) (cond (onB o R2) (KE own l (i+1) R Q A S (i :: R2) T) (KE own l (i+1) R Q A (i :: S) R2 T))
    (cond (onB o (Q++S++R2)||(cond (kA own o) (!R2.isEmpty) (onB o (A.take 1)))) (KE own l (i+1) R Q A S (i :: R2) T)
     (cond (kA own o) (KE own l (i+1) R Q (i :: A) S R2 T) (cond (onB o A) (KE own l (i+1) R Q (A5S o i A) S R2 T) (KE own l (i+1) (i :: R) Q A S R2 T))))))
def AOV(af:Nat):List (Nat×Nat)->Nat->Nat
 |[],m=>m
 |p::r,m=>HP (cond (T7 af p.1) (Nat.lor m (Nat.lor p.2 (Nat.shiftLeft 1 p.1))) m) (AOV af r)
def A5T:List (Nat×Nat)->List (Nat×Nat)->List (Nat×Nat)
 |[],acc=>acc
 |p::r,acc=>HP (AOV p.2 acc 0) fun m=>A5T r ((p.1,m)::acc)
def AS7(l:List dl):List Nat:=((A5T (afL l 0) []).filterMap fun p=>cond (bn p.2 (Nat.sub (Nat.pow 2 p.1) 1)) (match l[p.1]? with
 |some o=>cond (kC o&&bn (KS p.1 (afL l 0) 0) (Nat.sub (Nat.pow 2 l.length) (Nat.pow 2 (p.1+1)))) (some p.1) none
 | none=>none) none).reverse
def AOW(own:dl->Bool)(l:List dl):Nat->List Nat->V9
 |i,[]=>[KE own (l.drop i) i [] [] [] [] [] []]
 |i,c::cs=>match KE own ((l.drop i).take (c-i)) i [] [] [] [] [] []with
  |(R,T)=>(R,T++[c])::AOW own l (c+1) cs
def WD(l:List dl):V9:=AOW (DH l) l 0 (AS7 l)
def AS8(l:List dl):List Nat:=l.filterMap fun o=>cond (kA (DH l) o) o.dst none
def GH:Code->Bool
 |.seq a b=>GH a&&GH b
 |.cond _ a b=>GH a&&GH b
 |.block _ c=>GH c
 |.loop c=>GH c
 |.scope _=>false
 |.rangeFunc ..=>false
 |_=>true
def EY(N:Nat):Code->Bool
 |.region _ ops draw=>cond draw (OJ (DH ops.toList) N (ops.toList.map (LA ops.toList)) (WD ops.toList) ops.toList) (LP N ops.toList&&wP ops.toList)
 |.seq a b=>EY N a&&EY N b
 |.cond _ a b=>EY N a&&EY N b
 |.block _ c=>EY N c
 |.loop c=>EY N c
 |.scope c=>EY N c
 |.rangeFunc _ ps asg body=>ps.toList.all (fun p=>dq p N)&&GH asg&&GH body&&EY N asg&&EY N body
 |_=>true
def S5(N:Nat)(ps:List Tmp)(asg body:Code):Bool:=ps.all (fun p=>dq p N)&&GH asg&&GH body&&EY N asg&&EY N body
def S6(s:St):Prop:=∀l k γ fr ps asg body N st,s.get l k=some (γ,.loop fr ps asg body N st)->S5 N ps asg body=true
theorem tD{s:St}{l k γ:Nat}{r:A6}{l' k':Nat}{x:Nat×A6}(h:(s.put l k γ r).get l' k'=some x):x=(γ,r)\/s.get l' k'=some x:=by
 unfold St.put at h;unfold St.get at h|-;by_cases e1:l=s.up.length
 ·rw[if_pos e1]at h;by_cases e2:l'=s.up.length
  ·rw[if_pos e2]at h|-;rw[AA.get_put]at h;split at h
   ·exact .inl (dv.inj h).symm
   ·exact .inr h
  ·rw[if_neg e2]at h|-;exact .inr h
 ·rw[if_neg e1]at h;have hl:({ s with up:=s.up.modify l (fun L=>L.put k γ r) }:St).up.length=s.up.length:=by simp
  rw[hl]at h;by_cases e2:l'=s.up.length
  ·rw[if_pos e2]at h|-;exact .inr h
  ·rw[if_neg e2]at h|-;rw[List.getElem?_modify]at h;cases hu:s.up[l']? with
   |none=>simp[hu]at h
   |some L=>
    rw[hu]at h
    simp only[Option.map_eq_map,bg]at h
    by_cases e3:l=l'
    ·simp only[e3,if_true,AA.get_put]at h;split at h
     ·exact .inl (dv.inj h).symm
     ·exact .inr h
    ·simp only[e3,if_false]at h;exact .inr h
theorem S6.put{s:St}(h:S6 s){l k γ:Nat}{r:A6}(hr:∀fr ps asg body N st,r=.loop fr ps asg body N st->S5 N ps asg body=true):S6 (s.put l k γ r):=by
 intro l' k' γ' fr ps asg body N st hg;rcases tD hg with e|e
 ·cases e;exact hr _ _ _ _ _ _ rfl
 ·exact h _ _ _ _ _ _ _ _ _ e
structure XS where
 c:Nat
 fr:Fr
 s:St
def FD(fr:Fr)(k:Nat):Option (Bool×V):=List.rec (motive:=fun _=>Option (Bool×V)) none (fun x _ ih=>Bool.rec ih (some x.2) (bn k x.1)) fr
theorem GM:∀(fr:Fr) (k:Nat),FD fr k=fr.get k
 |[],_=>rfl
 |(j,x)::fr,k=>by
  show(Bool.rec (FD fr k) (some x) (bn k j):Option (Bool×V))=if k=j then some x else Fr.get fr k
  by_cases h:k=j
  ·subst h;rw[if_pos rfl,Nat.beq_refl]
  ·rw[if_neg h,<-GM fr k];have:bn k j=false:=by
    cases hb:bn k j with
    |false=>rfl
    |true=>exact absurd (bq hb) h
   rw[this]
def B5(fr:Fr)(x:dm):Option V:=match x with
 |.tmp t=>match FD fr t with
  |some (true,v)=>some v
  |_=>none
 |.const v=>CK v
 |.func f=>some (.fn f [] [])
 |.global _=>none
theorem DT(x:dm):B5 fr x=DU true fr x:=by
 cases x with
 |tmp t=>
  simp only[B5,DU,rd,GM]
  cases fr.get t with
  |none=>rfl
  |some p=>
   obtain⟨c,v⟩:=p
   cases c<;>rfl
 |const v=>
  simp only[B5,DU,rd]
  cases CK v<;>rfl
 |func f=>rfl
 |global g=>rfl
theorem FI:B5 fr=DU true fr:=funext fun x=>DT x
def AS(c:Nat)(σ σ':Nat->Nat):Prop:=∀i,i<c->σ i=σ' i
theorem AS.refl(c:Nat)(σ:Nat->Nat):AS c σ σ:=fun _ _=>rfl
theorem AS.trans{c c':Nat}{σ σ' σ'':Nat->Nat}(h:AS c σ σ')(h':AS c' σ' σ'')(hc:c<=c'):AS c σ σ'':=fun i hi=>(h i hi).trans (h' i (cz hi hc))
theorem AS.mono{c c':Nat}(h:AS c' σ σ')(hc:c<=c'):AS c σ σ':=fun i hi=>h i (cz hi hc)
theorem AS.upd(c γ:Nat)(σ:Nat->Nat):AS c σ (fun i=>if i=c then γ else σ i):=fun i hi=>by simp[Nat.ne_of_lt hi]
structure Bd(st:XS):Prop where
 f:∀σ σ' δ,AS st.c σ σ'->st.fr.ren σ δ=st.fr.ren σ' δ
 s:∀σ σ' pre,AS st.c σ σ'->st.s.emb σ pre=st.s.emb σ' pre
 lp:S6 st.s
def TO(c:Nat)(v:V):Prop:=∀σ σ' δ,AS c σ σ'->v.ren σ δ=v.ren σ' δ
structure IX(st st':XS):Prop where
 c:st.c<=st'.c
 bd:Bd st'
 n:st'.s.up.length=st.s.up.length
def StepX(P:dp)(o:dl)(st st':XS):Prop:=IX st st'/\∀(σ:Nat->Nat) (pre:List AA) (k:Fr->St->Prop),(∀σ',AS st.c σ σ'->k (st'.fr.ren σ' pre.length) (st'.s.emb σ' pre))->EF P true o (st.fr.ren σ pre.length) (st.s.emb σ pre) k
theorem E6(d:Option Tmp)(c:Bool)(v:V):(putD fr d c v).ren σ δ=putD (fr.ren σ δ) d c (v.ren σ δ):=by cases d<;>rfl
theorem HX(d:Nat)(c:Bool)(v:V):(fr.put d c v).ren σ δ=(fr.ren σ δ).put d c (v.ren σ δ):=rfl
theorem TO.mono{c c':Nat}{v:V}(h:TO c v)(hc:c<=c'):TO c' v:=fun σ σ' δ ha=>h σ σ' δ (ha.mono hc)
theorem Bd.val{st:XS}(h:Bd st){o:dl}{v:V}(hv:FP P g o st.fr st.s=some v):TO st.c v:=by intro σ σ' δ ha;have h1:=JA (σ:=σ) (pre:=bz δ []) hv;have h2:=JA (σ:=σ') (pre:=bz δ []) hv;rw[h.f σ σ' _ ha,h.s σ σ' _ ha,h2]at h1;have:=dv.inj h1;rw[bh]at this;exact this.symm
theorem Bd.rd{st:XS}(h:Bd st){x:dm}{v:V}(hv:B5 st.fr x=some v):TO st.c v:=by intro σ σ' δ ha;rw[DT]at hv;have h1:=C6 (g:=true) (fr:=st.fr) (σ:=σ) (δ:=δ) x;have h2:=C6 (g:=true) (fr:=st.fr) (σ:=σ') (δ:=δ) x;rw[h.f σ σ' _ ha,h2,hv]at h1;simpa using h1.symm
theorem Bd.putF{st:XS}(h:Bd st){d:Option Tmp}{c:Bool}{v:V}(hv:TO st.c v):Bd { st with fr:=putD st.fr d c v } :=
 ⟨fun σ σ' δ ha=>by simp only[E6];rw[h.f σ σ' δ ha,hv σ σ' δ ha],h.s,h.lp⟩
def plR:A6->Bool
 |.loop ..=>false
 |_=>true
theorem UL{r:A6}(h:plR r=true):∀fr ps asg body N st,r=.loop fr ps asg body N st->S5 N ps asg body=true:=by intro fr ps asg body N st e;subst e;cases h
theorem Bd.putS{st:XS}(h:Bd st){l k γ:Nat}{r:A6}(hγ:γ<st.c)(hr:∀σ σ' δ,AS st.c σ σ'->r.ren σ δ=r.ren σ' δ)(hp:plR r=true:=by rfl):Bd { st with s:=st.s.put l k γ r } :=
 ⟨h.f,fun σ σ' pre ha=>by simp only[CN];rw[h.s σ σ' pre ha,hr σ σ' _ ha,ha γ hγ],h.lp.put (UL hp)⟩
theorem AAM{o:dl}{st:XS}{v:V}(h:Bd st)(hv:FP P true o st.fr st.s=some v):StepX P o st { st with fr:=putD st.fr o.dst true v }:=by refine⟨⟨bc _,h.putF (h.val hv),rfl⟩,fun σ pre k hk=>DS (Ω:=HO.nothing P) (.inl ⟨_,JA hv,?_⟩)⟩;have:=hk σ (AS.refl _ _);rwa [E6]at this
theorem Z2{c:Nat}{v:V}(h:TO c v)(σ σ':Nat->Nat)(δ:Nat)(ha:AS c σ σ'):(BA v).map (V.ren σ δ)=(BA v).map (V.ren σ' δ):=by rw[<-EK,<-EK,h σ σ' δ ha]
def iJ(P:dp)(Ω:HO P)(o:dl)(st st':XS):Prop:=IX st st'/\∃d,o.dst=some d/\∀(σ:Nat->Nat) (pre:List AA) (k:Fr->St->Prop),(∀σ',AS st.c σ σ'->k (st'.fr.ren σ' pre.length) (st'.s.emb σ' pre)) ->
 ∃r,P7 P Ω o (st.fr.ren σ pre.length)=some r/\∀γ,k ((st.fr.ren σ pre.length).put d true (r.val (st.s.emb σ pre).up.length d γ)) ((st.s.emb σ pre).put (st.s.emb σ pre).up.length d γ r.res)
theorem iJ.step{o:dl}{st st':XS}(h:iJ P Ω o st st'):StepX P o st st':=by obtain⟨h1,d,hd,h2⟩:=h;refine⟨h1,fun σ pre k hk=>?_⟩;obtain⟨r,hr,h3⟩:=h2 σ pre k hk;exact DS (Ω:=Ω) (.inr (.inr ⟨r,d,rfl,hd,hr,h3⟩))
theorem eJ{o:dl}{st:XS}{d:Nat}{cs:List V}(h:Bd st)(hd:o.dst=some d)(hcs:∀σ σ' δ,AS st.c σ σ'->cs.map (V.ren σ δ)=cs.map (V.ren σ' δ))
  (hn:∀σ pre,P7 P Ω o (st.fr.ren σ (List.length (α:=AA) pre))=some ⟨.box (cs.map (V.ren σ pre.length)),none⟩) :
  iJ P Ω o st ⟨st.c+1,st.fr.put d true (.ptr st.s.up.length d st.c 0),st.s.put st.s.up.length d st.c (.box cs)⟩:=by
 have hb:∀σ σ',AS (st.c+1) σ σ'->AS st.c σ σ':=fun σ σ' ha=>ha.mono (cm _)
 refine⟨⟨cm _,⟨fun σ σ' δ ha=>?_,fun σ σ' pre ha=>?_,h.lp.put (UL rfl)⟩,St.put_len _ _ _ _ _⟩,d,hd,fun σ pre k hk=>⟨_,hn σ pre,fun γ=>?_⟩⟩
 ·simp only[HX,HS];rw[h.f σ σ' δ (hb _ _ ha),ha st.c (bt _)]
 ·simp only[CN,A6.ren];rw[h.s σ σ' pre (hb _ _ ha),hcs σ σ' _ (hb _ _ ha),ha st.c (bt _)]
 ·have:=hk (fun i=>if i=st.c then γ else σ i) (AS.upd _ _ _);have ha:=AS.upd st.c γ σ;simp only[HX,HS,if_true,CN,A6.ren]at this;rw[<-h.f _ _ _ ha,<-h.s _ _ _ ha,<-hcs _ _ _ ha]at this;rw[C5];exact this
def OS(P:dp)(d:Option Tmp)(T:dn)(st:XS):Option XS:=match d,B8 P T with
 |some d,some cs=>some ⟨st.c+1,(d,true,.ptr st.s.up.length d st.c 0)::st.fr,st.s.put st.s.up.length d st.c (.box cs)⟩
 |_,_=>none
def nQ(d:Option Tmp)(x:dm)(st:XS):Option XS:=match d,B5 st.fr x with
 |some d,some v=>Bool.rec none (some ⟨st.c+1,(d,true,.ptr st.s.up.length d st.c 0)::st.fr,st.s.put st.s.up.length d st.c (.box (BA v))⟩) (BD v)
 |_,_=>none
theorem eK{o:dl}{T:dn}{st st':XS}(h:Bd st)(ho:o.op=.alloc T)(hx:OS P o.dst T st=some st'):iJ P Ω o st st':=by
 unfold OS at hx;split at hx
 ·rename_i d cs hd hz;cases hx;refine eJ h hd (fun σ σ' δ _=>by rw[GY hz,GY hz]) fun σ pre=>?_;simp[P7,ho,hz,GY hz]
 ·cases hx
theorem wQ{o:dl}{T:dn}{x:dm}{st st':XS}(h:Bd st)(ho:o.op=.box T x)(hx:nQ o.dst x st=some st'):iJ P Ω o st st':=by
 unfold nQ at hx;split at hx
 ·rename_i d v hd hv;cases hf:BD v with
  |false=>rw[hf]at hx;cases hx
  |true=>
   rw[hf]at hx
   cases hx
   refine eJ h hd (fun σ σ' δ ha=>Z2 (h.rd hv) σ σ' δ ha) fun σ pre=>?_
   rw[DT]at hv
   simp[P7,ho,C6,hv,IG,hf,EK]
 ·cases hx
def VT(P:dp)(d:Option Tmp)(T:dn)(x y:dm)(st:XS):Option XS:=match d,BR P T with
 |some d,some (none,e)=>match B5 st.fr x,B5 st.fr y with
  |some (.int _ n),some (.int _ m)=>match B8 P e with
   |some z=>if 0<=n/\m=n/\z.length=P.cellsOf e/\n.toNat*P.bytesOf e<=140737488355328/\n.toNat<=maxLen then
     some ⟨st.c+1,(d,true,.vec st.s.up.length d st.c n.toNat)::st.fr,st.s.put st.s.up.length d st.c (.vec e (bz n.toNat z))⟩ else none
   |none=>none
  |_,_=>none
 |_,_=>none
theorem nR{o:dl}{T:dn}{x y:dm}{st st':XS}(h:Bd st)(ho:o.op=.makeSlice T x y)(hx:VT P o.dst T x y st=some st'):iJ P Ω o st st':=by
 unfold VT at hx;split at hx
 ·rename_i d e hd hel;split at hx
  ·rename_i k1 n k2 m h1 h2;split at hx
   ·rename_i z hz;split at hx
    ·rename_i hc;cases hx;rw[DT]at h1 h2;have hr:∀σ δ,(bz n.toNat z).map (dj (V.ren σ δ))=bz n.toNat z:=fun σ δ=>by rw[dk,GY hz]
     have hb:∀σ σ',AS (st.c+1) σ σ'->AS st.c σ σ':=fun σ σ' ha=>ha.mono (cm _);refine⟨⟨cm _,⟨fun σ σ' δ ha=>?_,fun σ σ' pre ha=>?_,h.lp.put (UL rfl)⟩,St.put_len _ _ _ _ _⟩,d,hd,fun σ pre k hk=>⟨⟨.vec e (bz n.toNat z),none⟩,?_,fun γ=>?_⟩⟩
     ·show((st.fr.put d true _).ren σ δ)=((st.fr.put d true _).ren σ' δ);simp only[HX,HT];rw[h.f σ σ' δ (hb _ _ ha),ha st.c (bt _)]
     ·simp only[CN,A6.ren,hr];rw[h.s σ σ' pre (hb _ _ ha),ha st.c (bt _)]
     ·simp only[P7,ho,C6,h1,h2,bg,EE,hel,hz];rw[if_pos hc]
     ·have:=hk (fun i=>if i=st.c then γ else σ i) (AS.upd _ _ _);have ha:=AS.upd st.c γ σ;change k ((st.fr.put d true _).ren _ _) _ at this;simp only[HX,HT,if_true,CN,A6.ren,hr]at this;rw[<-h.f _ _ _ ha,<-h.s _ _ _ ha]at this;simp only[Mk.val,G9,bh];rw[C5];exact this
    ·cases hx
   ·cases hx
  ·cases hx
 ·cases hx
def AAN(d:Option Tmp)(r:Option dm)(st:XS):Option XS:=match d,r with
 |some d,none=>some ⟨st.c+1,(d,true,.mp st.s.up.length d st.c)::st.fr,st.s.put st.s.up.length d st.c (.map [])⟩
 |_,_=>none
theorem wR{o:dl}{T:dn}{r:Option dm}{st st':XS}(h:Bd st)(ho:o.op=.makeMap T r)(hx:AAN o.dst r st=some st'):iJ P Ω o st st':=by
 unfold AAN at hx;split at hx
 ·rename_i d hd;cases hx;have hb:∀σ σ',AS (st.c+1) σ σ'->AS st.c σ σ':=fun σ σ' ha=>ha.mono (cm _);refine⟨⟨cm _,⟨fun σ σ' δ ha=>?_,fun σ σ' pre ha=>?_,h.lp.put (UL rfl)⟩,St.put_len _ _ _ _ _⟩,d,hd,fun σ pre k hk=>⟨⟨.map [],none⟩,?_,fun γ=>?_⟩⟩
  ·show((st.fr.put d true _).ren σ δ)=((st.fr.put d true _).ren σ' δ);simp only[HX,M3];rw[h.f σ σ' δ (hb _ _ ha),ha st.c (bt _)]
  ·simp only[CN,A6.ren,List.map_nil];rw[h.s σ σ' pre (hb _ _ ha),ha st.c (bt _)]
  ·simp only[P7,ho]
  ·have:=hk (fun i=>if i=st.c then γ else σ i) (AS.upd _ _ _);have ha:=AS.upd st.c γ σ;change k ((st.fr.put d true _).ren _ _) _ at this;simp only[HX,M3,if_true,CN,A6.ren,List.map_nil]at this;rw[<-h.f _ _ _ ha,<-h.s _ _ _ ha]at this;simp only[Mk.val,G9];rw[C5];exact this
 ·cases hx
def JM(P:dp)(d:Option Tmp)(T:dn)(x y:dm)(st:XS):Option XS:=match d with
 |some _=>none
 |none=>match B5 st.fr x,B5 st.fr y with
  |some (.ptr l q γ off),some v=>match st.s.get l q with
   |some (γ',.box cs)=>if bn γ' γ&&BD v&&dq 0 (P.cellsOf T)&&bn (BA v).length (P.cellsOf T)&&Nat.ble (off+P.cellsOf T) cs.length&&dq γ st.c then some { st with s:=st.s.put l q γ (.box (A8 cs off (BA v))) } else none
   |_=>none
  |some (.eptr l q γ i off),some v=>match st.s.get l q with
   |some (γ',.vec U es)=>if bn γ' γ&&BD v&&dq 0 (P.cellsOf T)&&bn (BA v).length (P.cellsOf T)&&dq i es.length&&Nat.ble (off+P.cellsOf T) (es.getD i []).length&&dq γ st.c then some { st with s:=st.s.put l q γ (.vec U (es.set i (A8 (es.getD i []) off (BA v)))) } else none
   |_=>none
  |_,_=>none
theorem NA{st:XS}(h:Bd st){l q γ:Nat}{r:A6}(hg:st.s.get l q=some (γ,r))(σ σ':Nat->Nat)(δ:Nat)(ha:AS st.c σ σ'):r.ren σ δ=r.ren σ' δ:=by have h1:=BZ (s:=st.s) (σ:=σ) (pre:=bz δ []) l q;have h2:=BZ (s:=st.s) (σ:=σ') (pre:=bz δ []) l q;rw[h.s σ σ' _ ha,h2,hg]at h1;simp only[bg,bh,dv.injEq,dc.injEq]at h1;exact h1.2.symm
theorem KX(es:List (List V))(i:Nat)(x:List V):(es.set i x).map (dj (V.ren σ δ))=(es.map (dj (V.ren σ δ))).set i (x.map (V.ren σ δ)):=by simp[List.map_set]
theorem eL{o:dl}{T:dn}{x y:dm}{st st':XS}(h:Bd st)(ho:o.op=.store T x y)(hx:JM P o.dst T x y st=some st'):StepX P o st st':=by
 unfold JM at hx;split at hx
 ·cases hx
 ·rename_i hd;split at hx
  ·rename_i l q γ off v h1 h2;split at hx
   ·rename_i γ' cs hg;split at hx
    ·rename_i hc;simp only[bp,dx,dz]at hc;obtain⟨⟨⟨⟨⟨c1,c2⟩,c3⟩,c4⟩,c5⟩,c6⟩:=hc;have c1:=bq c1;have c4:=bq c4;subst c1;cases hx;have hv:=h.rd h2;refine⟨⟨bc _,h.putS c6 fun σ σ' δ ha=>?_,St.put_len _ _ _ _ _⟩,fun σ pre k hk=>?_⟩
     ·have hr:=NA h hg σ σ' δ ha;simp only[A6.ren,A6.box.injEq]at hr|-;rw[<-C9,<-C9,hr,Z2 hv σ σ' δ ha]
     ·have:=hk σ (AS.refl _ _);rw[DT]at h1 h2;unfold EF;simp only[ho,C6,h1,h2,bg,HS,BZ,hg,A6.ren];refine⟨trivial,trivial,by rw[IG];exact c2,c3,by rw[EK];simpa using c4,by simpa using c5,hd,?_⟩;rw[EK,C9];rw[CN]at this;exact this
    ·cases hx
   ·cases hx
  ·rename_i l q γ i off v h1 h2;split at hx
   ·rename_i γ' U es hg;split at hx
    ·rename_i hc;simp only[bp,dx,dz]at hc;obtain⟨⟨⟨⟨⟨⟨c1,c2⟩,c3⟩,c4⟩,c5⟩,c6⟩,c7⟩:=hc;have c1:=bq c1;have c4:=bq c4;subst c1;cases hx;have hv:=h.rd h2;refine⟨⟨bc _,h.putS c7 fun σ σ' δ ha=>?_,St.put_len _ _ _ _ _⟩,fun σ pre k hk=>?_⟩
     ·have hr:=NA h hg σ σ' δ ha;simp only[A6.ren,A6.vec.injEq,true_and]at hr|-;rw[KX,KX,<-C9,<-C9,<-E2,<-E2,hr,Z2 hv σ σ' δ ha]
     ·have:=hk σ (AS.refl _ _);rw[DT]at h1 h2;unfold EF;simp only[ho,C6,h1,h2,bg,OK,BZ,hg,A6.ren];refine⟨trivial,trivial,by rw[IG];exact c2,c3,by rw[EK];simpa using c4,by simpa using c5,by rw[E2];simpa using c6,hd,?_⟩;rw[E2,EK,C9,<-KX];rw[CN]at this;exact this
    ·cases hx
   ·cases hx
  ·cases hx
def AAO(P:dp)(d:Option Tmp)(T:dn)(x i y:dm)(st:XS):Option XS:=match d with
 |some _=>none
 |none=>match B5 st.fr x,B5 st.fr i,B5 st.fr y with
  |some m,some i,some v=>match I5 P st.s T m i v with
   |some (l,q,γ,es)=>Bool.rec none (some { st with s:=st.s.put l q γ (.map es) }) (dq γ st.c)
   |none=>none
  |_,_,_=>none
theorem AK6{o:dl}{T:dn}{x i y:dm}{st st':XS}(h:Bd st)(ho:o.op=.mapUpdate T x i y)(hx:AAO P o.dst T x i y st=some st'):StepX P o st st':=by
 unfold AAO at hx;split at hx
 ·cases hx
 ·rename_i hd;split at hx
  ·rename_i m i' v h1 h2 h3;split at hx
   ·rename_i l q γ es hu;cases hb:dq γ st.c with
    |false=>rw[hb]at hx;cases hx
    |true=>
     rw[hb]at hx
     have hlt:γ<st.c:=by simpa using hb
     cases hx
     have hm:=h.rd h1
     have hi:=h.rd h2
     have hv:=h.rd h3
     refine⟨⟨bc _,h.putS hlt fun σ σ' δ ha=>?_,St.put_len _ _ _ _ _⟩,fun σ pre k hk=>?_⟩
     ·have q1:=UB (σ:=σ) (pre:=bz δ []) hu;have q2:=UB (σ:=σ') (pre:=bz δ []) hu;rw[h.s σ σ' _ ha,hm σ σ' _ ha,hi σ σ' _ ha,hv σ σ' _ ha,q2]at q1;simp only[dv.injEq,dc.injEq,bh]at q1;simp only[A6.ren,q1.2.2.2]
     ·have:=hk σ (AS.refl _ _);rw[DT]at h1 h2 h3;unfold EF;simp only[ho,C6,h1,h2,h3,bg,UB hu];refine⟨trivial,hd,?_⟩;rw[CN]at this;exact this
   ·cases hx
  ·cases hx
def UM(P:dp)(d:Option Tmp)(args:List dm)(Ts:List dn)(st:XS):Option XS:=match args,Ts,d with
 |[x],[T],none=>match BR P T,B5 st.fr x with
  |some (none,e),some (.vtl l q γ i n)=>match st.s.get l q,B8 P e with
   |some (γ',.vec U es),some z=>Bool.rec none (some { st with s:=st.s.put l q γ (.vec U (es.take i++bz n z++es.drop (i+n))) }) (bn γ' γ&&bn U e&&Nat.ble (i+n) es.length&&es.all (fun y=>y.length==z.length)&&dq γ st.c)
   |_,_=>none
  |_,_=>none
 |_,_,_=>none
theorem AAP{o:dl}{args:Array dm}{Ts:Array dn}{st st':XS}(h:Bd st)(ho:o.op=.call { callee:=.builtin .clear,args:=args,argTypes:=Ts })(hx:UM P o.dst args.toList Ts.toList st=some st'):StepX P o st st':=by
 unfold UM at hx;split at hx
 ·rename_i x T ha hT hd;split at hx
  ·rename_i e l q γ i n hel h1;split at hx
   ·rename_i γ' U es z hg hz;cases hb:(bn γ' γ&&bn U e&&Nat.ble (i+n) es.length&&es.all (fun y=>y.length==z.length)&&dq γ st.c)with
    |false=>rw[hb]at hx;cases hx
    |true=>
     rw[hb]at hx
     cases hx
     simp only[bp,dx,dz]at hb
     obtain⟨⟨⟨⟨c1,c2⟩,c3⟩,c4⟩,c5⟩:=hb
     have c1:=bq c1
     have c2:=bq c2
     subst c1;subst c2
     have hz':∀σ δ,z.map (V.ren σ δ)=z:=fun σ δ=>GY hz
     refine⟨⟨bc _,h.putS c5 fun σ σ' δ ha=>?_,St.put_len _ _ _ _ _⟩,fun σ pre k hk=>?_⟩
     ·have hr:=NA h hg σ σ' δ ha;simp only[A6.ren,A6.vec.injEq,true_and]at hr|-;simp only[List.map_append,List.map_take,dg,dk,hz',hr]
     ·have:=hk σ (AS.refl _ _);rw[DT]at h1;unfold EF;simp only[ho,ha,hT,hd,hel,C6,h1,bg,XA,BZ,hg,hz,A6.ren];refine⟨trivial,trivial,trivial,by simpa using c3,?_,?_⟩
      ·rw[List.all_map];exact c4▸(by congr 1;funext x;simp)
      ·rw[CN]at this;simp only[A6.ren,List.map_append,List.map_take,dg,dk,hz']at this;exact this
   ·cases hx
  ·cases hx
 ·cases hx
theorem tE{o:dl}{l q γ:Nat}{r:A6}(h:DB P o fr s=some (l,q,γ,r)):DB P o (fr.ren σ pre.length) (s.emb σ pre)=some (l+pre.length,q,σ γ,r.ren σ pre.length):=by
 unfold DB at h|-;split at h
 ·rename_i T x y ho;simp only[C6];split at h
  ·rename_i l1 q1 γ1 off v e1 e2;simp only[e1,e2,bg,HS,BZ];split at h
   ·rename_i γ2 cs e3;split at h
    ·rename_i hc;cases h;obtain⟨c1,c2,c3,c4,c5,c6⟩:=hc;subst c1;simp only[e3,bg,A6.ren,IG,EK,List.length_map];rw[if_pos ⟨trivial,c2,c3,c4,c5,c6⟩,C9]
    ·cases h
   ·cases h
  ·rename_i l1 q1 γ1 i off v e1 e2;simp only[e1,e2,bg,OK,BZ];split at h
   ·rename_i γ2 U es e3;split at h
    ·rename_i hc;cases h;obtain⟨c1,c2,c3,c4,c5,c6,c7⟩:=hc;subst c1;simp only[e3,bg,A6.ren,IG,EK,List.length_map,E2];rw[if_pos ⟨trivial,c2,c3,c4,c5,c6,c7⟩,C9,<-KX]
    ·cases h
   ·cases h
  ·cases h
 ·cases h
theorem AFX{o:dl}{T:dn}{x y:dm}{st st':XS}(ho:o.op=.store T x y)(hx:JM P o.dst T x y st=some st'):∃l q γ r,DB P o st.fr st.s=some (l,q,γ,r)/\st'={ st with s:=st.s.put l q γ r }:=by
 unfold JM at hx;unfold DB;simp only[ho];split at hx
 ·cases hx
 ·rename_i hd;split at hx
  ·rename_i l q γ off v h1 h2;split at hx
   ·rename_i γ' cs hg;split at hx
    ·rename_i hc;simp only[bp,dx,dz]at hc;obtain⟨⟨⟨⟨⟨c1,c2⟩,c3⟩,c4⟩,c5⟩,c6⟩:=hc;have c1:=bq c1;have c4:=bq c4;subst c1;cases hx;rw[DT]at h1 h2;refine⟨_,_,_,_,?_,rfl⟩;simp only[h1,h2,hg];rw[if_pos ⟨trivial,c2,c3,c4,c5,hd⟩]
    ·cases hx
   ·cases hx
  ·rename_i l q γ i off v h1 h2;split at hx
   ·rename_i γ' U es hg;split at hx
    ·rename_i hc;simp only[bp,dx,dz]at hc;obtain⟨⟨⟨⟨⟨⟨c1,c2⟩,c3⟩,c4⟩,c5⟩,c6⟩,c7⟩:=hc;have c1:=bq c1;have c4:=bq c4;subst c1;cases hx;rw[DT]at h1 h2;refine⟨_,_,_,_,?_,rfl⟩;simp only[h1,h2,hg];rw[if_pos ⟨trivial,c2,c3,c4,c5,c6,hd⟩]
    ·cases hx
   ·cases hx
  ·cases hx
def AA.hide(W:AN)(l:Nat)(L:AA):AA:=L.filter fun e=>!(W.contains (l,e.1))
theorem AA.get_hide(W:AN)(l:Nat):∀(L:AA) (k:Nat),(l,k)∉W->(L.hide W l).get k=L.get k
 |[],k,_=>rfl
 |(j,x)::L,k,hk=>by
  have ih:=AA.get_hide W l L k hk;unfold AA.hide at ih|-;rw[List.filter_cons];split
  ·simp only[AA.get];split
   ·rfl
   ·exact ih
  ·rename_i hc;simp only[Bool.not_eq_true',Bool.not_eq_false,List.contains_iff_mem]at hc;rw[ih];simp only[AA.get];rw[if_neg (fun e=>hk (by rw[e];simpa using hc))]
theorem AA.get_hide'(W:AN)(l:Nat):∀(L:AA) (k:Nat),(l,k)∈W->(L.hide W l).get k=none
 |[],k,_=>rfl
 |(j,x)::L,k,hk=>by
  have ih:=AA.get_hide' W l L k hk;unfold AA.hide at ih|-;rw[List.filter_cons];split
  ·rename_i hc;simp only[AA.get];rw[if_neg (fun e=>by subst e;simp[hk]at hc)];exact ih
  ·exact ih
def St.hide(W:AN)(s:St):St:=⟨s.up.mapIdx fun l L=>L.hide W l,s.loc.hide W s.up.length⟩
theorem St.get_hide{W:AN}{l k:Nat}(h:(l,k)∉W):(s.hide W).get l k=s.get l k:=by
 unfold St.get St.hide;simp only[df];split
 ·rename_i e;subst e;exact AA.get_hide W _ _ _ h
 ·rw[db];cases s.up[l]? with
  |none=>rfl
  |some L=>exact AA.get_hide W _ _ _ h
theorem St.get_hide'{W:AN}{l k:Nat}(h:(l,k)∈W):(s.hide W).get l k=none:=by
 unfold St.get St.hide;simp only[df];split
 ·rename_i e;subst e;exact AA.get_hide' W _ _ _ h
 ·rw[db];cases s.up[l]? with
  |none=>rfl
  |some L=>exact AA.get_hide' W _ _ _ h
theorem NB(W:AN):SJ W (s.hide W) s:=fun l k x e=>by
 by_cases h:(l,k)∈W
 ·rw[St.get_hide' h]at e;cases e
 ·exact⟨h,by rw[<-St.get_hide h];exact e⟩
def DE:Option V->AN
 |some (.ptr l k _ _)=>[(l,k)]
 |some (.eptr l k _ _ _)=>[(l,k)]
 |some (.vec l k _ _)=>[(l,k)]
 |some (.mp l k _)=>[(l,k)]
 |_=>[]
def FE(one:Bool)(x:Option V):AN:=match one,x with
 |true,some (.ptr l k _ off)=>[(l,k+P8),(l,k+SK),(l,NX k off)]
 |true,some (.eptr l k _ _ off)=>[(l,k+P8),(l,k+SK),(l,NX k off)]
 |_,x=>DE x
def IJ(one:Bool)(x:Option V):AN:=match one,x with
 |true,some (.ptr l k _ off)=>[(l,k),(l,NX k off)]
 |true,some (.eptr l k _ _ off)=>[(l,k),(l,NX k off)]
 |false,some (.ptr l k _ _)=>[(l,k),(l,k+SK)]
 |false,some (.eptr l k _ _ _)=>[(l,k),(l,k+SK)]
 |_,_=>[]
def AFY:Option V->Bool
 |some (.ptr ..)=>true
 |some (.eptr ..)=>true
 |_=>false
def EN:Option V->AN
 |some (.vec l k _ _)=>[(l,k)]
 |some (.vtl l k _ _ _)=>[(l,k)]
 |some (.ptr l k _ _)=>[(l,k)]
 |_=>[]
def KF:Option V->AN
 |some (.vec l k _ _)=>[(l,k+P8)]
 |_=>[]
def nS(P:dp)(o:dl)(r:dm->Option V):Bool:=match o.op with
 |.load T x=>bn (P.cellsOf T) 1&&AFY (r x)
 |.indexAddr _ x _=>match r x with
  |some (.vec ..)=>true
  |_=>false
 |_=>false
def IL(r:dm->Option V):List dm->AN
 |[_,y]=>EN (r y)
 |_=>[]
def AFZ:List Nat:=[118]
def F7:dm->Bool
 |.func f=>AFZ.contains f
 |_=>false
def RF(r:dm->Option V):List dm->AN
 |[x]=>EN (r x)
 |_=>[]
def D9(P:dp)(o:dl)(r:dm->Option V):AN:=match o.op with
 |.load T x=>FE (bn (P.cellsOf T) 1) (r x)
 |.indexAddr _ x _=>KF (r x)
 |.slice _ x ..=>EN (r x)
 |.lookup _ x ..=>DE (r x)
 |.call { callee:=.builtin .append,args,.. }=>IL r args.toList
 |.call { callee:=.value f,args,.. }=>cond (F7 f) (RF r args.toList) []
 |_=>[]
theorem iK{W:AN}{x:V}{es:List (List V)}(h:elemsOf s x=some es)(hr:∀p∈EN (some x),p∉W):elemsOf (s.hide W) x=some es:=by
 cases x with
 |vec l k g n=>
  have hn:(l,k)∉W:=hr _ (by simp[EN])
  simp only[elemsOf,St.get_hide hn]at h|-
  exact h
 |vtl l k g i n=>
  have hn:(l,k)∉W:=hr _ (by simp[EN])
  simp only[elemsOf,St.get_hide hn]at h|-
  exact h
 |list b es=>exact h
 |nil=>exact h
 |raw v=>exact(VG _ _ v).trans h
 |_=>cases h
theorem AF0{W:AN}{o:dl}{r:dm->Option V}{v:V}(h:JG P o s r=some v)(hi:nS P o r=false)(hr:∀p∈D9 P o r,p∉W):JG P o (s.hide W) r=some v:=by
 unfold JG at h|-;split at h;case h_4 T x ho=>
  obtain⟨p,h1,h2⟩:=bj.1 h
  obtain⟨cs,h3,h4⟩:=bj.1 h2
  have:BF (s.hide W) p=some cs:=by
   cases p with
   |ptr l k g off=>
    have hb:bn (P.cellsOf T) 1=false:=by simpa [nS,ho,h1,AFY]using hi
    have hn:(l,k)∉W:=hr _ (by simp[D9,ho,h1,FE,hb,DE])
    simp only[BF,St.get_hide hn]at h3|-;exact h3
   |eptr l k g i off=>
    have hb:bn (P.cellsOf T) 1=false:=by simpa [nS,ho,h1,AFY]using hi
    have hn:(l,k)∉W:=hr _ (by simp[D9,ho,h1,FE,hb,DE])
    simp only[BF,St.get_hide hn]at h3|-;exact h3
   |_=>exact h3
  simp only[h1,cg,this,h4]
 case h_10 T x i ho=>
  obtain⟨p,h1,h2⟩:=bj.1 h
  obtain⟨q,h3,h4⟩:=bj.1 h2
  have:BV P (s.hide W) T p q=some v:=by
   unfold BV at h4|-;split at h4
   ·exact h4
   ·rename_i e l k g n k' j e1;simp[nS,ho,h1]at hi
   ·exact h4
   ·exact h4
   ·exact h4
   ·cases h4
  simp only[h1,h3,cg,this]
 case h_16 T x lo hi mx ho=>
  obtain⟨p,h1,h2⟩:=bj.1 h
  obtain⟨q,h3,h4⟩:=bj.1 h2
  obtain⟨q',h5,h6⟩:=bj.1 h4
  obtain⟨q2,h7,h8⟩:=bj.1 h6
  have:CG P (s.hide W) T p q q' q2=some v:=by
   unfold CG at h8|-;split at h8;case h_6 e l k g n k' i e1=>
    have hn:(l,k)∉W:=hr _ (by simp[D9,ho,h1,EN])
    simp only[St.get_hide hn];exact h8
   case h_7 n e l k g o e1=>
    have hn:(l,k)∉W:=hr _ (by simp[D9,ho,h1,EN])
    simp only[St.get_hide hn];exact h8
   all_goals exact h8
  simp only[h1,h3,h5,h7,cg,this]
 case h_17 T x i ok ho=>
  obtain⟨p,h1,h2⟩:=bj.1 h
  obtain⟨q,h3,h4⟩:=bj.1 h2
  have:CO P (s.hide W) T p q ok=some v:=by
   unfold CO at h4|-;split at h4
   ·rename_i K E l k g e1;have hn:(l,k)∉W:=hr _ (by simp[D9,ho,h1,DE]);simp only[St.get_hide hn];exact h4
   ·cases h4
  simp only[h1,h3,cg,this]
 all_goals exact h
theorem AAQ{W:AN}{o:dl}{v:V}(h:FP P g o fr s=some v)(hi:nS P o (DU g fr)=false)(hr:∀p∈D9 P o (DU g fr),p∉W):FP P g o fr (s.hide W)=some v:=by
 unfold FP at h|-;split at h
 ·exact h
 ·exact h
 ·exact h
 ·exact h
 ·exact AF0 h hi hr
def XD(δ:Nat)(W:AN):AN:=W.map fun p=>(p.1+δ,p.2)
theorem KY{W:AN}{l k:Nat}:(l+δ,k)∈XD δ W↔(l,k)∈W:=by
 unfold XD;simp only[cp,dc.injEq,Prod.exists];constructor
 ·rintro ⟨a,b,h,h1,h2⟩;have:a=l:=by omega
  subst this;subst h2;exact h
 ·intro h;exact⟨l,k,h,rfl,rfl⟩
theorem VU(x:Option V):DE (x.map (V.ren σ δ))=XD δ (DE x):=by
 cases x with
 |none=>rfl
 |some v=>cases v<;>simp[DE,XD]
theorem NC(x:Option V):EN (x.map (V.ren σ δ))=XD δ (EN x):=by
 cases x with
 |none=>rfl
 |some v=>cases v<;>simp[EN,XD]
theorem tF(x:Option V):KF (x.map (V.ren σ δ))=XD δ (KF x):=by
 cases x with
 |none=>rfl
 |some v=>cases v<;>simp[KF,XD]
theorem tG(b:Bool)(x:Option V):FE b (x.map (V.ren σ δ))=XD δ (FE b x):=by
 cases b with
 |false=>exact VU x
 |true=>
  cases x with
  |none=>rfl
  |some v=>cases v<;>simp[FE,DE,XD]
theorem AS9{W:AN}{o:dl}{v:V}(h:FP P g o fr s=some v)(hi:nS P o (DU g fr)=true)(hr:∀p∈D9 P o (DU g fr),p∉W):cG P W g o fr s v:=by
 unfold nS at hi;split at hi
 ·rename_i T x ho;rw[bp]at hi;have h1:=bq hi.1;unfold FP at h;simp only[ho,JG]at h;obtain⟨p,hx,h⟩:=bj.1 h;obtain⟨cs,hcs,hv⟩:=bj.1 h;have hp:=hi.2;rw[hx]at hp;cases p with
  |ptr l k γ off=>
   have hr':∀p∈[(l,k+P8),(l,k+SK),(l,NX k off)],p∉W:=fun p hp=>hr p (by simp only[D9,ho,hx,hi.1,FE];exact hp)
   refine .inr ⟨T,x,_,cs,l,k,off,ho,hx,rfl,hcs,hv,by omega,hr' _ (by simp),hr' _ (by simp),fun c hc=>?_⟩
   obtain rfl:c=0:=by omega
   exact hr' _ (by simp)
  |eptr l k γ i off=>
   have hr':∀p∈[(l,k+P8),(l,k+SK),(l,NX k off)],p∉W:=fun p hp=>hr p (by simp only[D9,ho,hx,hi.1,FE];exact hp)
   refine .inr ⟨T,x,_,cs,l,k,off,ho,hx,rfl,hcs,hv,by omega,hr' _ (by simp),hr' _ (by simp),fun c hc=>?_⟩
   obtain rfl:c=0:=by omega
   exact hr' _ (by simp)
  |_=>cases hp
 ·rename_i T x i ho;split at hi
  ·rename_i l k γ n hx;unfold FP at h;simp only[ho,JG,hx,cg]at h;obtain⟨iv,hiv,h⟩:=bj.1 h;unfold BV at h;split at h
   ·rename_i e1 e2;cases e2
   ·rename_i e l' k' γ' n' ki j e1 e2;cases e2;split at h
    ·rename_i γ2 T' es hget;split at h
     ·rename_i hc;obtain⟨rfl,hc⟩:=hc;exact .inl ⟨T,x,i,e,_,_,_,_,ki,j,T',es,ho,hx,hiv,e1,hr _ (by simp[D9,ho,hx,KF]),hget,hc,(dv.inj h).symm⟩
     ·cases h
    ·cases h
   ·rename_i e1 e2;cases e2
   ·rename_i e1 e2;cases e2
   ·rename_i e1 e2;cases e2
   ·cases h
  ·cases hi
 ·cases hi
theorem tH{r:dm->Option V}(l:List dm):IL (fun x=>(r x).map (V.ren σ δ)) l=XD δ (IL r l):=by
 unfold IL;split
 ·exact NC _
 ·rfl
theorem tI{r:dm->Option V}(l:List dm):RF (fun x=>(r x).map (V.ren σ δ)) l=XD δ (RF r l):=by
 unfold RF;split
 ·exact NC _
 ·rfl
theorem tJ{o:dl}{r:dm->Option V}:D9 P o (fun x=>(r x).map (V.ren σ δ))=XD δ (D9 P o r):=by
 unfold D9;split
 ·exact tG _ _
 ·exact tF _
 ·exact NC _
 ·exact VU _
 ·exact tH _
 ·rename_i f args _ _;cases F7 f with
  |false=>rfl
  |true=>exact tI _
 ·rfl
theorem nT{W rd:AN}(h:∀p∈rd,p∉W):∀p∈XD δ rd,p∉XD δ W:=by intro p hp;unfold XD at hp;obtain⟨⟨l,k⟩,hq,rfl⟩:=cp.1 hp;exact fun hc=>h _ hq (KY.1 hc)
end Go.Pg
namespace Go.Pg
variable {P:dp}{σ σ':Nat->Nat}{δ:Nat}{pre:List AA}{s:St}{fr:Fr}{G G':Gh}{w:World}
def BS(l k:Nat)(o:Option (Nat×A6)):Nat->V->V
 |0,v=>v
 |f+1,v=>match v with
  |.vec l' k' g m=>match o with
   |some (γ,.vec _ es)=>if l'=l/\k'=k/\g=γ/\m=es.length then .list false es else v
   |_=>v
  |.ptr l' k' g off=>match o with
   |some (γ,.box cs)=>if l'=l/\k'=k/\g=γ then .ref ((cs.map MU).drop off) else v
   |_=>v
  |.agg cs=>.agg (cs.map (BS l k o f))
  |.tup cs=>.tup (cs.map (BS l k o f))
  |v=>v
def KG(l k:Nat)(o:Option (Nat×A6)):A6->A6
 |.box cs=>.box (cs.map (BS l k o 3))
 |.vec T es=>.vec T (es.map (dj (BS l k o 3)))
 |r=>r
def KZ(l k:Nat)(o:Option (Nat×A6))(fr:Fr):Fr:=fr.map fun x=>(x.1,x.2.1,BS l k o 3 x.2.2)
def FS(l k:Nat)(o:Option (Nat×A6)):AA->AA
 |[]=>[]
 |(j,g,r)::L=>if j=k then FS l k o L else(j,g,KG l k o r)::FS l k o L
def ET(k:Nat)(st:XS):XS:=⟨st.c,KZ st.s.up.length k (st.s.loc.get k) st.fr,⟨st.s.up,FS st.s.up.length k (st.s.loc.get k) st.s.loc⟩⟩
def VV(ks:List Nat)(st:XS):XS:=List.rec (motive:=fun _=>XS->XS) (fun st=>st) (fun k _ ih st=>ih (ET k st)) ks st
theorem UN(l k:Nat)(o:Option (Nat×A6)):∀(fr:Fr) (j:Nat),(KZ l k o fr).get j=(fr.get j).map fun x=>(x.1,BS l k o 3 x.2)
 |[],_=>rfl
 |(i,c,v)::fr,j=>by
  have ih:=UN l k o fr j;simp only[KZ,cx,Fr.get]at ih|-;split
  ·rfl
  ·exact ih
theorem UO(l k:Nat)(o:Option (Nat×A6)):∀(L:AA) (j:Nat),(FS l k o L).get j=if j=k then none else(L.get j).map fun x=>(x.1,KG l k o x.2)
 |[],j=>by simp[FS]
 |(i,g,r)::L,j=>by
  have ih:=UO l k o L j;unfold FS;by_cases h:i=k
  ·rw[if_pos h,ih];by_cases hj:j=k
   ·simp[hj]
   ·rw[if_neg hj,if_neg hj,AA.get,if_neg (by rw[h];exact hj)]
  ·rw[if_neg h];simp only[AA.get];by_cases hj:j=i
   ·subst hj;rw[if_pos rfl,if_pos rfl,if_neg h];rfl
   ·rw[if_neg hj,if_neg hj,ih]
def RG(G G':Gh)(σ:Nat->Nat)(δ l k:Nat)(o:Option (Nat×A6)):Prop:=(∀γ T es,o=some (γ,.vec T es)->∀v,RepV G (.vec (l+δ) k (σ γ) es.length) v->RepV G' (.list false (es.map (dj (V.ren σ δ)))) v) /\
 ∀γ cs,o=some (γ,.box cs)->∀off v,RepV G (.ptr (l+δ) k (σ γ) off) v->RepV G' (.ref (((cs.map MU).drop off).map (V.ren σ δ))) v
theorem AF1(v:V):(MU v).ren σ δ=MU (v.ren σ δ):=by cases v<;>simp[MU]
theorem PO(cs:List V)(off:Nat):((cs.map MU).drop off).map (V.ren σ δ)=((cs.map (V.ren σ δ)).map MU).drop off:=by rw[dg,cj,cj];congr 1;exact bx fun v _=>AF1 v
theorem eM{l k:Nat}{o:Option (Nat×A6)}:∀(f:Nat) (v:V),(v.ren σ δ).isCell=true->((BS l k o f v).ren σ δ).isCell=true
 |0,v,h=>h
 |f+1,v,h=>by
  cases v with
  |agg cs=>simp only[FH]at h;cases h
  |tup cs=>simp only[HR]at h;cases h
  |vec l' k' g m=>
   simp only[BS]
   split
   ·split
    ·simp only[EB];rfl
    ·exact h
   ·exact h
  |ptr l' k' g off=>
   simp only[BS]
   split
   ·split
    ·simp only[KT];rfl
    ·exact h
   ·exact h
  |_=>exact h
theorem OT{l k:Nat}{o:Option (Nat×A6)}(hle:G.le G')(ho:RG G G' σ δ l k o):∀(f:Nat) (x:V) (v:Value),RepV G (x.ren σ δ) v->RepV G' ((BS l k o f x).ren σ δ) v
 |0,x,v,h=>h.mono hle
 |f+1,x,v,h=>by
  have ih:=OT hle ho f;cases x with
  |vec l' k' g m=>
   simp only[BS]
   split
   ·rename_i γ T es;split
    ·rename_i hc;obtain⟨rfl,rfl,rfl,rfl⟩:=hc;simp only[HT,EB]at h|-;exact ho.1 _ _ _ rfl v h
    ·exact h.mono hle
   ·exact h.mono hle
  |ptr l' k' g off=>
   simp only[BS]
   split
   ·rename_i γ cs;split
    ·rename_i hc;obtain⟨rfl,rfl,rfl⟩:=hc;simp only[HS,KT]at h|-;exact ho.2 _ _ rfl off v h
    ·exact h.mono hle
   ·exact h.mono hle
  |agg cs=>
   simp only[BS,FH]at h|-
   cases h with
   |agg _ arr hl hc hr=>
    refine .agg _ arr (by simpa using hl) (fun c hc'=>?_) (fun i h1 h2=>?_)
    ·simp only[cp]at hc';obtain⟨d,⟨e,he,rfl⟩,rfl⟩:=hc';exact eM f e (hc _ (cd he))
    ·have h1':i<cs.length:=by simpa using h1
     have q:=hr i (by simpa using h1) h2;simp only[ck]at q|-;exact ih _ _ q
  |tup cs=>
   simp only[BS,HR]at h|-
   cases h with
   |tup _ arr hl hr=>
    refine .tup _ arr (by simpa using hl) (fun i h1 h2=>?_)
    have q:=hr i (by simpa using h1) h2
    simp only[ck]at q|-
    exact ih _ _ q
  |_=>exact h.mono hle
theorem Z3{l k:Nat}{o:Option (Nat×A6)}(hle:G.le G')(ho:RG G G' σ δ l k o){cs:List V}{vs:List Value}(h:RepL G (cs.map (V.ren σ δ)) vs):RepL G' ((cs.map (BS l k o 3)).map (V.ren σ δ)) vs :=
 ⟨by simpa using h.1,fun i p q=>by
  have r:=h.2 i (by simpa using p) q;simp only[ck]at r |-;exact⟨eM 3 _ r.1,OT hle ho 3 _ _ r.2⟩⟩
theorem AAR{l k:Nat}{o:Option (Nat×A6)}(hle:G.le G')(ho:RG G G' σ δ l k o){g:Nat}{r:A6}(h:HJ G g w (r.ren σ δ)):HJ G' g w ((KG l k o r).ren σ δ):=by
 cases r with
 |box cs=>
  obtain⟨b,arr,T,h1,h2,h3⟩:=h
  exact⟨b,arr,T,by simpa using hle.2 _ _ h1,h2,Z3 hle ho h3⟩
 |vec T es=>
  obtain⟨b,sz,C,h1,h2,h3,h4,h5⟩:=h
  refine⟨b,sz,C,hle.2 _ _ h1,by simpa using h2,fun e he=>?_,⟨h4.1,fun h=>h4.2 (by simpa using h)⟩,fun hC=>?_⟩
  ·simp only[cp]at he;obtain⟨e1,⟨e2,he2,rfl⟩,rfl⟩:=he;have:=h3 (e2.map (V.ren σ δ)) (cd he2);simpa using this
  ·obtain⟨arr,h6,h7,h8⟩:=h5 hC;refine⟨arr,h6,h7,?_⟩;have q:RepL G (es.flatten.map (V.ren σ δ)) (arr.toList.take (es.length*sz)):=by rw[cq];simpa using h8
   have q2:=Z3 hle ho q;rw[cq,cq]at q2;simpa using q2
 |map es=>exact h.keep hle fun _ _=>rfl
 |loop fr ps asg body N st=>exact h.keep hle fun _ _=>rfl
 |dead=>trivial
theorem AAS(G:Gh)(l k:Nat)(o:Option (Nat×A6))(g:Nat)(r:A6):BG G g ((KG l k o r).ren σ δ)=BG G g (r.ren σ δ):=by cases r<;>rfl
theorem AF2{k:Nat}{st:XS}{l j:Nat}{x:Nat×A6}(h:((ET k st).s.emb σ pre).get l j=some x) :
  ¬(l=st.s.up.length+pre.length/\j=k)/\((st.s.emb σ pre).get l j=some x\/∃r,(st.s.emb σ pre).get l j=some (x.1,r.ren σ pre.length)/\x.2=(KG st.s.up.length k (st.s.loc.get k) r).ren σ pre.length):=by
 have hlen:(st.s.emb σ pre).up.length=st.s.up.length+pre.length:=by rw[C5]
 have hup:((ET k st).s.emb σ pre).up=(st.s.emb σ pre).up:=rfl
 unfold St.get at h|-
 rw[hup]at h
 by_cases e:l=(st.s.emb σ pre).up.length
 ·rw[if_pos e]at h|-;have h':((FS st.s.up.length k (st.s.loc.get k) st.s.loc).ren σ pre.length).get j=some x:=h;rw[AA.get_ren,UO]at h';by_cases hj:j=k
  ·rw[if_pos hj]at h';cases h'
  ·rw[if_neg hj]at h';refine⟨fun hh=>hj hh.2,.inr ?_⟩;have hl:(st.s.emb σ pre).loc.get j=(st.s.loc.get j).map fun p=>(σ p.1,p.2.ren σ pre.length):=AA.get_ren _ _;rw[hl];cases hg:st.s.loc.get j with
   |none=>rw[hg]at h';cases h'
   |some y=>
    rw[hg]at h'
    obtain⟨g,r⟩:=y
    cases h'
    exact⟨r,rfl,rfl⟩
 ·rw[if_neg e]at h|-;exact⟨fun hh=>e (by rw[hlen];exact hh.1),.inl h⟩
theorem AF3{k:Nat}{st:XS}(hI:CE G (st.s.emb σ pre) w):∃G',G.le G'/\CE G' ((ET k st).s.emb σ pre) w/\RG G G' σ pre.length st.s.up.length k (st.s.loc.get k):=by
 have hget:(st.s.emb σ pre).get (st.s.up.length+pre.length) k=(st.s.loc.get k).map fun p=>(σ p.1,p.2.ren σ pre.length):=by rw[BZ];unfold St.get;rw[if_pos rfl]
 have main:∃G' s0,G.le G'/\CE G' s0 w/\(∀l j,¬(l=st.s.up.length+pre.length/\j=k)->s0.get l j=(st.s.emb σ pre).get l j)/\RG G G' σ pre.length st.s.up.length k (st.s.loc.get k):=by
  cases ho:st.s.loc.get k with
  |none=>exact⟨G,_,Gh.le_refl G,hI,fun _ _ _=>rfl,⟨fun γ T es h=>(by cases h),fun γ cs h=>(by cases h)⟩⟩
  |some x=>
   obtain⟨γ,r⟩:=x
   rw[ho]at hget
   cases r with
   |vec T es=>
    have hget:(st.s.emb σ pre).get (st.s.up.length+pre.length) k=some (σ γ,.vec T (es.map (dj (V.ren σ pre.length)))):=hget
    obtain⟨G',hle,hI',hs⟩:=hI.lockRow hget
    refine⟨G',_,hle,hI',fun l j hne=>?_,⟨fun γ' T' es' h v hv=>?_,fun γ cs h=>by cases h⟩⟩
    ·rw[St.get_put _ hget,if_neg hne]
    ·cases h;have:=LO hI hle hget (m:=es.length) (by simp) hs hv;rwa [List.take_of_length_le (by simp)]at this
   |box cs=>
    have hget:(st.s.emb σ pre).get (st.s.up.length+pre.length) k=some (σ γ,.box (cs.map (V.ren σ pre.length))):=hget
    obtain⟨G',hle,hI',hs⟩:=hI.lockBox hget
    refine⟨G',_,hle,hI',fun l j hne=>?_,⟨fun γ' T' es' h=>(by cases h),fun γ' cs' h off v hv=>?_⟩⟩
    ·rw[St.get_put _ hget,if_neg hne]
    ·cases h;rw[PO];exact mA hI hle hget hs hv
   |map cs=>exact⟨G,_,Gh.le_refl G,hI,fun _ _ _=>rfl,⟨fun γ T es h=>(by cases h),fun γ cs h=>(by cases h)⟩⟩
   |loop _ _ _ _ _ _=>exact⟨G,_,Gh.le_refl G,hI,fun _ _ _=>rfl,⟨fun γ T es h=>(by cases h),fun γ cs h=>(by cases h)⟩⟩
   |dead=>exact⟨G,_,Gh.le_refl G,hI,fun _ _ _=>rfl,⟨fun γ T es h=>(by cases h),fun γ cs h=>(by cases h)⟩⟩
 obtain⟨G',s0,hle,hI',hg,ht⟩:=main;refine⟨G',hle,?_,ht⟩;have look:∀{l j g r},((ET k st).s.emb σ pre).get l j=some (g,r)->∃r0,s0.get l j=some (g,r0)/\HJ G' g w r/\BG G' g r=BG G' g r0:=by
  intro l j g r h;obtain⟨hne,h1⟩:=AF2 h;rw[hg _ _ hne];rcases h1 with h1|⟨r0,h1,h2⟩
  ·exact⟨r,h1,hI'.res l j g r (by rw[hg _ _ hne];exact h1),rfl⟩
  ·simp only at h1 h2;subst h2;exact⟨_,h1,AAR hle ht (hI.res _ _ _ _ h1),AAS _ _ _ _ _ _⟩
 refine⟨hI'.sl,fun l k g r h=>(by obtain⟨r0,_,h2,_⟩:=look h; exact h2),fun l k g r l' k' g' r' b h1 h2 h3 h4=>?_,fun l k g r b h1 h2=>?_,hI'.fresh,hI'.env,hI'.me.step (Gh.le_refl _) rfl (fun _ _ _=>rfl) (fun l k g r b h1 h2=>by
  obtain⟨r0,e,_,o⟩:=look h1;exact .inl ⟨_,_,_,_,e,o▸h2⟩) fun b d hb=>hI'.me.sl b d hb⟩
 ·rcases look h1 with⟨r1,e1,_,o1⟩;rcases look h2 with⟨r2,e2,_,o2⟩;exact hI'.sep _ _ _ _ _ _ _ _ _ e1 e2 (o1▸h3) (o2▸h4)
 ·rcases look h1 with⟨r1,e1,_,o1⟩;exact hI'.out _ _ _ _ _ e1 (o1▸h2)
theorem S7{k:Nat}{st:XS}:FB (st.fr.ren σ pre.length) (st.s.emb σ pre) ((ET k st).fr.ren σ pre.length) ((ET k st).s.emb σ pre):=by
 intro n N G0 G a w hR;obtain⟨G',hle,hI',ht⟩:=AF3 (k:=k) hR.inv;refine⟨G',⟨⟨fun _ _ h=>hle.1 _ _ (hR.le.1 _ _ h),fun _ _ h=>hle.2 _ _ (hR.le.2 _ _ h),hle.3.trans hR.le.3,fun _ _ h=>hle.m _ _ (hR.le.m _ _ h)⟩,hI',fun j c v hj=>?_,hR.size,hR.lvl,?_⟩⟩
 ·rw[Fr.get_ren]at hj;have hj':((KZ st.s.up.length k (st.s.loc.get k) st.fr).get j).map (fun p=>(p.1,p.2.ren σ pre.length))=some (c,v):=hj;rw[UN]at hj';cases hg:st.fr.get j with
  |none=>rw[hg]at hj';cases hj'
  |some y=>
   rw[hg]at hj'
   obtain⟨c0,v0⟩:=y
   cases hj'
   obtain⟨x,q1,q2,q3⟩:=hR.fr j c0 (v0.ren σ pre.length) (by rw[Fr.get_ren,hg];rfl)
   exact⟨x,q1,fun hc=>OT hle ht 3 _ _ (q2 hc),q3⟩
 ·obtain⟨rs,m1,m2,m3⟩:=hR.marks;exact⟨rs,m1,m2,fun r hr=>⟨(m3 r hr).1,hle.1 _ _ (m3 r hr).2⟩⟩
theorem iL{n N:Nat}{ρ:Option Nat}{c:Code}{K:Exit->Fr->St->Prop}{fr fr1:Fr}{s s1:St}(hg:FB fr s fr1 s1)(h:BH P n N ρ c K fr1 s1):BH P n N ρ c K fr s:=fun G0 G a w hR=>by obtain⟨G',hR'⟩:=hg _ _ _ _ _ _ hR;exact h G0 G' a w hR'
theorem Z4{n N:Nat}{ρ:Option Nat}{c:Code}{K:Exit->Fr->St->Prop}{k:Nat}{st:XS}(h:BH P n N ρ c K ((ET k st).fr.ren σ pre.length) ((ET k st).s.emb σ pre)):BH P n N ρ c K (st.fr.ren σ pre.length) (st.s.emb σ pre):=iL S7 h
def TBd(c:Nat)(o:Option (Nat×A6)):Prop:=(∀γ T es,o=some (γ,.vec T es)->∀σ σ' δ,AS c σ σ'->es.map (dj (V.ren σ δ))=es.map (dj (V.ren σ' δ)))/\∀γ cs,o=some (γ,.box cs)->∀σ σ' δ,AS c σ σ'->cs.map (V.ren σ δ)=cs.map (V.ren σ' δ)
theorem iM{l k c:Nat}{o:Option (Nat×A6)}(ho:TBd c o){σ σ':Nat->Nat}{δ:Nat}(ha:AS c σ σ'):∀(f:Nat) (v:V),v.ren σ δ=v.ren σ' δ->(BS l k o f v).ren σ δ=(BS l k o f v).ren σ' δ
 |0,v,h=>h
 |f+1,v,h=>by
  have ih:=iM (l:=l) (k:=k) ho ha (δ:=δ) f;have lst:∀cs:List V,cs.map (V.ren σ δ)=cs.map (V.ren σ' δ)->(cs.map (BS l k o f)).map (V.ren σ δ)=(cs.map (BS l k o f)).map (V.ren σ' δ):=by intro cs h;simp only[cj];refine bx fun x hx=>?_;exact ih x (bf.1 h x hx)
  cases v with
  |vec l' k' g m=>
   simp only[BS]
   split
   ·split
    ·simp only[EB];rw[ho.1 _ _ _ rfl σ σ' δ ha]
    ·exact h
   ·exact h
  |ptr l' k' g off=>
   simp only[BS]
   split
   ·split
    ·simp only[KT];rw[PO,PO,ho.2 _ _ rfl σ σ' δ ha]
    ·exact h
   ·exact h
  |agg cs=>
   simp only[BS,FH,V.agg.injEq]at h|-
   exact lst cs h
  |tup cs=>
   simp only[BS,HR,V.tup.injEq]at h|-
   exact lst cs h
  |_=>exact h
theorem ATA{c k γ:Nat}{T:dn}{es:List (List V)}{L:AA}(hL:∀σ σ' δ,AS c σ σ'->L.ren σ δ=L.ren σ' δ)(h:L.get k=some (γ,.vec T es)):∀σ σ' δ,AS c σ σ'->es.map (dj (V.ren σ δ))=es.map (dj (V.ren σ' δ)):=by
 intro σ σ' δ ha;have e1:(L.ren σ δ).get k=some (σ γ,.vec T (es.map (dj (V.ren σ δ)))):=by rw[AA.get_ren,h];rfl
 have e2:(L.ren σ' δ).get k=some (σ' γ,.vec T (es.map (dj (V.ren σ' δ)))):=by rw[AA.get_ren,h];rfl
 rw[hL σ σ' δ ha,e2]at e1;simp only[dv.injEq,dc.injEq,A6.vec.injEq]at e1;exact e1.2.2.symm
theorem AF4{st:XS}(h:Bd st):∀σ σ' δ,AS st.c σ σ'->st.s.loc.ren σ δ=st.s.loc.ren σ' δ:=by intro σ σ' δ ha;have q:=h.s σ σ' (bz δ []) ha;simp only[St.emb,St.mk.injEq,bh]at q;exact q.2
theorem ATB{c k γ:Nat}{cs:List V}{L:AA}(hL:∀σ σ' δ,AS c σ σ'->L.ren σ δ=L.ren σ' δ)(h:L.get k=some (γ,.box cs)):∀σ σ' δ,AS c σ σ'->cs.map (V.ren σ δ)=cs.map (V.ren σ' δ):=by
 intro σ σ' δ ha;have e1:(L.ren σ δ).get k=some (σ γ,.box (cs.map (V.ren σ δ))):=by rw[AA.get_ren,h];rfl
 have e2:(L.ren σ' δ).get k=some (σ' γ,.box (cs.map (V.ren σ' δ))):=by rw[AA.get_ren,h];rfl
 rw[hL σ σ' δ ha,e2]at e1;simp only[dv.injEq,dc.injEq,A6.box.injEq]at e1;exact e1.2.symm
theorem nU{l k c:Nat}{o:Option (Nat×A6)}(ho:TBd c o){σ σ':Nat->Nat}{δ:Nat}(ha:AS c σ σ'):∀(L:AA),L.ren σ δ=L.ren σ' δ->(FS l k o L).ren σ δ=(FS l k o L).ren σ' δ
 |[],_=>rfl
 |(j,g,r)::L,h=>by
  simp only[AA.ren,cx,dh.injEq,dc.injEq,true_and]at h;have ih:=nU (l:=l) (k:=k) ho ha L h.2;simp only[FS];split
  ·exact ih
  ·simp only[AA.ren,cx,dh.injEq,dc.injEq,true_and];refine⟨⟨h.1.1,?_⟩,ih⟩;have hr:=h.1.2;have lst:∀cs:List V,cs.map (V.ren σ δ)=cs.map (V.ren σ' δ)->(cs.map (BS l k o 3)).map (V.ren σ δ)=(cs.map (BS l k o 3)).map (V.ren σ' δ):=by intro cs h;simp only[cj];exact bx fun x hx=>iM ho ha 3 x (bf.1 h x hx)
   cases r with
   |box cs=>
    simp only[KG,A6.ren,A6.box.injEq]at hr|-
    exact lst cs hr
   |vec T es=>
    simp only[KG,A6.ren,A6.vec.injEq,true_and,cj]at hr|-
    refine bx fun e he=>?_
    exact lst e (bf.1 hr e he)
   |_=>exact hr
theorem LW{k:Nat}{st:XS}(h:Bd st):IX st (ET k st):=by
 have ho:TBd st.c (st.s.loc.get k):=⟨fun γ T es hg=>ATA (AF4 h) hg,fun γ cs hg=>ATB (AF4 h) hg⟩;refine⟨bc _,⟨fun σ σ' δ ha=>?_,fun σ σ' pre ha=>?_,fun l j γ fr ps asg body N ls hg=>?_⟩,rfl⟩
 ·have q:=h.f σ σ' δ ha;simp only[ET,KZ,Fr.ren,cj]at q|-;refine bx fun x hx=>?_;have:=bf.1 q x hx;simp only[dc.injEq,true_and]at this;simp only[Function.comp,dc.injEq,true_and];exact iM ho ha 3 _ this
 ·have q:=h.s σ σ' pre ha;simp only[St.emb,St.mk.injEq]at q;simp only[ET,St.emb,St.mk.injEq];exact⟨q.1,nU ho ha _ q.2⟩
 ·have hg':(ET k st).s.get l j=some (γ,.loop fr ps asg body N ls):=hg;refine h.lp l j γ fr ps asg body N ls ?_;unfold St.get at hg'|-;have hup:(ET k st).s.up=st.s.up:=rfl;rw[hup]at hg';split
  ·rename_i e;rw[if_pos e]at hg';have hg':(FS st.s.up.length k (st.s.loc.get k) st.s.loc).get j=some (γ,.loop fr ps asg body N ls):=hg';rw[UO]at hg';split at hg'
   ·cases hg'
   ·cases hq:st.s.loc.get j with
    |none=>rw[hq]at hg';cases hg'
    |some y=>
     rw[hq]at hg'
     obtain⟨g,r⟩:=y
     cases r with
     |loop _ _ _ _ _ _=>exact hg'
     |_=>simp[KG]at hg'
  ·rename_i e;rw[if_neg e]at hg';exact hg'
theorem wS:∀(ks:List Nat) (st:XS),(VV ks st).c=st.c
 |[],_=>rfl
 |k::ks,st=>wS ks (ET k st)
theorem eN:∀(ks:List Nat) {st:XS},Bd st->IX st (VV ks st)
 |[],st,h=>⟨bc _,h,rfl⟩
 |k::ks,st,h=>by have h1:=LW (k:=k) h;have h2:=eN ks h1.bd;exact⟨dw h1.c h2.c,h2.bd,h2.n.trans h1.n⟩
theorem Z5{n N:Nat}{ρ:Option Nat}{c:Code}{K:Exit->Fr->St->Prop}:∀(ks:List Nat) {st:XS},BH P n N ρ c K ((VV ks st).fr.ren σ pre.length) ((VV ks st).s.emb σ pre)->BH P n N ρ c K (st.fr.ren σ pre.length) (st.s.emb σ pre)
 |[],_,h=>h
 |k::ks,st,h=>Z4 (k:=k) (Z5 ks (st:=ET k st) h)
def AK:Nat->V->Bool
 |0,_=>false
 |f+1,v=>match v with
  |.int ..|.bool _|.raw _|.nil|.any|.memo _=>true
  |.agg cs|.tup cs|.ref cs=>cs.all (AK f)
  |.list _ es=>es.all fun e=>e.all (AK f)
  |.fn _ a b=>a.all (AK f)&&b.all (AK f)
  |_=>false
theorem ND{f:Nat}(ih:∀v,AK f v=true->v.ren σ δ=v){cs:List V}(h:cs.all (AK f)=true):cs.map (V.ren σ δ)=cs:=by
 conv=>rhs;rw[<-List.map_id cs]
 exact bx fun v hv=>ih v (bw.1 h v hv)
theorem B7:∀(f:Nat) (v:V),AK f v=true->v.ren σ δ=v
 |0,_,h=>by cases h
 |f+1,v,h=>by
  have ih:=fun v=>B7 f v;cases v with
  |agg cs=>rw[FH,ND ih (by simpa [AK]using h)]
  |tup cs=>rw[HR,ND ih (by simpa [AK]using h)]
  |ref cs=>rw[KT,ND ih (by simpa [AK]using h)]
  |list b es=>
   have h':(es.all fun e=>e.all (AK f))=true:=by simpa [AK]using h
   rw[EB]
   congr 1
   conv=>rhs;rw[<-List.map_id es]
   exact bx fun e he=>ND ih (bw.1 h' e he)
  |fn g a b=>
   have h':a.all (AK f)=true/\b.all (AK f)=true:=by simpa [AK]using h
   rw[M4,ND ih h'.1,ND ih h'.2]
  |int k n=>simp
  |bool b=>simp
  |raw v=>simp
  |nil=>simp
  |any=>simp
  |memo d=>simp
  |_=>simp[AK]at h
end Go.Pg
namespace Go.Pg
variable {P:dp}{σ σ':Nat->Nat}{δ:Nat}{pre:List AA}{s:St}{fr:Fr}{G G':Gh}{w:World}{l k γ:Nat}{D:List V}
def JY(l k γ:Nat)(D:List V):Nat->V->V
 |0,v=>v
 |f+1,v=>match v with
  |.mp l' k' g=>if l'=l/\k'=k/\g=γ then .memo D else v
  |.agg cs=>.agg (cs.map (JY l k γ D f))
  |.tup cs=>.tup (cs.map (JY l k γ D f))
  |v=>v
def cJ(l k γ:Nat)(D:List V):A6->A6
 |.box cs=>.box (cs.map (JY l k γ D 3))
 |.vec T es=>.vec T (es.map (dj (JY l k γ D 3)))
 |r=>r
def tK(l k γ:Nat)(D:List V)(fr:Fr):Fr:=fr.map fun x=>(x.1,x.2.1,JY l k γ D 3 x.2.2)
def P9(l k γ:Nat)(D:List V):AA->AA
 |[]=>[]
 |(j,g,r)::L=>if j=k then P9 l k γ D L else(j,g,cJ l k γ D r)::P9 l k γ D L
def nV(x y:Option (Nat×A6)):Option (Nat×List V):=match x,y with
 |some (γ,.map []),some (_,.box (c::_))=>if AK 9 c=true then some (γ,[c]) else none
 |_,_=>none
def OU(k kb:Nat)(st:XS):XS:=match nV (st.s.loc.get k) (st.s.loc.get kb)with
 |some (γ,D)=>⟨st.c,tK st.s.up.length k γ D st.fr,⟨st.s.up,P9 st.s.up.length k γ D st.s.loc⟩⟩
 |none=>st
theorem tL{x y:Option (Nat×A6)}{γ:Nat}{D:List V}(h:nV x y=some (γ,D)):x=some (γ,.map [])/\∀σ δ,D.map (V.ren σ δ)=D:=by
 unfold nV at h;split at h
 ·split at h
  ·rename_i hc;cases h;exact⟨rfl,fun σ δ=>by simp[B7 9 _ hc]⟩
  ·cases h
 ·cases h
theorem nW(l k γ:Nat)(D:List V):∀(fr:Fr) (j:Nat),(tK l k γ D fr).get j=(fr.get j).map fun x=>(x.1,JY l k γ D 3 x.2)
 |[],_=>rfl
 |(i,c,v)::fr,j=>by
  have ih:=nW l k γ D fr j;simp only[tK,cx,Fr.get]at ih|-;split
  ·rfl
  ·exact ih
theorem Z6(l k γ:Nat)(D:List V):∀(L:AA) (j:Nat),(P9 l k γ D L).get j=if j=k then none else(L.get j).map fun x=>(x.1,cJ l k γ D x.2)
 |[],j=>by simp[P9]
 |(i,g,r)::L,j=>by
  have ih:=Z6 l k γ D L j;unfold P9;by_cases h:i=k
  ·rw[if_pos h,ih];by_cases hj:j=k
   ·simp[hj]
   ·rw[if_neg hj,if_neg hj,AA.get,if_neg (by rw[h];exact hj)]
  ·rw[if_neg h];simp only[AA.get];by_cases hj:j=i
   ·subst hj;rw[if_pos rfl,if_pos rfl,if_neg h];rfl
   ·rw[if_neg hj,if_neg hj,ih]
theorem nX:∀(f:Nat) (v:V),(v.ren σ δ).isCell=true->((JY l k γ D f v).ren σ δ).isCell=true
 |0,v,h=>h
 |f+1,v,h=>by
  cases v with
  |agg cs=>simp only[FH]at h;cases h
  |tup cs=>simp only[HR]at h;cases h
  |mp l' k' g=>
   simp only[JY]
   split
   ·simp only[ZN];rfl
   ·exact h
  |_=>exact h
theorem iN(hle:G.le G')(ho:∀v,RepV G (.mp (l+δ) k (σ γ)) v->RepV G' (.memo D) v):∀(f:Nat) (x:V) (v:Value),RepV G (x.ren σ δ) v->RepV G' ((JY l k γ D f x).ren σ δ) v
 |0,x,v,h=>h.mono hle
 |f+1,x,v,h=>by
  have ih:=iN hle ho f;cases x with
  |mp l' k' g=>
   simp only[JY]
   split
   ·rename_i hc;obtain⟨rfl,rfl,rfl⟩:=hc;simp only[M3,ZN]at h|-;exact ho v h
   ·exact h.mono hle
  |agg cs=>
   simp only[JY,FH]at h|-
   cases h with
   |agg _ arr hl hc hr=>
    refine .agg _ arr (by simpa using hl) (fun c hc'=>?_) (fun i h1 h2=>?_)
    ·simp only[cp]at hc';obtain⟨d,⟨e,he,rfl⟩,rfl⟩:=hc';exact nX f e (hc _ (cd he))
    ·have h1':i<cs.length:=by simpa using h1
     have q:=hr i (by simpa using h1) h2;simp only[ck]at q|-;exact ih _ _ q
  |tup cs=>
   simp only[JY,HR]at h|-
   cases h with
   |tup _ arr hl hr=>
    refine .tup _ arr (by simpa using hl) (fun i h1 h2=>?_)
    have q:=hr i (by simpa using h1) h2
    simp only[ck]at q|-
    exact ih _ _ q
  |_=>exact h.mono hle
theorem eO(hle:G.le G')(ho:∀v,RepV G (.mp (l+δ) k (σ γ)) v->RepV G' (.memo D) v){cs:List V}{vs:List Value}(h:RepL G (cs.map (V.ren σ δ)) vs):RepL G' ((cs.map (JY l k γ D 3)).map (V.ren σ δ)) vs :=
 ⟨by simpa using h.1,fun i p q=>by
  have r:=h.2 i (by simpa using p) q;simp only[ck]at r |-;exact⟨nX 3 _ r.1,iN hle ho 3 _ _ r.2⟩⟩
theorem AF5(hle:G.le G')(ho:∀v,RepV G (.mp (l+δ) k (σ γ)) v->RepV G' (.memo D) v){g:Nat}{r:A6}(h:HJ G g w (r.ren σ δ)):HJ G' g w ((cJ l k γ D r).ren σ δ):=by
 cases r with
 |box cs=>
  obtain⟨b,arr,T,h1,h2,h3⟩:=h
  exact⟨b,arr,T,by simpa using hle.2 _ _ h1,h2,eO hle ho h3⟩
 |vec T es=>
  obtain⟨b,sz,C,h1,h2,h3,h4,h5⟩:=h
  refine⟨b,sz,C,hle.2 _ _ h1,by simpa using h2,fun e he=>?_,⟨h4.1,fun h=>h4.2 (by simpa using h)⟩,fun hC=>?_⟩
  ·simp only[cp]at he;obtain⟨e1,⟨e2,he2,rfl⟩,rfl⟩:=he;have:=h3 (e2.map (V.ren σ δ)) (cd he2);simpa using this
  ·obtain⟨arr,h6,h7,h8⟩:=h5 hC;refine⟨arr,h6,h7,?_⟩;have q:RepL G (es.flatten.map (V.ren σ δ)) (arr.toList.take (es.length*sz)):=by rw[cq];simpa using h8
   have q2:=eO hle ho q;rw[cq,cq]at q2;simpa using q2
 |map es=>exact h.keep hle fun _ _=>rfl
 |loop fr ps asg body N st=>exact h.keep hle fun _ _=>rfl
 |dead=>trivial
theorem AF6(G:Gh)(l k γ:Nat)(D:List V)(g:Nat)(r:A6):BG G g ((cJ l k γ D r).ren σ δ)=BG G g (r.ren σ δ):=by cases r<;>rfl
theorem AF7{k γ:Nat}{D:List V}{st:XS}{l j:Nat}{x:Nat×A6}(h:(St.emb σ pre ⟨st.s.up,P9 st.s.up.length k γ D st.s.loc⟩).get l j=some x) :
  ¬(l=st.s.up.length+pre.length/\j=k)/\((st.s.emb σ pre).get l j=some x\/∃r,(st.s.emb σ pre).get l j=some (x.1,r.ren σ pre.length)/\x.2=(cJ st.s.up.length k γ D r).ren σ pre.length):=by
 have hlen:(st.s.emb σ pre).up.length=st.s.up.length+pre.length:=by rw[C5]
 have hup:(St.emb σ pre ⟨st.s.up,P9 st.s.up.length k γ D st.s.loc⟩).up=(st.s.emb σ pre).up:=rfl
 unfold St.get at h|-
 rw[hup]at h
 by_cases e:l=(st.s.emb σ pre).up.length
 ·rw[if_pos e]at h|-;have h':((P9 st.s.up.length k γ D st.s.loc).ren σ pre.length).get j=some x:=h;rw[AA.get_ren,Z6]at h';by_cases hj:j=k
  ·rw[if_pos hj]at h';cases h'
  ·rw[if_neg hj]at h';refine⟨fun hh=>hj hh.2,.inr ?_⟩;have hl:(st.s.emb σ pre).loc.get j=(st.s.loc.get j).map fun p=>(σ p.1,p.2.ren σ pre.length):=AA.get_ren _ _;rw[hl];cases hg:st.s.loc.get j with
   |none=>rw[hg]at h';cases h'
   |some y=>
    rw[hg]at h'
    obtain⟨g,r⟩:=y
    cases h'
    exact⟨r,rfl,rfl⟩
 ·rw[if_neg e]at h|-;exact⟨fun hh=>e (by rw[hlen];exact hh.1),.inl h⟩
theorem AK7{k γ:Nat}{D:List V}{st:XS}(hg:st.s.loc.get k=some (γ,.map []))(hI:CE G (st.s.emb σ pre) w) :
  ∃G',G.le G'/\CE G' (St.emb σ pre ⟨st.s.up,P9 st.s.up.length k γ D st.s.loc⟩) w/\(∀v,RepV G (.mp (st.s.up.length+pre.length) k (σ γ)) v->RepV G' (.memo D) v)/\G'.sl=G.sl:=by
 have hget:(st.s.emb σ pre).get (st.s.up.length+pre.length) k=some (σ γ,.map []):=by rw[BZ];unfold St.get;rw[if_pos rfl,hg];rfl
 obtain⟨bm,arr,clock,h1,h2,h3,_⟩:=hI.res _ _ _ _ hget
 have hown:BG G (σ γ) (.map [])=some bm:=by simp[BG,h1]
 let G':Gh:={ G with mm:=fun b=>if b=bm then some D else G.mm b }
 have hle:G.le G':=⟨fun _ _ h=>h,fun _ _ h=>h,rfl,fun b d h=>by
  show(if b=bm then _ else G.mm b)=some d;rw[if_neg fun e=>by rw[e,hI.me.ow _ _ _ _ _ hget hown]at h; cases h];exact h⟩
 have hso:∀{g r b},BG G' g r=some b->BG G g r=some b:=by intro g r b h;cases r<;>exact h
 have hm:∀v,RepV G (.mp (st.s.up.length+pre.length) k (σ γ)) v->RepV G' (.memo D) v:=fun v hv=>by
  cases hv with
  |mp _ _ _ b sz C h=>
   rw[h1]at h
   obtain⟨rfl,_,_⟩:bm=b/\1=sz/\1=C:=by simpa using h
   exact .memo D _ (if_pos rfl)
 have look:∀{l j g r},(St.emb σ pre ⟨st.s.up,P9 st.s.up.length k γ D st.s.loc⟩).get l j=some (g,r)->¬(l=st.s.up.length+pre.length/\j=k)/\∃r0,(st.s.emb σ pre).get l j=some (g,r0)/\HJ G' g w r/\BG G g r=BG G g r0:=by
  intro l j g r h;obtain⟨hne,h1⟩:=AF7 h;refine⟨hne,?_⟩;rcases h1 with h1|⟨r0,h1,h2⟩
  ·exact⟨r,h1,(hI.res l j g r h1).keep hle fun _ _=>rfl,rfl⟩
  ·simp only at h1 h2;subst h2;exact⟨_,h1,AF5 hle hm (hI.res _ _ _ _ h1),AF6 _ _ _ _ _ _ _⟩
 refine⟨G',hle,⟨hI.sl,fun l k g r h=>(by obtain⟨_,r0,_,h2,_⟩:=look h;exact h2),fun l k g r l' k' g' r' b h1 h2 h3 h4=>?_,fun l k g r b h1 h2=>?_,hI.fresh,hI.env,⟨fun b d hb=>?_,fun b d hb=>?_,fun l k g r b h1 h2=>?_,fun b d hb=>?_⟩⟩,hm,rfl⟩
 ·obtain⟨_,r1,e1,_,o1⟩:=look h1;obtain⟨_,r2,e2,_,o2⟩:=look h2;exact hI.sep _ _ _ _ _ _ _ _ _ e1 e2 (o1▸hso h3) (o2▸hso h4)
 ·obtain⟨_,r1,e1,_,o1⟩:=look h1;exact hI.out _ _ _ _ _ e1 (o1▸hso h2)
 ·have hb:(if b=bm then some D else G.mm b)=some d:=hb;split at hb
  ·rename_i e;cases hb;subst e;exact⟨arr,clock,[],h2,h3,fun i p=>absurd p (by simp),JS.nil _⟩
  ·exact(hI.me.at' b d hb).keep (fun _ _ h=>h.mono hle) rfl
 ·have hb:(if b=bm then some D else G.mm b)=some d:=hb;split at hb
  ·rename_i e;subst e;exact(hI.out _ _ _ _ _ hget hown).2
  ·exact hI.me.lt b d hb
 ·obtain⟨hne,r1,e1,_,o1⟩:=look h1;have h5:BG G g r1=some b:=o1▸hso h2;show(if b=bm then some D else G.mm b)=none;rw[if_neg fun e=>by
   rw[e]at h5;exact hne (hI.sep _ _ _ _ _ _ _ _ _ e1 hget h5 hown)]
  exact hI.me.ow _ _ _ _ _ e1 h5
 ·have hb:(if b=bm then some D else G.mm b)=some d:=hb;split at hb
  ·rename_i e;subst e;exact(hI.out _ _ _ _ _ hget hown).1
  ·exact hI.me.sl b d hb
theorem iO{k kb:Nat}{st:XS}:FB (st.fr.ren σ pre.length) (st.s.emb σ pre) ((OU k kb st).fr.ren σ pre.length) ((OU k kb st).s.emb σ pre):=by
 intro n N G0 G a w hR;unfold OU;split
 ·rename_i γ D ho;obtain⟨hg,_⟩:=tL ho;obtain⟨G',hle,hI',hm,hsl⟩:=AK7 (D:=D) hg hR.inv;refine⟨G',⟨⟨fun _ _ h=>hle.1 _ _ (hR.le.1 _ _ h),fun _ _ h=>hle.2 _ _ (hR.le.2 _ _ h),hle.3.trans hR.le.3,fun _ _ h=>hle.m _ _ (hR.le.m _ _ h)⟩,hI',fun j c v hj=>?_,hR.size,hR.lvl,?_⟩⟩
  ·rw[Fr.get_ren]at hj;have hj':((tK st.s.up.length k γ D st.fr).get j).map (fun p=>(p.1,p.2.ren σ pre.length))=some (c,v):=hj;rw[nW]at hj';cases hg:st.fr.get j with
   |none=>rw[hg]at hj';cases hj'
   |some y=>
    rw[hg]at hj'
    obtain⟨c0,v0⟩:=y
    cases hj'
    obtain⟨x,q1,q2,q3⟩:=hR.fr j c0 (v0.ren σ pre.length) (by rw[Fr.get_ren,hg];rfl)
    exact⟨x,q1,fun hc=>iN hle hm 3 _ _ (q2 hc),q3⟩
  ·obtain⟨rs,m1,m2,m3⟩:=hR.marks;exact⟨rs,m1,m2,fun r hr=>⟨(m3 r hr).1,hle.1 _ _ (m3 r hr).2⟩⟩
 ·exact⟨G,hR⟩
theorem AAT{n N:Nat}{ρ:Option Nat}{c:Code}{K:Exit->Fr->St->Prop}{k kb:Nat}{st:XS}(h:BH P n N ρ c K ((OU k kb st).fr.ren σ pre.length) ((OU k kb st).s.emb σ pre)):BH P n N ρ c K (st.fr.ren σ pre.length) (st.s.emb σ pre):=iL iO h
theorem tM{δ:Nat}{σ σ':Nat->Nat}:∀(f:Nat) (v:V),v.ren σ δ=v.ren σ' δ->(JY l k γ D f v).ren σ δ=(JY l k γ D f v).ren σ' δ
 |0,v,h=>h
 |f+1,v,h=>by
  have ih:=tM (δ:=δ) (σ:=σ) (σ':=σ') f;have lst:∀cs:List V,cs.map (V.ren σ δ)=cs.map (V.ren σ' δ)->(cs.map (JY l k γ D f)).map (V.ren σ δ)=(cs.map (JY l k γ D f)).map (V.ren σ' δ):=by intro cs h;simp only[cj];refine bx fun x hx=>?_;exact ih x (bf.1 h x hx)
  cases v with
  |mp l' k' g=>
   simp only[JY]
   split
   ·simp only[ZN]
   ·exact h
  |agg cs=>
   simp only[JY,FH,V.agg.injEq]at h|-
   exact lst cs h
  |tup cs=>
   simp only[JY,HR,V.tup.injEq]at h|-
   exact lst cs h
  |_=>exact h
theorem wT{σ σ':Nat->Nat}{δ:Nat}:∀(L:AA),L.ren σ δ=L.ren σ' δ->(P9 l k γ D L).ren σ δ=(P9 l k γ D L).ren σ' δ
 |[],_=>rfl
 |(j,g,r)::L,h=>by
  simp only[AA.ren,cx,dh.injEq,dc.injEq,true_and]at h;have ih:=wT L h.2;simp only[P9];split
  ·exact ih
  ·simp only[AA.ren,cx,dh.injEq,dc.injEq,true_and];refine⟨⟨h.1.1,?_⟩,ih⟩;have hr:=h.1.2;have lst:∀cs:List V,cs.map (V.ren σ δ)=cs.map (V.ren σ' δ)->(cs.map (JY l k γ D 3)).map (V.ren σ δ)=(cs.map (JY l k γ D 3)).map (V.ren σ' δ):=by intro cs h;simp only[cj];exact bx fun x hx=>tM 3 x (bf.1 h x hx)
   cases r with
   |box cs=>
    simp only[cJ,A6.ren,A6.box.injEq]at hr|-
    exact lst cs hr
   |vec T es=>
    simp only[cJ,A6.ren,A6.vec.injEq,true_and,cj]at hr|-
    refine bx fun e he=>?_
    exact lst e (bf.1 hr e he)
   |_=>exact hr
theorem Z7{k kb:Nat}{st:XS}(h:Bd st):IX st (OU k kb st):=by
 unfold OU;split
 ·rename_i γ D ho;refine⟨bc _,⟨fun σ σ' δ ha=>?_,fun σ σ' pre ha=>?_,fun l j γ' fr ps asg body N ls hg=>?_⟩,rfl⟩
  ·have q:=h.f σ σ' δ ha;simp only[tK,Fr.ren,cj]at q|-;refine bx fun x hx=>?_;have:=bf.1 q x hx;simp only[dc.injEq,true_and]at this;simp only[Function.comp,dc.injEq,true_and];exact tM 3 _ this
  ·have q:=h.s σ σ' pre ha;simp only[St.emb,St.mk.injEq]at q;simp only[St.emb,St.mk.injEq];exact⟨q.1,wT _ q.2⟩
  ·refine h.lp l j γ' fr ps asg body N ls ?_;unfold St.get at hg|-;simp only at hg;split
   ·rename_i e;rw[if_pos e,Z6]at hg;split at hg
    ·cases hg
    ·cases hq:st.s.loc.get j with
     |none=>rw[hq]at hg;cases hg
     |some y=>
      rw[hq]at hg
      obtain⟨g,r⟩:=y
      cases r with
      |loop _ _ _ _ _ _=>exact hg
      |_=>simp[cJ]at hg
   ·rename_i e;rw[if_neg e]at hg;exact hg
 ·exact⟨bc _,h,rfl⟩
theorem AF8{k kb:Nat}{st:XS}:(OU k kb st).c=st.c:=by unfold OU;split<;>rfl
theorem FB.trans{fr fr1 fr2:Fr}{s s1 s2:St}(h:FB fr s fr1 s1)(h':FB fr1 s1 fr2 s2):FB fr s fr2 s2:=fun n N G0 G a w hR=>by obtain⟨G',hR'⟩:=h _ _ _ _ _ _ hR;exact h' _ _ _ _ _ _ hR'
def nY(q:Nat)(o:Option (Nat×A6))(st:XS):XS:=match o with
 | some (_,.box [c,.mp _ qm _])=>ET q (OU qm q (match c with
  |.vec _ qv _ _=>ET qv st
  | _=>st))
 |_=>st
def LY(t:Tmp)(st:XS):XS:=match FD st.fr t with
 |some (true,.ptr l q _ _)=>Bool.rec st (nY q (st.s.loc.get q) st) (bn l st.s.up.length)
 |_=>st
theorem AK8{q:Nat}{o:Option (Nat×A6)}{st:XS}(h:Bd st):IX st (nY q o st)/\∀(σ:Nat->Nat) (pre:List AA),FB (st.fr.ren σ pre.length) (st.s.emb σ pre) ((nY q o st).fr.ren σ pre.length) ((nY q o st).s.emb σ pre):=by
 unfold nY;split
 ·rename_i c l qm g;have main:∀st0:XS,IX st st0->(∀(σ:Nat->Nat) (pre:List AA),FB (st.fr.ren σ pre.length) (st.s.emb σ pre) (st0.fr.ren σ pre.length) (st0.s.emb σ pre)) ->
    IX st (ET q (OU qm q st0))/\∀(σ:Nat->Nat) (pre:List AA),FB (st.fr.ren σ pre.length) (st.s.emb σ pre) ((ET q (OU qm q st0)).fr.ren σ pre.length) ((ET q (OU qm q st0)).s.emb σ pre):=fun st0 h0 g0=>by
   have h1:=Z7 (k:=qm) (kb:=q) h0.bd
   have h2:=LW (k:=q) h1.bd
   exact⟨⟨dw h0.c (dw h1.c h2.c),h2.bd,h2.n.trans (h1.n.trans h0.n)⟩,fun σ pre=>((g0 σ pre).trans iO).trans S7⟩
  cases c with
  |vec l' qv g' m=>exact main _ (LW h) fun σ pre=>S7
  |_=>exact main st ⟨bc _,h,rfl⟩ fun σ pre n N G0 G a w hR=>⟨G,hR⟩
 ·exact⟨⟨bc _,h,rfl⟩,fun σ pre n N G0 G a w hR=>⟨G,hR⟩⟩
theorem AF9{t:Tmp}{st:XS}(h:Bd st):IX st (LY t st)/\∀(σ:Nat->Nat) (pre:List AA),FB (st.fr.ren σ pre.length) (st.s.emb σ pre) ((LY t st).fr.ren σ pre.length) ((LY t st).s.emb σ pre):=by
 have no:IX st st/\∀(σ:Nat->Nat) (pre:List AA),FB (st.fr.ren σ pre.length) (st.s.emb σ pre) (st.fr.ren σ pre.length) (st.s.emb σ pre):=⟨⟨bc _,h,rfl⟩,fun σ pre n N G0 G a w hR=>⟨G,hR⟩⟩;unfold LY;split
 ·rename_i l q _ _ _;cases bn l st.s.up.length with
  |false=>exact no
  |true=>exact AK8 h
 ·exact no
end Go.Pg
namespace Go.Pg
variable {P:dp}{s:St}{G G':Gh}{w:World}
def FT:Nat->V->Bool
 |0,_=>false
 |f+1,v=>match v with
  |.int ..|.bool _|.nil=>true
  |.agg cs|.tup cs|.ref cs=>cs.all (FT f)
  |.list _ es=>es.all fun e=>e.all (FT f)
  |_=>false
theorem E1:∀(f:Nat) (v:V),FT f v=true->AK f v=true
 |0,_,h=>by cases h
 |f+1,v,h=>by
  have ih:=E1 f;have lst:∀cs:List V,cs.all (FT f)=true->cs.all (AK f)=true:=fun cs h=>bw.2 fun x hx=>ih x (bw.1 h x hx);cases v with
  |agg cs=>exact lst cs h
  |tup cs=>exact lst cs h
  |ref cs=>exact lst cs h
  |list b es=>exact bw.2 fun e he=>lst e (bw.1 h e he)
  |int k n=>rfl
  |bool b=>rfl
  |nil=>rfl
  |_=>cases h
theorem S8(hsl:∀b o,G.sl b=some o->G'.sl b=some o):∀(f:Nat) (x:V) (v:Value),FT f x=true->RepV G x v->RepV G' x v
 |0,_,_,h,_=>by cases h
 |f+1,x,v,h,hr=>by
  have ih:=S8 hsl f;cases hr with
  |int k n=>exact .int k n
  |bool b=>exact .bool b
  |nil=>exact .nil
  |agg cs arr hl hc hi=>exact .agg cs arr hl hc fun i h1 h2=>ih _ _ (bw.1 h _ (br h1)) (hi i h1 h2)
  |tup cs arr hl hi=>exact .tup cs arr hl fun i h1 h2=>ih _ _ (bw.1 h _ (br h1)) (hi i h1 h2)
  |list full es a cap b off sz arr T fz vs hcap hfull ha hl hv hi=>
   exact .list full es a cap b off sz arr T fz vs hcap hfull (fun hh=>⟨(ha hh).1,hsl _ _ (ha hh).2⟩) hl hv fun i h1 j h2=>ih _ _ (bw.1 (bw.1 h _ (br h1)) _ (br h2)) (hi i h1 j h2)
  |ref cs b off arr T fz vs ha hv hi=>exact .ref cs b off arr T fz vs (hsl _ _ ha) hv fun j h1=>ih _ _ (bw.1 h _ (br h1)) (hi j h1)
  |_=>cases h
def eP:V->Bool
 |.int ..=>true
 |.bool _=>true
 |_=>false
theorem AGA{x:V}{v:Value}(h:eP x=true)(hr:RepV G x v):RepV G' x v:=by
 cases hr with
 |int k n=>exact .int k n
 |bool b=>exact .bool b
 |_=>cases h
theorem AGB{f:FuncId}{d:Tmp}{T T0:dn}{es es' es0:List (List V)}{l q γ n:Nat}(h1:es.all (·.all (FT 8))=true)(h2:es'.all (·.all eP)=true)
  (hA:∀s,EA P f [.list false es] s fun v s'=>∃γ,v=(⟨.vec T es',none⟩:Mk).val s.up.length d γ/\s'=s.put s.up.length d γ (.vec T es'))
  (hg:s.get l q=some (γ,.vec T0 es0)) (hn:es0.take n=es) (hn2:n<=es0.length):EA P f [.vec l q γ n] s fun r s'=>r=.list false es'/\s'=s:=by
 refine⟨(hA s).1,fun G vals w R hI hV hR=>?_⟩
 obtain⟨l0⟩:=vals
 match l0,hV with
 |[],hV=>exact absurd hV.1 (by simp)
 |_::_::_,hV=>exact absurd hV.1 (by simp)
 |[v0],hV=>
  have a0:RepV G (.vec l q γ n) v0:=hV.2 0 (by simp) (by simp)
  obtain⟨b,sz,C,r1,r2,r3,r4,r5⟩:=hI.res _ _ _ _ hg
  let Gs:Gh:={ sl:=fun b=>w.heap[b]?,be:=fun _=>none,env:=(w.os,w.output,w.heap.size),mm:=fun _=>none }
  have hno:∀l k x,¬(⟨[],[]⟩:St).get l k=some x:=fun l k x h=>by
   unfold St.get at h;split at h
   ·cases h
   ·simp at h
  have hIs:CE Gs ⟨[],[]⟩ w:=⟨fun b o h=>h,fun l k g r h=>absurd h (hno _ _ _),fun l k g r l' k' g' r' b h=>absurd h (hno _ _ _),fun l k g r b h=>absurd h (hno _ _ _),⟨0,fun _ _=>rfl⟩,
   ⟨rfl,rfl,bc _,fun b c T fz e1 e2=>by
    have h3:=(Array.getElem?_eq_some_iff.1 e2).1;have h4:w.heap.size<=b:=e1;omega⟩,⟨fun _ _ h=>(by cases h),fun _ _ h=>(by cases h),fun l k g r b h=>absurd h (hno _ _ _),fun _ _ h=>by cases h⟩⟩
  have hq:RepV Gs (.list false es) v0:=by obtain⟨G1,hle1,hI1,hs1⟩:=hI.lockRow hg;have hv:=LO hI hle1 hg hn2 hs1 a0;rw[hn]at hv;exact S8 (fun b o h=>hI1.sl b o h) 9 _ _ h1 hv
  refine(hA ⟨[],[]⟩).2 Gs #[v0] w R hIs ⟨rfl,fun i h1 h2=>by
   obtain rfl:i=0:=by simp at h1;omega
   exact hq⟩ fun G2 r v w2 s2 hle hI2 hrv hlen hK=>?_
  obtain⟨γ2,rfl,rfl⟩:=hK
  have hg2:(St.put ⟨[],[]⟩ (⟨[],[]⟩:St).up.length d γ2 (.vec T es')).get 0 d=some (γ2,.vec T es'):=by simp[St.put,St.get,AA.put,AA.get]
  have hrv:RepV G2 (.vec 0 d γ2 es'.length) v:=hrv
  have hold:∀b,b<w.heap.size->w2.heap[b]? = w.heap[b]?:=fun b hb=>by
   have e:Gs.sl b=some w.heap[b]:=by show w.heap[b]? = _;simp[hb]
   rw[hI2.sl b _ (hle.a _ _ e)];simp[hb]
  obtain⟨G4,hle4,hI4,hs4⟩:=hI2.lockRow hg2
  have hv2:=LO hI2 hle4 hg2 (bc _) hs4 hrv
  rw[List.take_length]at hv2
  obtain⟨e1,e2,e3,e4⟩:=hI.env
  have he:G2.env=(w.os,w.output,w.heap.size):=hle.e
  obtain⟨q1,q2,q3,q4⟩:=hI2.env
  rw[he]at q1 q2 q3 q4
  let G3:Gh:={ G with sl:=fun b=>if b<w.heap.size then G.sl b else w2.heap[b]? }
  have hlt:∀b o,G.sl b=some o->b<w.heap.size:=fun b o h=>(Array.getElem?_eq_some_iff.1 (hI.sl b o h)).1
  have hle3:G.le G3:=⟨fun b o h=>(if_pos (hlt b o h)).trans h,fun _ _ h=>h,rfl,fun _ _ h=>h⟩
  have hso:∀{g r b},BG G3 g r=some b->BG G g r=some b:=by intro g r b h;cases r<;>exact h
  have hI3:CE G3 s w2:=by
   refine⟨fun b o h=>?_,fun l k g r h=>(hI.res l k g r h).keep hle3 fun b hb=>hold b (hI.out _ _ _ _ _ h hb).2,fun l k g r l' k' g' r' b h1 h2 h3 h4=>hI.sep _ _ _ _ _ _ _ _ _ h1 h2 (hso h3) (hso h4),fun l k g r b h hb=>?_,hI.fresh,⟨q1.trans e1,q2.trans e2,dw e3 q3,fun b c T fz hb hc=>?_⟩,
    ⟨fun b d hb'=>(hI.me.at' b d hb').keep (fun _ _ h=>h.mono hle3) (hold b (hI.me.lt b d hb')),fun b d hb=>cz (hI.me.lt b d hb) q3,fun l k g r b h hb=>hI.me.ow l k g r b h (hso hb),fun b d hb=>(if_pos (hI.me.lt b d hb)).trans (hI.me.sl b d hb)⟩⟩
   ·have h:(if b<w.heap.size then G.sl b else w2.heap[b]?)=some o:=h;split at h
    ·rename_i hb;rw[hold b hb];exact hI.sl b o h
    ·exact h
   ·obtain⟨h3,h4⟩:=hI.out l k g r b h (hso hb);exact⟨(if_pos h4).trans h3,cz h4 q3⟩
   ·rcases Nat.lt_or_ge b w.heap.size with hl|hl
    ·rw[hold b hl]at hc;exact e4 b c T fz hb hc
    ·exact q4 b c T fz hl hc
  refine hR G3 (.list false es') v w2 s hle3 hI3 ?_ rfl ⟨rfl,rfl⟩
  cases hrv with
  |vec _ _ _ _ b2 sz2 C2 a2 hb2 hlen2 ha2=>
   generalize hm:es'.length=m at hv2
   cases hv2 with
   |list _ _ _ _ b3 off sz3 arr T3 fz vs hcap hfull ha hl hv hr=>
    refine .list false es' a2 C2 b3 off sz3 arr T3 fz vs hcap hfull (fun hne=>⟨(ha hne).1,?_⟩) hl hv fun i h j hj=>AGA (bw.1 (bw.1 h2 _ (br h)) _ (br hj)) (hr i h j hj)
    have hC:C2≠0:=fun e=>hne (List.eq_nil_of_length_eq_zero (by omega))
    have hb:b3=b2:=by have:=(ha hne).1.symm.trans (ha2 hC);injection this with this;injection this
    subst hb
    have ho:BG G2 γ2 (.vec T es')=some b3:=by simp[BG,hb2,hC]
    have hge:¬b3<w.heap.size:=fun hlt=>by
     have e:Gs.sl b3=some w.heap[b3]:=by show w.heap[b3]? = _;simp[hlt]
     have:=(hI2.out _ _ _ _ _ hg2 ho).1;rw[hle.a _ _ e]at this;cases this
    show(if b3<w.heap.size then G.sl b3 else w2.heap[b3]?)=_
    rw[if_neg hge,<-hs4 b3 ho]
    exact(ha hne).2
end Go.Pg
