/- Running a Go function upon abstract values, by computing: one operation, and that it is what the walk asks. No program in sight. -/
import Derived.Test.YtmnlpgjklibndaaGreatP5
noncomputable section
open Go renaming Oper->dl,Operand->dm,TypeId->dn,Program->dp
open Option renaming bind_eq_some_iff->bj,map_some->bg,bind_some->cg,some->dv
open Nat renaming eq_of_beq_eq_true->bq,le_refl->bc,beq->bn,lt_succ_self->bt,lt_of_lt_of_le->cz,le_succ->cm,blt->dq,le_trans->dw,blt_eq->dx,ble_eq->dz
open List renaming all_eq_true->bw,map_congr_left->bx,replicate->bz,map_inj_left->bf,length_replicate->bh,getElem_mem->br,map_map->cj,getElem_map->ck,map_flatten->cq,map_cons->cx,mem_map_of_mem->cd,mem_map->cp,map->dj,map_replicate->dk,getElem?_mapIdx->db,length_mapIdx->df,map_drop->dg,cons->dh
open Bool renaming and_eq_true->bp
open Prod renaming mk->dc
namespace Go.Pg
variable {P:dp}{Ω:F9 P}{σ σ':Nat->Nat}{δ:Nat}{pre:List AB}{s:St}{fr:Fr}{g:Bool}
def JS(all:List dl)(o:dl):Option (Tmp×Bool):=match o.guard with
 |none=>none
 |some (j,w)=>match all[j]? with
  |some p=>match p.dst with
   |some d=>some (d,w)
   |none=>none
  |none=>none
def nW(all:List dl):Bool:=all.all fun o=>F6 all o (JS all o)
theorem bB{all:List dl}:∀{l:List dl},(∀o∈l,F6 all o (JS all o)=true)->H5 all (l.map (JS all)) l=true
 |[],_=>rfl
 |o::l,h=>by simp only[cx,H5,bp];exact⟨h o (by simp),bB fun p hp=>h p (by simp[hp])⟩
theorem QJ{all:List dl}(h:nW all=true):∀o∈all,F6 all o (JS all o)=true:=fun o ho=>bw.1 h o ho
def AVJ(d:Tmp)(p:dl):Bool:=match p.op with
 |.call { callee:=.builtin .append,args,.. }=>match args.toList with
  |.tmp t::_=>bn t d
  |_=>false
 |.call { callee:=.value (.func _),args,argTypes }=>match args.toList,argTypes.toList with
  |[.tmp t,_],[T,U]=>bn t d&&bn T p.type&&!(bn U T)
  |_,_=>false
 |_=>false
def AJ7(d:Tmp)(p:dl):Bool:=match p.op with
 |.store _ _ (.tmp t)=>bn t d
 |_=>false
def CH(l:List dl)(o:dl):Bool:=match o.op,o.dst with
 |.call { callee:=.value _,.. },some d=>l.any fun p=>AVJ d p||AJ7 d p
 |_,_=>false
def kS(o:dl):Bool:=match o.op with
 |.mapUpdate ..|.insert ..=>true
 |.call { callee:=.builtin b,.. }=>match b with
  |.len|.max|.min|.cap|.append=>false
  |_=>true
 |_=>false
def kC(o:dl):Bool:=match o.op with
 |.call { callee:=.value _,.. }=>true
 |_=>false
def onB(o:dl)(A:List Nat):Bool:=o.after.any fun e=>Region.binds .any e&&A.contains e.on
def AVK(o:dl)(l:List dl)(A:List Nat):Bool:=kW o&&l.isEmpty&&A.all fun j=>o.after.any fun e=>Region.binds .any e&&bn e.on j
def AVL(o:dl)(i:Nat):List Nat->List Nat
 |[]=>[i]
 |a::A=>cond (onB o [a]) (i::a::A) (a::AVL o i A)
def IP(own:dl->Bool):List dl->Nat->List Nat->List Nat->List Nat->List Nat->List Nat->List Nat->List Nat×List Nat
 |[],_,R,Q,A,S,R2,T=>(R.reverse++Q.reverse++A.reverse++S.reverse++R2.reverse,T.reverse)
 |o::l,i,R,Q,A,S,R2,T=>
  cond (onB o T||kS o||AVK o l (R++Q++A++S++R2++T)||(kC o&&(onB o (Q++S++R2)||(!(own o)&&onB o A)))) (IP own l (i+1) R Q A S R2 (i::T))
   (cond (kP o) (cond (onB o (A++S++R2)) (IP own l (i+1) R Q A S (i :: R2) T) (IP own l (i+1) R (i :: Q) A S R2 T))
   (cond (kW o) (cond (onB o R2) (IP own l (i+1) R Q A S (i :: R2) T) (IP own l (i+1) R Q A (i :: S) R2 T))
    (cond (onB o (Q++S++R2)||(cond (kA own o) (!R2.isEmpty) (onB o (A.take 1)))) (IP own l (i+1) R Q A S (i :: R2) T)
     (cond (kA own o) (IP own l (i+1) R Q (i :: A) S R2 T) (cond (onB o A) (IP own l (i+1) R Q (AVL o i A) S R2 T) (IP own l (i+1) (i :: R) Q A S R2 T))))))
def AGI(af:Nat):List (Nat×Nat)->Nat->Nat
 |[],m=>m
 |p::r,m=>GA (cond (RM af p.1) (Nat.lor m (Nat.lor p.2 (Nat.shiftLeft 1 p.1))) m) (AGI af r)
def AVM:List (Nat×Nat)->List (Nat×Nat)->List (Nat×Nat)
 |[],acc=>acc
 |p::r,acc=>GA (AGI p.2 acc 0) fun m=>AVM r ((p.1,m)::acc)
def AJ8(l:List dl):List Nat:=((AVM (uE l 0) []).filterMap fun p=>cond (bn p.2 (Nat.sub (Nat.pow 2 p.1) 1)) (match l[p.1]? with
 |some o=>cond (kC o&&bn (JF p.1 (uE l 0) 0) (Nat.sub (Nat.pow 2 l.length) (Nat.pow 2 (p.1+1)))) (some p.1) none
 | none=>none) none).reverse
def AGJ(own:dl->Bool)(l:List dl):Nat->List Nat->S9
 |i,[]=>[IP own (l.drop i) i [] [] [] [] [] []]
 |i,c::cs=>match IP own ((l.drop i).take (c-i)) i [] [] [] [] [] []with
  |(R,T)=>(R,T++[c])::AGJ own l (c+1) cs
def TF(l:List dl):S9:=AGJ (CH l) l 0 (AJ8 l)
def AJ9(l:List dl):List Nat:=l.filterMap fun o=>cond (kA (CH l) o) o.dst none
def FB:Code->Bool
 |.seq a b=>FB a&&FB b
 |.cond _ a b=>FB a&&FB b
 |.block _ c=>FB c
 |.loop c=>FB c
 |.scope _=>false
 |.rangeFunc ..=>false
 |_=>true
def D4(N:Nat):Code->Bool
 |.region _ ops draw=>cond draw (MG (CH ops.toList) N (ops.toList.map (JS ops.toList)) (TF ops.toList) ops.toList) (JZ N ops.toList&&nW ops.toList)
 |.seq a b=>D4 N a&&D4 N b
 |.cond _ a b=>D4 N a&&D4 N b
 |.block _ c=>D4 N c
 |.loop c=>D4 N c
 |.scope c=>D4 N c
 |.rangeFunc _ ps asg body=>ps.toList.all (fun p=>dq p N)&&FB asg&&FB body&&D4 N asg&&D4 N body
 |_=>true
def QK(N:Nat)(ps:List Tmp)(asg body:Code):Bool:=ps.all (fun p=>dq p N)&&FB asg&&FB body&&D4 N asg&&D4 N body
def QL(s:St):Prop:=∀l k γ fr ps asg body N st,s.get l k=some (γ,.loop fr ps asg body N st)->QK N ps asg body=true
theorem kM{s:St}{l k γ:Nat}{r:AY}{l' k':Nat}{x:Nat×AY}(h:(s.put l k γ r).get l' k'=some x):x=(γ,r)\/s.get l' k'=some x:=by
 unfold St.put at h;unfold St.get at h|-;by_cases e1:l=s.up.length
 ·rw[if_pos e1]at h;by_cases e2:l'=s.up.length
  ·rw[if_pos e2]at h|-;rw[AB.get_put]at h;split at h
   ·exact .inl (dv.inj h).symm
   ·exact .inr h
  ·rw[if_neg e2]at h|-;exact .inr h
 ·rw[if_neg e1]at h;have hl:({ s with up:=s.up.modify l (fun L=>L.put k γ r) }:St).up.length=s.up.length:=by simp
  rw[hl]at h;by_cases e2:l'=s.up.length
  ·rw[if_pos e2]at h|-;exact .inr h
  ·rw[if_neg e2]at h|-;rw[List.getElem?_modify]at h;cases hu:s.up[l']? with
   |none=>simp[hu]at h
   |some L=>
    rw[hu]at h
    simp only[Option.map_eq_map,bg]at h
    by_cases e3:l=l'
    ·simp only[e3,if_true,AB.get_put]at h;split at h
     ·exact .inl (dv.inj h).symm
     ·exact .inr h
    ·simp only[e3,if_false]at h;exact .inr h
theorem QL.put{s:St}(h:QL s){l k γ:Nat}{r:AY}(hr:∀fr ps asg body N st,r=.loop fr ps asg body N st->QK N ps asg body=true):QL (s.put l k γ r):=by
 intro l' k' γ' fr ps asg body N st hg;rcases kM hg with e|e
 ·cases e;exact hr _ _ _ _ _ _ rfl
 ·exact h _ _ _ _ _ _ _ _ _ e
structure XS where
 c:Nat
 fr:Fr
 s:St
def EV(fr:Fr)(k:Nat):Option (Bool×V):=List.rec (motive:=fun _=>Option (Bool×V)) none (fun x _ ih=>Bool.rec ih (some x.2) (bn k x.1)) fr
theorem FI:∀(fr:Fr) (k:Nat),EV fr k=fr.get k
 |[],_=>rfl
 |(j,x)::fr,k=>by
  show(Bool.rec (EV fr k) (some x) (bn k j):Option (Bool×V))=if k=j then some x else Fr.get fr k
  by_cases h:k=j
  ·subst h;rw[if_pos rfl,Nat.beq_refl]
  ·rw[if_neg h,<-FI fr k];have:bn k j=false:=by
    cases hb:bn k j with
    |false=>rfl
    |true=>exact absurd (bq hb) h
   rw[this]
def BO(fr:Fr)(x:dm):Option V:=match x with
 |.tmp t=>match EV fr t with
  |some (true,v)=>some v
  |_=>none
 |.const v=>B4 v
 |.func f=>some (.fn f [] [])
 |.global _=>none
theorem C9(x:dm):BO fr x=DA true fr x:=by
 cases x with
 |tmp t=>
  simp only[BO,DA,rd,FI]
  cases fr.get t with
  |none=>rfl
  |some p=>
   obtain⟨c,v⟩:=p
   cases c<;>rfl
 |const v=>
  simp only[BO,DA,rd]
  cases B4 v<;>rfl
 |func f=>rfl
 |global g=>rfl
theorem EO:BO fr=DA true fr:=funext fun x=>C9 x
def AO(c:Nat)(σ σ':Nat->Nat):Prop:=∀i,i<c->σ i=σ' i
theorem AO.refl(c:Nat)(σ:Nat->Nat):AO c σ σ:=fun _ _=>rfl
theorem AO.trans{c c':Nat}{σ σ' σ'':Nat->Nat}(h:AO c σ σ')(h':AO c' σ' σ'')(hc:c<=c'):AO c σ σ'':=fun i hi=>(h i hi).trans (h' i (cz hi hc))
theorem AO.mono{c c':Nat}(h:AO c' σ σ')(hc:c<=c'):AO c σ σ':=fun i hi=>h i (cz hi hc)
theorem AO.upd(c γ:Nat)(σ:Nat->Nat):AO c σ (fun i=>if i=c then γ else σ i):=fun i hi=>by simp[Nat.ne_of_lt hi]
structure Bd(st:XS):Prop where
 f:∀σ σ' δ,AO st.c σ σ'->st.fr.ren σ δ=st.fr.ren σ' δ
 s:∀σ σ' pre,AO st.c σ σ'->st.s.emb σ pre=st.s.emb σ' pre
 lp:QL st.s
def Q7(c:Nat)(v:V):Prop:=∀σ σ' δ,AO c σ σ'->v.ren σ δ=v.ren σ' δ
structure HF(st st':XS):Prop where
 c:st.c<=st'.c
 bd:Bd st'
 n:st'.s.up.length=st.s.up.length
def StepX(P:dp)(o:dl)(st st':XS):Prop:=HF st st'/\∀(σ:Nat->Nat) (pre:List AB) (k:Fr->St->Prop),(∀σ',AO st.c σ σ'->k (st'.fr.ren σ' pre.length) (st'.s.emb σ' pre))->DO P true o (st.fr.ren σ pre.length) (st.s.emb σ pre) k
theorem ED(d:Option Tmp)(c:Bool)(v:V):(putD fr d c v).ren σ δ=putD (fr.ren σ δ) d c (v.ren σ δ):=by cases d<;>rfl
theorem GJ(d:Nat)(c:Bool)(v:V):(fr.put d c v).ren σ δ=(fr.ren σ δ).put d c (v.ren σ δ):=rfl
theorem Q7.mono{c c':Nat}{v:V}(h:Q7 c v)(hc:c<=c'):Q7 c' v:=fun σ σ' δ ha=>h σ σ' δ (ha.mono hc)
theorem Bd.val{st:XS}(h:Bd st){o:dl}{v:V}(hv:ES P g o st.fr st.s=some v):Q7 st.c v:=by intro σ σ' δ ha;have h1:=HN (σ:=σ) (pre:=bz δ []) hv;have h2:=HN (σ:=σ') (pre:=bz δ []) hv;rw[h.f σ σ' _ ha,h.s σ σ' _ ha,h2]at h1;have:=dv.inj h1;rw[bh]at this;exact this.symm
theorem Bd.rd{st:XS}(h:Bd st){x:dm}{v:V}(hv:BO st.fr x=some v):Q7 st.c v:=by intro σ σ' δ ha;rw[C9]at hv;have h1:=CN (g:=true) (fr:=st.fr) (σ:=σ) (δ:=δ) x;have h2:=CN (g:=true) (fr:=st.fr) (σ:=σ') (δ:=δ) x;rw[h.f σ σ' _ ha,h2,hv]at h1;simpa using h1.symm
theorem Bd.putF{st:XS}(h:Bd st){d:Option Tmp}{c:Bool}{v:V}(hv:Q7 st.c v):Bd { st with fr:=putD st.fr d c v } :=
 ⟨fun σ σ' δ ha=>by simp only[ED];rw[h.f σ σ' δ ha,hv σ σ' δ ha],h.s,h.lp⟩
def xX:AY->Bool
 |.loop ..=>false
 |_=>true
theorem R0{r:AY}(h:xX r=true):∀fr ps asg body N st,r=.loop fr ps asg body N st->QK N ps asg body=true:=by intro fr ps asg body N st e;subst e;cases h
theorem Bd.putS{st:XS}(h:Bd st){l k γ:Nat}{r:AY}(hγ:γ<st.c)(hr:∀σ σ' δ,AO st.c σ σ'->r.ren σ δ=r.ren σ' δ)(hp:xX r=true:=by rfl):Bd { st with s:=st.s.put l k γ r } :=
 ⟨h.f,fun σ σ' pre ha=>by simp only[B7];rw[h.s σ σ' pre ha,hr σ σ' _ ha,ha γ hγ],h.lp.put (R0 hp)⟩
theorem sC{o:dl}{st:XS}{v:V}(h:Bd st)(hv:ES P true o st.fr st.s=some v):StepX P o st { st with fr:=putD st.fr o.dst true v }:=by refine⟨⟨bc _,h.putF (h.val hv),rfl⟩,fun σ pre k hk=>C8 (Ω:=F9.nothing P) (.inl ⟨_,HN hv,?_⟩)⟩;have:=hk σ (AO.refl _ _);rwa [ED]at this
theorem WC{c:Nat}{v:V}(h:Q7 c v)(σ σ':Nat->Nat)(δ:Nat)(ha:AO c σ σ'):(A7 v).map (V.ren σ δ)=(A7 v).map (V.ren σ' δ):=by rw[<-DT,<-DT,h σ σ' δ ha]
def bC(P:dp)(Ω:F9 P)(o:dl)(st st':XS):Prop:=HF st st'/\∃d,o.dst=some d/\∀(σ:Nat->Nat) (pre:List AB) (k:Fr->St->Prop),(∀σ',AO st.c σ σ'->k (st'.fr.ren σ' pre.length) (st'.s.emb σ' pre)) ->
 ∃r,N9 P Ω o (st.fr.ren σ pre.length)=some r/\∀γ,k ((st.fr.ren σ pre.length).put d true (r.val (st.s.emb σ pre).up.length d γ)) ((st.s.emb σ pre).put (st.s.emb σ pre).up.length d γ r.res)
theorem bC.step{o:dl}{st st':XS}(h:bC P Ω o st st'):StepX P o st st':=by obtain⟨h1,d,hd,h2⟩:=h;refine⟨h1,fun σ pre k hk=>?_⟩;obtain⟨r,hr,h3⟩:=h2 σ pre k hk;exact C8 (Ω:=Ω) (.inr (.inr ⟨r,d,rfl,hd,hr,h3⟩))
theorem Y4{o:dl}{st:XS}{d:Nat}{cs:List V}(h:Bd st)(hd:o.dst=some d)(hcs:∀σ σ' δ,AO st.c σ σ'->cs.map (V.ren σ δ)=cs.map (V.ren σ' δ))
  (hn:∀σ pre,N9 P Ω o (st.fr.ren σ (List.length (α:=AB) pre))=some ⟨.box (cs.map (V.ren σ pre.length)),none⟩) :
  bC P Ω o st ⟨st.c+1,st.fr.put d true (.ptr st.s.up.length d st.c 0),st.s.put st.s.up.length d st.c (.box cs)⟩:=by
 have hb:∀σ σ',AO (st.c+1) σ σ'->AO st.c σ σ':=fun σ σ' ha=>ha.mono (cm _)
 refine⟨⟨cm _,⟨fun σ σ' δ ha=>?_,fun σ σ' pre ha=>?_,h.lp.put (R0 rfl)⟩,St.put_len _ _ _ _ _⟩,d,hd,fun σ pre k hk=>⟨_,hn σ pre,fun γ=>?_⟩⟩
 ·simp only[GJ,GD];rw[h.f σ σ' δ (hb _ _ ha),ha st.c (bt _)]
 ·simp only[B7,AY.ren];rw[h.s σ σ' pre (hb _ _ ha),hcs σ σ' _ (hb _ _ ha),ha st.c (bt _)]
 ·have:=hk (fun i=>if i=st.c then γ else σ i) (AO.upd _ _ _);have ha:=AO.upd st.c γ σ;simp only[GJ,GD,if_true,B7,AY.ren]at this;rw[<-h.f _ _ _ ha,<-h.s _ _ _ ha,<-hcs _ _ _ ha]at this;rw[CM];exact this
def MP(P:dp)(d:Option Tmp)(T:dn)(st:XS):Option XS:=match d,B8 P T with
 |some d,some cs=>some ⟨st.c+1,(d,true,.ptr st.s.up.length d st.c 0)::st.fr,st.s.put st.s.up.length d st.c (.box cs)⟩
 |_,_=>none
def fK(d:Option Tmp)(x:dm)(st:XS):Option XS:=match d,BO st.fr x with
 |some d,some v=>Bool.rec none (some ⟨st.c+1,(d,true,.ptr st.s.up.length d st.c 0)::st.fr,st.s.put st.s.up.length d st.c (.box (A7 v))⟩) (BC v)
 |_,_=>none
theorem Y5{o:dl}{T:dn}{st st':XS}(h:Bd st)(ho:o.op=.alloc T)(hx:MP P o.dst T st=some st'):bC P Ω o st st':=by
 unfold MP at hx;split at hx
 ·rename_i d cs hd hz;cases hx;refine Y4 h hd (fun σ σ' δ _=>by rw[FT hz,FT hz]) fun σ pre=>?_;simp[N9,ho,hz,FT hz]
 ·cases hx
theorem nX{o:dl}{T:dn}{x:dm}{st st':XS}(h:Bd st)(ho:o.op=.box T x)(hx:fK o.dst x st=some st'):bC P Ω o st st':=by
 unfold fK at hx;split at hx
 ·rename_i d v hd hv;cases hf:BC v with
  |false=>rw[hf]at hx;cases hx
  |true=>
   rw[hf]at hx
   cases hx
   refine Y4 h hd (fun σ σ' δ ha=>WC (h.rd hv) σ σ' δ ha) fun σ pre=>?_
   rw[C9]at hv
   simp[N9,ho,CN,hv,G6,hf,DT]
 ·cases hx
def SU(P:dp)(d:Option Tmp)(T:dn)(x y:dm)(st:XS):Option XS:=match d,BK P T with
 |some d,some (none,e)=>match BO st.fr x,BO st.fr y with
  |some (.int _ n),some (.int _ m)=>match B8 P e with
   |some z=>if 0<=n/\m=n/\z.length=P.cellsOf e/\n.toNat*P.bytesOf e<=140737488355328/\n.toNat<=maxLen then
     some ⟨st.c+1,(d,true,.vec st.s.up.length d st.c n.toNat)::st.fr,st.s.put st.s.up.length d st.c (.vec e (bz n.toNat z))⟩ else none
   |none=>none
  |_,_=>none
 |_,_=>none
theorem fL{o:dl}{T:dn}{x y:dm}{st st':XS}(h:Bd st)(ho:o.op=.makeSlice T x y)(hx:SU P o.dst T x y st=some st'):bC P Ω o st st':=by
 unfold SU at hx;split at hx
 ·rename_i d e hd hel;split at hx
  ·rename_i k1 n k2 m h1 h2;split at hx
   ·rename_i z hz;split at hx
    ·rename_i hc;cases hx;rw[C9]at h1 h2;have hr:∀σ δ,(bz n.toNat z).map (dj (V.ren σ δ))=bz n.toNat z:=fun σ δ=>by rw[dk,FT hz]
     have hb:∀σ σ',AO (st.c+1) σ σ'->AO st.c σ σ':=fun σ σ' ha=>ha.mono (cm _);refine⟨⟨cm _,⟨fun σ σ' δ ha=>?_,fun σ σ' pre ha=>?_,h.lp.put (R0 rfl)⟩,St.put_len _ _ _ _ _⟩,d,hd,fun σ pre k hk=>⟨⟨.vec e (bz n.toNat z),none⟩,?_,fun γ=>?_⟩⟩
     ·show((st.fr.put d true _).ren σ δ)=((st.fr.put d true _).ren σ' δ);simp only[GJ,GF];rw[h.f σ σ' δ (hb _ _ ha),ha st.c (bt _)]
     ·simp only[B7,AY.ren,hr];rw[h.s σ σ' pre (hb _ _ ha),ha st.c (bt _)]
     ·simp only[N9,ho,CN,h1,h2,bg,DN,hel,hz];rw[if_pos hc]
     ·have:=hk (fun i=>if i=st.c then γ else σ i) (AO.upd _ _ _);have ha:=AO.upd st.c γ σ;change k ((st.fr.put d true _).ren _ _) _ at this;simp only[GJ,GF,if_true,B7,AY.ren,hr]at this;rw[<-h.f _ _ _ ha,<-h.s _ _ _ ha]at this;simp only[Mk.val,F8,bh];rw[CM];exact this
    ·cases hx
   ·cases hx
  ·cases hx
 ·cases hx
def sD(d:Option Tmp)(r:Option dm)(st:XS):Option XS:=match d,r with
 |some d,none=>some ⟨st.c+1,(d,true,.mp st.s.up.length d st.c)::st.fr,st.s.put st.s.up.length d st.c (.map [])⟩
 |_,_=>none
theorem nY{o:dl}{T:dn}{r:Option dm}{st st':XS}(h:Bd st)(ho:o.op=.makeMap T r)(hx:sD o.dst r st=some st'):bC P Ω o st st':=by
 unfold sD at hx;split at hx
 ·rename_i d hd;cases hx;have hb:∀σ σ',AO (st.c+1) σ σ'->AO st.c σ σ':=fun σ σ' ha=>ha.mono (cm _);refine⟨⟨cm _,⟨fun σ σ' δ ha=>?_,fun σ σ' pre ha=>?_,h.lp.put (R0 rfl)⟩,St.put_len _ _ _ _ _⟩,d,hd,fun σ pre k hk=>⟨⟨.map [],none⟩,?_,fun γ=>?_⟩⟩
  ·show((st.fr.put d true _).ren σ δ)=((st.fr.put d true _).ren σ' δ);simp only[GJ,KX];rw[h.f σ σ' δ (hb _ _ ha),ha st.c (bt _)]
  ·simp only[B7,AY.ren,List.map_nil];rw[h.s σ σ' pre (hb _ _ ha),ha st.c (bt _)]
  ·simp only[N9,ho]
  ·have:=hk (fun i=>if i=st.c then γ else σ i) (AO.upd _ _ _);have ha:=AO.upd st.c γ σ;change k ((st.fr.put d true _).ren _ _) _ at this;simp only[GJ,KX,if_true,B7,AY.ren,List.map_nil]at this;rw[<-h.f _ _ _ ha,<-h.s _ _ _ ha]at this;simp only[Mk.val,F8];rw[CM];exact this
 ·cases hx
def HV(P:dp)(d:Option Tmp)(T:dn)(x y:dm)(st:XS):Option XS:=match d with
 |some _=>none
 |none=>match BO st.fr x,BO st.fr y with
  |some (.ptr l q γ off),some v=>match st.s.get l q with
   |some (γ',.box cs)=>if bn γ' γ&&BC v&&dq 0 (P.cellsOf T)&&bn (A7 v).length (P.cellsOf T)&&Nat.ble (off+P.cellsOf T) cs.length&&dq γ st.c then some { st with s:=st.s.put l q γ (.box (AZ cs off (A7 v))) } else none
   |_=>none
  |some (.eptr l q γ i off),some v=>match st.s.get l q with
   |some (γ',.vec U es)=>if bn γ' γ&&BC v&&dq 0 (P.cellsOf T)&&bn (A7 v).length (P.cellsOf T)&&dq i es.length&&Nat.ble (off+P.cellsOf T) (es.getD i []).length&&dq γ st.c then some { st with s:=st.s.put l q γ (.vec U (es.set i (AZ (es.getD i []) off (A7 v)))) } else none
   |_=>none
  |_,_=>none
theorem K6{st:XS}(h:Bd st){l q γ:Nat}{r:AY}(hg:st.s.get l q=some (γ,r))(σ σ':Nat->Nat)(δ:Nat)(ha:AO st.c σ σ'):r.ren σ δ=r.ren σ' δ:=by have h1:=BL (s:=st.s) (σ:=σ) (pre:=bz δ []) l q;have h2:=BL (s:=st.s) (σ:=σ') (pre:=bz δ []) l q;rw[h.s σ σ' _ ha,h2,hg]at h1;simp only[bg,bh,dv.injEq,dc.injEq]at h1;exact h1.2.symm
theorem JK(es:List (List V))(i:Nat)(x:List V):(es.set i x).map (dj (V.ren σ δ))=(es.map (dj (V.ren σ δ))).set i (x.map (V.ren σ δ)):=by simp[List.map_set]
theorem Y6{o:dl}{T:dn}{x y:dm}{st st':XS}(h:Bd st)(ho:o.op=.store T x y)(hx:HV P o.dst T x y st=some st'):StepX P o st st':=by
 unfold HV at hx;split at hx
 ·cases hx
 ·rename_i hd;split at hx
  ·rename_i l q γ off v h1 h2;split at hx
   ·rename_i γ' cs hg;split at hx
    ·rename_i hc;simp only[bp,dx,dz]at hc;obtain⟨⟨⟨⟨⟨c1,c2⟩,c3⟩,c4⟩,c5⟩,c6⟩:=hc;have c1:=bq c1;have c4:=bq c4;subst c1;cases hx;have hv:=h.rd h2;refine⟨⟨bc _,h.putS c6 fun σ σ' δ ha=>?_,St.put_len _ _ _ _ _⟩,fun σ pre k hk=>?_⟩
     ·have hr:=K6 h hg σ σ' δ ha;simp only[AY.ren,AY.box.injEq]at hr|-;rw[<-CR,<-CR,hr,WC hv σ σ' δ ha]
     ·have:=hk σ (AO.refl _ _);rw[C9]at h1 h2;unfold DO;simp only[ho,CN,h1,h2,bg,GD,BL,hg,AY.ren];refine⟨trivial,trivial,by rw[G6];exact c2,c3,by rw[DT];simpa using c4,by simpa using c5,hd,?_⟩;rw[DT,CR];rw[B7]at this;exact this
    ·cases hx
   ·cases hx
  ·rename_i l q γ i off v h1 h2;split at hx
   ·rename_i γ' U es hg;split at hx
    ·rename_i hc;simp only[bp,dx,dz]at hc;obtain⟨⟨⟨⟨⟨⟨c1,c2⟩,c3⟩,c4⟩,c5⟩,c6⟩,c7⟩:=hc;have c1:=bq c1;have c4:=bq c4;subst c1;cases hx;have hv:=h.rd h2;refine⟨⟨bc _,h.putS c7 fun σ σ' δ ha=>?_,St.put_len _ _ _ _ _⟩,fun σ pre k hk=>?_⟩
     ·have hr:=K6 h hg σ σ' δ ha;simp only[AY.ren,AY.vec.injEq,true_and]at hr|-;rw[JK,JK,<-CR,<-CR,<-D9,<-D9,hr,WC hv σ σ' δ ha]
     ·have:=hk σ (AO.refl _ _);rw[C9]at h1 h2;unfold DO;simp only[ho,CN,h1,h2,bg,MH,BL,hg,AY.ren];refine⟨trivial,trivial,by rw[G6];exact c2,c3,by rw[DT];simpa using c4,by simpa using c5,by rw[D9];simpa using c6,hd,?_⟩;rw[D9,DT,CR,<-JK];rw[B7]at this;exact this
    ·cases hx
   ·cases hx
  ·cases hx
def sE(P:dp)(d:Option Tmp)(T:dn)(x i y:dm)(st:XS):Option XS:=match d with
 |some _=>none
 |none=>match BO st.fr x,BO st.fr i,BO st.fr y with
  |some m,some i,some v=>match ID P st.s T m i v with
   |some (l,q,γ,es)=>Bool.rec none (some { st with s:=st.s.put l q γ (.map es) }) (dq γ st.c)
   |none=>none
  |_,_,_=>none
theorem ADJ{o:dl}{T:dn}{x i y:dm}{st st':XS}(h:Bd st)(ho:o.op=.mapUpdate T x i y)(hx:sE P o.dst T x i y st=some st'):StepX P o st st':=by
 unfold sE at hx;split at hx
 ·cases hx
 ·rename_i hd;split at hx
  ·rename_i m i' v h1 h2 h3;split at hx
   ·rename_i l q γ es hu;cases hb:dq γ st.c with
    |false=>rw[hb]at hx;cases hx
    |true=>
     rw[hb]at hx
     have hlt:γ<st.c:=by simpa using hb
     cases hx
     have hm:=h.rd h1
     have hi:=h.rd h2
     have hv:=h.rd h3
     refine⟨⟨bc _,h.putS hlt fun σ σ' δ ha=>?_,St.put_len _ _ _ _ _⟩,fun σ pre k hk=>?_⟩
     ·have q1:=RQ (σ:=σ) (pre:=bz δ []) hu;have q2:=RQ (σ:=σ') (pre:=bz δ []) hu;rw[h.s σ σ' _ ha,hm σ σ' _ ha,hi σ σ' _ ha,hv σ σ' _ ha,q2]at q1;simp only[dv.injEq,dc.injEq,bh]at q1;simp only[AY.ren,q1.2.2.2]
     ·have:=hk σ (AO.refl _ _);rw[C9]at h1 h2 h3;unfold DO;simp only[ho,CN,h1,h2,h3,bg,RQ hu];refine⟨trivial,hd,?_⟩;rw[B7]at this;exact this
   ·cases hx
  ·cases hx
def bD(P:dp)(d:Option Tmp)(args:List dm)(Ts:List dn)(st:XS):Option XS:=match args,Ts,d with
 |[x],[T],none=>match BK P T,BO st.fr x with
  |some (none,e),some (.vtl l q γ i n)=>match st.s.get l q,B8 P e with
   |some (γ',.vec U es),some z=>Bool.rec none (some { st with s:=st.s.put l q γ (.vec U (es.take i++bz n z++es.drop (i+n))) }) (bn γ' γ&&bn U e&&Nat.ble (i+n) es.length&&es.all (fun y=>y.length==z.length)&&dq γ st.c)
   |_,_=>none
  |_,_=>none
 |_,_,_=>none
theorem sF{o:dl}{args:Array dm}{Ts:Array dn}{st st':XS}(h:Bd st)(ho:o.op=.call { callee:=.builtin .clear,args:=args,argTypes:=Ts })(hx:bD P o.dst args.toList Ts.toList st=some st'):StepX P o st st':=by
 unfold bD at hx;split at hx
 ·rename_i x T ha hT hd;split at hx
  ·rename_i e l q γ i n hel h1;split at hx
   ·rename_i γ' U es z hg hz;cases hb:(bn γ' γ&&bn U e&&Nat.ble (i+n) es.length&&es.all (fun y=>y.length==z.length)&&dq γ st.c)with
    |false=>rw[hb]at hx;cases hx
    |true=>
     rw[hb]at hx
     cases hx
     simp only[bp,dx,dz]at hb
     obtain⟨⟨⟨⟨c1,c2⟩,c3⟩,c4⟩,c5⟩:=hb
     have c1:=bq c1
     have c2:=bq c2
     subst c1;subst c2
     have hz':∀σ δ,z.map (V.ren σ δ)=z:=fun σ δ=>FT hz
     refine⟨⟨bc _,h.putS c5 fun σ σ' δ ha=>?_,St.put_len _ _ _ _ _⟩,fun σ pre k hk=>?_⟩
     ·have hr:=K6 h hg σ σ' δ ha;simp only[AY.ren,AY.vec.injEq,true_and]at hr|-;simp only[List.map_append,List.map_take,dg,dk,hz',hr]
     ·have:=hk σ (AO.refl _ _);rw[C9]at h1;unfold DO;simp only[ho,ha,hT,hd,hel,CN,h1,bg,T7,BL,hg,hz,AY.ren];refine⟨trivial,trivial,trivial,by simpa using c3,?_,?_⟩
      ·rw[List.all_map];exact c4▸(by congr 1;funext x;simp)
      ·rw[B7]at this;simp only[AY.ren,List.map_append,List.map_take,dg,dk,hz']at this;exact this
   ·cases hx
  ·cases hx
 ·cases hx
theorem kN{o:dl}{l q γ:Nat}{r:AY}(h:CU P o fr s=some (l,q,γ,r)):CU P o (fr.ren σ pre.length) (s.emb σ pre)=some (l+pre.length,q,σ γ,r.ren σ pre.length):=by
 unfold CU at h|-;split at h
 ·rename_i T x y ho;simp only[CN];split at h
  ·rename_i l1 q1 γ1 off v e1 e2;simp only[e1,e2,bg,GD,BL];split at h
   ·rename_i γ2 cs e3;split at h
    ·rename_i hc;cases h;obtain⟨c1,c2,c3,c4,c5,c6⟩:=hc;subst c1;simp only[e3,bg,AY.ren,G6,DT,List.length_map];rw[if_pos ⟨trivial,c2,c3,c4,c5,c6⟩,CR]
    ·cases h
   ·cases h
  ·rename_i l1 q1 γ1 i off v e1 e2;simp only[e1,e2,bg,MH,BL];split at h
   ·rename_i γ2 U es e3;split at h
    ·rename_i hc;cases h;obtain⟨c1,c2,c3,c4,c5,c6,c7⟩:=hc;subst c1;simp only[e3,bg,AY.ren,G6,DT,List.length_map,D9];rw[if_pos ⟨trivial,c2,c3,c4,c5,c6,c7⟩,CR,<-JK]
    ·cases h
   ·cases h
  ·cases h
 ·cases h
theorem xY{o:dl}{T:dn}{x y:dm}{st st':XS}(ho:o.op=.store T x y)(hx:HV P o.dst T x y st=some st'):∃l q γ r,CU P o st.fr st.s=some (l,q,γ,r)/\st'={ st with s:=st.s.put l q γ r }:=by
 unfold HV at hx;unfold CU;simp only[ho];split at hx
 ·cases hx
 ·rename_i hd;split at hx
  ·rename_i l q γ off v h1 h2;split at hx
   ·rename_i γ' cs hg;split at hx
    ·rename_i hc;simp only[bp,dx,dz]at hc;obtain⟨⟨⟨⟨⟨c1,c2⟩,c3⟩,c4⟩,c5⟩,c6⟩:=hc;have c1:=bq c1;have c4:=bq c4;subst c1;cases hx;rw[C9]at h1 h2;refine⟨_,_,_,_,?_,rfl⟩;simp only[h1,h2,hg];rw[if_pos ⟨trivial,c2,c3,c4,c5,hd⟩]
    ·cases hx
   ·cases hx
  ·rename_i l q γ i off v h1 h2;split at hx
   ·rename_i γ' U es hg;split at hx
    ·rename_i hc;simp only[bp,dx,dz]at hc;obtain⟨⟨⟨⟨⟨⟨c1,c2⟩,c3⟩,c4⟩,c5⟩,c6⟩,c7⟩:=hc;have c1:=bq c1;have c4:=bq c4;subst c1;cases hx;rw[C9]at h1 h2;refine⟨_,_,_,_,?_,rfl⟩;simp only[h1,h2,hg];rw[if_pos ⟨trivial,c2,c3,c4,c5,c6,hd⟩]
    ·cases hx
   ·cases hx
  ·cases hx
def AB.hide(W:AG)(l:Nat)(L:AB):AB:=L.filter fun e=>!(W.contains (l,e.1))
theorem AB.get_hide(W:AG)(l:Nat):∀(L:AB) (k:Nat),(l,k)∉W->(L.hide W l).get k=L.get k
 |[],k,_=>rfl
 |(j,x)::L,k,hk=>by
  have ih:=AB.get_hide W l L k hk;unfold AB.hide at ih|-;rw[List.filter_cons];split
  ·simp only[AB.get];split
   ·rfl
   ·exact ih
  ·rename_i hc;simp only[Bool.not_eq_true',Bool.not_eq_false,List.contains_iff_mem]at hc;rw[ih];simp only[AB.get];rw[if_neg (fun e=>hk (by rw[e];simpa using hc))]
theorem AB.get_hide'(W:AG)(l:Nat):∀(L:AB) (k:Nat),(l,k)∈W->(L.hide W l).get k=none
 |[],k,_=>rfl
 |(j,x)::L,k,hk=>by
  have ih:=AB.get_hide' W l L k hk;unfold AB.hide at ih|-;rw[List.filter_cons];split
  ·rename_i hc;simp only[AB.get];rw[if_neg (fun e=>by subst e;simp[hk]at hc)];exact ih
  ·exact ih
def St.hide(W:AG)(s:St):St:=⟨s.up.mapIdx fun l L=>L.hide W l,s.loc.hide W s.up.length⟩
theorem St.get_hide{W:AG}{l k:Nat}(h:(l,k)∉W):(s.hide W).get l k=s.get l k:=by
 unfold St.get St.hide;simp only[df];split
 ·rename_i e;subst e;exact AB.get_hide W _ _ _ h
 ·rw[db];cases s.up[l]? with
  |none=>rfl
  |some L=>exact AB.get_hide W _ _ _ h
theorem St.get_hide'{W:AG}{l k:Nat}(h:(l,k)∈W):(s.hide W).get l k=none:=by
 unfold St.get St.hide;simp only[df];split
 ·rename_i e;subst e;exact AB.get_hide' W _ _ _ h
 ·rw[db];cases s.up[l]? with
  |none=>rfl
  |some L=>exact AB.get_hide' W _ _ _ h
theorem K7(W:AG):P5 W (s.hide W) s:=fun l k x e=>by
 by_cases h:(l,k)∈W
 ·rw[St.get_hide' h]at e;cases e
 ·exact⟨h,by rw[<-St.get_hide h];exact e⟩
def C6:Option V->AG
 |some (.ptr l k _ _)=>[(l,k)]
 |some (.eptr l k _ _ _)=>[(l,k)]
 |some (.vec l k _ _)=>[(l,k)]
 |some (.mp l k _)=>[(l,k)]
 |_=>[]
def EJ(one:Bool)(x:Option V):AG:=match one,x with
 |true,some (.ptr l k _ off)=>[(l,k+RK),(l,k+P6),(l,LV k off)]
 |true,some (.eptr l k _ _ off)=>[(l,k+RK),(l,k+P6),(l,LV k off)]
 |_,x=>C6 x
def G8(one:Bool)(x:Option V):AG:=match one,x with
 |true,some (.ptr l k _ off)=>[(l,k),(l,LV k off)]
 |true,some (.eptr l k _ _ off)=>[(l,k),(l,LV k off)]
 |false,some (.ptr l k _ _)=>[(l,k),(l,k+P6)]
 |false,some (.eptr l k _ _ _)=>[(l,k),(l,k+P6)]
 |_,_=>[]
def xZ:Option V->Bool
 |some (.ptr ..)=>true
 |some (.eptr ..)=>true
 |_=>false
def DV:Option V->AG
 |some (.vec l k _ _)=>[(l,k)]
 |some (.vtl l k _ _ _)=>[(l,k)]
 |some (.ptr l k _ _)=>[(l,k)]
 |_=>[]
def IQ:Option V->AG
 |some (.vec l k _ _)=>[(l,k+RK)]
 |_=>[]
def fM(P:dp)(o:dl)(r:dm->Option V):Bool:=match o.op with
 |.load T x=>bn (P.cellsOf T) 1&&xZ (r x)
 |.indexAddr _ x _=>match r x with
  |some (.vec ..)=>true
  |_=>false
 |_=>false
def G9(r:dm->Option V):List dm->AG
 |[_,y]=>DV (r y)
 |_=>[]
def yA:List Nat:=[118]
def E5:dm->Bool
 |.func f=>yA.contains f
 |_=>false
def O7(r:dm->Option V):List dm->AG
 |[x]=>DV (r x)
 |_=>[]
def DE(P:dp)(o:dl)(r:dm->Option V):AG:=match o.op with
 |.load T x=>EJ (bn (P.cellsOf T) 1) (r x)
 |.indexAddr _ x _=>IQ (r x)
 |.slice _ x ..=>DV (r x)
 |.lookup _ x ..=>C6 (r x)
 |.call { callee:=.builtin .append,args,.. }=>G9 r args.toList
 |.call { callee:=.value f,args,.. }=>cond (E5 f) (O7 r args.toList) []
 |_=>[]
theorem bE{W:AG}{x:V}{es:List (List V)}(h:elemsOf s x=some es)(hr:∀p∈DV (some x),p∉W):elemsOf (s.hide W) x=some es:=by
 cases x with
 |vec l k g n=>
  have hn:(l,k)∉W:=hr _ (by simp[DV])
  simp only[elemsOf,St.get_hide hn]at h|-
  exact h
 |vtl l k g i n=>
  have hn:(l,k)∉W:=hr _ (by simp[DV])
  simp only[elemsOf,St.get_hide hn]at h|-
  exact h
 |list b es=>exact h
 |nil=>exact h
 |raw v=>exact(SH _ _ v).trans h
 |_=>cases h
theorem yB{W:AG}{o:dl}{r:dm->Option V}{v:V}(h:H1 P o s r=some v)(hi:fM P o r=false)(hr:∀p∈DE P o r,p∉W):H1 P o (s.hide W) r=some v:=by
 unfold H1 at h|-;split at h;case h_4 T x ho=>
  obtain⟨p,h1,h2⟩:=bj.1 h
  obtain⟨cs,h3,h4⟩:=bj.1 h2
  have:A8 (s.hide W) p=some cs:=by
   cases p with
   |ptr l k g off=>
    have hb:bn (P.cellsOf T) 1=false:=by simpa [fM,ho,h1,xZ]using hi
    have hn:(l,k)∉W:=hr _ (by simp[DE,ho,h1,EJ,hb,C6])
    simp only[A8,St.get_hide hn]at h3|-;exact h3
   |eptr l k g i off=>
    have hb:bn (P.cellsOf T) 1=false:=by simpa [fM,ho,h1,xZ]using hi
    have hn:(l,k)∉W:=hr _ (by simp[DE,ho,h1,EJ,hb,C6])
    simp only[A8,St.get_hide hn]at h3|-;exact h3
   |_=>exact h3
  simp only[h1,cg,this,h4]
 case h_10 T x i ho=>
  obtain⟨p,h1,h2⟩:=bj.1 h
  obtain⟨q,h3,h4⟩:=bj.1 h2
  have:BG P (s.hide W) T p q=some v:=by
   unfold BG at h4|-;split at h4
   ·exact h4
   ·rename_i e l k g n k' j e1;simp[fM,ho,h1]at hi
   ·exact h4
   ·exact h4
   ·exact h4
   ·cases h4
  simp only[h1,h3,cg,this]
 case h_16 T x lo hi mx ho=>
  obtain⟨p,h1,h2⟩:=bj.1 h
  obtain⟨q,h3,h4⟩:=bj.1 h2
  obtain⟨q',h5,h6⟩:=bj.1 h4
  obtain⟨q2,h7,h8⟩:=bj.1 h6
  have:CI P (s.hide W) T p q q' q2=some v:=by
   unfold CI at h8|-;split at h8;case h_6 e l k g n k' i e1=>
    have hn:(l,k)∉W:=hr _ (by simp[DE,ho,h1,DV])
    simp only[St.get_hide hn];exact h8
   case h_7 n e l k g o e1=>
    have hn:(l,k)∉W:=hr _ (by simp[DE,ho,h1,DV])
    simp only[St.get_hide hn];exact h8
   all_goals exact h8
  simp only[h1,h3,h5,h7,cg,this]
 case h_17 T x i ok ho=>
  obtain⟨p,h1,h2⟩:=bj.1 h
  obtain⟨q,h3,h4⟩:=bj.1 h2
  have:CG P (s.hide W) T p q ok=some v:=by
   unfold CG at h4|-;split at h4
   ·rename_i K E l k g e1;have hn:(l,k)∉W:=hr _ (by simp[DE,ho,h1,C6]);simp only[St.get_hide hn];exact h4
   ·cases h4
  simp only[h1,h3,cg,this]
 all_goals exact h
theorem sG{W:AG}{o:dl}{v:V}(h:ES P g o fr s=some v)(hi:fM P o (DA g fr)=false)(hr:∀p∈DE P o (DA g fr),p∉W):ES P g o fr (s.hide W)=some v:=by
 unfold ES at h|-;split at h
 ·exact h
 ·exact h
 ·exact h
 ·exact h
 ·exact yB h hi hr
def UA(δ:Nat)(W:AG):AG:=W.map fun p=>(p.1+δ,p.2)
theorem JL{W:AG}{l k:Nat}:(l+δ,k)∈UA δ W↔(l,k)∈W:=by
 unfold UA;simp only[cp,dc.injEq,Prod.exists];constructor
 ·rintro ⟨a,b,h,h1,h2⟩;have:a=l:=by omega
  subst this;subst h2;exact h
 ·intro h;exact⟨l,k,h,rfl,rfl⟩
theorem SV(x:Option V):C6 (x.map (V.ren σ δ))=UA δ (C6 x):=by
 cases x with
 |none=>rfl
 |some v=>cases v<;>simp[C6,UA]
theorem K8(x:Option V):DV (x.map (V.ren σ δ))=UA δ (DV x):=by
 cases x with
 |none=>rfl
 |some v=>cases v<;>simp[DV,UA]
theorem kO(x:Option V):IQ (x.map (V.ren σ δ))=UA δ (IQ x):=by
 cases x with
 |none=>rfl
 |some v=>cases v<;>simp[IQ,UA]
theorem kQ(b:Bool)(x:Option V):EJ b (x.map (V.ren σ δ))=UA δ (EJ b x):=by
 cases b with
 |false=>exact SV x
 |true=>
  cases x with
  |none=>rfl
  |some v=>cases v<;>simp[EJ,C6,UA]
theorem AKA{W:AG}{o:dl}{v:V}(h:ES P g o fr s=some v)(hi:fM P o (DA g fr)=true)(hr:∀p∈DE P o (DA g fr),p∉W):XU P W g o fr s v:=by
 unfold fM at hi;split at hi
 ·rename_i T x ho;rw[bp]at hi;have h1:=bq hi.1;unfold ES at h;simp only[ho,H1]at h;obtain⟨p,hx,h⟩:=bj.1 h;obtain⟨cs,hcs,hv⟩:=bj.1 h;have hp:=hi.2;rw[hx]at hp;cases p with
  |ptr l k γ off=>
   have hr':∀p∈[(l,k+RK),(l,k+P6),(l,LV k off)],p∉W:=fun p hp=>hr p (by simp only[DE,ho,hx,hi.1,EJ];exact hp)
   refine .inr ⟨T,x,_,cs,l,k,off,ho,hx,rfl,hcs,hv,by omega,hr' _ (by simp),hr' _ (by simp),fun c hc=>?_⟩
   obtain rfl:c=0:=by omega
   exact hr' _ (by simp)
  |eptr l k γ i off=>
   have hr':∀p∈[(l,k+RK),(l,k+P6),(l,LV k off)],p∉W:=fun p hp=>hr p (by simp only[DE,ho,hx,hi.1,EJ];exact hp)
   refine .inr ⟨T,x,_,cs,l,k,off,ho,hx,rfl,hcs,hv,by omega,hr' _ (by simp),hr' _ (by simp),fun c hc=>?_⟩
   obtain rfl:c=0:=by omega
   exact hr' _ (by simp)
  |_=>cases hp
 ·rename_i T x i ho;split at hi
  ·rename_i l k γ n hx;unfold ES at h;simp only[ho,H1,hx,cg]at h;obtain⟨iv,hiv,h⟩:=bj.1 h;unfold BG at h;split at h
   ·rename_i e1 e2;cases e2
   ·rename_i e l' k' γ' n' ki j e1 e2;cases e2;split at h
    ·rename_i γ2 T' es hget;split at h
     ·rename_i hc;obtain⟨rfl,hc⟩:=hc;exact .inl ⟨T,x,i,e,_,_,_,_,ki,j,T',es,ho,hx,hiv,e1,hr _ (by simp[DE,ho,hx,IQ]),hget,hc,(dv.inj h).symm⟩
     ·cases h
    ·cases h
   ·rename_i e1 e2;cases e2
   ·rename_i e1 e2;cases e2
   ·rename_i e1 e2;cases e2
   ·cases h
  ·cases hi
 ·cases hi
theorem kR{r:dm->Option V}(l:List dm):G9 (fun x=>(r x).map (V.ren σ δ)) l=UA δ (G9 r l):=by
 unfold G9;split
 ·exact K8 _
 ·rfl
theorem kT{r:dm->Option V}(l:List dm):O7 (fun x=>(r x).map (V.ren σ δ)) l=UA δ (O7 r l):=by
 unfold O7;split
 ·exact K8 _
 ·rfl
theorem kU{o:dl}{r:dm->Option V}:DE P o (fun x=>(r x).map (V.ren σ δ))=UA δ (DE P o r):=by
 unfold DE;split
 ·exact kQ _ _
 ·exact kO _
 ·exact K8 _
 ·exact SV _
 ·exact kR _
 ·rename_i f args _ _;cases E5 f with
  |false=>rfl
  |true=>exact kT _
 ·rfl
theorem fN{W rd:AG}(h:∀p∈rd,p∉W):∀p∈UA δ rd,p∉UA δ W:=by intro p hp;unfold UA at hp;obtain⟨⟨l,k⟩,hq,rfl⟩:=cp.1 hp;exact fun hc=>h _ hq (JL.1 hc)
end Go.Pg
namespace Go.Pg
variable {P:dp}{σ σ':Nat->Nat}{δ:Nat}{pre:List AB}{s:St}{fr:Fr}{G G':Gh}{w:World}
def BH(l k:Nat)(o:Option (Nat×AY)):Nat->V->V
 |0,v=>v
 |f+1,v=>match v with
  |.vec l' k' g m=>match o with
   |some (γ,.vec _ es)=>if l'=l/\k'=k/\g=γ/\m=es.length then .list false es else v
   |_=>v
  |.ptr l' k' g off=>match o with
   |some (γ,.box cs)=>if l'=l/\k'=k/\g=γ then .ref ((cs.map KO).drop off) else v
   |_=>v
  |.agg cs=>.agg (cs.map (BH l k o f))
  |.tup cs=>.tup (cs.map (BH l k o f))
  |v=>v
def IU(l k:Nat)(o:Option (Nat×AY)):AY->AY
 |.box cs=>.box (cs.map (BH l k o 3))
 |.vec T es=>.vec T (es.map (dj (BH l k o 3)))
 |r=>r
def LO(l k:Nat)(o:Option (Nat×AY))(fr:Fr):Fr:=fr.map fun x=>(x.1,x.2.1,BH l k o 3 x.2.2)
def FY(l k:Nat)(o:Option (Nat×AY)):AB->AB
 |[]=>[]
 |(j,g,r)::L=>if j=k then FY l k o L else(j,g,IU l k o r)::FY l k o L
def D7(k:Nat)(st:XS):XS:=⟨st.c,LO st.s.up.length k (st.s.loc.get k) st.fr,⟨st.s.up,FY st.s.up.length k (st.s.loc.get k) st.s.loc⟩⟩
def SW(ks:List Nat)(st:XS):XS:=List.rec (motive:=fun _=>XS->XS) (fun st=>st) (fun k _ ih st=>ih (D7 k st)) ks st
theorem R1(l k:Nat)(o:Option (Nat×AY)):∀(fr:Fr) (j:Nat),(LO l k o fr).get j=(fr.get j).map fun x=>(x.1,BH l k o 3 x.2)
 |[],_=>rfl
 |(i,c,v)::fr,j=>by
  have ih:=R1 l k o fr j;simp only[LO,cx,Fr.get]at ih|-;split
  ·rfl
  ·exact ih
theorem R3(l k:Nat)(o:Option (Nat×AY)):∀(L:AB) (j:Nat),(FY l k o L).get j=if j=k then none else(L.get j).map fun x=>(x.1,IU l k o x.2)
 |[],j=>by simp[FY]
 |(i,g,r)::L,j=>by
  have ih:=R3 l k o L j;unfold FY;by_cases h:i=k
  ·rw[if_pos h,ih];by_cases hj:j=k
   ·simp[hj]
   ·rw[if_neg hj,if_neg hj,AB.get,if_neg (by rw[h];exact hj)]
  ·rw[if_neg h];simp only[AB.get];by_cases hj:j=i
   ·subst hj;rw[if_pos rfl,if_pos rfl,if_neg h];rfl
   ·rw[if_neg hj,if_neg hj,ih]
def O8(G G':Gh)(σ:Nat->Nat)(δ l k:Nat)(o:Option (Nat×AY)):Prop:=(∀γ T es,o=some (γ,.vec T es)->∀v,RepV G (.vec (l+δ) k (σ γ) es.length) v->RepV G' (.list false (es.map (dj (V.ren σ δ)))) v) /\
 ∀γ cs,o=some (γ,.box cs)->∀off v,RepV G (.ptr (l+δ) k (σ γ) off) v->RepV G' (.ref (((cs.map KO).drop off).map (V.ren σ δ))) v
theorem yC(v:V):(KO v).ren σ δ=KO (v.ren σ δ):=by cases v<;>simp[KO]
theorem NQ(cs:List V)(off:Nat):((cs.map KO).drop off).map (V.ren σ δ)=((cs.map (V.ren σ δ)).map KO).drop off:=by rw[dg,cj,cj];congr 1;exact bx fun v _=>yC v
theorem Y7{l k:Nat}{o:Option (Nat×AY)}:∀(f:Nat) (v:V),(v.ren σ δ).isCell=true->((BH l k o f v).ren σ δ).isCell=true
 |0,v,h=>h
 |f+1,v,h=>by
  cases v with
  |agg cs=>simp only[EN]at h;cases h
  |tup cs=>simp only[GC]at h;cases h
  |vec l' k' g m=>
   simp only[BH]
   split
   ·split
    ·simp only[DH];rfl
    ·exact h
   ·exact h
  |ptr l' k' g off=>
   simp only[BH]
   split
   ·split
    ·simp only[JG];rfl
    ·exact h
   ·exact h
  |_=>exact h
theorem MQ{l k:Nat}{o:Option (Nat×AY)}(hle:G.le G')(ho:O8 G G' σ δ l k o):∀(f:Nat) (x:V) (v:Value),RepV G (x.ren σ δ) v->RepV G' ((BH l k o f x).ren σ δ) v
 |0,x,v,h=>h.mono hle
 |f+1,x,v,h=>by
  have ih:=MQ hle ho f;cases x with
  |vec l' k' g m=>
   simp only[BH]
   split
   ·rename_i γ T es;split
    ·rename_i hc;obtain⟨rfl,rfl,rfl,rfl⟩:=hc;simp only[GF,DH]at h|-;exact ho.1 _ _ _ rfl v h
    ·exact h.mono hle
   ·exact h.mono hle
  |ptr l' k' g off=>
   simp only[BH]
   split
   ·rename_i γ cs;split
    ·rename_i hc;obtain⟨rfl,rfl,rfl⟩:=hc;simp only[GD,JG]at h|-;exact ho.2 _ _ rfl off v h
    ·exact h.mono hle
   ·exact h.mono hle
  |agg cs=>
   simp only[BH,EN]at h|-
   cases h with
   |agg _ arr hl hc hr=>
    refine .agg _ arr (by simpa using hl) (fun c hc'=>?_) (fun i h1 h2=>?_)
    ·simp only[cp]at hc';obtain⟨d,⟨e,he,rfl⟩,rfl⟩:=hc';exact Y7 f e (hc _ (cd he))
    ·have h1':i<cs.length:=by simpa using h1
     have q:=hr i (by simpa using h1) h2;simp only[ck]at q|-;exact ih _ _ q
  |tup cs=>
   simp only[BH,GC]at h|-
   cases h with
   |tup _ arr hl hr=>
    refine .tup _ arr (by simpa using hl) (fun i h1 h2=>?_)
    have q:=hr i (by simpa using h1) h2
    simp only[ck]at q|-
    exact ih _ _ q
  |_=>exact h.mono hle
theorem WD{l k:Nat}{o:Option (Nat×AY)}(hle:G.le G')(ho:O8 G G' σ δ l k o){cs:List V}{vs:List Value}(h:RepL G (cs.map (V.ren σ δ)) vs):RepL G' ((cs.map (BH l k o 3)).map (V.ren σ δ)) vs :=
 ⟨by simpa using h.1,fun i p q=>by
  have r:=h.2 i (by simpa using p) q;simp only[ck]at r |-;exact⟨Y7 3 _ r.1,MQ hle ho 3 _ _ r.2⟩⟩
theorem sH{l k:Nat}{o:Option (Nat×AY)}(hle:G.le G')(ho:O8 G G' σ δ l k o){g:Nat}{r:AY}(h:F5 G g w (r.ren σ δ)):F5 G' g w ((IU l k o r).ren σ δ):=by
 cases r with
 |box cs=>
  obtain⟨b,arr,T,h1,h2,h3⟩:=h
  exact⟨b,arr,T,by simpa using hle.2 _ _ h1,h2,WD hle ho h3⟩
 |vec T es=>
  obtain⟨b,sz,C,h1,h2,h3,h4,h5⟩:=h
  refine⟨b,sz,C,hle.2 _ _ h1,by simpa using h2,fun e he=>?_,⟨h4.1,fun h=>h4.2 (by simpa using h)⟩,fun hC=>?_⟩
  ·simp only[cp]at he;obtain⟨e1,⟨e2,he2,rfl⟩,rfl⟩:=he;have:=h3 (e2.map (V.ren σ δ)) (cd he2);simpa using this
  ·obtain⟨arr,h6,h7,h8⟩:=h5 hC;refine⟨arr,h6,h7,?_⟩;have q:RepL G (es.flatten.map (V.ren σ δ)) (arr.toList.take (es.length*sz)):=by rw[cq];simpa using h8
   have q2:=WD hle ho q;rw[cq,cq]at q2;simpa using q2
 |map es=>exact h.keep hle fun _ _=>rfl
 |loop fr ps asg body N st=>exact h.keep hle fun _ _=>rfl
 |dead=>trivial
theorem sI(G:Gh)(l k:Nat)(o:Option (Nat×AY))(g:Nat)(r:AY):A9 G g ((IU l k o r).ren σ δ)=A9 G g (r.ren σ δ):=by cases r<;>rfl
theorem yD{k:Nat}{st:XS}{l j:Nat}{x:Nat×AY}(h:((D7 k st).s.emb σ pre).get l j=some x) :
  ¬(l=st.s.up.length+pre.length/\j=k)/\((st.s.emb σ pre).get l j=some x\/∃r,(st.s.emb σ pre).get l j=some (x.1,r.ren σ pre.length)/\x.2=(IU st.s.up.length k (st.s.loc.get k) r).ren σ pre.length):=by
 have hlen:(st.s.emb σ pre).up.length=st.s.up.length+pre.length:=by rw[CM]
 have hup:((D7 k st).s.emb σ pre).up=(st.s.emb σ pre).up:=rfl
 unfold St.get at h|-
 rw[hup]at h
 by_cases e:l=(st.s.emb σ pre).up.length
 ·rw[if_pos e]at h|-;have h':((FY st.s.up.length k (st.s.loc.get k) st.s.loc).ren σ pre.length).get j=some x:=h;rw[AB.get_ren,R3]at h';by_cases hj:j=k
  ·rw[if_pos hj]at h';cases h'
  ·rw[if_neg hj]at h';refine⟨fun hh=>hj hh.2,.inr ?_⟩;have hl:(st.s.emb σ pre).loc.get j=(st.s.loc.get j).map fun p=>(σ p.1,p.2.ren σ pre.length):=AB.get_ren _ _;rw[hl];cases hg:st.s.loc.get j with
   |none=>rw[hg]at h';cases h'
   |some y=>
    rw[hg]at h'
    obtain⟨g,r⟩:=y
    cases h'
    exact⟨r,rfl,rfl⟩
 ·rw[if_neg e]at h|-;exact⟨fun hh=>e (by rw[hlen];exact hh.1),.inl h⟩
theorem yE{k:Nat}{st:XS}(hI:BV G (st.s.emb σ pre) w):∃G',G.le G'/\BV G' ((D7 k st).s.emb σ pre) w/\O8 G G' σ pre.length st.s.up.length k (st.s.loc.get k):=by
 have hget:(st.s.emb σ pre).get (st.s.up.length+pre.length) k=(st.s.loc.get k).map fun p=>(σ p.1,p.2.ren σ pre.length):=by rw[BL];unfold St.get;rw[if_pos rfl]
 have main:∃G' s0,G.le G'/\BV G' s0 w/\(∀l j,¬(l=st.s.up.length+pre.length/\j=k)->s0.get l j=(st.s.emb σ pre).get l j)/\O8 G G' σ pre.length st.s.up.length k (st.s.loc.get k):=by
  cases ho:st.s.loc.get k with
  |none=>exact⟨G,_,Gh.le_refl G,hI,fun _ _ _=>rfl,⟨fun γ T es h=>(by cases h),fun γ cs h=>(by cases h)⟩⟩
  |some x=>
   obtain⟨γ,r⟩:=x
   rw[ho]at hget
   cases r with
   |vec T es=>
    have hget:(st.s.emb σ pre).get (st.s.up.length+pre.length) k=some (σ γ,.vec T (es.map (dj (V.ren σ pre.length)))):=hget
    obtain⟨G',hle,hI',hs⟩:=hI.lockRow hget
    refine⟨G',_,hle,hI',fun l j hne=>?_,⟨fun γ' T' es' h v hv=>?_,fun γ cs h=>by cases h⟩⟩
    ·rw[St.get_put _ hget,if_neg hne]
    ·cases h;have:=JY hI hle hget (m:=es.length) (by simp) hs hv;rwa [List.take_of_length_le (by simp)]at this
   |box cs=>
    have hget:(st.s.emb σ pre).get (st.s.up.length+pre.length) k=some (σ γ,.box (cs.map (V.ren σ pre.length))):=hget
    obtain⟨G',hle,hI',hs⟩:=hI.lockBox hget
    refine⟨G',_,hle,hI',fun l j hne=>?_,⟨fun γ' T' es' h=>(by cases h),fun γ' cs' h off v hv=>?_⟩⟩
    ·rw[St.get_put _ hget,if_neg hne]
    ·cases h;rw[NQ];exact dW hI hle hget hs hv
   |map cs=>exact⟨G,_,Gh.le_refl G,hI,fun _ _ _=>rfl,⟨fun γ T es h=>(by cases h),fun γ cs h=>(by cases h)⟩⟩
   |loop _ _ _ _ _ _=>exact⟨G,_,Gh.le_refl G,hI,fun _ _ _=>rfl,⟨fun γ T es h=>(by cases h),fun γ cs h=>(by cases h)⟩⟩
   |dead=>exact⟨G,_,Gh.le_refl G,hI,fun _ _ _=>rfl,⟨fun γ T es h=>(by cases h),fun γ cs h=>(by cases h)⟩⟩
 obtain⟨G',s0,hle,hI',hg,ht⟩:=main;refine⟨G',hle,?_,ht⟩;have look:∀{l j g r},((D7 k st).s.emb σ pre).get l j=some (g,r)->∃r0,s0.get l j=some (g,r0)/\F5 G' g w r/\A9 G' g r=A9 G' g r0:=by
  intro l j g r h;obtain⟨hne,h1⟩:=yD h;rw[hg _ _ hne];rcases h1 with h1|⟨r0,h1,h2⟩
  ·exact⟨r,h1,hI'.res l j g r (by rw[hg _ _ hne];exact h1),rfl⟩
  ·simp only at h1 h2;subst h2;exact⟨_,h1,sH hle ht (hI.res _ _ _ _ h1),sI _ _ _ _ _ _⟩
 refine⟨hI'.sl,fun l k g r h=>(by obtain⟨r0,_,h2,_⟩:=look h; exact h2),fun l k g r l' k' g' r' b h1 h2 h3 h4=>?_,fun l k g r b h1 h2=>?_,hI'.fresh,hI'.env,hI'.me.step (Gh.le_refl _) rfl (fun _ _ _=>rfl) (fun l k g r b h1 h2=>by
  obtain⟨r0,e,_,o⟩:=look h1;exact .inl ⟨_,_,_,_,e,o▸h2⟩) fun b d hb=>hI'.me.sl b d hb⟩
 ·rcases look h1 with⟨r1,e1,_,o1⟩;rcases look h2 with⟨r2,e2,_,o2⟩;exact hI'.sep _ _ _ _ _ _ _ _ _ e1 e2 (o1▸h3) (o2▸h4)
 ·rcases look h1 with⟨r1,e1,_,o1⟩;exact hI'.out _ _ _ _ _ e1 (o1▸h2)
theorem QM{k:Nat}{st:XS}:EH (st.fr.ren σ pre.length) (st.s.emb σ pre) ((D7 k st).fr.ren σ pre.length) ((D7 k st).s.emb σ pre):=by
 intro n N G0 G a w hR;obtain⟨G',hle,hI',ht⟩:=yE (k:=k) hR.inv;refine⟨G',⟨⟨fun _ _ h=>hle.1 _ _ (hR.le.1 _ _ h),fun _ _ h=>hle.2 _ _ (hR.le.2 _ _ h),hle.3.trans hR.le.3,fun _ _ h=>hle.m _ _ (hR.le.m _ _ h)⟩,hI',fun j c v hj=>?_,hR.size,hR.lvl,?_⟩⟩
 ·rw[Fr.get_ren]at hj;have hj':((LO st.s.up.length k (st.s.loc.get k) st.fr).get j).map (fun p=>(p.1,p.2.ren σ pre.length))=some (c,v):=hj;rw[R1]at hj';cases hg:st.fr.get j with
  |none=>rw[hg]at hj';cases hj'
  |some y=>
   rw[hg]at hj'
   obtain⟨c0,v0⟩:=y
   cases hj'
   obtain⟨x,q1,q2,q3⟩:=hR.fr j c0 (v0.ren σ pre.length) (by rw[Fr.get_ren,hg];rfl)
   exact⟨x,q1,fun hc=>MQ hle ht 3 _ _ (q2 hc),q3⟩
 ·obtain⟨rs,m1,m2,m3⟩:=hR.marks;exact⟨rs,m1,m2,fun r hr=>⟨(m3 r hr).1,hle.1 _ _ (m3 r hr).2⟩⟩
theorem bF{n N:Nat}{ρ:Option Nat}{c:Code}{K:Exit->Fr->St->Prop}{fr fr1:Fr}{s s1:St}(hg:EH fr s fr1 s1)(h:BA P n N ρ c K fr1 s1):BA P n N ρ c K fr s:=fun G0 G a w hR=>by obtain⟨G',hR'⟩:=hg _ _ _ _ _ _ hR;exact h G0 G' a w hR'
theorem WE{n N:Nat}{ρ:Option Nat}{c:Code}{K:Exit->Fr->St->Prop}{k:Nat}{st:XS}(h:BA P n N ρ c K ((D7 k st).fr.ren σ pre.length) ((D7 k st).s.emb σ pre)):BA P n N ρ c K (st.fr.ren σ pre.length) (st.s.emb σ pre):=bF QM h
def TBd(c:Nat)(o:Option (Nat×AY)):Prop:=(∀γ T es,o=some (γ,.vec T es)->∀σ σ' δ,AO c σ σ'->es.map (dj (V.ren σ δ))=es.map (dj (V.ren σ' δ)))/\∀γ cs,o=some (γ,.box cs)->∀σ σ' δ,AO c σ σ'->cs.map (V.ren σ δ)=cs.map (V.ren σ' δ)
theorem bG{l k c:Nat}{o:Option (Nat×AY)}(ho:TBd c o){σ σ':Nat->Nat}{δ:Nat}(ha:AO c σ σ'):∀(f:Nat) (v:V),v.ren σ δ=v.ren σ' δ->(BH l k o f v).ren σ δ=(BH l k o f v).ren σ' δ
 |0,v,h=>h
 |f+1,v,h=>by
  have ih:=bG (l:=l) (k:=k) ho ha (δ:=δ) f;have lst:∀cs:List V,cs.map (V.ren σ δ)=cs.map (V.ren σ' δ)->(cs.map (BH l k o f)).map (V.ren σ δ)=(cs.map (BH l k o f)).map (V.ren σ' δ):=by intro cs h;simp only[cj];refine bx fun x hx=>?_;exact ih x (bf.1 h x hx)
  cases v with
  |vec l' k' g m=>
   simp only[BH]
   split
   ·split
    ·simp only[DH];rw[ho.1 _ _ _ rfl σ σ' δ ha]
    ·exact h
   ·exact h
  |ptr l' k' g off=>
   simp only[BH]
   split
   ·split
    ·simp only[JG];rw[NQ,NQ,ho.2 _ _ rfl σ σ' δ ha]
    ·exact h
   ·exact h
  |agg cs=>
   simp only[BH,EN,V.agg.injEq]at h|-
   exact lst cs h
  |tup cs=>
   simp only[BH,GC,V.tup.injEq]at h|-
   exact lst cs h
  |_=>exact h
theorem AKB{c k γ:Nat}{T:dn}{es:List (List V)}{L:AB}(hL:∀σ σ' δ,AO c σ σ'->L.ren σ δ=L.ren σ' δ)(h:L.get k=some (γ,.vec T es)):∀σ σ' δ,AO c σ σ'->es.map (dj (V.ren σ δ))=es.map (dj (V.ren σ' δ)):=by
 intro σ σ' δ ha;have e1:(L.ren σ δ).get k=some (σ γ,.vec T (es.map (dj (V.ren σ δ)))):=by rw[AB.get_ren,h];rfl
 have e2:(L.ren σ' δ).get k=some (σ' γ,.vec T (es.map (dj (V.ren σ' δ)))):=by rw[AB.get_ren,h];rfl
 rw[hL σ σ' δ ha,e2]at e1;simp only[dv.injEq,dc.injEq,AY.vec.injEq]at e1;exact e1.2.2.symm
theorem yF{st:XS}(h:Bd st):∀σ σ' δ,AO st.c σ σ'->st.s.loc.ren σ δ=st.s.loc.ren σ' δ:=by intro σ σ' δ ha;have q:=h.s σ σ' (bz δ []) ha;simp only[St.emb,St.mk.injEq,bh]at q;exact q.2
theorem AKC{c k γ:Nat}{cs:List V}{L:AB}(hL:∀σ σ' δ,AO c σ σ'->L.ren σ δ=L.ren σ' δ)(h:L.get k=some (γ,.box cs)):∀σ σ' δ,AO c σ σ'->cs.map (V.ren σ δ)=cs.map (V.ren σ' δ):=by
 intro σ σ' δ ha;have e1:(L.ren σ δ).get k=some (σ γ,.box (cs.map (V.ren σ δ))):=by rw[AB.get_ren,h];rfl
 have e2:(L.ren σ' δ).get k=some (σ' γ,.box (cs.map (V.ren σ' δ))):=by rw[AB.get_ren,h];rfl
 rw[hL σ σ' δ ha,e2]at e1;simp only[dv.injEq,dc.injEq,AY.box.injEq]at e1;exact e1.2.symm
theorem fO{l k c:Nat}{o:Option (Nat×AY)}(ho:TBd c o){σ σ':Nat->Nat}{δ:Nat}(ha:AO c σ σ'):∀(L:AB),L.ren σ δ=L.ren σ' δ->(FY l k o L).ren σ δ=(FY l k o L).ren σ' δ
 |[],_=>rfl
 |(j,g,r)::L,h=>by
  simp only[AB.ren,cx,dh.injEq,dc.injEq,true_and]at h;have ih:=fO (l:=l) (k:=k) ho ha L h.2;simp only[FY];split
  ·exact ih
  ·simp only[AB.ren,cx,dh.injEq,dc.injEq,true_and];refine⟨⟨h.1.1,?_⟩,ih⟩;have hr:=h.1.2;have lst:∀cs:List V,cs.map (V.ren σ δ)=cs.map (V.ren σ' δ)->(cs.map (BH l k o 3)).map (V.ren σ δ)=(cs.map (BH l k o 3)).map (V.ren σ' δ):=by intro cs h;simp only[cj];exact bx fun x hx=>bG ho ha 3 x (bf.1 h x hx)
   cases r with
   |box cs=>
    simp only[IU,AY.ren,AY.box.injEq]at hr|-
    exact lst cs hr
   |vec T es=>
    simp only[IU,AY.ren,AY.vec.injEq,true_and,cj]at hr|-
    refine bx fun e he=>?_
    exact lst e (bf.1 hr e he)
   |_=>exact hr
theorem J4{k:Nat}{st:XS}(h:Bd st):HF st (D7 k st):=by
 have ho:TBd st.c (st.s.loc.get k):=⟨fun γ T es hg=>AKB (yF h) hg,fun γ cs hg=>AKC (yF h) hg⟩;refine⟨bc _,⟨fun σ σ' δ ha=>?_,fun σ σ' pre ha=>?_,fun l j γ fr ps asg body N ls hg=>?_⟩,rfl⟩
 ·have q:=h.f σ σ' δ ha;simp only[D7,LO,Fr.ren,cj]at q|-;refine bx fun x hx=>?_;have:=bf.1 q x hx;simp only[dc.injEq,true_and]at this;simp only[Function.comp,dc.injEq,true_and];exact bG ho ha 3 _ this
 ·have q:=h.s σ σ' pre ha;simp only[St.emb,St.mk.injEq]at q;simp only[D7,St.emb,St.mk.injEq];exact⟨q.1,fO ho ha _ q.2⟩
 ·have hg':(D7 k st).s.get l j=some (γ,.loop fr ps asg body N ls):=hg;refine h.lp l j γ fr ps asg body N ls ?_;unfold St.get at hg'|-;have hup:(D7 k st).s.up=st.s.up:=rfl;rw[hup]at hg';split
  ·rename_i e;rw[if_pos e]at hg';have hg':(FY st.s.up.length k (st.s.loc.get k) st.s.loc).get j=some (γ,.loop fr ps asg body N ls):=hg';rw[R3]at hg';split at hg'
   ·cases hg'
   ·cases hq:st.s.loc.get j with
    |none=>rw[hq]at hg';cases hg'
    |some y=>
     rw[hq]at hg'
     obtain⟨g,r⟩:=y
     cases r with
     |loop _ _ _ _ _ _=>exact hg'
     |_=>simp[IU]at hg'
  ·rename_i e;rw[if_neg e]at hg';exact hg'
theorem nZ:∀(ks:List Nat) (st:XS),(SW ks st).c=st.c
 |[],_=>rfl
 |k::ks,st=>nZ ks (D7 k st)
theorem Y8:∀(ks:List Nat) {st:XS},Bd st->HF st (SW ks st)
 |[],st,h=>⟨bc _,h,rfl⟩
 |k::ks,st,h=>by have h1:=J4 (k:=k) h;have h2:=Y8 ks h1.bd;exact⟨dw h1.c h2.c,h2.bd,h2.n.trans h1.n⟩
theorem WF{n N:Nat}{ρ:Option Nat}{c:Code}{K:Exit->Fr->St->Prop}:∀(ks:List Nat) {st:XS},BA P n N ρ c K ((SW ks st).fr.ren σ pre.length) ((SW ks st).s.emb σ pre)->BA P n N ρ c K (st.fr.ren σ pre.length) (st.s.emb σ pre)
 |[],_,h=>h
 |k::ks,st,h=>WE (k:=k) (WF ks (st:=D7 k st) h)
def AL:Nat->V->Bool
 |0,_=>false
 |f+1,v=>match v with
  |.int ..|.bool _|.raw _|.nil|.any|.memo _=>true
  |.agg cs|.tup cs|.ref cs=>cs.all (AL f)
  |.list _ es=>es.all fun e=>e.all (AL f)
  |.fn _ a b=>a.all (AL f)&&b.all (AL f)
  |_=>false
theorem K9{f:Nat}(ih:∀v,AL f v=true->v.ren σ δ=v){cs:List V}(h:cs.all (AL f)=true):cs.map (V.ren σ δ)=cs:=by
 conv=>rhs;rw[<-List.map_id cs]
 exact bx fun v hv=>ih v (bw.1 h v hv)
theorem BP:∀(f:Nat) (v:V),AL f v=true->v.ren σ δ=v
 |0,_,h=>by cases h
 |f+1,v,h=>by
  have ih:=fun v=>BP f v;cases v with
  |agg cs=>rw[EN,K9 ih (by simpa [AL]using h)]
  |tup cs=>rw[GC,K9 ih (by simpa [AL]using h)]
  |ref cs=>rw[JG,K9 ih (by simpa [AL]using h)]
  |list b es=>
   have h':(es.all fun e=>e.all (AL f))=true:=by simpa [AL]using h
   rw[DH]
   congr 1
   conv=>rhs;rw[<-List.map_id es]
   exact bx fun e he=>K9 ih (bw.1 h' e he)
  |fn g a b=>
   have h':a.all (AL f)=true/\b.all (AL f)=true:=by simpa [AL]using h
   rw[KY,K9 ih h'.1,K9 ih h'.2]
  |int k n=>simp
  |bool b=>simp
  |raw v=>simp
  |nil=>simp
  |any=>simp
  |memo d=>simp
  |_=>simp[AL]at h
end Go.Pg
namespace Go.Pg
variable {P:dp}{σ σ':Nat->Nat}{δ:Nat}{pre:List AB}{s:St}{fr:Fr}{G G':Gh}{w:World}{l k γ:Nat}{D:List V}
def IV(l k γ:Nat)(D:List V):Nat->V->V
 |0,v=>v
 |f+1,v=>match v with
  |.mp l' k' g=>if l'=l/\k'=k/\g=γ then .memo D else v
  |.agg cs=>.agg (cs.map (IV l k γ D f))
  |.tup cs=>.tup (cs.map (IV l k γ D f))
  |v=>v
def bH(l k γ:Nat)(D:List V):AY->AY
 |.box cs=>.box (cs.map (IV l k γ D 3))
 |.vec T es=>.vec T (es.map (dj (IV l k γ D 3)))
 |r=>r
def sJ(l k γ:Nat)(D:List V)(fr:Fr):Fr:=fr.map fun x=>(x.1,x.2.1,IV l k γ D 3 x.2.2)
def O9(l k γ:Nat)(D:List V):AB->AB
 |[]=>[]
 |(j,g,r)::L=>if j=k then O9 l k γ D L else(j,g,bH l k γ D r)::O9 l k γ D L
def oA(x y:Option (Nat×AY)):Option (Nat×List V):=match x,y with
 |some (γ,.map []),some (_,.box (c::_))=>if AL 9 c=true then some (γ,[c]) else none
 |_,_=>none
def LW(k kb:Nat)(st:XS):XS:=match oA (st.s.loc.get k) (st.s.loc.get kb)with
 |some (γ,D)=>⟨st.c,sJ st.s.up.length k γ D st.fr,⟨st.s.up,O9 st.s.up.length k γ D st.s.loc⟩⟩
 |none=>st
theorem kV{x y:Option (Nat×AY)}{γ:Nat}{D:List V}(h:oA x y=some (γ,D)):x=some (γ,.map [])/\∀σ δ,D.map (V.ren σ δ)=D:=by
 unfold oA at h;split at h
 ·split at h
  ·rename_i hc;cases h;exact⟨rfl,fun σ δ=>by simp[BP 9 _ hc]⟩
  ·cases h
 ·cases h
theorem fP(l k γ:Nat)(D:List V):∀(fr:Fr) (j:Nat),(sJ l k γ D fr).get j=(fr.get j).map fun x=>(x.1,IV l k γ D 3 x.2)
 |[],_=>rfl
 |(i,c,v)::fr,j=>by
  have ih:=fP l k γ D fr j;simp only[sJ,cx,Fr.get]at ih|-;split
  ·rfl
  ·exact ih
theorem WG(l k γ:Nat)(D:List V):∀(L:AB) (j:Nat),(O9 l k γ D L).get j=if j=k then none else(L.get j).map fun x=>(x.1,bH l k γ D x.2)
 |[],j=>by simp[O9]
 |(i,g,r)::L,j=>by
  have ih:=WG l k γ D L j;unfold O9;by_cases h:i=k
  ·rw[if_pos h,ih];by_cases hj:j=k
   ·simp[hj]
   ·rw[if_neg hj,if_neg hj,AB.get,if_neg (by rw[h];exact hj)]
  ·rw[if_neg h];simp only[AB.get];by_cases hj:j=i
   ·subst hj;rw[if_pos rfl,if_pos rfl,if_neg h];rfl
   ·rw[if_neg hj,if_neg hj,ih]
theorem fQ:∀(f:Nat) (v:V),(v.ren σ δ).isCell=true->((IV l k γ D f v).ren σ δ).isCell=true
 |0,v,h=>h
 |f+1,v,h=>by
  cases v with
  |agg cs=>simp only[EN]at h;cases h
  |tup cs=>simp only[GC]at h;cases h
  |mp l' k' g=>
   simp only[IV]
   split
   ·simp only[VW];rfl
   ·exact h
  |_=>exact h
theorem bI(hle:G.le G')(ho:∀v,RepV G (.mp (l+δ) k (σ γ)) v->RepV G' (.memo D) v):∀(f:Nat) (x:V) (v:Value),RepV G (x.ren σ δ) v->RepV G' ((IV l k γ D f x).ren σ δ) v
 |0,x,v,h=>h.mono hle
 |f+1,x,v,h=>by
  have ih:=bI hle ho f;cases x with
  |mp l' k' g=>
   simp only[IV]
   split
   ·rename_i hc;obtain⟨rfl,rfl,rfl⟩:=hc;simp only[KX,VW]at h|-;exact ho v h
   ·exact h.mono hle
  |agg cs=>
   simp only[IV,EN]at h|-
   cases h with
   |agg _ arr hl hc hr=>
    refine .agg _ arr (by simpa using hl) (fun c hc'=>?_) (fun i h1 h2=>?_)
    ·simp only[cp]at hc';obtain⟨d,⟨e,he,rfl⟩,rfl⟩:=hc';exact fQ f e (hc _ (cd he))
    ·have h1':i<cs.length:=by simpa using h1
     have q:=hr i (by simpa using h1) h2;simp only[ck]at q|-;exact ih _ _ q
  |tup cs=>
   simp only[IV,GC]at h|-
   cases h with
   |tup _ arr hl hr=>
    refine .tup _ arr (by simpa using hl) (fun i h1 h2=>?_)
    have q:=hr i (by simpa using h1) h2
    simp only[ck]at q|-
    exact ih _ _ q
  |_=>exact h.mono hle
theorem Y9(hle:G.le G')(ho:∀v,RepV G (.mp (l+δ) k (σ γ)) v->RepV G' (.memo D) v){cs:List V}{vs:List Value}(h:RepL G (cs.map (V.ren σ δ)) vs):RepL G' ((cs.map (IV l k γ D 3)).map (V.ren σ δ)) vs :=
 ⟨by simpa using h.1,fun i p q=>by
  have r:=h.2 i (by simpa using p) q;simp only[ck]at r |-;exact⟨fQ 3 _ r.1,bI hle ho 3 _ _ r.2⟩⟩
theorem yG(hle:G.le G')(ho:∀v,RepV G (.mp (l+δ) k (σ γ)) v->RepV G' (.memo D) v){g:Nat}{r:AY}(h:F5 G g w (r.ren σ δ)):F5 G' g w ((bH l k γ D r).ren σ δ):=by
 cases r with
 |box cs=>
  obtain⟨b,arr,T,h1,h2,h3⟩:=h
  exact⟨b,arr,T,by simpa using hle.2 _ _ h1,h2,Y9 hle ho h3⟩
 |vec T es=>
  obtain⟨b,sz,C,h1,h2,h3,h4,h5⟩:=h
  refine⟨b,sz,C,hle.2 _ _ h1,by simpa using h2,fun e he=>?_,⟨h4.1,fun h=>h4.2 (by simpa using h)⟩,fun hC=>?_⟩
  ·simp only[cp]at he;obtain⟨e1,⟨e2,he2,rfl⟩,rfl⟩:=he;have:=h3 (e2.map (V.ren σ δ)) (cd he2);simpa using this
  ·obtain⟨arr,h6,h7,h8⟩:=h5 hC;refine⟨arr,h6,h7,?_⟩;have q:RepL G (es.flatten.map (V.ren σ δ)) (arr.toList.take (es.length*sz)):=by rw[cq];simpa using h8
   have q2:=Y9 hle ho q;rw[cq,cq]at q2;simpa using q2
 |map es=>exact h.keep hle fun _ _=>rfl
 |loop fr ps asg body N st=>exact h.keep hle fun _ _=>rfl
 |dead=>trivial
theorem yH(G:Gh)(l k γ:Nat)(D:List V)(g:Nat)(r:AY):A9 G g ((bH l k γ D r).ren σ δ)=A9 G g (r.ren σ δ):=by cases r<;>rfl
theorem yI{k γ:Nat}{D:List V}{st:XS}{l j:Nat}{x:Nat×AY}(h:(St.emb σ pre ⟨st.s.up,O9 st.s.up.length k γ D st.s.loc⟩).get l j=some x) :
  ¬(l=st.s.up.length+pre.length/\j=k)/\((st.s.emb σ pre).get l j=some x\/∃r,(st.s.emb σ pre).get l j=some (x.1,r.ren σ pre.length)/\x.2=(bH st.s.up.length k γ D r).ren σ pre.length):=by
 have hlen:(st.s.emb σ pre).up.length=st.s.up.length+pre.length:=by rw[CM]
 have hup:(St.emb σ pre ⟨st.s.up,O9 st.s.up.length k γ D st.s.loc⟩).up=(st.s.emb σ pre).up:=rfl
 unfold St.get at h|-
 rw[hup]at h
 by_cases e:l=(st.s.emb σ pre).up.length
 ·rw[if_pos e]at h|-;have h':((O9 st.s.up.length k γ D st.s.loc).ren σ pre.length).get j=some x:=h;rw[AB.get_ren,WG]at h';by_cases hj:j=k
  ·rw[if_pos hj]at h';cases h'
  ·rw[if_neg hj]at h';refine⟨fun hh=>hj hh.2,.inr ?_⟩;have hl:(st.s.emb σ pre).loc.get j=(st.s.loc.get j).map fun p=>(σ p.1,p.2.ren σ pre.length):=AB.get_ren _ _;rw[hl];cases hg:st.s.loc.get j with
   |none=>rw[hg]at h';cases h'
   |some y=>
    rw[hg]at h'
    obtain⟨g,r⟩:=y
    cases h'
    exact⟨r,rfl,rfl⟩
 ·rw[if_neg e]at h|-;exact⟨fun hh=>e (by rw[hlen];exact hh.1),.inl h⟩
theorem ADK{k γ:Nat}{D:List V}{st:XS}(hg:st.s.loc.get k=some (γ,.map []))(hI:BV G (st.s.emb σ pre) w) :
  ∃G',G.le G'/\BV G' (St.emb σ pre ⟨st.s.up,O9 st.s.up.length k γ D st.s.loc⟩) w/\(∀v,RepV G (.mp (st.s.up.length+pre.length) k (σ γ)) v->RepV G' (.memo D) v)/\G'.sl=G.sl:=by
 have hget:(st.s.emb σ pre).get (st.s.up.length+pre.length) k=some (σ γ,.map []):=by rw[BL];unfold St.get;rw[if_pos rfl,hg];rfl
 obtain⟨bm,arr,clock,h1,h2,h3,_⟩:=hI.res _ _ _ _ hget
 have hown:A9 G (σ γ) (.map [])=some bm:=by simp[A9,h1]
 let G':Gh:={ G with mm:=fun b=>if b=bm then some D else G.mm b }
 have hle:G.le G':=⟨fun _ _ h=>h,fun _ _ h=>h,rfl,fun b d h=>by
  show(if b=bm then _ else G.mm b)=some d;rw[if_neg fun e=>by rw[e,hI.me.ow _ _ _ _ _ hget hown]at h; cases h];exact h⟩
 have hso:∀{g r b},A9 G' g r=some b->A9 G g r=some b:=by intro g r b h;cases r<;>exact h
 have hm:∀v,RepV G (.mp (st.s.up.length+pre.length) k (σ γ)) v->RepV G' (.memo D) v:=fun v hv=>by
  cases hv with
  |mp _ _ _ b sz C h=>
   rw[h1]at h
   obtain⟨rfl,_,_⟩:bm=b/\1=sz/\1=C:=by simpa using h
   exact .memo D _ (if_pos rfl)
 have look:∀{l j g r},(St.emb σ pre ⟨st.s.up,O9 st.s.up.length k γ D st.s.loc⟩).get l j=some (g,r)->¬(l=st.s.up.length+pre.length/\j=k)/\∃r0,(st.s.emb σ pre).get l j=some (g,r0)/\F5 G' g w r/\A9 G g r=A9 G g r0:=by
  intro l j g r h;obtain⟨hne,h1⟩:=yI h;refine⟨hne,?_⟩;rcases h1 with h1|⟨r0,h1,h2⟩
  ·exact⟨r,h1,(hI.res l j g r h1).keep hle fun _ _=>rfl,rfl⟩
  ·simp only at h1 h2;subst h2;exact⟨_,h1,yG hle hm (hI.res _ _ _ _ h1),yH _ _ _ _ _ _ _⟩
 refine⟨G',hle,⟨hI.sl,fun l k g r h=>(by obtain⟨_,r0,_,h2,_⟩:=look h;exact h2),fun l k g r l' k' g' r' b h1 h2 h3 h4=>?_,fun l k g r b h1 h2=>?_,hI.fresh,hI.env,⟨fun b d hb=>?_,fun b d hb=>?_,fun l k g r b h1 h2=>?_,fun b d hb=>?_⟩⟩,hm,rfl⟩
 ·obtain⟨_,r1,e1,_,o1⟩:=look h1;obtain⟨_,r2,e2,_,o2⟩:=look h2;exact hI.sep _ _ _ _ _ _ _ _ _ e1 e2 (o1▸hso h3) (o2▸hso h4)
 ·obtain⟨_,r1,e1,_,o1⟩:=look h1;exact hI.out _ _ _ _ _ e1 (o1▸hso h2)
 ·have hb:(if b=bm then some D else G.mm b)=some d:=hb;split at hb
  ·rename_i e;cases hb;subst e;exact⟨arr,clock,[],h2,h3,fun i p=>absurd p (by simp),H0.nil _⟩
  ·exact(hI.me.at' b d hb).keep (fun _ _ h=>h.mono hle) rfl
 ·have hb:(if b=bm then some D else G.mm b)=some d:=hb;split at hb
  ·rename_i e;subst e;exact(hI.out _ _ _ _ _ hget hown).2
  ·exact hI.me.lt b d hb
 ·obtain⟨hne,r1,e1,_,o1⟩:=look h1;have h5:A9 G g r1=some b:=o1▸hso h2;show(if b=bm then some D else G.mm b)=none;rw[if_neg fun e=>by
   rw[e]at h5;exact hne (hI.sep _ _ _ _ _ _ _ _ _ e1 hget h5 hown)]
  exact hI.me.ow _ _ _ _ _ e1 h5
 ·have hb:(if b=bm then some D else G.mm b)=some d:=hb;split at hb
  ·rename_i e;subst e;exact(hI.out _ _ _ _ _ hget hown).1
  ·exact hI.me.sl b d hb
theorem bJ{k kb:Nat}{st:XS}:EH (st.fr.ren σ pre.length) (st.s.emb σ pre) ((LW k kb st).fr.ren σ pre.length) ((LW k kb st).s.emb σ pre):=by
 intro n N G0 G a w hR;unfold LW;split
 ·rename_i γ D ho;obtain⟨hg,_⟩:=kV ho;obtain⟨G',hle,hI',hm,hsl⟩:=ADK (D:=D) hg hR.inv;refine⟨G',⟨⟨fun _ _ h=>hle.1 _ _ (hR.le.1 _ _ h),fun _ _ h=>hle.2 _ _ (hR.le.2 _ _ h),hle.3.trans hR.le.3,fun _ _ h=>hle.m _ _ (hR.le.m _ _ h)⟩,hI',fun j c v hj=>?_,hR.size,hR.lvl,?_⟩⟩
  ·rw[Fr.get_ren]at hj;have hj':((sJ st.s.up.length k γ D st.fr).get j).map (fun p=>(p.1,p.2.ren σ pre.length))=some (c,v):=hj;rw[fP]at hj';cases hg:st.fr.get j with
   |none=>rw[hg]at hj';cases hj'
   |some y=>
    rw[hg]at hj'
    obtain⟨c0,v0⟩:=y
    cases hj'
    obtain⟨x,q1,q2,q3⟩:=hR.fr j c0 (v0.ren σ pre.length) (by rw[Fr.get_ren,hg];rfl)
    exact⟨x,q1,fun hc=>bI hle hm 3 _ _ (q2 hc),q3⟩
  ·obtain⟨rs,m1,m2,m3⟩:=hR.marks;exact⟨rs,m1,m2,fun r hr=>⟨(m3 r hr).1,hle.1 _ _ (m3 r hr).2⟩⟩
 ·exact⟨G,hR⟩
theorem sK{n N:Nat}{ρ:Option Nat}{c:Code}{K:Exit->Fr->St->Prop}{k kb:Nat}{st:XS}(h:BA P n N ρ c K ((LW k kb st).fr.ren σ pre.length) ((LW k kb st).s.emb σ pre)):BA P n N ρ c K (st.fr.ren σ pre.length) (st.s.emb σ pre):=bF bJ h
theorem kX{δ:Nat}{σ σ':Nat->Nat}:∀(f:Nat) (v:V),v.ren σ δ=v.ren σ' δ->(IV l k γ D f v).ren σ δ=(IV l k γ D f v).ren σ' δ
 |0,v,h=>h
 |f+1,v,h=>by
  have ih:=kX (δ:=δ) (σ:=σ) (σ':=σ') f;have lst:∀cs:List V,cs.map (V.ren σ δ)=cs.map (V.ren σ' δ)->(cs.map (IV l k γ D f)).map (V.ren σ δ)=(cs.map (IV l k γ D f)).map (V.ren σ' δ):=by intro cs h;simp only[cj];refine bx fun x hx=>?_;exact ih x (bf.1 h x hx)
  cases v with
  |mp l' k' g=>
   simp only[IV]
   split
   ·simp only[VW]
   ·exact h
  |agg cs=>
   simp only[IV,EN,V.agg.injEq]at h|-
   exact lst cs h
  |tup cs=>
   simp only[IV,GC,V.tup.injEq]at h|-
   exact lst cs h
  |_=>exact h
theorem oB{σ σ':Nat->Nat}{δ:Nat}:∀(L:AB),L.ren σ δ=L.ren σ' δ->(O9 l k γ D L).ren σ δ=(O9 l k γ D L).ren σ' δ
 |[],_=>rfl
 |(j,g,r)::L,h=>by
  simp only[AB.ren,cx,dh.injEq,dc.injEq,true_and]at h;have ih:=oB L h.2;simp only[O9];split
  ·exact ih
  ·simp only[AB.ren,cx,dh.injEq,dc.injEq,true_and];refine⟨⟨h.1.1,?_⟩,ih⟩;have hr:=h.1.2;have lst:∀cs:List V,cs.map (V.ren σ δ)=cs.map (V.ren σ' δ)->(cs.map (IV l k γ D 3)).map (V.ren σ δ)=(cs.map (IV l k γ D 3)).map (V.ren σ' δ):=by intro cs h;simp only[cj];exact bx fun x hx=>kX 3 x (bf.1 h x hx)
   cases r with
   |box cs=>
    simp only[bH,AY.ren,AY.box.injEq]at hr|-
    exact lst cs hr
   |vec T es=>
    simp only[bH,AY.ren,AY.vec.injEq,true_and,cj]at hr|-
    refine bx fun e he=>?_
    exact lst e (bf.1 hr e he)
   |_=>exact hr
theorem WH{k kb:Nat}{st:XS}(h:Bd st):HF st (LW k kb st):=by
 unfold LW;split
 ·rename_i γ D ho;refine⟨bc _,⟨fun σ σ' δ ha=>?_,fun σ σ' pre ha=>?_,fun l j γ' fr ps asg body N ls hg=>?_⟩,rfl⟩
  ·have q:=h.f σ σ' δ ha;simp only[sJ,Fr.ren,cj]at q|-;refine bx fun x hx=>?_;have:=bf.1 q x hx;simp only[dc.injEq,true_and]at this;simp only[Function.comp,dc.injEq,true_and];exact kX 3 _ this
  ·have q:=h.s σ σ' pre ha;simp only[St.emb,St.mk.injEq]at q;simp only[St.emb,St.mk.injEq];exact⟨q.1,oB _ q.2⟩
  ·refine h.lp l j γ' fr ps asg body N ls ?_;unfold St.get at hg|-;simp only at hg;split
   ·rename_i e;rw[if_pos e,WG]at hg;split at hg
    ·cases hg
    ·cases hq:st.s.loc.get j with
     |none=>rw[hq]at hg;cases hg
     |some y=>
      rw[hq]at hg
      obtain⟨g,r⟩:=y
      cases r with
      |loop _ _ _ _ _ _=>exact hg
      |_=>simp[bH]at hg
   ·rename_i e;rw[if_neg e]at hg;exact hg
 ·exact⟨bc _,h,rfl⟩
theorem yJ{k kb:Nat}{st:XS}:(LW k kb st).c=st.c:=by unfold LW;split<;>rfl
theorem EH.trans{fr fr1 fr2:Fr}{s s1 s2:St}(h:EH fr s fr1 s1)(h':EH fr1 s1 fr2 s2):EH fr s fr2 s2:=fun n N G0 G a w hR=>by obtain⟨G',hR'⟩:=h _ _ _ _ _ _ hR;exact h' _ _ _ _ _ _ hR'
def sL(q:Nat)(o:Option (Nat×AY))(st:XS):XS:=match o with
 | some (_,.box [c,.mp _ qm _])=>D7 q (LW qm q (match c with
  |.vec _ qv _ _=>D7 qv st
  | _=>st))
 |_=>st
def MR(t:Tmp)(st:XS):XS:=match EV st.fr t with
 |some (true,.ptr l q _ _)=>Bool.rec st (sL q (st.s.loc.get q) st) (bn l st.s.up.length)
 |_=>st
theorem ADL{q:Nat}{o:Option (Nat×AY)}{st:XS}(h:Bd st):HF st (sL q o st)/\∀(σ:Nat->Nat) (pre:List AB),EH (st.fr.ren σ pre.length) (st.s.emb σ pre) ((sL q o st).fr.ren σ pre.length) ((sL q o st).s.emb σ pre):=by
 unfold sL;split
 ·rename_i c l qm g;have main:∀st0:XS,HF st st0->(∀(σ:Nat->Nat) (pre:List AB),EH (st.fr.ren σ pre.length) (st.s.emb σ pre) (st0.fr.ren σ pre.length) (st0.s.emb σ pre)) ->
    HF st (D7 q (LW qm q st0))/\∀(σ:Nat->Nat) (pre:List AB),EH (st.fr.ren σ pre.length) (st.s.emb σ pre) ((D7 q (LW qm q st0)).fr.ren σ pre.length) ((D7 q (LW qm q st0)).s.emb σ pre):=fun st0 h0 g0=>by
   have h1:=WH (k:=qm) (kb:=q) h0.bd
   have h2:=J4 (k:=q) h1.bd
   exact⟨⟨dw h0.c (dw h1.c h2.c),h2.bd,h2.n.trans (h1.n.trans h0.n)⟩,fun σ pre=>((g0 σ pre).trans bJ).trans QM⟩
  cases c with
  |vec l' qv g' m=>exact main _ (J4 h) fun σ pre=>QM
  |_=>exact main st ⟨bc _,h,rfl⟩ fun σ pre n N G0 G a w hR=>⟨G,hR⟩
 ·exact⟨⟨bc _,h,rfl⟩,fun σ pre n N G0 G a w hR=>⟨G,hR⟩⟩
theorem yK{t:Tmp}{st:XS}(h:Bd st):HF st (MR t st)/\∀(σ:Nat->Nat) (pre:List AB),EH (st.fr.ren σ pre.length) (st.s.emb σ pre) ((MR t st).fr.ren σ pre.length) ((MR t st).s.emb σ pre):=by
 have no:HF st st/\∀(σ:Nat->Nat) (pre:List AB),EH (st.fr.ren σ pre.length) (st.s.emb σ pre) (st.fr.ren σ pre.length) (st.s.emb σ pre):=⟨⟨bc _,h,rfl⟩,fun σ pre n N G0 G a w hR=>⟨G,hR⟩⟩;unfold MR;split
 ·rename_i l q _ _ _;cases bn l st.s.up.length with
  |false=>exact no
  |true=>exact ADL h
 ·exact no
end Go.Pg
namespace Go.Pg
variable {P:dp}{s:St}{G G':Gh}{w:World}
def FC:Nat->V->Bool
 |0,_=>false
 |f+1,v=>match v with
  |.int ..|.bool _|.nil=>true
  |.agg cs|.tup cs|.ref cs=>cs.all (FC f)
  |.list _ es=>es.all fun e=>e.all (FC f)
  |_=>false
theorem D8:∀(f:Nat) (v:V),FC f v=true->AL f v=true
 |0,_,h=>by cases h
 |f+1,v,h=>by
  have ih:=D8 f;have lst:∀cs:List V,cs.all (FC f)=true->cs.all (AL f)=true:=fun cs h=>bw.2 fun x hx=>ih x (bw.1 h x hx);cases v with
  |agg cs=>exact lst cs h
  |tup cs=>exact lst cs h
  |ref cs=>exact lst cs h
  |list b es=>exact bw.2 fun e he=>lst e (bw.1 h e he)
  |int k n=>rfl
  |bool b=>rfl
  |nil=>rfl
  |_=>cases h
theorem QN(hsl:∀b o,G.sl b=some o->G'.sl b=some o):∀(f:Nat) (x:V) (v:Value),FC f x=true->RepV G x v->RepV G' x v
 |0,_,_,h,_=>by cases h
 |f+1,x,v,h,hr=>by
  have ih:=QN hsl f;cases hr with
  |int k n=>exact .int k n
  |bool b=>exact .bool b
  |nil=>exact .nil
  |agg cs arr hl hc hi=>exact .agg cs arr hl hc fun i h1 h2=>ih _ _ (bw.1 h _ (br h1)) (hi i h1 h2)
  |tup cs arr hl hi=>exact .tup cs arr hl fun i h1 h2=>ih _ _ (bw.1 h _ (br h1)) (hi i h1 h2)
  |list full es a cap b off sz arr T fz vs hcap hfull ha hl hv hi=>
   exact .list full es a cap b off sz arr T fz vs hcap hfull (fun hh=>⟨(ha hh).1,hsl _ _ (ha hh).2⟩) hl hv fun i h1 j h2=>ih _ _ (bw.1 (bw.1 h _ (br h1)) _ (br h2)) (hi i h1 j h2)
  |ref cs b off arr T fz vs ha hv hi=>exact .ref cs b off arr T fz vs (hsl _ _ ha) hv fun j h1=>ih _ _ (bw.1 h _ (br h1)) (hi j h1)
  |_=>cases h
def fR:V->Bool
 |.int ..=>true
 |.bool _=>true
 |_=>false
theorem yL{x:V}{v:Value}(h:fR x=true)(hr:RepV G x v):RepV G' x v:=by
 cases hr with
 |int k n=>exact .int k n
 |bool b=>exact .bool b
 |_=>cases h
theorem yM{f:FuncId}{d:Tmp}{T T0:dn}{es es' es0:List (List V)}{l q γ n:Nat}(h1:es.all (·.all (FC 8))=true)(h2:es'.all (·.all fR)=true)
  (hA:∀s,DG P f [.list false es] s fun v s'=>∃γ,v=(⟨.vec T es',none⟩:Mk).val s.up.length d γ/\s'=s.put s.up.length d γ (.vec T es'))
  (hg:s.get l q=some (γ,.vec T0 es0)) (hn:es0.take n=es) (hn2:n<=es0.length):DG P f [.vec l q γ n] s fun r s'=>r=.list false es'/\s'=s:=by
 refine⟨(hA s).1,fun G vals w R hI hV hR=>?_⟩
 obtain⟨l0⟩:=vals
 match l0,hV with
 |[],hV=>exact absurd hV.1 (by simp)
 |_::_::_,hV=>exact absurd hV.1 (by simp)
 |[v0],hV=>
  have a0:RepV G (.vec l q γ n) v0:=hV.2 0 (by simp) (by simp)
  obtain⟨b,sz,C,r1,r2,r3,r4,r5⟩:=hI.res _ _ _ _ hg
  let Gs:Gh:={ sl:=fun b=>w.heap[b]?,be:=fun _=>none,env:=(w.os,w.output,w.heap.size),mm:=fun _=>none }
  have hno:∀l k x,¬(⟨[],[]⟩:St).get l k=some x:=fun l k x h=>by
   unfold St.get at h;split at h
   ·cases h
   ·simp at h
  have hIs:BV Gs ⟨[],[]⟩ w:=⟨fun b o h=>h,fun l k g r h=>absurd h (hno _ _ _),fun l k g r l' k' g' r' b h=>absurd h (hno _ _ _),fun l k g r b h=>absurd h (hno _ _ _),⟨0,fun _ _=>rfl⟩,
   ⟨rfl,rfl,bc _,fun b c T fz e1 e2=>by
    have h3:=(Array.getElem?_eq_some_iff.1 e2).1;have h4:w.heap.size<=b:=e1;omega⟩,⟨fun _ _ h=>(by cases h),fun _ _ h=>(by cases h),fun l k g r b h=>absurd h (hno _ _ _),fun _ _ h=>by cases h⟩⟩
  have hq:RepV Gs (.list false es) v0:=by obtain⟨G1,hle1,hI1,hs1⟩:=hI.lockRow hg;have hv:=JY hI hle1 hg hn2 hs1 a0;rw[hn]at hv;exact QN (fun b o h=>hI1.sl b o h) 9 _ _ h1 hv
  refine(hA ⟨[],[]⟩).2 Gs #[v0] w R hIs ⟨rfl,fun i h1 h2=>by
   obtain rfl:i=0:=by simp at h1;omega
   exact hq⟩ fun G2 r v w2 s2 hle hI2 hrv hlen hK=>?_
  obtain⟨γ2,rfl,rfl⟩:=hK
  have hg2:(St.put ⟨[],[]⟩ (⟨[],[]⟩:St).up.length d γ2 (.vec T es')).get 0 d=some (γ2,.vec T es'):=by simp[St.put,St.get,AB.put,AB.get]
  have hrv:RepV G2 (.vec 0 d γ2 es'.length) v:=hrv
  have hold:∀b,b<w.heap.size->w2.heap[b]? = w.heap[b]?:=fun b hb=>by
   have e:Gs.sl b=some w.heap[b]:=by show w.heap[b]? = _;simp[hb]
   rw[hI2.sl b _ (hle.a _ _ e)];simp[hb]
  obtain⟨G4,hle4,hI4,hs4⟩:=hI2.lockRow hg2
  have hv2:=JY hI2 hle4 hg2 (bc _) hs4 hrv
  rw[List.take_length]at hv2
  obtain⟨e1,e2,e3,e4⟩:=hI.env
  have he:G2.env=(w.os,w.output,w.heap.size):=hle.e
  obtain⟨q1,q2,q3,q4⟩:=hI2.env
  rw[he]at q1 q2 q3 q4
  let G3:Gh:={ G with sl:=fun b=>if b<w.heap.size then G.sl b else w2.heap[b]? }
  have hlt:∀b o,G.sl b=some o->b<w.heap.size:=fun b o h=>(Array.getElem?_eq_some_iff.1 (hI.sl b o h)).1
  have hle3:G.le G3:=⟨fun b o h=>(if_pos (hlt b o h)).trans h,fun _ _ h=>h,rfl,fun _ _ h=>h⟩
  have hso:∀{g r b},A9 G3 g r=some b->A9 G g r=some b:=by intro g r b h;cases r<;>exact h
  have hI3:BV G3 s w2:=by
   refine⟨fun b o h=>?_,fun l k g r h=>(hI.res l k g r h).keep hle3 fun b hb=>hold b (hI.out _ _ _ _ _ h hb).2,fun l k g r l' k' g' r' b h1 h2 h3 h4=>hI.sep _ _ _ _ _ _ _ _ _ h1 h2 (hso h3) (hso h4),fun l k g r b h hb=>?_,hI.fresh,⟨q1.trans e1,q2.trans e2,dw e3 q3,fun b c T fz hb hc=>?_⟩,
    ⟨fun b d hb'=>(hI.me.at' b d hb').keep (fun _ _ h=>h.mono hle3) (hold b (hI.me.lt b d hb')),fun b d hb=>cz (hI.me.lt b d hb) q3,fun l k g r b h hb=>hI.me.ow l k g r b h (hso hb),fun b d hb=>(if_pos (hI.me.lt b d hb)).trans (hI.me.sl b d hb)⟩⟩
   ·have h:(if b<w.heap.size then G.sl b else w2.heap[b]?)=some o:=h;split at h
    ·rename_i hb;rw[hold b hb];exact hI.sl b o h
    ·exact h
   ·obtain⟨h3,h4⟩:=hI.out l k g r b h (hso hb);exact⟨(if_pos h4).trans h3,cz h4 q3⟩
   ·rcases Nat.lt_or_ge b w.heap.size with hl|hl
    ·rw[hold b hl]at hc;exact e4 b c T fz hb hc
    ·exact q4 b c T fz hl hc
  refine hR G3 (.list false es') v w2 s hle3 hI3 ?_ rfl ⟨rfl,rfl⟩
  cases hrv with
  |vec _ _ _ _ b2 sz2 C2 a2 hb2 hlen2 ha2=>
   generalize hm:es'.length=m at hv2
   cases hv2 with
   |list _ _ _ _ b3 off sz3 arr T3 fz vs hcap hfull ha hl hv hr=>
    refine .list false es' a2 C2 b3 off sz3 arr T3 fz vs hcap hfull (fun hne=>⟨(ha hne).1,?_⟩) hl hv fun i h j hj=>yL (bw.1 (bw.1 h2 _ (br h)) _ (br hj)) (hr i h j hj)
    have hC:C2≠0:=fun e=>hne (List.eq_nil_of_length_eq_zero (by omega))
    have hb:b3=b2:=by have:=(ha hne).1.symm.trans (ha2 hC);injection this with this;injection this
    subst hb
    have ho:A9 G2 γ2 (.vec T es')=some b3:=by simp[A9,hb2,hC]
    have hge:¬b3<w.heap.size:=fun hlt=>by
     have e:Gs.sl b3=some w.heap[b3]:=by show w.heap[b3]? = _;simp[hlt]
     have:=(hI2.out _ _ _ _ _ hg2 ho).1;rw[hle.a _ _ e]at this;cases this
    show(if b3<w.heap.size then G.sl b3 else w2.heap[b3]?)=_
    rw[if_neg hge,<-hs4 b3 ho]
    exact(ha hne).2
end Go.Pg
