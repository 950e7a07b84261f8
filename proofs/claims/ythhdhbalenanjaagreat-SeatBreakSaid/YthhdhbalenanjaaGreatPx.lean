/- Running a Go function upon abstract values, by computing: one operation, and that it is what the walk asks. No program in sight. -/
import Derived.Test.YthhdhbalenanjaaGreatP5
noncomputable section
open Go renaming Oper->fp,Program->ft,Operand->gk,TypeId->gq,FuncId->gv,Code->gw
open Nat renaming eq_of_beq_eq_true->bj,beq->bz,lt_succ_self->bm,le_refl->bn,le_succ->cq,blt->cx,ble_eq->cz,blt_eq->cd,le_trans->dg,ble->dn,lt_of_lt_of_le->fq
open Option renaming bind_eq_some_iff->bk,map_some->bq,bind_some->bg,some->cw
open List renaming replicate->bw,length_replicate->bb,map_append->bc,map_congr_left->bf,all_eq_true->bh,length_map->bp,map->cj,map_take->ck,length_append->cg,map_inj_left->cm,map_id->cn,length_singleton->cp,eq_nil_of_length_eq_zero->ct,map_nil->dj,mem_map->dk,getElem?_append_right->dq,map_cons->dv,getElem?_append_left->dw,map_replicate->dx,length->dz,append_cancel_left->db,map_flatten->dc,append_inj'->df,mem_append_right->dh,getElem?_eq_none->dl,eq_nil_or_concat->dm,getElem?_mapIdx->dp,mem_append->dr,mem_append_left->fj,mem_of_getElem?->fk,all_map->fw,length_mapIdx->fx,map_map->fg
open Bool renaming and_eq_true->bx,or_eq_false_iff->dt,not_eq_true'->fc
open Prod renaming mk->fh
namespace Go.Pg
variable {P:ft}{Ω:HG P}{σ σ':Nat->Nat}{δ:Nat}{pre:List AA}{s:St}{fr:Fr}{g:Bool}
def K3(all:List fp)(o:fp):Option (Tmp×Bool):=match o.guard with
 |none=>none
 |some (j,w)=>match all[j]? with
  |some p=>match p.dst with
   |some d=>some (d,w)
   |none=>none
  |none=>none
def uC(all:List fp):Bool:=all.all fun o=>HD all o (K3 all o)
theorem gN{all:List fp}:∀{l:List fp},(∀o∈l,HD all o (K3 all o)=true)->JI all (l.map (K3 all)) l=true
 |[],_=>rfl
 |o::l,h=>by simp only[dv,JI,bx];exact⟨h o (by simp),gN fun p hp=>h p (by simp[hp])⟩
theorem TK{all:List fp}(h:uC all=true):∀o∈all,HD all o (K3 all o)=true:=fun o ho=>bh.1 h o ho
def A1L(d:Tmp)(p:fp):Bool:=match p.op with
 |.call { callee:=.builtin .append,args,.. }=>match args.toList with
  |.tmp t::_=>bz t d
  |_=>false
 |.call { callee:=.value (.func _),args,argTypes }=>match args.toList,argTypes.toList with
  |[.tmp t,_],[T,U]=>bz t d&&bz T p.type&&!(bz U T)
  |_,_=>false
 |_=>false
def AQI(d:Tmp)(p:fp):Bool:=match p.op with
 |.store _ _ (.tmp t)=>bz t d
 |_=>false
def DM(l:List fp)(o:fp):Bool:=match o.op,o.dst with
 |.call { callee:=.value _,.. },some d=>l.any fun p=>A1L d p||AQI d p
 |_,_=>false
def kS(o:fp):Bool:=match o.op with
 |.mapUpdate ..|.insert ..=>true
 |.call { callee:=.builtin b,.. }=>match b with
  |.len|.max|.min|.cap|.append=>false
  |_=>true
 |_=>false
def kC(o:fp):Bool:=match o.op with
 |.call { callee:=.value _,.. }=>true
 |_=>false
def onB(o:fp)(A:List Nat):Bool:=o.after.any fun e=>Region.binds .any e&&A.contains e.on
def A1M(o:fp)(l:List fp)(A:List Nat):Bool:=kW o&&l.isEmpty&&A.all fun j=>o.after.any fun e=>Region.binds .any e&&bz e.on j
def A1N(o:fp)(i:Nat):List Nat->List Nat
 |[]=>[i]
 |a::A=>cond (onB o [a]) (i::a::A) (a::A1N o i A)
def J4(own:fp->Bool):List fp->Nat->List Nat->List Nat->List Nat->List Nat->List Nat->List Nat->List Nat×List Nat
 |[],_,R,Q,A,S,R2,T=>(R.reverse++Q.reverse++A.reverse++S.reverse++R2.reverse,T.reverse)
 |o::l,i,R,Q,A,S,R2,T=>
  cond (onB o T||kS o||A1M o l (R++Q++A++S++R2++T)||(kC o&&(onB o (Q++S++R2)||(!(own o)&&onB o A)))) (J4 own l (i+1) R Q A S R2 (i::T))
   (cond (kP o) (cond (onB o (A++S++R2)) (J4 own l (i+1) R Q A S (i :: R2) T) (J4 own l (i+1) R (i :: Q) A S R2 T))
   (cond (kW o) (cond (onB o R2) (J4 own l (i+1) R Q A S (i :: R2) T) (J4 own l (i+1) R Q A (i :: S) R2 T))
    (cond (onB o (Q++S++R2)||(cond (kA own o) (!R2.isEmpty) (onB o (A.take 1)))) (J4 own l (i+1) R Q A S (i :: R2) T)
     (cond (kA own o) (J4 own l (i+1) R Q (i :: A) S R2 T) (cond (onB o A) (J4 own l (i+1) R Q (A1N o i A) S R2 T) (J4 own l (i+1) (i :: R) Q A S R2 T))))))
def AMX(af:Nat):List (Nat×Nat)->Nat->Nat
 |[],m=>m
 |p::r,m=>HH (cond (U6 af p.1) (Nat.lor m (Nat.lor p.2 (Nat.shiftLeft 1 p.1))) m) (AMX af r)
def A1O:List (Nat×Nat)->List (Nat×Nat)->List (Nat×Nat)
 |[],acc=>acc
 |p::r,acc=>HH (AMX p.2 acc 0) fun m=>A1O r ((p.1,m)::acc)
def AQJ(l:List fp):List Nat:=((A1O (afL l 0) []).filterMap fun p=>cond (bz p.2 (Nat.sub (Nat.pow 2 p.1) 1)) (match l[p.1]? with
 |some o=>cond (kC o&&bz (KO p.1 (afL l 0) 0) (Nat.sub (Nat.pow 2 l.length) (Nat.pow 2 (p.1+1)))) (some p.1) none
 | none=>none) none).reverse
def AMY(own:fp->Bool)(l:List fp):Nat->List Nat->W2
 |i,[]=>[J4 own (l.drop i) i [] [] [] [] [] []]
 |i,c::cs=>match J4 own ((l.drop i).take (c-i)) i [] [] [] [] [] []with
  |(R,T)=>(R,T++[c])::AMY own l (c+1) cs
def cK(l:List fp):W2:=AMY (DM l) l 0 (AQJ l)
def AQK(l:List fp):List Nat:=l.filterMap fun o=>cond (kA (DM l) o) o.dst none
def F7:gw->Bool
 |.seq a b=>F7 a&&F7 b
 |.cond _ a b=>F7 a&&F7 b
 |.block _ c=>F7 c
 |.loop c=>F7 c
 |.scope _=>false
 |.rangeFunc ..=>false
 |_=>true
def EU(N:Nat):gw->Bool
 |.region _ ops draw=>cond draw (OH (DM ops.toList) N (ops.toList.map (K3 ops.toList)) (cK ops.toList) ops.toList) (LM N ops.toList&&uC ops.toList)
 |.seq a b=>EU N a&&EU N b
 |.cond _ a b=>EU N a&&EU N b
 |.block _ c=>EU N c
 |.loop c=>EU N c
 |.scope c=>EU N c
 |.rangeFunc _ ps asg body=>ps.toList.all (fun p=>cx p N)&&F7 asg&&F7 body&&EU N asg&&EU N body
 |_=>true
def TL(N:Nat)(ps:List Tmp)(asg body:gw):Bool:=ps.all (fun p=>cx p N)&&F7 asg&&F7 body&&EU N asg&&EU N body
def TM(s:St):Prop:=∀l k γ fr ps asg body N st,s.get l k=some (γ,.loop fr ps asg body N st)->TL N ps asg body=true
theorem pT{s:St}{l k γ:Nat}{r:AV}{l' k':Nat}{x:Nat×AV}(h:(s.put l k γ r).get l' k'=some x):x=(γ,r)\/s.get l' k'=some x:=by
 unfold St.put at h;unfold St.get at h|-;by_cases e1:l=s.up.length
 ·rw[if_pos e1]at h;by_cases e2:l'=s.up.length
  ·rw[if_pos e2]at h|-;rw[AA.get_put]at h;split at h
   ·exact .inl (cw.inj h).symm
   ·exact .inr h
  ·rw[if_neg e2]at h|-;exact .inr h
 ·rw[if_neg e1]at h;have hl:({ s with up:=s.up.modify l (fun L=>L.put k γ r) }:St).up.length=s.up.length:=by simp
  rw[hl]at h;by_cases e2:l'=s.up.length
  ·rw[if_pos e2]at h|-;exact .inr h
  ·rw[if_neg e2]at h|-;rw[List.getElem?_modify]at h;cases hu:s.up[l']? with
   |none=>simp[hu]at h
   |some L=>
    rw[hu]at h
    simp only[Option.map_eq_map,bq]at h
    by_cases e3:l=l'
    ·simp only[e3,if_true,AA.get_put]at h;split at h
     ·exact .inl (cw.inj h).symm
     ·exact .inr h
    ·simp only[e3,if_false]at h;exact .inr h
theorem TM.put{s:St}(h:TM s){l k γ:Nat}{r:AV}(hr:∀fr ps asg body N st,r=.loop fr ps asg body N st->TL N ps asg body=true):TM (s.put l k γ r):=by
 intro l' k' γ' fr ps asg body N st hg;rcases pT hg with e|e
 ·cases e;exact hr _ _ _ _ _ _ rfl
 ·exact h _ _ _ _ _ _ _ _ _ e
structure XS where
 c:Nat
 fr:Fr
 s:St
def BL(fr:Fr)(k:Nat):Option (Bool×V):=List.rec (motive:=fun _=>Option (Bool×V)) none (fun x _ ih=>Bool.rec ih (some x.2) (bz k x.1)) fr
theorem GH:∀(fr:Fr) (k:Nat),BL fr k=fr.get k
 |[],_=>rfl
 |(j,x)::fr,k=>by
  show(Bool.rec (BL fr k) (some x) (bz k j):Option (Bool×V))=if k=j then some x else Fr.get fr k
  by_cases h:k=j
  ·subst h;rw[if_pos rfl,Nat.beq_refl]
  ·rw[if_neg h,<-GH fr k];have:bz k j=false:=by
    cases hb:bz k j with
    |false=>rfl
    |true=>exact absurd (bj hb) h
   rw[this]
def CK(fr:Fr)(x:gk):Option V:=match x with
 |.tmp t=>match BL fr t with
  |some (true,v)=>some v
  |_=>none
 |.const v=>CN v
 |.func f=>some (.fn f [] [])
 |.global _=>none
theorem DY(x:gk):CK fr x=DQ true fr x:=by
 cases x with
 |tmp t=>
  simp only[CK,DQ,rd,GH]
  cases fr.get t with
  |none=>rfl
  |some p=>
   obtain⟨c,v⟩:=p
   cases c<;>rfl
 |const v=>
  simp only[CK,DQ,rd]
  cases CN v<;>rfl
 |func f=>rfl
 |global g=>rfl
theorem E8:CK fr=DQ true fr:=funext fun x=>DY x
def AO(c:Nat)(σ σ':Nat->Nat):Prop:=∀i,i<c->σ i=σ' i
theorem AO.refl(c:Nat)(σ:Nat->Nat):AO c σ σ:=fun _ _=>rfl
theorem AO.trans{c c':Nat}{σ σ' σ'':Nat->Nat}(h:AO c σ σ')(h':AO c' σ' σ'')(hc:c<=c'):AO c σ σ'':=fun i hi=>(h i hi).trans (h' i (fq hi hc))
theorem AO.mono{c c':Nat}(h:AO c' σ σ')(hc:c<=c'):AO c σ σ':=fun i hi=>h i (fq hi hc)
theorem AO.upd(c γ:Nat)(σ:Nat->Nat):AO c σ (fun i=>if i=c then γ else σ i):=fun i hi=>by simp[Nat.ne_of_lt hi]
structure Bd(st:XS):Prop where
 f:∀σ σ' δ,AO st.c σ σ'->st.fr.ren σ δ=st.fr.ren σ' δ
 s:∀σ σ' pre,AO st.c σ σ'->st.s.emb σ pre=st.s.emb σ' pre
 lp:TM st.s
def UH(c:Nat)(v:V):Prop:=∀σ σ' δ,AO c σ σ'->v.ren σ δ=v.ren σ' δ
structure KI(st st':XS):Prop where
 c:st.c<=st'.c
 bd:Bd st'
 n:st'.s.up.length=st.s.up.length
def StepX(P:ft)(o:fp)(st st':XS):Prop:=KI st st'/\∀(σ:Nat->Nat) (pre:List AA) (k:Fr->St->Prop),(∀σ',AO st.c σ σ'->k (st'.fr.ren σ' pre.length) (st'.s.emb σ' pre))->EF P true o (st.fr.ren σ pre.length) (st.s.emb σ pre) k
theorem FG(d:Option Tmp)(c:Bool)(v:V):(putD fr d c v).ren σ δ=putD (fr.ren σ δ) d c (v.ren σ δ):=by cases d<;>rfl
theorem HM(d:Nat)(c:Bool)(v:V):(fr.put d c v).ren σ δ=(fr.ren σ δ).put d c (v.ren σ δ):=rfl
theorem UH.mono{c c':Nat}{v:V}(h:UH c v)(hc:c<=c'):UH c' v:=fun σ σ' δ ha=>h σ σ' δ (ha.mono hc)
theorem Bd.val{st:XS}(h:Bd st){o:fp}{v:V}(hv:FE P g o st.fr st.s=some v):UH st.c v:=by intro σ σ' δ ha;have h1:=IY (σ:=σ) (pre:=bw δ []) hv;have h2:=IY (σ:=σ') (pre:=bw δ []) hv;rw[h.f σ σ' _ ha,h.s σ σ' _ ha,h2]at h1;have:=cw.inj h1;rw[bb]at this;exact this.symm
theorem Bd.rd{st:XS}(h:Bd st){x:gk}{v:V}(hv:CK st.fr x=some v):UH st.c v:=by intro σ σ' δ ha;rw[DY]at hv;have h1:=DI (g:=true) (fr:=st.fr) (σ:=σ) (δ:=δ) x;have h2:=DI (g:=true) (fr:=st.fr) (σ:=σ') (δ:=δ) x;rw[h.f σ σ' _ ha,h2,hv]at h1;simpa using h1.symm
theorem Bd.putF{st:XS}(h:Bd st){d:Option Tmp}{c:Bool}{v:V}(hv:UH st.c v):Bd { st with fr:=putD st.fr d c v } :=
 ⟨fun σ σ' δ ha=>by simp only[FG];rw[h.f σ σ' δ ha,hv σ σ' δ ha],h.s,h.lp⟩
def bQ:AV->Bool
 |.loop ..=>false
 |_=>true
theorem VC{r:AV}(h:bQ r=true):∀fr ps asg body N st,r=.loop fr ps asg body N st->TL N ps asg body=true:=by intro fr ps asg body N st e;subst e;cases h
theorem Bd.putS{st:XS}(h:Bd st){l k γ:Nat}{r:AV}(hγ:γ<st.c)(hr:∀σ σ' δ,AO st.c σ σ'->r.ren σ δ=r.ren σ' δ)(hp:bQ r=true:=by rfl):Bd { st with s:=st.s.put l k γ r } :=
 ⟨h.f,fun σ σ' pre ha=>by simp only[CQ];rw[h.s σ σ' pre ha,hr σ σ' _ ha,ha γ hγ],h.lp.put (VC hp)⟩
theorem yH{o:fp}{st:XS}{v:V}(h:Bd st)(hv:FE P true o st.fr st.s=some v):StepX P o st { st with fr:=putD st.fr o.dst true v }:=by refine⟨⟨bn _,h.putF (h.val hv),rfl⟩,fun σ pre k hk=>DL (Ω:=HG.nothing P) (.inl ⟨_,IY hv,?_⟩)⟩;have:=hk σ (AO.refl _ _);rwa [FG]at this
theorem aA{c:Nat}{v:V}(h:UH c v)(σ σ':Nat->Nat)(δ:Nat)(ha:AO c σ σ'):(A7 v).map (V.ren σ δ)=(A7 v).map (V.ren σ' δ):=by rw[<-EK,<-EK,h σ σ' δ ha]
def gO(P:ft)(Ω:HG P)(o:fp)(st st':XS):Prop:=KI st st'/\∃d,o.dst=some d/\∀(σ:Nat->Nat) (pre:List AA) (k:Fr->St->Prop),(∀σ',AO st.c σ σ'->k (st'.fr.ren σ' pre.length) (st'.s.emb σ' pre)) ->
 ∃r,P1 P Ω o (st.fr.ren σ pre.length)=some r/\∀γ,k ((st.fr.ren σ pre.length).put d true (r.val (st.s.emb σ pre).up.length d γ)) ((st.s.emb σ pre).put (st.s.emb σ pre).up.length d γ r.res)
theorem gO.step{o:fp}{st st':XS}(h:gO P Ω o st st'):StepX P o st st':=by obtain⟨h1,d,hd,h2⟩:=h;refine⟨h1,fun σ pre k hk=>?_⟩;obtain⟨r,hr,h3⟩:=h2 σ pre k hk;exact DL (Ω:=Ω) (.inr (.inr ⟨r,d,rfl,hd,hr,h3⟩))
theorem dY{o:fp}{st:XS}{d:Nat}{cs:List V}(h:Bd st)(hd:o.dst=some d)(hcs:∀σ σ' δ,AO st.c σ σ'->cs.map (V.ren σ δ)=cs.map (V.ren σ' δ))
  (hn:∀σ pre,P1 P Ω o (st.fr.ren σ (dz (α:=AA) pre))=some ⟨.box (cs.map (V.ren σ pre.length)),none⟩) :
  gO P Ω o st ⟨st.c+1,st.fr.put d true (.ptr st.s.up.length d st.c 0),st.s.put st.s.up.length d st.c (.box cs)⟩:=by
 have hb:∀σ σ',AO (st.c+1) σ σ'->AO st.c σ σ':=fun σ σ' ha=>ha.mono (cq _)
 refine⟨⟨cq _,⟨fun σ σ' δ ha=>?_,fun σ σ' pre ha=>?_,h.lp.put (VC rfl)⟩,St.put_len _ _ _ _ _⟩,d,hd,fun σ pre k hk=>⟨_,hn σ pre,fun γ=>?_⟩⟩
 ·simp only[HM,HK];rw[h.f σ σ' δ (hb _ _ ha),ha st.c (bm _)]
 ·simp only[CQ,AV.ren];rw[h.s σ σ' pre (hb _ _ ha),hcs σ σ' _ (hb _ _ ha),ha st.c (bm _)]
 ·have:=hk (fun i=>if i=st.c then γ else σ i) (AO.upd _ _ _);have ha:=AO.upd st.c γ σ;simp only[HM,HK,if_true,CQ,AV.ren]at this;rw[<-h.f _ _ _ ha,<-h.s _ _ _ ha,<-hcs _ _ _ ha]at this;rw[DB];exact this
def OM(P:ft)(d:Option Tmp)(T:gq)(st:XS):Option XS:=match d,CA P T with
 |some d,some cs=>some ⟨st.c+1,(d,true,.ptr st.s.up.length d st.c 0)::st.fr,st.s.put st.s.up.length d st.c (.box cs)⟩
 |_,_=>none
def lX(d:Option Tmp)(x:gk)(st:XS):Option XS:=match d,CK st.fr x with
 |some d,some v=>Bool.rec none (some ⟨st.c+1,(d,true,.ptr st.s.up.length d st.c 0)::st.fr,st.s.put st.s.up.length d st.c (.box (A7 v))⟩) (A9 v)
 |_,_=>none
theorem dZ{o:fp}{T:gq}{st st':XS}(h:Bd st)(ho:o.op=.alloc T)(hx:OM P o.dst T st=some st'):gO P Ω o st st':=by
 unfold OM at hx;split at hx
 ·rename_i d cs hd hz;cases hx;refine dY h hd (fun σ σ' δ _=>by rw[GW hz,GW hz]) fun σ pre=>?_;simp[P1,ho,hz,GW hz]
 ·cases hx
theorem uD{o:fp}{T:gq}{x:gk}{st st':XS}(h:Bd st)(ho:o.op=.box T x)(hx:lX o.dst x st=some st'):gO P Ω o st st':=by
 unfold lX at hx;split at hx
 ·rename_i d v hd hv;cases hf:A9 v with
  |false=>rw[hf]at hx;cases hx
  |true=>
   rw[hf]at hx
   cases hx
   refine dY h hd (fun σ σ' δ ha=>aA (h.rd hv) σ σ' δ ha) fun σ pre=>?_
   rw[DY]at hv
   simp[P1,ho,DI,hv,H9,hf,EK]
 ·cases hx
def WO(P:ft)(d:Option Tmp)(T:gq)(x y:gk)(st:XS):Option XS:=match d,BQ P T with
 |some d,some (none,e)=>match CK st.fr x,CK st.fr y with
  |some (.int _ n),some (.int _ m)=>match CA P e with
   |some z=>if 0<=n/\m=n/\z.length=P.cellsOf e/\n.toNat*P.bytesOf e<=140737488355328/\n.toNat<=maxLen then
     some ⟨st.c+1,(d,true,.vec st.s.up.length d st.c n.toNat)::st.fr,st.s.put st.s.up.length d st.c (.vec e (bw n.toNat z))⟩ else none
   |none=>none
  |_,_=>none
 |_,_=>none
theorem lY{o:fp}{T:gq}{x y:gk}{st st':XS}(h:Bd st)(ho:o.op=.makeSlice T x y)(hx:WO P o.dst T x y st=some st'):gO P Ω o st st':=by
 unfold WO at hx;split at hx
 ·rename_i d e hd hel;split at hx
  ·rename_i k1 n k2 m h1 h2;split at hx
   ·rename_i z hz;split at hx
    ·rename_i hc;cases hx;rw[DY]at h1 h2;have hr:∀σ δ,(bw n.toNat z).map (cj (V.ren σ δ))=bw n.toNat z:=fun σ δ=>by rw[dx,GW hz]
     have hb:∀σ σ',AO (st.c+1) σ σ'->AO st.c σ σ':=fun σ σ' ha=>ha.mono (cq _);refine⟨⟨cq _,⟨fun σ σ' δ ha=>?_,fun σ σ' pre ha=>?_,h.lp.put (VC rfl)⟩,St.put_len _ _ _ _ _⟩,d,hd,fun σ pre k hk=>⟨⟨.vec e (bw n.toNat z),none⟩,?_,fun γ=>?_⟩⟩
     ·show((st.fr.put d true _).ren σ δ)=((st.fr.put d true _).ren σ' δ);simp only[HM,HL];rw[h.f σ σ' δ (hb _ _ ha),ha st.c (bm _)]
     ·simp only[CQ,AV.ren,hr];rw[h.s σ σ' pre (hb _ _ ha),ha st.c (bm _)]
     ·simp only[P1,ho,DI,h1,h2,bq,EG,hel,hz];rw[if_pos hc]
     ·have:=hk (fun i=>if i=st.c then γ else σ i) (AO.upd _ _ _);have ha:=AO.upd st.c γ σ;change k ((st.fr.put d true _).ren _ _) _ at this;simp only[HM,HL,if_true,CQ,AV.ren,hr]at this;rw[<-h.f _ _ _ ha,<-h.s _ _ _ ha]at this;simp only[Mk.val,HF,bb];rw[DB];exact this
    ·cases hx
   ·cases hx
  ·cases hx
 ·cases hx
def yI(d:Option Tmp)(r:Option gk)(st:XS):Option XS:=match d,r with
 |some d,none=>some ⟨st.c+1,(d,true,.mp st.s.up.length d st.c)::st.fr,st.s.put st.s.up.length d st.c (.map [])⟩
 |_,_=>none
theorem uE{o:fp}{T:gq}{r:Option gk}{st st':XS}(h:Bd st)(ho:o.op=.makeMap T r)(hx:yI o.dst r st=some st'):gO P Ω o st st':=by
 unfold yI at hx;split at hx
 ·rename_i d hd;cases hx;have hb:∀σ σ',AO (st.c+1) σ σ'->AO st.c σ σ':=fun σ σ' ha=>ha.mono (cq _);refine⟨⟨cq _,⟨fun σ σ' δ ha=>?_,fun σ σ' pre ha=>?_,h.lp.put (VC rfl)⟩,St.put_len _ _ _ _ _⟩,d,hd,fun σ pre k hk=>⟨⟨.map [],none⟩,?_,fun γ=>?_⟩⟩
  ·show((st.fr.put d true _).ren σ δ)=((st.fr.put d true _).ren σ' δ);simp only[HM,QY];rw[h.f σ σ' δ (hb _ _ ha),ha st.c (bm _)]
  ·simp only[CQ,AV.ren,dj];rw[h.s σ σ' pre (hb _ _ ha),ha st.c (bm _)]
  ·simp only[P1,ho]
  ·have:=hk (fun i=>if i=st.c then γ else σ i) (AO.upd _ _ _);have ha:=AO.upd st.c γ σ;change k ((st.fr.put d true _).ren _ _) _ at this;simp only[HM,QY,if_true,CQ,AV.ren,dj]at this;rw[<-h.f _ _ _ ha,<-h.s _ _ _ ha]at this;simp only[Mk.val,HF];rw[DB];exact this
 ·cases hx
def I7(P:ft)(d:Option Tmp)(T:gq)(x y:gk)(st:XS):Option XS:=match d with
 |some _=>none
 |none=>match CK st.fr x,CK st.fr y with
  |some (.ptr l q γ off),some v=>match st.s.get l q with
   |some (γ',.box cs)=>if bz γ' γ&&A9 v&&cx 0 (P.cellsOf T)&&bz (A7 v).length (P.cellsOf T)&&dn (off+P.cellsOf T) cs.length&&cx γ st.c then some { st with s:=st.s.put l q γ (.box (AZ cs off (A7 v))) } else none
   |_=>none
  |some (.eptr l q γ i off),some v=>match st.s.get l q with
   |some (γ',.vec U es)=>if bz γ' γ&&A9 v&&cx 0 (P.cellsOf T)&&bz (A7 v).length (P.cellsOf T)&&cx i es.length&&dn (off+P.cellsOf T) (es.getD i []).length&&cx γ st.c then some { st with s:=st.s.put l q γ (.vec U (es.set i (AZ (es.getD i []) off (A7 v)))) } else none
   |_=>none
  |_,_=>none
theorem MU{st:XS}(h:Bd st){l q γ:Nat}{r:AV}(hg:st.s.get l q=some (γ,r))(σ σ':Nat->Nat)(δ:Nat)(ha:AO st.c σ σ'):r.ren σ δ=r.ren σ' δ:=by have h1:=B5 (s:=st.s) (σ:=σ) (pre:=bw δ []) l q;have h2:=B5 (s:=st.s) (σ:=σ') (pre:=bw δ []) l q;rw[h.s σ σ' _ ha,h2,hg]at h1;simp only[bq,bb,cw.injEq,fh.injEq]at h1;exact h1.2.symm
theorem KS(es:List (List V))(i:Nat)(x:List V):(es.set i x).map (cj (V.ren σ δ))=(es.map (cj (V.ren σ δ))).set i (x.map (V.ren σ δ)):=by simp[List.map_set]
theorem eA{o:fp}{T:gq}{x y:gk}{st st':XS}(h:Bd st)(ho:o.op=.store T x y)(hx:I7 P o.dst T x y st=some st'):StepX P o st st':=by
 unfold I7 at hx;split at hx
 ·cases hx
 ·rename_i hd;split at hx
  ·rename_i l q γ off v h1 h2;split at hx
   ·rename_i γ' cs hg;split at hx
    ·rename_i hc;simp only[bx,cd,cz]at hc;obtain⟨⟨⟨⟨⟨c1,c2⟩,c3⟩,c4⟩,c5⟩,c6⟩:=hc;have c1:=bj c1;have c4:=bj c4;subst c1;cases hx;have hv:=h.rd h2;refine⟨⟨bn _,h.putS c6 fun σ σ' δ ha=>?_,St.put_len _ _ _ _ _⟩,fun σ pre k hk=>?_⟩
     ·have hr:=MU h hg σ σ' δ ha;simp only[AV.ren,AV.box.injEq]at hr|-;rw[<-C7,<-C7,hr,aA hv σ σ' δ ha]
     ·have:=hk σ (AO.refl _ _);rw[DY]at h1 h2;unfold EF;simp only[ho,DI,h1,h2,bq,HK,B5,hg,AV.ren];refine⟨trivial,trivial,by rw[H9];exact c2,c3,by rw[EK];simpa using c4,by simpa using c5,hd,?_⟩;rw[EK,C7];rw[CQ]at this;exact this
    ·cases hx
   ·cases hx
  ·rename_i l q γ i off v h1 h2;split at hx
   ·rename_i γ' U es hg;split at hx
    ·rename_i hc;simp only[bx,cd,cz]at hc;obtain⟨⟨⟨⟨⟨⟨c1,c2⟩,c3⟩,c4⟩,c5⟩,c6⟩,c7⟩:=hc;have c1:=bj c1;have c4:=bj c4;subst c1;cases hx;have hv:=h.rd h2;refine⟨⟨bn _,h.putS c7 fun σ σ' δ ha=>?_,St.put_len _ _ _ _ _⟩,fun σ pre k hk=>?_⟩
     ·have hr:=MU h hg σ σ' δ ha;simp only[AV.ren,AV.vec.injEq,true_and]at hr|-;rw[KS,KS,<-C7,<-C7,<-E2,<-E2,hr,aA hv σ σ' δ ha]
     ·have:=hk σ (AO.refl _ _);rw[DY]at h1 h2;unfold EF;simp only[ho,DI,h1,h2,bq,OI,B5,hg,AV.ren];refine⟨trivial,trivial,by rw[H9];exact c2,c3,by rw[EK];simpa using c4,by simpa using c5,by rw[E2];simpa using c6,hd,?_⟩;rw[E2,EK,C7,<-KS];rw[CQ]at this;exact this
    ·cases hx
   ·cases hx
  ·cases hx
def yJ(P:ft)(d:Option Tmp)(T:gq)(x i y:gk)(st:XS):Option XS:=match d with
 |some _=>none
 |none=>match CK st.fr x,CK st.fr i,CK st.fr y with
  |some m,some i,some v=>match LK P st.s T m i v with
   |some (l,q,γ,es)=>Bool.rec none (some { st with s:=st.s.put l q γ (.map es) }) (cx γ st.c)
   |none=>none
  |_,_,_=>none
theorem AJQ{o:fp}{T:gq}{x i y:gk}{st st':XS}(h:Bd st)(ho:o.op=.mapUpdate T x i y)(hx:yJ P o.dst T x i y st=some st'):StepX P o st st':=by
 unfold yJ at hx;split at hx
 ·cases hx
 ·rename_i hd;split at hx
  ·rename_i m i' v h1 h2 h3;split at hx
   ·rename_i l q γ es hu;cases hb:cx γ st.c with
    |false=>rw[hb]at hx;cases hx
    |true=>
     rw[hb]at hx
     have hlt:γ<st.c:=by simpa using hb
     cases hx
     have hm:=h.rd h1
     have hi:=h.rd h2
     have hv:=h.rd h3
     refine⟨⟨bn _,h.putS hlt fun σ σ' δ ha=>?_,St.put_len _ _ _ _ _⟩,fun σ pre k hk=>?_⟩
     ·have q1:=VA (σ:=σ) (pre:=bw δ []) hu;have q2:=VA (σ:=σ') (pre:=bw δ []) hu;rw[h.s σ σ' _ ha,hm σ σ' _ ha,hi σ σ' _ ha,hv σ σ' _ ha,q2]at q1;simp only[cw.injEq,fh.injEq,bb]at q1;simp only[AV.ren,q1.2.2.2]
     ·have:=hk σ (AO.refl _ _);rw[DY]at h1 h2 h3;unfold EF;simp only[ho,DI,h1,h2,h3,bq,VA hu];refine⟨trivial,hd,?_⟩;rw[CQ]at this;exact this
   ·cases hx
  ·cases hx
def gP(P:ft)(d:Option Tmp)(args:List gk)(Ts:List gq)(st:XS):Option XS:=match args,Ts,d with
 |[x],[T],none=>match BQ P T,CK st.fr x with
  |some (none,e),some (.vtl l q γ i n)=>match st.s.get l q,CA P e with
   |some (γ',.vec U es),some z=>Bool.rec none (some { st with s:=st.s.put l q γ (.vec U (es.take i++bw n z++es.drop (i+n))) }) (bz γ' γ&&bz U e&&dn (i+n) es.length&&es.all (fun y=>y.length==z.length)&&cx γ st.c)
   |_,_=>none
  |_,_=>none
 |_,_,_=>none
theorem yK{o:fp}{args:Array gk}{Ts:Array gq}{st st':XS}(h:Bd st)(ho:o.op=.call { callee:=.builtin .clear,args:=args,argTypes:=Ts })(hx:gP P o.dst args.toList Ts.toList st=some st'):StepX P o st st':=by
 unfold gP at hx;split at hx
 ·rename_i x T ha hT hd;split at hx
  ·rename_i e l q γ i n hel h1;split at hx
   ·rename_i γ' U es z hg hz;cases hb:(bz γ' γ&&bz U e&&dn (i+n) es.length&&es.all (fun y=>y.length==z.length)&&cx γ st.c)with
    |false=>rw[hb]at hx;cases hx
    |true=>
     rw[hb]at hx
     cases hx
     simp only[bx,cd,cz]at hb
     obtain⟨⟨⟨⟨c1,c2⟩,c3⟩,c4⟩,c5⟩:=hb
     have c1:=bj c1
     have c2:=bj c2
     subst c1;subst c2
     have hz':∀σ δ,z.map (V.ren σ δ)=z:=fun σ δ=>GW hz
     refine⟨⟨bn _,h.putS c5 fun σ σ' δ ha=>?_,St.put_len _ _ _ _ _⟩,fun σ pre k hk=>?_⟩
     ·have hr:=MU h hg σ σ' δ ha;simp only[AV.ren,AV.vec.injEq,true_and]at hr|-;simp only[bc,ck,List.map_drop,dx,hz',hr]
     ·have:=hk σ (AO.refl _ _);rw[DY]at h1;unfold EF;simp only[ho,ha,hT,hd,hel,DI,h1,bq,XL,B5,hg,hz,AV.ren];refine⟨trivial,trivial,trivial,by simpa using c3,?_,?_⟩
      ·rw[fw];exact c4▸(by congr 1;funext x;simp)
      ·rw[CQ]at this;simp only[AV.ren,bc,ck,List.map_drop,dx,hz']at this;exact this
   ·cases hx
  ·cases hx
 ·cases hx
theorem pU{o:fp}{l q γ:Nat}{r:AV}(h:DA P o fr s=some (l,q,γ,r)):DA P o (fr.ren σ pre.length) (s.emb σ pre)=some (l+pre.length,q,σ γ,r.ren σ pre.length):=by
 unfold DA at h|-;split at h
 ·rename_i T x y ho;simp only[DI];split at h
  ·rename_i l1 q1 γ1 off v e1 e2;simp only[e1,e2,bq,HK,B5];split at h
   ·rename_i γ2 cs e3;split at h
    ·rename_i hc;cases h;obtain⟨c1,c2,c3,c4,c5,c6⟩:=hc;subst c1;simp only[e3,bq,AV.ren,H9,EK,bp];rw[if_pos ⟨trivial,c2,c3,c4,c5,c6⟩,C7]
    ·cases h
   ·cases h
  ·rename_i l1 q1 γ1 i off v e1 e2;simp only[e1,e2,bq,OI,B5];split at h
   ·rename_i γ2 U es e3;split at h
    ·rename_i hc;cases h;obtain⟨c1,c2,c3,c4,c5,c6,c7⟩:=hc;subst c1;simp only[e3,bq,AV.ren,H9,EK,bp,E2];rw[if_pos ⟨trivial,c2,c3,c4,c5,c6,c7⟩,C7,<-KS]
    ·cases h
   ·cases h
  ·cases h
 ·cases h
theorem ADW{o:fp}{T:gq}{x y:gk}{st st':XS}(ho:o.op=.store T x y)(hx:I7 P o.dst T x y st=some st'):∃l q γ r,DA P o st.fr st.s=some (l,q,γ,r)/\st'={ st with s:=st.s.put l q γ r }:=by
 unfold I7 at hx;unfold DA;simp only[ho];split at hx
 ·cases hx
 ·rename_i hd;split at hx
  ·rename_i l q γ off v h1 h2;split at hx
   ·rename_i γ' cs hg;split at hx
    ·rename_i hc;simp only[bx,cd,cz]at hc;obtain⟨⟨⟨⟨⟨c1,c2⟩,c3⟩,c4⟩,c5⟩,c6⟩:=hc;have c1:=bj c1;have c4:=bj c4;subst c1;cases hx;rw[DY]at h1 h2;refine⟨_,_,_,_,?_,rfl⟩;simp only[h1,h2,hg];rw[if_pos ⟨trivial,c2,c3,c4,c5,hd⟩]
    ·cases hx
   ·cases hx
  ·rename_i l q γ i off v h1 h2;split at hx
   ·rename_i γ' U es hg;split at hx
    ·rename_i hc;simp only[bx,cd,cz]at hc;obtain⟨⟨⟨⟨⟨⟨c1,c2⟩,c3⟩,c4⟩,c5⟩,c6⟩,c7⟩:=hc;have c1:=bj c1;have c4:=bj c4;subst c1;cases hx;rw[DY]at h1 h2;refine⟨_,_,_,_,?_,rfl⟩;simp only[h1,h2,hg];rw[if_pos ⟨trivial,c2,c3,c4,c5,c6,hd⟩]
    ·cases hx
   ·cases hx
  ·cases hx
def AA.hide(W:AJ)(l:Nat)(L:AA):AA:=L.filter fun e=>!(W.contains (l,e.1))
theorem AA.get_hide(W:AJ)(l:Nat):∀(L:AA) (k:Nat),(l,k)∉W->(L.hide W l).get k=L.get k
 |[],k,_=>rfl
 |(j,x)::L,k,hk=>by
  have ih:=AA.get_hide W l L k hk;unfold AA.hide at ih|-;rw[List.filter_cons];split
  ·simp only[AA.get];split
   ·rfl
   ·exact ih
  ·rename_i hc;simp only[fc,Bool.not_eq_false,List.contains_iff_mem]at hc;rw[ih];simp only[AA.get];rw[if_neg (fun e=>hk (by rw[e];simpa using hc))]
theorem AA.get_hide'(W:AJ)(l:Nat):∀(L:AA) (k:Nat),(l,k)∈W->(L.hide W l).get k=none
 |[],k,_=>rfl
 |(j,x)::L,k,hk=>by
  have ih:=AA.get_hide' W l L k hk;unfold AA.hide at ih|-;rw[List.filter_cons];split
  ·rename_i hc;simp only[AA.get];rw[if_neg (fun e=>by subst e;simp[hk]at hc)];exact ih
  ·exact ih
def St.hide(W:AJ)(s:St):St:=⟨s.up.mapIdx fun l L=>L.hide W l,s.loc.hide W s.up.length⟩
theorem St.get_hide{W:AJ}{l k:Nat}(h:(l,k)∉W):(s.hide W).get l k=s.get l k:=by
 unfold St.get St.hide;simp only[fx];split
 ·rename_i e;subst e;exact AA.get_hide W _ _ _ h
 ·rw[dp];cases s.up[l]? with
  |none=>rfl
  |some L=>exact AA.get_hide W _ _ _ h
theorem St.get_hide'{W:AJ}{l k:Nat}(h:(l,k)∈W):(s.hide W).get l k=none:=by
 unfold St.get St.hide;simp only[fx];split
 ·rename_i e;subst e;exact AA.get_hide' W _ _ _ h
 ·rw[dp];cases s.up[l]? with
  |none=>rfl
  |some L=>exact AA.get_hide' W _ _ _ h
theorem aB(W:AJ):WK W (s.hide W) s:=fun l k x e=>by
 by_cases h:(l,k)∈W
 ·rw[St.get_hide' h]at e;cases e
 ·exact⟨h,by rw[<-St.get_hide h];exact e⟩
def BO:Option V->AJ
 |some (.ptr l k _ _)=>[(l,k)]
 |some (.eptr l k _ _ _)=>[(l,k)]
 |some (.vec l k _ _)=>[(l,k)]
 |some (.mp l k _)=>[(l,k)]
 |_=>[]
def B8(one:Bool)(x:Option V):AJ:=match one,x with
 |true,some (.ptr l k _ off)=>[(l,k+IE),(l,k+GN),(l,E7 k off)]
 |true,some (.eptr l k _ _ off)=>[(l,k+IE),(l,k+GN),(l,E7 k off)]
 |_,x=>BO x
def DF(one:Bool)(x:Option V):AJ:=match one,x with
 |true,some (.ptr l k _ off)=>[(l,k),(l,E7 k off)]
 |true,some (.eptr l k _ _ off)=>[(l,k),(l,E7 k off)]
 |false,some (.ptr l k _ _)=>[(l,k),(l,k+GN)]
 |false,some (.eptr l k _ _ _)=>[(l,k),(l,k+GN)]
 |_,_=>[]
def ADX:Option V->Bool
 |some (.ptr ..)=>true
 |some (.eptr ..)=>true
 |_=>false
def I8:Option V->AJ
 |some (.vec l k _ _)=>[(l,k)]
 |some (.vtl l k _ _ _)=>[(l,k)]
 |some (.ptr l k _ _)=>[(l,k)]
 |_=>[]
def MV:Option V->AJ
 |some (.vec l k _ _)=>[(l,k+IE)]
 |_=>[]
def lZ(P:ft)(o:fp)(r:gk->Option V):Bool:=match o.op with
 |.load T x=>bz (P.cellsOf T) 1&&ADX (r x)
 |.indexAddr _ x _=>match r x with
  |some (.vec ..)=>true
  |_=>false
 |_=>false
def J5(r:gk->Option V):List gk->AJ
 |[_,y]=>I8 (r y)
 |_=>[]
def EC(P:ft)(o:fp)(r:gk->Option V):AJ:=match o.op with
 |.load T x=>B8 (bz (P.cellsOf T) 1) (r x)
 |.indexAddr _ x _=>MV (r x)
 |.slice _ x ..=>I8 (r x)
 |.lookup _ x ..=>BO (r x)
 |.call { callee:=.builtin .append,args,.. }=>J5 r args.toList
 |_=>[]
theorem gQ{W:AJ}{x:V}{es:List (List V)}(h:elemsOf s x=some es)(hr:∀p∈I8 (some x),p∉W):elemsOf (s.hide W) x=some es:=by
 cases x with
 |vec l k g n=>
  have hn:(l,k)∉W:=hr _ (by simp[I8])
  simp only[elemsOf,St.get_hide hn]at h|-
  exact h
 |vtl l k g i n=>
  have hn:(l,k)∉W:=hr _ (by simp[I8])
  simp only[elemsOf,St.get_hide hn]at h|-
  exact h
 |list b es=>exact h
 |nil=>exact h
 |raw v=>exact(WD _ _ v).trans h
 |_=>cases h
theorem ADY{W:AJ}{o:fp}{r:gk->Option V}{v:V}(h:JH P o s r=some v)(hi:lZ P o r=false)(hr:∀p∈EC P o r,p∉W):JH P o (s.hide W) r=some v:=by
 unfold JH at h|-;split at h;case h_4 T x ho=>
  obtain⟨p,h1,h2⟩:=bk.1 h
  obtain⟨cs,h3,h4⟩:=bk.1 h2
  have:A4 (s.hide W) p=some cs:=by
   cases p with
   |ptr l k g off=>
    have hb:bz (P.cellsOf T) 1=false:=by simpa [lZ,ho,h1,ADX]using hi
    have hn:(l,k)∉W:=hr _ (by simp[EC,ho,h1,B8,hb,BO])
    simp only[A4,St.get_hide hn]at h3|-;exact h3
   |eptr l k g i off=>
    have hb:bz (P.cellsOf T) 1=false:=by simpa [lZ,ho,h1,ADX]using hi
    have hn:(l,k)∉W:=hr _ (by simp[EC,ho,h1,B8,hb,BO])
    simp only[A4,St.get_hide hn]at h3|-;exact h3
   |_=>exact h3
  simp only[h1,bg,this,h4]
 case h_10 T x i ho=>
  obtain⟨p,h1,h2⟩:=bk.1 h
  obtain⟨q,h3,h4⟩:=bk.1 h2
  have:BK P (s.hide W) T p q=some v:=by
   unfold BK at h4|-;split at h4
   ·exact h4
   ·rename_i e l k g n k' j e1;simp[lZ,ho,h1]at hi
   ·exact h4
   ·exact h4
   ·exact h4
   ·cases h4
  simp only[h1,h3,bg,this]
 case h_16 T x lo hi mx ho=>
  obtain⟨p,h1,h2⟩:=bk.1 h
  obtain⟨q,h3,h4⟩:=bk.1 h2
  obtain⟨q',h5,h6⟩:=bk.1 h4
  obtain⟨q2,h7,h8⟩:=bk.1 h6
  have:C4 P (s.hide W) T p q q' q2=some v:=by
   unfold C4 at h8|-;split at h8;case h_6 e l k g n k' i e1=>
    have hn:(l,k)∉W:=hr _ (by simp[EC,ho,h1,I8])
    simp only[St.get_hide hn];exact h8
   case h_7 n e l k g o e1=>
    have hn:(l,k)∉W:=hr _ (by simp[EC,ho,h1,I8])
    simp only[St.get_hide hn];exact h8
   all_goals exact h8
  simp only[h1,h3,h5,h7,bg,this]
 case h_17 T x i ok ho=>
  obtain⟨p,h1,h2⟩:=bk.1 h
  obtain⟨q,h3,h4⟩:=bk.1 h2
  have:DK P (s.hide W) T p q ok=some v:=by
   unfold DK at h4|-;split at h4
   ·rename_i K E l k g e1;have hn:(l,k)∉W:=hr _ (by simp[EC,ho,h1,BO]);simp only[St.get_hide hn];exact h4
   ·cases h4
  simp only[h1,h3,bg,this]
 all_goals exact h
theorem yL{W:AJ}{o:fp}{v:V}(h:FE P g o fr s=some v)(hi:lZ P o (DQ g fr)=false)(hr:∀p∈EC P o (DQ g fr),p∉W):FE P g o fr (s.hide W)=some v:=by
 unfold FE at h|-;split at h
 ·exact h
 ·exact h
 ·exact h
 ·exact ADY h hi hr
def bR(δ:Nat)(W:AJ):AJ:=W.map fun p=>(p.1+δ,p.2)
theorem MW{W:AJ}{l k:Nat}:(l+δ,k)∈bR δ W↔(l,k)∈W:=by
 unfold bR;simp only[dk,fh.injEq,Prod.exists];constructor
 ·rintro ⟨a,b,h,h1,h2⟩;have:a=l:=by omega
  subst this;subst h2;exact h
 ·intro h;exact⟨l,k,h,rfl,rfl⟩
theorem WP(x:Option V):BO (x.map (V.ren σ δ))=bR δ (BO x):=by
 cases x with
 |none=>rfl
 |some v=>cases v<;>simp[BO,bR]
theorem Q2(x:Option V):I8 (x.map (V.ren σ δ))=bR δ (I8 x):=by
 cases x with
 |none=>rfl
 |some v=>cases v<;>simp[I8,bR]
theorem pV(x:Option V):MV (x.map (V.ren σ δ))=bR δ (MV x):=by
 cases x with
 |none=>rfl
 |some v=>cases v<;>simp[MV,bR]
theorem pW(b:Bool)(x:Option V):B8 b (x.map (V.ren σ δ))=bR δ (B8 b x):=by
 cases b with
 |false=>exact WP x
 |true=>
  cases x with
  |none=>rfl
  |some v=>cases v<;>simp[B8,BO,bR]
theorem AQL{W:AJ}{o:fp}{v:V}(h:FE P g o fr s=some v)(hi:lZ P o (DQ g fr)=true)(hr:∀p∈EC P o (DQ g fr),p∉W):cI P W g o fr s v:=by
 unfold lZ at hi;split at hi
 ·rename_i T x ho;rw[bx]at hi;have h1:=bj hi.1;unfold FE at h;simp only[ho,JH]at h;obtain⟨p,hx,h⟩:=bk.1 h;obtain⟨cs,hcs,hv⟩:=bk.1 h;have hp:=hi.2;rw[hx]at hp;cases p with
  |ptr l k γ off=>
   have hr':∀p∈[(l,k+IE),(l,k+GN),(l,E7 k off)],p∉W:=fun p hp=>hr p (by simp only[EC,ho,hx,hi.1,B8];exact hp)
   refine .inr ⟨T,x,_,cs,l,k,off,ho,hx,rfl,hcs,hv,by omega,hr' _ (by simp),hr' _ (by simp),fun c hc=>?_⟩
   obtain rfl:c=0:=by omega
   exact hr' _ (by simp)
  |eptr l k γ i off=>
   have hr':∀p∈[(l,k+IE),(l,k+GN),(l,E7 k off)],p∉W:=fun p hp=>hr p (by simp only[EC,ho,hx,hi.1,B8];exact hp)
   refine .inr ⟨T,x,_,cs,l,k,off,ho,hx,rfl,hcs,hv,by omega,hr' _ (by simp),hr' _ (by simp),fun c hc=>?_⟩
   obtain rfl:c=0:=by omega
   exact hr' _ (by simp)
  |_=>cases hp
 ·rename_i T x i ho;split at hi
  ·rename_i l k γ n hx;unfold FE at h;simp only[ho,JH,hx,bg]at h;obtain⟨iv,hiv,h⟩:=bk.1 h;unfold BK at h;split at h
   ·rename_i e1 e2;cases e2
   ·rename_i e l' k' γ' n' ki j e1 e2;cases e2;split at h
    ·rename_i γ2 T' es hget;split at h
     ·rename_i hc;obtain⟨rfl,hc⟩:=hc;exact .inl ⟨T,x,i,e,_,_,_,_,ki,j,T',es,ho,hx,hiv,e1,hr _ (by simp[EC,ho,hx,MV]),hget,hc,(cw.inj h).symm⟩
     ·cases h
    ·cases h
   ·rename_i e1 e2;cases e2
   ·rename_i e1 e2;cases e2
   ·rename_i e1 e2;cases e2
   ·cases h
  ·cases hi
 ·cases hi
theorem pX{r:gk->Option V}(l:List gk):J5 (fun x=>(r x).map (V.ren σ δ)) l=bR δ (J5 r l):=by
 unfold J5;split
 ·exact Q2 _
 ·rfl
theorem pY{o:fp}{r:gk->Option V}:EC P o (fun x=>(r x).map (V.ren σ δ))=bR δ (EC P o r):=by
 unfold EC;split
 ·exact pW _ _
 ·exact pV _
 ·exact Q2 _
 ·exact WP _
 ·exact pX _
 ·rfl
theorem mA{W rd:AJ}(h:∀p∈rd,p∉W):∀p∈bR δ rd,p∉bR δ W:=by intro p hp;unfold bR at hp;obtain⟨⟨l,k⟩,hq,rfl⟩:=dk.1 hp;exact fun hc=>h _ hq (MW.1 hc)
end Go.Pg
namespace Go.Pg
variable {P:ft}{σ σ':Nat->Nat}{δ:Nat}{pre:List AA}{s:St}{fr:Fr}{g:Bool}
def rdC(fr:Fr)(x:gk):Option (Bool×V):=match x with
 |.tmp t=>BL fr t
 |.const v=>match CN v with
  |some x=>some (true,x)
  |none=>none
 |.func f=>some (true,.fn f [] [])
 |.global _=>none
theorem AQM(x:gk):rdC fr x=rd fr x:=by
 cases x with
 |tmp t=>exact GH fr t
 |const v=>simp only[rdC,rd];cases CN v<;>rfl
 |func f=>rfl
 |global g=>rfl
def uF(fr:Fr)(c a b:gk):Option V:=match CK fr c,rdC fr a,rdC fr b with
 |some (.bool c),some (ca,.bool a),some (cb,.bool b)=>Bool.rec (Bool.rec none (some (.bool b)) cb) (Bool.rec none (some (.bool a)) ca) c
 |_,_,_=>none
def NB(P:ft)(fr:Fr)(s:St)(T:gq)(x:gk):Option V:=match CK fr x with
 |some p=>match A4 s p with
  |some cs=>BF P T cs
  |none=>none
 |none=>none
def xFA(P:ft)(fr:Fr)(T:gq)(x:gk)(f:Nat):Option V:=match CK fr x with
 |some p=>C5 P T p f
 |none=>none
def yM(P:ft)(fr:Fr)(op:BinOp)(T:gq)(x y:gk):Option V:=match CK fr x,CK fr y with
 |some a,some b=>HC P op T a b
 |_,_=>none
def VD(P:ft)(fr:Fr)(T:gq)(ps:List (Nat×gk)):Option V:=match C9 (CK fr) ps with
 |some l=>CT P T l
 |none=>none
def PF(P:ft)(fr:Fr)(T:gq)(n:Nat)(ps:List (Nat×gk)):Option V:=match C9 (CK fr) ps with
 |some l=>CD P T n l
 |none=>none
def AJR(P:ft)(o:fp)(fr:Fr)(s:St):Option V:=match o.op with
 |.move x=>CK fr x
 |.assign x=>CK fr x
 |.load T x=>NB P fr s T x
 |.fieldAddr T x f=>xFA P fr T x f
 |.binOp op T x y _=>yM P fr op T x y
 |.pick c a b=>uF fr c a b
 |.build T ps=>VD P fr T ps.toList
 |.buildSlice T n ps=>PF P fr T n ps.toList
 |_=>JH P o s (CK fr)
theorem PG{o:fp}{v:V}(h:AJR P o fr s=some v):FE P true o fr s=some v:=by
 unfold AJR at h;unfold FE;split at h<;>rename_i ho
 ·simp only[ho,JH,<-E8];exact h
 ·simp only[ho,JH,<-E8];exact h
 ·unfold NB at h;split at h
  ·rename_i p e1;split at h
   ·rename_i cs e2;simp only[ho,JH,<-E8,e1,e2,bg];exact h
   ·cases h
  ·cases h
 ·unfold xFA at h;split at h
  ·rename_i p e1;simp only[ho,JH,<-E8,e1,bg];exact h
  ·cases h
 ·unfold yM at h;split at h
  ·rename_i a b e1 e2;simp only[ho,JH,<-E8,e1,e2,bg];exact h
  ·cases h
 ·unfold uF at h;simp only[AQM]at h;split at h
  ·rename_i c ca a cb b e1 e2 e3;rw[DY]at e1;simp only[ho,e1,e2,e3];cases c with
   |true=>
    cases ca with
    |false=>cases h
    |true=>cases h;simp
   |false=>
    cases cb with
    |false=>cases h
    |true=>cases h;simp
  ·cases h
 ·unfold VD at h;split at h
  ·rename_i l e1;simp only[ho,<-E8,e1,bg];exact h
  ·cases h
 ·unfold PF at h;split at h
  ·rename_i l e1;simp only[ho,<-E8,e1,bg];exact h
  ·cases h
 ·rw[E8]at h;split
  ·rename_i ho';rw[JH,ho']at h;cases h
  ·rename_i ho';rw[JH,ho']at h;cases h
  ·rename_i ho';rw[JH,ho']at h;cases h
  ·exact h
theorem JO{α:Type}{b:Bool}{x y:α}(h:(Bool.rec none (some x) b:Option α)=some y):b=true/\x=y:=by
 cases b with
 |false=>cases h
 |true=>exact⟨rfl,cw.inj h⟩
theorem EH{α:Type}{b:Bool}{x:Option α}{y:α}(h:(Bool.rec none x b:Option α)=some y):b=true/\x=some y:=by
 cases b with
 |false=>cases h
 |true=>exact⟨rfl,h⟩
theorem TN{st:XS}(h:Bd st){v:V}{ys:List (List V)}(hv:UH st.c v)(he:elemsOf st.s v=some ys)(σ σ':Nat->Nat)(δ:Nat)(ha:AO st.c σ σ'):ys.map (cj (V.ren σ δ))=ys.map (cj (V.ren σ' δ)):=by have h1:=GY (σ:=σ) (pre:=bw δ []) he;have h2:=GY (σ:=σ') (pre:=bw δ []) he;rw[h.s σ σ' _ ha,hv σ σ' _ ha,h2]at h1;have:=cw.inj h1;rw[bb]at this;exact this.symm
theorem FH(ys:List (List V))(m:Nat):(ys.map (cj (V.ren σ δ))).all (fun y=>y.length==m)=ys.all (fun y=>y.length==m):=by rw[fw];congr 1;funext y;simp
def mB(P:ft)(d:Tmp)(e:gq)(ys:List (List V))(st:XS)(xv:V):Option (XS×Nat×Nat):=match xv with
 |.vec l q γ n=>match S6 n ys (st.s.get l q)with
  |some (γ',.vec W es)=>Bool.rec none (some (⟨st.c+1,(d,true,.vec l q st.c (es++ys).length)::st.fr,st.s.put l q st.c (.vec e (es++ys))⟩,l,q))
    (bz γ' γ&&bz W e&&bz n es.length&&es.all (fun y=>y.length==P.cellsOf e)&&B0 P e es.length ys)
  |_=>none
 |_=>none
def xAppG(el:St->V->Option (List (List V)))(P:ft)(d:Option Tmp)(args:List gk)(Ts:List gq)(st:XS):Option (XS×Nat×Nat):=match args,Ts,d with
 | [x,y],[T,U],some d=>Bool.rec none (match BQ P T with
  |some (none,e)=>match CK st.fr x,CK st.fr y with
   |some xv,some yv=>match el st.s yv with
    |some ys=>match H7 xv ys with
     |some es=>Bool.rec none (some (⟨st.c+1,(d,true,.vec st.s.up.length d st.c (es++ys).length)::st.fr,st.s.put st.s.up.length d st.c (.vec e (es++ys))⟩,st.s.up.length,d)) (es.all (fun y=>y.length==P.cellsOf e)&&B0 P e es.length ys)
     |none=>mB P d e ys st xv
    |none=>none
   |_,_=>none
  | _=>none) (bz T U)
 |_,_,_=>none
theorem ADZ(v:V):WZ (v.ren σ δ)=WZ v:=by
 cases v with
 |list f es=>cases f<;>cases es<;>simp[WZ]
 |_=>simp[WZ]
theorem mC(v:V)(ys:List (List V)):H7 (v.ren σ δ) (ys.map (cj (V.ren σ δ)))=(H7 v ys).map (cj (cj (V.ren σ δ))):=by
 cases v with
 |list f es=>cases f<;>cases es<;>cases ys<;>simp[H7]
 |_=>simp[H7]
theorem pZ{v:V}{es ys:List (List V)}(h:H7 v ys=some es):elemsOf s v=some es:=by unfold H7 at h;split at h<;>cases h<;>rfl
theorem eB{e:gq}{n:Nat}(ys:List (List V)):B0 P e n (ys.map (cj (V.ren σ δ)))=B0 P e n ys:=by unfold B0;rw[FH,bp]
theorem AD0{n:Nat}(ys es:List (List V)):ZC n (ys.map (cj (V.ren σ δ))) (es.map (cj (V.ren σ δ)))=(ZC n ys es).map (cj (V.ren σ δ)):=by
 cases ys with
 |nil=>rfl
 |cons y ys=>
  show(if _ then _ else _)=(if _ then _ else _:List (List V)).map _
  have e:(es.map (cj (V.ren σ δ))).all (fun x=>x.length==(y.map (V.ren σ δ)).length)=es.all (fun x=>x.length==y.length):=by rw[fw,bp];congr 1;funext x;simp
  rw[e]
  split
  ·rw[ck]
  ·rfl
theorem mD{n γ:Nat}{ys es:List (List V)}{U:gq}{o:Option (Nat×AV)}(h:S6 n ys o=some (γ,.vec U es)):S6 n (ys.map (cj (V.ren σ δ))) (o.map fun p=>(σ p.1,p.2.ren σ δ))=some (σ γ,.vec U (es.map (cj (V.ren σ δ)))):=by obtain⟨es0,rfl,rfl⟩:=O8 h;show some (σ γ,AV.vec U (ZC n _ _))=_;rw[AD0]
theorem aC{el:St->V->Option (List (List V))}(hel0:∀s v es,el s v=some es->elemsOf s v=some es){o:fp}{args:Array gk}{Ts:Array gq}{st st':XS}{l q:Nat}(h:Bd st)(ho:o.op=.call { callee:=.builtin .append,args:=args,argTypes:=Ts })
  (hx:xAppG el P o.dst args.toList Ts.toList st=some (st',l,q)):∃d r,o.dst=some d/\bQ r=true/\st'=⟨st.c+1,(d,true,HF r l q st.c)::st.fr,st.s.put l q st.c r⟩/\(∀σ σ' δ,AO st.c σ σ'->r.ren σ δ=r.ren σ' δ) /\
   (∀(σ:Nat->Nat) (pre:List AA) (k:Fr->St->Prop),(∀γ,k ((st.fr.ren σ pre.length).put d true (HF (r.ren σ pre.length) (l+pre.length) q γ)) ((st.s.emb σ pre).put (l+pre.length) q γ (r.ren σ pre.length)))->EF P true o (st.fr.ren σ pre.length) (st.s.emb σ pre) k) /\
   (∀(W:AJ) (σ:Nat->Nat) (pre:List AA),(∀p∈J5 (CK st.fr) args.toList,p∉W)->W1 P o (st.fr.ren σ pre.length) ((st.s.emb σ pre).hide (bR pre.length W)) (st.s.emb σ pre)=some (l+pre.length,q,r.ren σ pre.length)):=by
 unfold xAppG at hx
 split at hx
 ·rename_i x y T U d ha hT hd;obtain⟨hTU,hx2⟩:=EH hx;clear hx;have hTU:=bj hTU;subst hTU;have hx:=hx2;clear hx2;split at hx
  ·rename_i e hel;split at hx
   ·rename_i xv yv h1 h2;split at hx
    ·rename_i ys hys0;have hys:=hel0 _ _ _ hys0;have hyb:=TN h (h.rd h2) hys;have r1:=h1;have r2:=h2;rw[DY]at r1 r2;have hys2:∀(W:AJ) (σ:Nat->Nat) (pre:List AA),(∀p∈J5 (CK st.fr) args.toList,p∉W)->elemsOf ((st.s.emb σ pre).hide (bR pre.length W)) (yv.ren σ pre.length)=some (ys.map (cj (V.ren σ pre.length))):=fun W σ pre hW=>by refine gQ (GY hys) ?_;rw[ha]at hW;simp only[J5,h2]at hW;have:=mA (δ:=pre.length) hW;rw[<-Q2 (σ:=σ)]at this;exact this
     cases hn:H7 xv ys with
     |some es=>
      rw[hn]at hx
      obtain⟨hc,he⟩:=JO hx
      simp only[fh.injEq]at he
      obtain⟨rfl,rfl,rfl⟩:=he
      simp only[bx]at hc
      obtain⟨hce,hc⟩:=hc
      have heb:=TN h (h.rd h1) (pZ hn)
      refine⟨d,.vec e (es++ys),hd,rfl,rfl,fun σ σ' δ hag=>by simp only[AV.ren,bc,hyb σ σ' δ hag,heb σ σ' δ hag],fun σ pre k hk=>?_,fun W σ pre hW=>?_⟩
      ·have hc':=hc;simp only[B0,bx,cd,cz]at hc;obtain⟨⟨⟨⟨c1,c2⟩,c3⟩,c4⟩,c5⟩:=hc;unfold EF;simp only[ho,ha,hT,hd,hel,DI,r1,r2,bq,bg,GY hys,mC,hn,true_and];refine⟨c1,c2,by rw[FH];exact hce,by rw[FH];exact c3,by simpa using c4,by simpa using c5,fun γ=>?_⟩;have:=hk γ;simp only[HF,AV.ren]at this;rw[DB,<-bc];exact this
      ·unfold W1;simp only[ho,ha,hT,hd,hel,DI,r1,r2,bq,bg,hys2 _ _ _ hW,mC,hn,if_true,DB,AV.ren];rw[if_pos ⟨by rw[FH];exact hce,by rw[eB,bp];exact hc⟩,bc]
     |none=>
      rw[hn]at hx
      replace hx:mB P d e ys st xv=some (st',l,q):=hx
      unfold mB at hx
      split at hx
      ·rename_i l0 q0 γ0 n';split at hx
       ·rename_i γ' W es hg;obtain⟨hc,he⟩:=JO hx;simp only[fh.injEq]at he;obtain⟨rfl,rfl,rfl⟩:=he;simp only[bx]at hc;obtain⟨⟨⟨⟨c1,c2⟩,c3⟩,c6⟩,c7⟩:=hc;have c1:=bj c1;have c2:=bj c2;have c3:=bj c3;subst c1;subst c2;subst c3;have heb:∀σ σ' δ,AO st.c σ σ'->es.map (cj (V.ren σ δ))=es.map (cj (V.ren σ' δ)):=fun σ σ' δ ha=>by
         obtain⟨es0,hg0,e0⟩:=O8 hg;have:=MU h hg0 σ σ' δ ha;have e1:es0.map (cj (V.ren σ δ))=es0.map (cj (V.ren σ' δ)):=by simpa [AV.ren]using this
         rcases UW es.length ys es0 with e2|⟨e2,_⟩
         ·rw[e0,e2,e1]
         ·rw[e0,e2,ck,ck,e1]
        refine⟨d,.vec W (es++ys),hd,rfl,rfl,fun σ σ' δ hag=>by simp only[AV.ren,bc,hyb σ σ' δ hag,heb σ σ' δ hag],fun σ pre k hk=>?_,fun W σ pre hW=>?_⟩
        ·simp only[B0,bx,cd,cz]at c7;obtain⟨⟨⟨⟨d1,d2⟩,d3⟩,d4⟩,d5⟩:=c7;have hnn:H7 (V.vec (l0+pre.length) q0 (σ γ') es.length) (ys.map (cj (V.ren σ pre.length)))=none:=rfl;unfold EF;simp only[ho,ha,hT,hd,hel,DI,r1,r2,bq,bg,GY hys,HL,B5,mD hg,true_and,hnn];refine⟨by simp,d1,d2,by rw[FH];exact c6,by rw[FH];exact d3,by simpa using d4,by simpa using d5,fun γ=>?_⟩;have:=hk γ;simp only[HF,AV.ren,bc,cg,bp]at this|-;exact this
        ·have hnn:H7 (V.vec (l0+pre.length) q0 (σ γ') es.length) (ys.map (cj (V.ren σ pre.length)))=none:=rfl;unfold W1;simp only[ho,ha,hT,hd,hel,DI,r1,r2,bq,bg,hys2 _ _ _ hW,HL,B5,mD hg,hnn,if_true];rw[if_pos ⟨trivial,trivial,by simp,by rw[FH];exact c6,by rw[eB,bp];exact c7⟩];simp only[AV.ren,bc]
       ·cases hx
      ·cases hx
    ·cases hx
   ·cases hx
  ·cases hx
 ·cases hx
theorem aD{st:XS}(h:Bd st){d l q:Nat}{r:AV}(hp:bQ r=true)(hr:∀σ σ' δ,AO st.c σ σ'->r.ren σ δ=r.ren σ' δ):KI st ⟨st.c+1,(d,true,HF r l q st.c)::st.fr,st.s.put l q st.c r⟩:=by
 have hb:∀σ σ',AO (st.c+1) σ σ'->AO st.c σ σ':=fun σ σ' ha=>ha.mono (cq _);refine⟨cq _,⟨fun σ σ' δ ha=>?_,fun σ σ' pre ha=>?_,h.lp.put (VC hp)⟩,St.put_len _ _ _ _ _⟩
 ·show((st.fr.put d true (HF r l q st.c)).ren σ δ)=((st.fr.put d true (HF r l q st.c)).ren σ' δ);have e:∀σ:Nat->Nat,(HF r l q st.c).ren σ δ=HF (r.ren σ δ) (l+δ) q (σ st.c):=fun σ=>by cases r<;>simp[HF,AV.ren]
  simp only[HM,e];rw[h.f σ σ' δ (hb _ _ ha),ha st.c (bm _),hr σ σ' δ (hb _ _ ha)]
 ·simp only[CQ];rw[h.s σ σ' pre (hb _ _ ha),hr σ σ' _ (hb _ _ ha),ha st.c (bm _)]
theorem mE(r:AV)(l q γ:Nat):(HF r l q γ).ren σ δ=HF (r.ren σ δ) (l+δ) q (σ γ):=by cases r<;>simp[HF,AV.ren]
theorem qD{st:XS}(h:Bd st){d l q:Nat}{r:AV}(hr:∀σ σ' δ,AO st.c σ σ'->r.ren σ δ=r.ren σ' δ){σ:Nat->Nat}{pre:List AA}{k:Fr->St->Prop}
  (hk:∀σ',AO st.c σ σ'->k (Fr.ren σ' pre.length ((d,true,HF r l q st.c)::st.fr)) ((st.s.put l q st.c r).emb σ' pre)) (γ:Nat):k ((st.fr.ren σ pre.length).put d true (HF (r.ren σ pre.length) (l+pre.length) q γ)) ((st.s.emb σ pre).put (l+pre.length) q γ (r.ren σ pre.length)):=by
 have:=hk (fun i=>if i=st.c then γ else σ i) (AO.upd _ _ _)
 have hag:=AO.upd st.c γ σ
 change k ((st.fr.put d true _).ren _ _) _ at this
 simp only[HM,mE,if_true,CQ]at this
 rw[<-h.f _ _ _ hag,<-h.s _ _ _ hag,<-hr _ _ _ hag]at this
 exact this
theorem uG(r:Mk)(l k γ:Nat):(r.val l k γ).ren σ δ=Mk.val ⟨r.res.ren σ δ,r.t⟩ (l+δ) k (σ γ):=by
 obtain⟨r,t⟩:=r;cases t with
 |none=>exact mE _ _ _ _
 |some t=>exact MQ t
theorem yN{st:XS}(h:Bd st){d l q:Nat}{r:Mk}(hp:bQ r.res=true)(hr:∀σ σ' δ,AO st.c σ σ'->r.res.ren σ δ=r.res.ren σ' δ):KI st ⟨st.c+1,(d,true,r.val l q st.c)::st.fr,st.s.put l q st.c r.res⟩:=by
 have hb:∀σ σ',AO (st.c+1) σ σ'->AO st.c σ σ':=fun σ σ' ha=>ha.mono (cq _);refine⟨cq _,⟨fun σ σ' δ ha=>?_,fun σ σ' pre ha=>?_,h.lp.put (VC hp)⟩,St.put_len _ _ _ _ _⟩
 ·show((st.fr.put d true (r.val l q st.c)).ren σ δ)=((st.fr.put d true (r.val l q st.c)).ren σ' δ);simp only[HM,uG];rw[h.f σ σ' δ (hb _ _ ha),ha st.c (bm _),hr σ σ' δ (hb _ _ ha)]
 ·simp only[CQ];rw[h.s σ σ' pre (hb _ _ ha),hr σ σ' _ (hb _ _ ha),ha st.c (bm _)]
theorem AJS{st:XS}(h:Bd st){d l q:Nat}{r:Mk}(hr:∀σ δ,r.res.ren σ δ=r.res){σ:Nat->Nat}{pre:List AA}{k:Fr->St->Prop}
  (hk:∀σ',AO st.c σ σ'->k (Fr.ren σ' pre.length ((d,true,r.val l q st.c)::st.fr)) ((st.s.put l q st.c r.res).emb σ' pre)) (γ:Nat):k ((st.fr.ren σ pre.length).put d true (r.val (l+pre.length) q γ)) ((st.s.emb σ pre).put (l+pre.length) q γ r.res):=by
 have:=hk (fun i=>if i=st.c then γ else σ i) (AO.upd _ _ _)
 have hag:=AO.upd st.c γ σ
 change k ((st.fr.put d true _).ren _ _) _ at this
 simp only[HM,uG,if_true,CQ,hr]at this
 rw[<-h.f _ _ _ hag,<-h.s _ _ _ hag]at this
 exact this
def xAppend(P:ft)(d:Option Tmp)(args:List gk)(Ts:List gq)(st:XS):Option XS:=match xAppG elemsOf P d args Ts st with
 |some (st',_,_)=>some st'
 |none=>none
theorem qE{o:fp}{args:Array gk}{Ts:Array gq}{st st':XS}(h:Bd st)(ho:o.op=.call { callee:=.builtin .append,args:=args,argTypes:=Ts })(hx:xAppend P o.dst args.toList Ts.toList st=some st'):StepX P o st st':=by
 unfold xAppend at hx;split at hx
 ·rename_i st1 l q e1;cases hx;obtain⟨d,r,hd,hp,rfl,hr,hs,_⟩:=aC (fun _ _ _ h=>h) h ho e1;exact⟨aD h hp hr,fun σ pre k hk=>hs σ pre k fun γ=>qD h hr hk γ⟩
 ·cases hx
def uH(P:ft)(d:Option Tmp)(args:List gk)(Ts:List gq)(st:XS):Option XS:=match args,Ts with
 |[x,y],[T,_]=>match BQ P T,CK st.fr x,CK st.fr y with
  |some (none,e),some (.vtl l q γ i n),some yv=>match st.s.get l q,elemsOf st.s yv with
   |some (γ',.box cs),some ys=>Bool.rec none (some { st with fr:=putD st.fr d true (.int .i64 ((min ys.length n:Nat):Int)),s:=st.s.put l q γ (.box (AZ cs i (ys.take n).flatten)) }) (bz γ' γ&&bz (P.cellsOf e) 1&&ys.all (fun y=>y.length==1)&&dn (i+n) cs.length&&cx γ st.c)
   |_,_=>none
  |_,_,_=>none
 |_,_=>none
theorem AD1{o:fp}{args:Array gk}{Ts:Array gq}{st st':XS}(h:Bd st)(ho:o.op=.call { callee:=.builtin .copy,args:=args,argTypes:=Ts })(hx:uH P o.dst args.toList Ts.toList st=some st'):StepX P o st st':=by
 unfold uH at hx;split at hx
 ·rename_i x y T U ha hT;split at hx
  ·rename_i e l q γ i n yv hel h1 h2;split at hx
   ·rename_i γ' cs ys hg hys;cases hb:(bz γ' γ&&bz (P.cellsOf e) 1&&ys.all (fun y=>y.length==1)&&dn (i+n) cs.length&&cx γ st.c)with
    |false=>rw[hb]at hx;cases hx
    |true=>
     rw[hb]at hx
     cases hx
     simp only[bx,cd,cz]at hb
     obtain⟨⟨⟨⟨c1,c2⟩,c3⟩,c4⟩,c5⟩:=hb
     have c1:=bj c1
     have c2:=bj c2
     subst c1
     have hB:Bd { st with s:=st.s.put l q γ' (.box (AZ cs i (ys.take n).flatten)) }:=h.putS c5 fun σ σ' δ ha=>by have hr:=MU h hg σ σ' δ ha;have he:=TN h (h.rd h2) hys σ σ' δ ha;simp only[AV.ren,AV.box.injEq]at hr|-;rw[<-C7,<-C7,hr,dc,dc,ck,ck,he]
     refine⟨⟨bn _,hB.putF (fun _ _ _ _=>rfl),St.put_len _ _ _ _ _⟩,fun σ pre k hk=>?_⟩
     have:=hk σ (AO.refl _ _)
     rw[DY]at h1 h2
     unfold EF
     simp only[ho,ha,hT,hel,DI,h1,h2,bq,XL,bg,GY hys,B5,hg,AV.ren]
     refine⟨trivial,trivial,c2,?_,by simpa using c4,?_⟩
     ·rw[fw];exact c3▸(by congr 1;funext x;simp)
     ·simp only[FG,EG,CQ,AV.ren,<-C7,dc,ck]at this;simpa only[bp]using this
   ·cases hx
  ·cases hx
 ·cases hx
end Go.Pg
namespace Go.Pg
variable {P:ft}{Ω:HG P}{σ σ':Nat->Nat}{δ:Nat}{pre:List AA}{s:St}{fr:Fr}{g:Bool}
def FQ{α β:Type}(f:α->Option β):List α->Option (List β)
 |[]=>some []
 |x::l=>match f x with
  |some y=>match FQ f l with
   |some r=>some (y::r)
   |none=>none
  |none=>none
theorem KT{α β:Type}(f:α->Option β):∀(l:List α),FQ f l=l.mapM f
 |[]=>rfl
 |x::l=>by
  simp only[FQ,List.mapM_cons,<-KT f l];cases f x with
  |none=>rfl
  |some y=>cases FQ f l<;>rfl
abbrev CF:=gv->List V->XS->Option (V×XS)
abbrev CY:=Nat->Nat->Nat->List V->XS->Option (V×XS)
abbrev CF0:=gv->List V->Option V
abbrev CFO:=gv->List V->Tmp->Option Mk
structure XE where
 cf:CF
 cy:CY
 c0:CF0
 co:CFO
 lit:Tmp->Bool
def eC(P:ft)(cf:CF):Prop:=∀f args st r st',cf f args st=some (r,st')->Bd st->(∀v∈args,UH st.c v)->KI st st'/\UH st'.c r/\st'.fr=st.fr /\
 ∀(σ:Nat->Nat) (pre:List AA) (K:V->St->Prop),(∀σ',AO st.c σ σ'->K (r.ren σ' pre.length) (st'.s.emb σ' pre))->E3 P f (args.map (V.ren σ pre.length)) (st.s.emb σ pre) K
def AQO(P:ft)(cy:CY):Prop:=∀l q γ vs st r st',cy l q γ vs st=some (r,st')->Bd st->(∀v∈vs,UH st.c v)->KI st st'/\UH st'.c r/\st'.fr=st.fr /\
 ∃fr0 ps asg body N,st.s.get l q=some (γ,.loop fr0 ps asg body N .ready)/\∀(σ:Nat->Nat) (pre:List AA) (k:V->St->Prop),(∀σ',AO st.c σ σ'->k (r.ren σ' pre.length) (st'.s.emb σ' pre)) ->
  ZB P (l+pre.length) q (σ γ) (Fr.ren σ pre.length fr0) ps asg body N (vs.map (V.ren σ pre.length)) (st.s.emb σ pre) k
def HN(P:ft)(cf:CF0):Prop:=∀f args r,cf f args=some r->(∀s,E3 P f args s fun r' s'=>r'=r/\s'=s)/\(∀v∈args,∀σ δ,v.ren σ δ=v)/\(∀σ δ,r.ren σ δ=r)
def qF(P:ft)(co:CFO):Prop:=∀f args d r,co f args d=some r->(∀(s:St),E3 P f args s fun v s'=>∃γ,v=r.val s.up.length d γ/\s'=s.put s.up.length d γ r.res) /\
 (∀v∈args,∀σ δ,v.ren σ δ=v)/\(∀σ δ,r.res.ren σ δ=r.res)/\bQ r.res=true
structure J6(P:ft)(E:XE):Prop where
 cf:eC P E.cf
 cy:AQO P E.cy
 c0:HN P E.c0
 co:qF P E.co
def J6.tab{E:XE}(h:J6 P E)(own:fp->Bool):HG P:=⟨own,E.co,fun f args d r hc=>(h.co f args d r hc).1⟩
def qH(cy:CY)(d:Option Tmp)(l q γ:Nat)(args:List gk)(st:XS):Option XS:=match FQ (CK st.fr) args with
 |some vs=>match cy l q γ vs st with
  |some (r,st')=>some { st' with fr:=putD st'.fr d true r }
  |none=>none
 |none=>none
def TO(cf:CF)(cy:CY)(d:Option Tmp)(f:gk)(args:List gk)(st:XS):Option XS:=match CK st.fr f with
 |some (.fn fid first cap)=>match FQ (CK st.fr) args with
  |some vs=>match cf fid ((first++vs++cap).map weakV) st with
   |some (r,st')=>some { st' with fr:=putD st'.fr d true r }
   |none=>none
  |none=>none
 |some (.yld l q γ)=>qH cy d l q γ args st
 |_=>none
def I9(co:CFO)(d:Option Tmp)(f:gk)(args:List gk)(st:XS):Option XS:=match d,CK st.fr f with
 |some d,some (.fn fid first cap)=>match FQ (CK st.fr) args with
  |some vs=>match co fid ((first++vs++cap).map weakV) d with
   |some r=>some ⟨st.c+1,(d,true,r.val st.s.up.length d st.c)::st.fr,st.s.put st.s.up.length d st.c r.res⟩
   |none=>none
  |none=>none
 |_,_=>none
def cL(P:ft)(o:fp)(st:XS):Option XS:=match AJR P o st.fr st.s with
 |some v=>some { st with fr:=putD st.fr o.dst true v }
 |none=>none
def mF(E:XE)(own:Bool)(d:Option Tmp)(f:gk)(args:List gk)(st:XS):Option XS:=Bool.rec (TO E.cf E.cy d f args st) (match I9 E.co d f args st with
 |some st'=>some st'
 | none=>TO E.cf E.cy d f args st) own
def A1P(P:ft)(E:XE)(own:fp->Bool)(o:fp)(c:Call)(st:XS):Option XS:=match c.callee with
 |.value f=>mF E (own o) o.dst f c.args.toList st
 |.builtin .append=>xAppend P o.dst c.args.toList c.argTypes.toList st
 |.builtin .clear=>gP P o.dst c.args.toList c.argTypes.toList st
 |.builtin .copy=>uH P o.dst c.args.toList c.argTypes.toList st
 |_=>cL P o st
def QB(P:ft)(E:XE)(own:fp->Bool)(o:fp)(st:XS):Option XS:=match o.op with
 |.alloc T=>OM P o.dst T st
 |.box _ x=>lX o.dst x st
 |.makeMap _ r=>yI o.dst r st
 |.makeSlice T x y=>WO P o.dst T x y st
 |.store T x y=>I7 P o.dst T x y st
 |.mapUpdate T x i y=>yJ P o.dst T x i y st
 |.call c=>A1P P E own o c st
 |_=>cL P o st
theorem uI{o:fp}{st st':XS}(h:Bd st)(hx:cL P o st=some st'):StepX P o st st':=by
 unfold cL at hx;split at hx
 ·rename_i v hv;cases hx;exact yH h (PG hv)
 ·cases hx
theorem XM{st:XS}(h:Bd st):∀{args:List gk} {vs:List V},FQ (CK st.fr) args=some vs->∀v∈vs,UH st.c v
 |[],vs,e,v,hv=>by cases e;cases hv
 |x::l,vs,e,v,hv=>by
  simp only[FQ]at e;split at e
  ·rename_i y hy;split at e
   ·rename_i r hr;cases e;rcases List.mem_cons.1 hv with rfl|hv
    ·exact h.rd hy
    ·exact XM h hr v hv
   ·cases e
  ·cases e
theorem gR{c:Nat}{v:V}(h:UH c v):UH c (weakV v):=fun σ σ' δ ha=>by rw[<-U7,<-U7,h σ σ' δ ha]
theorem AD2{c:Nat}{f:gv}{xs ys:List V}(h:UH c (.fn f xs ys)):(∀v∈xs,UH c v)/\(∀v∈ys,UH c v):=by
 refine⟨fun v hv σ σ' δ ha=>?_,fun v hv σ σ' δ ha=>?_⟩
 ·have:=h σ σ' δ ha;simp only[OJ,V.fn.injEq]at this;exact cm.1 this.2.1 v hv
 ·have:=h σ σ' δ ha;simp only[OJ,V.fn.injEq]at this;exact cm.1 this.2.2 v hv
theorem HO(l:List V):(l.map weakV).map (V.ren σ δ)=(l.map (V.ren σ δ)).map weakV:=by simp only[fg];congr 1;funext v;exact(U7 v).symm
theorem eD{E:XE}(hE:J6 P E){own:fp->Bool}{o:fp}(hown:own o=true){f:gk}{args:Array gk}{Ts:Array gq}{st st':XS}(h:Bd st)(ho:o.op=.call { callee:=.value f,args:=args,argTypes:=Ts })(hx:I9 E.co o.dst f args.toList st=some st'):gO P (hE.tab own) o st st':=by
 unfold I9 at hx;split at hx
 ·rename_i d fid first cap hd hf;split at hx
  ·rename_i vs hvs;split at hx
   ·rename_i r hc;cases hx;obtain⟨_,hcl,hr,hpl⟩:=hE.co _ _ _ _ hc;refine⟨yN h hpl (fun σ σ' δ _=>by rw[hr,hr]),d,hd,fun σ pre k hk=>⟨r,?_,fun γ=>?_⟩⟩
    ·have hcd:IW true o (st.fr.ren σ pre.length)=some (fid,(first++vs++cap).map weakV):=by
      rw[KT,E8]at hvs;rw[DY]at hf;simp only[IW,ho,JJ,hf,bq,OJ,IX hvs,cw.injEq,fh.injEq,true_and];have e:((first++vs++cap).map weakV).map (V.ren σ pre.length)=(first++vs++cap).map weakV:=by
       conv=>rhs;rw[<-cn ((first++vs++cap).map weakV)]
       exact bf fun v hv=>hcl v hv σ _
      rw[HO]at e;simpa only[bc]using e
     simp only[P1,ho,J6.tab,hown,if_true,hcd,hd,hc]
    ·have:=AJS h (d:=d) hr hk γ;rw[<-DB]at this;exact this
   ·cases hx
  ·cases hx
 ·cases hx
theorem mG{cf:CF}{cy:CY}(hcf:eC P cf)(hcy:AQO P cy){o:fp}{f:gk}{args:Array gk}{Ts:Array gq}{st st':XS}(h:Bd st)(ho:o.op=.call { callee:=.value f,args:=args,argTypes:=Ts })(hx:TO cf cy o.dst f args.toList st=some st'):StepX P o st st':=by
 unfold TO at hx;split at hx
 ·rename_i fid first cap hf;split at hx
  ·rename_i vs hvs;split at hx
   ·rename_i r st1 hr;cases hx;have b1:=AD2 (h.rd hf);have b2:=XM h hvs;obtain⟨hE,hrb,hfr,hA⟩:=hcf _ _ _ _ _ hr h (fun v hv=>by
     obtain⟨u,hu,rfl⟩:=dk.1 hv;refine gR ?_;rcases dr.1 hu with hu|hu
     ·rcases dr.1 hu with hu|hu
      ·exact b1.1 u hu
      ·exact b2 u hu
     ·exact b1.2 u hu)
    refine⟨⟨hE.c,hE.bd.putF hrb,hE.n⟩,fun σ pre k hk=>?_⟩;rw[KT,E8]at hvs;rw[DY]at hf;unfold EF;simp only[ho,JJ,hf,bq,OJ,IX hvs];refine .inl ⟨rfl,?_⟩;have:=hA σ pre (fun r s'=>k (putD (st.fr.ren σ pre.length) o.dst true r) s') fun σ' ha=>?_
    ·rw[HO]at this;simpa only[bc]using this
    ·have h1:=hk σ' ha;rw[FG,hfr,<-h.f σ σ' _ ha]at h1;exact h1
   ·cases hx
  ·cases hx
 ·rename_i l q γ hf;unfold qH at hx;split at hx
  ·rename_i vs hvs;split at hx
   ·rename_i r st1 hr;cases hx;obtain⟨hE,hrb,hfr,fr0,ps,asg,body,N,hget,hA⟩:=hcy _ _ _ _ _ _ _ hr h (XM h hvs);refine⟨⟨hE.c,hE.bd.putF hrb,hE.n⟩,fun σ pre k hk=>?_⟩;rw[KT,E8]at hvs;rw[DY]at hf;unfold EF;simp only[ho,JJ,hf,bq,gL,IX hvs,B5,hget,AV.ren];refine⟨trivial,trivial,?_⟩;refine hA σ pre (fun r s'=>k (putD (st.fr.ren σ pre.length) o.dst true r) s') fun σ' ha=>?_;have h1:=hk σ' ha;rw[FG,hfr,<-h.f σ σ' _ ha]at h1;exact h1
   ·cases hx
  ·cases hx
 ·cases hx
theorem mH{E:XE}(hE:J6 P E){own:fp->Bool}{o:fp}{st st':XS}(h:Bd st)(hx:QB P E own o st=some st'):StepX P o st st':=by
 unfold QB at hx;split at hx
 ·rename_i T ho;exact(dZ (Ω:=HG.nothing P) h ho hx).step
 ·rename_i T x ho;exact(uD (Ω:=HG.nothing P) h ho hx).step
 ·rename_i T r ho;exact(uE (Ω:=HG.nothing P) h ho hx).step
 ·rename_i T x y ho;exact(lY (Ω:=HG.nothing P) h ho hx).step
 ·rename_i T x y ho;exact eA h ho hx
 ·rename_i T x i y ho;exact AJQ h ho hx
 ·rename_i c ho;obtain⟨callee,args,Ts⟩:=c;unfold A1P at hx;split at hx
  ·rename_i f hc;have hc:callee=.value f:=hc;subst hc;unfold mF at hx;cases hown:own o with
   |false=>rw[hown]at hx;exact mG hE.cf hE.cy h ho hx
   |true=>
    rw[hown]at hx
    have hx:(match I9 E.co o.dst f args.toList st with
     |some st'=>some st'
     | none=>TO E.cf E.cy o.dst f args.toList st)=some st':=hx
    split at hx
    ·rename_i st1 h1;cases hx;exact(eD hE hown h ho h1).step
    ·exact mG hE.cf hE.cy h ho hx
  ·rename_i hc;have hc:callee=.builtin .append:=hc;subst hc;exact qE h ho hx
  ·rename_i hc;have hc:callee=.builtin .clear:=hc;subst hc;exact yK h ho hx
  ·rename_i hc;have hc:callee=.builtin .copy:=hc;subst hc;exact AD1 h ho hx
  ·exact uI h hx
 ·exact uI h hx
def gdX(fr:Fr)(gd:Option (Tmp×Bool)):Option Bool:=match gd with
 |none=>some true
 |some (d,want)=>match BL fr d with
  |some (c,.bool b)=>some (c&&(b==want))
  |_=>none
theorem qI(gd:Option (Tmp×Bool)):gdX fr gd=P0 fr gd:=by
 cases gd with
 |none=>rfl
 |some p=>simp only[gdX,P0,GH];rfl
theorem MX{gd:Option (Tmp×Bool)}(h:P0 fr gd=some g):P0 (fr.ren σ δ) gd=some g:=by
 cases gd with
 |none=>exact h
 |some p=>
  simp only[P0]at h|-
  split at h
  ·rename_i c b e;simp only[Fr.get_ren,e,bq,LN];exact h
  ·cases h
def IZ(d:Option Tmp)(st:XS):XS:={ st with fr:=putD st.fr d false (.bool false) }
def AD3(P:ft)(lit:Tmp->Bool)(o:fp)(st:XS):Option XS:=match o.op,o.dst with
 | .buildSlice T _ _,some d=>Bool.rec none (match BQ P T,AJR P o st.fr st.s with
  |some (none,e),some (.list true (x::es))=>Bool.rec none (some ⟨st.c+1,(d,true,HF (.vec e (x::es)) st.s.up.length d st.c)::st.fr,st.s.put st.s.up.length d st.c (.vec e (x::es))⟩) (dn (x::es).length maxLen)
  | _,_=>none) (lit d)
 |_,_=>none
theorem AJU{lit:Tmp->Bool}{o:fp}{st st':XS}(h:Bd st)(hx:AD3 P lit o st=some st'):KI st st' /\
  ∀(σ:Nat->Nat) (pre:List AA) (k:Fr->St->Prop),(∀σ',AO st.c σ σ'->k (st'.fr.ren σ' pre.length) (st'.s.emb σ' pre))->A1H P true o (st.fr.ren σ pre.length) (st.s.emb σ pre) k:=by
 unfold AD3 at hx
 split at hx
 ·rename_i T len parts d ho hd;obtain⟨_,hx⟩:=EH hx;split at hx
  ·rename_i e x es hel hv;obtain⟨hc,he⟩:=JO hx;cases he;have hv:=PG hv;have hb:=TN h (h.val hv) (ys:=x::es) rfl;refine⟨aD h rfl fun σ σ' δ ha=>by simp only[AV.ren,hb σ σ' δ ha],fun σ pre k hk=>?_⟩;have hv':=IY (σ:=σ) (pre:=pre) hv;unfold FE at hv';simp only[ho]at hv';obtain⟨ps,h1,h2⟩:=bk.1 hv';rw[ES]at h2;refine⟨T,len,parts,d,e,_,ps,ho,rfl,hd,hel,h1,h2,by simp,by simpa [cz]using hc,fun γ=>?_⟩;have:=qD h (d:=d) (r:=.vec e (x::es)) (fun σ σ' δ ha=>by simp only[AV.ren,hb σ σ' δ ha]) hk γ;rw[DB];simpa only[HF,AV.ren]using this
  ·cases hx
 ·cases hx
def AJV(all:List fp)(t:Tmp):Bool:=all.any fun p=>match p.op,p.dst with
 |.call { callee:=.builtin .append,.. },some d=>bz d t
 |_,_=>false
def MY(all:List fp)(st:XS):List gk->Option XS
 |[]=>none
 |x::r=>match x with
  | .tmp t=>Bool.rec (MY all st r) (match BL st.fr t with
   |some (true,.vec l q γ n)=>match st.s.get l q with
    |some (γ',.vec _ es)=>Bool.rec none (some ⟨st.c,(t,true,.list false (es.take n))::st.fr,st.s.put l q γ .dead⟩) (bz γ' γ&&dn n es.length&&cx γ st.c)
    |_=>none
   | _=>none) (AJV all t)
  |_=>MY all st r
def AD4(all:List fp)(o:fp)(st:XS):Option XS:=match o.op with
 |.call c=>match c.callee with
  |.value _=>MY all st c.args.toList
  |_=>none
 |_=>none
theorem VE{all:List fp}{st st1:XS}(h:Bd st):∀{xs:List gk},MY all st xs=some st1->KI st st1 /\
  ∀(o:fp) (σ:Nat->Nat) (pre:List AA) (k:Fr->St->Prop),EF P true o (st1.fr.ren σ pre.length) (st1.s.emb σ pre) k->AMR P true o (st.fr.ren σ pre.length) (st.s.emb σ pre) k
 |[],hx=>by cases hx
 |x::r,hx=>by
  unfold MY at hx;split at hx
  ·rename_i t;cases hA:AJV all t with
   |false=>rw[hA]at hx;exact VE h hx
   |true=>
    rw[hA]at hx
    have hx:(match BL st.fr t with
     |some (true,.vec l q γ n)=>match st.s.get l q with
      |some (γ',.vec _ es)=>Bool.rec none (some ⟨st.c,(t,true,.list false (es.take n))::st.fr,st.s.put l q γ .dead⟩) (bz γ' γ&&dn n es.length&&cx γ st.c)
      |_=>none
     | _=>none)=some st1:=hx
    split at hx
    ·rename_i l q γ n hg;split at hx
     ·rename_i γ' T es hs;obtain⟨hc,he⟩:=JO hx;simp only[bx]at hc;obtain⟨⟨h1,h2⟩,h3⟩:=hc;have h1:=bj h1;have h2:n<=es.length:=by simpa [cz]using h2
      have h3:γ<st.c:=by simpa [cd]using h3
      subst h1;cases he;rw[GH]at hg;have hb:∀σ σ' δ,AO st.c σ σ'->es.map (cj (V.ren σ δ))=es.map (cj (V.ren σ' δ)):=fun σ σ' δ ha=>by have:=MU h hs σ σ' δ ha;simpa [AV.ren]using this
      have hv:UH st.c (.list false (es.take n)):=fun σ σ' δ ha=>by simp only[ES,ck,hb σ σ' δ ha]
      have hbd:Bd ⟨st.c,(t,true,.list false (es.take n))::st.fr,st.s.put l q γ' .dead⟩:=(h.putS (l:=l) (k:=q) (r:=.dead) h3 (fun _ _ _ _=>rfl)).putF (d:=some t) (c:=true) hv;refine⟨⟨bn _,hbd,St.put_len _ _ _ _ _⟩,fun o σ pre k hk=>⟨t,l+pre.length,q,σ γ',n,T,es.map (cj (V.ren σ pre.length)),rfl,?_,?_,by simpa using h2,?_⟩⟩
      ·rw[Fr.get_ren,hg];simp
      ·rw[B5,hs];simp[AV.ren]
      ·change EF P true o ((st.fr.put t true _).ren _ _) _ k at hk;simp only[HM,ES,CQ,AV.ren,ck]at hk;exact hk
     ·cases hx
    ·cases hx
  ·exact VE h hx
def opX(P:ft)(E:XE)(all:List fp)(o:fp)(st:XS):Option XS:=match gdX st.fr (K3 all o)with
 |some true=>match AD3 P E.lit o st with
  |some st'=>some st'
  |none=>match AD4 all o st with
   |some st1=>QB P E (DM all) o st1
   |none=>QB P E (DM all) o st
 |some false=>some (IZ o.dst st)
 |none=>none
theorem eE{d:Option Tmp}{st:XS}(h:Bd st):KI st (IZ d st):=⟨bn _,h.putF (fun σ σ' δ _=>by simp),rfl⟩
theorem AD5{E:XE}(hE:J6 P E){all:List fp}{o:fp}{st st':XS}(h:Bd st)(hx:opX P E all o st=some st'):KI st st'/\∃g,(∀σ δ,P0 (st.fr.ren σ δ) (K3 all o)=some g) /\
  ∀(σ:Nat->Nat) (pre:List AA) (k:Fr->St->Prop),(∀σ',AO st.c σ σ'->k (st'.fr.ren σ' pre.length) (st'.s.emb σ' pre))->P5 P g o (st.fr.ren σ pre.length) (st.s.emb σ pre) k:=by
 unfold opX at hx
 rw[qI]at hx
 split at hx
 ·rename_i hg;split at hx
  ·rename_i st1 hl;cases hx;obtain⟨h1,h2⟩:=AJU h hl;exact⟨h1,true,fun σ δ=>MX hg,fun σ pre k hk=>.inr (.inr (.inl (h2 σ pre k hk)))⟩
  ·split at hx
   ·rename_i st1 ht;have ht':∃xs,MY all st xs=some st1:=by
     unfold AD4 at ht;split at ht
     ·split at ht
      ·exact⟨_,ht⟩
      ·cases ht
     ·cases ht
    obtain⟨xs,ht'⟩:=ht';obtain⟨hE1,hs1⟩:=VE (P:=P) h ht';obtain⟨h1,h2⟩:=mH hE hE1.bd hx;exact⟨⟨dg hE1.c h1.c,h1.bd,h1.n.trans hE1.n⟩,true,fun σ δ=>MX hg,fun σ pre k hk=>.inr (.inr (.inr (hs1 o σ pre k (h2 σ pre k fun σ' ha=>hk σ' (ha.mono hE1.c)))))⟩
   ·obtain⟨h1,h2⟩:=mH hE h hx;exact⟨h1,true,fun σ δ=>MX hg,fun σ pre k hk=>.inl (h2 σ pre k hk)⟩
 ·rename_i hg;cases hx;refine⟨eE h,false,fun σ δ=>MX hg,fun σ pre k hk=>.inr (.inl ⟨rfl,.bool false,?_⟩)⟩;have:=hk σ (AO.refl _ _);simpa only[IZ,FG,LN]using this
 ·cases hx
def gS(P:ft)(E:XE)(all:List fp):List fp->XS->Option XS
 |[],st=>some st
 |o::r,st=>match opX P E all o st with
  |some st'=>gS P E all r st'
  |none=>none
theorem gT{E:XE}(hEE:J6 P E){all:List fp}:∀{l:List fp} {st st':XS},Bd st->gS P E all l st=some st'->KI st st' /\
  ∀(σ:Nat->Nat) (pre:List AA) (K:Fr->St->Prop),(∀σ',AO st.c σ σ'->K (st'.fr.ren σ' pre.length) (st'.s.emb σ' pre))->WE P (l.map (K3 all)) l (st.fr.ren σ pre.length) (st.s.emb σ pre) K
 |[],st,st',h,hx=>by cases hx;exact⟨⟨bn _,h,rfl⟩,fun σ pre K hk=>hk σ (AO.refl _ _)⟩
 |o::l,st,st',h,hx=>by
  simp only[gS]at hx;split at hx
  ·rename_i st1 h1;obtain⟨hE,g,hg,hs⟩:=AD5 hEE h h1;obtain⟨hE',hs'⟩:=gT hEE hE.bd hx;refine⟨⟨dg hE.c hE'.c,hE'.bd,hE'.n.trans hE.n⟩,fun σ pre K hk=>?_⟩;simp only[dv,WE,hg];exact hs σ pre _ fun σ' ha=>hs' σ' pre K fun σ'' ha'=>hk σ'' (ha.trans ha' hE.c)
  ·cases hx
def aE(cf:CF0)(d:Option Tmp)(f:gk)(args:List gk)(st:XS):Option XS:=match CK st.fr f with
 |some (.fn fid first cap)=>match FQ (CK st.fr) args with
  |some vs=>match cf fid ((first++vs++cap).map weakV)with
   |some r=>some { st with fr:=putD st.fr d true r }
   |none=>none
  |none=>none
 |_=>none
def TP(r:Option XS):Option (XS×AJ):=match r with
 |some st=>some (st,[])
 |none=>none
def xAppD(P:ft)(d:Option Tmp)(args:List gk)(Ts:List gq)(st:XS):Option (XS×AJ):=match xAppG elemsOf P d args Ts st with
 |some (st',l,q)=>some (st',[(l,q),(l,q+IE)])
 |none=>none
def AM0(P:ft)(E:XE)(own:fp->Bool)(o:fp)(c:Call)(st:XS):Option (XS×AJ):=match c.callee with
 |.value f=>Bool.rec (TP (aE E.c0 o.dst f c.args.toList st)) (TP (I9 E.co o.dst f c.args.toList st)) (own o)
 |.builtin .append=>xAppD P o.dst c.args.toList c.argTypes.toList st
 |_=>TP (cL P o st)
def AD6(P:ft)(d:Option Tmp)(T:gq)(x y:gk)(st:XS):Option (XS×AJ):=match I7 P d T x y st with
 |some st'=>some (st',DF (bz (P.cellsOf T) 1) (CK st.fr x))
 |none=>none
def gU(P:ft)(E:XE)(own:fp->Bool)(o:fp)(st:XS):Option (XS×AJ):=match o.op with
 |.alloc T=>TP (OM P o.dst T st)
 |.box _ x=>TP (lX o.dst x st)
 |.makeMap _ r=>TP (yI o.dst r st)
 |.makeSlice T x y=>TP (WO P o.dst T x y st)
 |.store T x y=>AD6 P o.dst T x y st
 |.call c=>AM0 P E own o c st
 |_=>TP (cL P o st)
def qJ(P:ft)(E:XE)(all:List fp)(o:fp)(st:XS):Option (XS×AJ):=match gdX st.fr (K3 all o)with
 |some true=>gU P E (DM all) o st
 |some false=>Bool.rec (some (IZ o.dst st,[])) none (kA (DM all) o||kW o||kP o)
 |none=>none
theorem HP{r:Option XS}{st':XS}{wr:AJ}(h:TP r=some (st',wr)):r=some st'/\wr=[]:=by
 unfold TP at h;split at h
 ·cases h;exact⟨rfl,rfl⟩
 ·cases h
def AQP(P:ft)(Ω:HG P)(all:List fp)(o:fp)(st st':XS)(wr:AJ):Prop:=KI st st' /\
  ∀(W:AJ) (σ:Nat->Nat) (pre:List AA) (k:Fr->St->Prop),(∀p∈EC P o (CK st.fr),p∉W)->(∀p∈wr,p∈W)->(∀σ',AO st.c σ σ'->k (st'.fr.ren σ' pre.length) (st'.s.emb σ' pre))->F1 P Ω (bR pre.length W) o (K3 all o) (st.fr.ren σ pre.length) (st.s.emb σ pre) k
theorem AJW{E:XE}(hE:J6 P E){all:List fp}{o:fp}{st st':XS}{wr:AJ}(h:Bd st)(hx:qJ P E all o st=some (st',wr)):AQP P (hE.tab (DM all)) all o st st' wr:=by
 have val:∀{st'},(∀σ δ,P0 (st.fr.ren σ δ) (K3 all o)=some true)->cL P o st=some st'->AQP P (hE.tab (DM all)) all o st st' wr:=by
  intro st' hg hx;unfold cL at hx;split at hx
  ·rename_i v hv;cases hx;have hv:=PG hv;refine⟨⟨bn _,h.putF (h.val hv),rfl⟩,fun W σ pre k hr _ hk=>.inl ⟨true,v.ren σ pre.length,⟨hg _ _,?_⟩,?_⟩⟩
   ·have hrd:∀p∈EC P o (DQ true (st.fr.ren σ pre.length)),p∉bR pre.length W:=by rw[JJ,pY,<-E8];exact mA hr
    cases hi:lZ P o (DQ true (st.fr.ren σ pre.length))with
    |true=>exact .inr (.inr (.inl (AQL (IY hv) hi hrd)))
    |false=>exact .inl ⟨_,aB _,yL (IY hv) hi hrd⟩
   ·have:=hk σ (AO.refl _ _);rwa [FG]at this
  ·cases hx
 have new:∀{st'},(∀σ δ,P0 (st.fr.ren σ δ) (K3 all o)=some true)->gO P (hE.tab (DM all)) o st st'->AQP P (hE.tab (DM all)) all o st st' wr:=by intro st' hg hn;obtain⟨h1,d,hd,h2⟩:=hn;refine⟨h1,fun W σ pre k _ _ hk=>?_⟩;obtain⟨r,hr,h3⟩:=h2 σ pre k hk;exact .inr (.inl ⟨r,d,⟨hg _ _,hd,hr⟩,h3⟩)
 unfold qJ at hx;rw[qI]at hx;split at hx
 ·rename_i hg;have hg':∀σ δ,P0 (st.fr.ren σ δ) (K3 all o)=some true:=fun σ δ=>MX hg;unfold gU at hx;split at hx
  ·rename_i T ho;exact new hg' (dZ h ho (HP hx).1)
  ·rename_i T x ho;exact new hg' (uD h ho (HP hx).1)
  ·rename_i T r ho;exact new hg' (uE h ho (HP hx).1)
  ·rename_i T x y ho;exact new hg' (lY h ho (HP hx).1)
  ·rename_i T x y ho;unfold AD6 at hx;split at hx
   ·rename_i st1 hx1;cases hx;obtain⟨hE1,_⟩:=eA h ho hx1;obtain⟨l,q,γ,r,hD,rfl⟩:=ADW ho hx1;refine⟨hE1,fun W σ pre k _ hw hk=>.inr (.inr (.inl ⟨_,_,_,_,⟨hg' _ _,?_,pU hD⟩,?_⟩))⟩
    ·have hp:=ZR hD;unfold pL at hp;simp only[ho]at hp;have main:∀off,(DQ true st.fr x=some (.ptr l q γ off)\/∃i,DQ true st.fr x=some (.eptr l q γ i off))->WOK P (bR pre.length W) o (st.fr.ren σ pre.length) (l+pre.length) q:=by
      intro off hx;have hC:I6 P o (st.fr.ren σ pre.length)=some (off,P.cellsOf T):=by unfold I6;rcases hx with hx|⟨i,hx⟩<;>simp only[ho,DI,hx,bq,HK,OI]
      cases hb:bz (P.cellsOf T) 1 with
      |true=>
       have h1:=bj hb
       have hpl:DF (bz (P.cellsOf T) 1) (CK st.fr x)=[(l,q),(l,E7 q off)]:=by rw[DY,hb];rcases hx with hx|⟨i,hx⟩<;>rw[hx]<;>rfl
       rw[hpl]at hw
       refine⟨MW.2 (hw _ (by simp)),.inr fun off' n' e c h2 h3=>?_⟩
       rw[hC]at e
       cases e
       obtain rfl:c=off:=by omega
       exact MW.2 (hw _ (by simp))
      |false=>
       have hpl:DF (bz (P.cellsOf T) 1) (CK st.fr x)=[(l,q),(l,q+GN)]:=by rw[DY,hb];rcases hx with hx|⟨i,hx⟩<;>rw[hx]<;>rfl
       rw[hpl]at hw
       exact⟨MW.2 (hw _ (by simp)),.inl (MW.2 (hw _ (by simp)))⟩
     split at hp
     ·rename_i l1 q1 γ1 off e;cases hp;exact main off (.inl e)
     ·rename_i l1 q1 γ1 i off e;cases hp;exact main off (.inr ⟨i,e⟩)
     ·cases hp
    ·have:=hk σ (AO.refl _ _);simp only[CQ]at this;exact this
   ·cases hx
  ·rename_i c ho;obtain⟨callee,args,Ts⟩:=c;unfold AM0 at hx;split at hx
   ·rename_i f hc;have hc:callee=.value f:=hc;subst hc;cases hown:DM all o with
    |true=>
     rw[hown]at hx
     exact new hg' (eD hE hown h ho (HP hx).1)
    |false=>
     rw[hown]at hx
     have hx:=(HP hx).1
     unfold aE at hx
     split at hx
     ·rename_i fid first cap hf;split at hx
      ·rename_i vs hvs;split at hx
       ·rename_i r hr;cases hx;obtain⟨hA,hcl,hrc⟩:=hE.c0 _ _ _ hr;refine⟨⟨bn _,h.putF (fun σ σ' δ _=>by rw[hrc,hrc]),rfl⟩,fun W σ pre k _ _ hk=>.inl ⟨true,r,⟨hg' _ _,.inr (.inl ⟨fid,(first++vs++cap).map weakV,?_,hown,fun _ s=>hA s⟩)⟩,?_⟩⟩
        ·rw[KT,E8]at hvs;rw[DY]at hf;simp only[IW,ho,JJ,hf,bq,OJ,IX hvs,cw.injEq,fh.injEq,true_and];have e:((first++vs++cap).map weakV).map (V.ren σ pre.length)=(first++vs++cap).map weakV:=by
          conv=>rhs;rw[<-cn ((first++vs++cap).map weakV)]
          exact bf fun v hv=>hcl v hv σ _
         rw[HO]at e;simpa only[bc]using e
        ·have:=hk σ (AO.refl _ _);rwa [FG,hrc]at this
       ·cases hx
      ·cases hx
     ·cases hx
   ·rename_i hc;have hc:callee=.builtin .append:=hc;subst hc;unfold xAppD at hx;split at hx
    ·rename_i st1 l q e1;cases hx;obtain⟨d,r,hd,hp,rfl,hr,_,hs⟩:=aC (fun _ _ _ h=>h) h ho e1;have hra:EC P o (CK st.fr)=J5 (CK st.fr) args.toList:=by simp only[EC,ho]
     refine⟨aD h hp hr,fun W σ pre k hrd hw hk=>.inr (.inr (.inr ⟨l+pre.length,q,r.ren σ pre.length,d,⟨hg' _ _,⟨MW.2 (hw _ (by simp)),MW.2 (hw _ (by simp))⟩,hd,_,aB _,hs W σ pre (by rw[<-hra];exact hrd)⟩,fun γ=>qD h hr hk γ⟩))⟩
    ·cases hx
   ·exact val hg' (HP hx).1
  ·exact val hg' (HP hx).1
 ·rename_i hg;cases hk:(kA (DM all) o||kW o||kP o)with
  |true=>rw[hk]at hx;cases hx
  |false=>
   rw[hk]at hx
   cases hx
   rw[dt,dt]at hk
   refine⟨eE h,fun W σ pre k _ _ hk'=>.inl ⟨false,.bool false,⟨MX hg,.inr (.inr (.inr ⟨rfl,hk.1.1,hk.1.2,hk.2⟩))⟩,?_⟩⟩
   have:=hk' σ (AO.refl _ _)
   simpa only[IZ,FG,LN]using this
 ·cases hx
def phX(P:ft)(E:XE)(l:List fp):List Nat->XS->AJ->AJ->Option (XS×AJ×AJ)
 |[],st,rd,wr=>some (st,rd,wr)
 |i::r,st,rd,wr=>match l[i]? with
  |some o=>match qJ P E l o st with
   |some (st',w)=>phX P E l r st' (cond (zB l o) [] (EC P o (CK st.fr))++rd) (w++wr)
   |none=>none
  |none=>none
def sqX(P:ft)(E:XE)(l:List fp):List Nat->XS->Option XS
 |[],st=>some st
 |i::r,st=>match l[i]? with
  |some o=>match opX P E l o st with
   |some st'=>sqX P E l r st'
   |none=>none
  |none=>none
def yO(P:ft)(E:XE)(l:List fp):W2->XS->Option XS
 |[],st=>some st
 | p :: S,st=>Bool.rec none (match phX P E l p.1 st [] []with
  | some (st1,rd,wr)=>Bool.rec none (match sqX P E l p.2 st1 with
   |some G6=>yO P E l S G6
   | none=>none) (wr.all fun p=>!(rd.contains p))
  | none=>none) (Z4 (DM l) l p.1 st.s.loc)
theorem XN{l:List fp}{i:Nat}{o:fp}(h:l[i]? = some o):bP (l.map (K3 l)) i=K3 l o:=by simp[bP,h]
theorem AJX{E:XE}{all:List fp}{o:fp}{st st':XS}{wr:AJ}(ho:∃T x,o.op=.load T x)(hx:qJ P E all o st=some (st',wr)):wr=[]:=by
 obtain⟨T,x,ho⟩:=ho;unfold qJ at hx;split at hx
 ·unfold gU at hx;rw[ho]at hx;exact(HP hx).2
 ·cases hk:(kA (DM all) o||kW o||kP o)with
  |true=>rw[hk]at hx;cases hx
  |false=>rw[hk]at hx;exact(fh.inj (cw.inj hx)).2.symm
 ·cases hx
theorem AD7{E:XE}(hEE:J6 P E){l:List fp}:∀{R:List Nat} {st st':XS} {rd wr rd' wr':AJ},Bd st->phX P E l R st rd wr=some (st',rd',wr')->KI st st'/\(∀p∈rd,p∈rd')/\(∀p∈wr,p∈wr') /\
  ∀(W:AJ) (σ:Nat->Nat) (pre:List AA) (K:Fr->St->Prop),(∀p∈rd',p∉W)->(∀p∈wr',p∈W)->(∀σ',AO st.c σ σ'->K (st'.fr.ren σ' pre.length) (st'.s.emb σ' pre))->QA P (hEE.tab (DM l)) (bR pre.length W) l (l.map (K3 l)) R (st.fr.ren σ pre.length) (st.s.emb σ pre) K
 |[],st,st',rd,wr,rd',wr',h,hx=>by cases hx;exact⟨⟨bn _,h,rfl⟩,fun _ h=>h,fun _ h=>h,fun W σ pre K _ _ hk=>hk σ (AO.refl _ _)⟩
 |i::r,st,st',rd,wr,rd',wr',h,hx=>by
  simp only[phX]at hx;split at hx
  ·rename_i o ho;split at hx
   ·rename_i st1 w1 h1;obtain⟨hE,hs⟩:=AJW hEE h h1;obtain⟨hE',hr,hw,hs'⟩:=AD7 hEE hE.bd hx;refine⟨⟨dg hE.c hE'.c,hE'.bd,hE'.n.trans hE.n⟩,fun p hp=>hr p (dh _ hp),fun p hp=>hw p (dh _ hp),fun W σ pre K hrd hwr hk=>?_⟩;simp only[QA,M8,ho,XN ho];cases hz:zB l o with
    |true=>
     have hw0:w1=[]:=AJX (AMU hz) h1
     subst hw0
     unfold wz
     rw[hz]
     exact hs [] σ pre _ (fun p _=>by simp) (fun p hp=>hp) fun σ' ha=>hs' W σ' pre K hrd hwr fun σ'' ha'=>hk σ'' (ha.trans ha' hE.c)
    |false=>
    rw[hz]at hr;unfold wz;rw[hz];exact hs W σ pre _ (fun p hp=>hrd p (hr p (fj _ hp))) (fun p hp=>hwr p (hw p (fj _ hp))) fun σ' ha=>hs' W σ' pre K hrd hwr fun σ'' ha'=>hk σ'' (ha.trans ha' hE.c)
   ·cases hx
  ·cases hx
theorem AD8{E:XE}(hEE:J6 P E){l:List fp}:∀{R:List Nat} {st st':XS},Bd st->sqX P E l R st=some st'->KI st st' /\
  ∀(σ:Nat->Nat) (pre:List AA) (K:Fr->St->Prop),(∀σ',AO st.c σ σ'->K (st'.fr.ren σ' pre.length) (st'.s.emb σ' pre))->xY P l (l.map (K3 l)) R (st.fr.ren σ pre.length) (st.s.emb σ pre) K
 |[],st,st',h,hx=>by cases hx;exact⟨⟨bn _,h,rfl⟩,fun σ pre K hk=>hk σ (AO.refl _ _)⟩
 |i::r,st,st',h,hx=>by
  simp only[sqX]at hx;split at hx
  ·rename_i o ho;split at hx
   ·rename_i st1 h1;obtain⟨hE,g,hg,hs⟩:=AD5 hEE h h1;obtain⟨hE',hs'⟩:=AD8 hEE hE.bd hx;refine⟨⟨dg hE.c hE'.c,hE'.bd,hE'.n.trans hE.n⟩,fun σ pre K hk=>?_⟩;simp only[xY,ho,XN ho,hg];exact hs σ pre _ fun σ' ha=>hs' σ' pre K fun σ'' ha'=>hk σ'' (ha.trans ha' hE.c)
   ·cases hx
  ·cases hx
end Go.Pg
namespace Go.Pg
variable {P:ft}{σ σ':Nat->Nat}{δ:Nat}{pre:List AA}{s:St}{fr:Fr}{g:Bool}
def AG:Nat->V->Bool
 |0,_=>false
 |f+1,v=>match v with
  |.int ..|.bool _|.raw _|.nil|.any=>true
  |.agg cs|.tup cs|.ref cs=>cs.all (AG f)
  |.list _ es=>es.all fun e=>e.all (AG f)
  |.fn _ a b=>a.all (AG f)&&b.all (AG f)
  |_=>false
theorem MZ{f:Nat}(ih:∀v,AG f v=true->v.ren σ δ=v){cs:List V}(h:cs.all (AG f)=true):cs.map (V.ren σ δ)=cs:=by
 conv=>rhs;rw[<-cn cs]
 exact bf fun v hv=>ih v (bh.1 h v hv)
theorem EL:∀(f:Nat) (v:V),AG f v=true->v.ren σ δ=v
 |0,_,h=>by cases h
 |f+1,v,h=>by
  have ih:=fun v=>EL f v;cases v with
  |agg cs=>rw[HJ,MZ ih (by simpa [AG]using h)]
  |tup cs=>rw[KP,MZ ih (by simpa [AG]using h)]
  |ref cs=>rw[MP,MZ ih (by simpa [AG]using h)]
  |list b es=>
   have h':(es.all fun e=>e.all (AG f))=true:=by simpa [AG]using h
   rw[ES]
   congr 1
   conv=>rhs;rw[<-cn es]
   exact bf fun e he=>MZ ih (bh.1 h' e he)
  |fn g a b=>
   have h':a.all (AG f)=true/\b.all (AG f)=true:=by simpa [AG]using h
   rw[OJ,MZ ih h'.1,MZ ih h'.2]
  |int k n=>simp
  |bool b=>simp
  |raw v=>simp
  |nil=>simp
  |any=>simp
  |_=>simp[AG]at h
def QC(ks:List Nat)(fr:Fr):Fr:=List.rec (motive:=fun _=>Fr) [] (fun k _ ih=>match BL fr k with
 |some (c,v)=>(k,c,v)::ih
 | none=>ih) ks
theorem aF(fr:Fr):∀(ks:List Nat),QC ks fr=OC ks fr
 |[]=>rfl
 |k::r=>by have:=aF fr r;show(match BL fr k with|some (c,v)=>(k,c,v)::QC r fr|none=>QC r fr)=OC (k::r) fr;rw[this,GH];rfl
theorem VF:∀(ks:List Nat),OC ks (fr.ren σ δ)=(OC ks fr).ren σ δ
 |[]=>rfl
 |k::r=>by
  simp only[OC,Fr.get_ren,VF r];cases fr.get k with
  |none=>rfl
  |some p=>rfl
theorem VG{L:AA}:∀(ks:List Nat),IV ks (L.ren σ δ)=(IV ks L).ren σ δ
 |[]=>rfl
 |k::r=>by
  simp only[IV,AA.get_ren,VG r];cases L.get k with
  |none=>rfl
  |some p=>rfl
def TQ:List Nat->List Nat->List Nat
 |acc,[]=>acc
 |acc,k::r=>TQ (cond (acc.any (bz k)) acc (k::acc)) r
def Q3(ks ls:List Nat)(st:XS):XS:=⟨st.c,QC ks st.fr,⟨st.s.up,IV ls st.s.loc⟩⟩
theorem AD9{ks ls:List Nat}{st:XS}{l k:Nat}{x:Nat×AV}(h:(Q3 ks ls st).s.get l k=some x):st.s.get l k=some x:=by
 unfold St.get Q3 at h;unfold St.get;simp only at h;split at h
 ·rename_i e;rw[if_pos e];exact PA h
 ·rename_i e;rw[if_neg e];exact h
theorem TR{ks ls:List Nat}{st:XS}(h:Bd st):KI st (Q3 ks ls st):=by
 refine⟨bn _,⟨fun σ σ' δ ha=>?_,fun σ σ' pre ha=>?_,fun l k γ fr ps asg body N ls hg=>h.lp l k γ fr ps asg body N ls (AD9 hg)⟩,rfl⟩
 ·simp only[Q3,aF,<-VF];rw[h.f σ σ' δ ha]
 ·have:=h.s σ σ' pre ha;simp only[St.emb,St.mk.injEq]at this;simp only[Q3,St.emb,St.mk.injEq,<-VG];exact⟨this.1,by rw[this.2]⟩
theorem VH{n N:Nat}{ρ:Option Nat}{c:gw}{K:Exit->Fr->St->Prop}{ks ls:List Nat}{st:XS}(h:BC P n N ρ c K ((Q3 ks ls st).fr.ren σ pre.length) ((Q3 ks ls st).s.emb σ pre)):BC P n N ρ c K (st.fr.ren σ pre.length) (st.s.emb σ pre):=by
 refine xR ks ls ?_;have e2:(⟨(st.s.emb σ pre).up,IV ls (st.s.emb σ pre).loc⟩:St)=(Q3 ks ls st).s.emb σ pre:=by simp only[Q3,St.emb,VG]
 rw[VF,e2,<-aF];exact h
abbrev cM:=gw->XS->Option (Exit×XS)
def QD(P:ft)(E:XE)(l:List fp)(st:XS):Option XS:=yO P E l (cK l) st
def A1Q(P:ft)(E:XE)(l:List fp)(draw:Bool)(st:XS):Option XS:=Bool.rec (gS P E l l st)
 (match AQK l with
  |[]=>QD P E l st
  | ds=>QD P E l (Q3 (TQ [] (st.fr.map (·.1))) ((TQ [] (st.s.loc.map (·.1))).filter fun k=>!(ds.any (bz k))) st)) draw
def TS(r:Option XS):Option (Exit×XS):=match r with
 |some st=>some (.normal,st)
 |none=>none
def yP(rec:cM)(b:gw)(r:Option (Exit×XS)):Option (Exit×XS):=match r with
 |some (.normal,st')=>rec b st'
 |r=>r
def VI(id:Nat)(r:Option (Exit×XS)):Option (Exit×XS):=match r with
 |some (.exit i,st')=>Bool.rec (some (.exit i,st')) (some (.normal,st')) (bz i id)
 |r=>r
def mI(rec:cM)(a b:gw)(st:XS)(r:Option V):Option (Exit×XS):=match r with
 |some (.bool c)=>Bool.rec (rec b st) (rec a st) c
 |_=>none
def eF(rec:cM)(body:gw)(ks:List Nat)(n:Nat):XS->Option (Exit×XS):=Nat.rec (motive:=fun _=>XS->Option (Exit×XS)) (fun _=>none) (fun _ ih st=>match rec body (Q3 ks (TQ [] (st.s.loc.map (·.1))) st)with
 |some (.normal,st')=>ih st'
 | r=>r) n
def A8:Nat:=1000000
def gV(fr:Fr)(n γ:Nat)(r:Option (V×XS)):Option (Exit×XS):=match r with
 |some (_,st)=>match st.s.get n A8 with
  | some (γ',.loop _ _ _ _ _ ls)=>Bool.rec none (match ls with
   |.ready=>some (.normal,⟨st.c,fr,st.s.put n A8 γ .dead⟩)
   |.left .ret=>some (.ret,⟨st.c,fr,st.s.put n A8 γ .dead⟩)
   |.left (.exit id)=>some (.exit id,⟨st.c,fr,st.s.put n A8 γ .dead⟩)
   | _=>none) (bz γ' γ&&cx γ st.c)
  |_=>none
 |none=>none
def VJ(cf:CF)(N:Nat)(g:gk)(ps:List Tmp)(asg body:gw)(st:XS):Option (Exit×XS):=match CK st.fr g with
 |some (.fn f first cap)=>gV st.fr st.s.up.length st.c (cf f ((first++[V.yld st.s.up.length A8 st.c]++cap).map weakV) ⟨st.c+1,st.fr,st.s.put st.s.up.length A8 st.c (.loop st.fr ps asg body N .ready)⟩)
 |_=>none
def aG(P:ft)(E:XE)(n N:Nat)(rec:cM):cM:=fun code st=>match code with
 |.skip=>some (.normal,st)
 |.label _=>some (.normal,st)
 |.region _ ops draw=>TS (A1Q P E ops.toList draw st)
 |.seq a b=>yP rec b (rec a st)
 |.cond c a b=>mI rec a b st (CK st.fr c)
 |.block id body=>VI id (rec body st)
 |.loop body=>eF rec body (TQ [] (st.fr.map (·.1))) n st
 |.exit id=>some (.exit id,st)
 |.ret=>some (.ret,st)
 |.scope body=>rec body st
 |.rangeFunc g ps asg body=>VJ E.cf N g ps.toList asg body st
 |_=>none
abbrev F8:=Nat->cM
def yQ(P:ft)(rs:List ResultVar)(st:XS):Option (V×Nat×List AA):=match FM P rs st.fr st.s with
 |some r=>match AY st.s 4 r with
  |some r'=>some (r',st.c,st.s.up.map (AH st.s))
  |none=>none
 |none=>none
def mJ{α:Type}(rec:cM)(ret:XS->Option α)(code:gw)(st:XS):Option α:=match rec code st with
 |some (.ret,st')=>ret st'
 |some (.normal,st')=>ret st'
 |_=>none
def WQ{α:Type}(P:ft)(rec:F8)(ret:Func->XS->Option α)(f:gv)(args:List V)(c:Nat)(up:List AA):Option α:=match P.funcs[f]? with
 |some fn=>match fn.body with
  |some code=>Bool.rec none (mJ (rec fn.ntmps) (ret fn) code ⟨c,AD 0 args,⟨up,[]⟩⟩) (dn args.length fn.ntmps)
  |none=>none
 |none=>none
def eG(P:ft)(rec:F8)(f:gv)(args:List V)(c:Nat)(up:List AA):Option (V×Nat×List AA):=WQ P rec (fun fn=>yQ P fn.results.toList) f args c up
def EM(P:ft)(rec:F8):CF0:=fun f args=>Bool.rec none (match eG P rec f args 0 []with
 |some (r,_,_)=>Bool.rec none (some r) (AG 9 r)
 | none=>none) (args.all (AG 9))
def B9{α:Type}:List α->Option (List α×α)
 |[]=>none
 |[x]=>some ([],x)
 |x::r=>match B9 r with
  |some (a,b)=>some (x::a,b)
  |none=>none
def A3(P:ft)(kn:CF0)(rec:F8):CF0:=fun f args=>match kn f args with
 |some r=>some r
 |none=>EM P rec f args
def weakM:V->V
 |.nil=>.list false []
 |v=>v
def weakN:V->V
 |.nil=>.list false []
 |.agg cs=>.agg (cs.map weakM)
 |v=>v
theorem RepV.empty{G:Gh}{v:Value}(h:RepV G .nil v):RepV G (.list false []) v:=by cases h;exact .list false [] none 0 0 0 0 #[] 0 (0,0) (fun _ _=>undef) (by simp) (fun h=>by cases h) (fun h=>absurd rfl h) (fun i h=>absurd h (by simp)) (fun i h=>absurd h (by simp)) (fun i h=>absurd h (by simp))
theorem RepV.weakM{G:Gh}{x:V}{v:Value}(h:RepV G x v):RepV G (weakM x) v:=by cases x<;>first|exact h|exact h.empty
theorem gW(x:V):(weakM x).isCell=x.isCell:=by cases x<;>rfl
theorem RepV.weakN{G:Gh}{x:V}{v:Value}(h:RepV G x v):RepV G (weakN x) v:=by
 cases x with
 |nil=>exact h.empty
 |agg cs=>
  cases h with
  |agg _ arr hl hc hr=>
   refine .agg _ arr (by simpa using hl) (fun c hc'=>?_) (fun i h1 h2=>?_)
   ·obtain⟨d,hd,rfl⟩:=dk.1 hc';rw[gW];exact hc d hd
   ·simp only[List.getElem_map];exact(hr i (by simpa using h1) h2).weakM
 |_=>exact h
theorem RepA.weakN{G:Gh}{xs:List V}{vs:List Value}(h:RepA G xs vs):RepA G (xs.map Pg.weakN) vs :=
 ⟨by simpa using h.1,fun i h1 h2=>by simp only[List.getElem_map];exact(h.2 i (by simpa using h1) h2).weakN⟩
def FI(P:ft)(kn:CF0)(rec:F8):CF0:=fun f args=>match A3 P kn rec f (args.map weakN)with
 |some r=>Bool.rec (A3 P kn rec f args) (some r) (args.all (AG 9))
 |none=>A3 P kn rec f args
def BBO(P:ft)(T:gq):Bool:=match P.underlying T with
 |some (.pointer _)=>true
 |_=>false
def BI(P:ft)(f:gv):Bool:=match P.funcs[f]? with
 |some fn=>fn.resultTypes.toList.any (BBO P)
 |none=>false
def aH(P:ft)(kn:CF0)(rec:F8):CF:=fun f args st=>Bool.rec (match eG P rec f args st.c (st.s.up++[st.s.loc])with
 |some (r,c,up)=>match B9 up with
  |some (u,l)=>some (r,⟨c,st.fr,⟨u,l⟩⟩)
  |none=>none
 | none=>none) (match FI P kn rec f args with
  |some r=>some (r,st)
  | none=>none) (args.all (AG 9)&&!(BI P f))
def qK(P:ft)(fn:Func)(st:XS):Option Mk:=match FM P fn.results.toList st.fr st.s with
 | some (.vec l k γ n)=>Bool.rec none (match st.s.loc.get k with
  |some (γ',.vec T es)=>Bool.rec none (some ⟨.vec T es,none⟩) (bz γ' γ&&bz n es.length&&es.all fun e=>e.all (AG 9))
  | _=>none) (bz l st.s.up.length)
 | some v=>Bool.rec none (match fn.resultTypes.toList with
  |[R]=>match BQ P R with
   |some (none,T)=>some ⟨.vec T [],none⟩
   |_=>none
  | _=>none) (WZ v)
 |none=>none
def JA(P:ft)(f:gv):Bool:=match P.funcs[f]? with
 |some fn=>match fn.resultTypes.toList with
  |[R]=>match BQ P R with
   |some (none,_)=>true
   |_=>false
  |_=>false
 |none=>false
def GO(P:ft)(rec:F8)(f:gv)(args:List V):Option Mk:=Bool.rec none (WQ P rec (qK P) f args 0 []) (args.all (AG 9))
def koT(P:ft)(f:gv):Option gq:=match P.funcs[f]? with
 |some fn=>match fn.resultTypes.toList with
  |[R]=>match BQ P R with
   |some (none,T)=>some T
   |_=>none
  |_=>none
 |none=>none
def gX(P:ft)(f:gv)(T:gq):Prop:=∀(d:Tmp) (s:St),E3 P f [.list false []] s fun v s'=>∃γ,v=(⟨.vec T [],none⟩:Mk).val s.up.length d γ/\s'=s.put s.up.length d γ (.vec T [])
open Classical in
def koV(P:ft)(f:gv):List V->Option Mk
 |[.list false []]=>match koT P f with
  |some T=>if gX P f T then some ⟨.vec T [],none⟩ else none
  |none=>none
 |_=>none
theorem AQQ{P:ft}{f:gv}{T:gq}(h:koT P f=some T)(hv:gX P f T):koV P f [.list false []]=some ⟨.vec T [],none⟩:=by unfold koV;simp only[h];exact if_pos hv
def orM{α:Type}:Option α->Option α->Option α
 |some r,_=>some r
 |none,z=>z
def TU(P:ft)(kn:CF0)(ko:CFO)(rec:F8):CFO:=fun f args d=>match ko f args d with
 |some r=>some r
 | none=>Bool.rec (match FI P kn rec f args with
  |some r=>some ⟨.dead,some r⟩
  | none=>none) (orM (GO P rec f args) (koV P f args)) (JA P f)
def H1(s:St)(u:List AA)(l:AA):St:=⟨u.map (AH s),AH s l⟩
def ON(fr:Fr)(l q γ:Nat)(r:Option (Exit×XS)):Option (V×XS):=match r with
 |some (e,st)=>match st.s.get l q with
  | some (γ',.loop fr0 ps asg body N .busy)=>Bool.rec none (match B9 st.s.up with
   |some (u,lc)=>match e with
    |.normal=>some (.bool true,⟨st.c,fr,(H1 st.s u lc).put l q γ (.loop fr0 ps asg body N .ready)⟩)
    |.ret=>some (.bool false,⟨st.c,fr,(H1 st.s u lc).put l q γ (.loop fr0 ps asg body N (.left .ret))⟩)
    |.exit id=>some (.bool false,⟨st.c,fr,(H1 st.s u lc).put l q γ (.loop fr0 ps asg body N (.left (.exit id)))⟩)
    |_=>none
   | none=>none) (bz γ' γ&&cx l st.s.up.length&&cx γ st.c)
  |_=>none
 |none=>none
def aI(rec:cM)(l q γ:Nat)(body:gw)(r:Option (Exit×XS)):Option (Exit×XS):=match r with
 |some (.normal,st)=>match st.s.get l q with
  |some (γ',.loop fr0 ps asg body' N .ready)=>Bool.rec none (rec body ⟨st.c,st.fr,st.s.put l q γ (.loop fr0 ps asg body' N .busy)⟩) (bz γ' γ&&cx γ st.c)
  |_=>none
 |_=>none
def aJ(rec:F8):CY:=fun l q γ vs st=>match st.s.get l q with
 |some (γ',.loop fr0 ps asg body N .ready)=>Bool.rec none (ON st.fr l q γ (aI (rec N) l q γ body (rec N asg ⟨st.c,IU fr0 ps vs,⟨st.s.up++[st.s.loc],[]⟩⟩))) (bz γ' γ&&bz vs.length ps.length&&cx γ st.c)
 |_=>none
def A1R(P:ft)(kn:CF0)(ko:CFO)(lit:Tmp->Bool)(rec:F8):XE:=⟨aH P kn rec,aJ rec,FI P kn rec,TU P kn ko rec,lit⟩
def qM(fn:Func):Bool:=match fn.body with
 | some c => !(fn.name == "runtime.NumGoroutine") && EU fn.ntmps c
 |none=>true
structure D6(P:ft):Prop where
 all:P.funcs.toList.all qM=true
 mixed:P.follows .mixedOrders=true
def aK(P:ft)(N:Nat)(rec:cM):Prop:=∀code st e st',rec code st=some (e,st')->Bd st->EU N code=true->KI st st'/\(∀l,e≠.goto l) /\
 ∀(n:Nat) (ρ:Option Nat) (σ:Nat->Nat) (pre:List AA) (K:Exit->Fr->St->Prop),(ρ=none\/F7 code=true)->(∀σ',AO st.c σ σ'->K e (st'.fr.ren σ' pre.length) (st'.s.emb σ' pre))->BC P n N ρ code K (st.fr.ren σ pre.length) (st.s.emb σ pre)
def W5(P:ft)(rec:F8):Prop:=∀N,aK P N (rec N)
theorem OP{α:Type}:∀{l:List α} {u:List α} {x:α},B9 l=some (u,x)->l=u++[x]
 |[],u,x,h=>by cases h
 |[y],u,x,h=>by cases h;rfl
 |y::z::r,u,x,h=>by
  simp only[B9]at h;split at h
  ·rename_i a b e;cases h;rw[OP (l:=z::r) e];rfl
  ·cases h
theorem AEA{c:Nat}{args:List V}(h:∀v∈args,UH c v)(σ σ':Nat->Nat)(δ:Nat)(ha:AO c σ σ'):(AD 0 args).ren σ δ=(AD 0 args).ren σ' δ:=by rw[<-PE,<-PE];congr 1;exact bf fun v hv=>h v hv σ σ' δ ha
theorem AQS{st:XS}(h:Bd st){rs:List ResultVar}{v r:V}(hv:FM P rs st.fr st.s=some v)(hr:AY st.s 4 v=some r):UH st.c r:=by intro σ σ' δ ha;have q1:=OL (σ:=σ) (pre:=bw δ []) hv;have q2:=OL (σ:=σ') (pre:=bw δ []) hv;rw[h.f σ σ' _ ha,h.s σ σ' _ ha,q2]at q1;have q:=cw.inj q1;have r1:=J3 (σ:=σ) (pre:=bw δ []) 4 hr;have r2:=J3 (σ:=σ') (pre:=bw δ []) 4 hr;rw[h.s σ σ' _ ha,<-q,r2]at r1;have:=cw.inj r1;rw[bb]at this;exact this.symm
theorem HQ(u:List AA)(l:AA)(i k:Nat):(⟨u,l⟩:St).get i k=match(u++[l])[i]? with
  |some L=>L.get k
  |none=>none:=by
 unfold St.get
 simp only
 by_cases h:i=u.length
 ·subst h;simp
 ·rw[if_neg h];rcases Nat.lt_or_ge i u.length with h'|h'
  ·rw[dw h'];rfl
  ·rw[dq h',dl h'];have:1<=i-u.length:=by omega
   rw[dl (by simpa using this)]
theorem qO(L:AA)(k g:Nat)(r:AV)(h:((AH s L).ren σ pre.length).get k=some (g,r)):∃r0,(L.ren σ pre.length).get k=some (g,r0)/\(r=r0\/r=HE (s.emb σ pre) r0):=by
 rw[AA.get_ren,MT]at h;rw[AA.get_ren];cases hL:L.get k with
 |none=>rw[hL]at h;cases h
 |some p=>
  rw[hL]at h
  cases h
  exact⟨p.2.ren σ pre.length,rfl,lW p.2⟩
theorem eH{s:St}{F:List AA}{u u2:List AA}{l l2:AA}(h1:u++[l]=pre++F.map (AA.ren σ pre.length))(h2:u2++[l2]=pre++(F.map (AH s)).map (AA.ren σ pre.length)):xJ (s.emb σ pre) ⟨u,l⟩ ⟨u2,l2⟩:=by
 have hlen:u2.length=u.length:=by have a1:=congrArg dz h1;have a2:=congrArg dz h2;simp at a1 a2;omega
 refine⟨hlen,fun i k g r hg=>?_⟩;rw[HQ,h2]at hg;rw[HQ,h1];rcases Nat.lt_or_ge i pre.length with hi|hi
 ·rw[dw hi]at hg|-;exact⟨r,hg,.inl rfl⟩
 ·rw[dq hi]at hg|-;simp only[fg,List.getElem?_map]at hg|-;cases hF:F[i-pre.length]? with
  |none=>rw[hF]at hg;cases hg
  |some L=>
   rw[hF]at hg
   exact qO L k g r hg
theorem qP{s:St}{c:Nat}(hs:∀σ σ' pre,AO c σ σ'->s.emb σ pre=s.emb σ' pre){r:AV}(hr:∀σ σ' δ,AO c σ σ'->r.ren σ δ=r.ren σ' δ)(σ σ':Nat->Nat)(δ:Nat)(ha:AO c σ σ'):(CH s r).ren σ δ=(CH s r).ren σ' δ:=by
 unfold CH;split
 ·rename_i r' h;have q1:=K2 (σ:=σ) (pre:=bw δ []) h;have q2:=K2 (σ:=σ') (pre:=bw δ []) h;rw[hs σ σ' _ ha]at q1;simp only[bb]at q1 q2;rw[hr σ σ' _ ha,q2]at q1;exact(cw.inj q1).symm
 ·exact hr σ σ' δ ha
theorem mK{L:AA}{δ:Nat}(σ σ':Nat->Nat):L.ren σ δ=L.ren σ' δ↔∀p∈L,σ p.2.1=σ' p.2.1/\p.2.2.ren σ δ=p.2.2.ren σ' δ:=by unfold AA.ren;rw[cm];simp only[fh.injEq,true_and]
theorem eI{s:St}{c:Nat}(hs:∀σ σ' pre,AO c σ σ'->s.emb σ pre=s.emb σ' pre){L:AA}(hL:∀σ σ' δ,AO c σ σ'->L.ren σ δ=L.ren σ' δ)(σ σ':Nat->Nat)(δ:Nat)(ha:AO c σ σ'):(AH s L).ren σ δ=(AH s L).ren σ' δ:=by rw[mK];intro p hp;obtain⟨x,hx,rfl⟩:=dk.1 hp;have h1:∀σ σ' δ,AO c σ σ'->σ x.2.1=σ' x.2.1/\x.2.2.ren σ δ=x.2.2.ren σ' δ:=fun σ σ' δ ha=>(mK σ σ').1 (hL σ σ' δ ha) x hx;exact⟨(h1 σ σ' δ ha).1,qP hs (fun σ σ' δ ha=>(h1 σ σ' δ ha).2) σ σ' δ ha⟩
theorem AEB{s:St}{c:Nat}(hs:∀σ σ' pre,AO c σ σ'->s.emb σ pre=s.emb σ' pre):∀L∈s.up,∀σ σ' δ,AO c σ σ'->L.ren σ δ=L.ren σ' δ:=by intro L hL σ σ' δ ha;have:=hs σ σ' (bw δ []) ha;simp only[St.emb,St.mk.injEq,bb]at this;exact cm.1 (db this.1) L hL
theorem eJ(s:St)(L:AA){k γ:Nat}{fr:Fr}{ps:List Tmp}{asg body:gw}{N:Nat}{st:LS}(h:(AH s L).get k=some (γ,.loop fr ps asg body N st)):L.get k=some (γ,.loop fr ps asg body N st):=by
 rw[MT]at h;cases hL:L.get k with
 |none=>rw[hL]at h;cases h
 |some p=>
  rw[hL]at h
  simp only[bq,cw.injEq,fh.injEq]at h
  obtain⟨h1,h2⟩:=h
  obtain⟨g,r⟩:=p
  simp only at h1 h2
  subst h1
  congr 2
  cases r with
  |loop=>exact h2
  |box cs=>unfold CH at h2;split at h2<;>rename_i e<;>simp only[CB]at e<;>(try (split at e<;>cases e))<;>cases h2
  |vec T es=>unfold CH at h2;split at h2<;>rename_i e<;>simp only[CB]at e<;>(try (split at e<;>cases e))<;>cases h2
  |map es=>unfold CH at h2;split at h2<;>rename_i e<;>simp only[CB]at e<;>(try (split at e<;>cases e))<;>cases h2
  |dead=>unfold CH at h2;split at h2<;>rename_i e<;>simp only[CB]at e<;>cases e;cases h2
def FX(P:ft)(f:gv)(args:List V)(c:Nat)(up:List AA)(r:V)(c':Nat)(up':List AA):Prop:=c<=c'/\UH c' r/\(∀σ σ' δ,AO c' σ σ'->up'.map (AA.ren σ δ)=up'.map (AA.ren σ' δ))/\up'.length=up.length /\
  (∀L∈up',∀k γ fr ps asg body N st,L.get k=some (γ,.loop fr ps asg body N st)->TL N ps asg body=true) /\
  ∀(σ:Nat->Nat) (pre:List AA) (s:St) (K:V->St->Prop),s.up++[s.loc]=pre++up.map (AA.ren σ pre.length)->(∀σ' u l,AO c σ σ'->u++[l]=pre++up'.map (AA.ren σ' pre.length)->K (r.ren σ' pre.length) ⟨u,l⟩)->E3 P f (args.map (V.ren σ pre.length)) s K
theorem aL(hP:D6 P){rec:F8}(hrec:W5 P rec){α:Type}{ret:Func->XS->Option α}{f:gv}{args:List V}{c:Nat}{up:List AA}{x:α}(hx:WQ P rec ret f args c up=some x)(hargs:∀v∈args,UH c v)
  (hup:∀σ σ' δ,AO c σ σ'->up.map (AA.ren σ δ)=up.map (AA.ren σ' δ)) (hlp:∀L∈up,∀k γ fr ps asg body N st,L.get k=some (γ,.loop fr ps asg body N st)->TL N ps asg body=true) :
  ∃fn st',ret fn st'=some x/\Bd st'/\c<=st'.c/\st'.s.up.length=up.length/\∀(σ:Nat->Nat) (pre:List AA) (s:St) (K:V->St->Prop),s.up++[s.loc]=pre++up.map (AA.ren σ pre.length) ->
   (∀σ',AO c σ σ'->AQF P fn.results.toList (s.up.length+1) K .ret (st'.fr.ren σ' pre.length) (st'.s.emb σ' pre))->E3 P f (args.map (V.ren σ pre.length)) s K:=by
 unfold WQ at hx
 split at hx
 ·rename_i fn hf;split at hx
  ·rename_i code hb;obtain⟨hsz,hx1⟩:=EH hx;have hck:qM fn=true:=bh.1 hP.all fn (by
    have:=Array.mem_of_getElem? hf;simpa using this)
   simp only[qM,hb,bx,fc]at hck;have hbd:Bd ⟨c,AD 0 args,⟨up,[]⟩⟩:=⟨fun σ σ' δ ha=>AEA hargs σ σ' δ ha,fun σ σ' pre ha=>by simp only[St.emb,hup σ σ' _ ha]; rfl,fun l k γ fr ps asg body N st hg=>by
    rw[HQ]at hg;split at hg
    ·rename_i L hL;rcases dr.1 (fk hL)with hm|hm
     ·exact hlp L hm _ _ _ _ _ _ _ _ hg
     ·have:L=[]:=by simpa using hm
      subst this;simp at hg
    ·cases hg⟩
   have main:∀e st',rec fn.ntmps code ⟨c,AD 0 args,⟨up,[]⟩⟩=some (e,st')->(e=.ret\/e=.normal)->ret fn st'=some x->∃fn st',ret fn st'=some x/\Bd st'/\c<=st'.c/\st'.s.up.length=up.length/\∀(σ:Nat->Nat) (pre:List AA) (s:St) (K:V->St->Prop),s.up++[s.loc]=pre++up.map (AA.ren σ pre.length) ->
     (∀σ',AO c σ σ'->AQF P fn.results.toList (s.up.length+1) K .ret (st'.fr.ren σ' pre.length) (st'.s.emb σ' pre))->E3 P f (args.map (V.ren σ pre.length)) s K:=by
    intro e st' h1 he h2
    obtain⟨hE,_,hC⟩:=hrec _ _ _ _ _ h1 hbd hck.2
    refine⟨fn,st',h2,hE.bd,hE.c,hE.n,fun σ pre s K hs hk=>?_⟩
    refine A1J hf hb (lC hf hb hck.1) (by simpa using hsz) ?_
    have e1:(⟨s.up++[s.loc],[]⟩:St)=(⟨up,[]⟩:St).emb σ pre:=by simp only[St.emb,hs];rfl
    rw[PE,e1]
    refine hC _ none σ pre _ (.inl rfl) fun σ' ha=>?_
    have:=hk σ' ha
    rcases he with rfl|rfl<;>exact this
   unfold mJ at hx1;split at hx1
   ·rename_i st' h1;exact main _ _ h1 (.inl rfl) hx1
   ·rename_i st' h1;exact main _ _ h1 (.inr rfl) hx1
   ·cases hx1
  ·cases hx
 ·cases hx
theorem mL(hP:D6 P){rec:F8}(hrec:W5 P rec){f:gv}{args:List V}{c:Nat}{up:List AA}{r:V}{c':Nat}{up':List AA}(hx:eG P rec f args c up=some (r,c',up'))(hargs:∀v∈args,UH c v)
  (hup:∀σ σ' δ,AO c σ σ'->up.map (AA.ren σ δ)=up.map (AA.ren σ' δ)) (hlp:∀L∈up,∀k γ fr ps asg body N st,L.get k=some (γ,.loop fr ps asg body N st)->TL N ps asg body=true):FX P f args c up r c' up':=by
 obtain⟨fn,st',hret,hbd,hc,hlen,hA⟩:=aL hP hrec hx hargs hup hlp
 unfold yQ at hret
 split at hret
 ·rename_i r0 hr0;split at hret
  ·rename_i r1 hr1;cases hret;refine⟨hc,AQS hbd hr0 hr1,fun σ σ' δ ha=>?_,by simpa using hlen,fun L hL k γ fr ps asg body N st hg=>?_,fun σ pre s K hs hk=>hA σ pre s K hs fun σ' ha=>?_⟩
   ·simp only[fg];exact bf fun L hL=>eI hbd.s (AEB hbd.s L hL) σ σ' δ ha
   ·obtain⟨L0,hL0,rfl⟩:=dk.1 hL;have hg:=eJ _ _ hg;obtain⟨i,hi,rfl⟩:=List.getElem_of_mem hL0;refine hbd.lp i k γ fr ps asg body N st ?_;unfold St.get;rw[if_neg (by omega),List.getElem?_eq_getElem hi];exact hg
   ·have hl2:(st'.s.emb σ' pre).up.length=s.up.length+1:=by have q:=congrArg dz hs;simp only[cg,cp,bp]at q;rw[DB,hlen];omega
    rcases dm (st'.s.emb σ' pre).up with h0|⟨u,l,h0⟩
    ·rw[h0]at hl2;simp at hl2
    ·have h0:(st'.s.emb σ' pre).up=u++[l]:=by simpa using h0
     have hu:u.length+1=s.up.length+1:=by rw[<-hl2,h0];simp
     have hcl:=OK 4 (J3 (σ:=σ') (pre:=pre) 4 hr1);have hres:=OL (σ:=σ') (pre:=pre) hr0;rcases dm (pre++(st'.s.up.map (AH st'.s)).map (AA.ren σ' pre.length))with h3|⟨u2,l2,h3⟩
     ·have h4:=congrArg dz h3;have h5:=congrArg dz h0;simp only[St.emb,cg,bp,List.length_nil,cp]at h4 h5;omega
     ·have h3:pre++(st'.s.up.map (AH st'.s)).map (AA.ren σ' pre.length)=u2++[l2]:=by simpa using h3
      have hK:=hk σ' u2 l2 ha h3.symm;have hS:=eH (s:=st'.s) (F:=st'.s.up) (u:=u) (l:=l) (u2:=u2) (l2:=l2) (σ:=σ') (pre:=pre) h0.symm h3.symm;exact⟨u,l,_,h0,hu,hres,.inl ⟨_,_,by rw[hcl];exact Wk.refl _,hS,hK⟩⟩
  ·cases hret
 ·cases hret
theorem VK{c:Nat}{args:List V}(h:args.all (AG 9)=true):∀v∈args,UH c v:=fun v hv σ σ' δ _=>by rw[EL 9 v (bh.1 h v hv),EL 9 v (bh.1 h v hv)]
theorem aM(hP:D6 P){rec:F8}(hrec:W5 P rec):HN P (EM P rec):=by
 intro f args r hx;unfold EM at hx;obtain⟨hcl,hx1⟩:=EH hx;split at hx1
 ·rename_i r0 c' up' h1;obtain⟨hr,rfl⟩:=JO hx1;obtain⟨_,_,_,hlen,_,hA⟩:=mL hP hrec h1 (VK hcl) (fun _ _ _ _=>rfl) (fun L hL=>by cases hL);have hargs:∀v∈args,∀σ δ,V.ren σ δ v=v:=fun v hv σ δ=>EL 9 v (bh.1 hcl v hv);have hup:up'=[]:=ct hlen;refine⟨fun s=>?_,hargs,fun σ δ=>EL 9 _ hr⟩;have:=hA id (s.up++[s.loc]) s (fun r' s'=>r'=r0/\s'=s) (by simp) fun σ' u l _ hu=>?_
  ·have e:args.map (V.ren id (s.up++[s.loc]).length)=args:=by
    conv=>rhs;rw[<-cn args]
    exact bf fun v hv=>hargs v hv _ _
   rw[e]at this;exact this
  ·rw[hup]at hu;simp only[dj,List.append_nil]at hu;obtain⟨e1,e2⟩:=df hu rfl;refine⟨EL 9 _ hr,?_⟩;subst e1;simp only[List.cons.injEq,and_true]at e2;subst e2;rfl
 ·cases hx1
theorem aN(hP:D6 P){kn:CF0}(hkn:HN P kn){rec:F8}(hrec:W5 P rec):HN P (A3 P kn rec):=by
 intro f args r hx;unfold A3 at hx;split at hx
 ·rename_i r0 h0;cases hx;exact hkn _ _ _ h0
 ·exact aM hP hrec _ _ _ hx
theorem aO(hP:D6 P){kn:CF0}(hkn:HN P kn){rec:F8}(hrec:W5 P rec):HN P (FI P kn rec):=by
 intro f args r hx;unfold FI at hx;split at hx
 ·rename_i r0 h0;cases hcl:args.all (AG 9)with
  |false=>rw[hcl]at hx;exact aN hP hkn hrec _ _ _ hx
  |true=>
   rw[hcl]at hx
   cases hx
   obtain⟨hA,_,h2⟩:=aN hP hkn hrec _ _ _ h0
   exact⟨fun s=>⟨(hA s).1,fun G vals w R hI ha hR=>(hA s).2 G vals w R hI ha.weakN hR⟩,fun v hv σ δ=>EL 9 v (bh.1 hcl v hv),h2⟩
 ·exact aN hP hkn hrec _ _ _ hx
theorem handed(hP:D6 P){rec:F8}(hrec:W5 P rec){f:gv}{args:List V}{ret:Func->XS->Option Mk}{r:Mk}{d:Tmp}(hcl:args.all (AG 9)=true)(hx:WQ P rec ret f args 0 []=some r)
  (hr:∀(fn:Func) (st':XS),ret fn st'=some r->st'.s.up=[]->∀(s:St) (σ':Nat->Nat),∃r0,FM P fn.results.toList (st'.fr.ren σ' (s.up++[s.loc]).length) (st'.s.emb σ' (s.up++[s.loc]))=some r0 /\
   ((∃k γ T es,(st'.s.emb σ' (s.up++[s.loc])).loc.get k=some (γ,.vec T es)/\xQ (s.up.length+1) k s.up.length d 4 r0=r.val s.up.length d γ/\r.res=.vec T es)\/(∃T,WZ r0=true/\r=⟨.vec T [],none⟩)))
  (s:St):E3 P f args s fun v s'=>∃γ,v=r.val s.up.length d γ/\s'=s.put s.up.length d γ r.res:=by
 obtain⟨fn,st',hret,hbd,hc,hlen,hA⟩:=aL hP hrec hx (VK hcl) (fun _ _ _ _=>rfl) (fun L hL=>by cases hL)
 have hargs:∀v∈args,∀σ δ,V.ren σ δ v=v:=fun v hv σ δ=>EL 9 v (bh.1 hcl v hv)
 have hup:st'.s.up=[]:=ct hlen
 have:=hA id (s.up++[s.loc]) s (fun v s'=>∃γ,v=r.val s.up.length d γ/\s'=s.put s.up.length d γ r.res) (by simp) fun σ' _=>?_
 ·have e:args.map (V.ren id (s.up++[s.loc]).length)=args:=by
   conv=>rhs;rw[<-cn args]
   exact bf fun v hv=>hargs v hv _ _
  rw[e]at this;exact this
 ·obtain⟨r0,h1,h2⟩:=hr fn st' hret hup s σ';refine⟨s.up,s.loc,r0,by simp[St.emb,hup],rfl,h1,.inr ?_⟩;rcases h2 with⟨k,γ,T,es,h3,h4,h5⟩|⟨T,h3,h4⟩
  ·exact .inl ⟨k,γ,T,es,d,h3,γ,h4,by rw[h5]⟩
  ·subst h4;exact .inr ⟨d,T,h3,fun γ=>⟨γ,rfl,rfl⟩⟩
theorem eK(hP:D6 P){rec:F8}(hrec:W5 P rec){f:gv}{args:List V}{r:Mk}{d:Tmp}(hx:GO P rec f args=some r) :
  (∀(s:St),E3 P f args s fun v s'=>∃γ,v=r.val s.up.length d γ/\s'=s.put s.up.length d γ r.res)/\(∀v∈args,∀σ δ,v.ren σ δ=v)/\(∀σ δ,r.res.ren σ δ=r.res)/\bQ r.res=true:=by
 unfold GO at hx
 obtain⟨hcl,hx1⟩:=EH hx
 have hargs:∀v∈args,∀σ δ,V.ren σ δ v=v:=fun v hv σ δ=>EL 9 v (bh.1 hcl v hv)
 have main:∀(fn:Func) (st':XS),qK P fn st'=some r->((∀σ δ,r.res.ren σ δ=r.res)/\bQ r.res=true)/\(st'.s.up=[]->∀(s:St) (σ':Nat->Nat),∃r0,FM P fn.results.toList (st'.fr.ren σ' (s.up++[s.loc]).length) (st'.s.emb σ' (s.up++[s.loc]))=some r0 /\
   ((∃k γ T es,(st'.s.emb σ' (s.up++[s.loc])).loc.get k=some (γ,.vec T es)/\xQ (s.up.length+1) k s.up.length d 4 r0=r.val s.up.length d γ/\r.res=.vec T es)\/(∃T,WZ r0=true/\r=⟨.vec T [],none⟩))):=by
  intro fn st' hret
  unfold qK at hret
  split at hret
  ·rename_i l k γ n hres;obtain⟨hl,hret⟩:=EH hret;have hl:=bj hl;split at hret
   ·rename_i γ' T es hget;obtain⟨hc2,he⟩:=JO hret;cases he;simp only[bx]at hc2;obtain⟨⟨h1,h2⟩,h3⟩:=hc2;have h1:=bj h1;have h2:=bj h2;subst h1;subst h2;have hes:∀σ δ,es.map (cj (V.ren σ δ))=es:=fun σ δ=>by
     conv=>rhs;rw[<-cn es]
     exact bf fun e he=>MZ (fun v=>EL 9 v) (bh.1 h3 e he)
    refine⟨⟨fun σ δ=>by simp only[AV.ren,hes],rfl⟩,fun hup s σ'=>⟨_,OL hres,.inl ⟨k,σ' γ',T,es,?_,?_,rfl⟩⟩⟩
    ·rw[KQ,hget];simp only[bq,AV.ren,hes]
    ·rw[hup]at hl;subst hl;simp[xQ,Mk.val,HF]
   ·cases hret
  ·rename_i v hnv hres;obtain⟨hn,hret⟩:=EH hret;split at hret
   ·split at hret
    ·rename_i T _;cases hret;exact⟨⟨fun _ _=>rfl,rfl⟩,fun hup s σ'=>⟨_,OL hres,.inr ⟨_,by rw[ADZ];exact hn,rfl⟩⟩⟩
    ·cases hret
   ·cases hret
  ·cases hret
 obtain⟨fn,st',hret,_⟩:=aL hP hrec hx1 (VK hcl) (fun _ _ _ _=>rfl) (fun L hL=>by cases hL)
 exact⟨handed hP hrec hcl hx1 fun fn st' h=>(main fn st' h).2,hargs,(main fn st' hret).1⟩
theorem CR.nought{G:Gh}{s:St}{w:World}(hI:CR G s w)(d γ:Nat):CR G (s.put s.up.length d γ .dead) w:=by
 have look:∀{l k x},(s.put s.up.length d γ .dead).get l k=some x->x=(γ,.dead)\/s.get l k=some x:=fun {l k x} h=>by
  rw[St.get_putLoc]at h;split at h
  ·exact .inl (cw.inj h).symm
  ·exact .inr h
 refine⟨hI.sl,fun l k g r h=>?_,fun l k g r l' k' g' r' b h1 h2 h3 h4=>?_,fun l k g r b h1 h2=>?_,hI.fresh,hI.env⟩
 ·rcases look h with e|e
  ·cases e;trivial
  ·exact hI.res _ _ _ _ e
 ·rcases look h1 with e|e1
  ·cases e;cases h3
  ·rcases look h2 with e|e2
   ·cases e;cases h4
   ·exact hI.sep _ _ _ _ _ _ _ _ _ e1 e2 h3 h4
 ·rcases look h1 with e|e
  ·cases e;cases h2
  ·exact hI.out _ _ _ _ _ e h2
theorem AQT{f:gv}{args:List V}{r:Mk}{d:Tmp}(hx:koV P f args=some r) :
  (∀(s:St),E3 P f args s fun v s'=>∃γ,v=r.val s.up.length d γ/\s'=s.put s.up.length d γ r.res)/\(∀v∈args,∀σ δ,v.ren σ δ=v)/\(∀σ δ,r.res.ren σ δ=r.res)/\bQ r.res=true:=by
 unfold koV at hx
 split at hx
 ·split at hx
  ·rename_i T _;split at hx
   ·rename_i hv;cases hx;exact⟨fun s=>hv d s,fun v hm σ δ=>by rw[List.mem_singleton.1 hm];rfl,fun σ δ=>rfl,rfl⟩
   ·cases hx
  ·cases hx
 ·cases hx
theorem AEC(hP:D6 P){rec:F8}(hrec:W5 P rec){f:gv}{T:gq}(h:∀a c,GO P rec f [.raw (.slice a 0 c)]=some ⟨.vec T [],none⟩):gX P f T:=fun d s=>by
 have hA:=fun a c=>(eK hP hrec (d:=d) (h a c)).1 s;refine⟨(hA none 0).1,fun G vals w R hI ha hR=>?_⟩;obtain⟨l⟩:=vals;match l,ha with
 |[v],ha=>
  have hv:RepV G (.list false []) v:=ha.2 0 (by simp) (by simp)
  cases hv with
  |list _ _ a cap b off sz arr T fz vs hcap hfull h1 hl hv hr=>
   refine(hA a cap).2 G _ w R hI ⟨by simp,fun i h1 h2=>?_⟩ hR
   obtain rfl:i=0:=by simp at h1;omega
   exact .raw _ rfl
 |[],ha=>exact absurd ha.1 (by simp)
 |_::_::_,ha=>exact absurd ha.1 (by simp)
theorem AED(hP:D6 P){kn:CF0}(hkn:HN P kn){ko:CFO}(hko:qF P ko){rec:F8}(hrec:W5 P rec):qF P (TU P kn ko rec):=by
 intro f args d r hx;unfold TU at hx;split at hx
 ·rename_i r0 h0;cases hx;exact hko _ _ _ _ h0
 ·cases hs:JA P f with
  |true=>
   rw[hs]at hx
   have hx:orM (GO P rec f args) (koV P f args)=some r:=hx
   cases h1:GO P rec f args with
   |some r1=>
    rw[h1]at hx
    cases hx
    exact eK hP hrec h1
   |none=>
    rw[h1]at hx
    exact AQT hx
  |false=>
   rw[hs]at hx
   have hx:(match FI P kn rec f args with
    |some r=>some (⟨.dead,some r⟩:Mk)
    | none=>none)=some r:=hx
   split at hx
   ·rename_i r0 h0;cases hx;obtain⟨hA,h1,h2⟩:=aO hP hkn hrec _ _ _ h0;refine⟨fun s=>⟨(hA s).1,fun G vals w R hI ha hR=>(hA s).2 G vals w R hI ha fun G' v u w' s' hle hI' hv hlen hk=>?_⟩,h1,fun _ _=>rfl,rfl⟩;obtain⟨rfl,rfl⟩:=hk;exact hR G' _ u w' (s'.put s'.up.length d 0 .dead) hle (hI'.nought d 0) hv (St.put_len _ _ _ _ _) ⟨0,(h2 _ _).symm,rfl⟩
   ·cases hx
theorem AEE(hP:D6 P){kn:CF0}(hkn:HN P kn){rec:F8}(hrec:W5 P rec):eC P (aH P kn rec):=by
 intro f args st r st' hx hbd hargs;unfold aH at hx;cases hcl:(args.all (AG 9)&&!(BI P f))with
 |true=>
  rw[hcl]at hx
  have hx:(match FI P kn rec f args with|some r=>some (r,st)|none=>none)=some (r,st'):=hx
  split at hx
  ·rename_i r0 h0;cases hx;obtain⟨hA,h1,h2⟩:=aO hP hkn hrec _ _ _ h0;refine⟨⟨bn _,hbd,rfl⟩,fun σ σ' δ _=>by rw[h2,h2],rfl,fun σ pre K hk=>?_⟩;have e:args.map (V.ren σ pre.length)=args:=by
    conv=>rhs;rw[<-cn args]
    exact bf fun v hv=>h1 v hv _ _
   rw[e];refine(hA (st.s.emb σ pre)).mono fun r' s' q5=>?_;obtain⟨rfl,rfl⟩:=q5;have:=hk σ (AO.refl _ _);rwa [h2]at this
  ·cases hx
 |false=>
  rw[hcl]at hx
  have hx:(match eG P rec f args st.c (st.s.up++[st.s.loc])with
   |some (r,c,up)=>match B9 up with
    |some (u,l)=>some (r,(⟨c,st.fr,⟨u,l⟩⟩:XS))
    |none=>none
   | none=>none)=some (r,st'):=hx
  split at hx
  ·rename_i r0 c0 up0 h1;split at hx
   ·rename_i u l hu;cases hx;have hup0:=OP hu;have hsb:∀σ σ' δ,AO st.c σ σ'->(st.s.up++[st.s.loc]).map (AA.ren σ δ)=(st.s.up++[st.s.loc]).map (AA.ren σ' δ):=by intro σ σ' δ ha;have:=hbd.s σ σ' (bw δ []) ha;simp only[St.emb,St.mk.injEq,bb]at this;simp only[bc,dv,dj];rw[db this.1,this.2]
    have hlp:∀L∈st.s.up++[st.s.loc],∀k γ fr ps asg body N st,L.get k=some (γ,.loop fr ps asg body N st)->TL N ps asg body=true:=by intro L hL k γ fr ps asg body N ls hg;obtain⟨i,hi⟩:=List.getElem?_of_mem hL;refine hbd.lp i k γ fr ps asg body N ls ?_;have:=HQ st.s.up st.s.loc i k;rw[hi]at this;exact this.trans hg
    obtain⟨hc,hrb,hub,hlen,hlp',hA⟩:=mL hP hrec h1 hargs hsb hlp;subst hup0;refine⟨⟨hc,⟨fun σ σ' δ ha=>hbd.f σ σ' δ (ha.mono hc),fun σ σ' pre ha=>?_,fun i k γ fr ps asg body N ls hg=>?_⟩,?_⟩,hrb,rfl,fun σ pre K hk=>?_⟩
    ·have:=hub σ σ' pre.length ha;simp only[bc,dv,dj]at this;obtain⟨e1,e2⟩:=df this rfl;simp only[List.cons.injEq,and_true]at e2;simp only[St.emb,e1,e2]
    ·rw[HQ]at hg;split at hg
     ·rename_i L hL;exact hlp' L (fk hL) _ _ _ _ _ _ _ _ hg
     ·cases hg
    ·simp only[cg,cp]at hlen;simp only;omega
    ·refine hA σ pre (st.s.emb σ pre) K (by simp[St.emb]) fun σ' u' l' ha hu'=>?_;have:=hk σ' ha;simp only[bc,dv,dj,<-List.append_assoc]at hu';obtain⟨e1,e2⟩:=df hu' rfl;simp only[List.cons.injEq,and_true]at e2;subst e1;subst e2;exact this
   ·cases hx
  ·cases hx
end Go.Pg
