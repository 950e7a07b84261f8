/- Running a Go function upon abstract values, by computing: one operation, and that it is what the walk asks. No program in sight. -/
import Derived.Test.YthhdhbalenanjaaGreatP5
noncomputable section
open Go renaming Oper->ft,Program->gk,Operand->gq,TypeId->gv,FuncId->gw,Code->gx
open Nat renaming eq_of_beq_eq_true->bj,beq->bz,lt_succ_self->bm,le_refl->bn,le_succ->cq,blt->cx,ble_eq->cz,blt_eq->cd,le_trans->dh,ble->dp,lt_of_lt_of_le->fw
open Option renaming bind_eq_some_iff->bk,map_some->bq,bind_some->bg,some->cw
open List renaming replicate->bw,length_replicate->bb,map_append->bc,map_congr_left->bf,all_eq_true->bh,length_map->bp,map->cj,map_take->ck,length_append->cg,map_inj_left->cm,map_id->cp,length_singleton->ct,eq_nil_of_length_eq_zero->dj,map_nil->dk,mem_map->dq,getElem?_append_right->dv,map_cons->dw,getElem?_append_left->dx,map_replicate->dz,length->db,append_cancel_left->dc,map_flatten->df,append_inj'->dg,mem_append_right->dl,getElem?_eq_none->dm,eq_nil_or_concat->dn,getElem?_mapIdx->dr,mem_append->dt,mem_append_left->fk,mem_of_getElem?->fq,all_map->fx,length_mapIdx->fc,map_map->fh
open Bool renaming and_eq_true->bx,or_eq_false_iff->fj,not_eq_true'->fg
open Prod renaming mk->fp
namespace Go.Pg
variable {P:gk}{Ω:HP P}{σ σ':Nat->Nat}{δ:Nat}{pre:List AA}{s:St}{fr:Fr}{g:Bool}
def LB(all:List ft)(o:ft):Option (Tmp×Bool):=match o.guard with
 |none=>none
 |some (j,w)=>match all[j]? with
  |some p=>match p.dst with
   |some d=>some (d,w)
   |none=>none
  |none=>none
def wB(all:List ft):Bool:=all.all fun o=>HL all o (LB all o)
theorem iO{all:List ft}:∀{l:List ft},(∀o∈l,HL all o (LB all o)=true)->JS all (l.map (LB all)) l=true
 |[],_=>rfl
 |o::l,h=>by simp only[dw,JS,bx];exact⟨h o (by simp),iO fun p hp=>h p (by simp[hp])⟩
theorem UG{all:List ft}(h:wB all=true):∀o∈all,HL all o (LB all o)=true:=fun o ho=>bh.1 h o ho
def A3P(d:Tmp)(p:ft):Bool:=match p.op with
 |.call { callee:=.builtin .append,args,.. }=>match args.toList with
  |.tmp t::_=>bz t d
  |_=>false
 |.call { callee:=.value (.func _),args,argTypes }=>match args.toList,argTypes.toList with
  |[.tmp t,_],[T,U]=>bz t d&&bz T p.type&&!(bz U T)
  |_,_=>false
 |_=>false
def ASH(d:Tmp)(p:ft):Bool:=match p.op with
 |.store _ _ (.tmp t)=>bz t d
 |_=>false
def DQ(l:List ft)(o:ft):Bool:=match o.op,o.dst with
 |.call { callee:=.value _,.. },some d=>l.any fun p=>A3P d p||ASH d p
 |_,_=>false
def kS(o:ft):Bool:=match o.op with
 |.mapUpdate ..|.insert ..=>true
 |.call { callee:=.builtin b,.. }=>match b with
  |.len|.max|.min|.cap|.append=>false
  |_=>true
 |_=>false
def kC(o:ft):Bool:=match o.op with
 |.call { callee:=.value _,.. }=>true
 |_=>false
def onB(o:ft)(A:List Nat):Bool:=o.after.any fun e=>Region.binds .any e&&A.contains e.on
def A3Q(o:ft)(l:List ft)(A:List Nat):Bool:=kW o&&l.isEmpty&&A.all fun j=>o.after.any fun e=>Region.binds .any e&&bz e.on j
def A3R(o:ft)(i:Nat):List Nat->List Nat
 |[]=>[i]
 |a::A=>cond (onB o [a]) (i::a::A) (a::A3R o i A)
def KF(own:ft->Bool):List ft->Nat->List Nat->List Nat->List Nat->List Nat->List Nat->List Nat->List Nat×List Nat
 |[],_,R,Q,A,S,R2,T=>(R.reverse++Q.reverse++A.reverse++S.reverse++R2.reverse,T.reverse)
 |o::l,i,R,Q,A,S,R2,T=>
  cond (onB o T||kS o||A3Q o l (R++Q++A++S++R2++T)||(kC o&&(onB o (Q++S++R2)||(!(own o)&&onB o A)))) (KF own l (i+1) R Q A S R2 (i::T))
   (cond (kP o) (cond (onB o (A++S++R2)) (KF own l (i+1) R Q A S (i :: R2) T) (KF own l (i+1) R (i :: Q) A S R2 T))
   (cond (kW o) (cond (onB o R2) (KF own l (i+1) R Q A S (i :: R2) T) (KF own l (i+1) R Q A (i :: S) R2 T))
    (cond (onB o (Q++S++R2)||(cond (kA own o) (!R2.isEmpty) (onB o (A.take 1)))) (KF own l (i+1) R Q A S (i :: R2) T)
     (cond (kA own o) (KF own l (i+1) R Q (i :: A) S R2 T) (cond (onB o A) (KF own l (i+1) R Q (A3R o i A) S R2 T) (KF own l (i+1) (i :: R) Q A S R2 T))))))
def AOX(af:Nat):List (Nat×Nat)->Nat->Nat
 |[],m=>m
 |p::r,m=>HQ (cond (VU af p.1) (Nat.lor m (Nat.lor p.2 (Nat.shiftLeft 1 p.1))) m) (AOX af r)
def A3S:List (Nat×Nat)->List (Nat×Nat)->List (Nat×Nat)
 |[],acc=>acc
 |p::r,acc=>HQ (AOX p.2 acc 0) fun m=>A3S r ((p.1,m)::acc)
def ASI(l:List ft):List Nat:=((A3S (afL l 0) []).filterMap fun p=>cond (bz p.2 (Nat.sub (Nat.pow 2 p.1) 1)) (match l[p.1]? with
 |some o=>cond (kC o&&bz (KW p.1 (afL l 0) 0) (Nat.sub (Nat.pow 2 l.length) (Nat.pow 2 (p.1+1)))) (some p.1) none
 | none=>none) none).reverse
def AOY(own:ft->Bool)(l:List ft):Nat->List Nat->XN
 |i,[]=>[KF own (l.drop i) i [] [] [] [] [] []]
 |i,c::cs=>match KF own ((l.drop i).take (c-i)) i [] [] [] [] [] []with
  |(R,T)=>(R,T++[c])::AOY own l (c+1) cs
def dJ(l:List ft):XN:=AOY (DQ l) l 0 (ASI l)
def ASJ(l:List ft):List Nat:=l.filterMap fun o=>cond (kA (DQ l) o) o.dst none
def GG:gx->Bool
 |.seq a b=>GG a&&GG b
 |.cond _ a b=>GG a&&GG b
 |.block _ c=>GG c
 |.loop c=>GG c
 |.scope _=>false
 |.rangeFunc ..=>false
 |_=>true
def EV(N:Nat):gx->Bool
 |.region _ ops draw=>cond draw (O1 (DQ ops.toList) N (ops.toList.map (LB ops.toList)) (dJ ops.toList) ops.toList) (L6 N ops.toList&&wB ops.toList)
 |.seq a b=>EV N a&&EV N b
 |.cond _ a b=>EV N a&&EV N b
 |.block _ c=>EV N c
 |.loop c=>EV N c
 |.scope c=>EV N c
 |.rangeFunc _ ps asg body=>ps.toList.all (fun p=>cx p N)&&GG asg&&GG body&&EV N asg&&EV N body
 |_=>true
def UH(N:Nat)(ps:List Tmp)(asg body:gx):Bool:=ps.all (fun p=>cx p N)&&GG asg&&GG body&&EV N asg&&EV N body
def UI(s:St):Prop:=∀l k γ fr ps asg body N st,s.get l k=some (γ,.loop fr ps asg body N st)->UH N ps asg body=true
theorem sE{s:St}{l k γ:Nat}{r:AX}{l' k':Nat}{x:Nat×AX}(h:(s.put l k γ r).get l' k'=some x):x=(γ,r)\/s.get l' k'=some x:=by
 unfold St.put at h;unfold St.get at h|-;by_cases e1:l=s.up.length
 ·rw[if_pos e1]at h;by_cases e2:l'=s.up.length
  ·rw[if_pos e2]at h|-;rw[AA.get_put]at h;split at h
   ·exact .inl (cw.inj h).symm
   ·exact .inr h
  ·rw[if_neg e2]at h|-;exact .inr h
 ·rw[if_neg e1]at h;have hl:({ s with up:=s.up.modify l (fun L=>L.put k γ r) }:St).up.length=s.up.length:=by simp
  rw[hl]at h;by_cases e2:l'=s.up.length
  ·rw[if_pos e2]at h|-;exact .inr h
  ·rw[if_neg e2]at h|-;rw[List.getElem?_modify]at h;cases hu:s.up[l']? with
   |none=>simp[hu]at h
   |some L=>
    rw[hu]at h
    simp only[Option.map_eq_map,bq]at h
    by_cases e3:l=l'
    ·simp only[e3,if_true,AA.get_put]at h;split at h
     ·exact .inl (cw.inj h).symm
     ·exact .inr h
    ·simp only[e3,if_false]at h;exact .inr h
theorem UI.put{s:St}(h:UI s){l k γ:Nat}{r:AX}(hr:∀fr ps asg body N st,r=.loop fr ps asg body N st->UH N ps asg body=true):UI (s.put l k γ r):=by
 intro l' k' γ' fr ps asg body N st hg;rcases sE hg with e|e
 ·cases e;exact hr _ _ _ _ _ _ rfl
 ·exact h _ _ _ _ _ _ _ _ _ e
structure XS where
 c:Nat
 fr:Fr
 s:St
def BD(fr:Fr)(k:Nat):Option (Bool×V):=List.rec (motive:=fun _=>Option (Bool×V)) none (fun x _ ih=>Bool.rec ih (some x.2) (bz k x.1)) fr
theorem FJ:∀(fr:Fr) (k:Nat),BD fr k=fr.get k
 |[],_=>rfl
 |(j,x)::fr,k=>by
  show(Bool.rec (BD fr k) (some x) (bz k j):Option (Bool×V))=if k=j then some x else Fr.get fr k
  by_cases h:k=j
  ·subst h;rw[if_pos rfl,Nat.beq_refl]
  ·rw[if_neg h,<-FJ fr k];have:bz k j=false:=by
    cases hb:bz k j with
    |false=>rfl
    |true=>exact absurd (bj hb) h
   rw[this]
def CI(fr:Fr)(x:gq):Option V:=match x with
 |.tmp t=>match BD fr t with
  |some (true,v)=>some v
  |_=>none
 |.const v=>CQ v
 |.func f=>some (.fn f [] [])
 |.global _=>none
theorem DZ(x:gq):CI fr x=DW true fr x:=by
 cases x with
 |tmp t=>
  simp only[CI,DW,rd,FJ]
  cases fr.get t with
  |none=>rfl
  |some p=>
   obtain⟨c,v⟩:=p
   cases c<;>rfl
 |const v=>
  simp only[CI,DW,rd]
  cases CQ v<;>rfl
 |func f=>rfl
 |global g=>rfl
theorem FK:CI fr=DW true fr:=funext fun x=>DZ x
def AO(c:Nat)(σ σ':Nat->Nat):Prop:=∀i,i<c->σ i=σ' i
theorem AO.refl(c:Nat)(σ:Nat->Nat):AO c σ σ:=fun _ _=>rfl
theorem AO.trans{c c':Nat}{σ σ' σ'':Nat->Nat}(h:AO c σ σ')(h':AO c' σ' σ'')(hc:c<=c'):AO c σ σ'':=fun i hi=>(h i hi).trans (h' i (fw hi hc))
theorem AO.mono{c c':Nat}(h:AO c' σ σ')(hc:c<=c'):AO c σ σ':=fun i hi=>h i (fw hi hc)
theorem AO.upd(c γ:Nat)(σ:Nat->Nat):AO c σ (fun i=>if i=c then γ else σ i):=fun i hi=>by simp[Nat.ne_of_lt hi]
structure Bd(st:XS):Prop where
 f:∀σ σ' δ,AO st.c σ σ'->st.fr.ren σ δ=st.fr.ren σ' δ
 s:∀σ σ' pre,AO st.c σ σ'->st.s.emb σ pre=st.s.emb σ' pre
 lp:UI st.s
def U4(c:Nat)(v:V):Prop:=∀σ σ' δ,AO c σ σ'->v.ren σ δ=v.ren σ' δ
structure KQ(st st':XS):Prop where
 c:st.c<=st'.c
 bd:Bd st'
 n:st'.s.up.length=st.s.up.length
def StepX(P:gk)(o:ft)(st st':XS):Prop:=KQ st st'/\∀(σ:Nat->Nat) (pre:List AA) (k:Fr->St->Prop),(∀σ',AO st.c σ σ'->k (st'.fr.ren σ' pre.length) (st'.s.emb σ' pre))->EJ P true o (st.fr.ren σ pre.length) (st.s.emb σ pre) k
theorem FU(d:Option Tmp)(c:Bool)(v:V):(putD fr d c v).ren σ δ=putD (fr.ren σ δ) d c (v.ren σ δ):=by cases d<;>rfl
theorem HV(d:Nat)(c:Bool)(v:V):(fr.put d c v).ren σ δ=(fr.ren σ δ).put d c (v.ren σ δ):=rfl
theorem U4.mono{c c':Nat}{v:V}(h:U4 c v)(hc:c<=c'):U4 c' v:=fun σ σ' δ ha=>h σ σ' δ (ha.mono hc)
theorem Bd.val{st:XS}(h:Bd st){o:ft}{v:V}(hv:FT P g o st.fr st.s=some v):U4 st.c v:=by intro σ σ' δ ha;have h1:=JA (σ:=σ) (pre:=bw δ []) hv;have h2:=JA (σ:=σ') (pre:=bw δ []) hv;rw[h.f σ σ' _ ha,h.s σ σ' _ ha,h2]at h1;have:=cw.inj h1;rw[bb]at this;exact this.symm
theorem Bd.rd{st:XS}(h:Bd st){x:gq}{v:V}(hv:CI st.fr x=some v):U4 st.c v:=by intro σ σ' δ ha;rw[DZ]at hv;have h1:=DM (g:=true) (fr:=st.fr) (σ:=σ) (δ:=δ) x;have h2:=DM (g:=true) (fr:=st.fr) (σ:=σ') (δ:=δ) x;rw[h.f σ σ' _ ha,h2,hv]at h1;simpa using h1.symm
theorem Bd.putF{st:XS}(h:Bd st){d:Option Tmp}{c:Bool}{v:V}(hv:U4 st.c v):Bd { st with fr:=putD st.fr d c v } :=
 ⟨fun σ σ' δ ha=>by simp only[FU];rw[h.f σ σ' δ ha,hv σ σ' δ ha],h.s,h.lp⟩
def dK:AX->Bool
 |.loop ..=>false
 |_=>true
theorem V0{r:AX}(h:dK r=true):∀fr ps asg body N st,r=.loop fr ps asg body N st->UH N ps asg body=true:=by intro fr ps asg body N st e;subst e;cases h
theorem Bd.putS{st:XS}(h:Bd st){l k γ:Nat}{r:AX}(hγ:γ<st.c)(hr:∀σ σ' δ,AO st.c σ σ'->r.ren σ δ=r.ren σ' δ)(hp:dK r=true:=by rfl):Bd { st with s:=st.s.put l k γ r } :=
 ⟨h.f,fun σ σ' pre ha=>by simp only[CT];rw[h.s σ σ' pre ha,hr σ σ' _ ha,ha γ hγ],h.lp.put (V0 hp)⟩
theorem AAM{o:ft}{st:XS}{v:V}(h:Bd st)(hv:FT P true o st.fr st.s=some v):StepX P o st { st with fr:=putD st.fr o.dst true v }:=by refine⟨⟨bn _,h.putF (h.val hv),rfl⟩,fun σ pre k hk=>DP (Ω:=HP.nothing P) (.inl ⟨_,JA hv,?_⟩)⟩;have:=hk σ (AO.refl _ _);rwa [FU]at this
theorem aV{c:Nat}{v:V}(h:U4 c v)(σ σ':Nat->Nat)(δ:Nat)(ha:AO c σ σ'):(A8 v).map (V.ren σ δ)=(A8 v).map (V.ren σ' δ):=by rw[<-EO,<-EO,h σ σ' δ ha]
def iP(P:gk)(Ω:HP P)(o:ft)(st st':XS):Prop:=KQ st st'/\∃d,o.dst=some d/\∀(σ:Nat->Nat) (pre:List AA) (k:Fr->St->Prop),(∀σ',AO st.c σ σ'->k (st'.fr.ren σ' pre.length) (st'.s.emb σ' pre)) ->
 ∃r,QL P Ω o (st.fr.ren σ pre.length)=some r/\∀γ,k ((st.fr.ren σ pre.length).put d true (r.val (st.s.emb σ pre).up.length d γ)) ((st.s.emb σ pre).put (st.s.emb σ pre).up.length d γ r.res)
theorem iP.step{o:ft}{st st':XS}(h:iP P Ω o st st'):StepX P o st st':=by obtain⟨h1,d,hd,h2⟩:=h;refine⟨h1,fun σ pre k hk=>?_⟩;obtain⟨r,hr,h3⟩:=h2 σ pre k hk;exact DP (Ω:=Ω) (.inr (.inr ⟨r,d,rfl,hd,hr,h3⟩))
theorem fC{o:ft}{st:XS}{d:Nat}{cs:List V}(h:Bd st)(hd:o.dst=some d)(hcs:∀σ σ' δ,AO st.c σ σ'->cs.map (V.ren σ δ)=cs.map (V.ren σ' δ))
  (hn:∀σ pre,QL P Ω o (st.fr.ren σ (db (α:=AA) pre))=some ⟨.box (cs.map (V.ren σ pre.length)),none⟩) :
  iP P Ω o st ⟨st.c+1,st.fr.put d true (.ptr st.s.up.length d st.c 0),st.s.put st.s.up.length d st.c (.box cs)⟩:=by
 have hb:∀σ σ',AO (st.c+1) σ σ'->AO st.c σ σ':=fun σ σ' ha=>ha.mono (cq _)
 refine⟨⟨cq _,⟨fun σ σ' δ ha=>?_,fun σ σ' pre ha=>?_,h.lp.put (V0 rfl)⟩,St.put_len _ _ _ _ _⟩,d,hd,fun σ pre k hk=>⟨_,hn σ pre,fun γ=>?_⟩⟩
 ·simp only[HV,HT];rw[h.f σ σ' δ (hb _ _ ha),ha st.c (bm _)]
 ·simp only[CT,AX.ren];rw[h.s σ σ' pre (hb _ _ ha),hcs σ σ' _ (hb _ _ ha),ha st.c (bm _)]
 ·have:=hk (fun i=>if i=st.c then γ else σ i) (AO.upd _ _ _);have ha:=AO.upd st.c γ σ;simp only[HV,HT,if_true,CT,AX.ren]at this;rw[<-h.f _ _ _ ha,<-h.s _ _ _ ha,<-hcs _ _ _ ha]at this;rw[DE];exact this
def O6(P:gk)(d:Option Tmp)(T:gv)(st:XS):Option XS:=match d,CA P T with
 |some d,some cs=>some ⟨st.c+1,(d,true,.ptr st.s.up.length d st.c 0)::st.fr,st.s.put st.s.up.length d st.c (.box cs)⟩
 |_,_=>none
def nL(d:Option Tmp)(x:gq)(st:XS):Option XS:=match d,CI st.fr x with
 |some d,some v=>Bool.rec none (some ⟨st.c+1,(d,true,.ptr st.s.up.length d st.c 0)::st.fr,st.s.put st.s.up.length d st.c (.box (A8 v))⟩) (A9 v)
 |_,_=>none
theorem fD{o:ft}{T:gv}{st st':XS}(h:Bd st)(ho:o.op=.alloc T)(hx:O6 P o.dst T st=some st'):iP P Ω o st st':=by
 unfold O6 at hx;split at hx
 ·rename_i d cs hd hz;cases hx;refine fC h hd (fun σ σ' δ _=>by rw[G7 hz,G7 hz]) fun σ pre=>?_;simp[QL,ho,hz,G7 hz]
 ·cases hx
theorem wC{o:ft}{T:gv}{x:gq}{st st':XS}(h:Bd st)(ho:o.op=.box T x)(hx:nL o.dst x st=some st'):iP P Ω o st st':=by
 unfold nL at hx;split at hx
 ·rename_i d v hd hv;cases hf:A9 v with
  |false=>rw[hf]at hx;cases hx
  |true=>
   rw[hf]at hx
   cases hx
   refine fC h hd (fun σ σ' δ ha=>aV (h.rd hv) σ σ' δ ha) fun σ pre=>?_
   rw[DZ]at hv
   simp[QL,ho,DM,hv,IJ,hf,EO]
 ·cases hx
def XA(P:gk)(d:Option Tmp)(T:gv)(x y:gq)(st:XS):Option XS:=match d,BT P T with
 |some d,some (none,e)=>match CI st.fr x,CI st.fr y with
  |some (.int _ n),some (.int _ m)=>match CA P e with
   |some z=>if 0<=n/\m=n/\z.length=P.cellsOf e/\n.toNat*P.bytesOf e<=140737488355328/\n.toNat<=maxLen then
     some ⟨st.c+1,(d,true,.vec st.s.up.length d st.c n.toNat)::st.fr,st.s.put st.s.up.length d st.c (.vec e (bw n.toNat z))⟩ else none
   |none=>none
  |_,_=>none
 |_,_=>none
theorem nM{o:ft}{T:gv}{x y:gq}{st st':XS}(h:Bd st)(ho:o.op=.makeSlice T x y)(hx:XA P o.dst T x y st=some st'):iP P Ω o st st':=by
 unfold XA at hx;split at hx
 ·rename_i d e hd hel;split at hx
  ·rename_i k1 n k2 m h1 h2;split at hx
   ·rename_i z hz;split at hx
    ·rename_i hc;cases hx;rw[DZ]at h1 h2;have hr:∀σ δ,(bw n.toNat z).map (cj (V.ren σ δ))=bw n.toNat z:=fun σ δ=>by rw[dz,G7 hz]
     have hb:∀σ σ',AO (st.c+1) σ σ'->AO st.c σ σ':=fun σ σ' ha=>ha.mono (cq _);refine⟨⟨cq _,⟨fun σ σ' δ ha=>?_,fun σ σ' pre ha=>?_,h.lp.put (V0 rfl)⟩,St.put_len _ _ _ _ _⟩,d,hd,fun σ pre k hk=>⟨⟨.vec e (bw n.toNat z),none⟩,?_,fun γ=>?_⟩⟩
     ·show((st.fr.put d true _).ren σ δ)=((st.fr.put d true _).ren σ' δ);simp only[HV,HU];rw[h.f σ σ' δ (hb _ _ ha),ha st.c (bm _)]
     ·simp only[CT,AX.ren,hr];rw[h.s σ σ' pre (hb _ _ ha),ha st.c (bm _)]
     ·simp only[QL,ho,DM,h1,h2,bq,EK,hel,hz];rw[if_pos hc]
     ·have:=hk (fun i=>if i=st.c then γ else σ i) (AO.upd _ _ _);have ha:=AO.upd st.c γ σ;change k ((st.fr.put d true _).ren _ _) _ at this;simp only[HV,HU,if_true,CT,AX.ren,hr]at this;rw[<-h.f _ _ _ ha,<-h.s _ _ _ ha]at this;simp only[Mk.val,HO,bb];rw[DE];exact this
    ·cases hx
   ·cases hx
  ·cases hx
 ·cases hx
def AAN(d:Option Tmp)(r:Option gq)(st:XS):Option XS:=match d,r with
 |some d,none=>some ⟨st.c+1,(d,true,.mp st.s.up.length d st.c)::st.fr,st.s.put st.s.up.length d st.c (.map [])⟩
 |_,_=>none
theorem wD{o:ft}{T:gv}{r:Option gq}{st st':XS}(h:Bd st)(ho:o.op=.makeMap T r)(hx:AAN o.dst r st=some st'):iP P Ω o st st':=by
 unfold AAN at hx;split at hx
 ·rename_i d hd;cases hx;have hb:∀σ σ',AO (st.c+1) σ σ'->AO st.c σ σ':=fun σ σ' ha=>ha.mono (cq _);refine⟨⟨cq _,⟨fun σ σ' δ ha=>?_,fun σ σ' pre ha=>?_,h.lp.put (V0 rfl)⟩,St.put_len _ _ _ _ _⟩,d,hd,fun σ pre k hk=>⟨⟨.map [],none⟩,?_,fun γ=>?_⟩⟩
  ·show((st.fr.put d true _).ren σ δ)=((st.fr.put d true _).ren σ' δ);simp only[HV,RJ];rw[h.f σ σ' δ (hb _ _ ha),ha st.c (bm _)]
  ·simp only[CT,AX.ren,dk];rw[h.s σ σ' pre (hb _ _ ha),ha st.c (bm _)]
  ·simp only[QL,ho]
  ·have:=hk (fun i=>if i=st.c then γ else σ i) (AO.upd _ _ _);have ha:=AO.upd st.c γ σ;change k ((st.fr.put d true _).ren _ _) _ at this;simp only[HV,RJ,if_true,CT,AX.ren,dk]at this;rw[<-h.f _ _ _ ha,<-h.s _ _ _ ha]at this;simp only[Mk.val,HO];rw[DE];exact this
 ·cases hx
def JJ(P:gk)(d:Option Tmp)(T:gv)(x y:gq)(st:XS):Option XS:=match d with
 |some _=>none
 |none=>match CI st.fr x,CI st.fr y with
  |some (.ptr l q γ off),some v=>match st.s.get l q with
   |some (γ',.box cs)=>if bz γ' γ&&A9 v&&cx 0 (P.cellsOf T)&&bz (A8 v).length (P.cellsOf T)&&dp (off+P.cellsOf T) cs.length&&cx γ st.c then some { st with s:=st.s.put l q γ (.box (A2 cs off (A8 v))) } else none
   |_=>none
  |some (.eptr l q γ i off),some v=>match st.s.get l q with
   |some (γ',.vec U es)=>if bz γ' γ&&A9 v&&cx 0 (P.cellsOf T)&&bz (A8 v).length (P.cellsOf T)&&cx i es.length&&dp (off+P.cellsOf T) (es.getD i []).length&&cx γ st.c then some { st with s:=st.s.put l q γ (.vec U (es.set i (A2 (es.getD i []) off (A8 v)))) } else none
   |_=>none
  |_,_=>none
theorem M8{st:XS}(h:Bd st){l q γ:Nat}{r:AX}(hg:st.s.get l q=some (γ,r))(σ σ':Nat->Nat)(δ:Nat)(ha:AO st.c σ σ'):r.ren σ δ=r.ren σ' δ:=by have h1:=CB (s:=st.s) (σ:=σ) (pre:=bw δ []) l q;have h2:=CB (s:=st.s) (σ:=σ') (pre:=bw δ []) l q;rw[h.s σ σ' _ ha,h2,hg]at h1;simp only[bq,bb,cw.injEq,fp.injEq]at h1;exact h1.2.symm
theorem K0(es:List (List V))(i:Nat)(x:List V):(es.set i x).map (cj (V.ren σ δ))=(es.map (cj (V.ren σ δ))).set i (x.map (V.ren σ δ)):=by simp[List.map_set]
theorem fE{o:ft}{T:gv}{x y:gq}{st st':XS}(h:Bd st)(ho:o.op=.store T x y)(hx:JJ P o.dst T x y st=some st'):StepX P o st st':=by
 unfold JJ at hx;split at hx
 ·cases hx
 ·rename_i hd;split at hx
  ·rename_i l q γ off v h1 h2;split at hx
   ·rename_i γ' cs hg;split at hx
    ·rename_i hc;simp only[bx,cd,cz]at hc;obtain⟨⟨⟨⟨⟨c1,c2⟩,c3⟩,c4⟩,c5⟩,c6⟩:=hc;have c1:=bj c1;have c4:=bj c4;subst c1;cases hx;have hv:=h.rd h2;refine⟨⟨bn _,h.putS c6 fun σ σ' δ ha=>?_,St.put_len _ _ _ _ _⟩,fun σ pre k hk=>?_⟩
     ·have hr:=M8 h hg σ σ' δ ha;simp only[AX.ren,AX.box.injEq]at hr|-;rw[<-DA,<-DA,hr,aV hv σ σ' δ ha]
     ·have:=hk σ (AO.refl _ _);rw[DZ]at h1 h2;unfold EJ;simp only[ho,DM,h1,h2,bq,HT,CB,hg,AX.ren];refine⟨trivial,trivial,by rw[IJ];exact c2,c3,by rw[EO];simpa using c4,by simpa using c5,hd,?_⟩;rw[EO,DA];rw[CT]at this;exact this
    ·cases hx
   ·cases hx
  ·rename_i l q γ i off v h1 h2;split at hx
   ·rename_i γ' U es hg;split at hx
    ·rename_i hc;simp only[bx,cd,cz]at hc;obtain⟨⟨⟨⟨⟨⟨c1,c2⟩,c3⟩,c4⟩,c5⟩,c6⟩,c7⟩:=hc;have c1:=bj c1;have c4:=bj c4;subst c1;cases hx;have hv:=h.rd h2;refine⟨⟨bn _,h.putS c7 fun σ σ' δ ha=>?_,St.put_len _ _ _ _ _⟩,fun σ pre k hk=>?_⟩
     ·have hr:=M8 h hg σ σ' δ ha;simp only[AX.ren,AX.vec.injEq,true_and]at hr|-;rw[K0,K0,<-DA,<-DA,<-E6,<-E6,hr,aV hv σ σ' δ ha]
     ·have:=hk σ (AO.refl _ _);rw[DZ]at h1 h2;unfold EJ;simp only[ho,DM,h1,h2,bq,O2,CB,hg,AX.ren];refine⟨trivial,trivial,by rw[IJ];exact c2,c3,by rw[EO];simpa using c4,by simpa using c5,by rw[E6];simpa using c6,hd,?_⟩;rw[E6,EO,DA,<-K0];rw[CT]at this;exact this
    ·cases hx
   ·cases hx
  ·cases hx
def AAO(P:gk)(d:Option Tmp)(T:gv)(x i y:gq)(st:XS):Option XS:=match d with
 |some _=>none
 |none=>match CI st.fr x,CI st.fr i,CI st.fr y with
  |some m,some i,some v=>match LZ P st.s T m i v with
   |some (l,q,γ,es)=>Bool.rec none (some { st with s:=st.s.put l q γ (.map es) }) (cx γ st.c)
   |none=>none
  |_,_,_=>none
theorem ALK{o:ft}{T:gv}{x i y:gq}{st st':XS}(h:Bd st)(ho:o.op=.mapUpdate T x i y)(hx:AAO P o.dst T x i y st=some st'):StepX P o st st':=by
 unfold AAO at hx;split at hx
 ·cases hx
 ·rename_i hd;split at hx
  ·rename_i m i' v h1 h2 h3;split at hx
   ·rename_i l q γ es hu;cases hb:cx γ st.c with
    |false=>rw[hb]at hx;cases hx
    |true=>
     rw[hb]at hx
     have hlt:γ<st.c:=by simpa using hb
     cases hx
     have hm:=h.rd h1
     have hi:=h.rd h2
     have hv:=h.rd h3
     refine⟨⟨bn _,h.putS hlt fun σ σ' δ ha=>?_,St.put_len _ _ _ _ _⟩,fun σ pre k hk=>?_⟩
     ·have q1:=VY (σ:=σ) (pre:=bw δ []) hu;have q2:=VY (σ:=σ') (pre:=bw δ []) hu;rw[h.s σ σ' _ ha,hm σ σ' _ ha,hi σ σ' _ ha,hv σ σ' _ ha,q2]at q1;simp only[cw.injEq,fp.injEq,bb]at q1;simp only[AX.ren,q1.2.2.2]
     ·have:=hk σ (AO.refl _ _);rw[DZ]at h1 h2 h3;unfold EJ;simp only[ho,DM,h1,h2,h3,bq,VY hu];refine⟨trivial,hd,?_⟩;rw[CT]at this;exact this
   ·cases hx
  ·cases hx
def iQ(P:gk)(d:Option Tmp)(args:List gq)(Ts:List gv)(st:XS):Option XS:=match args,Ts,d with
 |[x],[T],none=>match BT P T,CI st.fr x with
  |some (none,e),some (.vtl l q γ i n)=>match st.s.get l q,CA P e with
   |some (γ',.vec U es),some z=>Bool.rec none (some { st with s:=st.s.put l q γ (.vec U (es.take i++bw n z++es.drop (i+n))) }) (bz γ' γ&&bz U e&&dp (i+n) es.length&&es.all (fun y=>y.length==z.length)&&cx γ st.c)
   |_,_=>none
  |_,_=>none
 |_,_,_=>none
theorem AAP{o:ft}{args:Array gq}{Ts:Array gv}{st st':XS}(h:Bd st)(ho:o.op=.call { callee:=.builtin .clear,args:=args,argTypes:=Ts })(hx:iQ P o.dst args.toList Ts.toList st=some st'):StepX P o st st':=by
 unfold iQ at hx;split at hx
 ·rename_i x T ha hT hd;split at hx
  ·rename_i e l q γ i n hel h1;split at hx
   ·rename_i γ' U es z hg hz;cases hb:(bz γ' γ&&bz U e&&dp (i+n) es.length&&es.all (fun y=>y.length==z.length)&&cx γ st.c)with
    |false=>rw[hb]at hx;cases hx
    |true=>
     rw[hb]at hx
     cases hx
     simp only[bx,cd,cz]at hb
     obtain⟨⟨⟨⟨c1,c2⟩,c3⟩,c4⟩,c5⟩:=hb
     have c1:=bj c1
     have c2:=bj c2
     subst c1;subst c2
     have hz':∀σ δ,z.map (V.ren σ δ)=z:=fun σ δ=>G7 hz
     refine⟨⟨bn _,h.putS c5 fun σ σ' δ ha=>?_,St.put_len _ _ _ _ _⟩,fun σ pre k hk=>?_⟩
     ·have hr:=M8 h hg σ σ' δ ha;simp only[AX.ren,AX.vec.injEq,true_and]at hr|-;simp only[bc,ck,List.map_drop,dz,hz',hr]
     ·have:=hk σ (AO.refl _ _);rw[DZ]at h1;unfold EJ;simp only[ho,ha,hT,hd,hel,DM,h1,bq,X7,CB,hg,hz,AX.ren];refine⟨trivial,trivial,trivial,by simpa using c3,?_,?_⟩
      ·rw[fx];exact c4▸(by congr 1;funext x;simp)
      ·rw[CT]at this;simp only[AX.ren,bc,ck,List.map_drop,dz,hz']at this;exact this
   ·cases hx
  ·cases hx
 ·cases hx
theorem sF{o:ft}{l q γ:Nat}{r:AX}(h:DD P o fr s=some (l,q,γ,r)):DD P o (fr.ren σ pre.length) (s.emb σ pre)=some (l+pre.length,q,σ γ,r.ren σ pre.length):=by
 unfold DD at h|-;split at h
 ·rename_i T x y ho;simp only[DM];split at h
  ·rename_i l1 q1 γ1 off v e1 e2;simp only[e1,e2,bq,HT,CB];split at h
   ·rename_i γ2 cs e3;split at h
    ·rename_i hc;cases h;obtain⟨c1,c2,c3,c4,c5,c6⟩:=hc;subst c1;simp only[e3,bq,AX.ren,IJ,EO,bp];rw[if_pos ⟨trivial,c2,c3,c4,c5,c6⟩,DA]
    ·cases h
   ·cases h
  ·rename_i l1 q1 γ1 i off v e1 e2;simp only[e1,e2,bq,O2,CB];split at h
   ·rename_i γ2 U es e3;split at h
    ·rename_i hc;cases h;obtain⟨c1,c2,c3,c4,c5,c6,c7⟩:=hc;subst c1;simp only[e3,bq,AX.ren,IJ,EO,bp,E6];rw[if_pos ⟨trivial,c2,c3,c4,c5,c6,c7⟩,DA,<-K0]
    ·cases h
   ·cases h
  ·cases h
 ·cases h
theorem AFR{o:ft}{T:gv}{x y:gq}{st st':XS}(ho:o.op=.store T x y)(hx:JJ P o.dst T x y st=some st'):∃l q γ r,DD P o st.fr st.s=some (l,q,γ,r)/\st'={ st with s:=st.s.put l q γ r }:=by
 unfold JJ at hx;unfold DD;simp only[ho];split at hx
 ·cases hx
 ·rename_i hd;split at hx
  ·rename_i l q γ off v h1 h2;split at hx
   ·rename_i γ' cs hg;split at hx
    ·rename_i hc;simp only[bx,cd,cz]at hc;obtain⟨⟨⟨⟨⟨c1,c2⟩,c3⟩,c4⟩,c5⟩,c6⟩:=hc;have c1:=bj c1;have c4:=bj c4;subst c1;cases hx;rw[DZ]at h1 h2;refine⟨_,_,_,_,?_,rfl⟩;simp only[h1,h2,hg];rw[if_pos ⟨trivial,c2,c3,c4,c5,hd⟩]
    ·cases hx
   ·cases hx
  ·rename_i l q γ i off v h1 h2;split at hx
   ·rename_i γ' U es hg;split at hx
    ·rename_i hc;simp only[bx,cd,cz]at hc;obtain⟨⟨⟨⟨⟨⟨c1,c2⟩,c3⟩,c4⟩,c5⟩,c6⟩,c7⟩:=hc;have c1:=bj c1;have c4:=bj c4;subst c1;cases hx;rw[DZ]at h1 h2;refine⟨_,_,_,_,?_,rfl⟩;simp only[h1,h2,hg];rw[if_pos ⟨trivial,c2,c3,c4,c5,c6,hd⟩]
    ·cases hx
   ·cases hx
  ·cases hx
def AA.hide(W:AK)(l:Nat)(L:AA):AA:=L.filter fun e=>!(W.contains (l,e.1))
theorem AA.get_hide(W:AK)(l:Nat):∀(L:AA) (k:Nat),(l,k)∉W->(L.hide W l).get k=L.get k
 |[],k,_=>rfl
 |(j,x)::L,k,hk=>by
  have ih:=AA.get_hide W l L k hk;unfold AA.hide at ih|-;rw[List.filter_cons];split
  ·simp only[AA.get];split
   ·rfl
   ·exact ih
  ·rename_i hc;simp only[fg,Bool.not_eq_false,List.contains_iff_mem]at hc;rw[ih];simp only[AA.get];rw[if_neg (fun e=>hk (by rw[e];simpa using hc))]
theorem AA.get_hide'(W:AK)(l:Nat):∀(L:AA) (k:Nat),(l,k)∈W->(L.hide W l).get k=none
 |[],k,_=>rfl
 |(j,x)::L,k,hk=>by
  have ih:=AA.get_hide' W l L k hk;unfold AA.hide at ih|-;rw[List.filter_cons];split
  ·rename_i hc;simp only[AA.get];rw[if_neg (fun e=>by subst e;simp[hk]at hc)];exact ih
  ·exact ih
def St.hide(W:AK)(s:St):St:=⟨s.up.mapIdx fun l L=>L.hide W l,s.loc.hide W s.up.length⟩
theorem St.get_hide{W:AK}{l k:Nat}(h:(l,k)∉W):(s.hide W).get l k=s.get l k:=by
 unfold St.get St.hide;simp only[fc];split
 ·rename_i e;subst e;exact AA.get_hide W _ _ _ h
 ·rw[dr];cases s.up[l]? with
  |none=>rfl
  |some L=>exact AA.get_hide W _ _ _ h
theorem St.get_hide'{W:AK}{l k:Nat}(h:(l,k)∈W):(s.hide W).get l k=none:=by
 unfold St.get St.hide;simp only[fc];split
 ·rename_i e;subst e;exact AA.get_hide' W _ _ _ h
 ·rw[dr];cases s.up[l]? with
  |none=>rfl
  |some L=>exact AA.get_hide' W _ _ _ h
theorem aW(W:AK):W6 W (s.hide W) s:=fun l k x e=>by
 by_cases h:(l,k)∈W
 ·rw[St.get_hide' h]at e;cases e
 ·exact⟨h,by rw[<-St.get_hide h];exact e⟩
def CH:Option V->AK
 |some (.ptr l k _ _)=>[(l,k)]
 |some (.eptr l k _ _ _)=>[(l,k)]
 |some (.vec l k _ _)=>[(l,k)]
 |some (.mp l k _)=>[(l,k)]
 |_=>[]
def CE(one:Bool)(x:Option V):AK:=match one,x with
 |true,some (.ptr l k _ off)=>[(l,k+JF),(l,k+JG),(l,GS k off)]
 |true,some (.eptr l k _ _ off)=>[(l,k+JF),(l,k+JG),(l,GS k off)]
 |_,x=>CH x
def DV(one:Bool)(x:Option V):AK:=match one,x with
 |true,some (.ptr l k _ off)=>[(l,k),(l,GS k off)]
 |true,some (.eptr l k _ _ off)=>[(l,k),(l,GS k off)]
 |false,some (.ptr l k _ _)=>[(l,k),(l,k+JG)]
 |false,some (.eptr l k _ _ _)=>[(l,k),(l,k+JG)]
 |_,_=>[]
def AFS:Option V->Bool
 |some (.ptr ..)=>true
 |some (.eptr ..)=>true
 |_=>false
def JK:Option V->AK
 |some (.vec l k _ _)=>[(l,k)]
 |some (.vtl l k _ _ _)=>[(l,k)]
 |some (.ptr l k _ _)=>[(l,k)]
 |_=>[]
def M9:Option V->AK
 |some (.vec l k _ _)=>[(l,k+JF)]
 |_=>[]
def nN(P:gk)(o:ft)(r:gq->Option V):Bool:=match o.op with
 |.load T x=>bz (P.cellsOf T) 1&&AFS (r x)
 |.indexAddr _ x _=>match r x with
  |some (.vec ..)=>true
  |_=>false
 |_=>false
def KG(r:gq->Option V):List gq->AK
 |[_,y]=>JK (r y)
 |_=>[]
def EG(P:gk)(o:ft)(r:gq->Option V):AK:=match o.op with
 |.load T x=>CE (bz (P.cellsOf T) 1) (r x)
 |.indexAddr _ x _=>M9 (r x)
 |.slice _ x ..=>JK (r x)
 |.lookup _ x ..=>CH (r x)
 |.call { callee:=.builtin .append,args,.. }=>KG r args.toList
 |_=>[]
theorem iR{W:AK}{x:V}{es:List (List V)}(h:elemsOf s x=some es)(hr:∀p∈JK (some x),p∉W):elemsOf (s.hide W) x=some es:=by
 cases x with
 |vec l k g n=>
  have hn:(l,k)∉W:=hr _ (by simp[JK])
  simp only[elemsOf,St.get_hide hn]at h|-
  exact h
 |vtl l k g i n=>
  have hn:(l,k)∉W:=hr _ (by simp[JK])
  simp only[elemsOf,St.get_hide hn]at h|-
  exact h
 |list b es=>exact h
 |nil=>exact h
 |_=>cases h
theorem AFT{W:AK}{o:ft}{r:gq->Option V}{v:V}(h:JX P o s r=some v)(hi:nN P o r=false)(hr:∀p∈EG P o r,p∉W):JX P o (s.hide W) r=some v:=by
 unfold JX at h|-;split at h;case h_4 T x ho=>
  obtain⟨p,h1,h2⟩:=bk.1 h
  obtain⟨cs,h3,h4⟩:=bk.1 h2
  have:A6 (s.hide W) p=some cs:=by
   cases p with
   |ptr l k g off=>
    have hb:bz (P.cellsOf T) 1=false:=by simpa [nN,ho,h1,AFS]using hi
    have hn:(l,k)∉W:=hr _ (by simp[EG,ho,h1,CE,hb,CH])
    simp only[A6,St.get_hide hn]at h3|-;exact h3
   |eptr l k g i off=>
    have hb:bz (P.cellsOf T) 1=false:=by simpa [nN,ho,h1,AFS]using hi
    have hn:(l,k)∉W:=hr _ (by simp[EG,ho,h1,CE,hb,CH])
    simp only[A6,St.get_hide hn]at h3|-;exact h3
   |_=>exact h3
  simp only[h1,bg,this,h4]
 case h_10 T x i ho=>
  obtain⟨p,h1,h2⟩:=bk.1 h
  obtain⟨q,h3,h4⟩:=bk.1 h2
  have:BO P (s.hide W) T p q=some v:=by
   unfold BO at h4|-;split at h4
   ·exact h4
   ·rename_i e l k g n k' j e1;simp[nN,ho,h1]at hi
   ·exact h4
   ·exact h4
   ·exact h4
   ·cases h4
  simp only[h1,h3,bg,this]
 case h_16 T x lo hi mx ho=>
  obtain⟨p,h1,h2⟩:=bk.1 h
  obtain⟨q,h3,h4⟩:=bk.1 h2
  obtain⟨q',h5,h6⟩:=bk.1 h4
  obtain⟨q2,h7,h8⟩:=bk.1 h6
  have:C7 P (s.hide W) T p q q' q2=some v:=by
   unfold C7 at h8|-;split at h8;case h_6 e l k g n k' i e1=>
    have hn:(l,k)∉W:=hr _ (by simp[EG,ho,h1,JK])
    simp only[St.get_hide hn];exact h8
   case h_7 n e l k g o e1=>
    have hn:(l,k)∉W:=hr _ (by simp[EG,ho,h1,JK])
    simp only[St.get_hide hn];exact h8
   all_goals exact h8
  simp only[h1,h3,h5,h7,bg,this]
 case h_17 T x i ok ho=>
  obtain⟨p,h1,h2⟩:=bk.1 h
  obtain⟨q,h3,h4⟩:=bk.1 h2
  have:DO P (s.hide W) T p q ok=some v:=by
   unfold DO at h4|-;split at h4
   ·rename_i K E l k g e1;have hn:(l,k)∉W:=hr _ (by simp[EG,ho,h1,CH]);simp only[St.get_hide hn];exact h4
   ·cases h4
  simp only[h1,h3,bg,this]
 all_goals exact h
theorem AAQ{W:AK}{o:ft}{v:V}(h:FT P g o fr s=some v)(hi:nN P o (DW g fr)=false)(hr:∀p∈EG P o (DW g fr),p∉W):FT P g o fr (s.hide W)=some v:=by
 unfold FT at h|-;split at h
 ·exact h
 ·exact h
 ·exact h
 ·exact AFT h hi hr
def cQ(δ:Nat)(W:AK):AK:=W.map fun p=>(p.1+δ,p.2)
theorem NA{W:AK}{l k:Nat}:(l+δ,k)∈cQ δ W↔(l,k)∈W:=by
 unfold cQ;simp only[dq,fp.injEq,Prod.exists];constructor
 ·rintro ⟨a,b,h,h1,h2⟩;have:a=l:=by omega
  subst this;subst h2;exact h
 ·intro h;exact⟨l,k,h,rfl,rfl⟩
theorem XB(x:Option V):CH (x.map (V.ren σ δ))=cQ δ (CH x):=by
 cases x with
 |none=>rfl
 |some v=>cases v<;>simp[CH,cQ]
theorem RN(x:Option V):JK (x.map (V.ren σ δ))=cQ δ (JK x):=by
 cases x with
 |none=>rfl
 |some v=>cases v<;>simp[JK,cQ]
theorem sG(x:Option V):M9 (x.map (V.ren σ δ))=cQ δ (M9 x):=by
 cases x with
 |none=>rfl
 |some v=>cases v<;>simp[M9,cQ]
theorem sH(b:Bool)(x:Option V):CE b (x.map (V.ren σ δ))=cQ δ (CE b x):=by
 cases b with
 |false=>exact XB x
 |true=>
  cases x with
  |none=>rfl
  |some v=>cases v<;>simp[CE,CH,cQ]
theorem ASK{W:AK}{o:ft}{v:V}(h:FT P g o fr s=some v)(hi:nN P o (DW g fr)=true)(hr:∀p∈EG P o (DW g fr),p∉W):dH P W g o fr s v:=by
 unfold nN at hi;split at hi
 ·rename_i T x ho;rw[bx]at hi;have h1:=bj hi.1;unfold FT at h;simp only[ho,JX]at h;obtain⟨p,hx,h⟩:=bk.1 h;obtain⟨cs,hcs,hv⟩:=bk.1 h;have hp:=hi.2;rw[hx]at hp;cases p with
  |ptr l k γ off=>
   have hr':∀p∈[(l,k+JF),(l,k+JG),(l,GS k off)],p∉W:=fun p hp=>hr p (by simp only[EG,ho,hx,hi.1,CE];exact hp)
   refine .inr ⟨T,x,_,cs,l,k,off,ho,hx,rfl,hcs,hv,by omega,hr' _ (by simp),hr' _ (by simp),fun c hc=>?_⟩
   obtain rfl:c=0:=by omega
   exact hr' _ (by simp)
  |eptr l k γ i off=>
   have hr':∀p∈[(l,k+JF),(l,k+JG),(l,GS k off)],p∉W:=fun p hp=>hr p (by simp only[EG,ho,hx,hi.1,CE];exact hp)
   refine .inr ⟨T,x,_,cs,l,k,off,ho,hx,rfl,hcs,hv,by omega,hr' _ (by simp),hr' _ (by simp),fun c hc=>?_⟩
   obtain rfl:c=0:=by omega
   exact hr' _ (by simp)
  |_=>cases hp
 ·rename_i T x i ho;split at hi
  ·rename_i l k γ n hx;unfold FT at h;simp only[ho,JX,hx,bg]at h;obtain⟨iv,hiv,h⟩:=bk.1 h;unfold BO at h;split at h
   ·rename_i e1 e2;cases e2
   ·rename_i e l' k' γ' n' ki j e1 e2;cases e2;split at h
    ·rename_i γ2 T' es hget;split at h
     ·rename_i hc;obtain⟨rfl,hc⟩:=hc;exact .inl ⟨T,x,i,e,_,_,_,_,ki,j,T',es,ho,hx,hiv,e1,hr _ (by simp[EG,ho,hx,M9]),hget,hc,(cw.inj h).symm⟩
     ·cases h
    ·cases h
   ·rename_i e1 e2;cases e2
   ·rename_i e1 e2;cases e2
   ·rename_i e1 e2;cases e2
   ·cases h
  ·cases hi
 ·cases hi
theorem sI{r:gq->Option V}(l:List gq):KG (fun x=>(r x).map (V.ren σ δ)) l=cQ δ (KG r l):=by
 unfold KG;split
 ·exact RN _
 ·rfl
theorem sJ{o:ft}{r:gq->Option V}:EG P o (fun x=>(r x).map (V.ren σ δ))=cQ δ (EG P o r):=by
 unfold EG;split
 ·exact sH _ _
 ·exact sG _
 ·exact RN _
 ·exact XB _
 ·exact sI _
 ·rfl
theorem nO{W rd:AK}(h:∀p∈rd,p∉W):∀p∈cQ δ rd,p∉cQ δ W:=by intro p hp;unfold cQ at hp;obtain⟨⟨l,k⟩,hq,rfl⟩:=dq.1 hp;exact fun hc=>h _ hq (NA.1 hc)
end Go.Pg
namespace Go.Pg
variable {P:gk}{σ σ':Nat->Nat}{δ:Nat}{pre:List AA}{s:St}{fr:Fr}{g:Bool}
def rdC(fr:Fr)(x:gq):Option (Bool×V):=match x with
 |.tmp t=>BD fr t
 |.const v=>match CQ v with
  |some x=>some (true,x)
  |none=>none
 |.func f=>some (true,.fn f [] [])
 |.global _=>none
theorem ASL(x:gq):rdC fr x=rd fr x:=by
 cases x with
 |tmp t=>exact FJ fr t
 |const v=>simp only[rdC,rd];cases CQ v<;>rfl
 |func f=>rfl
 |global g=>rfl
def wE(fr:Fr)(c a b:gq):Option V:=match CI fr c,rdC fr a,rdC fr b with
 |some (.bool c),some (ca,.bool a),some (cb,.bool b)=>Bool.rec (Bool.rec none (some (.bool b)) cb) (Bool.rec none (some (.bool a)) ca) c
 |_,_,_=>none
def NS(P:gk)(fr:Fr)(s:St)(T:gv)(x:gq):Option V:=match CI fr x with
 |some p=>match A6 s p with
  |some cs=>BK P T cs
  |none=>none
 |none=>none
def xFA(P:gk)(fr:Fr)(T:gv)(x:gq)(f:Nat):Option V:=match CI fr x with
 |some p=>C9 P T p f
 |none=>none
def AAR(P:gk)(fr:Fr)(op:BinOp)(T:gv)(x y:gq):Option V:=match CI fr x,CI fr y with
 |some a,some b=>I3 P op T a b
 |_,_=>none
def V1(P:gk)(fr:Fr)(T:gv)(ps:List (Nat×gq)):Option V:=match DC (CI fr) ps with
 |some l=>CW P T l
 |none=>none
def P0(P:gk)(fr:Fr)(T:gv)(n:Nat)(ps:List (Nat×gq)):Option V:=match DC (CI fr) ps with
 |some l=>CD P T n l
 |none=>none
def ALL(P:gk)(o:ft)(fr:Fr)(s:St):Option V:=match o.op with
 |.move x=>CI fr x
 |.assign x=>CI fr x
 |.load T x=>NS P fr s T x
 |.fieldAddr T x f=>xFA P fr T x f
 |.binOp op T x y _=>AAR P fr op T x y
 |.pick c a b=>wE fr c a b
 |.build T ps=>V1 P fr T ps.toList
 |.buildSlice T n ps=>P0 P fr T n ps.toList
 |_=>JX P o s (CI fr)
theorem P3{o:ft}{v:V}(h:ALL P o fr s=some v):FT P true o fr s=some v:=by
 unfold ALL at h;unfold FT;split at h<;>rename_i ho
 ·simp only[ho,JX,<-FK];exact h
 ·simp only[ho,JX,<-FK];exact h
 ·unfold NS at h;split at h
  ·rename_i p e1;split at h
   ·rename_i cs e2;simp only[ho,JX,<-FK,e1,e2,bg];exact h
   ·cases h
  ·cases h
 ·unfold xFA at h;split at h
  ·rename_i p e1;simp only[ho,JX,<-FK,e1,bg];exact h
  ·cases h
 ·unfold AAR at h;split at h
  ·rename_i a b e1 e2;simp only[ho,JX,<-FK,e1,e2,bg];exact h
  ·cases h
 ·unfold wE at h;simp only[ASL]at h;split at h
  ·rename_i c ca a cb b e1 e2 e3;rw[DZ]at e1;simp only[ho,e1,e2,e3];cases c with
   |true=>
    cases ca with
    |false=>cases h
    |true=>cases h;simp
   |false=>
    cases cb with
    |false=>cases h
    |true=>cases h;simp
  ·cases h
 ·unfold V1 at h;split at h
  ·rename_i l e1;simp only[ho,<-FK,e1,bg];exact h
  ·cases h
 ·unfold P0 at h;split at h
  ·rename_i l e1;simp only[ho,<-FK,e1,bg];exact h
  ·cases h
 ·rw[FK]at h;split
  ·rename_i ho';rw[JX,ho']at h;cases h
  ·rename_i ho';rw[JX,ho']at h;cases h
  ·rename_i ho';rw[JX,ho']at h;cases h
  ·exact h
theorem JZ{α:Type}{b:Bool}{x y:α}(h:(Bool.rec none (some x) b:Option α)=some y):b=true/\x=y:=by
 cases b with
 |false=>cases h
 |true=>exact⟨rfl,cw.inj h⟩
theorem EL{α:Type}{b:Bool}{x:Option α}{y:α}(h:(Bool.rec none x b:Option α)=some y):b=true/\x=some y:=by
 cases b with
 |false=>cases h
 |true=>exact⟨rfl,h⟩
theorem UJ{st:XS}(h:Bd st){v:V}{ys:List (List V)}(hv:U4 st.c v)(he:elemsOf st.s v=some ys)(σ σ':Nat->Nat)(δ:Nat)(ha:AO st.c σ σ'):ys.map (cj (V.ren σ δ))=ys.map (cj (V.ren σ' δ)):=by have h1:=G8 (σ:=σ) (pre:=bw δ []) he;have h2:=G8 (σ:=σ') (pre:=bw δ []) he;rw[h.s σ σ' _ ha,hv σ σ' _ ha,h2]at h1;have:=cw.inj h1;rw[bb]at this;exact this.symm
theorem FV(ys:List (List V))(m:Nat):(ys.map (cj (V.ren σ δ))).all (fun y=>y.length==m)=ys.all (fun y=>y.length==m):=by rw[fx];congr 1;funext y;simp
def nQ(P:gk)(d:Tmp)(e:gv)(ys:List (List V))(st:XS)(xv:V):Option (XS×Nat×Nat):=match xv with
 |.vec l q γ n=>match TY n ys (st.s.get l q)with
  |some (γ',.vec W es)=>Bool.rec none (some (⟨st.c+1,(d,true,.vec l q st.c (es++ys).length)::st.fr,st.s.put l q st.c (.vec e (es++ys))⟩,l,q))
    (bz γ' γ&&bz W e&&bz n es.length&&es.all (fun y=>y.length==P.cellsOf e)&&BV P e es.length ys)
  |_=>none
 |_=>none
def xAppG(el:St->V->Option (List (List V)))(P:gk)(d:Option Tmp)(args:List gq)(Ts:List gv)(st:XS):Option (XS×Nat×Nat):=match args,Ts,d with
 | [x,y],[T,U],some d=>Bool.rec none (match BT P T with
  |some (none,e)=>match CI st.fr x,CI st.fr y with
   |some xv,some yv=>match el st.s yv with
    |some ys=>match I6 xv ys with
     |some es=>Bool.rec none (some (⟨st.c+1,(d,true,.vec st.s.up.length d st.c (es++ys).length)::st.fr,st.s.put st.s.up.length d st.c (.vec e (es++ys))⟩,st.s.up.length,d)) (es.all (fun y=>y.length==P.cellsOf e)&&BV P e es.length ys)
     |none=>nQ P d e ys st xv
    |none=>none
   |_,_=>none
  | _=>none) (bz T U)
 |_,_,_=>none
theorem AFU(v:V):XK (v.ren σ δ)=XK v:=by
 cases v with
 |list f es=>cases f<;>cases es<;>simp[XK]
 |_=>simp[XK]
theorem nS(v:V)(ys:List (List V)):I6 (v.ren σ δ) (ys.map (cj (V.ren σ δ)))=(I6 v ys).map (cj (cj (V.ren σ δ))):=by
 cases v with
 |list f es=>cases f<;>cases es<;>cases ys<;>simp[I6]
 |_=>simp[I6]
theorem sK{v:V}{es ys:List (List V)}(h:I6 v ys=some es):elemsOf s v=some es:=by unfold I6 at h;split at h<;>cases h<;>rfl
theorem fF{e:gv}{n:Nat}(ys:List (List V)):BV P e n (ys.map (cj (V.ren σ δ)))=BV P e n ys:=by unfold BV;rw[FV,bp]
theorem AFV{n:Nat}(ys es:List (List V)):ZV n (ys.map (cj (V.ren σ δ))) (es.map (cj (V.ren σ δ)))=(ZV n ys es).map (cj (V.ren σ δ)):=by
 cases ys with
 |nil=>rfl
 |cons y ys=>
  show(if _ then _ else _)=(if _ then _ else _:List (List V)).map _
  have e:(es.map (cj (V.ren σ δ))).all (fun x=>x.length==(y.map (V.ren σ δ)).length)=es.all (fun x=>x.length==y.length):=by rw[fx,bp];congr 1;funext x;simp
  rw[e]
  split
  ·rw[ck]
  ·rfl
theorem nT{n γ:Nat}{ys es:List (List V)}{U:gv}{o:Option (Nat×AX)}(h:TY n ys o=some (γ,.vec U es)):TY n (ys.map (cj (V.ren σ δ))) (o.map fun p=>(σ p.1,p.2.ren σ δ))=some (σ γ,.vec U (es.map (cj (V.ren σ δ)))):=by obtain⟨es0,rfl,rfl⟩:=PT h;show some (σ γ,AX.vec U (ZV n _ _))=_;rw[AFV]
theorem aX{el:St->V->Option (List (List V))}(hel0:∀s v es,el s v=some es->elemsOf s v=some es){o:ft}{args:Array gq}{Ts:Array gv}{st st':XS}{l q:Nat}(h:Bd st)(ho:o.op=.call { callee:=.builtin .append,args:=args,argTypes:=Ts })
  (hx:xAppG el P o.dst args.toList Ts.toList st=some (st',l,q)):∃d r,o.dst=some d/\dK r=true/\st'=⟨st.c+1,(d,true,HO r l q st.c)::st.fr,st.s.put l q st.c r⟩/\(∀σ σ' δ,AO st.c σ σ'->r.ren σ δ=r.ren σ' δ) /\
   (∀(σ:Nat->Nat) (pre:List AA) (k:Fr->St->Prop),(∀γ,k ((st.fr.ren σ pre.length).put d true (HO (r.ren σ pre.length) (l+pre.length) q γ)) ((st.s.emb σ pre).put (l+pre.length) q γ (r.ren σ pre.length)))->EJ P true o (st.fr.ren σ pre.length) (st.s.emb σ pre) k) /\
   (∀(W:AK) (σ:Nat->Nat) (pre:List AA),(∀p∈KG (CI st.fr) args.toList,p∉W)->XM P o (st.fr.ren σ pre.length) ((st.s.emb σ pre).hide (cQ pre.length W)) (st.s.emb σ pre)=some (l+pre.length,q,r.ren σ pre.length)):=by
 unfold xAppG at hx
 split at hx
 ·rename_i x y T U d ha hT hd;obtain⟨hTU,hx2⟩:=EL hx;clear hx;have hTU:=bj hTU;subst hTU;have hx:=hx2;clear hx2;split at hx
  ·rename_i e hel;split at hx
   ·rename_i xv yv h1 h2;split at hx
    ·rename_i ys hys0;have hys:=hel0 _ _ _ hys0;have hyb:=UJ h (h.rd h2) hys;have r1:=h1;have r2:=h2;rw[DZ]at r1 r2;have hys2:∀(W:AK) (σ:Nat->Nat) (pre:List AA),(∀p∈KG (CI st.fr) args.toList,p∉W)->elemsOf ((st.s.emb σ pre).hide (cQ pre.length W)) (yv.ren σ pre.length)=some (ys.map (cj (V.ren σ pre.length))):=fun W σ pre hW=>by refine iR (G8 hys) ?_;rw[ha]at hW;simp only[KG,h2]at hW;have:=nO (δ:=pre.length) hW;rw[<-RN (σ:=σ)]at this;exact this
     cases hn:I6 xv ys with
     |some es=>
      rw[hn]at hx
      obtain⟨hc,he⟩:=JZ hx
      simp only[fp.injEq]at he
      obtain⟨rfl,rfl,rfl⟩:=he
      simp only[bx]at hc
      obtain⟨hce,hc⟩:=hc
      have heb:=UJ h (h.rd h1) (sK hn)
      refine⟨d,.vec e (es++ys),hd,rfl,rfl,fun σ σ' δ hag=>by simp only[AX.ren,bc,hyb σ σ' δ hag,heb σ σ' δ hag],fun σ pre k hk=>?_,fun W σ pre hW=>?_⟩
      ·have hc':=hc;simp only[BV,bx,cd,cz]at hc;obtain⟨⟨⟨⟨c1,c2⟩,c3⟩,c4⟩,c5⟩:=hc;unfold EJ;simp only[ho,ha,hT,hd,hel,DM,r1,r2,bq,bg,G8 hys,nS,hn,true_and];refine⟨c1,c2,by rw[FV];exact hce,by rw[FV];exact c3,by simpa using c4,by simpa using c5,fun γ=>?_⟩;have:=hk γ;simp only[HO,AX.ren]at this;rw[DE,<-bc];exact this
      ·unfold XM;simp only[ho,ha,hT,hd,hel,DM,r1,r2,bq,bg,hys2 _ _ _ hW,nS,hn,if_true,DE,AX.ren];rw[if_pos ⟨by rw[FV];exact hce,by rw[fF,bp];exact hc⟩,bc]
     |none=>
      rw[hn]at hx
      replace hx:nQ P d e ys st xv=some (st',l,q):=hx
      unfold nQ at hx
      split at hx
      ·rename_i l0 q0 γ0 n';split at hx
       ·rename_i γ' W es hg;obtain⟨hc,he⟩:=JZ hx;simp only[fp.injEq]at he;obtain⟨rfl,rfl,rfl⟩:=he;simp only[bx]at hc;obtain⟨⟨⟨⟨c1,c2⟩,c3⟩,c6⟩,c7⟩:=hc;have c1:=bj c1;have c2:=bj c2;have c3:=bj c3;subst c1;subst c2;subst c3;have heb:∀σ σ' δ,AO st.c σ σ'->es.map (cj (V.ren σ δ))=es.map (cj (V.ren σ' δ)):=fun σ σ' δ ha=>by
         obtain⟨es0,hg0,e0⟩:=PT hg;have:=M8 h hg0 σ σ' δ ha;have e1:es0.map (cj (V.ren σ δ))=es0.map (cj (V.ren σ' δ)):=by simpa [AX.ren]using this
         rcases VL es.length ys es0 with e2|⟨e2,_⟩
         ·rw[e0,e2,e1]
         ·rw[e0,e2,ck,ck,e1]
        refine⟨d,.vec W (es++ys),hd,rfl,rfl,fun σ σ' δ hag=>by simp only[AX.ren,bc,hyb σ σ' δ hag,heb σ σ' δ hag],fun σ pre k hk=>?_,fun W σ pre hW=>?_⟩
        ·simp only[BV,bx,cd,cz]at c7;obtain⟨⟨⟨⟨d1,d2⟩,d3⟩,d4⟩,d5⟩:=c7;have hnn:I6 (V.vec (l0+pre.length) q0 (σ γ') es.length) (ys.map (cj (V.ren σ pre.length)))=none:=rfl;unfold EJ;simp only[ho,ha,hT,hd,hel,DM,r1,r2,bq,bg,G8 hys,HU,CB,nT hg,true_and,hnn];refine⟨by simp,d1,d2,by rw[FV];exact c6,by rw[FV];exact d3,by simpa using d4,by simpa using d5,fun γ=>?_⟩;have:=hk γ;simp only[HO,AX.ren,bc,cg,bp]at this|-;exact this
        ·have hnn:I6 (V.vec (l0+pre.length) q0 (σ γ') es.length) (ys.map (cj (V.ren σ pre.length)))=none:=rfl;unfold XM;simp only[ho,ha,hT,hd,hel,DM,r1,r2,bq,bg,hys2 _ _ _ hW,HU,CB,nT hg,hnn,if_true];rw[if_pos ⟨trivial,trivial,by simp,by rw[FV];exact c6,by rw[fF,bp];exact c7⟩];simp only[AX.ren,bc]
       ·cases hx
      ·cases hx
    ·cases hx
   ·cases hx
  ·cases hx
 ·cases hx
theorem aY{st:XS}(h:Bd st){d l q:Nat}{r:AX}(hp:dK r=true)(hr:∀σ σ' δ,AO st.c σ σ'->r.ren σ δ=r.ren σ' δ):KQ st ⟨st.c+1,(d,true,HO r l q st.c)::st.fr,st.s.put l q st.c r⟩:=by
 have hb:∀σ σ',AO (st.c+1) σ σ'->AO st.c σ σ':=fun σ σ' ha=>ha.mono (cq _);refine⟨cq _,⟨fun σ σ' δ ha=>?_,fun σ σ' pre ha=>?_,h.lp.put (V0 hp)⟩,St.put_len _ _ _ _ _⟩
 ·show((st.fr.put d true (HO r l q st.c)).ren σ δ)=((st.fr.put d true (HO r l q st.c)).ren σ' δ);have e:∀σ:Nat->Nat,(HO r l q st.c).ren σ δ=HO (r.ren σ δ) (l+δ) q (σ st.c):=fun σ=>by cases r<;>simp[HO,AX.ren]
  simp only[HV,e];rw[h.f σ σ' δ (hb _ _ ha),ha st.c (bm _),hr σ σ' δ (hb _ _ ha)]
 ·simp only[CT];rw[h.s σ σ' pre (hb _ _ ha),hr σ σ' _ (hb _ _ ha),ha st.c (bm _)]
theorem nU(r:AX)(l q γ:Nat):(HO r l q γ).ren σ δ=HO (r.ren σ δ) (l+δ) q (σ γ):=by cases r<;>simp[HO,AX.ren]
theorem sM{st:XS}(h:Bd st){d l q:Nat}{r:AX}(hr:∀σ σ' δ,AO st.c σ σ'->r.ren σ δ=r.ren σ' δ){σ:Nat->Nat}{pre:List AA}{k:Fr->St->Prop}
  (hk:∀σ',AO st.c σ σ'->k (Fr.ren σ' pre.length ((d,true,HO r l q st.c)::st.fr)) ((st.s.put l q st.c r).emb σ' pre)) (γ:Nat):k ((st.fr.ren σ pre.length).put d true (HO (r.ren σ pre.length) (l+pre.length) q γ)) ((st.s.emb σ pre).put (l+pre.length) q γ (r.ren σ pre.length)):=by
 have:=hk (fun i=>if i=st.c then γ else σ i) (AO.upd _ _ _)
 have hag:=AO.upd st.c γ σ
 change k ((st.fr.put d true _).ren _ _) _ at this
 simp only[HV,nU,if_true,CT]at this
 rw[<-h.f _ _ _ hag,<-h.s _ _ _ hag,<-hr _ _ _ hag]at this
 exact this
theorem wF(r:Mk)(l k γ:Nat):(r.val l k γ).ren σ δ=Mk.val ⟨r.res.ren σ δ,r.t⟩ (l+δ) k (σ γ):=by
 obtain⟨r,t⟩:=r;cases t with
 |none=>exact nU _ _ _ _
 |some t=>exact M4 t
theorem AAS{st:XS}(h:Bd st){d l q:Nat}{r:Mk}(hp:dK r.res=true)(hr:∀σ σ' δ,AO st.c σ σ'->r.res.ren σ δ=r.res.ren σ' δ):KQ st ⟨st.c+1,(d,true,r.val l q st.c)::st.fr,st.s.put l q st.c r.res⟩:=by
 have hb:∀σ σ',AO (st.c+1) σ σ'->AO st.c σ σ':=fun σ σ' ha=>ha.mono (cq _);refine⟨cq _,⟨fun σ σ' δ ha=>?_,fun σ σ' pre ha=>?_,h.lp.put (V0 hp)⟩,St.put_len _ _ _ _ _⟩
 ·show((st.fr.put d true (r.val l q st.c)).ren σ δ)=((st.fr.put d true (r.val l q st.c)).ren σ' δ);simp only[HV,wF];rw[h.f σ σ' δ (hb _ _ ha),ha st.c (bm _),hr σ σ' δ (hb _ _ ha)]
 ·simp only[CT];rw[h.s σ σ' pre (hb _ _ ha),hr σ σ' _ (hb _ _ ha),ha st.c (bm _)]
theorem ALM{st:XS}(h:Bd st){d l q:Nat}{r:Mk}(hr:∀σ δ,r.res.ren σ δ=r.res){σ:Nat->Nat}{pre:List AA}{k:Fr->St->Prop}
  (hk:∀σ',AO st.c σ σ'->k (Fr.ren σ' pre.length ((d,true,r.val l q st.c)::st.fr)) ((st.s.put l q st.c r.res).emb σ' pre)) (γ:Nat):k ((st.fr.ren σ pre.length).put d true (r.val (l+pre.length) q γ)) ((st.s.emb σ pre).put (l+pre.length) q γ r.res):=by
 have:=hk (fun i=>if i=st.c then γ else σ i) (AO.upd _ _ _)
 have hag:=AO.upd st.c γ σ
 change k ((st.fr.put d true _).ren _ _) _ at this
 simp only[HV,wF,if_true,CT,hr]at this
 rw[<-h.f _ _ _ hag,<-h.s _ _ _ hag]at this
 exact this
def xAppend(P:gk)(d:Option Tmp)(args:List gq)(Ts:List gv)(st:XS):Option XS:=match xAppG elemsOf P d args Ts st with
 |some (st',_,_)=>some st'
 |none=>none
theorem sN{o:ft}{args:Array gq}{Ts:Array gv}{st st':XS}(h:Bd st)(ho:o.op=.call { callee:=.builtin .append,args:=args,argTypes:=Ts })(hx:xAppend P o.dst args.toList Ts.toList st=some st'):StepX P o st st':=by
 unfold xAppend at hx;split at hx
 ·rename_i st1 l q e1;cases hx;obtain⟨d,r,hd,hp,rfl,hr,hs,_⟩:=aX (fun _ _ _ h=>h) h ho e1;exact⟨aY h hp hr,fun σ pre k hk=>hs σ pre k fun γ=>sM h hr hk γ⟩
 ·cases hx
def wG(P:gk)(d:Option Tmp)(args:List gq)(Ts:List gv)(st:XS):Option XS:=match args,Ts with
 |[x,y],[T,_]=>match BT P T,CI st.fr x,CI st.fr y with
  |some (none,e),some (.vtl l q γ i n),some yv=>match st.s.get l q,elemsOf st.s yv with
   |some (γ',.box cs),some ys=>Bool.rec none (some { st with fr:=putD st.fr d true (.int .i64 ((min ys.length n:Nat):Int)),s:=st.s.put l q γ (.box (A2 cs i (ys.take n).flatten)) }) (bz γ' γ&&bz (P.cellsOf e) 1&&ys.all (fun y=>y.length==1)&&dp (i+n) cs.length&&cx γ st.c)
   |_,_=>none
  |_,_,_=>none
 |_,_=>none
theorem AFW{o:ft}{args:Array gq}{Ts:Array gv}{st st':XS}(h:Bd st)(ho:o.op=.call { callee:=.builtin .copy,args:=args,argTypes:=Ts })(hx:wG P o.dst args.toList Ts.toList st=some st'):StepX P o st st':=by
 unfold wG at hx;split at hx
 ·rename_i x y T U ha hT;split at hx
  ·rename_i e l q γ i n yv hel h1 h2;split at hx
   ·rename_i γ' cs ys hg hys;cases hb:(bz γ' γ&&bz (P.cellsOf e) 1&&ys.all (fun y=>y.length==1)&&dp (i+n) cs.length&&cx γ st.c)with
    |false=>rw[hb]at hx;cases hx
    |true=>
     rw[hb]at hx
     cases hx
     simp only[bx,cd,cz]at hb
     obtain⟨⟨⟨⟨c1,c2⟩,c3⟩,c4⟩,c5⟩:=hb
     have c1:=bj c1
     have c2:=bj c2
     subst c1
     have hB:Bd { st with s:=st.s.put l q γ' (.box (A2 cs i (ys.take n).flatten)) }:=h.putS c5 fun σ σ' δ ha=>by have hr:=M8 h hg σ σ' δ ha;have he:=UJ h (h.rd h2) hys σ σ' δ ha;simp only[AX.ren,AX.box.injEq]at hr|-;rw[<-DA,<-DA,hr,df,df,ck,ck,he]
     refine⟨⟨bn _,hB.putF (fun _ _ _ _=>rfl),St.put_len _ _ _ _ _⟩,fun σ pre k hk=>?_⟩
     have:=hk σ (AO.refl _ _)
     rw[DZ]at h1 h2
     unfold EJ
     simp only[ho,ha,hT,hel,DM,h1,h2,bq,X7,bg,G8 hys,CB,hg,AX.ren]
     refine⟨trivial,trivial,c2,?_,by simpa using c4,?_⟩
     ·rw[fx];exact c3▸(by congr 1;funext x;simp)
     ·simp only[FU,EK,CT,AX.ren,<-DA,df,ck]at this;simpa only[bp]using this
   ·cases hx
  ·cases hx
 ·cases hx
end Go.Pg
namespace Go.Pg
variable {P:gk}{Ω:HP P}{σ σ':Nat->Nat}{δ:Nat}{pre:List AA}{s:St}{fr:Fr}{g:Bool}
def FN{α β:Type}(f:α->Option β):List α->Option (List β)
 |[]=>some []
 |x::l=>match f x with
  |some y=>match FN f l with
   |some r=>some (y::r)
   |none=>none
  |none=>none
theorem K1{α β:Type}(f:α->Option β):∀(l:List α),FN f l=l.mapM f
 |[]=>rfl
 |x::l=>by
  simp only[FN,List.mapM_cons,<-K1 f l];cases f x with
  |none=>rfl
  |some y=>cases FN f l<;>rfl
abbrev CF:=gw->List V->XS->Option (V×XS)
abbrev CY:=Nat->Nat->Nat->List V->XS->Option (V×XS)
abbrev CF0:=gw->List V->Option V
abbrev CFO:=gw->List V->Tmp->Option Mk
structure XE where
 cf:CF
 cy:CY
 c0:CF0
 co:CFO
 lit:Tmp->Bool
def fG(P:gk)(cf:CF):Prop:=∀f args st r st',cf f args st=some (r,st')->Bd st->(∀v∈args,U4 st.c v)->KQ st st'/\U4 st'.c r/\st'.fr=st.fr /\
 ∀(σ:Nat->Nat) (pre:List AA) (K:V->St->Prop),(∀σ',AO st.c σ σ'->K (r.ren σ' pre.length) (st'.s.emb σ' pre))->FQ P f (args.map (V.ren σ pre.length)) (st.s.emb σ pre) K
def ASN(P:gk)(cy:CY):Prop:=∀l q γ vs st r st',cy l q γ vs st=some (r,st')->Bd st->(∀v∈vs,U4 st.c v)->KQ st st'/\U4 st'.c r/\st'.fr=st.fr /\
 ∃fr0 ps asg body N,st.s.get l q=some (γ,.loop fr0 ps asg body N .ready)/\∀(σ:Nat->Nat) (pre:List AA) (k:V->St->Prop),(∀σ',AO st.c σ σ'->k (r.ren σ' pre.length) (st'.s.emb σ' pre)) ->
  ZU P (l+pre.length) q (σ γ) (Fr.ren σ pre.length fr0) ps asg body N (vs.map (V.ren σ pre.length)) (st.s.emb σ pre) k
def HW(P:gk)(cf:CF0):Prop:=∀f args r,cf f args=some r->(∀s,FQ P f args s fun r' s'=>r'=r/\s'=s)/\(∀v∈args,∀σ δ,v.ren σ δ=v)/\(∀σ δ,r.ren σ δ=r)
def sO(P:gk)(co:CFO):Prop:=∀f args d r,co f args d=some r->(∀(s:St),FQ P f args s fun v s'=>∃γ,v=r.val s.up.length d γ/\s'=s.put s.up.length d γ r.res) /\
 (∀v∈args,∀σ δ,v.ren σ δ=v)/\(∀σ δ,r.res.ren σ δ=r.res)/\dK r.res=true
structure KH(P:gk)(E:XE):Prop where
 cf:fG P E.cf
 cy:ASN P E.cy
 c0:HW P E.c0
 co:sO P E.co
def KH.tab{E:XE}(h:KH P E)(own:ft->Bool):HP P:=⟨own,E.co,fun f args d r hc=>(h.co f args d r hc).1⟩
def sP(cy:CY)(d:Option Tmp)(l q γ:Nat)(args:List gq)(st:XS):Option XS:=match FN (CI st.fr) args with
 |some vs=>match cy l q γ vs st with
  |some (r,st')=>some { st' with fr:=putD st'.fr d true r }
  |none=>none
 |none=>none
def QW(cf:CF)(cy:CY)(d:Option Tmp)(f:gq)(args:List gq)(st:XS):Option XS:=match CI st.fr f with
 |some (.fn fid first cap)=>match FN (CI st.fr) args with
  |some vs=>match cf fid ((first++vs++cap).map weakV) st with
   |some (r,st')=>some { st' with fr:=putD st'.fr d true r }
   |none=>none
  |none=>none
 |some (.yld l q γ)=>sP cy d l q γ args st
 |_=>none
def HX(co:CFO)(d:Option Tmp)(f:gq)(args:List gq)(st:XS):Option XS:=match d,CI st.fr f with
 |some d,some (.fn fid first cap)=>match FN (CI st.fr) args with
  |some vs=>match co fid ((first++vs++cap).map weakV) d with
   |some r=>some ⟨st.c+1,(d,true,r.val st.s.up.length d st.c)::st.fr,st.s.put st.s.up.length d st.c r.res⟩
   |none=>none
  |none=>none
 |_,_=>none
def dL(P:gk)(o:ft)(st:XS):Option XS:=match ALL P o st.fr st.s with
 |some v=>some { st with fr:=putD st.fr o.dst true v }
 |none=>none
def aZ(E:XE)(own:Bool)(d:Option Tmp)(f:gq)(args:List gq)(st:XS):Option XS:=Bool.rec (QW E.cf E.cy d f args st) (match HX E.co d f args st with
 |some st'=>some st'
 | none=>QW E.cf E.cy d f args st) own
def A3T(P:gk)(E:XE)(own:ft->Bool)(o:ft)(c:Call)(st:XS):Option XS:=match c.callee with
 |.value f=>aZ E (own o) o.dst f c.args.toList st
 |.builtin .append=>xAppend P o.dst c.args.toList c.argTypes.toList st
 |.builtin .clear=>iQ P o.dst c.args.toList c.argTypes.toList st
 |.builtin .copy=>wG P o.dst c.args.toList c.argTypes.toList st
 |_=>dL P o st
def QX(P:gk)(E:XE)(own:ft->Bool)(o:ft)(st:XS):Option XS:=match o.op with
 |.alloc T=>O6 P o.dst T st
 |.box _ x=>nL o.dst x st
 |.makeMap _ r=>AAN o.dst r st
 |.makeSlice T x y=>XA P o.dst T x y st
 |.store T x y=>JJ P o.dst T x y st
 |.mapUpdate T x i y=>AAO P o.dst T x i y st
 |.call c=>A3T P E own o c st
 |_=>dL P o st
theorem wH{o:ft}{st st':XS}(h:Bd st)(hx:dL P o st=some st'):StepX P o st st':=by
 unfold dL at hx;split at hx
 ·rename_i v hv;cases hx;exact AAM h (P3 hv)
 ·cases hx
theorem X8{st:XS}(h:Bd st):∀{args:List gq} {vs:List V},FN (CI st.fr) args=some vs->∀v∈vs,U4 st.c v
 |[],vs,e,v,hv=>by cases e;cases hv
 |x::l,vs,e,v,hv=>by
  simp only[FN]at e;split at e
  ·rename_i y hy;split at e
   ·rename_i r hr;cases e;rcases List.mem_cons.1 hv with rfl|hv
    ·exact h.rd hy
    ·exact X8 h hr v hv
   ·cases e
  ·cases e
theorem iS{c:Nat}{v:V}(h:U4 c v):U4 c (weakV v):=fun σ σ' δ ha=>by rw[<-VV,<-VV,h σ σ' δ ha]
theorem AFX{c:Nat}{f:gw}{xs ys:List V}(h:U4 c (.fn f xs ys)):(∀v∈xs,U4 c v)/\(∀v∈ys,U4 c v):=by
 refine⟨fun v hv σ σ' δ ha=>?_,fun v hv σ σ' δ ha=>?_⟩
 ·have:=h σ σ' δ ha;simp only[O3,V.fn.injEq]at this;exact cm.1 this.2.1 v hv
 ·have:=h σ σ' δ ha;simp only[O3,V.fn.injEq]at this;exact cm.1 this.2.2 v hv
theorem HY(l:List V):(l.map weakV).map (V.ren σ δ)=(l.map (V.ren σ δ)).map weakV:=by simp only[fh];congr 1;funext v;exact(VV v).symm
theorem fH{E:XE}(hE:KH P E){own:ft->Bool}{o:ft}(hown:own o=true){f:gq}{args:Array gq}{Ts:Array gv}{st st':XS}(h:Bd st)(ho:o.op=.call { callee:=.value f,args:=args,argTypes:=Ts })(hx:HX E.co o.dst f args.toList st=some st'):iP P (hE.tab own) o st st':=by
 unfold HX at hx;split at hx
 ·rename_i d fid first cap hd hf;split at hx
  ·rename_i vs hvs;split at hx
   ·rename_i r hc;cases hx;obtain⟨_,hcl,hr,hpl⟩:=hE.co _ _ _ _ hc;refine⟨AAS h hpl (fun σ σ' δ _=>by rw[hr,hr]),d,hd,fun σ pre k hk=>⟨r,?_,fun γ=>?_⟩⟩
    ·have hcd:I8 true o (st.fr.ren σ pre.length)=some (fid,(first++vs++cap).map weakV):=by
      rw[K1,FK]at hvs;rw[DZ]at hf;simp only[I8,ho,JT,hf,bq,O3,I9 hvs,cw.injEq,fp.injEq,true_and];have e:((first++vs++cap).map weakV).map (V.ren σ pre.length)=(first++vs++cap).map weakV:=by
       conv=>rhs;rw[<-cp ((first++vs++cap).map weakV)]
       exact bf fun v hv=>hcl v hv σ _
      rw[HY]at e;simpa only[bc]using e
     simp only[QL,ho,KH.tab,hown,if_true,hcd,hd,hc]
    ·have:=ALM h (d:=d) hr hk γ;rw[<-DE]at this;exact this
   ·cases hx
  ·cases hx
 ·cases hx
theorem nV{cf:CF}{cy:CY}(hcf:fG P cf)(hcy:ASN P cy){o:ft}{f:gq}{args:Array gq}{Ts:Array gv}{st st':XS}(h:Bd st)(ho:o.op=.call { callee:=.value f,args:=args,argTypes:=Ts })(hx:QW cf cy o.dst f args.toList st=some st'):StepX P o st st':=by
 unfold QW at hx;split at hx
 ·rename_i fid first cap hf;split at hx
  ·rename_i vs hvs;split at hx
   ·rename_i r st1 hr;cases hx;have b1:=AFX (h.rd hf);have b2:=X8 h hvs;obtain⟨hE,hrb,hfr,hA⟩:=hcf _ _ _ _ _ hr h (fun v hv=>by
     obtain⟨u,hu,rfl⟩:=dq.1 hv;refine iS ?_;rcases dt.1 hu with hu|hu
     ·rcases dt.1 hu with hu|hu
      ·exact b1.1 u hu
      ·exact b2 u hu
     ·exact b1.2 u hu)
    refine⟨⟨hE.c,hE.bd.putF hrb,hE.n⟩,fun σ pre k hk=>?_⟩;rw[K1,FK]at hvs;rw[DZ]at hf;unfold EJ;simp only[ho,JT,hf,bq,O3,I9 hvs];refine .inl ⟨rfl,?_⟩;have:=hA σ pre (fun r s'=>k (putD (st.fr.ren σ pre.length) o.dst true r) s') fun σ' ha=>?_
    ·rw[HY]at this;simpa only[bc]using this
    ·have h1:=hk σ' ha;rw[FU,hfr,<-h.f σ σ' _ ha]at h1;exact h1
   ·cases hx
  ·cases hx
 ·rename_i l q γ hf;unfold sP at hx;split at hx
  ·rename_i vs hvs;split at hx
   ·rename_i r st1 hr;cases hx;obtain⟨hE,hrb,hfr,fr0,ps,asg,body,N,hget,hA⟩:=hcy _ _ _ _ _ _ _ hr h (X8 h hvs);refine⟨⟨hE.c,hE.bd.putF hrb,hE.n⟩,fun σ pre k hk=>?_⟩;rw[K1,FK]at hvs;rw[DZ]at hf;unfold EJ;simp only[ho,JT,hf,bq,iM,I9 hvs,CB,hget,AX.ren];refine⟨trivial,trivial,?_⟩;refine hA σ pre (fun r s'=>k (putD (st.fr.ren σ pre.length) o.dst true r) s') fun σ' ha=>?_;have h1:=hk σ' ha;rw[FU,hfr,<-h.f σ σ' _ ha]at h1;exact h1
   ·cases hx
  ·cases hx
 ·cases hx
theorem nX{E:XE}(hE:KH P E){own:ft->Bool}{o:ft}{st st':XS}(h:Bd st)(hx:QX P E own o st=some st'):StepX P o st st':=by
 unfold QX at hx;split at hx
 ·rename_i T ho;exact(fD (Ω:=HP.nothing P) h ho hx).step
 ·rename_i T x ho;exact(wC (Ω:=HP.nothing P) h ho hx).step
 ·rename_i T r ho;exact(wD (Ω:=HP.nothing P) h ho hx).step
 ·rename_i T x y ho;exact(nM (Ω:=HP.nothing P) h ho hx).step
 ·rename_i T x y ho;exact fE h ho hx
 ·rename_i T x i y ho;exact ALK h ho hx
 ·rename_i c ho;obtain⟨callee,args,Ts⟩:=c;unfold A3T at hx;split at hx
  ·rename_i f hc;have hc:callee=.value f:=hc;subst hc;unfold aZ at hx;cases hown:own o with
   |false=>rw[hown]at hx;exact nV hE.cf hE.cy h ho hx
   |true=>
    rw[hown]at hx
    have hx:(match HX E.co o.dst f args.toList st with
     |some st'=>some st'
     | none=>QW E.cf E.cy o.dst f args.toList st)=some st':=hx
    split at hx
    ·rename_i st1 h1;cases hx;exact(fH hE hown h ho h1).step
    ·exact nV hE.cf hE.cy h ho hx
  ·rename_i hc;have hc:callee=.builtin .append:=hc;subst hc;exact sN h ho hx
  ·rename_i hc;have hc:callee=.builtin .clear:=hc;subst hc;exact AAP h ho hx
  ·rename_i hc;have hc:callee=.builtin .copy:=hc;subst hc;exact AFW h ho hx
  ·exact wH h hx
 ·exact wH h hx
def gdX(fr:Fr)(gd:Option (Tmp×Bool)):Option Bool:=match gd with
 |none=>some true
 |some (d,want)=>match BD fr d with
  |some (c,.bool b)=>some (c&&(b==want))
  |_=>none
theorem sS(gd:Option (Tmp×Bool)):gdX fr gd=QK fr gd:=by
 cases gd with
 |none=>rfl
 |some p=>simp only[gdX,QK,FJ];rfl
theorem NB{gd:Option (Tmp×Bool)}(h:QK fr gd=some g):QK (fr.ren σ δ) gd=some g:=by
 cases gd with
 |none=>exact h
 |some p=>
  simp only[QK]at h|-
  split at h
  ·rename_i c b e;simp only[Fr.get_ren,e,bq,L7];exact h
  ·cases h
def JB(d:Option Tmp)(st:XS):XS:={ st with fr:=putD st.fr d false (.bool false) }
def AFY(P:gk)(lit:Tmp->Bool)(o:ft)(st:XS):Option XS:=match o.op,o.dst with
 | .buildSlice T _ _,some d=>Bool.rec none (match BT P T,ALL P o st.fr st.s with
  |some (none,e),some (.list true (x::es))=>Bool.rec none (some ⟨st.c+1,(d,true,HO (.vec e (x::es)) st.s.up.length d st.c)::st.fr,st.s.put st.s.up.length d st.c (.vec e (x::es))⟩) (dp (x::es).length maxLen)
  | _,_=>none) (lit d)
 |_,_=>none
theorem ALO{lit:Tmp->Bool}{o:ft}{st st':XS}(h:Bd st)(hx:AFY P lit o st=some st'):KQ st st' /\
  ∀(σ:Nat->Nat) (pre:List AA) (k:Fr->St->Prop),(∀σ',AO st.c σ σ'->k (st'.fr.ren σ' pre.length) (st'.s.emb σ' pre))->A3L P true o (st.fr.ren σ pre.length) (st.s.emb σ pre) k:=by
 unfold AFY at hx
 split at hx
 ·rename_i T len parts d ho hd;obtain⟨_,hx⟩:=EL hx;split at hx
  ·rename_i e x es hel hv;obtain⟨hc,he⟩:=JZ hx;cases he;have hv:=P3 hv;have hb:=UJ h (h.val hv) (ys:=x::es) rfl;refine⟨aY h rfl fun σ σ' δ ha=>by simp only[AX.ren,hb σ σ' δ ha],fun σ pre k hk=>?_⟩;have hv':=JA (σ:=σ) (pre:=pre) hv;unfold FT at hv';simp only[ho]at hv';obtain⟨ps,h1,h2⟩:=bk.1 hv';rw[EU]at h2;refine⟨T,len,parts,d,e,_,ps,ho,rfl,hd,hel,h1,h2,by simp,by simpa [cz]using hc,fun γ=>?_⟩;have:=sM h (d:=d) (r:=.vec e (x::es)) (fun σ σ' δ ha=>by simp only[AX.ren,hb σ σ' δ ha]) hk γ;rw[DE];simpa only[HO,AX.ren]using this
  ·cases hx
 ·cases hx
def ALP(all:List ft)(t:Tmp):Bool:=all.any fun p=>match p.op,p.dst with
 |.call { callee:=.builtin .append,.. },some d=>bz d t
 |_,_=>false
def NC(all:List ft)(st:XS):List gq->Option XS
 |[]=>none
 |x::r=>match x with
  | .tmp t=>Bool.rec (NC all st r) (match BD st.fr t with
   |some (true,.vec l q γ n)=>match st.s.get l q with
    |some (γ',.vec _ es)=>Bool.rec none (some ⟨st.c,(t,true,.list false (es.take n))::st.fr,st.s.put l q γ .dead⟩) (bz γ' γ&&dp n es.length&&cx γ st.c)
    |_=>none
   | _=>none) (ALP all t)
  |_=>NC all st r
def AFZ(all:List ft)(o:ft)(st:XS):Option XS:=match o.op with
 |.call c=>match c.callee with
  |.value _=>NC all st c.args.toList
  |_=>none
 |_=>none
theorem V2{all:List ft}{st st1:XS}(h:Bd st):∀{xs:List gq},NC all st xs=some st1->KQ st st1 /\
  ∀(o:ft) (σ:Nat->Nat) (pre:List AA) (k:Fr->St->Prop),EJ P true o (st1.fr.ren σ pre.length) (st1.s.emb σ pre) k->AOR P true o (st.fr.ren σ pre.length) (st.s.emb σ pre) k
 |[],hx=>by cases hx
 |x::r,hx=>by
  unfold NC at hx;split at hx
  ·rename_i t;cases hA:ALP all t with
   |false=>rw[hA]at hx;exact V2 h hx
   |true=>
    rw[hA]at hx
    have hx:(match BD st.fr t with
     |some (true,.vec l q γ n)=>match st.s.get l q with
      |some (γ',.vec _ es)=>Bool.rec none (some ⟨st.c,(t,true,.list false (es.take n))::st.fr,st.s.put l q γ .dead⟩) (bz γ' γ&&dp n es.length&&cx γ st.c)
      |_=>none
     | _=>none)=some st1:=hx
    split at hx
    ·rename_i l q γ n hg;split at hx
     ·rename_i γ' T es hs;obtain⟨hc,he⟩:=JZ hx;simp only[bx]at hc;obtain⟨⟨h1,h2⟩,h3⟩:=hc;have h1:=bj h1;have h2:n<=es.length:=by simpa [cz]using h2
      have h3:γ<st.c:=by simpa [cd]using h3
      subst h1;cases he;rw[FJ]at hg;have hb:∀σ σ' δ,AO st.c σ σ'->es.map (cj (V.ren σ δ))=es.map (cj (V.ren σ' δ)):=fun σ σ' δ ha=>by have:=M8 h hs σ σ' δ ha;simpa [AX.ren]using this
      have hv:U4 st.c (.list false (es.take n)):=fun σ σ' δ ha=>by simp only[EU,ck,hb σ σ' δ ha]
      have hbd:Bd ⟨st.c,(t,true,.list false (es.take n))::st.fr,st.s.put l q γ' .dead⟩:=(h.putS (l:=l) (k:=q) (r:=.dead) h3 (fun _ _ _ _=>rfl)).putF (d:=some t) (c:=true) hv;refine⟨⟨bn _,hbd,St.put_len _ _ _ _ _⟩,fun o σ pre k hk=>⟨t,l+pre.length,q,σ γ',n,T,es.map (cj (V.ren σ pre.length)),rfl,?_,?_,by simpa using h2,?_⟩⟩
      ·rw[Fr.get_ren,hg];simp
      ·rw[CB,hs];simp[AX.ren]
      ·change EJ P true o ((st.fr.put t true _).ren _ _) _ k at hk;simp only[HV,EU,CT,AX.ren,ck]at hk;exact hk
     ·cases hx
    ·cases hx
  ·exact V2 h hx
def opX(P:gk)(E:XE)(all:List ft)(o:ft)(st:XS):Option XS:=match gdX st.fr (LB all o)with
 |some true=>match AFY P E.lit o st with
  |some st'=>some st'
  |none=>match AFZ all o st with
   |some st1=>QX P E (DQ all) o st1
   |none=>QX P E (DQ all) o st
 |some false=>some (JB o.dst st)
 |none=>none
theorem fI{d:Option Tmp}{st:XS}(h:Bd st):KQ st (JB d st):=⟨bn _,h.putF (fun σ σ' δ _=>by simp),rfl⟩
theorem AF0{E:XE}(hE:KH P E){all:List ft}{o:ft}{st st':XS}(h:Bd st)(hx:opX P E all o st=some st'):KQ st st'/\∃g,(∀σ δ,QK (st.fr.ren σ δ) (LB all o)=some g) /\
  ∀(σ:Nat->Nat) (pre:List AA) (k:Fr->St->Prop),(∀σ',AO st.c σ σ'->k (st'.fr.ren σ' pre.length) (st'.s.emb σ' pre))->TZ P g o (st.fr.ren σ pre.length) (st.s.emb σ pre) k:=by
 unfold opX at hx
 rw[sS]at hx
 split at hx
 ·rename_i hg;split at hx
  ·rename_i st1 hl;cases hx;obtain⟨h1,h2⟩:=ALO h hl;exact⟨h1,true,fun σ δ=>NB hg,fun σ pre k hk=>.inr (.inr (.inl (h2 σ pre k hk)))⟩
  ·split at hx
   ·rename_i st1 ht;have ht':∃xs,NC all st xs=some st1:=by
     unfold AFZ at ht;split at ht
     ·split at ht
      ·exact⟨_,ht⟩
      ·cases ht
     ·cases ht
    obtain⟨xs,ht'⟩:=ht';obtain⟨hE1,hs1⟩:=V2 (P:=P) h ht';obtain⟨h1,h2⟩:=nX hE hE1.bd hx;exact⟨⟨dh hE1.c h1.c,h1.bd,h1.n.trans hE1.n⟩,true,fun σ δ=>NB hg,fun σ pre k hk=>.inr (.inr (.inr (hs1 o σ pre k (h2 σ pre k fun σ' ha=>hk σ' (ha.mono hE1.c)))))⟩
   ·obtain⟨h1,h2⟩:=nX hE h hx;exact⟨h1,true,fun σ δ=>NB hg,fun σ pre k hk=>.inl (h2 σ pre k hk)⟩
 ·rename_i hg;cases hx;refine⟨fI h,false,fun σ δ=>NB hg,fun σ pre k hk=>.inr (.inl ⟨rfl,.bool false,?_⟩)⟩;have:=hk σ (AO.refl _ _);simpa only[JB,FU,L7]using this
 ·cases hx
def iT(P:gk)(E:XE)(all:List ft):List ft->XS->Option XS
 |[],st=>some st
 |o::r,st=>match opX P E all o st with
  |some st'=>iT P E all r st'
  |none=>none
theorem iU{E:XE}(hEE:KH P E){all:List ft}:∀{l:List ft} {st st':XS},Bd st->iT P E all l st=some st'->KQ st st' /\
  ∀(σ:Nat->Nat) (pre:List AA) (K:Fr->St->Prop),(∀σ',AO st.c σ σ'->K (st'.fr.ren σ' pre.length) (st'.s.emb σ' pre))->W0 P (l.map (LB all)) l (st.fr.ren σ pre.length) (st.s.emb σ pre) K
 |[],st,st',h,hx=>by cases hx;exact⟨⟨bn _,h,rfl⟩,fun σ pre K hk=>hk σ (AO.refl _ _)⟩
 |o::l,st,st',h,hx=>by
  simp only[iT]at hx;split at hx
  ·rename_i st1 h1;obtain⟨hE,g,hg,hs⟩:=AF0 hEE h h1;obtain⟨hE',hs'⟩:=iU hEE hE.bd hx;refine⟨⟨dh hE.c hE'.c,hE'.bd,hE'.n.trans hE.n⟩,fun σ pre K hk=>?_⟩;simp only[dw,W0,hg];exact hs σ pre _ fun σ' ha=>hs' σ' pre K fun σ'' ha'=>hk σ'' (ha.trans ha' hE.c)
  ·cases hx
def bA(cf:CF0)(d:Option Tmp)(f:gq)(args:List gq)(st:XS):Option XS:=match CI st.fr f with
 |some (.fn fid first cap)=>match FN (CI st.fr) args with
  |some vs=>match cf fid ((first++vs++cap).map weakV)with
   |some r=>some { st with fr:=putD st.fr d true r }
   |none=>none
  |none=>none
 |_=>none
def UK(r:Option XS):Option (XS×AK):=match r with
 |some st=>some (st,[])
 |none=>none
def xAppD(P:gk)(d:Option Tmp)(args:List gq)(Ts:List gv)(st:XS):Option (XS×AK):=match xAppG elemsOf P d args Ts st with
 |some (st',l,q)=>some (st',[(l,q),(l,q+JF)])
 |none=>none
def AO0(P:gk)(E:XE)(own:ft->Bool)(o:ft)(c:Call)(st:XS):Option (XS×AK):=match c.callee with
 |.value f=>Bool.rec (UK (bA E.c0 o.dst f c.args.toList st)) (UK (HX E.co o.dst f c.args.toList st)) (own o)
 |.builtin .append=>xAppD P o.dst c.args.toList c.argTypes.toList st
 |_=>UK (dL P o st)
def AF1(P:gk)(d:Option Tmp)(T:gv)(x y:gq)(st:XS):Option (XS×AK):=match JJ P d T x y st with
 |some st'=>some (st',DV (bz (P.cellsOf T) 1) (CI st.fr x))
 |none=>none
def iV(P:gk)(E:XE)(own:ft->Bool)(o:ft)(st:XS):Option (XS×AK):=match o.op with
 |.alloc T=>UK (O6 P o.dst T st)
 |.box _ x=>UK (nL o.dst x st)
 |.makeMap _ r=>UK (AAN o.dst r st)
 |.makeSlice T x y=>UK (XA P o.dst T x y st)
 |.store T x y=>AF1 P o.dst T x y st
 |.call c=>AO0 P E own o c st
 |_=>UK (dL P o st)
def sT(P:gk)(E:XE)(all:List ft)(o:ft)(st:XS):Option (XS×AK):=match gdX st.fr (LB all o)with
 |some true=>iV P E (DQ all) o st
 |some false=>Bool.rec (some (JB o.dst st,[])) none (kA (DQ all) o||kW o||kP o)
 |none=>none
theorem HZ{r:Option XS}{st':XS}{wr:AK}(h:UK r=some (st',wr)):r=some st'/\wr=[]:=by
 unfold UK at h;split at h
 ·cases h;exact⟨rfl,rfl⟩
 ·cases h
def ASO(P:gk)(Ω:HP P)(all:List ft)(o:ft)(st st':XS)(wr:AK):Prop:=KQ st st' /\
  ∀(W:AK) (σ:Nat->Nat) (pre:List AA) (k:Fr->St->Prop),(∀p∈EG P o (CI st.fr),p∉W)->(∀p∈wr,p∈W)->(∀σ',AO st.c σ σ'->k (st'.fr.ren σ' pre.length) (st'.s.emb σ' pre))->GA P Ω (cQ pre.length W) o (LB all o) (st.fr.ren σ pre.length) (st.s.emb σ pre) k
theorem ALQ{E:XE}(hE:KH P E){all:List ft}{o:ft}{st st':XS}{wr:AK}(h:Bd st)(hx:sT P E all o st=some (st',wr)):ASO P (hE.tab (DQ all)) all o st st' wr:=by
 have val:∀{st'},(∀σ δ,QK (st.fr.ren σ δ) (LB all o)=some true)->dL P o st=some st'->ASO P (hE.tab (DQ all)) all o st st' wr:=by
  intro st' hg hx;unfold dL at hx;split at hx
  ·rename_i v hv;cases hx;have hv:=P3 hv;refine⟨⟨bn _,h.putF (h.val hv),rfl⟩,fun W σ pre k hr _ hk=>.inl ⟨true,v.ren σ pre.length,⟨hg _ _,?_⟩,?_⟩⟩
   ·have hrd:∀p∈EG P o (DW true (st.fr.ren σ pre.length)),p∉cQ pre.length W:=by rw[JT,sJ,<-FK];exact nO hr
    cases hi:nN P o (DW true (st.fr.ren σ pre.length))with
    |true=>exact .inr (.inr (.inl (ASK (JA hv) hi hrd)))
    |false=>exact .inl ⟨_,aW _,AAQ (JA hv) hi hrd⟩
   ·have:=hk σ (AO.refl _ _);rwa [FU]at this
  ·cases hx
 have new:∀{st'},(∀σ δ,QK (st.fr.ren σ δ) (LB all o)=some true)->iP P (hE.tab (DQ all)) o st st'->ASO P (hE.tab (DQ all)) all o st st' wr:=by intro st' hg hn;obtain⟨h1,d,hd,h2⟩:=hn;refine⟨h1,fun W σ pre k _ _ hk=>?_⟩;obtain⟨r,hr,h3⟩:=h2 σ pre k hk;exact .inr (.inl ⟨r,d,⟨hg _ _,hd,hr⟩,h3⟩)
 unfold sT at hx;rw[sS]at hx;split at hx
 ·rename_i hg;have hg':∀σ δ,QK (st.fr.ren σ δ) (LB all o)=some true:=fun σ δ=>NB hg;unfold iV at hx;split at hx
  ·rename_i T ho;exact new hg' (fD h ho (HZ hx).1)
  ·rename_i T x ho;exact new hg' (wC h ho (HZ hx).1)
  ·rename_i T r ho;exact new hg' (wD h ho (HZ hx).1)
  ·rename_i T x y ho;exact new hg' (nM h ho (HZ hx).1)
  ·rename_i T x y ho;unfold AF1 at hx;split at hx
   ·rename_i st1 hx1;cases hx;obtain⟨hE1,_⟩:=fE h ho hx1;obtain⟨l,q,γ,r,hD,rfl⟩:=AFR ho hx1;refine⟨hE1,fun W σ pre k _ hw hk=>.inr (.inr (.inl ⟨_,_,_,_,⟨hg' _ _,?_,sF hD⟩,?_⟩))⟩
    ·have hp:=aA hD;unfold rW at hp;simp only[ho]at hp;have main:∀off,(DW true st.fr x=some (.ptr l q γ off)\/∃i,DW true st.fr x=some (.eptr l q γ i off))->WOK P (cQ pre.length W) o (st.fr.ren σ pre.length) (l+pre.length) q:=by
      intro off hx;have hC:JI P o (st.fr.ren σ pre.length)=some (off,P.cellsOf T):=by unfold JI;rcases hx with hx|⟨i,hx⟩<;>simp only[ho,DM,hx,bq,HT,O2]
      cases hb:bz (P.cellsOf T) 1 with
      |true=>
       have h1:=bj hb
       have hpl:DV (bz (P.cellsOf T) 1) (CI st.fr x)=[(l,q),(l,GS q off)]:=by rw[DZ,hb];rcases hx with hx|⟨i,hx⟩<;>rw[hx]<;>rfl
       rw[hpl]at hw
       refine⟨NA.2 (hw _ (by simp)),.inr fun off' n' e c h2 h3=>?_⟩
       rw[hC]at e
       cases e
       obtain rfl:c=off:=by omega
       exact NA.2 (hw _ (by simp))
      |false=>
       have hpl:DV (bz (P.cellsOf T) 1) (CI st.fr x)=[(l,q),(l,q+JG)]:=by rw[DZ,hb];rcases hx with hx|⟨i,hx⟩<;>rw[hx]<;>rfl
       rw[hpl]at hw
       exact⟨NA.2 (hw _ (by simp)),.inl (NA.2 (hw _ (by simp)))⟩
     split at hp
     ·rename_i l1 q1 γ1 off e;cases hp;exact main off (.inl e)
     ·rename_i l1 q1 γ1 i off e;cases hp;exact main off (.inr ⟨i,e⟩)
     ·cases hp
    ·have:=hk σ (AO.refl _ _);simp only[CT]at this;exact this
   ·cases hx
  ·rename_i c ho;obtain⟨callee,args,Ts⟩:=c;unfold AO0 at hx;split at hx
   ·rename_i f hc;have hc:callee=.value f:=hc;subst hc;cases hown:DQ all o with
    |true=>
     rw[hown]at hx
     exact new hg' (fH hE hown h ho (HZ hx).1)
    |false=>
     rw[hown]at hx
     have hx:=(HZ hx).1
     unfold bA at hx
     split at hx
     ·rename_i fid first cap hf;split at hx
      ·rename_i vs hvs;split at hx
       ·rename_i r hr;cases hx;obtain⟨hA,hcl,hrc⟩:=hE.c0 _ _ _ hr;refine⟨⟨bn _,h.putF (fun σ σ' δ _=>by rw[hrc,hrc]),rfl⟩,fun W σ pre k _ _ hk=>.inl ⟨true,r,⟨hg' _ _,.inr (.inl ⟨fid,(first++vs++cap).map weakV,?_,hown,fun _ s=>hA s⟩)⟩,?_⟩⟩
        ·rw[K1,FK]at hvs;rw[DZ]at hf;simp only[I8,ho,JT,hf,bq,O3,I9 hvs,cw.injEq,fp.injEq,true_and];have e:((first++vs++cap).map weakV).map (V.ren σ pre.length)=(first++vs++cap).map weakV:=by
          conv=>rhs;rw[<-cp ((first++vs++cap).map weakV)]
          exact bf fun v hv=>hcl v hv σ _
         rw[HY]at e;simpa only[bc]using e
        ·have:=hk σ (AO.refl _ _);rwa [FU,hrc]at this
       ·cases hx
      ·cases hx
     ·cases hx
   ·rename_i hc;have hc:callee=.builtin .append:=hc;subst hc;unfold xAppD at hx;split at hx
    ·rename_i st1 l q e1;cases hx;obtain⟨d,r,hd,hp,rfl,hr,_,hs⟩:=aX (fun _ _ _ h=>h) h ho e1;have hra:EG P o (CI st.fr)=KG (CI st.fr) args.toList:=by simp only[EG,ho]
     refine⟨aY h hp hr,fun W σ pre k hrd hw hk=>.inr (.inr (.inr ⟨l+pre.length,q,r.ren σ pre.length,d,⟨hg' _ _,⟨NA.2 (hw _ (by simp)),NA.2 (hw _ (by simp))⟩,hd,_,aW _,hs W σ pre (by rw[<-hra];exact hrd)⟩,fun γ=>sM h hr hk γ⟩))⟩
    ·cases hx
   ·exact val hg' (HZ hx).1
  ·exact val hg' (HZ hx).1
 ·rename_i hg;cases hk:(kA (DQ all) o||kW o||kP o)with
  |true=>rw[hk]at hx;cases hx
  |false=>
   rw[hk]at hx
   cases hx
   rw[fj,fj]at hk
   refine⟨fI h,fun W σ pre k _ _ hk'=>.inl ⟨false,.bool false,⟨NB hg,.inr (.inr (.inr ⟨rfl,hk.1.1,hk.1.2,hk.2⟩))⟩,?_⟩⟩
   have:=hk' σ (AO.refl _ _)
   simpa only[JB,FU,L7]using this
 ·cases hx
def phX(P:gk)(E:XE)(l:List ft):List Nat->XS->AK->AK->Option (XS×AK×AK)
 |[],st,rd,wr=>some (st,rd,wr)
 |i::r,st,rd,wr=>match l[i]? with
  |some o=>match sT P E l o st with
   |some (st',w)=>phX P E l r st' (cond (zB l o) [] (EG P o (CI st.fr))++rd) (w++wr)
   |none=>none
  |none=>none
def sqX(P:gk)(E:XE)(l:List ft):List Nat->XS->Option XS
 |[],st=>some st
 |i::r,st=>match l[i]? with
  |some o=>match opX P E l o st with
   |some st'=>sqX P E l r st'
   |none=>none
  |none=>none
def AAT(P:gk)(E:XE)(l:List ft):XN->XS->Option XS
 |[],st=>some st
 | p :: S,st=>Bool.rec none (match phX P E l p.1 st [] []with
  | some (st1,rd,wr)=>Bool.rec none (match sqX P E l p.2 st1 with
   |some HE=>AAT P E l S HE
   | none=>none) (wr.all fun p=>!(rd.contains p))
  | none=>none) (aN (DQ l) l p.1 st.s.loc)
theorem X9{l:List ft}{i:Nat}{o:ft}(h:l[i]? = some o):cP (l.map (LB l)) i=LB l o:=by simp[cP,h]
theorem ALR{E:XE}{all:List ft}{o:ft}{st st':XS}{wr:AK}(ho:∃T x,o.op=.load T x)(hx:sT P E all o st=some (st',wr)):wr=[]:=by
 obtain⟨T,x,ho⟩:=ho;unfold sT at hx;split at hx
 ·unfold iV at hx;rw[ho]at hx;exact(HZ hx).2
 ·cases hk:(kA (DQ all) o||kW o||kP o)with
  |true=>rw[hk]at hx;cases hx
  |false=>rw[hk]at hx;exact(fp.inj (cw.inj hx)).2.symm
 ·cases hx
theorem AF2{E:XE}(hEE:KH P E){l:List ft}:∀{R:List Nat} {st st':XS} {rd wr rd' wr':AK},Bd st->phX P E l R st rd wr=some (st',rd',wr')->KQ st st'/\(∀p∈rd,p∈rd')/\(∀p∈wr,p∈wr') /\
  ∀(W:AK) (σ:Nat->Nat) (pre:List AA) (K:Fr->St->Prop),(∀p∈rd',p∉W)->(∀p∈wr',p∈W)->(∀σ',AO st.c σ σ'->K (st'.fr.ren σ' pre.length) (st'.s.emb σ' pre))->QV P (hEE.tab (DQ l)) (cQ pre.length W) l (l.map (LB l)) R (st.fr.ren σ pre.length) (st.s.emb σ pre) K
 |[],st,st',rd,wr,rd',wr',h,hx=>by cases hx;exact⟨⟨bn _,h,rfl⟩,fun _ h=>h,fun _ h=>h,fun W σ pre K _ _ hk=>hk σ (AO.refl _ _)⟩
 |i::r,st,st',rd,wr,rd',wr',h,hx=>by
  simp only[phX]at hx;split at hx
  ·rename_i o ho;split at hx
   ·rename_i st1 w1 h1;obtain⟨hE,hs⟩:=ALQ hEE h h1;obtain⟨hE',hr,hw,hs'⟩:=AF2 hEE hE.bd hx;refine⟨⟨dh hE.c hE'.c,hE'.bd,hE'.n.trans hE.n⟩,fun p hp=>hr p (dl _ hp),fun p hp=>hw p (dl _ hp),fun W σ pre K hrd hwr hk=>?_⟩;simp only[QV,NP,ho,X9 ho];cases hz:zB l o with
    |true=>
     have hw0:w1=[]:=ALR (AOU hz) h1
     subst hw0
     unfold wz
     rw[hz]
     exact hs [] σ pre _ (fun p _=>by simp) (fun p hp=>hp) fun σ' ha=>hs' W σ' pre K hrd hwr fun σ'' ha'=>hk σ'' (ha.trans ha' hE.c)
    |false=>
    rw[hz]at hr;unfold wz;rw[hz];exact hs W σ pre _ (fun p hp=>hrd p (hr p (fk _ hp))) (fun p hp=>hwr p (hw p (fk _ hp))) fun σ' ha=>hs' W σ' pre K hrd hwr fun σ'' ha'=>hk σ'' (ha.trans ha' hE.c)
   ·cases hx
  ·cases hx
theorem AF3{E:XE}(hEE:KH P E){l:List ft}:∀{R:List Nat} {st st':XS},Bd st->sqX P E l R st=some st'->KQ st st' /\
  ∀(σ:Nat->Nat) (pre:List AA) (K:Fr->St->Prop),(∀σ',AO st.c σ σ'->K (st'.fr.ren σ' pre.length) (st'.s.emb σ' pre))->AAD P l (l.map (LB l)) R (st.fr.ren σ pre.length) (st.s.emb σ pre) K
 |[],st,st',h,hx=>by cases hx;exact⟨⟨bn _,h,rfl⟩,fun σ pre K hk=>hk σ (AO.refl _ _)⟩
 |i::r,st,st',h,hx=>by
  simp only[sqX]at hx;split at hx
  ·rename_i o ho;split at hx
   ·rename_i st1 h1;obtain⟨hE,g,hg,hs⟩:=AF0 hEE h h1;obtain⟨hE',hs'⟩:=AF3 hEE hE.bd hx;refine⟨⟨dh hE.c hE'.c,hE'.bd,hE'.n.trans hE.n⟩,fun σ pre K hk=>?_⟩;simp only[AAD,ho,X9 ho,hg];exact hs σ pre _ fun σ' ha=>hs' σ' pre K fun σ'' ha'=>hk σ'' (ha.trans ha' hE.c)
   ·cases hx
  ·cases hx
end Go.Pg
namespace Go.Pg
variable {P:gk}{σ σ':Nat->Nat}{δ:Nat}{pre:List AA}{s:St}{fr:Fr}{g:Bool}
def AG:Nat->V->Bool
 |0,_=>false
 |f+1,v=>match v with
  |.int ..|.bool _|.raw _|.nil|.any=>true
  |.agg cs|.tup cs|.ref cs=>cs.all (AG f)
  |.list _ es=>es.all fun e=>e.all (AG f)
  |.fn _ a b=>a.all (AG f)&&b.all (AG f)
  |_=>false
theorem ND{f:Nat}(ih:∀v,AG f v=true->v.ren σ δ=v){cs:List V}(h:cs.all (AG f)=true):cs.map (V.ren σ δ)=cs:=by
 conv=>rhs;rw[<-cp cs]
 exact bf fun v hv=>ih v (bh.1 h v hv)
theorem EP:∀(f:Nat) (v:V),AG f v=true->v.ren σ δ=v
 |0,_,h=>by cases h
 |f+1,v,h=>by
  have ih:=fun v=>EP f v;cases v with
  |agg cs=>rw[HS,ND ih (by simpa [AG]using h)]
  |tup cs=>rw[KX,ND ih (by simpa [AG]using h)]
  |ref cs=>rw[M3,ND ih (by simpa [AG]using h)]
  |list b es=>
   have h':(es.all fun e=>e.all (AG f))=true:=by simpa [AG]using h
   rw[EU]
   congr 1
   conv=>rhs;rw[<-cp es]
   exact bf fun e he=>ND ih (bh.1 h' e he)
  |fn g a b=>
   have h':a.all (AG f)=true/\b.all (AG f)=true:=by simpa [AG]using h
   rw[O3,ND ih h'.1,ND ih h'.2]
  |int k n=>simp
  |bool b=>simp
  |raw v=>simp
  |nil=>simp
  |any=>simp
  |_=>simp[AG]at h
def QY(ks:List Nat)(fr:Fr):Fr:=List.rec (motive:=fun _=>Fr) [] (fun k _ ih=>match BD fr k with
 |some (c,v)=>(k,c,v)::ih
 | none=>ih) ks
theorem bB(fr:Fr):∀(ks:List Nat),QY ks fr=OX ks fr
 |[]=>rfl
 |k::r=>by have:=bB fr r;show(match BD fr k with|some (c,v)=>(k,c,v)::QY r fr|none=>QY r fr)=OX (k::r) fr;rw[this,FJ];rfl
theorem V3:∀(ks:List Nat),OX ks (fr.ren σ δ)=(OX ks fr).ren σ δ
 |[]=>rfl
 |k::r=>by
  simp only[OX,Fr.get_ren,V3 r];cases fr.get k with
  |none=>rfl
  |some p=>rfl
theorem V4{L:AA}:∀(ks:List Nat),I7 ks (L.ren σ δ)=(I7 ks L).ren σ δ
 |[]=>rfl
 |k::r=>by
  simp only[I7,AA.get_ren,V4 r];cases L.get k with
  |none=>rfl
  |some p=>rfl
def UL:List Nat->List Nat->List Nat
 |acc,[]=>acc
 |acc,k::r=>UL (cond (acc.any (bz k)) acc (k::acc)) r
def RO(ks ls:List Nat)(st:XS):XS:=⟨st.c,QY ks st.fr,⟨st.s.up,I7 ls st.s.loc⟩⟩
theorem AF4{ks ls:List Nat}{st:XS}{l k:Nat}{x:Nat×AX}(h:(RO ks ls st).s.get l k=some x):st.s.get l k=some x:=by
 unfold St.get RO at h;unfold St.get;simp only at h;split at h
 ·rename_i e;rw[if_pos e];exact PV h
 ·rename_i e;rw[if_neg e];exact h
theorem UM{ks ls:List Nat}{st:XS}(h:Bd st):KQ st (RO ks ls st):=by
 refine⟨bn _,⟨fun σ σ' δ ha=>?_,fun σ σ' pre ha=>?_,fun l k γ fr ps asg body N ls hg=>h.lp l k γ fr ps asg body N ls (AF4 hg)⟩,rfl⟩
 ·simp only[RO,bB,<-V3];rw[h.f σ σ' δ ha]
 ·have:=h.s σ σ' pre ha;simp only[St.emb,St.mk.injEq]at this;simp only[RO,St.emb,St.mk.injEq,<-V4];exact⟨this.1,by rw[this.2]⟩
theorem V5{n N:Nat}{ρ:Option Nat}{c:gx}{K:Exit->Fr->St->Prop}{ks ls:List Nat}{st:XS}(h:BE P n N ρ c K ((RO ks ls st).fr.ren σ pre.length) ((RO ks ls st).s.emb σ pre)):BE P n N ρ c K (st.fr.ren σ pre.length) (st.s.emb σ pre):=by
 refine zW ks ls ?_;have e2:(⟨(st.s.emb σ pre).up,I7 ls (st.s.emb σ pre).loc⟩:St)=(RO ks ls st).s.emb σ pre:=by simp only[RO,St.emb,V4]
 rw[V3,e2,<-bB];exact h
abbrev cR:=gx->XS->Option (Exit×XS)
def QZ(P:gk)(E:XE)(l:List ft)(st:XS):Option XS:=AAT P E l (dJ l) st
def A3U(P:gk)(E:XE)(l:List ft)(draw:Bool)(st:XS):Option XS:=Bool.rec (iT P E l l st)
 (match ASJ l with
  |[]=>QZ P E l st
  | ds=>QZ P E l (RO (UL [] (st.fr.map (·.1))) ((UL [] (st.s.loc.map (·.1))).filter fun k=>!(ds.any (bz k))) st)) draw
def QM(r:Option XS):Option (Exit×XS):=match r with
 |some st=>some (.normal,st)
 |none=>none
def iW(rec:cR)(b:gx)(r:Option (Exit×XS)):Option (Exit×XS):=match r with
 |some (.normal,st')=>rec b st'
 |r=>r
def NE(id:Nat)(r:Option (Exit×XS)):Option (Exit×XS):=match r with
 |some (.exit i,st')=>Bool.rec (some (.exit i,st')) (some (.normal,st')) (bz i id)
 |r=>r
def nY(rec:cR)(a b:gx)(st:XS)(r:Option V):Option (Exit×XS):=match r with
 |some (.bool c)=>Bool.rec (rec b st) (rec a st) c
 |_=>none
def fJ(rec:cR)(body:gx)(ks:List Nat)(n:Nat):XS->Option (Exit×XS):=Nat.rec (motive:=fun _=>XS->Option (Exit×XS)) (fun _=>none) (fun _ ih st=>match rec body (RO ks (UL [] (st.s.loc.map (·.1))) st)with
 |some (.normal,st')=>ih st'
 | r=>r) n
def BA:Nat:=1000000
def iX(fr:Fr)(n γ:Nat)(r:Option (V×XS)):Option (Exit×XS):=match r with
 |some (_,st)=>match st.s.get n BA with
  | some (γ',.loop _ _ _ _ _ ls)=>Bool.rec none (match ls with
   |.ready=>some (.normal,⟨st.c,fr,st.s.put n BA γ .dead⟩)
   |.left .ret=>some (.ret,⟨st.c,fr,st.s.put n BA γ .dead⟩)
   |.left (.exit id)=>some (.exit id,⟨st.c,fr,st.s.put n BA γ .dead⟩)
   | _=>none) (bz γ' γ&&cx γ st.c)
  |_=>none
 |none=>none
def V6(cf:CF)(N:Nat)(g:gq)(ps:List Tmp)(asg body:gx)(st:XS):Option (Exit×XS):=match CI st.fr g with
 |some (.fn f first cap)=>iX st.fr st.s.up.length st.c (cf f ((first++[V.yld st.s.up.length BA st.c]++cap).map weakV) ⟨st.c+1,st.fr,st.s.put st.s.up.length BA st.c (.loop st.fr ps asg body N .ready)⟩)
 |_=>none
def bC(P:gk)(E:XE)(n N:Nat)(rec:cR):cR:=fun code st=>match code with
 |.skip=>some (.normal,st)
 |.label _=>some (.normal,st)
 |.region _ ops draw=>QM (A3U P E ops.toList draw st)
 |.seq a b=>iW rec b (rec a st)
 |.cond c a b=>nY rec a b st (CI st.fr c)
 |.block id body=>NE id (rec body st)
 |.loop body=>fJ rec body (UL [] (st.fr.map (·.1))) n st
 |.exit id=>some (.exit id,st)
 |.ret=>some (.ret,st)
 |.scope body=>rec body st
 |.rangeFunc g ps asg body=>V6 E.cf N g ps.toList asg body st
 |_=>none
abbrev GU:=Nat->cR
def AAU(P:gk)(rs:List ResultVar)(st:XS):Option (V×Nat×List AA):=match F3 P rs st.fr st.s with
 |some r=>match A1 st.s 4 r with
  |some r'=>some (r',st.c,st.s.up.map (AH st.s))
  |none=>none
 |none=>none
def nZ{α:Type}(rec:cR)(ret:XS->Option α)(code:gx)(st:XS):Option α:=match rec code st with
 |some (.ret,st')=>ret st'
 |some (.normal,st')=>ret st'
 |_=>none
def XC{α:Type}(P:gk)(rec:GU)(ret:Func->XS->Option α)(f:gw)(args:List V)(c:Nat)(up:List AA):Option α:=match P.funcs[f]? with
 |some fn=>match fn.body with
  |some code=>Bool.rec none (nZ (rec fn.ntmps) (ret fn) code ⟨c,AD 0 args,⟨up,[]⟩⟩) (dp args.length fn.ntmps)
  |none=>none
 |none=>none
def fK(P:gk)(rec:GU)(f:gw)(args:List V)(c:Nat)(up:List AA):Option (V×Nat×List AA):=XC P rec (fun fn=>AAU P fn.results.toList) f args c up
def EQ(P:gk)(rec:GU):CF0:=fun f args=>Bool.rec none (match fK P rec f args 0 []with
 |some (r,_,_)=>Bool.rec none (some r) (AG 9 r)
 | none=>none) (args.all (AG 9))
def B8{α:Type}:List α->Option (List α×α)
 |[]=>none
 |[x]=>some ([],x)
 |x::r=>match B8 r with
  |some (a,b)=>some (x::a,b)
  |none=>none
def A5(P:gk)(kn:CF0)(rec:GU):CF0:=fun f args=>match kn f args with
 |some r=>some r
 |none=>EQ P rec f args
def weakM:V->V
 |.nil=>.list false []
 |v=>v
def weakN:V->V
 |.nil=>.list false []
 |.agg cs=>.agg (cs.map weakM)
 |v=>v
theorem RepV.empty{G:Gh}{v:Value}(h:RepV G .nil v):RepV G (.list false []) v:=by cases h;exact .list false [] none 0 0 0 0 #[] 0 (0,0) (fun _ _=>undef) (by simp) (fun h=>by cases h) (fun h=>absurd rfl h) (fun i h=>absurd h (by simp)) (fun i h=>absurd h (by simp)) (fun i h=>absurd h (by simp))
theorem RepV.weakM{G:Gh}{x:V}{v:Value}(h:RepV G x v):RepV G (weakM x) v:=by cases x<;>first|exact h|exact h.empty
theorem iY(x:V):(weakM x).isCell=x.isCell:=by cases x<;>rfl
theorem RepV.weakN{G:Gh}{x:V}{v:Value}(h:RepV G x v):RepV G (weakN x) v:=by
 cases x with
 |nil=>exact h.empty
 |agg cs=>
  cases h with
  |agg _ arr hl hc hr=>
   refine .agg _ arr (by simpa using hl) (fun c hc'=>?_) (fun i h1 h2=>?_)
   ·obtain⟨d,hd,rfl⟩:=dq.1 hc';rw[iY];exact hc d hd
   ·simp only[List.getElem_map];exact(hr i (by simpa using h1) h2).weakM
 |_=>exact h
theorem RepA.weakN{G:Gh}{xs:List V}{vs:List Value}(h:RepA G xs vs):RepA G (xs.map Pg.weakN) vs :=
 ⟨by simpa using h.1,fun i h1 h2=>by simp only[List.getElem_map];exact(h.2 i (by simpa using h1) h2).weakN⟩
def FW(P:gk)(kn:CF0)(rec:GU):CF0:=fun f args=>match A5 P kn rec f (args.map weakN)with
 |some r=>Bool.rec (A5 P kn rec f args) (some r) (args.all (AG 9))
 |none=>A5 P kn rec f args
def BDX(P:gk)(T:gv):Bool:=match P.underlying T with
 |some (.pointer _)=>true
 |_=>false
def BM(P:gk)(f:gw):Bool:=match P.funcs[f]? with
 |some fn=>fn.resultTypes.toList.any (BDX P)
 |none=>false
def bD(P:gk)(kn:CF0)(rec:GU):CF:=fun f args st=>Bool.rec (match fK P rec f args st.c (st.s.up++[st.s.loc])with
 |some (r,c,up)=>match B8 up with
  |some (u,l)=>some (r,⟨c,st.fr,⟨u,l⟩⟩)
  |none=>none
 | none=>none) (match FW P kn rec f args with
  |some r=>some (r,st)
  | none=>none) (args.all (AG 9)&&!(BM P f))
def sU(P:gk)(fn:Func)(st:XS):Option Mk:=match F3 P fn.results.toList st.fr st.s with
 | some (.vec l k γ n)=>Bool.rec none (match st.s.loc.get k with
  |some (γ',.vec T es)=>Bool.rec none (some ⟨.vec T es,none⟩) (bz γ' γ&&bz n es.length&&es.all fun e=>e.all (AG 9))
  | _=>none) (bz l st.s.up.length)
 | some v=>Bool.rec none (match fn.resultTypes.toList with
  |[R]=>match BT P R with
   |some (none,T)=>some ⟨.vec T [],none⟩
   |_=>none
  | _=>none) (XK v)
 |none=>none
def H0(P:gk)(f:gw):Bool:=match P.funcs[f]? with
 |some fn=>match fn.resultTypes.toList with
  |[R]=>match BT P R with
   |some (none,_)=>true
   |_=>false
  |_=>false
 |none=>false
def H1(P:gk)(rec:GU)(f:gw)(args:List V):Option Mk:=Bool.rec none (XC P rec (sU P) f args 0 []) (args.all (AG 9))
def O7(P:gk)(kn:CF0)(ko:CFO)(rec:GU):CFO:=fun f args d=>match ko f args d with
 |some r=>some r
 | none=>Bool.rec (match FW P kn rec f args with
  |some r=>some ⟨.dead,some r⟩
  | none=>none) (H1 P rec f args) (H0 P f)
def IA(s:St)(u:List AA)(l:AA):St:=⟨u.map (AH s),AH s l⟩
def O8(fr:Fr)(l q γ:Nat)(r:Option (Exit×XS)):Option (V×XS):=match r with
 |some (e,st)=>match st.s.get l q with
  | some (γ',.loop fr0 ps asg body N .busy)=>Bool.rec none (match B8 st.s.up with
   |some (u,lc)=>match e with
    |.normal=>some (.bool true,⟨st.c,fr,(IA st.s u lc).put l q γ (.loop fr0 ps asg body N .ready)⟩)
    |.ret=>some (.bool false,⟨st.c,fr,(IA st.s u lc).put l q γ (.loop fr0 ps asg body N (.left .ret))⟩)
    |.exit id=>some (.bool false,⟨st.c,fr,(IA st.s u lc).put l q γ (.loop fr0 ps asg body N (.left (.exit id)))⟩)
    |_=>none
   | none=>none) (bz γ' γ&&cx l st.s.up.length&&cx γ st.c)
  |_=>none
 |none=>none
def bE(rec:cR)(l q γ:Nat)(body:gx)(r:Option (Exit×XS)):Option (Exit×XS):=match r with
 |some (.normal,st)=>match st.s.get l q with
  |some (γ',.loop fr0 ps asg body' N .ready)=>Bool.rec none (rec body ⟨st.c,st.fr,st.s.put l q γ (.loop fr0 ps asg body' N .busy)⟩) (bz γ' γ&&cx γ st.c)
  |_=>none
 |_=>none
def bF(rec:GU):CY:=fun l q γ vs st=>match st.s.get l q with
 |some (γ',.loop fr0 ps asg body N .ready)=>Bool.rec none (O8 st.fr l q γ (bE (rec N) l q γ body (rec N asg ⟨st.c,I5 fr0 ps vs,⟨st.s.up++[st.s.loc],[]⟩⟩))) (bz γ' γ&&bz vs.length ps.length&&cx γ st.c)
 |_=>none
def A3V(P:gk)(kn:CF0)(ko:CFO)(lit:Tmp->Bool)(rec:GU):XE:=⟨bD P kn rec,bF rec,FW P kn rec,O7 P kn ko rec,lit⟩
def sV(fn:Func):Bool:=match fn.body with
 | some c => !(fn.name == "runtime.NumGoroutine") && EV fn.ntmps c
 |none=>true
structure EH(P:gk):Prop where
 all:P.funcs.toList.all sV=true
 mixed:P.follows .mixedOrders=true
def bG(P:gk)(N:Nat)(rec:cR):Prop:=∀code st e st',rec code st=some (e,st')->Bd st->EV N code=true->KQ st st'/\(∀l,e≠.goto l) /\
 ∀(n:Nat) (ρ:Option Nat) (σ:Nat->Nat) (pre:List AA) (K:Exit->Fr->St->Prop),(ρ=none\/GG code=true)->(∀σ',AO st.c σ σ'->K e (st'.fr.ren σ' pre.length) (st'.s.emb σ' pre))->BE P n N ρ code K (st.fr.ren σ pre.length) (st.s.emb σ pre)
def bH(P:gk)(rec:GU):Prop:=∀N,bG P N (rec N)
theorem O9{α:Type}:∀{l:List α} {u:List α} {x:α},B8 l=some (u,x)->l=u++[x]
 |[],u,x,h=>by cases h
 |[y],u,x,h=>by cases h;rfl
 |y::z::r,u,x,h=>by
  simp only[B8]at h;split at h
  ·rename_i a b e;cases h;rw[O9 (l:=z::r) e];rfl
  ·cases h
theorem AF5{c:Nat}{args:List V}(h:∀v∈args,U4 c v)(σ σ':Nat->Nat)(δ:Nat)(ha:AO c σ σ'):(AD 0 args).ren σ δ=(AD 0 args).ren σ' δ:=by rw[<-PZ,<-PZ];congr 1;exact bf fun v hv=>h v hv σ σ' δ ha
theorem ASP{st:XS}(h:Bd st){rs:List ResultVar}{v r:V}(hv:F3 P rs st.fr st.s=some v)(hr:A1 st.s 4 v=some r):U4 st.c r:=by intro σ σ' δ ha;have q1:=O5 (σ:=σ) (pre:=bw δ []) hv;have q2:=O5 (σ:=σ') (pre:=bw δ []) hv;rw[h.f σ σ' _ ha,h.s σ σ' _ ha,q2]at q1;have q:=cw.inj q1;have r1:=KE (σ:=σ) (pre:=bw δ []) 4 hr;have r2:=KE (σ:=σ') (pre:=bw δ []) 4 hr;rw[h.s σ σ' _ ha,<-q,r2]at r1;have:=cw.inj r1;rw[bb]at this;exact this.symm
theorem H2(u:List AA)(l:AA)(i k:Nat):(⟨u,l⟩:St).get i k=match(u++[l])[i]? with
  |some L=>L.get k
  |none=>none:=by
 unfold St.get
 simp only
 by_cases h:i=u.length
 ·subst h;simp
 ·rw[if_neg h];rcases Nat.lt_or_ge i u.length with h'|h'
  ·rw[dx h'];rfl
  ·rw[dv h',dm h'];have:1<=i-u.length:=by omega
   rw[dm (by simpa using this)]
theorem sW(L:AA)(k g:Nat)(r:AX)(h:((AH s L).ren σ pre.length).get k=some (g,r)):∃r0,(L.ren σ pre.length).get k=some (g,r0)/\(r=r0\/r=HN (s.emb σ pre) r0):=by
 rw[AA.get_ren,M7]at h;rw[AA.get_ren];cases hL:L.get k with
 |none=>rw[hL]at h;cases h
 |some p=>
  rw[hL]at h
  cases h
  exact⟨p.2.ren σ pre.length,rfl,nK p.2⟩
theorem fL{s:St}{F:List AA}{u u2:List AA}{l l2:AA}(h1:u++[l]=pre++F.map (AA.ren σ pre.length))(h2:u2++[l2]=pre++(F.map (AH s)).map (AA.ren σ pre.length)):zN (s.emb σ pre) ⟨u,l⟩ ⟨u2,l2⟩:=by
 have hlen:u2.length=u.length:=by have a1:=congrArg db h1;have a2:=congrArg db h2;simp at a1 a2;omega
 refine⟨hlen,fun i k g r hg=>?_⟩;rw[H2,h2]at hg;rw[H2,h1];rcases Nat.lt_or_ge i pre.length with hi|hi
 ·rw[dx hi]at hg|-;exact⟨r,hg,.inl rfl⟩
 ·rw[dv hi]at hg|-;simp only[fh,List.getElem?_map]at hg|-;cases hF:F[i-pre.length]? with
  |none=>rw[hF]at hg;cases hg
  |some L=>
   rw[hF]at hg
   exact sW L k g r hg
theorem sX{s:St}{c:Nat}(hs:∀σ σ' pre,AO c σ σ'->s.emb σ pre=s.emb σ' pre){r:AX}(hr:∀σ σ' δ,AO c σ σ'->r.ren σ δ=r.ren σ' δ)(σ σ':Nat->Nat)(δ:Nat)(ha:AO c σ σ'):(CG s r).ren σ δ=(CG s r).ren σ' δ:=by
 unfold CG;split
 ·rename_i r' h;have q1:=LA (σ:=σ) (pre:=bw δ []) h;have q2:=LA (σ:=σ') (pre:=bw δ []) h;rw[hs σ σ' _ ha]at q1;simp only[bb]at q1 q2;rw[hr σ σ' _ ha,q2]at q1;exact(cw.inj q1).symm
 ·exact hr σ σ' δ ha
theorem oA{L:AA}{δ:Nat}(σ σ':Nat->Nat):L.ren σ δ=L.ren σ' δ↔∀p∈L,σ p.2.1=σ' p.2.1/\p.2.2.ren σ δ=p.2.2.ren σ' δ:=by unfold AA.ren;rw[cm];simp only[fp.injEq,true_and]
theorem fM{s:St}{c:Nat}(hs:∀σ σ' pre,AO c σ σ'->s.emb σ pre=s.emb σ' pre){L:AA}(hL:∀σ σ' δ,AO c σ σ'->L.ren σ δ=L.ren σ' δ)(σ σ':Nat->Nat)(δ:Nat)(ha:AO c σ σ'):(AH s L).ren σ δ=(AH s L).ren σ' δ:=by rw[oA];intro p hp;obtain⟨x,hx,rfl⟩:=dq.1 hp;have h1:∀σ σ' δ,AO c σ σ'->σ x.2.1=σ' x.2.1/\x.2.2.ren σ δ=x.2.2.ren σ' δ:=fun σ σ' δ ha=>(oA σ σ').1 (hL σ σ' δ ha) x hx;exact⟨(h1 σ σ' δ ha).1,sX hs (fun σ σ' δ ha=>(h1 σ σ' δ ha).2) σ σ' δ ha⟩
theorem AF6{s:St}{c:Nat}(hs:∀σ σ' pre,AO c σ σ'->s.emb σ pre=s.emb σ' pre):∀L∈s.up,∀σ σ' δ,AO c σ σ'->L.ren σ δ=L.ren σ' δ:=by intro L hL σ σ' δ ha;have:=hs σ σ' (bw δ []) ha;simp only[St.emb,St.mk.injEq,bb]at this;exact cm.1 (dc this.1) L hL
theorem fN(s:St)(L:AA){k γ:Nat}{fr:Fr}{ps:List Tmp}{asg body:gx}{N:Nat}{st:LS}(h:(AH s L).get k=some (γ,.loop fr ps asg body N st)):L.get k=some (γ,.loop fr ps asg body N st):=by
 rw[M7]at h;cases hL:L.get k with
 |none=>rw[hL]at h;cases h
 |some p=>
  rw[hL]at h
  simp only[bq,cw.injEq,fp.injEq]at h
  obtain⟨h1,h2⟩:=h
  obtain⟨g,r⟩:=p
  simp only at h1 h2
  subst h1
  congr 2
  cases r with
  |loop=>exact h2
  |box cs=>unfold CG at h2;split at h2<;>rename_i e<;>simp only[CC]at e<;>(try (split at e<;>cases e))<;>cases h2
  |vec T es=>unfold CG at h2;split at h2<;>rename_i e<;>simp only[CC]at e<;>(try (split at e<;>cases e))<;>cases h2
  |map es=>unfold CG at h2;split at h2<;>rename_i e<;>simp only[CC]at e<;>(try (split at e<;>cases e))<;>cases h2
  |dead=>unfold CG at h2;split at h2<;>rename_i e<;>simp only[CC]at e<;>cases e;cases h2
def FX(P:gk)(f:gw)(args:List V)(c:Nat)(up:List AA)(r:V)(c':Nat)(up':List AA):Prop:=c<=c'/\U4 c' r/\(∀σ σ' δ,AO c' σ σ'->up'.map (AA.ren σ δ)=up'.map (AA.ren σ' δ))/\up'.length=up.length /\
  (∀L∈up',∀k γ fr ps asg body N st,L.get k=some (γ,.loop fr ps asg body N st)->UH N ps asg body=true) /\
  ∀(σ:Nat->Nat) (pre:List AA) (s:St) (K:V->St->Prop),s.up++[s.loc]=pre++up.map (AA.ren σ pre.length)->(∀σ' u l,AO c σ σ'->u++[l]=pre++up'.map (AA.ren σ' pre.length)->K (r.ren σ' pre.length) ⟨u,l⟩)->FQ P f (args.map (V.ren σ pre.length)) s K
theorem bI(hP:EH P){rec:GU}(hrec:bH P rec){α:Type}{ret:Func->XS->Option α}{f:gw}{args:List V}{c:Nat}{up:List AA}{x:α}(hx:XC P rec ret f args c up=some x)(hargs:∀v∈args,U4 c v)
  (hup:∀σ σ' δ,AO c σ σ'->up.map (AA.ren σ δ)=up.map (AA.ren σ' δ)) (hlp:∀L∈up,∀k γ fr ps asg body N st,L.get k=some (γ,.loop fr ps asg body N st)->UH N ps asg body=true) :
  ∃fn st',ret fn st'=some x/\Bd st'/\c<=st'.c/\st'.s.up.length=up.length/\∀(σ:Nat->Nat) (pre:List AA) (s:St) (K:V->St->Prop),s.up++[s.loc]=pre++up.map (AA.ren σ pre.length) ->
   (∀σ',AO c σ σ'->ASE P fn.results.toList (s.up.length+1) K .ret (st'.fr.ren σ' pre.length) (st'.s.emb σ' pre))->FQ P f (args.map (V.ren σ pre.length)) s K:=by
 unfold XC at hx
 split at hx
 ·rename_i fn hf;split at hx
  ·rename_i code hb;obtain⟨hsz,hx1⟩:=EL hx;have hck:sV fn=true:=bh.1 hP.all fn (by
    have:=Array.mem_of_getElem? hf;simpa using this)
   simp only[sV,hb,bx,fg]at hck;have hbd:Bd ⟨c,AD 0 args,⟨up,[]⟩⟩:=⟨fun σ σ' δ ha=>AF5 hargs σ σ' δ ha,fun σ σ' pre ha=>by simp only[St.emb,hup σ σ' _ ha]; rfl,fun l k γ fr ps asg body N st hg=>by
    rw[H2]at hg;split at hg
    ·rename_i L hL;rcases dt.1 (fq hL)with hm|hm
     ·exact hlp L hm _ _ _ _ _ _ _ _ hg
     ·have:L=[]:=by simpa using hm
      subst this;simp at hg
    ·cases hg⟩
   have main:∀e st',rec fn.ntmps code ⟨c,AD 0 args,⟨up,[]⟩⟩=some (e,st')->(e=.ret\/e=.normal)->ret fn st'=some x->∃fn st',ret fn st'=some x/\Bd st'/\c<=st'.c/\st'.s.up.length=up.length/\∀(σ:Nat->Nat) (pre:List AA) (s:St) (K:V->St->Prop),s.up++[s.loc]=pre++up.map (AA.ren σ pre.length) ->
     (∀σ',AO c σ σ'->ASE P fn.results.toList (s.up.length+1) K .ret (st'.fr.ren σ' pre.length) (st'.s.emb σ' pre))->FQ P f (args.map (V.ren σ pre.length)) s K:=by
    intro e st' h1 he h2
    obtain⟨hE,_,hC⟩:=hrec _ _ _ _ _ h1 hbd hck.2
    refine⟨fn,st',h2,hE.bd,hE.c,hE.n,fun σ pre s K hs hk=>?_⟩
    refine A3N hf hb (mO hf hb hck.1) (by simpa using hsz) ?_
    have e1:(⟨s.up++[s.loc],[]⟩:St)=(⟨up,[]⟩:St).emb σ pre:=by simp only[St.emb,hs];rfl
    rw[PZ,e1]
    refine hC _ none σ pre _ (.inl rfl) fun σ' ha=>?_
    have:=hk σ' ha
    rcases he with rfl|rfl<;>exact this
   unfold nZ at hx1;split at hx1
   ·rename_i st' h1;exact main _ _ h1 (.inl rfl) hx1
   ·rename_i st' h1;exact main _ _ h1 (.inr rfl) hx1
   ·cases hx1
  ·cases hx
 ·cases hx
theorem oB(hP:EH P){rec:GU}(hrec:bH P rec){f:gw}{args:List V}{c:Nat}{up:List AA}{r:V}{c':Nat}{up':List AA}(hx:fK P rec f args c up=some (r,c',up'))(hargs:∀v∈args,U4 c v)
  (hup:∀σ σ' δ,AO c σ σ'->up.map (AA.ren σ δ)=up.map (AA.ren σ' δ)) (hlp:∀L∈up,∀k γ fr ps asg body N st,L.get k=some (γ,.loop fr ps asg body N st)->UH N ps asg body=true):FX P f args c up r c' up':=by
 obtain⟨fn,st',hret,hbd,hc,hlen,hA⟩:=bI hP hrec hx hargs hup hlp
 unfold AAU at hret
 split at hret
 ·rename_i r0 hr0;split at hret
  ·rename_i r1 hr1;cases hret;refine⟨hc,ASP hbd hr0 hr1,fun σ σ' δ ha=>?_,by simpa using hlen,fun L hL k γ fr ps asg body N st hg=>?_,fun σ pre s K hs hk=>hA σ pre s K hs fun σ' ha=>?_⟩
   ·simp only[fh];exact bf fun L hL=>fM hbd.s (AF6 hbd.s L hL) σ σ' δ ha
   ·obtain⟨L0,hL0,rfl⟩:=dq.1 hL;have hg:=fN _ _ hg;obtain⟨i,hi,rfl⟩:=List.getElem_of_mem hL0;refine hbd.lp i k γ fr ps asg body N st ?_;unfold St.get;rw[if_neg (by omega),List.getElem?_eq_getElem hi];exact hg
   ·have hl2:(st'.s.emb σ' pre).up.length=s.up.length+1:=by have q:=congrArg db hs;simp only[cg,ct,bp]at q;rw[DE,hlen];omega
    rcases dn (st'.s.emb σ' pre).up with h0|⟨u,l,h0⟩
    ·rw[h0]at hl2;simp at hl2
    ·have h0:(st'.s.emb σ' pre).up=u++[l]:=by simpa using h0
     have hu:u.length+1=s.up.length+1:=by rw[<-hl2,h0];simp
     have hcl:=O4 4 (KE (σ:=σ') (pre:=pre) 4 hr1);have hres:=O5 (σ:=σ') (pre:=pre) hr0;rcases dn (pre++(st'.s.up.map (AH st'.s)).map (AA.ren σ' pre.length))with h3|⟨u2,l2,h3⟩
     ·have h4:=congrArg db h3;have h5:=congrArg db h0;simp only[St.emb,cg,bp,List.length_nil,ct]at h4 h5;omega
     ·have h3:pre++(st'.s.up.map (AH st'.s)).map (AA.ren σ' pre.length)=u2++[l2]:=by simpa using h3
      have hK:=hk σ' u2 l2 ha h3.symm;have hS:=fL (s:=st'.s) (F:=st'.s.up) (u:=u) (l:=l) (u2:=u2) (l2:=l2) (σ:=σ') (pre:=pre) h0.symm h3.symm;exact⟨u,l,_,h0,hu,hres,.inl ⟨_,_,by rw[hcl];exact Wk.refl _,hS,hK⟩⟩
  ·cases hret
 ·cases hret
theorem V7{c:Nat}{args:List V}(h:args.all (AG 9)=true):∀v∈args,U4 c v:=fun v hv σ σ' δ _=>by rw[EP 9 v (bh.1 h v hv),EP 9 v (bh.1 h v hv)]
theorem bJ(hP:EH P){rec:GU}(hrec:bH P rec):HW P (EQ P rec):=by
 intro f args r hx;unfold EQ at hx;obtain⟨hcl,hx1⟩:=EL hx;split at hx1
 ·rename_i r0 c' up' h1;obtain⟨hr,rfl⟩:=JZ hx1;obtain⟨_,_,_,hlen,_,hA⟩:=oB hP hrec h1 (V7 hcl) (fun _ _ _ _=>rfl) (fun L hL=>by cases hL);have hargs:∀v∈args,∀σ δ,V.ren σ δ v=v:=fun v hv σ δ=>EP 9 v (bh.1 hcl v hv);have hup:up'=[]:=dj hlen;refine⟨fun s=>?_,hargs,fun σ δ=>EP 9 _ hr⟩;have:=hA id (s.up++[s.loc]) s (fun r' s'=>r'=r0/\s'=s) (by simp) fun σ' u l _ hu=>?_
  ·have e:args.map (V.ren id (s.up++[s.loc]).length)=args:=by
    conv=>rhs;rw[<-cp args]
    exact bf fun v hv=>hargs v hv _ _
   rw[e]at this;exact this
  ·rw[hup]at hu;simp only[dk,List.append_nil]at hu;obtain⟨e1,e2⟩:=dg hu rfl;refine⟨EP 9 _ hr,?_⟩;subst e1;simp only[List.cons.injEq,and_true]at e2;subst e2;rfl
 ·cases hx1
theorem bK(hP:EH P){kn:CF0}(hkn:HW P kn){rec:GU}(hrec:bH P rec):HW P (A5 P kn rec):=by
 intro f args r hx;unfold A5 at hx;split at hx
 ·rename_i r0 h0;cases hx;exact hkn _ _ _ h0
 ·exact bJ hP hrec _ _ _ hx
theorem bL(hP:EH P){kn:CF0}(hkn:HW P kn){rec:GU}(hrec:bH P rec):HW P (FW P kn rec):=by
 intro f args r hx;unfold FW at hx;split at hx
 ·rename_i r0 h0;cases hcl:args.all (AG 9)with
  |false=>rw[hcl]at hx;exact bK hP hkn hrec _ _ _ hx
  |true=>
   rw[hcl]at hx
   cases hx
   obtain⟨hA,_,h2⟩:=bK hP hkn hrec _ _ _ h0
   exact⟨fun s=>⟨(hA s).1,fun G vals w R hI ha hR=>(hA s).2 G vals w R hI ha.weakN hR⟩,fun v hv σ δ=>EP 9 v (bh.1 hcl v hv),h2⟩
 ·exact bK hP hkn hrec _ _ _ hx
theorem handed(hP:EH P){rec:GU}(hrec:bH P rec){f:gw}{args:List V}{ret:Func->XS->Option Mk}{r:Mk}{d:Tmp}(hcl:args.all (AG 9)=true)(hx:XC P rec ret f args 0 []=some r)
  (hr:∀(fn:Func) (st':XS),ret fn st'=some r->st'.s.up=[]->∀(s:St) (σ':Nat->Nat),∃r0,F3 P fn.results.toList (st'.fr.ren σ' (s.up++[s.loc]).length) (st'.s.emb σ' (s.up++[s.loc]))=some r0 /\
   ((∃k γ T es,(st'.s.emb σ' (s.up++[s.loc])).loc.get k=some (γ,.vec T es)/\zV (s.up.length+1) k s.up.length d 4 r0=r.val s.up.length d γ/\r.res=.vec T es)\/(∃T,XK r0=true/\r=⟨.vec T [],none⟩)))
  (s:St):FQ P f args s fun v s'=>∃γ,v=r.val s.up.length d γ/\s'=s.put s.up.length d γ r.res:=by
 obtain⟨fn,st',hret,hbd,hc,hlen,hA⟩:=bI hP hrec hx (V7 hcl) (fun _ _ _ _=>rfl) (fun L hL=>by cases hL)
 have hargs:∀v∈args,∀σ δ,V.ren σ δ v=v:=fun v hv σ δ=>EP 9 v (bh.1 hcl v hv)
 have hup:st'.s.up=[]:=dj hlen
 have:=hA id (s.up++[s.loc]) s (fun v s'=>∃γ,v=r.val s.up.length d γ/\s'=s.put s.up.length d γ r.res) (by simp) fun σ' _=>?_
 ·have e:args.map (V.ren id (s.up++[s.loc]).length)=args:=by
   conv=>rhs;rw[<-cp args]
   exact bf fun v hv=>hargs v hv _ _
  rw[e]at this;exact this
 ·obtain⟨r0,h1,h2⟩:=hr fn st' hret hup s σ';refine⟨s.up,s.loc,r0,by simp[St.emb,hup],rfl,h1,.inr ?_⟩;rcases h2 with⟨k,γ,T,es,h3,h4,h5⟩|⟨T,h3,h4⟩
  ·exact .inl ⟨k,γ,T,es,d,h3,γ,h4,by rw[h5]⟩
  ·subst h4;exact .inr ⟨d,T,h3,fun γ=>⟨γ,rfl,rfl⟩⟩
theorem AAV(hP:EH P){rec:GU}(hrec:bH P rec){f:gw}{args:List V}{r:Mk}{d:Tmp}(hx:H1 P rec f args=some r) :
  (∀(s:St),FQ P f args s fun v s'=>∃γ,v=r.val s.up.length d γ/\s'=s.put s.up.length d γ r.res)/\(∀v∈args,∀σ δ,v.ren σ δ=v)/\(∀σ δ,r.res.ren σ δ=r.res)/\dK r.res=true:=by
 unfold H1 at hx
 obtain⟨hcl,hx1⟩:=EL hx
 have hargs:∀v∈args,∀σ δ,V.ren σ δ v=v:=fun v hv σ δ=>EP 9 v (bh.1 hcl v hv)
 have main:∀(fn:Func) (st':XS),sU P fn st'=some r->((∀σ δ,r.res.ren σ δ=r.res)/\dK r.res=true)/\(st'.s.up=[]->∀(s:St) (σ':Nat->Nat),∃r0,F3 P fn.results.toList (st'.fr.ren σ' (s.up++[s.loc]).length) (st'.s.emb σ' (s.up++[s.loc]))=some r0 /\
   ((∃k γ T es,(st'.s.emb σ' (s.up++[s.loc])).loc.get k=some (γ,.vec T es)/\zV (s.up.length+1) k s.up.length d 4 r0=r.val s.up.length d γ/\r.res=.vec T es)\/(∃T,XK r0=true/\r=⟨.vec T [],none⟩))):=by
  intro fn st' hret
  unfold sU at hret
  split at hret
  ·rename_i l k γ n hres;obtain⟨hl,hret⟩:=EL hret;have hl:=bj hl;split at hret
   ·rename_i γ' T es hget;obtain⟨hc2,he⟩:=JZ hret;cases he;simp only[bx]at hc2;obtain⟨⟨h1,h2⟩,h3⟩:=hc2;have h1:=bj h1;have h2:=bj h2;subst h1;subst h2;have hes:∀σ δ,es.map (cj (V.ren σ δ))=es:=fun σ δ=>by
     conv=>rhs;rw[<-cp es]
     exact bf fun e he=>ND (fun v=>EP 9 v) (bh.1 h3 e he)
    refine⟨⟨fun σ δ=>by simp only[AX.ren,hes],rfl⟩,fun hup s σ'=>⟨_,O5 hres,.inl ⟨k,σ' γ',T,es,?_,?_,rfl⟩⟩⟩
    ·rw[KY,hget];simp only[bq,AX.ren,hes]
    ·rw[hup]at hl;subst hl;simp[zV,Mk.val,HO]
   ·cases hret
  ·rename_i v hnv hres;obtain⟨hn,hret⟩:=EL hret;split at hret
   ·split at hret
    ·rename_i T _;cases hret;exact⟨⟨fun _ _=>rfl,rfl⟩,fun hup s σ'=>⟨_,O5 hres,.inr ⟨_,by rw[AFU];exact hn,rfl⟩⟩⟩
    ·cases hret
   ·cases hret
  ·cases hret
 obtain⟨fn,st',hret,_⟩:=bI hP hrec hx1 (V7 hcl) (fun _ _ _ _=>rfl) (fun L hL=>by cases hL)
 exact⟨handed hP hrec hcl hx1 fun fn st' h=>(main fn st' h).2,hargs,(main fn st' hret).1⟩
theorem CU.nought{G:Gh}{s:St}{w:World}(hI:CU G s w)(d γ:Nat):CU G (s.put s.up.length d γ .dead) w:=by
 have look:∀{l k x},(s.put s.up.length d γ .dead).get l k=some x->x=(γ,.dead)\/s.get l k=some x:=fun {l k x} h=>by
  rw[St.get_putLoc]at h;split at h
  ·exact .inl (cw.inj h).symm
  ·exact .inr h
 refine⟨hI.sl,fun l k g r h=>?_,fun l k g r l' k' g' r' b h1 h2 h3 h4=>?_,fun l k g r b h1 h2=>?_,hI.fresh,hI.env⟩
 ·rcases look h with e|e
  ·cases e;trivial
  ·exact hI.res _ _ _ _ e
 ·rcases look h1 with e|e1
  ·cases e;cases h3
  ·rcases look h2 with e|e2
   ·cases e;cases h4
   ·exact hI.sep _ _ _ _ _ _ _ _ _ e1 e2 h3 h4
 ·rcases look h1 with e|e
  ·cases e;cases h2
  ·exact hI.out _ _ _ _ _ e h2
theorem AF7(hP:EH P){kn:CF0}(hkn:HW P kn){ko:CFO}(hko:sO P ko){rec:GU}(hrec:bH P rec):sO P (O7 P kn ko rec):=by
 intro f args d r hx;unfold O7 at hx;split at hx
 ·rename_i r0 h0;cases hx;exact hko _ _ _ _ h0
 ·cases hs:H0 P f with
  |true=>
   rw[hs]at hx
   exact AAV hP hrec hx
  |false=>
   rw[hs]at hx
   have hx:(match FW P kn rec f args with
    |some r=>some (⟨.dead,some r⟩:Mk)
    | none=>none)=some r:=hx
   split at hx
   ·rename_i r0 h0;cases hx;obtain⟨hA,h1,h2⟩:=bL hP hkn hrec _ _ _ h0;refine⟨fun s=>⟨(hA s).1,fun G vals w R hI ha hR=>(hA s).2 G vals w R hI ha fun G' v u w' s' hle hI' hv hlen hk=>?_⟩,h1,fun _ _=>rfl,rfl⟩;obtain⟨rfl,rfl⟩:=hk;exact hR G' _ u w' (s'.put s'.up.length d 0 .dead) hle (hI'.nought d 0) hv (St.put_len _ _ _ _ _) ⟨0,(h2 _ _).symm,rfl⟩
   ·cases hx
theorem AF8(hP:EH P){kn:CF0}(hkn:HW P kn){rec:GU}(hrec:bH P rec):fG P (bD P kn rec):=by
 intro f args st r st' hx hbd hargs;unfold bD at hx;cases hcl:(args.all (AG 9)&&!(BM P f))with
 |true=>
  rw[hcl]at hx
  have hx:(match FW P kn rec f args with|some r=>some (r,st)|none=>none)=some (r,st'):=hx
  split at hx
  ·rename_i r0 h0;cases hx;obtain⟨hA,h1,h2⟩:=bL hP hkn hrec _ _ _ h0;refine⟨⟨bn _,hbd,rfl⟩,fun σ σ' δ _=>by rw[h2,h2],rfl,fun σ pre K hk=>?_⟩;have e:args.map (V.ren σ pre.length)=args:=by
    conv=>rhs;rw[<-cp args]
    exact bf fun v hv=>h1 v hv _ _
   rw[e];refine(hA (st.s.emb σ pre)).mono fun r' s' q5=>?_;obtain⟨rfl,rfl⟩:=q5;have:=hk σ (AO.refl _ _);rwa [h2]at this
  ·cases hx
 |false=>
  rw[hcl]at hx
  have hx:(match fK P rec f args st.c (st.s.up++[st.s.loc])with
   |some (r,c,up)=>match B8 up with
    |some (u,l)=>some (r,(⟨c,st.fr,⟨u,l⟩⟩:XS))
    |none=>none
   | none=>none)=some (r,st'):=hx
  split at hx
  ·rename_i r0 c0 up0 h1;split at hx
   ·rename_i u l hu;cases hx;have hup0:=O9 hu;have hsb:∀σ σ' δ,AO st.c σ σ'->(st.s.up++[st.s.loc]).map (AA.ren σ δ)=(st.s.up++[st.s.loc]).map (AA.ren σ' δ):=by intro σ σ' δ ha;have:=hbd.s σ σ' (bw δ []) ha;simp only[St.emb,St.mk.injEq,bb]at this;simp only[bc,dw,dk];rw[dc this.1,this.2]
    have hlp:∀L∈st.s.up++[st.s.loc],∀k γ fr ps asg body N st,L.get k=some (γ,.loop fr ps asg body N st)->UH N ps asg body=true:=by intro L hL k γ fr ps asg body N ls hg;obtain⟨i,hi⟩:=List.getElem?_of_mem hL;refine hbd.lp i k γ fr ps asg body N ls ?_;have:=H2 st.s.up st.s.loc i k;rw[hi]at this;exact this.trans hg
    obtain⟨hc,hrb,hub,hlen,hlp',hA⟩:=oB hP hrec h1 hargs hsb hlp;subst hup0;refine⟨⟨hc,⟨fun σ σ' δ ha=>hbd.f σ σ' δ (ha.mono hc),fun σ σ' pre ha=>?_,fun i k γ fr ps asg body N ls hg=>?_⟩,?_⟩,hrb,rfl,fun σ pre K hk=>?_⟩
    ·have:=hub σ σ' pre.length ha;simp only[bc,dw,dk]at this;obtain⟨e1,e2⟩:=dg this rfl;simp only[List.cons.injEq,and_true]at e2;simp only[St.emb,e1,e2]
    ·rw[H2]at hg;split at hg
     ·rename_i L hL;exact hlp' L (fq hL) _ _ _ _ _ _ _ _ hg
     ·cases hg
    ·simp only[cg,ct]at hlen;simp only;omega
    ·refine hA σ pre (st.s.emb σ pre) K (by simp[St.emb]) fun σ' u' l' ha hu'=>?_;have:=hk σ' ha;simp only[bc,dw,dk,<-List.append_assoc]at hu';obtain⟨e1,e2⟩:=dg hu' rfl;simp only[List.cons.injEq,and_true]at e2;subst e1;subst e2;exact this
   ·cases hx
  ·cases hx
end Go.Pg
