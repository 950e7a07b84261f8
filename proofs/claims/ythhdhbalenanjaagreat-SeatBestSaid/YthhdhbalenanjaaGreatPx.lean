/- Running a Go function upon abstract values, by computing: one operation, and that it is what the walk asks. No program in sight. -/
import Derived.Test.YthhdhbalenanjaaGreatP5
noncomputable section
open Go renaming Oper->fp,Program->ft,Operand->gk,TypeId->gq,FuncId->gv,Code->gw
open Nat renaming eq_of_beq_eq_true->bj,beq->bz,lt_succ_self->bm,le_refl->bn,le_succ->cq,blt->cx,ble_eq->cz,blt_eq->cd,le_trans->dg,ble->dn,lt_of_lt_of_le->fq
open Option renaming bind_eq_some_iff->bk,map_some->bq,bind_some->bg,some->cw
open List renaming replicate->bw,length_replicate->bb,map_append->bc,map_congr_left->bf,all_eq_true->bh,length_map->bp,map->cj,map_take->ck,length_append->cg,map_inj_left->cm,map_id->cn,length_singleton->cp,eq_nil_of_length_eq_zero->ct,map_nil->dj,mem_map->dk,getElem?_append_right->dq,map_cons->dv,getElem?_append_left->dw,map_replicate->dx,length->dz,append_cancel_left->db,map_flatten->dc,append_inj'->df,mem_append_right->dh,getElem?_eq_none->dl,eq_nil_or_concat->dm,getElem?_mapIdx->dp,mem_append->dr,mem_append_left->fj,mem_of_getElem?->fk,all_map->fw,length_mapIdx->fx,map_map->fg
open Bool renaming and_eq_true->bx,or_eq_false_iff->dt,not_eq_true'->fc
open Prod renaming mk->fh
namespace Go.Pg
variable {P:ft}{Ω:HQ P}{σ σ':Nat->Nat}{δ:Nat}{pre:List AA}{s:St}{fr:Fr}{g:Bool}
def LW(all:List fp)(o:fp):Option (Tmp×Bool):=match o.guard with
 |none=>none
 |some (j,w)=>match all[j]? with
  |some p=>match p.dst with
   |some d=>some (d,w)
   |none=>none
  |none=>none
def yJ(all:List fp):Bool:=all.all fun o=>HN all o (LW all o)
theorem kO{all:List fp}:∀{l:List fp},(∀o∈l,HN all o (LW all o)=true)->J3 all (l.map (LW all)) l=true
 |[],_=>rfl
 |o::l,h=>by simp only[dv,J3,bx];exact⟨h o (by simp),kO fun p hp=>h p (by simp[hp])⟩
theorem U7{all:List fp}(h:yJ all=true):∀o∈all,HN all o (LW all o)=true:=fun o ho=>bh.1 h o ho
def A63(d:Tmp)(p:fp):Bool:=match p.op with
 |.call { callee:=.builtin .append,args,.. }=>match args.toList with
  |.tmp t::_=>bz t d
  |_=>false
 |.call { callee:=.value (.func _),args,argTypes }=>match args.toList,argTypes.toList with
  |[.tmp t,_],[T,U]=>bz t d&&bz T p.type&&!(bz U T)
  |_,_=>false
 |_=>false
def AU2(d:Tmp)(p:fp):Bool:=match p.op with
 |.store _ _ (.tmp t)=>bz t d
 |_=>false
def DV(l:List fp)(o:fp):Bool:=match o.op,o.dst with
 |.call { callee:=.value _,.. },some d=>l.any fun p=>A63 d p||AU2 d p
 |_,_=>false
def kS(o:fp):Bool:=match o.op with
 |.mapUpdate ..|.insert ..=>true
 |.call { callee:=.builtin b,.. }=>match b with
  |.len|.max|.min|.cap|.append=>false
  |_=>true
 |_=>false
def kC(o:fp):Bool:=match o.op with
 |.call { callee:=.value _,.. }=>true
 |_=>false
def onB(o:fp)(A:List Nat):Bool:=o.after.any fun e=>Region.binds .any e&&A.contains e.on
def A64(o:fp)(l:List fp)(A:List Nat):Bool:=kW o&&l.isEmpty&&A.all fun j=>o.after.any fun e=>Region.binds .any e&&bz e.on j
def A65(o:fp)(i:Nat):List Nat->List Nat
 |[]=>[i]
 |a::A=>cond (onB o [a]) (i::a::A) (a::A65 o i A)
def KP(own:fp->Bool):List fp->Nat->List Nat->List Nat->List Nat->List Nat->List Nat->List Nat->List Nat×List Nat
 |[],_,R,Q,A,S,R2,T=>(R.reverse++Q.reverse++A.reverse++S.reverse++R2.reverse,T.reverse)
 |o::l,i,R,Q,A,S,R2,T=>
  cond (onB o T||kS o||A64 o l (R++Q++A++S++R2++T)||(kC o&&(onB o (Q++S++R2)||(!(own o)&&onB o A)))) (KP own l (i+1) R Q A S R2 (i::T))
   (cond (kP o) (cond (onB o (A++S++R2)) (KP own l (i+1) R Q A S (i :: R2) T) (KP own l (i+1) R (i :: Q) A S R2 T))
   (cond (kW o) (cond (onB o R2) (KP own l (i+1) R Q A S (i :: R2) T) (KP own l (i+1) R Q A (i :: S) R2 T))
    (cond (onB o (Q++S++R2)||(cond (kA own o) (!R2.isEmpty) (onB o (A.take 1)))) (KP own l (i+1) R Q A S (i :: R2) T)
     (cond (kA own o) (KP own l (i+1) R Q (i :: A) S R2 T) (cond (onB o A) (KP own l (i+1) R Q (A65 o i A) S R2 T) (KP own l (i+1) (i :: R) Q A S R2 T))))))
def AQ6(af:Nat):List (Nat×Nat)->Nat->Nat
 |[],m=>m
 |p::r,m=>HR (cond (WO af p.1) (Nat.lor m (Nat.lor p.2 (Nat.shiftLeft 1 p.1))) m) (AQ6 af r)
def A66:List (Nat×Nat)->List (Nat×Nat)->List (Nat×Nat)
 |[],acc=>acc
 |p::r,acc=>HR (AQ6 p.2 acc 0) fun m=>A66 r ((p.1,m)::acc)
def AU3(l:List fp):List Nat:=((A66 (afL l 0) []).filterMap fun p=>cond (bz p.2 (Nat.sub (Nat.pow 2 p.1) 1)) (match l[p.1]? with
 |some o=>cond (kC o&&bz (LB p.1 (afL l 0) 0) (Nat.sub (Nat.pow 2 l.length) (Nat.pow 2 (p.1+1)))) (some p.1) none
 | none=>none) none).reverse
def AQ7(own:fp->Bool)(l:List fp):Nat->List Nat->YO
 |i,[]=>[KP own (l.drop i) i [] [] [] [] [] []]
 |i,c::cs=>match KP own ((l.drop i).take (c-i)) i [] [] [] [] [] []with
  |(R,T)=>(R,T++[c])::AQ7 own l (c+1) cs
def fK(l:List fp):YO:=AQ7 (DV l) l 0 (AU3 l)
def AU4(l:List fp):List Nat:=l.filterMap fun o=>cond (kA (DV l) o) o.dst none
def GL:gw->Bool
 |.seq a b=>GL a&&GL b
 |.cond _ a b=>GL a&&GL b
 |.block _ c=>GL c
 |.loop c=>GL c
 |.scope _=>false
 |.rangeFunc ..=>false
 |_=>true
def E7(N:Nat):gw->Bool
 |.region _ ops draw=>cond draw (PN (DV ops.toList) N (ops.toList.map (LW ops.toList)) (fK ops.toList) ops.toList) (MN N ops.toList&&yJ ops.toList)
 |.seq a b=>E7 N a&&E7 N b
 |.cond _ a b=>E7 N a&&E7 N b
 |.block _ c=>E7 N c
 |.loop c=>E7 N c
 |.scope c=>E7 N c
 |.rangeFunc _ ps asg body=>ps.toList.all (fun p=>cx p N)&&GL asg&&GL body&&E7 N asg&&E7 N body
 |_=>true
def U8(N:Nat)(ps:List Tmp)(asg body:gw):Bool:=ps.all (fun p=>cx p N)&&GL asg&&GL body&&E7 N asg&&E7 N body
def U9(s:St):Prop:=∀l k γ fr ps asg body N st,s.get l k=some (γ,.loop fr ps asg body N st)->U8 N ps asg body=true
theorem uC{s:St}{l k γ:Nat}{r:A1}{l' k':Nat}{x:Nat×A1}(h:(s.put l k γ r).get l' k'=some x):x=(γ,r)\/s.get l' k'=some x:=by
 unfold St.put at h;unfold St.get at h|-;by_cases e1:l=s.up.length
 ·rw[if_pos e1]at h;by_cases e2:l'=s.up.length
  ·rw[if_pos e2]at h|-;rw[AA.get_put]at h;split at h
   ·exact .inl (cw.inj h).symm
   ·exact .inr h
  ·rw[if_neg e2]at h|-;exact .inr h
 ·rw[if_neg e1]at h;have hl:({ s with up:=s.up.modify l (fun L=>L.put k γ r) }:St).up.length=s.up.length:=by simp
  rw[hl]at h;by_cases e2:l'=s.up.length
  ·rw[if_pos e2]at h|-;exact .inr h
  ·rw[if_neg e2]at h|-;rw[List.getElem?_modify]at h;cases hu:s.up[l']? with
   |none=>simp[hu]at h
   |some L=>
    rw[hu]at h
    simp only[Option.map_eq_map,bq]at h
    by_cases e3:l=l'
    ·simp only[e3,if_true,AA.get_put]at h;split at h
     ·exact .inl (cw.inj h).symm
     ·exact .inr h
    ·simp only[e3,if_false]at h;exact .inr h
theorem U9.put{s:St}(h:U9 s){l k γ:Nat}{r:A1}(hr:∀fr ps asg body N st,r=.loop fr ps asg body N st->U8 N ps asg body=true):U9 (s.put l k γ r):=by
 intro l' k' γ' fr ps asg body N st hg;rcases uC hg with e|e
 ·cases e;exact hr _ _ _ _ _ _ rfl
 ·exact h _ _ _ _ _ _ _ _ _ e
structure XS where
 c:Nat
 fr:Fr
 s:St
def BD(fr:Fr)(k:Nat):Option (Bool×V):=List.rec (motive:=fun _=>Option (Bool×V)) none (fun x _ ih=>Bool.rec ih (some x.2) (bz k x.1)) fr
theorem GO:∀(fr:Fr) (k:Nat),BD fr k=fr.get k
 |[],_=>rfl
 |(j,x)::fr,k=>by
  show(Bool.rec (BD fr k) (some x) (bz k j):Option (Bool×V))=if k=j then some x else Fr.get fr k
  by_cases h:k=j
  ·subst h;rw[if_pos rfl,Nat.beq_refl]
  ·rw[if_neg h,<-GO fr k];have:bz k j=false:=by
    cases hb:bz k j with
    |false=>rfl
    |true=>exact absurd (bj hb) h
   rw[this]
def CX(fr:Fr)(x:gk):Option V:=match x with
 |.tmp t=>match BD fr t with
  |some (true,v)=>some v
  |_=>none
 |.const v=>CQ v
 |.func f=>some (.fn f [] [])
 |.global _=>none
theorem EA(x:gk):CX fr x=D5 true fr x:=by
 cases x with
 |tmp t=>
  simp only[CX,D5,rd,GO]
  cases fr.get t with
  |none=>rfl
  |some p=>
   obtain⟨c,v⟩:=p
   cases c<;>rfl
 |const v=>
  simp only[CX,D5,rd]
  cases CQ v<;>rfl
 |func f=>rfl
 |global g=>rfl
theorem FN:CX fr=D5 true fr:=funext fun x=>EA x
def AV(c:Nat)(σ σ':Nat->Nat):Prop:=∀i,i<c->σ i=σ' i
theorem AV.refl(c:Nat)(σ:Nat->Nat):AV c σ σ:=fun _ _=>rfl
theorem AV.trans{c c':Nat}{σ σ' σ'':Nat->Nat}(h:AV c σ σ')(h':AV c' σ' σ'')(hc:c<=c'):AV c σ σ'':=fun i hi=>(h i hi).trans (h' i (fq hi hc))
theorem AV.mono{c c':Nat}(h:AV c' σ σ')(hc:c<=c'):AV c σ σ':=fun i hi=>h i (fq hi hc)
theorem AV.upd(c γ:Nat)(σ:Nat->Nat):AV c σ (fun i=>if i=c then γ else σ i):=fun i hi=>by simp[Nat.ne_of_lt hi]
structure Bd(st:XS):Prop where
 f:∀σ σ' δ,AV st.c σ σ'->st.fr.ren σ δ=st.fr.ren σ' δ
 s:∀σ σ' pre,AV st.c σ σ'->st.s.emb σ pre=st.s.emb σ' pre
 lp:U9 st.s
def VY(c:Nat)(v:V):Prop:=∀σ σ' δ,AV c σ σ'->v.ren σ δ=v.ren σ' δ
structure K1(st st':XS):Prop where
 c:st.c<=st'.c
 bd:Bd st'
 n:st'.s.up.length=st.s.up.length
def StepX(P:ft)(o:fp)(st st':XS):Prop:=K1 st st'/\∀(σ:Nat->Nat) (pre:List AA) (k:Fr->St->Prop),(∀σ',AV st.c σ σ'->k (st'.fr.ren σ' pre.length) (st'.s.emb σ' pre))->EU P true o (st.fr.ren σ pre.length) (st.s.emb σ pre) k
theorem FW(d:Option Tmp)(c:Bool)(v:V):(putD fr d c v).ren σ δ=putD (fr.ren σ δ) d c (v.ren σ δ):=by cases d<;>rfl
theorem HW(d:Nat)(c:Bool)(v:V):(fr.put d c v).ren σ δ=(fr.ren σ δ).put d c (v.ren σ δ):=rfl
theorem VY.mono{c c':Nat}{v:V}(h:VY c v)(hc:c<=c'):VY c' v:=fun σ σ' δ ha=>h σ σ' δ (ha.mono hc)
theorem Bd.val{st:XS}(h:Bd st){o:fp}{v:V}(hv:FV P g o st.fr st.s=some v):VY st.c v:=by intro σ σ' δ ha;have h1:=JD (σ:=σ) (pre:=bw δ []) hv;have h2:=JD (σ:=σ') (pre:=bw δ []) hv;rw[h.f σ σ' _ ha,h.s σ σ' _ ha,h2]at h1;have:=cw.inj h1;rw[bb]at this;exact this.symm
theorem Bd.rd{st:XS}(h:Bd st){x:gk}{v:V}(hv:CX st.fr x=some v):VY st.c v:=by intro σ σ' δ ha;rw[EA]at hv;have h1:=DS (g:=true) (fr:=st.fr) (σ:=σ) (δ:=δ) x;have h2:=DS (g:=true) (fr:=st.fr) (σ:=σ') (δ:=δ) x;rw[h.f σ σ' _ ha,h2,hv]at h1;simpa using h1.symm
theorem Bd.putF{st:XS}(h:Bd st){d:Option Tmp}{c:Bool}{v:V}(hv:VY st.c v):Bd { st with fr:=putD st.fr d c v } :=
 ⟨fun σ σ' δ ha=>by simp only[FW];rw[h.f σ σ' δ ha,hv σ σ' δ ha],h.s,h.lp⟩
def fL:A1->Bool
 |.loop ..=>false
 |_=>true
theorem WU{r:A1}(h:fL r=true):∀fr ps asg body N st,r=.loop fr ps asg body N st->U8 N ps asg body=true:=by intro fr ps asg body N st e;subst e;cases h
theorem Bd.putS{st:XS}(h:Bd st){l k γ:Nat}{r:A1}(hγ:γ<st.c)(hr:∀σ σ' δ,AV st.c σ σ'->r.ren σ δ=r.ren σ' δ)(hp:fL r=true:=by rfl):Bd { st with s:=st.s.put l k γ r } :=
 ⟨h.f,fun σ σ' pre ha=>by simp only[CV];rw[h.s σ σ' pre ha,hr σ σ' _ ha,ha γ hγ],h.lp.put (WU hp)⟩
theorem ACC{o:fp}{st:XS}{v:V}(h:Bd st)(hv:FV P true o st.fr st.s=some v):StepX P o st { st with fr:=putD st.fr o.dst true v }:=by refine⟨⟨bn _,h.putF (h.val hv),rfl⟩,fun σ pre k hk=>DU (Ω:=HQ.nothing P) (.inl ⟨_,JD hv,?_⟩)⟩;have:=hk σ (AV.refl _ _);rwa [FW]at this
theorem cO{c:Nat}{v:V}(h:VY c v)(σ σ':Nat->Nat)(δ:Nat)(ha:AV c σ σ'):(BG v).map (V.ren σ δ)=(BG v).map (V.ren σ' δ):=by rw[<-E0,<-E0,h σ σ' δ ha]
def kQ(P:ft)(Ω:HQ P)(o:fp)(st st':XS):Prop:=K1 st st'/\∃d,o.dst=some d/\∀(σ:Nat->Nat) (pre:List AA) (k:Fr->St->Prop),(∀σ',AV st.c σ σ'->k (st'.fr.ren σ' pre.length) (st'.s.emb σ' pre)) ->
 ∃r,Q6 P Ω o (st.fr.ren σ pre.length)=some r/\∀γ,k ((st.fr.ren σ pre.length).put d true (r.val (st.s.emb σ pre).up.length d γ)) ((st.s.emb σ pre).put (st.s.emb σ pre).up.length d γ r.res)
theorem kQ.step{o:fp}{st st':XS}(h:kQ P Ω o st st'):StepX P o st st':=by obtain⟨h1,d,hd,h2⟩:=h;refine⟨h1,fun σ pre k hk=>?_⟩;obtain⟨r,hr,h3⟩:=h2 σ pre k hk;exact DU (Ω:=Ω) (.inr (.inr ⟨r,d,rfl,hd,hr,h3⟩))
theorem iC{o:fp}{st:XS}{d:Nat}{cs:List V}(h:Bd st)(hd:o.dst=some d)(hcs:∀σ σ' δ,AV st.c σ σ'->cs.map (V.ren σ δ)=cs.map (V.ren σ' δ))
  (hn:∀σ pre,Q6 P Ω o (st.fr.ren σ (dz (α:=AA) pre))=some ⟨.box (cs.map (V.ren σ pre.length)),none⟩) :
  kQ P Ω o st ⟨st.c+1,st.fr.put d true (.ptr st.s.up.length d st.c 0),st.s.put st.s.up.length d st.c (.box cs)⟩:=by
 have hb:∀σ σ',AV (st.c+1) σ σ'->AV st.c σ σ':=fun σ σ' ha=>ha.mono (cq _)
 refine⟨⟨cq _,⟨fun σ σ' δ ha=>?_,fun σ σ' pre ha=>?_,h.lp.put (WU rfl)⟩,St.put_len _ _ _ _ _⟩,d,hd,fun σ pre k hk=>⟨_,hn σ pre,fun γ=>?_⟩⟩
 ·simp only[HW,HU];rw[h.f σ σ' δ (hb _ _ ha),ha st.c (bm _)]
 ·simp only[CV,A1.ren];rw[h.s σ σ' pre (hb _ _ ha),hcs σ σ' _ (hb _ _ ha),ha st.c (bm _)]
 ·have:=hk (fun i=>if i=st.c then γ else σ i) (AV.upd _ _ _);have ha:=AV.upd st.c γ σ;simp only[HW,HU,if_true,CV,A1.ren]at this;rw[<-h.f _ _ _ ha,<-h.s _ _ _ ha,<-hcs _ _ _ ha]at this;rw[DK];exact this
def PT(P:ft)(d:Option Tmp)(T:gq)(st:XS):Option XS:=match d,B9 P T with
 |some d,some cs=>some ⟨st.c+1,(d,true,.ptr st.s.up.length d st.c 0)::st.fr,st.s.put st.s.up.length d st.c (.box cs)⟩
 |_,_=>none
def pQ(d:Option Tmp)(x:gk)(st:XS):Option XS:=match d,CX st.fr x with
 |some d,some v=>Bool.rec none (some ⟨st.c+1,(d,true,.ptr st.s.up.length d st.c 0)::st.fr,st.s.put st.s.up.length d st.c (.box (BG v))⟩) (BH v)
 |_,_=>none
theorem iD{o:fp}{T:gq}{st st':XS}(h:Bd st)(ho:o.op=.alloc T)(hx:PT P o.dst T st=some st'):kQ P Ω o st st':=by
 unfold PT at hx;split at hx
 ·rename_i d cs hd hz;cases hx;refine iC h hd (fun σ σ' δ _=>by rw[G7 hz,G7 hz]) fun σ pre=>?_;simp[Q6,ho,hz,G7 hz]
 ·cases hx
theorem yK{o:fp}{T:gq}{x:gk}{st st':XS}(h:Bd st)(ho:o.op=.box T x)(hx:pQ o.dst x st=some st'):kQ P Ω o st st':=by
 unfold pQ at hx;split at hx
 ·rename_i d v hd hv;cases hf:BH v with
  |false=>rw[hf]at hx;cases hx
  |true=>
   rw[hf]at hx
   cases hx
   refine iC h hd (fun σ σ' δ ha=>cO (h.rd hv) σ σ' δ ha) fun σ pre=>?_
   rw[EA]at hv
   simp[Q6,ho,DS,hv,IM,hf,E0]
 ·cases hx
def YA(P:ft)(d:Option Tmp)(T:gq)(x y:gk)(st:XS):Option XS:=match d,BW P T with
 |some d,some (none,e)=>match CX st.fr x,CX st.fr y with
  |some (.int _ n),some (.int _ m)=>match B9 P e with
   |some z=>if 0<=n/\m=n/\z.length=P.cellsOf e/\n.toNat*P.bytesOf e<=140737488355328/\n.toNat<=maxLen then
     some ⟨st.c+1,(d,true,.vec st.s.up.length d st.c n.toNat)::st.fr,st.s.put st.s.up.length d st.c (.vec e (bw n.toNat z))⟩ else none
   |none=>none
  |_,_=>none
 |_,_=>none
theorem pR{o:fp}{T:gq}{x y:gk}{st st':XS}(h:Bd st)(ho:o.op=.makeSlice T x y)(hx:YA P o.dst T x y st=some st'):kQ P Ω o st st':=by
 unfold YA at hx;split at hx
 ·rename_i d e hd hel;split at hx
  ·rename_i k1 n k2 m h1 h2;split at hx
   ·rename_i z hz;split at hx
    ·rename_i hc;cases hx;rw[EA]at h1 h2;have hr:∀σ δ,(bw n.toNat z).map (cj (V.ren σ δ))=bw n.toNat z:=fun σ δ=>by rw[dx,G7 hz]
     have hb:∀σ σ',AV (st.c+1) σ σ'->AV st.c σ σ':=fun σ σ' ha=>ha.mono (cq _);refine⟨⟨cq _,⟨fun σ σ' δ ha=>?_,fun σ σ' pre ha=>?_,h.lp.put (WU rfl)⟩,St.put_len _ _ _ _ _⟩,d,hd,fun σ pre k hk=>⟨⟨.vec e (bw n.toNat z),none⟩,?_,fun γ=>?_⟩⟩
     ·show((st.fr.put d true _).ren σ δ)=((st.fr.put d true _).ren σ' δ);simp only[HW,HV];rw[h.f σ σ' δ (hb _ _ ha),ha st.c (bm _)]
     ·simp only[CV,A1.ren,hr];rw[h.s σ σ' pre (hb _ _ ha),ha st.c (bm _)]
     ·simp only[Q6,ho,DS,h1,h2,bq,EV,hel,hz];rw[if_pos hc]
     ·have:=hk (fun i=>if i=st.c then γ else σ i) (AV.upd _ _ _);have ha:=AV.upd st.c γ σ;change k ((st.fr.put d true _).ren _ _) _ at this;simp only[HW,HV,if_true,CV,A1.ren,hr]at this;rw[<-h.f _ _ _ ha,<-h.s _ _ _ ha]at this;simp only[Mk.val,HP,bb];rw[DK];exact this
    ·cases hx
   ·cases hx
  ·cases hx
 ·cases hx
def ACD(d:Option Tmp)(r:Option gk)(st:XS):Option XS:=match d,r with
 |some d,none=>some ⟨st.c+1,(d,true,.mp st.s.up.length d st.c)::st.fr,st.s.put st.s.up.length d st.c (.map [])⟩
 |_,_=>none
theorem yL{o:fp}{T:gq}{r:Option gk}{st st':XS}(h:Bd st)(ho:o.op=.makeMap T r)(hx:ACD o.dst r st=some st'):kQ P Ω o st st':=by
 unfold ACD at hx;split at hx
 ·rename_i d hd;cases hx;have hb:∀σ σ',AV (st.c+1) σ σ'->AV st.c σ σ':=fun σ σ' ha=>ha.mono (cq _);refine⟨⟨cq _,⟨fun σ σ' δ ha=>?_,fun σ σ' pre ha=>?_,h.lp.put (WU rfl)⟩,St.put_len _ _ _ _ _⟩,d,hd,fun σ pre k hk=>⟨⟨.map [],none⟩,?_,fun γ=>?_⟩⟩
  ·show((st.fr.put d true _).ren σ δ)=((st.fr.put d true _).ren σ' δ);simp only[HW,SB];rw[h.f σ σ' δ (hb _ _ ha),ha st.c (bm _)]
  ·simp only[CV,A1.ren,dj];rw[h.s σ σ' pre (hb _ _ ha),ha st.c (bm _)]
  ·simp only[Q6,ho]
  ·have:=hk (fun i=>if i=st.c then γ else σ i) (AV.upd _ _ _);have ha:=AV.upd st.c γ σ;change k ((st.fr.put d true _).ren _ _) _ at this;simp only[HW,SB,if_true,CV,A1.ren,dj]at this;rw[<-h.f _ _ _ ha,<-h.s _ _ _ ha]at this;simp only[Mk.val,HP];rw[DK];exact this
 ·cases hx
def JR(P:ft)(d:Option Tmp)(T:gq)(x y:gk)(st:XS):Option XS:=match d with
 |some _=>none
 |none=>match CX st.fr x,CX st.fr y with
  |some (.ptr l q γ off),some v=>match st.s.get l q with
   |some (γ',.box cs)=>if bz γ' γ&&BH v&&cx 0 (P.cellsOf T)&&bz (BG v).length (P.cellsOf T)&&dn (off+P.cellsOf T) cs.length&&cx γ st.c then some { st with s:=st.s.put l q γ (.box (A8 cs off (BG v))) } else none
   |_=>none
  |some (.eptr l q γ i off),some v=>match st.s.get l q with
   |some (γ',.vec U es)=>if bz γ' γ&&BH v&&cx 0 (P.cellsOf T)&&bz (BG v).length (P.cellsOf T)&&cx i es.length&&dn (off+P.cellsOf T) (es.getD i []).length&&cx γ st.c then some { st with s:=st.s.put l q γ (.vec U (es.set i (A8 (es.getD i []) off (BG v)))) } else none
   |_=>none
  |_,_=>none
theorem NT{st:XS}(h:Bd st){l q γ:Nat}{r:A1}(hg:st.s.get l q=some (γ,r))(σ σ':Nat->Nat)(δ:Nat)(ha:AV st.c σ σ'):r.ren σ δ=r.ren σ' δ:=by have h1:=CA (s:=st.s) (σ:=σ) (pre:=bw δ []) l q;have h2:=CA (s:=st.s) (σ:=σ') (pre:=bw δ []) l q;rw[h.s σ σ' _ ha,h2,hg]at h1;simp only[bq,bb,cw.injEq,fh.injEq]at h1;exact h1.2.symm
theorem LG(es:List (List V))(i:Nat)(x:List V):(es.set i x).map (cj (V.ren σ δ))=(es.map (cj (V.ren σ δ))).set i (x.map (V.ren σ δ)):=by simp[List.map_set]
theorem iE{o:fp}{T:gq}{x y:gk}{st st':XS}(h:Bd st)(ho:o.op=.store T x y)(hx:JR P o.dst T x y st=some st'):StepX P o st st':=by
 unfold JR at hx;split at hx
 ·cases hx
 ·rename_i hd;split at hx
  ·rename_i l q γ off v h1 h2;split at hx
   ·rename_i γ' cs hg;split at hx
    ·rename_i hc;simp only[bx,cd,cz]at hc;obtain⟨⟨⟨⟨⟨c1,c2⟩,c3⟩,c4⟩,c5⟩,c6⟩:=hc;have c1:=bj c1;have c4:=bj c4;subst c1;cases hx;have hv:=h.rd h2;refine⟨⟨bn _,h.putS c6 fun σ σ' δ ha=>?_,St.put_len _ _ _ _ _⟩,fun σ pre k hk=>?_⟩
     ·have hr:=NT h hg σ σ' δ ha;simp only[A1.ren,A1.box.injEq]at hr|-;rw[<-DH,<-DH,hr,cO hv σ σ' δ ha]
     ·have:=hk σ (AV.refl _ _);rw[EA]at h1 h2;unfold EU;simp only[ho,DS,h1,h2,bq,HU,CA,hg,A1.ren];refine⟨trivial,trivial,by rw[IM];exact c2,c3,by rw[E0];simpa using c4,by simpa using c5,hd,?_⟩;rw[E0,DH];rw[CV]at this;exact this
    ·cases hx
   ·cases hx
  ·rename_i l q γ i off v h1 h2;split at hx
   ·rename_i γ' U es hg;split at hx
    ·rename_i hc;simp only[bx,cd,cz]at hc;obtain⟨⟨⟨⟨⟨⟨c1,c2⟩,c3⟩,c4⟩,c5⟩,c6⟩,c7⟩:=hc;have c1:=bj c1;have c4:=bj c4;subst c1;cases hx;have hv:=h.rd h2;refine⟨⟨bn _,h.putS c7 fun σ σ' δ ha=>?_,St.put_len _ _ _ _ _⟩,fun σ pre k hk=>?_⟩
     ·have hr:=NT h hg σ σ' δ ha;simp only[A1.ren,A1.vec.injEq,true_and]at hr|-;rw[LG,LG,<-DH,<-DH,<-FG,<-FG,hr,cO hv σ σ' δ ha]
     ·have:=hk σ (AV.refl _ _);rw[EA]at h1 h2;unfold EU;simp only[ho,DS,h1,h2,bq,PO,CA,hg,A1.ren];refine⟨trivial,trivial,by rw[IM];exact c2,c3,by rw[E0];simpa using c4,by simpa using c5,by rw[FG];simpa using c6,hd,?_⟩;rw[FG,E0,DH,<-LG];rw[CV]at this;exact this
    ·cases hx
   ·cases hx
  ·cases hx
def ACE(P:ft)(d:Option Tmp)(T:gq)(x i y:gk)(st:XS):Option XS:=match d with
 |some _=>none
 |none=>match CX st.fr x,CX st.fr i,CX st.fr y with
  |some m,some i,some v=>match ML P st.s T m i v with
   |some (l,q,γ,es)=>Bool.rec none (some { st with s:=st.s.put l q γ (.map es) }) (cx γ st.c)
   |none=>none
  |_,_,_=>none
theorem ANE{o:fp}{T:gq}{x i y:gk}{st st':XS}(h:Bd st)(ho:o.op=.mapUpdate T x i y)(hx:ACE P o.dst T x i y st=some st'):StepX P o st st':=by
 unfold ACE at hx;split at hx
 ·cases hx
 ·rename_i hd;split at hx
  ·rename_i m i' v h1 h2 h3;split at hx
   ·rename_i l q γ es hu;cases hb:cx γ st.c with
    |false=>rw[hb]at hx;cases hx
    |true=>
     rw[hb]at hx
     have hlt:γ<st.c:=by simpa using hb
     cases hx
     have hm:=h.rd h1
     have hi:=h.rd h2
     have hv:=h.rd h3
     refine⟨⟨bn _,h.putS hlt fun σ σ' δ ha=>?_,St.put_len _ _ _ _ _⟩,fun σ pre k hk=>?_⟩
     ·have q1:=WS (σ:=σ) (pre:=bw δ []) hu;have q2:=WS (σ:=σ') (pre:=bw δ []) hu;rw[h.s σ σ' _ ha,hm σ σ' _ ha,hi σ σ' _ ha,hv σ σ' _ ha,q2]at q1;simp only[cw.injEq,fh.injEq,bb]at q1;simp only[A1.ren,q1.2.2.2]
     ·have:=hk σ (AV.refl _ _);rw[EA]at h1 h2 h3;unfold EU;simp only[ho,DS,h1,h2,h3,bq,WS hu];refine⟨trivial,hd,?_⟩;rw[CV]at this;exact this
   ·cases hx
  ·cases hx
def kR(P:ft)(d:Option Tmp)(args:List gk)(Ts:List gq)(st:XS):Option XS:=match args,Ts,d with
 |[x],[T],none=>match BW P T,CX st.fr x with
  |some (none,e),some (.vtl l q γ i n)=>match st.s.get l q,B9 P e with
   |some (γ',.vec U es),some z=>Bool.rec none (some { st with s:=st.s.put l q γ (.vec U (es.take i++bw n z++es.drop (i+n))) }) (bz γ' γ&&bz U e&&dn (i+n) es.length&&es.all (fun y=>y.length==z.length)&&cx γ st.c)
   |_,_=>none
  |_,_=>none
 |_,_,_=>none
theorem ACF{o:fp}{args:Array gk}{Ts:Array gq}{st st':XS}(h:Bd st)(ho:o.op=.call { callee:=.builtin .clear,args:=args,argTypes:=Ts })(hx:kR P o.dst args.toList Ts.toList st=some st'):StepX P o st st':=by
 unfold kR at hx;split at hx
 ·rename_i x T ha hT hd;split at hx
  ·rename_i e l q γ i n hel h1;split at hx
   ·rename_i γ' U es z hg hz;cases hb:(bz γ' γ&&bz U e&&dn (i+n) es.length&&es.all (fun y=>y.length==z.length)&&cx γ st.c)with
    |false=>rw[hb]at hx;cases hx
    |true=>
     rw[hb]at hx
     cases hx
     simp only[bx,cd,cz]at hb
     obtain⟨⟨⟨⟨c1,c2⟩,c3⟩,c4⟩,c5⟩:=hb
     have c1:=bj c1
     have c2:=bj c2
     subst c1;subst c2
     have hz':∀σ δ,z.map (V.ren σ δ)=z:=fun σ δ=>G7 hz
     refine⟨⟨bn _,h.putS c5 fun σ σ' δ ha=>?_,St.put_len _ _ _ _ _⟩,fun σ pre k hk=>?_⟩
     ·have hr:=NT h hg σ σ' δ ha;simp only[A1.ren,A1.vec.injEq,true_and]at hr|-;simp only[bc,ck,List.map_drop,dx,hz',hr]
     ·have:=hk σ (AV.refl _ _);rw[EA]at h1;unfold EU;simp only[ho,ha,hT,hd,hel,DS,h1,bq,Y2,CA,hg,hz,A1.ren];refine⟨trivial,trivial,trivial,by simpa using c3,?_,?_⟩
      ·rw[fw];exact c4▸(by congr 1;funext x;simp)
      ·rw[CV]at this;simp only[A1.ren,bc,ck,List.map_drop,dx,hz']at this;exact this
   ·cases hx
  ·cases hx
 ·cases hx
theorem uD{o:fp}{l q γ:Nat}{r:A1}(h:DJ P o fr s=some (l,q,γ,r)):DJ P o (fr.ren σ pre.length) (s.emb σ pre)=some (l+pre.length,q,σ γ,r.ren σ pre.length):=by
 unfold DJ at h|-;split at h
 ·rename_i T x y ho;simp only[DS];split at h
  ·rename_i l1 q1 γ1 off v e1 e2;simp only[e1,e2,bq,HU,CA];split at h
   ·rename_i γ2 cs e3;split at h
    ·rename_i hc;cases h;obtain⟨c1,c2,c3,c4,c5,c6⟩:=hc;subst c1;simp only[e3,bq,A1.ren,IM,E0,bp];rw[if_pos ⟨trivial,c2,c3,c4,c5,c6⟩,DH]
    ·cases h
   ·cases h
  ·rename_i l1 q1 γ1 i off v e1 e2;simp only[e1,e2,bq,PO,CA];split at h
   ·rename_i γ2 U es e3;split at h
    ·rename_i hc;cases h;obtain⟨c1,c2,c3,c4,c5,c6,c7⟩:=hc;subst c1;simp only[e3,bq,A1.ren,IM,E0,bp,FG];rw[if_pos ⟨trivial,c2,c3,c4,c5,c6,c7⟩,DH,<-LG]
    ·cases h
   ·cases h
  ·cases h
 ·cases h
theorem AG5{o:fp}{T:gq}{x y:gk}{st st':XS}(ho:o.op=.store T x y)(hx:JR P o.dst T x y st=some st'):∃l q γ r,DJ P o st.fr st.s=some (l,q,γ,r)/\st'={ st with s:=st.s.put l q γ r }:=by
 unfold JR at hx;unfold DJ;simp only[ho];split at hx
 ·cases hx
 ·rename_i hd;split at hx
  ·rename_i l q γ off v h1 h2;split at hx
   ·rename_i γ' cs hg;split at hx
    ·rename_i hc;simp only[bx,cd,cz]at hc;obtain⟨⟨⟨⟨⟨c1,c2⟩,c3⟩,c4⟩,c5⟩,c6⟩:=hc;have c1:=bj c1;have c4:=bj c4;subst c1;cases hx;rw[EA]at h1 h2;refine⟨_,_,_,_,?_,rfl⟩;simp only[h1,h2,hg];rw[if_pos ⟨trivial,c2,c3,c4,c5,hd⟩]
    ·cases hx
   ·cases hx
  ·rename_i l q γ i off v h1 h2;split at hx
   ·rename_i γ' U es hg;split at hx
    ·rename_i hc;simp only[bx,cd,cz]at hc;obtain⟨⟨⟨⟨⟨⟨c1,c2⟩,c3⟩,c4⟩,c5⟩,c6⟩,c7⟩:=hc;have c1:=bj c1;have c4:=bj c4;subst c1;cases hx;rw[EA]at h1 h2;refine⟨_,_,_,_,?_,rfl⟩;simp only[h1,h2,hg];rw[if_pos ⟨trivial,c2,c3,c4,c5,c6,hd⟩]
    ·cases hx
   ·cases hx
  ·cases hx
def AA.hide(W:AM)(l:Nat)(L:AA):AA:=L.filter fun e=>!(W.contains (l,e.1))
theorem AA.get_hide(W:AM)(l:Nat):∀(L:AA) (k:Nat),(l,k)∉W->(L.hide W l).get k=L.get k
 |[],k,_=>rfl
 |(j,x)::L,k,hk=>by
  have ih:=AA.get_hide W l L k hk;unfold AA.hide at ih|-;rw[List.filter_cons];split
  ·simp only[AA.get];split
   ·rfl
   ·exact ih
  ·rename_i hc;simp only[fc,Bool.not_eq_false,List.contains_iff_mem]at hc;rw[ih];simp only[AA.get];rw[if_neg (fun e=>hk (by rw[e];simpa using hc))]
theorem AA.get_hide'(W:AM)(l:Nat):∀(L:AA) (k:Nat),(l,k)∈W->(L.hide W l).get k=none
 |[],k,_=>rfl
 |(j,x)::L,k,hk=>by
  have ih:=AA.get_hide' W l L k hk;unfold AA.hide at ih|-;rw[List.filter_cons];split
  ·rename_i hc;simp only[AA.get];rw[if_neg (fun e=>by subst e;simp[hk]at hc)];exact ih
  ·exact ih
def St.hide(W:AM)(s:St):St:=⟨s.up.mapIdx fun l L=>L.hide W l,s.loc.hide W s.up.length⟩
theorem St.get_hide{W:AM}{l k:Nat}(h:(l,k)∉W):(s.hide W).get l k=s.get l k:=by
 unfold St.get St.hide;simp only[fx];split
 ·rename_i e;subst e;exact AA.get_hide W _ _ _ h
 ·rw[dp];cases s.up[l]? with
  |none=>rfl
  |some L=>exact AA.get_hide W _ _ _ h
theorem St.get_hide'{W:AM}{l k:Nat}(h:(l,k)∈W):(s.hide W).get l k=none:=by
 unfold St.get St.hide;simp only[fx];split
 ·rename_i e;subst e;exact AA.get_hide' W _ _ _ h
 ·rw[dp];cases s.up[l]? with
  |none=>rfl
  |some L=>exact AA.get_hide' W _ _ _ h
theorem cP(W:AM):X4 W (s.hide W) s:=fun l k x e=>by
 by_cases h:(l,k)∈W
 ·rw[St.get_hide' h]at e;cases e
 ·exact⟨h,by rw[<-St.get_hide h];exact e⟩
def B7:Option V->AM
 |some (.ptr l k _ _)=>[(l,k)]
 |some (.eptr l k _ _ _)=>[(l,k)]
 |some (.vec l k _ _)=>[(l,k)]
 |some (.mp l k _)=>[(l,k)]
 |_=>[]
def CI(one:Bool)(x:Option V):AM:=match one,x with
 |true,some (.ptr l k _ off)=>[(l,k+MO),(l,k+MP),(l,JO k off)]
 |true,some (.eptr l k _ _ off)=>[(l,k+MO),(l,k+MP),(l,JO k off)]
 |_,x=>B7 x
def GF(one:Bool)(x:Option V):AM:=match one,x with
 |true,some (.ptr l k _ off)=>[(l,k),(l,JO k off)]
 |true,some (.eptr l k _ _ off)=>[(l,k),(l,JO k off)]
 |false,some (.ptr l k _ _)=>[(l,k),(l,k+MP)]
 |false,some (.eptr l k _ _ _)=>[(l,k),(l,k+MP)]
 |_,_=>[]
def AG6:Option V->Bool
 |some (.ptr ..)=>true
 |some (.eptr ..)=>true
 |_=>false
def GU:Option V->AM
 |some (.vec l k _ _)=>[(l,k)]
 |some (.vtl l k _ _ _)=>[(l,k)]
 |some (.ptr l k _ _)=>[(l,k)]
 |_=>[]
def NU:Option V->AM
 |some (.vec l k _ _)=>[(l,k+MO)]
 |_=>[]
def pS(P:ft)(o:fp)(r:gk->Option V):Bool:=match o.op with
 |.load T x=>bz (P.cellsOf T) 1&&AG6 (r x)
 |.indexAddr _ x _=>match r x with
  |some (.vec ..)=>true
  |_=>false
 |_=>false
def KQ(r:gk->Option V):List gk->AM
 |[_,y]=>GU (r y)
 |_=>[]
def EM(P:ft)(o:fp)(r:gk->Option V):AM:=match o.op with
 |.load T x=>CI (bz (P.cellsOf T) 1) (r x)
 |.indexAddr _ x _=>NU (r x)
 |.slice _ x ..=>GU (r x)
 |.lookup _ x ..=>B7 (r x)
 |.call { callee:=.builtin .append,args,.. }=>KQ r args.toList
 |_=>[]
theorem kT{W:AM}{x:V}{es:List (List V)}(h:elemsOf s x=some es)(hr:∀p∈GU (some x),p∉W):elemsOf (s.hide W) x=some es:=by
 cases x with
 |vec l k g n=>
  have hn:(l,k)∉W:=hr _ (by simp[GU])
  simp only[elemsOf,St.get_hide hn]at h|-
  exact h
 |vtl l k g i n=>
  have hn:(l,k)∉W:=hr _ (by simp[GU])
  simp only[elemsOf,St.get_hide hn]at h|-
  exact h
 |list b es=>exact h
 |nil=>exact h
 |_=>cases h
theorem AG7{W:AM}{o:fp}{r:gk->Option V}{v:V}(h:J2 P o s r=some v)(hi:pS P o r=false)(hr:∀p∈EM P o r,p∉W):J2 P o (s.hide W) r=some v:=by
 unfold J2 at h|-;split at h;case h_4 T x ho=>
  obtain⟨p,h1,h2⟩:=bk.1 h
  obtain⟨cs,h3,h4⟩:=bk.1 h2
  have:BE (s.hide W) p=some cs:=by
   cases p with
   |ptr l k g off=>
    have hb:bz (P.cellsOf T) 1=false:=by simpa [pS,ho,h1,AG6]using hi
    have hn:(l,k)∉W:=hr _ (by simp[EM,ho,h1,CI,hb,B7])
    simp only[BE,St.get_hide hn]at h3|-;exact h3
   |eptr l k g i off=>
    have hb:bz (P.cellsOf T) 1=false:=by simpa [pS,ho,h1,AG6]using hi
    have hn:(l,k)∉W:=hr _ (by simp[EM,ho,h1,CI,hb,B7])
    simp only[BE,St.get_hide hn]at h3|-;exact h3
   |_=>exact h3
  simp only[h1,bg,this,h4]
 case h_10 T x i ho=>
  obtain⟨p,h1,h2⟩:=bk.1 h
  obtain⟨q,h3,h4⟩:=bk.1 h2
  have:BV P (s.hide W) T p q=some v:=by
   unfold BV at h4|-;split at h4
   ·exact h4
   ·rename_i e l k g n k' j e1;simp[pS,ho,h1]at hi
   ·exact h4
   ·exact h4
   ·exact h4
   ·cases h4
  simp only[h1,h3,bg,this]
 case h_16 T x lo hi mx ho=>
  obtain⟨p,h1,h2⟩:=bk.1 h
  obtain⟨q,h3,h4⟩:=bk.1 h2
  obtain⟨q',h5,h6⟩:=bk.1 h4
  obtain⟨q2,h7,h8⟩:=bk.1 h6
  have:CR P (s.hide W) T p q q' q2=some v:=by
   unfold CR at h8|-;split at h8;case h_6 e l k g n k' i e1=>
    have hn:(l,k)∉W:=hr _ (by simp[EM,ho,h1,GU])
    simp only[St.get_hide hn];exact h8
   case h_7 n e l k g o e1=>
    have hn:(l,k)∉W:=hr _ (by simp[EM,ho,h1,GU])
    simp only[St.get_hide hn];exact h8
   all_goals exact h8
  simp only[h1,h3,h5,h7,bg,this]
 case h_17 T x i ok ho=>
  obtain⟨p,h1,h2⟩:=bk.1 h
  obtain⟨q,h3,h4⟩:=bk.1 h2
  have:DT P (s.hide W) T p q ok=some v:=by
   unfold DT at h4|-;split at h4
   ·rename_i K E l k g e1;have hn:(l,k)∉W:=hr _ (by simp[EM,ho,h1,B7]);simp only[St.get_hide hn];exact h4
   ·cases h4
  simp only[h1,h3,bg,this]
 all_goals exact h
theorem ACG{W:AM}{o:fp}{v:V}(h:FV P g o fr s=some v)(hi:pS P o (D5 g fr)=false)(hr:∀p∈EM P o (D5 g fr),p∉W):FV P g o fr (s.hide W)=some v:=by
 unfold FV at h|-;split at h
 ·exact h
 ·exact h
 ·exact h
 ·exact AG7 h hi hr
def eP(δ:Nat)(W:AM):AM:=W.map fun p=>(p.1+δ,p.2)
theorem NV{W:AM}{l k:Nat}:(l+δ,k)∈eP δ W↔(l,k)∈W:=by
 unfold eP;simp only[dk,fh.injEq,Prod.exists];constructor
 ·rintro ⟨a,b,h,h1,h2⟩;have:a=l:=by omega
  subst this;subst h2;exact h
 ·intro h;exact⟨l,k,h,rfl,rfl⟩
theorem YB(x:Option V):B7 (x.map (V.ren σ δ))=eP δ (B7 x):=by
 cases x with
 |none=>rfl
 |some v=>cases v<;>simp[B7,eP]
theorem SG(x:Option V):GU (x.map (V.ren σ δ))=eP δ (GU x):=by
 cases x with
 |none=>rfl
 |some v=>cases v<;>simp[GU,eP]
theorem uE(x:Option V):NU (x.map (V.ren σ δ))=eP δ (NU x):=by
 cases x with
 |none=>rfl
 |some v=>cases v<;>simp[NU,eP]
theorem uF(b:Bool)(x:Option V):CI b (x.map (V.ren σ δ))=eP δ (CI b x):=by
 cases b with
 |false=>exact YB x
 |true=>
  cases x with
  |none=>rfl
  |some v=>cases v<;>simp[CI,B7,eP]
theorem AU5{W:AM}{o:fp}{v:V}(h:FV P g o fr s=some v)(hi:pS P o (D5 g fr)=true)(hr:∀p∈EM P o (D5 g fr),p∉W):fI P W g o fr s v:=by
 unfold pS at hi;split at hi
 ·rename_i T x ho;rw[bx]at hi;have h1:=bj hi.1;unfold FV at h;simp only[ho,J2]at h;obtain⟨p,hx,h⟩:=bk.1 h;obtain⟨cs,hcs,hv⟩:=bk.1 h;have hp:=hi.2;rw[hx]at hp;cases p with
  |ptr l k γ off=>
   have hr':∀p∈[(l,k+MO),(l,k+MP),(l,JO k off)],p∉W:=fun p hp=>hr p (by simp only[EM,ho,hx,hi.1,CI];exact hp)
   refine .inr ⟨T,x,_,cs,l,k,off,ho,hx,rfl,hcs,hv,by omega,hr' _ (by simp),hr' _ (by simp),fun c hc=>?_⟩
   obtain rfl:c=0:=by omega
   exact hr' _ (by simp)
  |eptr l k γ i off=>
   have hr':∀p∈[(l,k+MO),(l,k+MP),(l,JO k off)],p∉W:=fun p hp=>hr p (by simp only[EM,ho,hx,hi.1,CI];exact hp)
   refine .inr ⟨T,x,_,cs,l,k,off,ho,hx,rfl,hcs,hv,by omega,hr' _ (by simp),hr' _ (by simp),fun c hc=>?_⟩
   obtain rfl:c=0:=by omega
   exact hr' _ (by simp)
  |_=>cases hp
 ·rename_i T x i ho;split at hi
  ·rename_i l k γ n hx;unfold FV at h;simp only[ho,J2,hx,bg]at h;obtain⟨iv,hiv,h⟩:=bk.1 h;unfold BV at h;split at h
   ·rename_i e1 e2;cases e2
   ·rename_i e l' k' γ' n' ki j e1 e2;cases e2;split at h
    ·rename_i γ2 T' es hget;split at h
     ·rename_i hc;obtain⟨rfl,hc⟩:=hc;exact .inl ⟨T,x,i,e,_,_,_,_,ki,j,T',es,ho,hx,hiv,e1,hr _ (by simp[EM,ho,hx,NU]),hget,hc,(cw.inj h).symm⟩
     ·cases h
    ·cases h
   ·rename_i e1 e2;cases e2
   ·rename_i e1 e2;cases e2
   ·rename_i e1 e2;cases e2
   ·cases h
  ·cases hi
 ·cases hi
theorem uG{r:gk->Option V}(l:List gk):KQ (fun x=>(r x).map (V.ren σ δ)) l=eP δ (KQ r l):=by
 unfold KQ;split
 ·exact SG _
 ·rfl
theorem uH{o:fp}{r:gk->Option V}:EM P o (fun x=>(r x).map (V.ren σ δ))=eP δ (EM P o r):=by
 unfold EM;split
 ·exact uF _ _
 ·exact uE _
 ·exact SG _
 ·exact YB _
 ·exact uG _
 ·rfl
theorem pT{W rd:AM}(h:∀p∈rd,p∉W):∀p∈eP δ rd,p∉eP δ W:=by intro p hp;unfold eP at hp;obtain⟨⟨l,k⟩,hq,rfl⟩:=dk.1 hp;exact fun hc=>h _ hq (NV.1 hc)
end Go.Pg
namespace Go.Pg
variable {P:ft}{σ σ':Nat->Nat}{δ:Nat}{pre:List AA}{s:St}{fr:Fr}{g:Bool}
def rdC(fr:Fr)(x:gk):Option (Bool×V):=match x with
 |.tmp t=>BD fr t
 |.const v=>match CQ v with
  |some x=>some (true,x)
  |none=>none
 |.func f=>some (true,.fn f [] [])
 |.global _=>none
theorem AU6(x:gk):rdC fr x=rd fr x:=by
 cases x with
 |tmp t=>exact GO fr t
 |const v=>simp only[rdC,rd];cases CQ v<;>rfl
 |func f=>rfl
 |global g=>rfl
def yM(fr:Fr)(c a b:gk):Option V:=match CX fr c,rdC fr a,rdC fr b with
 |some (.bool c),some (ca,.bool a),some (cb,.bool b)=>Bool.rec (Bool.rec none (some (.bool b)) cb) (Bool.rec none (some (.bool a)) ca) c
 |_,_,_=>none
def OG(P:ft)(fr:Fr)(s:St)(T:gq)(x:gk):Option V:=match CX fr x with
 |some p=>match BE s p with
  |some cs=>BQ P T cs
  |none=>none
 |none=>none
def xFA(P:ft)(fr:Fr)(T:gq)(x:gk)(f:Nat):Option V:=match CX fr x with
 |some p=>DG P T p f
 |none=>none
def ACH(P:ft)(fr:Fr)(op:BinOp)(T:gq)(x y:gk):Option V:=match CX fr x,CX fr y with
 |some a,some b=>I7 P op T a b
 |_,_=>none
def WV(P:ft)(fr:Fr)(T:gq)(ps:List (Nat×gk)):Option V:=match DI (CX fr) ps with
 |some l=>CS P T l
 |none=>none
def QN(P:ft)(fr:Fr)(T:gq)(n:Nat)(ps:List (Nat×gk)):Option V:=match DI (CX fr) ps with
 |some l=>CE P T n l
 |none=>none
def ANF(P:ft)(o:fp)(fr:Fr)(s:St):Option V:=match o.op with
 |.move x=>CX fr x
 |.assign x=>CX fr x
 |.load T x=>OG P fr s T x
 |.fieldAddr T x f=>xFA P fr T x f
 |.binOp op T x y _=>ACH P fr op T x y
 |.pick c a b=>yM fr c a b
 |.build T ps=>WV P fr T ps.toList
 |.buildSlice T n ps=>QN P fr T n ps.toList
 |_=>J2 P o s (CX fr)
theorem QO{o:fp}{v:V}(h:ANF P o fr s=some v):FV P true o fr s=some v:=by
 unfold ANF at h;unfold FV;split at h<;>rename_i ho
 ·simp only[ho,J2,<-FN];exact h
 ·simp only[ho,J2,<-FN];exact h
 ·unfold OG at h;split at h
  ·rename_i p e1;split at h
   ·rename_i cs e2;simp only[ho,J2,<-FN,e1,e2,bg];exact h
   ·cases h
  ·cases h
 ·unfold xFA at h;split at h
  ·rename_i p e1;simp only[ho,J2,<-FN,e1,bg];exact h
  ·cases h
 ·unfold ACH at h;split at h
  ·rename_i a b e1 e2;simp only[ho,J2,<-FN,e1,e2,bg];exact h
  ·cases h
 ·unfold yM at h;simp only[AU6]at h;split at h
  ·rename_i c ca a cb b e1 e2 e3;rw[EA]at e1;simp only[ho,e1,e2,e3];cases c with
   |true=>
    cases ca with
    |false=>cases h
    |true=>cases h;simp
   |false=>
    cases cb with
    |false=>cases h
    |true=>cases h;simp
  ·cases h
 ·unfold WV at h;split at h
  ·rename_i l e1;simp only[ho,<-FN,e1,bg];exact h
  ·cases h
 ·unfold QN at h;split at h
  ·rename_i l e1;simp only[ho,<-FN,e1,bg];exact h
  ·cases h
 ·rw[FN]at h;split
  ·rename_i ho';rw[J2,ho']at h;cases h
  ·rename_i ho';rw[J2,ho']at h;cases h
  ·rename_i ho';rw[J2,ho']at h;cases h
  ·exact h
theorem KA{α:Type}{b:Bool}{x y:α}(h:(Bool.rec none (some x) b:Option α)=some y):b=true/\x=y:=by
 cases b with
 |false=>cases h
 |true=>exact⟨rfl,cw.inj h⟩
theorem EW{α:Type}{b:Bool}{x:Option α}{y:α}(h:(Bool.rec none x b:Option α)=some y):b=true/\x=some y:=by
 cases b with
 |false=>cases h
 |true=>exact⟨rfl,h⟩
theorem VA{st:XS}(h:Bd st){v:V}{ys:List (List V)}(hv:VY st.c v)(he:elemsOf st.s v=some ys)(σ σ':Nat->Nat)(δ:Nat)(ha:AV st.c σ σ'):ys.map (cj (V.ren σ δ))=ys.map (cj (V.ren σ' δ)):=by have h1:=G8 (σ:=σ) (pre:=bw δ []) he;have h2:=G8 (σ:=σ') (pre:=bw δ []) he;rw[h.s σ σ' _ ha,hv σ σ' _ ha,h2]at h1;have:=cw.inj h1;rw[bb]at this;exact this.symm
theorem FY(ys:List (List V))(m:Nat):(ys.map (cj (V.ren σ δ))).all (fun y=>y.length==m)=ys.all (fun y=>y.length==m):=by rw[fw];congr 1;funext y;simp
def pU(P:ft)(d:Tmp)(e:gq)(ys:List (List V))(st:XS)(xv:V):Option (XS×Nat×Nat):=match xv with
 |.vec l q γ n=>match US n ys (st.s.get l q)with
  |some (γ',.vec W es)=>Bool.rec none (some (⟨st.c+1,(d,true,.vec l q st.c (es++ys).length)::st.fr,st.s.put l q st.c (.vec e (es++ys))⟩,l,q))
    (bz γ' γ&&bz W e&&bz n es.length&&es.all (fun y=>y.length==P.cellsOf e)&&B5 P e es.length ys)
  |_=>none
 |_=>none
def xAppG(el:St->V->Option (List (List V)))(P:ft)(d:Option Tmp)(args:List gk)(Ts:List gq)(st:XS):Option (XS×Nat×Nat):=match args,Ts,d with
 | [x,y],[T,U],some d=>Bool.rec none (match BW P T with
  |some (none,e)=>match CX st.fr x,CX st.fr y with
   |some xv,some yv=>match el st.s yv with
    |some ys=>match I9 xv ys with
     |some es=>Bool.rec none (some (⟨st.c+1,(d,true,.vec st.s.up.length d st.c (es++ys).length)::st.fr,st.s.put st.s.up.length d st.c (.vec e (es++ys))⟩,st.s.up.length,d)) (es.all (fun y=>y.length==P.cellsOf e)&&B5 P e es.length ys)
     |none=>pU P d e ys st xv
    |none=>none
   |_,_=>none
  | _=>none) (bz T U)
 |_,_,_=>none
theorem AG8(v:V):bE (v.ren σ δ)=bE v:=by
 cases v with
 |list f es=>cases f<;>cases es<;>simp[bE]
 |_=>simp[bE]
theorem pV(v:V)(ys:List (List V)):I9 (v.ren σ δ) (ys.map (cj (V.ren σ δ)))=(I9 v ys).map (cj (cj (V.ren σ δ))):=by
 cases v with
 |list f es=>cases f<;>cases es<;>cases ys<;>simp[I9]
 |_=>simp[I9]
theorem uI{v:V}{es ys:List (List V)}(h:I9 v ys=some es):elemsOf s v=some es:=by unfold I9 at h;split at h<;>cases h<;>rfl
theorem iF{e:gq}{n:Nat}(ys:List (List V)):B5 P e n (ys.map (cj (V.ren σ δ)))=B5 P e n ys:=by unfold B5;rw[FY,bp]
theorem AG9{n:Nat}(ys es:List (List V)):bF n (ys.map (cj (V.ren σ δ))) (es.map (cj (V.ren σ δ)))=(bF n ys es).map (cj (V.ren σ δ)):=by
 cases ys with
 |nil=>rfl
 |cons y ys=>
  show(if _ then _ else _)=(if _ then _ else _:List (List V)).map _
  have e:(es.map (cj (V.ren σ δ))).all (fun x=>x.length==(y.map (V.ren σ δ)).length)=es.all (fun x=>x.length==y.length):=by rw[fw,bp];congr 1;funext x;simp
  rw[e]
  split
  ·rw[ck]
  ·rfl
theorem pW{n γ:Nat}{ys es:List (List V)}{U:gq}{o:Option (Nat×A1)}(h:US n ys o=some (γ,.vec U es)):US n (ys.map (cj (V.ren σ δ))) (o.map fun p=>(σ p.1,p.2.ren σ δ))=some (σ γ,.vec U (es.map (cj (V.ren σ δ)))):=by obtain⟨es0,rfl,rfl⟩:=QG h;show some (σ γ,A1.vec U (bF n _ _))=_;rw[AG9]
theorem cQ{el:St->V->Option (List (List V))}(hel0:∀s v es,el s v=some es->elemsOf s v=some es){o:fp}{args:Array gk}{Ts:Array gq}{st st':XS}{l q:Nat}(h:Bd st)(ho:o.op=.call { callee:=.builtin .append,args:=args,argTypes:=Ts })
  (hx:xAppG el P o.dst args.toList Ts.toList st=some (st',l,q)):∃d r,o.dst=some d/\fL r=true/\st'=⟨st.c+1,(d,true,HP r l q st.c)::st.fr,st.s.put l q st.c r⟩/\(∀σ σ' δ,AV st.c σ σ'->r.ren σ δ=r.ren σ' δ) /\
   (∀(σ:Nat->Nat) (pre:List AA) (k:Fr->St->Prop),(∀γ,k ((st.fr.ren σ pre.length).put d true (HP (r.ren σ pre.length) (l+pre.length) q γ)) ((st.s.emb σ pre).put (l+pre.length) q γ (r.ren σ pre.length)))->EU P true o (st.fr.ren σ pre.length) (st.s.emb σ pre) k) /\
   (∀(W:AM) (σ:Nat->Nat) (pre:List AA),(∀p∈KQ (CX st.fr) args.toList,p∉W)->YN P o (st.fr.ren σ pre.length) ((st.s.emb σ pre).hide (eP pre.length W)) (st.s.emb σ pre)=some (l+pre.length,q,r.ren σ pre.length)):=by
 unfold xAppG at hx
 split at hx
 ·rename_i x y T U d ha hT hd;obtain⟨hTU,hx2⟩:=EW hx;clear hx;have hTU:=bj hTU;subst hTU;have hx:=hx2;clear hx2;split at hx
  ·rename_i e hel;split at hx
   ·rename_i xv yv h1 h2;split at hx
    ·rename_i ys hys0;have hys:=hel0 _ _ _ hys0;have hyb:=VA h (h.rd h2) hys;have r1:=h1;have r2:=h2;rw[EA]at r1 r2;have hys2:∀(W:AM) (σ:Nat->Nat) (pre:List AA),(∀p∈KQ (CX st.fr) args.toList,p∉W)->elemsOf ((st.s.emb σ pre).hide (eP pre.length W)) (yv.ren σ pre.length)=some (ys.map (cj (V.ren σ pre.length))):=fun W σ pre hW=>by refine kT (G8 hys) ?_;rw[ha]at hW;simp only[KQ,h2]at hW;have:=pT (δ:=pre.length) hW;rw[<-SG (σ:=σ)]at this;exact this
     cases hn:I9 xv ys with
     |some es=>
      rw[hn]at hx
      obtain⟨hc,he⟩:=KA hx
      simp only[fh.injEq]at he
      obtain⟨rfl,rfl,rfl⟩:=he
      simp only[bx]at hc
      obtain⟨hce,hc⟩:=hc
      have heb:=VA h (h.rd h1) (uI hn)
      refine⟨d,.vec e (es++ys),hd,rfl,rfl,fun σ σ' δ hag=>by simp only[A1.ren,bc,hyb σ σ' δ hag,heb σ σ' δ hag],fun σ pre k hk=>?_,fun W σ pre hW=>?_⟩
      ·have hc':=hc;simp only[B5,bx,cd,cz]at hc;obtain⟨⟨⟨⟨c1,c2⟩,c3⟩,c4⟩,c5⟩:=hc;unfold EU;simp only[ho,ha,hT,hd,hel,DS,r1,r2,bq,bg,G8 hys,pV,hn,true_and];refine⟨c1,c2,by rw[FY];exact hce,by rw[FY];exact c3,by simpa using c4,by simpa using c5,fun γ=>?_⟩;have:=hk γ;simp only[HP,A1.ren]at this;rw[DK,<-bc];exact this
      ·unfold YN;simp only[ho,ha,hT,hd,hel,DS,r1,r2,bq,bg,hys2 _ _ _ hW,pV,hn,if_true,DK,A1.ren];rw[if_pos ⟨by rw[FY];exact hce,by rw[iF,bp];exact hc⟩,bc]
     |none=>
      rw[hn]at hx
      replace hx:pU P d e ys st xv=some (st',l,q):=hx
      unfold pU at hx
      split at hx
      ·rename_i l0 q0 γ0 n';split at hx
       ·rename_i γ' W es hg;obtain⟨hc,he⟩:=KA hx;simp only[fh.injEq]at he;obtain⟨rfl,rfl,rfl⟩:=he;simp only[bx]at hc;obtain⟨⟨⟨⟨c1,c2⟩,c3⟩,c6⟩,c7⟩:=hc;have c1:=bj c1;have c2:=bj c2;have c3:=bj c3;subst c1;subst c2;subst c3;have heb:∀σ σ' δ,AV st.c σ σ'->es.map (cj (V.ren σ δ))=es.map (cj (V.ren σ' δ)):=fun σ σ' δ ha=>by
         obtain⟨es0,hg0,e0⟩:=QG hg;have:=NT h hg0 σ σ' δ ha;have e1:es0.map (cj (V.ren σ δ))=es0.map (cj (V.ren σ' δ)):=by simpa [A1.ren]using this
         rcases WF es.length ys es0 with e2|⟨e2,_⟩
         ·rw[e0,e2,e1]
         ·rw[e0,e2,ck,ck,e1]
        refine⟨d,.vec W (es++ys),hd,rfl,rfl,fun σ σ' δ hag=>by simp only[A1.ren,bc,hyb σ σ' δ hag,heb σ σ' δ hag],fun σ pre k hk=>?_,fun W σ pre hW=>?_⟩
        ·simp only[B5,bx,cd,cz]at c7;obtain⟨⟨⟨⟨d1,d2⟩,d3⟩,d4⟩,d5⟩:=c7;have hnn:I9 (V.vec (l0+pre.length) q0 (σ γ') es.length) (ys.map (cj (V.ren σ pre.length)))=none:=rfl;unfold EU;simp only[ho,ha,hT,hd,hel,DS,r1,r2,bq,bg,G8 hys,HV,CA,pW hg,true_and,hnn];refine⟨by simp,d1,d2,by rw[FY];exact c6,by rw[FY];exact d3,by simpa using d4,by simpa using d5,fun γ=>?_⟩;have:=hk γ;simp only[HP,A1.ren,bc,cg,bp]at this|-;exact this
        ·have hnn:I9 (V.vec (l0+pre.length) q0 (σ γ') es.length) (ys.map (cj (V.ren σ pre.length)))=none:=rfl;unfold YN;simp only[ho,ha,hT,hd,hel,DS,r1,r2,bq,bg,hys2 _ _ _ hW,HV,CA,pW hg,hnn,if_true];rw[if_pos ⟨trivial,trivial,by simp,by rw[FY];exact c6,by rw[iF,bp];exact c7⟩];simp only[A1.ren,bc]
       ·cases hx
      ·cases hx
    ·cases hx
   ·cases hx
  ·cases hx
 ·cases hx
theorem cR{st:XS}(h:Bd st){d l q:Nat}{r:A1}(hp:fL r=true)(hr:∀σ σ' δ,AV st.c σ σ'->r.ren σ δ=r.ren σ' δ):K1 st ⟨st.c+1,(d,true,HP r l q st.c)::st.fr,st.s.put l q st.c r⟩:=by
 have hb:∀σ σ',AV (st.c+1) σ σ'->AV st.c σ σ':=fun σ σ' ha=>ha.mono (cq _);refine⟨cq _,⟨fun σ σ' δ ha=>?_,fun σ σ' pre ha=>?_,h.lp.put (WU hp)⟩,St.put_len _ _ _ _ _⟩
 ·show((st.fr.put d true (HP r l q st.c)).ren σ δ)=((st.fr.put d true (HP r l q st.c)).ren σ' δ);have e:∀σ:Nat->Nat,(HP r l q st.c).ren σ δ=HP (r.ren σ δ) (l+δ) q (σ st.c):=fun σ=>by cases r<;>simp[HP,A1.ren]
  simp only[HW,e];rw[h.f σ σ' δ (hb _ _ ha),ha st.c (bm _),hr σ σ' δ (hb _ _ ha)]
 ·simp only[CV];rw[h.s σ σ' pre (hb _ _ ha),hr σ σ' _ (hb _ _ ha),ha st.c (bm _)]
theorem pX(r:A1)(l q γ:Nat):(HP r l q γ).ren σ δ=HP (r.ren σ δ) (l+δ) q (σ γ):=by cases r<;>simp[HP,A1.ren]
theorem uJ{st:XS}(h:Bd st){d l q:Nat}{r:A1}(hr:∀σ σ' δ,AV st.c σ σ'->r.ren σ δ=r.ren σ' δ){σ:Nat->Nat}{pre:List AA}{k:Fr->St->Prop}
  (hk:∀σ',AV st.c σ σ'->k (Fr.ren σ' pre.length ((d,true,HP r l q st.c)::st.fr)) ((st.s.put l q st.c r).emb σ' pre)) (γ:Nat):k ((st.fr.ren σ pre.length).put d true (HP (r.ren σ pre.length) (l+pre.length) q γ)) ((st.s.emb σ pre).put (l+pre.length) q γ (r.ren σ pre.length)):=by
 have:=hk (fun i=>if i=st.c then γ else σ i) (AV.upd _ _ _)
 have hag:=AV.upd st.c γ σ
 change k ((st.fr.put d true _).ren _ _) _ at this
 simp only[HW,pX,if_true,CV]at this
 rw[<-h.f _ _ _ hag,<-h.s _ _ _ hag,<-hr _ _ _ hag]at this
 exact this
theorem yN(r:Mk)(l k γ:Nat):(r.val l k γ).ren σ δ=Mk.val ⟨r.res.ren σ δ,r.t⟩ (l+δ) k (σ γ):=by
 obtain⟨r,t⟩:=r;cases t with
 |none=>exact pX _ _ _ _
 |some t=>exact NP t
theorem ACI{st:XS}(h:Bd st){d l q:Nat}{r:Mk}(hp:fL r.res=true)(hr:∀σ σ' δ,AV st.c σ σ'->r.res.ren σ δ=r.res.ren σ' δ):K1 st ⟨st.c+1,(d,true,r.val l q st.c)::st.fr,st.s.put l q st.c r.res⟩:=by
 have hb:∀σ σ',AV (st.c+1) σ σ'->AV st.c σ σ':=fun σ σ' ha=>ha.mono (cq _);refine⟨cq _,⟨fun σ σ' δ ha=>?_,fun σ σ' pre ha=>?_,h.lp.put (WU hp)⟩,St.put_len _ _ _ _ _⟩
 ·show((st.fr.put d true (r.val l q st.c)).ren σ δ)=((st.fr.put d true (r.val l q st.c)).ren σ' δ);simp only[HW,yN];rw[h.f σ σ' δ (hb _ _ ha),ha st.c (bm _),hr σ σ' δ (hb _ _ ha)]
 ·simp only[CV];rw[h.s σ σ' pre (hb _ _ ha),hr σ σ' _ (hb _ _ ha),ha st.c (bm _)]
theorem ANG{st:XS}(h:Bd st){d l q:Nat}{r:Mk}(hr:∀σ δ,r.res.ren σ δ=r.res){σ:Nat->Nat}{pre:List AA}{k:Fr->St->Prop}
  (hk:∀σ',AV st.c σ σ'->k (Fr.ren σ' pre.length ((d,true,r.val l q st.c)::st.fr)) ((st.s.put l q st.c r.res).emb σ' pre)) (γ:Nat):k ((st.fr.ren σ pre.length).put d true (r.val (l+pre.length) q γ)) ((st.s.emb σ pre).put (l+pre.length) q γ r.res):=by
 have:=hk (fun i=>if i=st.c then γ else σ i) (AV.upd _ _ _)
 have hag:=AV.upd st.c γ σ
 change k ((st.fr.put d true _).ren _ _) _ at this
 simp only[HW,yN,if_true,CV,hr]at this
 rw[<-h.f _ _ _ hag,<-h.s _ _ _ hag]at this
 exact this
def xAppend(P:ft)(d:Option Tmp)(args:List gk)(Ts:List gq)(st:XS):Option XS:=match xAppG elemsOf P d args Ts st with
 |some (st',_,_)=>some st'
 |none=>none
theorem uK{o:fp}{args:Array gk}{Ts:Array gq}{st st':XS}(h:Bd st)(ho:o.op=.call { callee:=.builtin .append,args:=args,argTypes:=Ts })(hx:xAppend P o.dst args.toList Ts.toList st=some st'):StepX P o st st':=by
 unfold xAppend at hx;split at hx
 ·rename_i st1 l q e1;cases hx;obtain⟨d,r,hd,hp,rfl,hr,hs,_⟩:=cQ (fun _ _ _ h=>h) h ho e1;exact⟨cR h hp hr,fun σ pre k hk=>hs σ pre k fun γ=>uJ h hr hk γ⟩
 ·cases hx
def yO(P:ft)(d:Option Tmp)(args:List gk)(Ts:List gq)(st:XS):Option XS:=match args,Ts with
 |[x,y],[T,_]=>match BW P T,CX st.fr x,CX st.fr y with
  |some (none,e),some (.vtl l q γ i n),some yv=>match st.s.get l q,elemsOf st.s yv with
   |some (γ',.box cs),some ys=>Bool.rec none (some { st with fr:=putD st.fr d true (.int .i64 ((min ys.length n:Nat):Int)),s:=st.s.put l q γ (.box (A8 cs i (ys.take n).flatten)) }) (bz γ' γ&&bz (P.cellsOf e) 1&&ys.all (fun y=>y.length==1)&&dn (i+n) cs.length&&cx γ st.c)
   |_,_=>none
  |_,_,_=>none
 |_,_=>none
theorem AHA{o:fp}{args:Array gk}{Ts:Array gq}{st st':XS}(h:Bd st)(ho:o.op=.call { callee:=.builtin .copy,args:=args,argTypes:=Ts })(hx:yO P o.dst args.toList Ts.toList st=some st'):StepX P o st st':=by
 unfold yO at hx;split at hx
 ·rename_i x y T U ha hT;split at hx
  ·rename_i e l q γ i n yv hel h1 h2;split at hx
   ·rename_i γ' cs ys hg hys;cases hb:(bz γ' γ&&bz (P.cellsOf e) 1&&ys.all (fun y=>y.length==1)&&dn (i+n) cs.length&&cx γ st.c)with
    |false=>rw[hb]at hx;cases hx
    |true=>
     rw[hb]at hx
     cases hx
     simp only[bx,cd,cz]at hb
     obtain⟨⟨⟨⟨c1,c2⟩,c3⟩,c4⟩,c5⟩:=hb
     have c1:=bj c1
     have c2:=bj c2
     subst c1
     have hB:Bd { st with s:=st.s.put l q γ' (.box (A8 cs i (ys.take n).flatten)) }:=h.putS c5 fun σ σ' δ ha=>by have hr:=NT h hg σ σ' δ ha;have he:=VA h (h.rd h2) hys σ σ' δ ha;simp only[A1.ren,A1.box.injEq]at hr|-;rw[<-DH,<-DH,hr,dc,dc,ck,ck,he]
     refine⟨⟨bn _,hB.putF (fun _ _ _ _=>rfl),St.put_len _ _ _ _ _⟩,fun σ pre k hk=>?_⟩
     have:=hk σ (AV.refl _ _)
     rw[EA]at h1 h2
     unfold EU
     simp only[ho,ha,hT,hel,DS,h1,h2,bq,Y2,bg,G8 hys,CA,hg,A1.ren]
     refine⟨trivial,trivial,c2,?_,by simpa using c4,?_⟩
     ·rw[fw];exact c3▸(by congr 1;funext x;simp)
     ·simp only[FW,EV,CV,A1.ren,<-DH,dc,ck]at this;simpa only[bp]using this
   ·cases hx
  ·cases hx
 ·cases hx
end Go.Pg
namespace Go.Pg
variable {P:ft}{Ω:HQ P}{σ σ':Nat->Nat}{δ:Nat}{pre:List AA}{s:St}{fr:Fr}{g:Bool}
def GV{α β:Type}(f:α->Option β):List α->Option (List β)
 |[]=>some []
 |x::l=>match f x with
  |some y=>match GV f l with
   |some r=>some (y::r)
   |none=>none
  |none=>none
theorem LH{α β:Type}(f:α->Option β):∀(l:List α),GV f l=l.mapM f
 |[]=>rfl
 |x::l=>by
  simp only[GV,List.mapM_cons,<-LH f l];cases f x with
  |none=>rfl
  |some y=>cases GV f l<;>rfl
abbrev CF:=gv->List V->XS->Option (V×XS)
abbrev CY:=Nat->Nat->Nat->List V->XS->Option (V×XS)
abbrev CF0:=gv->List V->Option V
abbrev CFO:=gv->List V->Tmp->Option Mk
structure XE where
 cf:CF
 cy:CY
 c0:CF0
 co:CFO
 lit:Tmp->Bool
def iG(P:ft)(cf:CF):Prop:=∀f args st r st',cf f args st=some (r,st')->Bd st->(∀v∈args,VY st.c v)->K1 st st'/\VY st'.c r/\st'.fr=st.fr /\
 ∀(σ:Nat->Nat) (pre:List AA) (K:V->St->Prop),(∀σ',AV st.c σ σ'->K (r.ren σ' pre.length) (st'.s.emb σ' pre))->FT P f (args.map (V.ren σ pre.length)) (st.s.emb σ pre) K
def AU8(P:ft)(cy:CY):Prop:=∀l q γ vs st r st',cy l q γ vs st=some (r,st')->Bd st->(∀v∈vs,VY st.c v)->K1 st st'/\VY st'.c r/\st'.fr=st.fr /\
 ∃fr0 ps asg body N,st.s.get l q=some (γ,.loop fr0 ps asg body N .ready)/\∀(σ:Nat->Nat) (pre:List AA) (k:V->St->Prop),(∀σ',AV st.c σ σ'->k (r.ren σ' pre.length) (st'.s.emb σ' pre)) ->
  bD P (l+pre.length) q (σ γ) (Fr.ren σ pre.length fr0) ps asg body N (vs.map (V.ren σ pre.length)) (st.s.emb σ pre) k
def HX(P:ft)(cf:CF0):Prop:=∀f args r,cf f args=some r->(∀s,FT P f args s fun r' s'=>r'=r/\s'=s)/\(∀v∈args,∀σ δ,v.ren σ δ=v)/\(∀σ δ,r.ren σ δ=r)
def uL(P:ft)(co:CFO):Prop:=∀f args d r,co f args d=some r->(∀(s:St),FT P f args s fun v s'=>∃γ,v=r.val s.up.length d γ/\s'=s.put s.up.length d γ r.res) /\
 (∀v∈args,∀σ δ,v.ren σ δ=v)/\(∀σ δ,r.res.ren σ δ=r.res)/\fL r.res=true
structure KR(P:ft)(E:XE):Prop where
 cf:iG P E.cf
 cy:AU8 P E.cy
 c0:HX P E.c0
 co:uL P E.co
def KR.tab{E:XE}(h:KR P E)(own:fp->Bool):HQ P:=⟨own,E.co,fun f args d r hc=>(h.co f args d r hc).1⟩
def uM(cy:CY)(d:Option Tmp)(l q γ:Nat)(args:List gk)(st:XS):Option XS:=match GV (CX st.fr) args with
 |some vs=>match cy l q γ vs st with
  |some (r,st')=>some { st' with fr:=putD st'.fr d true r }
  |none=>none
 |none=>none
def VB(cf:CF)(cy:CY)(d:Option Tmp)(f:gk)(args:List gk)(st:XS):Option XS:=match CX st.fr f with
 |some (.fn fid first cap)=>match GV (CX st.fr) args with
  |some vs=>match cf fid ((first++vs++cap).map weakV) st with
   |some (r,st')=>some { st' with fr:=putD st'.fr d true r }
   |none=>none
  |none=>none
 |some (.yld l q γ)=>uM cy d l q γ args st
 |_=>none
def LY(co:CFO)(d:Option Tmp)(f:gk)(args:List gk)(st:XS):Option XS:=match d,CX st.fr f with
 |some d,some (.fn fid first cap)=>match GV (CX st.fr) args with
  |some vs=>match co fid ((first++vs++cap).map weakV) d with
   |some r=>some ⟨st.c+1,(d,true,r.val st.s.up.length d st.c)::st.fr,st.s.put st.s.up.length d st.c r.res⟩
   |none=>none
  |none=>none
 |_,_=>none
def fM(P:ft)(o:fp)(st:XS):Option XS:=match ANF P o st.fr st.s with
 |some v=>some { st with fr:=putD st.fr o.dst true v }
 |none=>none
def pY(E:XE)(own:Bool)(d:Option Tmp)(f:gk)(args:List gk)(st:XS):Option XS:=Bool.rec (VB E.cf E.cy d f args st) (match LY E.co d f args st with
 |some st'=>some st'
 | none=>VB E.cf E.cy d f args st) own
def A67(P:ft)(E:XE)(own:fp->Bool)(o:fp)(c:Call)(st:XS):Option XS:=match c.callee with
 |.value f=>pY E (own o) o.dst f c.args.toList st
 |.builtin .append=>xAppend P o.dst c.args.toList c.argTypes.toList st
 |.builtin .clear=>kR P o.dst c.args.toList c.argTypes.toList st
 |.builtin .copy=>yO P o.dst c.args.toList c.argTypes.toList st
 |_=>fM P o st
def RI(P:ft)(E:XE)(own:fp->Bool)(o:fp)(st:XS):Option XS:=match o.op with
 |.alloc T=>PT P o.dst T st
 |.box _ x=>pQ o.dst x st
 |.makeMap _ r=>ACD o.dst r st
 |.makeSlice T x y=>YA P o.dst T x y st
 |.store T x y=>JR P o.dst T x y st
 |.mapUpdate T x i y=>ACE P o.dst T x i y st
 |.call c=>A67 P E own o c st
 |_=>fM P o st
theorem yP{o:fp}{st st':XS}(h:Bd st)(hx:fM P o st=some st'):StepX P o st st':=by
 unfold fM at hx;split at hx
 ·rename_i v hv;cases hx;exact ACC h (QO hv)
 ·cases hx
theorem Y3{st:XS}(h:Bd st):∀{args:List gk} {vs:List V},GV (CX st.fr) args=some vs->∀v∈vs,VY st.c v
 |[],vs,e,v,hv=>by cases e;cases hv
 |x::l,vs,e,v,hv=>by
  simp only[GV]at e;split at e
  ·rename_i y hy;split at e
   ·rename_i r hr;cases e;rcases List.mem_cons.1 hv with rfl|hv
    ·exact h.rd hy
    ·exact Y3 h hr v hv
   ·cases e
  ·cases e
theorem kU{c:Nat}{v:V}(h:VY c v):VY c (weakV v):=fun σ σ' δ ha=>by rw[<-WP,<-WP,h σ σ' δ ha]
theorem AHB{c:Nat}{f:gv}{xs ys:List V}(h:VY c (.fn f xs ys)):(∀v∈xs,VY c v)/\(∀v∈ys,VY c v):=by
 refine⟨fun v hv σ σ' δ ha=>?_,fun v hv σ σ' δ ha=>?_⟩
 ·have:=h σ σ' δ ha;simp only[PQ,V.fn.injEq]at this;exact cm.1 this.2.1 v hv
 ·have:=h σ σ' δ ha;simp only[PQ,V.fn.injEq]at this;exact cm.1 this.2.2 v hv
theorem HY(l:List V):(l.map weakV).map (V.ren σ δ)=(l.map (V.ren σ δ)).map weakV:=by simp only[fg];congr 1;funext v;exact(WP v).symm
theorem iH{E:XE}(hE:KR P E){own:fp->Bool}{o:fp}(hown:own o=true){f:gk}{args:Array gk}{Ts:Array gq}{st st':XS}(h:Bd st)(ho:o.op=.call { callee:=.value f,args:=args,argTypes:=Ts })(hx:LY E.co o.dst f args.toList st=some st'):kQ P (hE.tab own) o st st':=by
 unfold LY at hx;split at hx
 ·rename_i d fid first cap hd hf;split at hx
  ·rename_i vs hvs;split at hx
   ·rename_i r hc;cases hx;obtain⟨_,hcl,hr,hpl⟩:=hE.co _ _ _ _ hc;refine⟨ACI h hpl (fun σ σ' δ _=>by rw[hr,hr]),d,hd,fun σ pre k hk=>⟨r,?_,fun γ=>?_⟩⟩
    ·have hcd:JB true o (st.fr.ren σ pre.length)=some (fid,(first++vs++cap).map weakV):=by
      rw[LH,FN]at hvs;rw[EA]at hf;simp only[JB,ho,J4,hf,bq,PQ,JC hvs,cw.injEq,fh.injEq,true_and];have e:((first++vs++cap).map weakV).map (V.ren σ pre.length)=(first++vs++cap).map weakV:=by
       conv=>rhs;rw[<-cn ((first++vs++cap).map weakV)]
       exact bf fun v hv=>hcl v hv σ _
      rw[HY]at e;simpa only[bc]using e
     simp only[Q6,ho,KR.tab,hown,if_true,hcd,hd,hc]
    ·have:=ANG h (d:=d) hr hk γ;rw[<-DK]at this;exact this
   ·cases hx
  ·cases hx
 ·cases hx
theorem pZ{cf:CF}{cy:CY}(hcf:iG P cf)(hcy:AU8 P cy){o:fp}{f:gk}{args:Array gk}{Ts:Array gq}{st st':XS}(h:Bd st)(ho:o.op=.call { callee:=.value f,args:=args,argTypes:=Ts })(hx:VB cf cy o.dst f args.toList st=some st'):StepX P o st st':=by
 unfold VB at hx;split at hx
 ·rename_i fid first cap hf;split at hx
  ·rename_i vs hvs;split at hx
   ·rename_i r st1 hr;cases hx;have b1:=AHB (h.rd hf);have b2:=Y3 h hvs;obtain⟨hE,hrb,hfr,hA⟩:=hcf _ _ _ _ _ hr h (fun v hv=>by
     obtain⟨u,hu,rfl⟩:=dk.1 hv;refine kU ?_;rcases dr.1 hu with hu|hu
     ·rcases dr.1 hu with hu|hu
      ·exact b1.1 u hu
      ·exact b2 u hu
     ·exact b1.2 u hu)
    refine⟨⟨hE.c,hE.bd.putF hrb,hE.n⟩,fun σ pre k hk=>?_⟩;rw[LH,FN]at hvs;rw[EA]at hf;unfold EU;simp only[ho,J4,hf,bq,PQ,JC hvs];refine .inl ⟨rfl,?_⟩;have:=hA σ pre (fun r s'=>k (putD (st.fr.ren σ pre.length) o.dst true r) s') fun σ' ha=>?_
    ·rw[HY]at this;simpa only[bc]using this
    ·have h1:=hk σ' ha;rw[FW,hfr,<-h.f σ σ' _ ha]at h1;exact h1
   ·cases hx
  ·cases hx
 ·rename_i l q γ hf;unfold uM at hx;split at hx
  ·rename_i vs hvs;split at hx
   ·rename_i r st1 hr;cases hx;obtain⟨hE,hrb,hfr,fr0,ps,asg,body,N,hget,hA⟩:=hcy _ _ _ _ _ _ _ hr h (Y3 h hvs);refine⟨⟨hE.c,hE.bd.putF hrb,hE.n⟩,fun σ pre k hk=>?_⟩;rw[LH,FN]at hvs;rw[EA]at hf;unfold EU;simp only[ho,J4,hf,bq,kM,JC hvs,CA,hget,A1.ren];refine⟨trivial,trivial,?_⟩;refine hA σ pre (fun r s'=>k (putD (st.fr.ren σ pre.length) o.dst true r) s') fun σ' ha=>?_;have h1:=hk σ' ha;rw[FW,hfr,<-h.f σ σ' _ ha]at h1;exact h1
   ·cases hx
  ·cases hx
 ·cases hx
theorem qD{E:XE}(hE:KR P E){own:fp->Bool}{o:fp}{st st':XS}(h:Bd st)(hx:RI P E own o st=some st'):StepX P o st st':=by
 unfold RI at hx;split at hx
 ·rename_i T ho;exact(iD (Ω:=HQ.nothing P) h ho hx).step
 ·rename_i T x ho;exact(yK (Ω:=HQ.nothing P) h ho hx).step
 ·rename_i T r ho;exact(yL (Ω:=HQ.nothing P) h ho hx).step
 ·rename_i T x y ho;exact(pR (Ω:=HQ.nothing P) h ho hx).step
 ·rename_i T x y ho;exact iE h ho hx
 ·rename_i T x i y ho;exact ANE h ho hx
 ·rename_i c ho;obtain⟨callee,args,Ts⟩:=c;unfold A67 at hx;split at hx
  ·rename_i f hc;have hc:callee=.value f:=hc;subst hc;unfold pY at hx;cases hown:own o with
   |false=>rw[hown]at hx;exact pZ hE.cf hE.cy h ho hx
   |true=>
    rw[hown]at hx
    have hx:(match LY E.co o.dst f args.toList st with
     |some st'=>some st'
     | none=>VB E.cf E.cy o.dst f args.toList st)=some st':=hx
    split at hx
    ·rename_i st1 h1;cases hx;exact(iH hE hown h ho h1).step
    ·exact pZ hE.cf hE.cy h ho hx
  ·rename_i hc;have hc:callee=.builtin .append:=hc;subst hc;exact uK h ho hx
  ·rename_i hc;have hc:callee=.builtin .clear:=hc;subst hc;exact ACF h ho hx
  ·rename_i hc;have hc:callee=.builtin .copy:=hc;subst hc;exact AHA h ho hx
  ·exact yP h hx
 ·exact yP h hx
def gdX(fr:Fr)(gd:Option (Tmp×Bool)):Option Bool:=match gd with
 |none=>some true
 |some (d,want)=>match BD fr d with
  |some (c,.bool b)=>some (c&&(b==want))
  |_=>none
theorem uN(gd:Option (Tmp×Bool)):gdX fr gd=Q5 fr gd:=by
 cases gd with
 |none=>rfl
 |some p=>simp only[gdX,Q5,GO];rfl
theorem NW{gd:Option (Tmp×Bool)}(h:Q5 fr gd=some g):Q5 (fr.ren σ δ) gd=some g:=by
 cases gd with
 |none=>exact h
 |some p=>
  simp only[Q5]at h|-
  split at h
  ·rename_i c b e;simp only[Fr.get_ren,e,bq,MQ];exact h
  ·cases h
def JE(d:Option Tmp)(st:XS):XS:={ st with fr:=putD st.fr d false (.bool false) }
def AHC(P:ft)(lit:Tmp->Bool)(o:fp)(st:XS):Option XS:=match o.op,o.dst with
 | .buildSlice T _ _,some d=>Bool.rec none (match BW P T,ANF P o st.fr st.s with
  |some (none,e),some (.list true (x::es))=>Bool.rec none (some ⟨st.c+1,(d,true,HP (.vec e (x::es)) st.s.up.length d st.c)::st.fr,st.s.put st.s.up.length d st.c (.vec e (x::es))⟩) (dn (x::es).length maxLen)
  | _,_=>none) (lit d)
 |_,_=>none
theorem ANI{lit:Tmp->Bool}{o:fp}{st st':XS}(h:Bd st)(hx:AHC P lit o st=some st'):K1 st st' /\
  ∀(σ:Nat->Nat) (pre:List AA) (k:Fr->St->Prop),(∀σ',AV st.c σ σ'->k (st'.fr.ren σ' pre.length) (st'.s.emb σ' pre))->A6Z P true o (st.fr.ren σ pre.length) (st.s.emb σ pre) k:=by
 unfold AHC at hx
 split at hx
 ·rename_i T len parts d ho hd;obtain⟨_,hx⟩:=EW hx;split at hx
  ·rename_i e x es hel hv;obtain⟨hc,he⟩:=KA hx;cases he;have hv:=QO hv;have hb:=VA h (h.val hv) (ys:=x::es) rfl;refine⟨cR h rfl fun σ σ' δ ha=>by simp only[A1.ren,hb σ σ' δ ha],fun σ pre k hk=>?_⟩;have hv':=JD (σ:=σ) (pre:=pre) hv;unfold FV at hv';simp only[ho]at hv';obtain⟨ps,h1,h2⟩:=bk.1 hv';rw[E6]at h2;refine⟨T,len,parts,d,e,_,ps,ho,rfl,hd,hel,h1,h2,by simp,by simpa [cz]using hc,fun γ=>?_⟩;have:=uJ h (d:=d) (r:=.vec e (x::es)) (fun σ σ' δ ha=>by simp only[A1.ren,hb σ σ' δ ha]) hk γ;rw[DK];simpa only[HP,A1.ren]using this
  ·cases hx
 ·cases hx
def ANJ(all:List fp)(t:Tmp):Bool:=all.any fun p=>match p.op,p.dst with
 |.call { callee:=.builtin .append,.. },some d=>bz d t
 |_,_=>false
def NX(all:List fp)(st:XS):List gk->Option XS
 |[]=>none
 |x::r=>match x with
  | .tmp t=>Bool.rec (NX all st r) (match BD st.fr t with
   |some (true,.vec l q γ n)=>match st.s.get l q with
    |some (γ',.vec _ es)=>Bool.rec none (some ⟨st.c,(t,true,.list false (es.take n))::st.fr,st.s.put l q γ .dead⟩) (bz γ' γ&&dn n es.length&&cx γ st.c)
    |_=>none
   | _=>none) (ANJ all t)
  |_=>NX all st r
def AHD(all:List fp)(o:fp)(st:XS):Option XS:=match o.op with
 |.call c=>match c.callee with
  |.value _=>NX all st c.args.toList
  |_=>none
 |_=>none
theorem WW{all:List fp}{st st1:XS}(h:Bd st):∀{xs:List gk},NX all st xs=some st1->K1 st st1 /\
  ∀(o:fp) (σ:Nat->Nat) (pre:List AA) (k:Fr->St->Prop),EU P true o (st1.fr.ren σ pre.length) (st1.s.emb σ pre) k->AQ0 P true o (st.fr.ren σ pre.length) (st.s.emb σ pre) k
 |[],hx=>by cases hx
 |x::r,hx=>by
  unfold NX at hx;split at hx
  ·rename_i t;cases hA:ANJ all t with
   |false=>rw[hA]at hx;exact WW h hx
   |true=>
    rw[hA]at hx
    have hx:(match BD st.fr t with
     |some (true,.vec l q γ n)=>match st.s.get l q with
      |some (γ',.vec _ es)=>Bool.rec none (some ⟨st.c,(t,true,.list false (es.take n))::st.fr,st.s.put l q γ .dead⟩) (bz γ' γ&&dn n es.length&&cx γ st.c)
      |_=>none
     | _=>none)=some st1:=hx
    split at hx
    ·rename_i l q γ n hg;split at hx
     ·rename_i γ' T es hs;obtain⟨hc,he⟩:=KA hx;simp only[bx]at hc;obtain⟨⟨h1,h2⟩,h3⟩:=hc;have h1:=bj h1;have h2:n<=es.length:=by simpa [cz]using h2
      have h3:γ<st.c:=by simpa [cd]using h3
      subst h1;cases he;rw[GO]at hg;have hb:∀σ σ' δ,AV st.c σ σ'->es.map (cj (V.ren σ δ))=es.map (cj (V.ren σ' δ)):=fun σ σ' δ ha=>by have:=NT h hs σ σ' δ ha;simpa [A1.ren]using this
      have hv:VY st.c (.list false (es.take n)):=fun σ σ' δ ha=>by simp only[E6,ck,hb σ σ' δ ha]
      have hbd:Bd ⟨st.c,(t,true,.list false (es.take n))::st.fr,st.s.put l q γ' .dead⟩:=(h.putS (l:=l) (k:=q) (r:=.dead) h3 (fun _ _ _ _=>rfl)).putF (d:=some t) (c:=true) hv;refine⟨⟨bn _,hbd,St.put_len _ _ _ _ _⟩,fun o σ pre k hk=>⟨t,l+pre.length,q,σ γ',n,T,es.map (cj (V.ren σ pre.length)),rfl,?_,?_,by simpa using h2,?_⟩⟩
      ·rw[Fr.get_ren,hg];simp
      ·rw[CA,hs];simp[A1.ren]
      ·change EU P true o ((st.fr.put t true _).ren _ _) _ k at hk;simp only[HW,E6,CV,A1.ren,ck]at hk;exact hk
     ·cases hx
    ·cases hx
  ·exact WW h hx
def opX(P:ft)(E:XE)(all:List fp)(o:fp)(st:XS):Option XS:=match gdX st.fr (LW all o)with
 |some true=>match AHC P E.lit o st with
  |some st'=>some st'
  |none=>match AHD all o st with
   |some st1=>RI P E (DV all) o st1
   |none=>RI P E (DV all) o st
 |some false=>some (JE o.dst st)
 |none=>none
theorem iI{d:Option Tmp}{st:XS}(h:Bd st):K1 st (JE d st):=⟨bn _,h.putF (fun σ σ' δ _=>by simp),rfl⟩
theorem AHE{E:XE}(hE:KR P E){all:List fp}{o:fp}{st st':XS}(h:Bd st)(hx:opX P E all o st=some st'):K1 st st'/\∃g,(∀σ δ,Q5 (st.fr.ren σ δ) (LW all o)=some g) /\
  ∀(σ:Nat->Nat) (pre:List AA) (k:Fr->St->Prop),(∀σ',AV st.c σ σ'->k (st'.fr.ren σ' pre.length) (st'.s.emb σ' pre))->GH P g o (st.fr.ren σ pre.length) (st.s.emb σ pre) k:=by
 unfold opX at hx
 rw[uN]at hx
 split at hx
 ·rename_i hg;split at hx
  ·rename_i st1 hl;cases hx;obtain⟨h1,h2⟩:=ANI h hl;exact⟨h1,true,fun σ δ=>NW hg,fun σ pre k hk=>.inr (.inr (.inl (h2 σ pre k hk)))⟩
  ·split at hx
   ·rename_i st1 ht;have ht':∃xs,NX all st xs=some st1:=by
     unfold AHD at ht;split at ht
     ·split at ht
      ·exact⟨_,ht⟩
      ·cases ht
     ·cases ht
    obtain⟨xs,ht'⟩:=ht';obtain⟨hE1,hs1⟩:=WW (P:=P) h ht';obtain⟨h1,h2⟩:=qD hE hE1.bd hx;exact⟨⟨dg hE1.c h1.c,h1.bd,h1.n.trans hE1.n⟩,true,fun σ δ=>NW hg,fun σ pre k hk=>.inr (.inr (.inr (hs1 o σ pre k (h2 σ pre k fun σ' ha=>hk σ' (ha.mono hE1.c)))))⟩
   ·obtain⟨h1,h2⟩:=qD hE h hx;exact⟨h1,true,fun σ δ=>NW hg,fun σ pre k hk=>.inl (h2 σ pre k hk)⟩
 ·rename_i hg;cases hx;refine⟨iI h,false,fun σ δ=>NW hg,fun σ pre k hk=>.inr (.inl ⟨rfl,.bool false,?_⟩)⟩;have:=hk σ (AV.refl _ _);simpa only[JE,FW,MQ]using this
 ·cases hx
def kV(P:ft)(E:XE)(all:List fp):List fp->XS->Option XS
 |[],st=>some st
 |o::r,st=>match opX P E all o st with
  |some st'=>kV P E all r st'
  |none=>none
theorem kX{E:XE}(hEE:KR P E){all:List fp}:∀{l:List fp} {st st':XS},Bd st->kV P E all l st=some st'->K1 st st' /\
  ∀(σ:Nat->Nat) (pre:List AA) (K:Fr->St->Prop),(∀σ',AV st.c σ σ'->K (st'.fr.ren σ' pre.length) (st'.s.emb σ' pre))->XW P (l.map (LW all)) l (st.fr.ren σ pre.length) (st.s.emb σ pre) K
 |[],st,st',h,hx=>by cases hx;exact⟨⟨bn _,h,rfl⟩,fun σ pre K hk=>hk σ (AV.refl _ _)⟩
 |o::l,st,st',h,hx=>by
  simp only[kV]at hx;split at hx
  ·rename_i st1 h1;obtain⟨hE,g,hg,hs⟩:=AHE hEE h h1;obtain⟨hE',hs'⟩:=kX hEE hE.bd hx;refine⟨⟨dg hE.c hE'.c,hE'.bd,hE'.n.trans hE.n⟩,fun σ pre K hk=>?_⟩;simp only[dv,XW,hg];exact hs σ pre _ fun σ' ha=>hs' σ' pre K fun σ'' ha'=>hk σ'' (ha.trans ha' hE.c)
  ·cases hx
def cS(cf:CF0)(d:Option Tmp)(f:gk)(args:List gk)(st:XS):Option XS:=match CX st.fr f with
 |some (.fn fid first cap)=>match GV (CX st.fr) args with
  |some vs=>match cf fid ((first++vs++cap).map weakV)with
   |some r=>some { st with fr:=putD st.fr d true r }
   |none=>none
  |none=>none
 |_=>none
def VZ(r:Option XS):Option (XS×AM):=match r with
 |some st=>some (st,[])
 |none=>none
def xAppD(P:ft)(d:Option Tmp)(args:List gk)(Ts:List gq)(st:XS):Option (XS×AM):=match xAppG elemsOf P d args Ts st with
 |some (st',l,q)=>some (st',[(l,q),(l,q+MO)])
 |none=>none
def AQ9(P:ft)(E:XE)(own:fp->Bool)(o:fp)(c:Call)(st:XS):Option (XS×AM):=match c.callee with
 |.value f=>Bool.rec (VZ (cS E.c0 o.dst f c.args.toList st)) (VZ (LY E.co o.dst f c.args.toList st)) (own o)
 |.builtin .append=>xAppD P o.dst c.args.toList c.argTypes.toList st
 |_=>VZ (fM P o st)
def AHF(P:ft)(d:Option Tmp)(T:gq)(x y:gk)(st:XS):Option (XS×AM):=match JR P d T x y st with
 |some st'=>some (st',GF (bz (P.cellsOf T) 1) (CX st.fr x))
 |none=>none
def kY(P:ft)(E:XE)(own:fp->Bool)(o:fp)(st:XS):Option (XS×AM):=match o.op with
 |.alloc T=>VZ (PT P o.dst T st)
 |.box _ x=>VZ (pQ o.dst x st)
 |.makeMap _ r=>VZ (ACD o.dst r st)
 |.makeSlice T x y=>VZ (YA P o.dst T x y st)
 |.store T x y=>AHF P o.dst T x y st
 |.call c=>AQ9 P E own o c st
 |_=>VZ (fM P o st)
def uO(P:ft)(E:XE)(all:List fp)(o:fp)(st:XS):Option (XS×AM):=match gdX st.fr (LW all o)with
 |some true=>kY P E (DV all) o st
 |some false=>Bool.rec (some (JE o.dst st,[])) none (kA (DV all) o||kW o||kP o)
 |none=>none
theorem HZ{r:Option XS}{st':XS}{wr:AM}(h:VZ r=some (st',wr)):r=some st'/\wr=[]:=by
 unfold VZ at h;split at h
 ·cases h;exact⟨rfl,rfl⟩
 ·cases h
def AU9(P:ft)(Ω:HQ P)(all:List fp)(o:fp)(st st':XS)(wr:AM):Prop:=K1 st st' /\
  ∀(W:AM) (σ:Nat->Nat) (pre:List AA) (k:Fr->St->Prop),(∀p∈EM P o (CX st.fr),p∉W)->(∀p∈wr,p∈W)->(∀σ',AV st.c σ σ'->k (st'.fr.ren σ' pre.length) (st'.s.emb σ' pre))->I1 P Ω (eP pre.length W) o (LW all o) (st.fr.ren σ pre.length) (st.s.emb σ pre) k
theorem ANK{E:XE}(hE:KR P E){all:List fp}{o:fp}{st st':XS}{wr:AM}(h:Bd st)(hx:uO P E all o st=some (st',wr)):AU9 P (hE.tab (DV all)) all o st st' wr:=by
 have val:∀{st'},(∀σ δ,Q5 (st.fr.ren σ δ) (LW all o)=some true)->fM P o st=some st'->AU9 P (hE.tab (DV all)) all o st st' wr:=by
  intro st' hg hx;unfold fM at hx;split at hx
  ·rename_i v hv;cases hx;have hv:=QO hv;refine⟨⟨bn _,h.putF (h.val hv),rfl⟩,fun W σ pre k hr _ hk=>.inl ⟨true,v.ren σ pre.length,⟨hg _ _,?_⟩,?_⟩⟩
   ·have hrd:∀p∈EM P o (D5 true (st.fr.ren σ pre.length)),p∉eP pre.length W:=by rw[J4,uH,<-FN];exact pT hr
    cases hi:pS P o (D5 true (st.fr.ren σ pre.length))with
    |true=>exact .inr (.inr (.inl (AU5 (JD hv) hi hrd)))
    |false=>exact .inl ⟨_,cP _,ACG (JD hv) hi hrd⟩
   ·have:=hk σ (AV.refl _ _);rwa [FW]at this
  ·cases hx
 have new:∀{st'},(∀σ δ,Q5 (st.fr.ren σ δ) (LW all o)=some true)->kQ P (hE.tab (DV all)) o st st'->AU9 P (hE.tab (DV all)) all o st st' wr:=by intro st' hg hn;obtain⟨h1,d,hd,h2⟩:=hn;refine⟨h1,fun W σ pre k _ _ hk=>?_⟩;obtain⟨r,hr,h3⟩:=h2 σ pre k hk;exact .inr (.inl ⟨r,d,⟨hg _ _,hd,hr⟩,h3⟩)
 unfold uO at hx;rw[uN]at hx;split at hx
 ·rename_i hg;have hg':∀σ δ,Q5 (st.fr.ren σ δ) (LW all o)=some true:=fun σ δ=>NW hg;unfold kY at hx;split at hx
  ·rename_i T ho;exact new hg' (iD h ho (HZ hx).1)
  ·rename_i T x ho;exact new hg' (yK h ho (HZ hx).1)
  ·rename_i T r ho;exact new hg' (yL h ho (HZ hx).1)
  ·rename_i T x y ho;exact new hg' (pR h ho (HZ hx).1)
  ·rename_i T x y ho;unfold AHF at hx;split at hx
   ·rename_i st1 hx1;cases hx;obtain⟨hE1,_⟩:=iE h ho hx1;obtain⟨l,q,γ,r,hD,rfl⟩:=AG5 ho hx1;refine⟨hE1,fun W σ pre k _ hw hk=>.inr (.inr (.inl ⟨_,_,_,_,⟨hg' _ _,?_,uD hD⟩,?_⟩))⟩
    ·have hp:=bU hD;unfold tU at hp;simp only[ho]at hp;have main:∀off,(D5 true st.fr x=some (.ptr l q γ off)\/∃i,D5 true st.fr x=some (.eptr l q γ i off))->WOK P (eP pre.length W) o (st.fr.ren σ pre.length) (l+pre.length) q:=by
      intro off hx;have hC:JQ P o (st.fr.ren σ pre.length)=some (off,P.cellsOf T):=by unfold JQ;rcases hx with hx|⟨i,hx⟩<;>simp only[ho,DS,hx,bq,HU,PO]
      cases hb:bz (P.cellsOf T) 1 with
      |true=>
       have h1:=bj hb
       have hpl:GF (bz (P.cellsOf T) 1) (CX st.fr x)=[(l,q),(l,JO q off)]:=by rw[EA,hb];rcases hx with hx|⟨i,hx⟩<;>rw[hx]<;>rfl
       rw[hpl]at hw
       refine⟨NV.2 (hw _ (by simp)),.inr fun off' n' e c h2 h3=>?_⟩
       rw[hC]at e
       cases e
       obtain rfl:c=off:=by omega
       exact NV.2 (hw _ (by simp))
      |false=>
       have hpl:GF (bz (P.cellsOf T) 1) (CX st.fr x)=[(l,q),(l,q+MP)]:=by rw[EA,hb];rcases hx with hx|⟨i,hx⟩<;>rw[hx]<;>rfl
       rw[hpl]at hw
       exact⟨NV.2 (hw _ (by simp)),.inl (NV.2 (hw _ (by simp)))⟩
     split at hp
     ·rename_i l1 q1 γ1 off e;cases hp;exact main off (.inl e)
     ·rename_i l1 q1 γ1 i off e;cases hp;exact main off (.inr ⟨i,e⟩)
     ·cases hp
    ·have:=hk σ (AV.refl _ _);simp only[CV]at this;exact this
   ·cases hx
  ·rename_i c ho;obtain⟨callee,args,Ts⟩:=c;unfold AQ9 at hx;split at hx
   ·rename_i f hc;have hc:callee=.value f:=hc;subst hc;cases hown:DV all o with
    |true=>
     rw[hown]at hx
     exact new hg' (iH hE hown h ho (HZ hx).1)
    |false=>
     rw[hown]at hx
     have hx:=(HZ hx).1
     unfold cS at hx
     split at hx
     ·rename_i fid first cap hf;split at hx
      ·rename_i vs hvs;split at hx
       ·rename_i r hr;cases hx;obtain⟨hA,hcl,hrc⟩:=hE.c0 _ _ _ hr;refine⟨⟨bn _,h.putF (fun σ σ' δ _=>by rw[hrc,hrc]),rfl⟩,fun W σ pre k _ _ hk=>.inl ⟨true,r,⟨hg' _ _,.inr (.inl ⟨fid,(first++vs++cap).map weakV,?_,hown,fun _ s=>hA s⟩)⟩,?_⟩⟩
        ·rw[LH,FN]at hvs;rw[EA]at hf;simp only[JB,ho,J4,hf,bq,PQ,JC hvs,cw.injEq,fh.injEq,true_and];have e:((first++vs++cap).map weakV).map (V.ren σ pre.length)=(first++vs++cap).map weakV:=by
          conv=>rhs;rw[<-cn ((first++vs++cap).map weakV)]
          exact bf fun v hv=>hcl v hv σ _
         rw[HY]at e;simpa only[bc]using e
        ·have:=hk σ (AV.refl _ _);rwa [FW,hrc]at this
       ·cases hx
      ·cases hx
     ·cases hx
   ·rename_i hc;have hc:callee=.builtin .append:=hc;subst hc;unfold xAppD at hx;split at hx
    ·rename_i st1 l q e1;cases hx;obtain⟨d,r,hd,hp,rfl,hr,_,hs⟩:=cQ (fun _ _ _ h=>h) h ho e1;have hra:EM P o (CX st.fr)=KQ (CX st.fr) args.toList:=by simp only[EM,ho]
     refine⟨cR h hp hr,fun W σ pre k hrd hw hk=>.inr (.inr (.inr ⟨l+pre.length,q,r.ren σ pre.length,d,⟨hg' _ _,⟨NV.2 (hw _ (by simp)),NV.2 (hw _ (by simp))⟩,hd,_,cP _,hs W σ pre (by rw[<-hra];exact hrd)⟩,fun γ=>uJ h hr hk γ⟩))⟩
    ·cases hx
   ·exact val hg' (HZ hx).1
  ·exact val hg' (HZ hx).1
 ·rename_i hg;cases hk:(kA (DV all) o||kW o||kP o)with
  |true=>rw[hk]at hx;cases hx
  |false=>
   rw[hk]at hx
   cases hx
   rw[dt,dt]at hk
   refine⟨iI h,fun W σ pre k _ _ hk'=>.inl ⟨false,.bool false,⟨NW hg,.inr (.inr (.inr ⟨rfl,hk.1.1,hk.1.2,hk.2⟩))⟩,?_⟩⟩
   have:=hk' σ (AV.refl _ _)
   simpa only[JE,FW,MQ]using this
 ·cases hx
def phX(P:ft)(E:XE)(l:List fp):List Nat->XS->AM->AM->Option (XS×AM×AM)
 |[],st,rd,wr=>some (st,rd,wr)
 |i::r,st,rd,wr=>match l[i]? with
  |some o=>match uO P E l o st with
   |some (st',w)=>phX P E l r st' (cond (zB l o) [] (EM P o (CX st.fr))++rd) (w++wr)
   |none=>none
  |none=>none
def sqX(P:ft)(E:XE)(l:List fp):List Nat->XS->Option XS
 |[],st=>some st
 |i::r,st=>match l[i]? with
  |some o=>match opX P E l o st with
   |some st'=>sqX P E l r st'
   |none=>none
  |none=>none
def ACJ(P:ft)(E:XE)(l:List fp):YO->XS->Option XS
 |[],st=>some st
 | p :: S,st=>Bool.rec none (match phX P E l p.1 st [] []with
  | some (st1,rd,wr)=>Bool.rec none (match sqX P E l p.2 st1 with
   |some HD=>ACJ P E l S HD
   | none=>none) (wr.all fun p=>!(rd.contains p))
  | none=>none) (cI (DV l) l p.1 st.s.loc)
theorem Y4{l:List fp}{i:Nat}{o:fp}(h:l[i]? = some o):eO (l.map (LW l)) i=LW l o:=by simp[eO,h]
theorem ANL{E:XE}{all:List fp}{o:fp}{st st':XS}{wr:AM}(ho:∃T x,o.op=.load T x)(hx:uO P E all o st=some (st',wr)):wr=[]:=by
 obtain⟨T,x,ho⟩:=ho;unfold uO at hx;split at hx
 ·unfold kY at hx;rw[ho]at hx;exact(HZ hx).2
 ·cases hk:(kA (DV all) o||kW o||kP o)with
  |true=>rw[hk]at hx;cases hx
  |false=>rw[hk]at hx;exact(fh.inj (cw.inj hx)).2.symm
 ·cases hx
theorem AHG{E:XE}(hEE:KR P E){l:List fp}:∀{R:List Nat} {st st':XS} {rd wr rd' wr':AM},Bd st->phX P E l R st rd wr=some (st',rd',wr')->K1 st st'/\(∀p∈rd,p∈rd')/\(∀p∈wr,p∈wr') /\
  ∀(W:AM) (σ:Nat->Nat) (pre:List AA) (K:Fr->St->Prop),(∀p∈rd',p∉W)->(∀p∈wr',p∈W)->(∀σ',AV st.c σ σ'->K (st'.fr.ren σ' pre.length) (st'.s.emb σ' pre))->RH P (hEE.tab (DV l)) (eP pre.length W) l (l.map (LW l)) R (st.fr.ren σ pre.length) (st.s.emb σ pre) K
 |[],st,st',rd,wr,rd',wr',h,hx=>by cases hx;exact⟨⟨bn _,h,rfl⟩,fun _ h=>h,fun _ h=>h,fun W σ pre K _ _ hk=>hk σ (AV.refl _ _)⟩
 |i::r,st,st',rd,wr,rd',wr',h,hx=>by
  simp only[phX]at hx;split at hx
  ·rename_i o ho;split at hx
   ·rename_i st1 w1 h1;obtain⟨hE,hs⟩:=ANK hEE h h1;obtain⟨hE',hr,hw,hs'⟩:=AHG hEE hE.bd hx;refine⟨⟨dg hE.c hE'.c,hE'.bd,hE'.n.trans hE.n⟩,fun p hp=>hr p (dh _ hp),fun p hp=>hw p (dh _ hp),fun W σ pre K hrd hwr hk=>?_⟩;simp only[RH,OC,ho,Y4 ho];cases hz:zB l o with
    |true=>
     have hw0:w1=[]:=ANL (AQ3 hz) h1
     subst hw0
     unfold wz
     rw[hz]
     exact hs [] σ pre _ (fun p _=>by simp) (fun p hp=>hp) fun σ' ha=>hs' W σ' pre K hrd hwr fun σ'' ha'=>hk σ'' (ha.trans ha' hE.c)
    |false=>
    rw[hz]at hr;unfold wz;rw[hz];exact hs W σ pre _ (fun p hp=>hrd p (hr p (fj _ hp))) (fun p hp=>hwr p (hw p (fj _ hp))) fun σ' ha=>hs' W σ' pre K hrd hwr fun σ'' ha'=>hk σ'' (ha.trans ha' hE.c)
   ·cases hx
  ·cases hx
theorem AHH{E:XE}(hEE:KR P E){l:List fp}:∀{R:List Nat} {st st':XS},Bd st->sqX P E l R st=some st'->K1 st st' /\
  ∀(σ:Nat->Nat) (pre:List AA) (K:Fr->St->Prop),(∀σ',AV st.c σ σ'->K (st'.fr.ren σ' pre.length) (st'.s.emb σ' pre))->AB3 P l (l.map (LW l)) R (st.fr.ren σ pre.length) (st.s.emb σ pre) K
 |[],st,st',h,hx=>by cases hx;exact⟨⟨bn _,h,rfl⟩,fun σ pre K hk=>hk σ (AV.refl _ _)⟩
 |i::r,st,st',h,hx=>by
  simp only[sqX]at hx;split at hx
  ·rename_i o ho;split at hx
   ·rename_i st1 h1;obtain⟨hE,g,hg,hs⟩:=AHE hEE h h1;obtain⟨hE',hs'⟩:=AHH hEE hE.bd hx;refine⟨⟨dg hE.c hE'.c,hE'.bd,hE'.n.trans hE.n⟩,fun σ pre K hk=>?_⟩;simp only[AB3,ho,Y4 ho,hg];exact hs σ pre _ fun σ' ha=>hs' σ' pre K fun σ'' ha'=>hk σ'' (ha.trans ha' hE.c)
   ·cases hx
  ·cases hx
end Go.Pg
namespace Go.Pg
variable {P:ft}{σ σ':Nat->Nat}{δ:Nat}{pre:List AA}{s:St}{fr:Fr}{g:Bool}
def AG:Nat->V->Bool
 |0,_=>false
 |f+1,v=>match v with
  |.int ..|.bool _|.raw _|.nil|.any=>true
  |.agg cs|.tup cs|.ref cs=>cs.all (AG f)
  |.list _ es=>es.all fun e=>e.all (AG f)
  |.fn _ a b=>a.all (AG f)&&b.all (AG f)
  |_=>false
theorem NY{f:Nat}(ih:∀v,AG f v=true->v.ren σ δ=v){cs:List V}(h:cs.all (AG f)=true):cs.map (V.ren σ δ)=cs:=by
 conv=>rhs;rw[<-cn cs]
 exact bf fun v hv=>ih v (bh.1 h v hv)
theorem E1:∀(f:Nat) (v:V),AG f v=true->v.ren σ δ=v
 |0,_,h=>by cases h
 |f+1,v,h=>by
  have ih:=fun v=>E1 f v;cases v with
  |agg cs=>rw[HT,NY ih (by simpa [AG]using h)]
  |tup cs=>rw[LC,NY ih (by simpa [AG]using h)]
  |ref cs=>rw[NO,NY ih (by simpa [AG]using h)]
  |list b es=>
   have h':(es.all fun e=>e.all (AG f))=true:=by simpa [AG]using h
   rw[E6]
   congr 1
   conv=>rhs;rw[<-cn es]
   exact bf fun e he=>NY ih (bh.1 h' e he)
  |fn g a b=>
   have h':a.all (AG f)=true/\b.all (AG f)=true:=by simpa [AG]using h
   rw[PQ,NY ih h'.1,NY ih h'.2]
  |int k n=>simp
  |bool b=>simp
  |raw v=>simp
  |nil=>simp
  |any=>simp
  |_=>simp[AG]at h
def RJ(ks:List Nat)(fr:Fr):Fr:=List.rec (motive:=fun _=>Fr) [] (fun k _ ih=>match BD fr k with
 |some (c,v)=>(k,c,v)::ih
 | none=>ih) ks
theorem cT(fr:Fr):∀(ks:List Nat),RJ ks fr=PI ks fr
 |[]=>rfl
 |k::r=>by have:=cT fr r;show(match BD fr k with|some (c,v)=>(k,c,v)::RJ r fr|none=>RJ r fr)=PI (k::r) fr;rw[this,GO];rfl
theorem WX:∀(ks:List Nat),PI ks (fr.ren σ δ)=(PI ks fr).ren σ δ
 |[]=>rfl
 |k::r=>by
  simp only[PI,Fr.get_ren,WX r];cases fr.get k with
  |none=>rfl
  |some p=>rfl
theorem WY{L:AA}:∀(ks:List Nat),JA ks (L.ren σ δ)=(JA ks L).ren σ δ
 |[]=>rfl
 |k::r=>by
  simp only[JA,AA.get_ren,WY r];cases L.get k with
  |none=>rfl
  |some p=>rfl
def VC:List Nat->List Nat->List Nat
 |acc,[]=>acc
 |acc,k::r=>VC (cond (acc.any (bz k)) acc (k::acc)) r
def SH(ks ls:List Nat)(st:XS):XS:=⟨st.c,RJ ks st.fr,⟨st.s.up,JA ls st.s.loc⟩⟩
theorem AHI{ks ls:List Nat}{st:XS}{l k:Nat}{x:Nat×A1}(h:(SH ks ls st).s.get l k=some x):st.s.get l k=some x:=by
 unfold St.get SH at h;unfold St.get;simp only at h;split at h
 ·rename_i e;rw[if_pos e];exact QI h
 ·rename_i e;rw[if_neg e];exact h
theorem VD{ks ls:List Nat}{st:XS}(h:Bd st):K1 st (SH ks ls st):=by
 refine⟨bn _,⟨fun σ σ' δ ha=>?_,fun σ σ' pre ha=>?_,fun l k γ fr ps asg body N ls hg=>h.lp l k γ fr ps asg body N ls (AHI hg)⟩,rfl⟩
 ·simp only[SH,cT,<-WX];rw[h.f σ σ' δ ha]
 ·have:=h.s σ σ' pre ha;simp only[St.emb,St.mk.injEq]at this;simp only[SH,St.emb,St.mk.injEq,<-WY];exact⟨this.1,by rw[this.2]⟩
theorem WZ{n N:Nat}{ρ:Option Nat}{c:gw}{K:Exit->Fr->St->Prop}{ks ls:List Nat}{st:XS}(h:BK P n N ρ c K ((SH ks ls st).fr.ren σ pre.length) ((SH ks ls st).s.emb σ pre)):BK P n N ρ c K (st.fr.ren σ pre.length) (st.s.emb σ pre):=by
 refine ABW ks ls ?_;have e2:(⟨(st.s.emb σ pre).up,JA ls (st.s.emb σ pre).loc⟩:St)=(SH ks ls st).s.emb σ pre:=by simp only[SH,St.emb,WY]
 rw[WX,e2,<-cT];exact h
abbrev eQ:=gw->XS->Option (Exit×XS)
def RK(P:ft)(E:XE)(l:List fp)(st:XS):Option XS:=ACJ P E l (fK l) st
def A68(P:ft)(E:XE)(l:List fp)(draw:Bool)(st:XS):Option XS:=Bool.rec (kV P E l l st)
 (match AU4 l with
  |[]=>RK P E l st
  | ds=>RK P E l (SH (VC [] (st.fr.map (·.1))) ((VC [] (st.s.loc.map (·.1))).filter fun k=>!(ds.any (bz k))) st)) draw
def OQ(r:Option XS):Option (Exit×XS):=match r with
 |some st=>some (.normal,st)
 |none=>none
def kZ(rec:eQ)(b:gw)(r:Option (Exit×XS)):Option (Exit×XS):=match r with
 |some (.normal,st')=>rec b st'
 |r=>r
def W0(id:Nat)(r:Option (Exit×XS)):Option (Exit×XS):=match r with
 |some (.exit i,st')=>Bool.rec (some (.exit i,st')) (some (.normal,st')) (bz i id)
 |r=>r
def qF(rec:eQ)(a b:gw)(st:XS)(r:Option V):Option (Exit×XS):=match r with
 |some (.bool c)=>Bool.rec (rec b st) (rec a st) c
 |_=>none
def iJ(rec:eQ)(body:gw)(ks:List Nat)(n:Nat):XS->Option (Exit×XS):=Nat.rec (motive:=fun _=>XS->Option (Exit×XS)) (fun _=>none) (fun _ ih st=>match rec body (SH ks (VC [] (st.s.loc.map (·.1))) st)with
 |some (.normal,st')=>ih st'
 | r=>r) n
def BO:Nat:=1000000
def lA(fr:Fr)(n γ:Nat)(r:Option (V×XS)):Option (Exit×XS):=match r with
 |some (_,st)=>match st.s.get n BO with
  | some (γ',.loop _ _ _ _ _ ls)=>Bool.rec none (match ls with
   |.ready=>some (.normal,⟨st.c,fr,st.s.put n BO γ .dead⟩)
   |.left .ret=>some (.ret,⟨st.c,fr,st.s.put n BO γ .dead⟩)
   |.left (.exit id)=>some (.exit id,⟨st.c,fr,st.s.put n BO γ .dead⟩)
   | _=>none) (bz γ' γ&&cx γ st.c)
  |_=>none
 |none=>none
def W1(cf:CF)(N:Nat)(g:gk)(ps:List Tmp)(asg body:gw)(st:XS):Option (Exit×XS):=match CX st.fr g with
 |some (.fn f first cap)=>lA st.fr st.s.up.length st.c (cf f ((first++[V.yld st.s.up.length BO st.c]++cap).map weakV) ⟨st.c+1,st.fr,st.s.put st.s.up.length BO st.c (.loop st.fr ps asg body N .ready)⟩)
 |_=>none
def cU(P:ft)(E:XE)(n N:Nat)(rec:eQ):eQ:=fun code st=>match code with
 |.skip=>some (.normal,st)
 |.label _=>some (.normal,st)
 |.region _ ops draw=>OQ (A68 P E ops.toList draw st)
 |.seq a b=>kZ rec b (rec a st)
 |.cond c a b=>qF rec a b st (CX st.fr c)
 |.block id body=>W0 id (rec body st)
 |.loop body=>iJ rec body (VC [] (st.fr.map (·.1))) n st
 |.exit id=>some (.exit id,st)
 |.ret=>some (.ret,st)
 |.scope body=>rec body st
 |.rangeFunc g ps asg body=>W1 E.cf N g ps.toList asg body st
 |_=>none
abbrev HC:=Nat->eQ
def ACK(P:ft)(rs:List ResultVar)(st:XS):Option (V×Nat×List AA):=match GD P rs st.fr st.s with
 |some r=>match A7 st.s 4 r with
  |some r'=>some (r',st.c,st.s.up.map (AH st.s))
  |none=>none
 |none=>none
def yQ{α:Type}(rec:eQ)(ret:XS->Option α)(code:gw)(st:XS):Option α:=match rec code st with
 |some (.ret,st')=>ret st'
 |some (.normal,st')=>ret st'
 |_=>none
def cV{α:Type}(P:ft)(rec:HC)(ret:Func->XS->Option α)(f:gv)(args:List V)(c:Nat)(up:List AA):Option α:=match P.funcs[f]? with
 |some fn=>match fn.body with
  |some code=>Bool.rec none (yQ (rec fn.ntmps) (ret fn) code ⟨c,AF 0 args,⟨up,[]⟩⟩) (dn args.length fn.ntmps)
  |none=>none
 |none=>none
def iK(P:ft)(rec:HC)(f:gv)(args:List V)(c:Nat)(up:List AA):Option (V×Nat×List AA):=cV P rec (fun fn=>ACK P fn.results.toList) f args c up
def E2(P:ft)(rec:HC):CF0:=fun f args=>Bool.rec none (match iK P rec f args 0 []with
 |some (r,_,_)=>Bool.rec none (some r) (AG 9 r)
 | none=>none) (args.all (AG 9))
def CJ{α:Type}:List α->Option (List α×α)
 |[]=>none
 |[x]=>some ([],x)
 |x::r=>match CJ r with
  |some (a,b)=>some (x::a,b)
  |none=>none
def AY(P:ft)(kn:CF0)(rec:HC):CF0:=fun f args=>match kn f args with
 |some r=>some r
 |none=>E2 P rec f args
def weakM:V->V
 |.nil=>.list false []
 |v=>v
def weakN:V->V
 |.nil=>.list false []
 |.agg cs=>.agg (cs.map weakM)
 |v=>v
theorem RepV.empty{G:Gh}{v:Value}(h:RepV G .nil v):RepV G (.list false []) v:=by cases h;exact .list false [] none 0 0 0 0 #[] 0 (0,0) (fun _ _=>undef) (by simp) (fun h=>by cases h) (fun h=>absurd rfl h) (fun i h=>absurd h (by simp)) (fun i h=>absurd h (by simp)) (fun i h=>absurd h (by simp))
theorem RepV.weakM{G:Gh}{x:V}{v:Value}(h:RepV G x v):RepV G (weakM x) v:=by cases x<;>first|exact h|exact h.empty
theorem lB(x:V):(weakM x).isCell=x.isCell:=by cases x<;>rfl
theorem RepV.weakN{G:Gh}{x:V}{v:Value}(h:RepV G x v):RepV G (weakN x) v:=by
 cases x with
 |nil=>exact h.empty
 |agg cs=>
  cases h with
  |agg _ arr hl hc hr=>
   refine .agg _ arr (by simpa using hl) (fun c hc'=>?_) (fun i h1 h2=>?_)
   ·obtain⟨d,hd,rfl⟩:=dk.1 hc';rw[lB];exact hc d hd
   ·simp only[List.getElem_map];exact(hr i (by simpa using h1) h2).weakM
 |_=>exact h
theorem RepA.weakN{G:Gh}{xs:List V}{vs:List Value}(h:RepA G xs vs):RepA G (xs.map Pg.weakN) vs :=
 ⟨by simpa using h.1,fun i h1 h2=>by simp only[List.getElem_map];exact(h.2 i (by simpa using h1) h2).weakN⟩
def FZ(P:ft)(kn:CF0)(rec:HC):CF0:=fun f args=>match AY P kn rec f (args.map weakN)with
 |some r=>Bool.rec (AY P kn rec f args) (some r) (args.all (AG 9))
 |none=>AY P kn rec f args
def BHH(P:ft)(T:gq):Bool:=match P.underlying T with
 |some (.pointer _)=>true
 |_=>false
def BI(P:ft)(f:gv):Bool:=match P.funcs[f]? with
 |some fn=>fn.resultTypes.toList.any (BHH P)
 |none=>false
def cW(P:ft)(kn:CF0)(rec:HC):CF:=fun f args st=>Bool.rec (match iK P rec f args st.c (st.s.up++[st.s.loc])with
 |some (r,c,up)=>match CJ up with
  |some (u,l)=>some (r,⟨c,st.fr,⟨u,l⟩⟩)
  |none=>none
 | none=>none) (match FZ P kn rec f args with
  |some r=>some (r,st)
  | none=>none) (args.all (AG 9)&&!(BI P f))
def AVA(P:ft)(fn:Func)(st:XS):Option Mk:=match GD P fn.results.toList st.fr st.s with
 | some (.vec l k γ n)=>Bool.rec none (match st.s.loc.get k with
  |some (γ',.vec T es)=>Bool.rec none (some ⟨.vec T es,none⟩) (bz γ' γ&&bz n es.length&&es.all fun e=>e.all (AG 9))
  | _=>none) (bz l st.s.up.length)
 | some v=>Bool.rec none (match fn.resultTypes.toList with
  |[R]=>match BW P R with
   |some (none,T)=>some ⟨.vec T [],none⟩
   |_=>none
  | _=>none) (bE v)
 |none=>none
def LZ(P:ft)(f:gv):Bool:=match P.funcs[f]? with
 |some fn=>match fn.resultTypes.toList with
  |[R]=>match BW P R with
   |some (none,_)=>true
   |_=>false
  |_=>false
 |none=>false
def uP(P:ft)(rec:HC)(f:gv)(args:List V):Option Mk:=Bool.rec none (cV P rec (AVA P) f args 0 []) (args.all (AG 9))
def cX(P:ft)(kn:CF0)(ko:CFO)(rec:HC):CFO:=fun f args d=>match ko f args d with
 |some r=>some r
 | none=>Bool.rec (match FZ P kn rec f args with
  |some r=>some ⟨.dead,some r⟩
  | none=>none) (uP P rec f args) (LZ P f)
def IB(s:St)(u:List AA)(l:AA):St:=⟨u.map (AH s),AH s l⟩
def W2(fr:Fr)(l q γ:Nat)(r:Option (Exit×XS)):Option (V×XS):=match r with
 |some (e,st)=>match st.s.get l q with
  | some (γ',.loop fr0 ps asg body N .busy)=>Bool.rec none (match CJ st.s.up with
   |some (u,lc)=>match e with
    |.normal=>some (.bool true,⟨st.c,fr,(IB st.s u lc).put l q γ (.loop fr0 ps asg body N .ready)⟩)
    |.ret=>some (.bool false,⟨st.c,fr,(IB st.s u lc).put l q γ (.loop fr0 ps asg body N (.left .ret))⟩)
    |.exit id=>some (.bool false,⟨st.c,fr,(IB st.s u lc).put l q γ (.loop fr0 ps asg body N (.left (.exit id)))⟩)
    |_=>none
   | none=>none) (bz γ' γ&&cx l st.s.up.length&&cx γ st.c)
  |_=>none
 |none=>none
def cY(rec:eQ)(l q γ:Nat)(body:gw)(r:Option (Exit×XS)):Option (Exit×XS):=match r with
 |some (.normal,st)=>match st.s.get l q with
  |some (γ',.loop fr0 ps asg body' N .ready)=>Bool.rec none (rec body ⟨st.c,st.fr,st.s.put l q γ (.loop fr0 ps asg body' N .busy)⟩) (bz γ' γ&&cx γ st.c)
  |_=>none
 |_=>none
def cZ(rec:HC):CY:=fun l q γ vs st=>match st.s.get l q with
 |some (γ',.loop fr0 ps asg body N .ready)=>Bool.rec none (W2 st.fr l q γ (cY (rec N) l q γ body (rec N asg ⟨st.c,JW fr0 ps vs,⟨st.s.up++[st.s.loc],[]⟩⟩))) (bz γ' γ&&bz vs.length ps.length&&cx γ st.c)
 |_=>none
def A69(P:ft)(kn:CF0)(ko:CFO)(lit:Tmp->Bool)(rec:HC):XE:=⟨cW P kn rec,cZ rec,FZ P kn rec,cX P kn ko rec,lit⟩
def uQ(fn:Func):Bool:=match fn.body with
 | some c => !(fn.name == "runtime.NumGoroutine") && E7 fn.ntmps c
 |none=>true
structure EN(P:ft):Prop where
 all:P.funcs.toList.all uQ=true
 mixed:P.follows .mixedOrders=true
def dA(P:ft)(N:Nat)(rec:eQ):Prop:=∀code st e st',rec code st=some (e,st')->Bd st->E7 N code=true->K1 st st'/\(∀l,e≠.goto l) /\
 ∀(n:Nat) (ρ:Option Nat) (σ:Nat->Nat) (pre:List AA) (K:Exit->Fr->St->Prop),(ρ=none\/GL code=true)->(∀σ',AV st.c σ σ'->K e (st'.fr.ren σ' pre.length) (st'.s.emb σ' pre))->BK P n N ρ code K (st.fr.ren σ pre.length) (st.s.emb σ pre)
def dB(P:ft)(rec:HC):Prop:=∀N,dA P N (rec N)
theorem PU{α:Type}:∀{l:List α} {u:List α} {x:α},CJ l=some (u,x)->l=u++[x]
 |[],u,x,h=>by cases h
 |[y],u,x,h=>by cases h;rfl
 |y::z::r,u,x,h=>by
  simp only[CJ]at h;split at h
  ·rename_i a b e;cases h;rw[PU (l:=z::r) e];rfl
  ·cases h
theorem AHJ{c:Nat}{args:List V}(h:∀v∈args,VY c v)(σ σ':Nat->Nat)(δ:Nat)(ha:AV c σ σ'):(AF 0 args).ren σ δ=(AF 0 args).ren σ' δ:=by rw[<-QM,<-QM];congr 1;exact bf fun v hv=>h v hv σ σ' δ ha
theorem AVB{st:XS}(h:Bd st){rs:List ResultVar}{v r:V}(hv:GD P rs st.fr st.s=some v)(hr:A7 st.s 4 v=some r):VY st.c r:=by intro σ σ' δ ha;have q1:=PS (σ:=σ) (pre:=bw δ []) hv;have q2:=PS (σ:=σ') (pre:=bw δ []) hv;rw[h.f σ σ' _ ha,h.s σ σ' _ ha,q2]at q1;have q:=cw.inj q1;have r1:=KO (σ:=σ) (pre:=bw δ []) 4 hr;have r2:=KO (σ:=σ') (pre:=bw δ []) 4 hr;rw[h.s σ σ' _ ha,<-q,r2]at r1;have:=cw.inj r1;rw[bb]at this;exact this.symm
theorem H0(u:List AA)(l:AA)(i k:Nat):(⟨u,l⟩:St).get i k=match(u++[l])[i]? with
  |some L=>L.get k
  |none=>none:=by
 unfold St.get
 simp only
 by_cases h:i=u.length
 ·subst h;simp
 ·rw[if_neg h];rcases Nat.lt_or_ge i u.length with h'|h'
  ·rw[dw h'];rfl
  ·rw[dq h',dl h'];have:1<=i-u.length:=by omega
   rw[dl (by simpa using this)]
theorem uR(L:AA)(k g:Nat)(r:A1)(h:((AH s L).ren σ pre.length).get k=some (g,r)):∃r0,(L.ren σ pre.length).get k=some (g,r0)/\(r=r0\/r=HO (s.emb σ pre) r0):=by
 rw[AA.get_ren,NS]at h;rw[AA.get_ren];cases hL:L.get k with
 |none=>rw[hL]at h;cases h
 |some p=>
  rw[hL]at h
  cases h
  exact⟨p.2.ren σ pre.length,rfl,pP p.2⟩
theorem iL{s:St}{F:List AA}{u u2:List AA}{l l2:AA}(h1:u++[l]=pre++F.map (AA.ren σ pre.length))(h2:u2++[l2]=pre++(F.map (AH s)).map (AA.ren σ pre.length)):ABO (s.emb σ pre) ⟨u,l⟩ ⟨u2,l2⟩:=by
 have hlen:u2.length=u.length:=by have a1:=congrArg dz h1;have a2:=congrArg dz h2;simp at a1 a2;omega
 refine⟨hlen,fun i k g r hg=>?_⟩;rw[H0,h2]at hg;rw[H0,h1];rcases Nat.lt_or_ge i pre.length with hi|hi
 ·rw[dw hi]at hg|-;exact⟨r,hg,.inl rfl⟩
 ·rw[dq hi]at hg|-;simp only[fg,List.getElem?_map]at hg|-;cases hF:F[i-pre.length]? with
  |none=>rw[hF]at hg;cases hg
  |some L=>
   rw[hF]at hg
   exact uR L k g r hg
theorem uS{s:St}{c:Nat}(hs:∀σ σ' pre,AV c σ σ'->s.emb σ pre=s.emb σ' pre){r:A1}(hr:∀σ σ' δ,AV c σ σ'->r.ren σ δ=r.ren σ' δ)(σ σ':Nat->Nat)(δ:Nat)(ha:AV c σ σ'):(CW s r).ren σ δ=(CW s r).ren σ' δ:=by
 unfold CW;split
 ·rename_i r' h;have q1:=LV (σ:=σ) (pre:=bw δ []) h;have q2:=LV (σ:=σ') (pre:=bw δ []) h;rw[hs σ σ' _ ha]at q1;simp only[bb]at q1 q2;rw[hr σ σ' _ ha,q2]at q1;exact(cw.inj q1).symm
 ·exact hr σ σ' δ ha
theorem qH{L:AA}{δ:Nat}(σ σ':Nat->Nat):L.ren σ δ=L.ren σ' δ↔∀p∈L,σ p.2.1=σ' p.2.1/\p.2.2.ren σ δ=p.2.2.ren σ' δ:=by unfold AA.ren;rw[cm];simp only[fh.injEq,true_and]
theorem iM{s:St}{c:Nat}(hs:∀σ σ' pre,AV c σ σ'->s.emb σ pre=s.emb σ' pre){L:AA}(hL:∀σ σ' δ,AV c σ σ'->L.ren σ δ=L.ren σ' δ)(σ σ':Nat->Nat)(δ:Nat)(ha:AV c σ σ'):(AH s L).ren σ δ=(AH s L).ren σ' δ:=by rw[qH];intro p hp;obtain⟨x,hx,rfl⟩:=dk.1 hp;have h1:∀σ σ' δ,AV c σ σ'->σ x.2.1=σ' x.2.1/\x.2.2.ren σ δ=x.2.2.ren σ' δ:=fun σ σ' δ ha=>(qH σ σ').1 (hL σ σ' δ ha) x hx;exact⟨(h1 σ σ' δ ha).1,uS hs (fun σ σ' δ ha=>(h1 σ σ' δ ha).2) σ σ' δ ha⟩
theorem AHK{s:St}{c:Nat}(hs:∀σ σ' pre,AV c σ σ'->s.emb σ pre=s.emb σ' pre):∀L∈s.up,∀σ σ' δ,AV c σ σ'->L.ren σ δ=L.ren σ' δ:=by intro L hL σ σ' δ ha;have:=hs σ σ' (bw δ []) ha;simp only[St.emb,St.mk.injEq,bb]at this;exact cm.1 (db this.1) L hL
theorem iN(s:St)(L:AA){k γ:Nat}{fr:Fr}{ps:List Tmp}{asg body:gw}{N:Nat}{st:LS}(h:(AH s L).get k=some (γ,.loop fr ps asg body N st)):L.get k=some (γ,.loop fr ps asg body N st):=by
 rw[NS]at h;cases hL:L.get k with
 |none=>rw[hL]at h;cases h
 |some p=>
  rw[hL]at h
  simp only[bq,cw.injEq,fh.injEq]at h
  obtain⟨h1,h2⟩:=h
  obtain⟨g,r⟩:=p
  simp only at h1 h2
  subst h1
  congr 2
  cases r with
  |loop=>exact h2
  |box cs=>unfold CW at h2;split at h2<;>rename_i e<;>simp only[CC]at e<;>(try (split at e<;>cases e))<;>cases h2
  |vec T es=>unfold CW at h2;split at h2<;>rename_i e<;>simp only[CC]at e<;>(try (split at e<;>cases e))<;>cases h2
  |map es=>unfold CW at h2;split at h2<;>rename_i e<;>simp only[CC]at e<;>(try (split at e<;>cases e))<;>cases h2
  |dead=>unfold CW at h2;split at h2<;>rename_i e<;>simp only[CC]at e<;>cases e;cases h2
def FX(P:ft)(f:gv)(args:List V)(c:Nat)(up:List AA)(r:V)(c':Nat)(up':List AA):Prop:=c<=c'/\VY c' r/\(∀σ σ' δ,AV c' σ σ'->up'.map (AA.ren σ δ)=up'.map (AA.ren σ' δ))/\up'.length=up.length /\
  (∀L∈up',∀k γ fr ps asg body N st,L.get k=some (γ,.loop fr ps asg body N st)->U8 N ps asg body=true) /\
  ∀(σ:Nat->Nat) (pre:List AA) (s:St) (K:V->St->Prop),s.up++[s.loc]=pre++up.map (AA.ren σ pre.length)->(∀σ' u l,AV c σ σ'->u++[l]=pre++up'.map (AA.ren σ' pre.length)->K (r.ren σ' pre.length) ⟨u,l⟩)->FT P f (args.map (V.ren σ pre.length)) s K
theorem dC(hP:EN P){rec:HC}(hrec:dB P rec){α:Type}{ret:Func->XS->Option α}{f:gv}{args:List V}{c:Nat}{up:List AA}{x:α}(hx:cV P rec ret f args c up=some x)(hargs:∀v∈args,VY c v)
  (hup:∀σ σ' δ,AV c σ σ'->up.map (AA.ren σ δ)=up.map (AA.ren σ' δ)) (hlp:∀L∈up,∀k γ fr ps asg body N st,L.get k=some (γ,.loop fr ps asg body N st)->U8 N ps asg body=true) :
  ∃fn st',ret fn st'=some x/\Bd st'/\c<=st'.c/\st'.s.up.length=up.length/\∀(σ:Nat->Nat) (pre:List AA) (s:St) (K:V->St->Prop),s.up++[s.loc]=pre++up.map (AA.ren σ pre.length) ->
   (∀σ',AV c σ σ'->AUZ P fn.results.toList (s.up.length+1) K .ret (st'.fr.ren σ' pre.length) (st'.s.emb σ' pre))->FT P f (args.map (V.ren σ pre.length)) s K:=by
 unfold cV at hx
 split at hx
 ·rename_i fn hf;split at hx
  ·rename_i code hb;obtain⟨hsz,hx1⟩:=EW hx;have hck:uQ fn=true:=bh.1 hP.all fn (by
    have:=Array.mem_of_getElem? hf;simpa using this)
   simp only[uQ,hb,bx,fc]at hck;have hbd:Bd ⟨c,AF 0 args,⟨up,[]⟩⟩:=⟨fun σ σ' δ ha=>AHJ hargs σ σ' δ ha,fun σ σ' pre ha=>by simp only[St.emb,hup σ σ' _ ha]; rfl,fun l k γ fr ps asg body N st hg=>by
    rw[H0]at hg;split at hg
    ·rename_i L hL;rcases dr.1 (fk hL)with hm|hm
     ·exact hlp L hm _ _ _ _ _ _ _ _ hg
     ·have:L=[]:=by simpa using hm
      subst this;simp at hg
    ·cases hg⟩
   have main:∀e st',rec fn.ntmps code ⟨c,AF 0 args,⟨up,[]⟩⟩=some (e,st')->(e=.ret\/e=.normal)->ret fn st'=some x->∃fn st',ret fn st'=some x/\Bd st'/\c<=st'.c/\st'.s.up.length=up.length/\∀(σ:Nat->Nat) (pre:List AA) (s:St) (K:V->St->Prop),s.up++[s.loc]=pre++up.map (AA.ren σ pre.length) ->
     (∀σ',AV c σ σ'->AUZ P fn.results.toList (s.up.length+1) K .ret (st'.fr.ren σ' pre.length) (st'.s.emb σ' pre))->FT P f (args.map (V.ren σ pre.length)) s K:=by
    intro e st' h1 he h2
    obtain⟨hE,_,hC⟩:=hrec _ _ _ _ _ h1 hbd hck.2
    refine⟨fn,st',h2,hE.bd,hE.c,hE.n,fun σ pre s K hs hk=>?_⟩
    refine A61 hf hb (oV hf hb hck.1) (by simpa using hsz) ?_
    have e1:(⟨s.up++[s.loc],[]⟩:St)=(⟨up,[]⟩:St).emb σ pre:=by simp only[St.emb,hs];rfl
    rw[QM,e1]
    refine hC _ none σ pre _ (.inl rfl) fun σ' ha=>?_
    have:=hk σ' ha
    rcases he with rfl|rfl<;>exact this
   unfold yQ at hx1;split at hx1
   ·rename_i st' h1;exact main _ _ h1 (.inl rfl) hx1
   ·rename_i st' h1;exact main _ _ h1 (.inr rfl) hx1
   ·cases hx1
  ·cases hx
 ·cases hx
theorem qJ(hP:EN P){rec:HC}(hrec:dB P rec){f:gv}{args:List V}{c:Nat}{up:List AA}{r:V}{c':Nat}{up':List AA}(hx:iK P rec f args c up=some (r,c',up'))(hargs:∀v∈args,VY c v)
  (hup:∀σ σ' δ,AV c σ σ'->up.map (AA.ren σ δ)=up.map (AA.ren σ' δ)) (hlp:∀L∈up,∀k γ fr ps asg body N st,L.get k=some (γ,.loop fr ps asg body N st)->U8 N ps asg body=true):FX P f args c up r c' up':=by
 obtain⟨fn,st',hret,hbd,hc,hlen,hA⟩:=dC hP hrec hx hargs hup hlp
 unfold ACK at hret
 split at hret
 ·rename_i r0 hr0;split at hret
  ·rename_i r1 hr1;cases hret;refine⟨hc,AVB hbd hr0 hr1,fun σ σ' δ ha=>?_,by simpa using hlen,fun L hL k γ fr ps asg body N st hg=>?_,fun σ pre s K hs hk=>hA σ pre s K hs fun σ' ha=>?_⟩
   ·simp only[fg];exact bf fun L hL=>iM hbd.s (AHK hbd.s L hL) σ σ' δ ha
   ·obtain⟨L0,hL0,rfl⟩:=dk.1 hL;have hg:=iN _ _ hg;obtain⟨i,hi,rfl⟩:=List.getElem_of_mem hL0;refine hbd.lp i k γ fr ps asg body N st ?_;unfold St.get;rw[if_neg (by omega),List.getElem?_eq_getElem hi];exact hg
   ·have hl2:(st'.s.emb σ' pre).up.length=s.up.length+1:=by have q:=congrArg dz hs;simp only[cg,cp,bp]at q;rw[DK,hlen];omega
    rcases dm (st'.s.emb σ' pre).up with h0|⟨u,l,h0⟩
    ·rw[h0]at hl2;simp at hl2
    ·have h0:(st'.s.emb σ' pre).up=u++[l]:=by simpa using h0
     have hu:u.length+1=s.up.length+1:=by rw[<-hl2,h0];simp
     have hcl:=PR 4 (KO (σ:=σ') (pre:=pre) 4 hr1);have hres:=PS (σ:=σ') (pre:=pre) hr0;rcases dm (pre++(st'.s.up.map (AH st'.s)).map (AA.ren σ' pre.length))with h3|⟨u2,l2,h3⟩
     ·have h4:=congrArg dz h3;have h5:=congrArg dz h0;simp only[St.emb,cg,bp,List.length_nil,cp]at h4 h5;omega
     ·have h3:pre++(st'.s.up.map (AH st'.s)).map (AA.ren σ' pre.length)=u2++[l2]:=by simpa using h3
      have hK:=hk σ' u2 l2 ha h3.symm;have hS:=iL (s:=st'.s) (F:=st'.s.up) (u:=u) (l:=l) (u2:=u2) (l2:=l2) (σ:=σ') (pre:=pre) h0.symm h3.symm;exact⟨u,l,_,h0,hu,hres,.inl ⟨_,_,by rw[hcl];exact Wk.refl _,hS,hK⟩⟩
  ·cases hret
 ·cases hret
theorem W3{c:Nat}{args:List V}(h:args.all (AG 9)=true):∀v∈args,VY c v:=fun v hv σ σ' δ _=>by rw[E1 9 v (bh.1 h v hv),E1 9 v (bh.1 h v hv)]
theorem dD(hP:EN P){rec:HC}(hrec:dB P rec):HX P (E2 P rec):=by
 intro f args r hx;unfold E2 at hx;obtain⟨hcl,hx1⟩:=EW hx;split at hx1
 ·rename_i r0 c' up' h1;obtain⟨hr,rfl⟩:=KA hx1;obtain⟨_,_,_,hlen,_,hA⟩:=qJ hP hrec h1 (W3 hcl) (fun _ _ _ _=>rfl) (fun L hL=>by cases hL);have hargs:∀v∈args,∀σ δ,V.ren σ δ v=v:=fun v hv σ δ=>E1 9 v (bh.1 hcl v hv);have hup:up'=[]:=ct hlen;refine⟨fun s=>?_,hargs,fun σ δ=>E1 9 _ hr⟩;have:=hA id (s.up++[s.loc]) s (fun r' s'=>r'=r0/\s'=s) (by simp) fun σ' u l _ hu=>?_
  ·have e:args.map (V.ren id (s.up++[s.loc]).length)=args:=by
    conv=>rhs;rw[<-cn args]
    exact bf fun v hv=>hargs v hv _ _
   rw[e]at this;exact this
  ·rw[hup]at hu;simp only[dj,List.append_nil]at hu;obtain⟨e1,e2⟩:=df hu rfl;refine⟨E1 9 _ hr,?_⟩;subst e1;simp only[List.cons.injEq,and_true]at e2;subst e2;rfl
 ·cases hx1
theorem dE(hP:EN P){kn:CF0}(hkn:HX P kn){rec:HC}(hrec:dB P rec):HX P (AY P kn rec):=by
 intro f args r hx;unfold AY at hx;split at hx
 ·rename_i r0 h0;cases hx;exact hkn _ _ _ h0
 ·exact dD hP hrec _ _ _ hx
theorem dF(hP:EN P){kn:CF0}(hkn:HX P kn){rec:HC}(hrec:dB P rec):HX P (FZ P kn rec):=by
 intro f args r hx;unfold FZ at hx;split at hx
 ·rename_i r0 h0;cases hcl:args.all (AG 9)with
  |false=>rw[hcl]at hx;exact dE hP hkn hrec _ _ _ hx
  |true=>
   rw[hcl]at hx
   cases hx
   obtain⟨hA,_,h2⟩:=dE hP hkn hrec _ _ _ h0
   exact⟨fun s=>⟨(hA s).1,fun G vals w R hI ha hR=>(hA s).2 G vals w R hI ha.weakN hR⟩,fun v hv σ δ=>E1 9 v (bh.1 hcl v hv),h2⟩
 ·exact dE hP hkn hrec _ _ _ hx
theorem handed(hP:EN P){rec:HC}(hrec:dB P rec){f:gv}{args:List V}{ret:Func->XS->Option Mk}{r:Mk}{d:Tmp}(hcl:args.all (AG 9)=true)(hx:cV P rec ret f args 0 []=some r)
  (hr:∀(fn:Func) (st':XS),ret fn st'=some r->st'.s.up=[]->∀(s:St) (σ':Nat->Nat),∃r0,GD P fn.results.toList (st'.fr.ren σ' (s.up++[s.loc]).length) (st'.s.emb σ' (s.up++[s.loc]))=some r0 /\
   ((∃k γ T es,(st'.s.emb σ' (s.up++[s.loc])).loc.get k=some (γ,.vec T es)/\mvV (s.up.length+1) k s.up.length d 4 r0=r.val s.up.length d γ/\r.res=.vec T es)\/(∃T,bE r0=true/\r=⟨.vec T [],none⟩)))
  (s:St):FT P f args s fun v s'=>∃γ,v=r.val s.up.length d γ/\s'=s.put s.up.length d γ r.res:=by
 obtain⟨fn,st',hret,hbd,hc,hlen,hA⟩:=dC hP hrec hx (W3 hcl) (fun _ _ _ _=>rfl) (fun L hL=>by cases hL)
 have hargs:∀v∈args,∀σ δ,V.ren σ δ v=v:=fun v hv σ δ=>E1 9 v (bh.1 hcl v hv)
 have hup:st'.s.up=[]:=ct hlen
 have:=hA id (s.up++[s.loc]) s (fun v s'=>∃γ,v=r.val s.up.length d γ/\s'=s.put s.up.length d γ r.res) (by simp) fun σ' _=>?_
 ·have e:args.map (V.ren id (s.up++[s.loc]).length)=args:=by
   conv=>rhs;rw[<-cn args]
   exact bf fun v hv=>hargs v hv _ _
  rw[e]at this;exact this
 ·obtain⟨r0,h1,h2⟩:=hr fn st' hret hup s σ';refine⟨s.up,s.loc,r0,by simp[St.emb,hup],rfl,h1,.inr ?_⟩;rcases h2 with⟨k,γ,T,es,h3,h4,h5⟩|⟨T,h3,h4⟩
  ·exact .inl ⟨k,γ,T,es,d,h3,γ,h4,by rw[h5]⟩
  ·subst h4;exact .inr ⟨d,T,h3,fun γ=>⟨γ,rfl,rfl⟩⟩
theorem ACL(hP:EN P){rec:HC}(hrec:dB P rec){f:gv}{args:List V}{r:Mk}{d:Tmp}(hx:uP P rec f args=some r) :
  (∀(s:St),FT P f args s fun v s'=>∃γ,v=r.val s.up.length d γ/\s'=s.put s.up.length d γ r.res)/\(∀v∈args,∀σ δ,v.ren σ δ=v)/\(∀σ δ,r.res.ren σ δ=r.res)/\fL r.res=true:=by
 unfold uP at hx
 obtain⟨hcl,hx1⟩:=EW hx
 have hargs:∀v∈args,∀σ δ,V.ren σ δ v=v:=fun v hv σ δ=>E1 9 v (bh.1 hcl v hv)
 have main:∀(fn:Func) (st':XS),AVA P fn st'=some r->((∀σ δ,r.res.ren σ δ=r.res)/\fL r.res=true)/\(st'.s.up=[]->∀(s:St) (σ':Nat->Nat),∃r0,GD P fn.results.toList (st'.fr.ren σ' (s.up++[s.loc]).length) (st'.s.emb σ' (s.up++[s.loc]))=some r0 /\
   ((∃k γ T es,(st'.s.emb σ' (s.up++[s.loc])).loc.get k=some (γ,.vec T es)/\mvV (s.up.length+1) k s.up.length d 4 r0=r.val s.up.length d γ/\r.res=.vec T es)\/(∃T,bE r0=true/\r=⟨.vec T [],none⟩))):=by
  intro fn st' hret
  unfold AVA at hret
  split at hret
  ·rename_i l k γ n hres;obtain⟨hl,hret⟩:=EW hret;have hl:=bj hl;split at hret
   ·rename_i γ' T es hget;obtain⟨hc2,he⟩:=KA hret;cases he;simp only[bx]at hc2;obtain⟨⟨h1,h2⟩,h3⟩:=hc2;have h1:=bj h1;have h2:=bj h2;subst h1;subst h2;have hes:∀σ δ,es.map (cj (V.ren σ δ))=es:=fun σ δ=>by
     conv=>rhs;rw[<-cn es]
     exact bf fun e he=>NY (fun v=>E1 9 v) (bh.1 h3 e he)
    refine⟨⟨fun σ δ=>by simp only[A1.ren,hes],rfl⟩,fun hup s σ'=>⟨_,PS hres,.inl ⟨k,σ' γ',T,es,?_,?_,rfl⟩⟩⟩
    ·rw[LD,hget];simp only[bq,A1.ren,hes]
    ·rw[hup]at hl;subst hl;simp[mvV,Mk.val,HP]
   ·cases hret
  ·rename_i v hnv hres;obtain⟨hn,hret⟩:=EW hret;split at hret
   ·split at hret
    ·rename_i T _;cases hret;exact⟨⟨fun _ _=>rfl,rfl⟩,fun hup s σ'=>⟨_,PS hres,.inr ⟨_,by rw[AG8];exact hn,rfl⟩⟩⟩
    ·cases hret
   ·cases hret
  ·cases hret
 obtain⟨fn,st',hret,_⟩:=dC hP hrec hx1 (W3 hcl) (fun _ _ _ _=>rfl) (fun L hL=>by cases hL)
 exact⟨handed hP hrec hcl hx1 fun fn st' h=>(main fn st' h).2,hargs,(main fn st' hret).1⟩
theorem C0.nought{G:Gh}{s:St}{w:World}(hI:C0 G s w)(d γ:Nat):C0 G (s.put s.up.length d γ .dead) w:=by
 have look:∀{l k x},(s.put s.up.length d γ .dead).get l k=some x->x=(γ,.dead)\/s.get l k=some x:=fun {l k x} h=>by
  rw[St.get_putLoc]at h;split at h
  ·exact .inl (cw.inj h).symm
  ·exact .inr h
 refine⟨hI.sl,fun l k g r h=>?_,fun l k g r l' k' g' r' b h1 h2 h3 h4=>?_,fun l k g r b h1 h2=>?_,hI.fresh,hI.env⟩
 ·rcases look h with e|e
  ·cases e;trivial
  ·exact hI.res _ _ _ _ e
 ·rcases look h1 with e|e1
  ·cases e;cases h3
  ·rcases look h2 with e|e2
   ·cases e;cases h4
   ·exact hI.sep _ _ _ _ _ _ _ _ _ e1 e2 h3 h4
 ·rcases look h1 with e|e
  ·cases e;cases h2
  ·exact hI.out _ _ _ _ _ e h2
theorem AHL(hP:EN P){kn:CF0}(hkn:HX P kn){ko:CFO}(hko:uL P ko){rec:HC}(hrec:dB P rec):uL P (cX P kn ko rec):=by
 intro f args d r hx;unfold cX at hx;split at hx
 ·rename_i r0 h0;cases hx;exact hko _ _ _ _ h0
 ·cases hs:LZ P f with
  |true=>
   rw[hs]at hx
   exact ACL hP hrec hx
  |false=>
   rw[hs]at hx
   have hx:(match FZ P kn rec f args with
    |some r=>some (⟨.dead,some r⟩:Mk)
    | none=>none)=some r:=hx
   split at hx
   ·rename_i r0 h0;cases hx;obtain⟨hA,h1,h2⟩:=dF hP hkn hrec _ _ _ h0;refine⟨fun s=>⟨(hA s).1,fun G vals w R hI ha hR=>(hA s).2 G vals w R hI ha fun G' v u w' s' hle hI' hv hlen hk=>?_⟩,h1,fun _ _=>rfl,rfl⟩;obtain⟨rfl,rfl⟩:=hk;exact hR G' _ u w' (s'.put s'.up.length d 0 .dead) hle (hI'.nought d 0) hv (St.put_len _ _ _ _ _) ⟨0,(h2 _ _).symm,rfl⟩
   ·cases hx
theorem AHM(hP:EN P){kn:CF0}(hkn:HX P kn){rec:HC}(hrec:dB P rec):iG P (cW P kn rec):=by
 intro f args st r st' hx hbd hargs;unfold cW at hx;cases hcl:(args.all (AG 9)&&!(BI P f))with
 |true=>
  rw[hcl]at hx
  have hx:(match FZ P kn rec f args with|some r=>some (r,st)|none=>none)=some (r,st'):=hx
  split at hx
  ·rename_i r0 h0;cases hx;obtain⟨hA,h1,h2⟩:=dF hP hkn hrec _ _ _ h0;refine⟨⟨bn _,hbd,rfl⟩,fun σ σ' δ _=>by rw[h2,h2],rfl,fun σ pre K hk=>?_⟩;have e:args.map (V.ren σ pre.length)=args:=by
    conv=>rhs;rw[<-cn args]
    exact bf fun v hv=>h1 v hv _ _
   rw[e];refine(hA (st.s.emb σ pre)).mono fun r' s' q5=>?_;obtain⟨rfl,rfl⟩:=q5;have:=hk σ (AV.refl _ _);rwa [h2]at this
  ·cases hx
 |false=>
  rw[hcl]at hx
  have hx:(match iK P rec f args st.c (st.s.up++[st.s.loc])with
   |some (r,c,up)=>match CJ up with
    |some (u,l)=>some (r,(⟨c,st.fr,⟨u,l⟩⟩:XS))
    |none=>none
   | none=>none)=some (r,st'):=hx
  split at hx
  ·rename_i r0 c0 up0 h1;split at hx
   ·rename_i u l hu;cases hx;have hup0:=PU hu;have hsb:∀σ σ' δ,AV st.c σ σ'->(st.s.up++[st.s.loc]).map (AA.ren σ δ)=(st.s.up++[st.s.loc]).map (AA.ren σ' δ):=by intro σ σ' δ ha;have:=hbd.s σ σ' (bw δ []) ha;simp only[St.emb,St.mk.injEq,bb]at this;simp only[bc,dv,dj];rw[db this.1,this.2]
    have hlp:∀L∈st.s.up++[st.s.loc],∀k γ fr ps asg body N st,L.get k=some (γ,.loop fr ps asg body N st)->U8 N ps asg body=true:=by intro L hL k γ fr ps asg body N ls hg;obtain⟨i,hi⟩:=List.getElem?_of_mem hL;refine hbd.lp i k γ fr ps asg body N ls ?_;have:=H0 st.s.up st.s.loc i k;rw[hi]at this;exact this.trans hg
    obtain⟨hc,hrb,hub,hlen,hlp',hA⟩:=qJ hP hrec h1 hargs hsb hlp;subst hup0;refine⟨⟨hc,⟨fun σ σ' δ ha=>hbd.f σ σ' δ (ha.mono hc),fun σ σ' pre ha=>?_,fun i k γ fr ps asg body N ls hg=>?_⟩,?_⟩,hrb,rfl,fun σ pre K hk=>?_⟩
    ·have:=hub σ σ' pre.length ha;simp only[bc,dv,dj]at this;obtain⟨e1,e2⟩:=df this rfl;simp only[List.cons.injEq,and_true]at e2;simp only[St.emb,e1,e2]
    ·rw[H0]at hg;split at hg
     ·rename_i L hL;exact hlp' L (fk hL) _ _ _ _ _ _ _ _ hg
     ·cases hg
    ·simp only[cg,cp]at hlen;simp only;omega
    ·refine hA σ pre (st.s.emb σ pre) K (by simp[St.emb]) fun σ' u' l' ha hu'=>?_;have:=hk σ' ha;simp only[bc,dv,dj,<-List.append_assoc]at hu';obtain⟨e1,e2⟩:=df hu' rfl;simp only[List.cons.injEq,and_true]at e2;subst e1;subst e2;exact this
   ·cases hx
  ·cases hx
end Go.Pg
