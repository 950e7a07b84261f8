/- Running a Go function upon abstract values, by computing: one operation, and that it is what the walk asks. No program in sight. -/
import Derived.Test.YthhdhbalenanjaaGreatP5
noncomputable section
open Go renaming Oper->ft,Program->gk,Operand->gq,TypeId->gv,FuncId->gw,Code->gx
open Nat renaming eq_of_beq_eq_true->bj,beq->bz,lt_succ_self->bn,le_refl->bp,le_succ->cw,blt->cz,ble_eq->cd,blt_eq->cg,le_trans->dh,ble->dp,lt_of_lt_of_le->fw
open Option renaming bind_eq_some_iff->bk,map_some->bq,bind_some->bh,some->cx
open List renaming replicate->bw,length_replicate->bc,map_append->bf,map_congr_left->bg,all_eq_true->bm,length_map->cj,map->ck,map_take->cq,length_append->cm,map_inj_left->cn,map_id->cp,length_singleton->ct,eq_nil_of_length_eq_zero->dj,map_nil->dk,mem_map->dq,getElem?_append_right->dv,map_cons->dw,getElem?_append_left->dx,map_replicate->dz,length->db,append_cancel_left->dc,map_flatten->df,append_inj'->dg,mem_append_right->dl,getElem?_eq_none->dm,eq_nil_or_concat->dn,getElem?_mapIdx->dr,mem_append->dt,mem_append_left->fk,mem_of_getElem?->fq,all_map->fx,length_mapIdx->fc,map_map->fh
open Bool renaming and_eq_true->bx,or_eq_false_iff->fj,not_eq_true'->fg
open Prod renaming mk->fp
namespace Go.Pg
variable {P:gk}{Ω:HX P}{σ σ':Nat->Nat}{δ:Nat}{pre:List AA}{s:St}{fr:Fr}{g:Bool}
def LP(all:List ft)(o:ft):Option (Tmp×Bool):=match o.guard with
 |none=>none
 |some (j,w)=>match all[j]? with
  |some p=>match p.dst with
   |some d=>some (d,w)
   |none=>none
  |none=>none
def uP(all:List ft):Bool:=all.all fun o=>HU all o (LP all o)
theorem gX{all:List ft}:∀{l:List ft},(∀o∈l,HU all o (LP all o)=true)->J5 all (l.map (LP all)) l=true
 |[],_=>rfl
 |o::l,h=>by simp only[dw,J5,bx];exact⟨h o (by simp),gX fun p hp=>h p (by simp[hp])⟩
theorem TW{all:List ft}(h:uP all=true):∀o∈all,HU all o (LP all o)=true:=fun o ho=>bm.1 h o ho
def A3L(d:Tmp)(p:ft):Bool:=match p.op with
 |.call { callee:=.builtin .append,args,.. }=>match args.toList with
  |.tmp t::_=>bz t d
  |_=>false
 |.call { callee:=.value (.func _),args,argTypes }=>match args.toList,argTypes.toList with
  |[.tmp t,_],[T,U]=>bz t d&&bz T p.type&&!(bz U T)
  |_,_=>false
 |_=>false
def AQ7(d:Tmp)(p:ft):Bool:=match p.op with
 |.store _ _ (.tmp t)=>bz t d
 |_=>false
def DV(l:List ft)(o:ft):Bool:=match o.op,o.dst with
 |.call { callee:=.value _,.. },some d=>l.any fun p=>A3L d p||AQ7 d p
 |_,_=>false
def kS(o:ft):Bool:=match o.op with
 |.mapUpdate ..|.insert ..=>true
 |.call { callee:=.builtin b,.. }=>match b with
  |.len|.max|.min|.cap|.append=>false
  |_=>true
 |_=>false
def kC(o:ft):Bool:=match o.op with
 |.call { callee:=.value _,.. }=>true
 |_=>false
def onB(o:ft)(A:List Nat):Bool:=o.after.any fun e=>Region.binds .any e&&A.contains e.on
def A3M(o:ft)(l:List ft)(A:List Nat):Bool:=kW o&&l.isEmpty&&A.all fun j=>o.after.any fun e=>Region.binds .any e&&bz e.on j
def A3N(o:ft)(i:Nat):List Nat->List Nat
 |[]=>[i]
 |a::A=>cond (onB o [a]) (i::a::A) (a::A3N o i A)
def KT(own:ft->Bool):List ft->Nat->List Nat->List Nat->List Nat->List Nat->List Nat->List Nat->List Nat×List Nat
 |[],_,R,Q,A,S,R2,T=>(R.reverse++Q.reverse++A.reverse++S.reverse++R2.reverse,T.reverse)
 |o::l,i,R,Q,A,S,R2,T=>
  cond (onB o T||kS o||A3M o l (R++Q++A++S++R2++T)||(kC o&&(onB o (Q++S++R2)||(!(own o)&&onB o A)))) (KT own l (i+1) R Q A S R2 (i::T))
   (cond (kP o) (cond (onB o (A++S++R2)) (KT own l (i+1) R Q A S (i :: R2) T) (KT own l (i+1) R (i :: Q) A S R2 T))
   (cond (kW o) (cond (onB o R2) (KT own l (i+1) R Q A S (i :: R2) T) (KT own l (i+1) R Q A (i :: S) R2 T))
    (cond (onB o (Q++S++R2)||(cond (kA own o) (!R2.isEmpty) (onB o (A.take 1)))) (KT own l (i+1) R Q A S (i :: R2) T)
     (cond (kA own o) (KT own l (i+1) R Q (i :: A) S R2 T) (cond (onB o A) (KT own l (i+1) R Q (A3N o i A) S R2 T) (KT own l (i+1) (i :: R) Q A S R2 T))))))
def ANB(af:Nat):List (Nat×Nat)->Nat->Nat
 |[],m=>m
 |p::r,m=>HY (cond (VC af p.1) (Nat.lor m (Nat.lor p.2 (Nat.shiftLeft 1 p.1))) m) (ANB af r)
def A3O:List (Nat×Nat)->List (Nat×Nat)->List (Nat×Nat)
 |[],acc=>acc
 |p::r,acc=>HY (ANB p.2 acc 0) fun m=>A3O r ((p.1,m)::acc)
def AQ8(l:List ft):List Nat:=((A3O (afL l 0) []).filterMap fun p=>cond (bz p.2 (Nat.sub (Nat.pow 2 p.1) 1)) (match l[p.1]? with
 |some o=>cond (kC o&&bz (LC p.1 (afL l 0) 0) (Nat.sub (Nat.pow 2 l.length) (Nat.pow 2 (p.1+1)))) (some p.1) none
 | none=>none) none).reverse
def ANC(own:ft->Bool)(l:List ft):Nat->List Nat->XB
 |i,[]=>[KT own (l.drop i) i [] [] [] [] [] []]
 |i,c::cs=>match KT own ((l.drop i).take (c-i)) i [] [] [] [] [] []with
  |(R,T)=>(R,T++[c])::ANC own l (c+1) cs
def cX(l:List ft):XB:=ANC (DV l) l 0 (AQ8 l)
def AQ9(l:List ft):List Nat:=l.filterMap fun o=>cond (kA (DV l) o) o.dst none
def GY:gx->Bool
 |.seq a b=>GY a&&GY b
 |.cond _ a b=>GY a&&GY b
 |.block _ c=>GY c
 |.loop c=>GY c
 |.scope _=>false
 |.rangeFunc ..=>false
 |_=>true
def E4(N:Nat):gx->Bool
 |.region _ ops draw=>cond draw (OX (DV ops.toList) N (ops.toList.map (LP ops.toList)) (cX ops.toList) ops.toList) (MG N ops.toList&&uP ops.toList)
 |.seq a b=>E4 N a&&E4 N b
 |.cond _ a b=>E4 N a&&E4 N b
 |.block _ c=>E4 N c
 |.loop c=>E4 N c
 |.scope c=>E4 N c
 |.rangeFunc _ ps asg body=>ps.toList.all (fun p=>cz p N)&&GY asg&&GY body&&E4 N asg&&E4 N body
 |_=>true
def TX(N:Nat)(ps:List Tmp)(asg body:gx):Bool:=ps.all (fun p=>cz p N)&&GY asg&&GY body&&E4 N asg&&E4 N body
def TY(s:St):Prop:=∀l k γ fr ps asg body N st,s.get l k=some (γ,.loop fr ps asg body N st)->TX N ps asg body=true
theorem qE{s:St}{l k γ:Nat}{r:AX}{l' k':Nat}{x:Nat×AX}(h:(s.put l k γ r).get l' k'=some x):x=(γ,r)\/s.get l' k'=some x:=by
 unfold St.put at h;unfold St.get at h|-;by_cases e1:l=s.up.length
 ·rw[if_pos e1]at h;by_cases e2:l'=s.up.length
  ·rw[if_pos e2]at h|-;rw[AA.get_put]at h;split at h
   ·exact .inl (cx.inj h).symm
   ·exact .inr h
  ·rw[if_neg e2]at h|-;exact .inr h
 ·rw[if_neg e1]at h;have hl:({ s with up:=s.up.modify l (fun L=>L.put k γ r) }:St).up.length=s.up.length:=by simp
  rw[hl]at h;by_cases e2:l'=s.up.length
  ·rw[if_pos e2]at h|-;exact .inr h
  ·rw[if_neg e2]at h|-;rw[List.getElem?_modify]at h;cases hu:s.up[l']? with
   |none=>simp[hu]at h
   |some L=>
    rw[hu]at h
    simp only[Option.map_eq_map,bq]at h
    by_cases e3:l=l'
    ·simp only[e3,if_true,AA.get_put]at h;split at h
     ·exact .inl (cx.inj h).symm
     ·exact .inr h
    ·simp only[e3,if_false]at h;exact .inr h
theorem TY.put{s:St}(h:TY s){l k γ:Nat}{r:AX}(hr:∀fr ps asg body N st,r=.loop fr ps asg body N st->TX N ps asg body=true):TY (s.put l k γ r):=by
 intro l' k' γ' fr ps asg body N st hg;rcases qE hg with e|e
 ·cases e;exact hr _ _ _ _ _ _ rfl
 ·exact h _ _ _ _ _ _ _ _ _ e
structure XS where
 c:Nat
 fr:Fr
 s:St
def BS(fr:Fr)(k:Nat):Option (Bool×V):=List.rec (motive:=fun _=>Option (Bool×V)) none (fun x _ ih=>Bool.rec ih (some x.2) (bz k x.1)) fr
theorem FM:∀(fr:Fr) (k:Nat),BS fr k=fr.get k
 |[],_=>rfl
 |(j,x)::fr,k=>by
  show(Bool.rec (BS fr k) (some x) (bz k j):Option (Bool×V))=if k=j then some x else Fr.get fr k
  by_cases h:k=j
  ·subst h;rw[if_pos rfl,Nat.beq_refl]
  ·rw[if_neg h,<-FM fr k];have:bz k j=false:=by
    cases hb:bz k j with
    |false=>rfl
    |true=>exact absurd (bj hb) h
   rw[this]
def CI(fr:Fr)(x:gq):Option V:=match x with
 |.tmp t=>match BS fr t with
  |some (true,v)=>some v
  |_=>none
 |.const v=>CP v
 |.func f=>some (.fn f [] [])
 |.global _=>none
theorem D8(x:gq):CI fr x=D5 true fr x:=by
 cases x with
 |tmp t=>
  simp only[CI,D5,rd,FM]
  cases fr.get t with
  |none=>rfl
  |some p=>
   obtain⟨c,v⟩:=p
   cases c<;>rfl
 |const v=>
  simp only[CI,D5,rd]
  cases CP v<;>rfl
 |func f=>rfl
 |global g=>rfl
theorem FN:CI fr=D5 true fr:=funext fun x=>D8 x
def AQ(c:Nat)(σ σ':Nat->Nat):Prop:=∀i,i<c->σ i=σ' i
theorem AQ.refl(c:Nat)(σ:Nat->Nat):AQ c σ σ:=fun _ _=>rfl
theorem AQ.trans{c c':Nat}{σ σ' σ'':Nat->Nat}(h:AQ c σ σ')(h':AQ c' σ' σ'')(hc:c<=c'):AQ c σ σ'':=fun i hi=>(h i hi).trans (h' i (fw hi hc))
theorem AQ.mono{c c':Nat}(h:AQ c' σ σ')(hc:c<=c'):AQ c σ σ':=fun i hi=>h i (fw hi hc)
theorem AQ.upd(c γ:Nat)(σ:Nat->Nat):AQ c σ (fun i=>if i=c then γ else σ i):=fun i hi=>by simp[Nat.ne_of_lt hi]
structure Bd(st:XS):Prop where
 f:∀σ σ' δ,AQ st.c σ σ'->st.fr.ren σ δ=st.fr.ren σ' δ
 s:∀σ σ' pre,AQ st.c σ σ'->st.s.emb σ pre=st.s.emb σ' pre
 lp:TY st.s
def UL(c:Nat)(v:V):Prop:=∀σ σ' δ,AQ c σ σ'->v.ren σ δ=v.ren σ' δ
structure K6(st st':XS):Prop where
 c:st.c<=st'.c
 bd:Bd st'
 n:st'.s.up.length=st.s.up.length
def StepX(P:gk)(o:ft)(st st':XS):Prop:=K6 st st'/\∀(σ:Nat->Nat) (pre:List AA) (k:Fr->St->Prop),(∀σ',AQ st.c σ σ'->k (st'.fr.ren σ' pre.length) (st'.s.emb σ' pre))->EQ P true o (st.fr.ren σ pre.length) (st.s.emb σ pre) k
theorem F2(d:Option Tmp)(c:Bool)(v:V):(putD fr d c v).ren σ δ=putD (fr.ren σ δ) d c (v.ren σ δ):=by cases d<;>rfl
theorem H3(d:Nat)(c:Bool)(v:V):(fr.put d c v).ren σ δ=(fr.ren σ δ).put d c (v.ren σ δ):=rfl
theorem UL.mono{c c':Nat}{v:V}(h:UL c v)(hc:c<=c'):UL c' v:=fun σ σ' δ ha=>h σ σ' δ (ha.mono hc)
theorem Bd.val{st:XS}(h:Bd st){o:ft}{v:V}(hv:F1 P g o st.fr st.s=some v):UL st.c v:=by intro σ σ' δ ha;have h1:=JO (σ:=σ) (pre:=bw δ []) hv;have h2:=JO (σ:=σ') (pre:=bw δ []) hv;rw[h.f σ σ' _ ha,h.s σ σ' _ ha,h2]at h1;have:=cx.inj h1;rw[bc]at this;exact this.symm
theorem Bd.rd{st:XS}(h:Bd st){x:gq}{v:V}(hv:CI st.fr x=some v):UL st.c v:=by intro σ σ' δ ha;rw[D8]at hv;have h1:=DR (g:=true) (fr:=st.fr) (σ:=σ) (δ:=δ) x;have h2:=DR (g:=true) (fr:=st.fr) (σ:=σ') (δ:=δ) x;rw[h.f σ σ' _ ha,h2,hv]at h1;simpa using h1.symm
theorem Bd.putF{st:XS}(h:Bd st){d:Option Tmp}{c:Bool}{v:V}(hv:UL st.c v):Bd { st with fr:=putD st.fr d c v } :=
 ⟨fun σ σ' δ ha=>by simp only[F2];rw[h.f σ σ' δ ha,hv σ σ' δ ha],h.s,h.lp⟩
def cA:AX->Bool
 |.loop ..=>false
 |_=>true
theorem VI{r:AX}(h:cA r=true):∀fr ps asg body N st,r=.loop fr ps asg body N st->TX N ps asg body=true:=by intro fr ps asg body N st e;subst e;cases h
theorem Bd.putS{st:XS}(h:Bd st){l k γ:Nat}{r:AX}(hγ:γ<st.c)(hr:∀σ σ' δ,AQ st.c σ σ'->r.ren σ δ=r.ren σ' δ)(hp:cA r=true:=by rfl):Bd { st with s:=st.s.put l k γ r } :=
 ⟨h.f,fun σ σ' pre ha=>by simp only[CS];rw[h.s σ σ' pre ha,hr σ σ' _ ha,ha γ hγ],h.lp.put (VI hp)⟩
theorem yT{o:ft}{st:XS}{v:V}(h:Bd st)(hv:F1 P true o st.fr st.s=some v):StepX P o st { st with fr:=putD st.fr o.dst true v }:=by refine⟨⟨bp _,h.putF (h.val hv),rfl⟩,fun σ pre k hk=>DU (Ω:=HX.nothing P) (.inl ⟨_,JO hv,?_⟩)⟩;have:=hk σ (AQ.refl _ _);rwa [F2]at this
theorem aA{c:Nat}{v:V}(h:UL c v)(σ σ':Nat->Nat)(δ:Nat)(ha:AQ c σ σ'):(A7 v).map (V.ren σ δ)=(A7 v).map (V.ren σ' δ):=by rw[<-EX,<-EX,h σ σ' δ ha]
def gY(P:gk)(Ω:HX P)(o:ft)(st st':XS):Prop:=K6 st st'/\∃d,o.dst=some d/\∀(σ:Nat->Nat) (pre:List AA) (k:Fr->St->Prop),(∀σ',AQ st.c σ σ'->k (st'.fr.ren σ' pre.length) (st'.s.emb σ' pre)) ->
 ∃r,QI P Ω o (st.fr.ren σ pre.length)=some r/\∀γ,k ((st.fr.ren σ pre.length).put d true (r.val (st.s.emb σ pre).up.length d γ)) ((st.s.emb σ pre).put (st.s.emb σ pre).up.length d γ r.res)
theorem gY.step{o:ft}{st st':XS}(h:gY P Ω o st st'):StepX P o st st':=by obtain⟨h1,d,hd,h2⟩:=h;refine⟨h1,fun σ pre k hk=>?_⟩;obtain⟨r,hr,h3⟩:=h2 σ pre k hk;exact DU (Ω:=Ω) (.inr (.inr ⟨r,d,rfl,hd,hr,h3⟩))
theorem eI{o:ft}{st:XS}{d:Nat}{cs:List V}(h:Bd st)(hd:o.dst=some d)(hcs:∀σ σ' δ,AQ st.c σ σ'->cs.map (V.ren σ δ)=cs.map (V.ren σ' δ))
  (hn:∀σ pre,QI P Ω o (st.fr.ren σ (db (α:=AA) pre))=some ⟨.box (cs.map (V.ren σ pre.length)),none⟩) :
  gY P Ω o st ⟨st.c+1,st.fr.put d true (.ptr st.s.up.length d st.c 0),st.s.put st.s.up.length d st.c (.box cs)⟩:=by
 have hb:∀σ σ',AQ (st.c+1) σ σ'->AQ st.c σ σ':=fun σ σ' ha=>ha.mono (cw _)
 refine⟨⟨cw _,⟨fun σ σ' δ ha=>?_,fun σ σ' pre ha=>?_,h.lp.put (VI rfl)⟩,St.put_len _ _ _ _ _⟩,d,hd,fun σ pre k hk=>⟨_,hn σ pre,fun γ=>?_⟩⟩
 ·simp only[H3,H1];rw[h.f σ σ' δ (hb _ _ ha),ha st.c (bn _)]
 ·simp only[CS,AX.ren];rw[h.s σ σ' pre (hb _ _ ha),hcs σ σ' _ (hb _ _ ha),ha st.c (bn _)]
 ·have:=hk (fun i=>if i=st.c then γ else σ i) (AQ.upd _ _ _);have ha:=AQ.upd st.c γ σ;simp only[H3,H1,if_true,CS,AX.ren]at this;rw[<-h.f _ _ _ ha,<-h.s _ _ _ ha,<-hcs _ _ _ ha]at this;rw[DI];exact this
def O2(P:gk)(d:Option Tmp)(T:gv)(st:XS):Option XS:=match d,B9 P T with
 |some d,some cs=>some ⟨st.c+1,(d,true,.ptr st.s.up.length d st.c 0)::st.fr,st.s.put st.s.up.length d st.c (.box cs)⟩
 |_,_=>none
def mH(d:Option Tmp)(x:gq)(st:XS):Option XS:=match d,CI st.fr x with
 |some d,some v=>Bool.rec none (some ⟨st.c+1,(d,true,.ptr st.s.up.length d st.c 0)::st.fr,st.s.put st.s.up.length d st.c (.box (A7 v))⟩) (BD v)
 |_,_=>none
theorem eJ{o:ft}{T:gv}{st st':XS}(h:Bd st)(ho:o.op=.alloc T)(hx:O2 P o.dst T st=some st'):gY P Ω o st st':=by
 unfold O2 at hx;split at hx
 ·rename_i d cs hd hz;cases hx;refine eI h hd (fun σ σ' δ _=>by rw[HJ hz,HJ hz]) fun σ pre=>?_;simp[QI,ho,hz,HJ hz]
 ·cases hx
theorem uQ{o:ft}{T:gv}{x:gq}{st st':XS}(h:Bd st)(ho:o.op=.box T x)(hx:mH o.dst x st=some st'):gY P Ω o st st':=by
 unfold mH at hx;split at hx
 ·rename_i d v hd hv;cases hf:BD v with
  |false=>rw[hf]at hx;cases hx
  |true=>
   rw[hf]at hx
   cases hx
   refine eI h hd (fun σ σ' δ ha=>aA (h.rd hv) σ σ' δ ha) fun σ pre=>?_
   rw[D8]at hv
   simp[QI,ho,DR,hv,I5,hf,EX]
 ·cases hx
def WX(P:gk)(d:Option Tmp)(T:gv)(x y:gq)(st:XS):Option XS:=match d,BO P T with
 |some d,some (none,e)=>match CI st.fr x,CI st.fr y with
  |some (.int _ n),some (.int _ m)=>match B9 P e with
   |some z=>if 0<=n/\m=n/\z.length=P.cellsOf e/\n.toNat*P.bytesOf e<=140737488355328/\n.toNat<=maxLen then
     some ⟨st.c+1,(d,true,.vec st.s.up.length d st.c n.toNat)::st.fr,st.s.put st.s.up.length d st.c (.vec e (bw n.toNat z))⟩ else none
   |none=>none
  |_,_=>none
 |_,_=>none
theorem mI{o:ft}{T:gv}{x y:gq}{st st':XS}(h:Bd st)(ho:o.op=.makeSlice T x y)(hx:WX P o.dst T x y st=some st'):gY P Ω o st st':=by
 unfold WX at hx;split at hx
 ·rename_i d e hd hel;split at hx
  ·rename_i k1 n k2 m h1 h2;split at hx
   ·rename_i z hz;split at hx
    ·rename_i hc;cases hx;rw[D8]at h1 h2;have hr:∀σ δ,(bw n.toNat z).map (ck (V.ren σ δ))=bw n.toNat z:=fun σ δ=>by rw[dz,HJ hz]
     have hb:∀σ σ',AQ (st.c+1) σ σ'->AQ st.c σ σ':=fun σ σ' ha=>ha.mono (cw _);refine⟨⟨cw _,⟨fun σ σ' δ ha=>?_,fun σ σ' pre ha=>?_,h.lp.put (VI rfl)⟩,St.put_len _ _ _ _ _⟩,d,hd,fun σ pre k hk=>⟨⟨.vec e (bw n.toNat z),none⟩,?_,fun γ=>?_⟩⟩
     ·show((st.fr.put d true _).ren σ δ)=((st.fr.put d true _).ren σ' δ);simp only[H3,H2];rw[h.f σ σ' δ (hb _ _ ha),ha st.c (bn _)]
     ·simp only[CS,AX.ren,hr];rw[h.s σ σ' pre (hb _ _ ha),ha st.c (bn _)]
     ·simp only[QI,ho,DR,h1,h2,bq,ER,hel,hz];rw[if_pos hc]
     ·have:=hk (fun i=>if i=st.c then γ else σ i) (AQ.upd _ _ _);have ha:=AQ.upd st.c γ σ;change k ((st.fr.put d true _).ren _ _) _ at this;simp only[H3,H2,if_true,CS,AX.ren,hr]at this;rw[<-h.f _ _ _ ha,<-h.s _ _ _ ha]at this;simp only[Mk.val,HW,bc];rw[DI];exact this
    ·cases hx
   ·cases hx
  ·cases hx
 ·cases hx
def yU(d:Option Tmp)(r:Option gq)(st:XS):Option XS:=match d,r with
 |some d,none=>some ⟨st.c+1,(d,true,.mp st.s.up.length d st.c)::st.fr,st.s.put st.s.up.length d st.c (.map [])⟩
 |_,_=>none
theorem uR{o:ft}{T:gv}{r:Option gq}{st st':XS}(h:Bd st)(ho:o.op=.makeMap T r)(hx:yU o.dst r st=some st'):gY P Ω o st st':=by
 unfold yU at hx;split at hx
 ·rename_i d hd;cases hx;have hb:∀σ σ',AQ (st.c+1) σ σ'->AQ st.c σ σ':=fun σ σ' ha=>ha.mono (cw _);refine⟨⟨cw _,⟨fun σ σ' δ ha=>?_,fun σ σ' pre ha=>?_,h.lp.put (VI rfl)⟩,St.put_len _ _ _ _ _⟩,d,hd,fun σ pre k hk=>⟨⟨.map [],none⟩,?_,fun γ=>?_⟩⟩
  ·show((st.fr.put d true _).ren σ δ)=((st.fr.put d true _).ren σ' δ);simp only[H3,RF];rw[h.f σ σ' δ (hb _ _ ha),ha st.c (bn _)]
  ·simp only[CS,AX.ren,dk];rw[h.s σ σ' pre (hb _ _ ha),ha st.c (bn _)]
  ·simp only[QI,ho]
  ·have:=hk (fun i=>if i=st.c then γ else σ i) (AQ.upd _ _ _);have ha:=AQ.upd st.c γ σ;change k ((st.fr.put d true _).ren _ _) _ at this;simp only[H3,RF,if_true,CS,AX.ren,dk]at this;rw[<-h.f _ _ _ ha,<-h.s _ _ _ ha]at this;simp only[Mk.val,HW];rw[DI];exact this
 ·cases hx
def JW(P:gk)(d:Option Tmp)(T:gv)(x y:gq)(st:XS):Option XS:=match d with
 |some _=>none
 |none=>match CI st.fr x,CI st.fr y with
  |some (.ptr l q γ off),some v=>match st.s.get l q with
   |some (γ',.box cs)=>if bz γ' γ&&BD v&&cz 0 (P.cellsOf T)&&bz (A7 v).length (P.cellsOf T)&&dp (off+P.cellsOf T) cs.length&&cz γ st.c then some { st with s:=st.s.put l q γ (.box (A2 cs off (A7 v))) } else none
   |_=>none
  |some (.eptr l q γ i off),some v=>match st.s.get l q with
   |some (γ',.vec U es)=>if bz γ' γ&&BD v&&cz 0 (P.cellsOf T)&&bz (A7 v).length (P.cellsOf T)&&cz i es.length&&dp (off+P.cellsOf T) (es.getD i []).length&&cz γ st.c then some { st with s:=st.s.put l q γ (.vec U (es.set i (A2 (es.getD i []) off (A7 v)))) } else none
   |_=>none
  |_,_=>none
theorem NB{st:XS}(h:Bd st){l q γ:Nat}{r:AX}(hg:st.s.get l q=some (γ,r))(σ σ':Nat->Nat)(δ:Nat)(ha:AQ st.c σ σ'):r.ren σ δ=r.ren σ' δ:=by have h1:=B0 (s:=st.s) (σ:=σ) (pre:=bw δ []) l q;have h2:=B0 (s:=st.s) (σ:=σ') (pre:=bw δ []) l q;rw[h.s σ σ' _ ha,h2,hg]at h1;simp only[bq,bc,cx.injEq,fp.injEq]at h1;exact h1.2.symm
theorem LH(es:List (List V))(i:Nat)(x:List V):(es.set i x).map (ck (V.ren σ δ))=(es.map (ck (V.ren σ δ))).set i (x.map (V.ren σ δ)):=by simp[List.map_set]
theorem eK{o:ft}{T:gv}{x y:gq}{st st':XS}(h:Bd st)(ho:o.op=.store T x y)(hx:JW P o.dst T x y st=some st'):StepX P o st st':=by
 unfold JW at hx;split at hx
 ·cases hx
 ·rename_i hd;split at hx
  ·rename_i l q γ off v h1 h2;split at hx
   ·rename_i γ' cs hg;split at hx
    ·rename_i hc;simp only[bx,cg,cd]at hc;obtain⟨⟨⟨⟨⟨c1,c2⟩,c3⟩,c4⟩,c5⟩,c6⟩:=hc;have c1:=bj c1;have c4:=bj c4;subst c1;cases hx;have hv:=h.rd h2;refine⟨⟨bp _,h.putS c6 fun σ σ' δ ha=>?_,St.put_len _ _ _ _ _⟩,fun σ pre k hk=>?_⟩
     ·have hr:=NB h hg σ σ' δ ha;simp only[AX.ren,AX.box.injEq]at hr|-;rw[<-DD,<-DD,hr,aA hv σ σ' δ ha]
     ·have:=hk σ (AQ.refl _ _);rw[D8]at h1 h2;unfold EQ;simp only[ho,DR,h1,h2,bq,H1,B0,hg,AX.ren];refine⟨trivial,trivial,by rw[I5];exact c2,c3,by rw[EX];simpa using c4,by simpa using c5,hd,?_⟩;rw[EX,DD];rw[CS]at this;exact this
    ·cases hx
   ·cases hx
  ·rename_i l q γ i off v h1 h2;split at hx
   ·rename_i γ' U es hg;split at hx
    ·rename_i hc;simp only[bx,cg,cd]at hc;obtain⟨⟨⟨⟨⟨⟨c1,c2⟩,c3⟩,c4⟩,c5⟩,c6⟩,c7⟩:=hc;have c1:=bj c1;have c4:=bj c4;subst c1;cases hx;have hv:=h.rd h2;refine⟨⟨bp _,h.putS c7 fun σ σ' δ ha=>?_,St.put_len _ _ _ _ _⟩,fun σ pre k hk=>?_⟩
     ·have hr:=NB h hg σ σ' δ ha;simp only[AX.ren,AX.vec.injEq,true_and]at hr|-;rw[LH,LH,<-DD,<-DD,<-E9,<-E9,hr,aA hv σ σ' δ ha]
     ·have:=hk σ (AQ.refl _ _);rw[D8]at h1 h2;unfold EQ;simp only[ho,DR,h1,h2,bq,OY,B0,hg,AX.ren];refine⟨trivial,trivial,by rw[I5];exact c2,c3,by rw[EX];simpa using c4,by simpa using c5,by rw[E9];simpa using c6,hd,?_⟩;rw[E9,EX,DD,<-LH];rw[CS]at this;exact this
    ·cases hx
   ·cases hx
  ·cases hx
def yV(P:gk)(d:Option Tmp)(T:gv)(x i y:gq)(st:XS):Option XS:=match d with
 |some _=>none
 |none=>match CI st.fr x,CI st.fr i,CI st.fr y with
  |some m,some i,some v=>match ME P st.s T m i v with
   |some (l,q,γ,es)=>Bool.rec none (some { st with s:=st.s.put l q γ (.map es) }) (cz γ st.c)
   |none=>none
  |_,_,_=>none
theorem AJ3{o:ft}{T:gv}{x i y:gq}{st st':XS}(h:Bd st)(ho:o.op=.mapUpdate T x i y)(hx:yV P o.dst T x i y st=some st'):StepX P o st st':=by
 unfold yV at hx;split at hx
 ·cases hx
 ·rename_i hd;split at hx
  ·rename_i m i' v h1 h2 h3;split at hx
   ·rename_i l q γ es hu;cases hb:cz γ st.c with
    |false=>rw[hb]at hx;cases hx
    |true=>
     rw[hb]at hx
     have hlt:γ<st.c:=by simpa using hb
     cases hx
     have hm:=h.rd h1
     have hi:=h.rd h2
     have hv:=h.rd h3
     refine⟨⟨bp _,h.putS hlt fun σ σ' δ ha=>?_,St.put_len _ _ _ _ _⟩,fun σ pre k hk=>?_⟩
     ·have q1:=VG (σ:=σ) (pre:=bw δ []) hu;have q2:=VG (σ:=σ') (pre:=bw δ []) hu;rw[h.s σ σ' _ ha,hm σ σ' _ ha,hi σ σ' _ ha,hv σ σ' _ ha,q2]at q1;simp only[cx.injEq,fp.injEq,bc]at q1;simp only[AX.ren,q1.2.2.2]
     ·have:=hk σ (AQ.refl _ _);rw[D8]at h1 h2 h3;unfold EQ;simp only[ho,DR,h1,h2,h3,bq,VG hu];refine⟨trivial,hd,?_⟩;rw[CS]at this;exact this
   ·cases hx
  ·cases hx
def gZ(P:gk)(d:Option Tmp)(args:List gq)(Ts:List gv)(st:XS):Option XS:=match args,Ts,d with
 |[x],[T],none=>match BO P T,CI st.fr x with
  |some (none,e),some (.vtl l q γ i n)=>match st.s.get l q,B9 P e with
   |some (γ',.vec U es),some z=>Bool.rec none (some { st with s:=st.s.put l q γ (.vec U (es.take i++bw n z++es.drop (i+n))) }) (bz γ' γ&&bz U e&&dp (i+n) es.length&&es.all (fun y=>y.length==z.length)&&cz γ st.c)
   |_,_=>none
  |_,_=>none
 |_,_,_=>none
theorem yW{o:ft}{args:Array gq}{Ts:Array gv}{st st':XS}(h:Bd st)(ho:o.op=.call { callee:=.builtin .clear,args:=args,argTypes:=Ts })(hx:gZ P o.dst args.toList Ts.toList st=some st'):StepX P o st st':=by
 unfold gZ at hx;split at hx
 ·rename_i x T ha hT hd;split at hx
  ·rename_i e l q γ i n hel h1;split at hx
   ·rename_i γ' U es z hg hz;cases hb:(bz γ' γ&&bz U e&&dp (i+n) es.length&&es.all (fun y=>y.length==z.length)&&cz γ st.c)with
    |false=>rw[hb]at hx;cases hx
    |true=>
     rw[hb]at hx
     cases hx
     simp only[bx,cg,cd]at hb
     obtain⟨⟨⟨⟨c1,c2⟩,c3⟩,c4⟩,c5⟩:=hb
     have c1:=bj c1
     have c2:=bj c2
     subst c1;subst c2
     have hz':∀σ δ,z.map (V.ren σ δ)=z:=fun σ δ=>HJ hz
     refine⟨⟨bp _,h.putS c5 fun σ σ' δ ha=>?_,St.put_len _ _ _ _ _⟩,fun σ pre k hk=>?_⟩
     ·have hr:=NB h hg σ σ' δ ha;simp only[AX.ren,AX.vec.injEq,true_and]at hr|-;simp only[bf,cq,List.map_drop,dz,hz',hr]
     ·have:=hk σ (AQ.refl _ _);rw[D8]at h1;unfold EQ;simp only[ho,ha,hT,hd,hel,DR,h1,bq,XQ,B0,hg,hz,AX.ren];refine⟨trivial,trivial,trivial,by simpa using c3,?_,?_⟩
      ·rw[fx];exact c4▸(by congr 1;funext x;simp)
      ·rw[CS]at this;simp only[AX.ren,bf,cq,List.map_drop,dz,hz']at this;exact this
   ·cases hx
  ·cases hx
 ·cases hx
theorem qF{o:ft}{l q γ:Nat}{r:AX}(h:DG P o fr s=some (l,q,γ,r)):DG P o (fr.ren σ pre.length) (s.emb σ pre)=some (l+pre.length,q,σ γ,r.ren σ pre.length):=by
 unfold DG at h|-;split at h
 ·rename_i T x y ho;simp only[DR];split at h
  ·rename_i l1 q1 γ1 off v e1 e2;simp only[e1,e2,bq,H1,B0];split at h
   ·rename_i γ2 cs e3;split at h
    ·rename_i hc;cases h;obtain⟨c1,c2,c3,c4,c5,c6⟩:=hc;subst c1;simp only[e3,bq,AX.ren,I5,EX,cj];rw[if_pos ⟨trivial,c2,c3,c4,c5,c6⟩,DD]
    ·cases h
   ·cases h
  ·rename_i l1 q1 γ1 i off v e1 e2;simp only[e1,e2,bq,OY,B0];split at h
   ·rename_i γ2 U es e3;split at h
    ·rename_i hc;cases h;obtain⟨c1,c2,c3,c4,c5,c6,c7⟩:=hc;subst c1;simp only[e3,bq,AX.ren,I5,EX,cj,E9];rw[if_pos ⟨trivial,c2,c3,c4,c5,c6,c7⟩,DD,<-LH]
    ·cases h
   ·cases h
  ·cases h
 ·cases h
theorem AEB{o:ft}{T:gv}{x y:gq}{st st':XS}(ho:o.op=.store T x y)(hx:JW P o.dst T x y st=some st'):∃l q γ r,DG P o st.fr st.s=some (l,q,γ,r)/\st'={ st with s:=st.s.put l q γ r }:=by
 unfold JW at hx;unfold DG;simp only[ho];split at hx
 ·cases hx
 ·rename_i hd;split at hx
  ·rename_i l q γ off v h1 h2;split at hx
   ·rename_i γ' cs hg;split at hx
    ·rename_i hc;simp only[bx,cg,cd]at hc;obtain⟨⟨⟨⟨⟨c1,c2⟩,c3⟩,c4⟩,c5⟩,c6⟩:=hc;have c1:=bj c1;have c4:=bj c4;subst c1;cases hx;rw[D8]at h1 h2;refine⟨_,_,_,_,?_,rfl⟩;simp only[h1,h2,hg];rw[if_pos ⟨trivial,c2,c3,c4,c5,hd⟩]
    ·cases hx
   ·cases hx
  ·rename_i l q γ i off v h1 h2;split at hx
   ·rename_i γ' U es hg;split at hx
    ·rename_i hc;simp only[bx,cg,cd]at hc;obtain⟨⟨⟨⟨⟨⟨c1,c2⟩,c3⟩,c4⟩,c5⟩,c6⟩,c7⟩:=hc;have c1:=bj c1;have c4:=bj c4;subst c1;cases hx;rw[D8]at h1 h2;refine⟨_,_,_,_,?_,rfl⟩;simp only[h1,h2,hg];rw[if_pos ⟨trivial,c2,c3,c4,c5,c6,hd⟩]
    ·cases hx
   ·cases hx
  ·cases hx
def AA.hide(W:AK)(l:Nat)(L:AA):AA:=L.filter fun e=>!(W.contains (l,e.1))
theorem AA.get_hide(W:AK)(l:Nat):∀(L:AA) (k:Nat),(l,k)∉W->(L.hide W l).get k=L.get k
 |[],k,_=>rfl
 |(j,x)::L,k,hk=>by
  have ih:=AA.get_hide W l L k hk;unfold AA.hide at ih|-;rw[List.filter_cons];split
  ·simp only[AA.get];split
   ·rfl
   ·exact ih
  ·rename_i hc;simp only[fg,Bool.not_eq_false,List.contains_iff_mem]at hc;rw[ih];simp only[AA.get];rw[if_neg (fun e=>hk (by rw[e];simpa using hc))]
theorem AA.get_hide'(W:AK)(l:Nat):∀(L:AA) (k:Nat),(l,k)∈W->(L.hide W l).get k=none
 |[],k,_=>rfl
 |(j,x)::L,k,hk=>by
  have ih:=AA.get_hide' W l L k hk;unfold AA.hide at ih|-;rw[List.filter_cons];split
  ·rename_i hc;simp only[AA.get];rw[if_neg (fun e=>by subst e;simp[hk]at hc)];exact ih
  ·exact ih
def St.hide(W:AK)(s:St):St:=⟨s.up.mapIdx fun l L=>L.hide W l,s.loc.hide W s.up.length⟩
theorem St.get_hide{W:AK}{l k:Nat}(h:(l,k)∉W):(s.hide W).get l k=s.get l k:=by
 unfold St.get St.hide;simp only[fc];split
 ·rename_i e;subst e;exact AA.get_hide W _ _ _ h
 ·rw[dr];cases s.up[l]? with
  |none=>rfl
  |some L=>exact AA.get_hide W _ _ _ h
theorem St.get_hide'{W:AK}{l k:Nat}(h:(l,k)∈W):(s.hide W).get l k=none:=by
 unfold St.get St.hide;simp only[fc];split
 ·rename_i e;subst e;exact AA.get_hide' W _ _ _ h
 ·rw[dr];cases s.up[l]? with
  |none=>rfl
  |some L=>exact AA.get_hide' W _ _ _ h
theorem aB(W:AK):WT W (s.hide W) s:=fun l k x e=>by
 by_cases h:(l,k)∈W
 ·rw[St.get_hide' h]at e;cases e
 ·exact⟨h,by rw[<-St.get_hide h];exact e⟩
def A0:Option V->AK
 |some (.ptr l k _ _)=>[(l,k)]
 |some (.eptr l k _ _ _)=>[(l,k)]
 |some (.vec l k _ _)=>[(l,k)]
 |some (.mp l k _)=>[(l,k)]
 |_=>[]
def BH(one:Bool)(x:Option V):AK:=match one,x with
 |true,some (.ptr l k _ off)=>[(l,k+FE),(l,k+D3),(l,DO k off)]
 |true,some (.eptr l k _ _ off)=>[(l,k+FE),(l,k+D3),(l,DO k off)]
 |_,x=>A0 x
def BJ(one:Bool)(x:Option V):AK:=match one,x with
 |true,some (.ptr l k _ off)=>[(l,k),(l,DO k off)]
 |true,some (.eptr l k _ _ off)=>[(l,k),(l,DO k off)]
 |false,some (.ptr l k _ _)=>[(l,k),(l,k+D3)]
 |false,some (.eptr l k _ _ _)=>[(l,k),(l,k+D3)]
 |_,_=>[]
def AEC:Option V->Bool
 |some (.ptr ..)=>true
 |some (.eptr ..)=>true
 |_=>false
def HC:Option V->AK
 |some (.vec l k _ _)=>[(l,k)]
 |some (.vtl l k _ _ _)=>[(l,k)]
 |some (.ptr l k _ _)=>[(l,k)]
 |_=>[]
def KU:Option V->AK
 |some (.vec l k _ _)=>[(l,k+FE)]
 |_=>[]
def mJ(P:gk)(o:ft)(r:gq->Option V):Bool:=match o.op with
 |.load T x=>bz (P.cellsOf T) 1&&AEC (r x)
 |.indexAddr _ x _=>match r x with
  |some (.vec ..)=>true
  |_=>false
 |_=>false
def KV(r:gq->Option V):List gq->AK
 |[_,y]=>HC (r y)
 |_=>[]
def EM(P:gk)(o:ft)(r:gq->Option V):AK:=match o.op with
 |.load T x=>BH (bz (P.cellsOf T) 1) (r x)
 |.indexAddr _ x _=>KU (r x)
 |.slice _ x ..=>HC (r x)
 |.lookup _ x ..=>A0 (r x)
 |.call { callee:=.builtin .append,args,.. }=>KV r args.toList
 |_=>[]
theorem hH{W:AK}{x:V}{es:List (List V)}(h:elemsOf s x=some es)(hr:∀p∈HC (some x),p∉W):elemsOf (s.hide W) x=some es:=by
 cases x with
 |vec l k g n=>
  have hn:(l,k)∉W:=hr _ (by simp[HC])
  simp only[elemsOf,St.get_hide hn]at h|-
  exact h
 |vtl l k g i n=>
  have hn:(l,k)∉W:=hr _ (by simp[HC])
  simp only[elemsOf,St.get_hide hn]at h|-
  exact h
 |list b es=>exact h
 |nil=>exact h
 |raw v=>exact(WM _ _ v).trans h
 |_=>cases h
theorem AED{W:AK}{o:ft}{r:gq->Option V}{v:V}(h:J0 P o s r=some v)(hi:mJ P o r=false)(hr:∀p∈EM P o r,p∉W):J0 P o (s.hide W) r=some v:=by
 unfold J0 at h|-;split at h;case h_4 T x ho=>
  obtain⟨p,h1,h2⟩:=bk.1 h
  obtain⟨cs,h3,h4⟩:=bk.1 h2
  have:A8 (s.hide W) p=some cs:=by
   cases p with
   |ptr l k g off=>
    have hb:bz (P.cellsOf T) 1=false:=by simpa [mJ,ho,h1,AEC]using hi
    have hn:(l,k)∉W:=hr _ (by simp[EM,ho,h1,BH,hb,A0])
    simp only[A8,St.get_hide hn]at h3|-;exact h3
   |eptr l k g i off=>
    have hb:bz (P.cellsOf T) 1=false:=by simpa [mJ,ho,h1,AEC]using hi
    have hn:(l,k)∉W:=hr _ (by simp[EM,ho,h1,BH,hb,A0])
    simp only[A8,St.get_hide hn]at h3|-;exact h3
   |_=>exact h3
  simp only[h1,bh,this,h4]
 case h_10 T x i ho=>
  obtain⟨p,h1,h2⟩:=bk.1 h
  obtain⟨q,h3,h4⟩:=bk.1 h2
  have:BN P (s.hide W) T p q=some v:=by
   unfold BN at h4|-;split at h4
   ·exact h4
   ·rename_i e l k g n k' j e1;simp[mJ,ho,h1]at hi
   ·exact h4
   ·exact h4
   ·exact h4
   ·cases h4
  simp only[h1,h3,bh,this]
 case h_16 T x lo hi mx ho=>
  obtain⟨p,h1,h2⟩:=bk.1 h
  obtain⟨q,h3,h4⟩:=bk.1 h2
  obtain⟨q',h5,h6⟩:=bk.1 h4
  obtain⟨q2,h7,h8⟩:=bk.1 h6
  have:C0 P (s.hide W) T p q q' q2=some v:=by
   unfold C0 at h8|-;split at h8;case h_6 e l k g n k' i e1=>
    have hn:(l,k)∉W:=hr _ (by simp[EM,ho,h1,HC])
    simp only[St.get_hide hn];exact h8
   case h_7 n e l k g o e1=>
    have hn:(l,k)∉W:=hr _ (by simp[EM,ho,h1,HC])
    simp only[St.get_hide hn];exact h8
   all_goals exact h8
  simp only[h1,h3,h5,h7,bh,this]
 case h_17 T x i ok ho=>
  obtain⟨p,h1,h2⟩:=bk.1 h
  obtain⟨q,h3,h4⟩:=bk.1 h2
  have:DT P (s.hide W) T p q ok=some v:=by
   unfold DT at h4|-;split at h4
   ·rename_i K E l k g e1;have hn:(l,k)∉W:=hr _ (by simp[EM,ho,h1,A0]);simp only[St.get_hide hn];exact h4
   ·cases h4
  simp only[h1,h3,bh,this]
 all_goals exact h
theorem yX{W:AK}{o:ft}{v:V}(h:F1 P g o fr s=some v)(hi:mJ P o (D5 g fr)=false)(hr:∀p∈EM P o (D5 g fr),p∉W):F1 P g o fr (s.hide W)=some v:=by
 unfold F1 at h|-;split at h
 ·exact h
 ·exact h
 ·exact h
 ·exact AED h hi hr
def cC(δ:Nat)(W:AK):AK:=W.map fun p=>(p.1+δ,p.2)
theorem NC{W:AK}{l k:Nat}:(l+δ,k)∈cC δ W↔(l,k)∈W:=by
 unfold cC;simp only[dq,fp.injEq,Prod.exists];constructor
 ·rintro ⟨a,b,h,h1,h2⟩;have:a=l:=by omega
  subst this;subst h2;exact h
 ·intro h;exact⟨l,k,h,rfl,rfl⟩
theorem WY(x:Option V):A0 (x.map (V.ren σ δ))=cC δ (A0 x):=by
 cases x with
 |none=>rfl
 |some v=>cases v<;>simp[A0,cC]
theorem RJ(x:Option V):HC (x.map (V.ren σ δ))=cC δ (HC x):=by
 cases x with
 |none=>rfl
 |some v=>cases v<;>simp[HC,cC]
theorem qH(x:Option V):KU (x.map (V.ren σ δ))=cC δ (KU x):=by
 cases x with
 |none=>rfl
 |some v=>cases v<;>simp[KU,cC]
theorem qI(b:Bool)(x:Option V):BH b (x.map (V.ren σ δ))=cC δ (BH b x):=by
 cases b with
 |false=>exact WY x
 |true=>
  cases x with
  |none=>rfl
  |some v=>cases v<;>simp[BH,A0,cC]
theorem ARA{W:AK}{o:ft}{v:V}(h:F1 P g o fr s=some v)(hi:mJ P o (D5 g fr)=true)(hr:∀p∈EM P o (D5 g fr),p∉W):cV P W g o fr s v:=by
 unfold mJ at hi;split at hi
 ·rename_i T x ho;rw[bx]at hi;have h1:=bj hi.1;unfold F1 at h;simp only[ho,J0]at h;obtain⟨p,hx,h⟩:=bk.1 h;obtain⟨cs,hcs,hv⟩:=bk.1 h;have hp:=hi.2;rw[hx]at hp;cases p with
  |ptr l k γ off=>
   have hr':∀p∈[(l,k+FE),(l,k+D3),(l,DO k off)],p∉W:=fun p hp=>hr p (by simp only[EM,ho,hx,hi.1,BH];exact hp)
   refine .inr ⟨T,x,_,cs,l,k,off,ho,hx,rfl,hcs,hv,by omega,hr' _ (by simp),hr' _ (by simp),fun c hc=>?_⟩
   obtain rfl:c=0:=by omega
   exact hr' _ (by simp)
  |eptr l k γ i off=>
   have hr':∀p∈[(l,k+FE),(l,k+D3),(l,DO k off)],p∉W:=fun p hp=>hr p (by simp only[EM,ho,hx,hi.1,BH];exact hp)
   refine .inr ⟨T,x,_,cs,l,k,off,ho,hx,rfl,hcs,hv,by omega,hr' _ (by simp),hr' _ (by simp),fun c hc=>?_⟩
   obtain rfl:c=0:=by omega
   exact hr' _ (by simp)
  |_=>cases hp
 ·rename_i T x i ho;split at hi
  ·rename_i l k γ n hx;unfold F1 at h;simp only[ho,J0,hx,bh]at h;obtain⟨iv,hiv,h⟩:=bk.1 h;unfold BN at h;split at h
   ·rename_i e1 e2;cases e2
   ·rename_i e l' k' γ' n' ki j e1 e2;cases e2;split at h
    ·rename_i γ2 T' es hget;split at h
     ·rename_i hc;obtain⟨rfl,hc⟩:=hc;exact .inl ⟨T,x,i,e,_,_,_,_,ki,j,T',es,ho,hx,hiv,e1,hr _ (by simp[EM,ho,hx,KU]),hget,hc,(cx.inj h).symm⟩
     ·cases h
    ·cases h
   ·rename_i e1 e2;cases e2
   ·rename_i e1 e2;cases e2
   ·rename_i e1 e2;cases e2
   ·cases h
  ·cases hi
 ·cases hi
theorem qJ{r:gq->Option V}(l:List gq):KV (fun x=>(r x).map (V.ren σ δ)) l=cC δ (KV r l):=by
 unfold KV;split
 ·exact RJ _
 ·rfl
theorem qK{o:ft}{r:gq->Option V}:EM P o (fun x=>(r x).map (V.ren σ δ))=cC δ (EM P o r):=by
 unfold EM;split
 ·exact qI _ _
 ·exact qH _
 ·exact RJ _
 ·exact WY _
 ·exact qJ _
 ·rfl
theorem mK{W rd:AK}(h:∀p∈rd,p∉W):∀p∈cC δ rd,p∉cC δ W:=by intro p hp;unfold cC at hp;obtain⟨⟨l,k⟩,hq,rfl⟩:=dq.1 hp;exact fun hc=>h _ hq (NC.1 hc)
end Go.Pg
namespace Go.Pg
variable {P:gk}{σ σ':Nat->Nat}{δ:Nat}{pre:List AA}{s:St}{fr:Fr}{g:Bool}
def rdC(fr:Fr)(x:gq):Option (Bool×V):=match x with
 |.tmp t=>BS fr t
 |.const v=>match CP v with
  |some x=>some (true,x)
  |none=>none
 |.func f=>some (true,.fn f [] [])
 |.global _=>none
theorem ARB(x:gq):rdC fr x=rd fr x:=by
 cases x with
 |tmp t=>exact FM fr t
 |const v=>simp only[rdC,rd];cases CP v<;>rfl
 |func f=>rfl
 |global g=>rfl
def uS(fr:Fr)(c a b:gq):Option V:=match CI fr c,rdC fr a,rdC fr b with
 |some (.bool c),some (ca,.bool a),some (cb,.bool b)=>Bool.rec (Bool.rec none (some (.bool b)) cb) (Bool.rec none (some (.bool a)) ca) c
 |_,_,_=>none
def NT(P:gk)(fr:Fr)(s:St)(T:gv)(x:gq):Option V:=match CI fr x with
 |some p=>match A8 s p with
  |some cs=>BM P T cs
  |none=>none
 |none=>none
def xFA(P:gk)(fr:Fr)(T:gv)(x:gq)(f:Nat):Option V:=match CI fr x with
 |some p=>DC P T p f
 |none=>none
def yY(P:gk)(fr:Fr)(op:BinOp)(T:gv)(x y:gq):Option V:=match CI fr x,CI fr y with
 |some a,some b=>GS P op T a b
 |_,_=>none
def VJ(P:gk)(fr:Fr)(T:gv)(ps:List (Nat×gq)):Option V:=match DF (CI fr) ps with
 |some l=>C9 P T l
 |none=>none
def PW(P:gk)(fr:Fr)(T:gv)(n:Nat)(ps:List (Nat×gq)):Option V:=match DF (CI fr) ps with
 |some l=>B8 P T n l
 |none=>none
def AJ4(P:gk)(o:ft)(fr:Fr)(s:St):Option V:=match o.op with
 |.move x=>CI fr x
 |.assign x=>CI fr x
 |.load T x=>NT P fr s T x
 |.fieldAddr T x f=>xFA P fr T x f
 |.binOp op T x y _=>yY P fr op T x y
 |.pick c a b=>uS fr c a b
 |.build T ps=>VJ P fr T ps.toList
 |.buildSlice T n ps=>PW P fr T n ps.toList
 |_=>J0 P o s (CI fr)
theorem PX{o:ft}{v:V}(h:AJ4 P o fr s=some v):F1 P true o fr s=some v:=by
 unfold AJ4 at h;unfold F1;split at h<;>rename_i ho
 ·simp only[ho,J0,<-FN];exact h
 ·simp only[ho,J0,<-FN];exact h
 ·unfold NT at h;split at h
  ·rename_i p e1;split at h
   ·rename_i cs e2;simp only[ho,J0,<-FN,e1,e2,bh];exact h
   ·cases h
  ·cases h
 ·unfold xFA at h;split at h
  ·rename_i p e1;simp only[ho,J0,<-FN,e1,bh];exact h
  ·cases h
 ·unfold yY at h;split at h
  ·rename_i a b e1 e2;simp only[ho,J0,<-FN,e1,e2,bh];exact h
  ·cases h
 ·unfold uS at h;simp only[ARB]at h;split at h
  ·rename_i c ca a cb b e1 e2 e3;rw[D8]at e1;simp only[ho,e1,e2,e3];cases c with
   |true=>
    cases ca with
    |false=>cases h
    |true=>cases h;simp
   |false=>
    cases cb with
    |false=>cases h
    |true=>cases h;simp
  ·cases h
 ·unfold VJ at h;split at h
  ·rename_i l e1;simp only[ho,<-FN,e1,bh];exact h
  ·cases h
 ·unfold PW at h;split at h
  ·rename_i l e1;simp only[ho,<-FN,e1,bh];exact h
  ·cases h
 ·rw[FN]at h;split
  ·rename_i ho';rw[J0,ho']at h;cases h
  ·rename_i ho';rw[J0,ho']at h;cases h
  ·rename_i ho';rw[J0,ho']at h;cases h
  ·exact h
theorem KB{α:Type}{b:Bool}{x y:α}(h:(Bool.rec none (some x) b:Option α)=some y):b=true/\x=y:=by
 cases b with
 |false=>cases h
 |true=>exact⟨rfl,cx.inj h⟩
theorem ES{α:Type}{b:Bool}{x:Option α}{y:α}(h:(Bool.rec none x b:Option α)=some y):b=true/\x=some y:=by
 cases b with
 |false=>cases h
 |true=>exact⟨rfl,h⟩
theorem TZ{st:XS}(h:Bd st){v:V}{ys:List (List V)}(hv:UL st.c v)(he:elemsOf st.s v=some ys)(σ σ':Nat->Nat)(δ:Nat)(ha:AQ st.c σ σ'):ys.map (ck (V.ren σ δ))=ys.map (ck (V.ren σ' δ)):=by have h1:=HK (σ:=σ) (pre:=bw δ []) he;have h2:=HK (σ:=σ') (pre:=bw δ []) he;rw[h.s σ σ' _ ha,hv σ σ' _ ha,h2]at h1;have:=cx.inj h1;rw[bc]at this;exact this.symm
theorem F3(ys:List (List V))(m:Nat):(ys.map (ck (V.ren σ δ))).all (fun y=>y.length==m)=ys.all (fun y=>y.length==m):=by rw[fx];congr 1;funext y;simp
def mL(P:gk)(d:Tmp)(e:gv)(ys:List (List V))(st:XS)(xv:V):Option (XS×Nat×Nat):=match xv with
 |.vec l q γ n=>match RA n ys (st.s.get l q)with
  |some (γ',.vec W es)=>Bool.rec none (some (⟨st.c+1,(d,true,.vec l q st.c (es++ys).length)::st.fr,st.s.put l q st.c (.vec e (es++ys))⟩,l,q))
    (bz γ' γ&&bz W e&&bz n es.length&&es.all (fun y=>y.length==P.cellsOf e)&&BZ P e es.length ys)
  |_=>none
 |_=>none
def xAppG(el:St->V->Option (List (List V)))(P:gk)(d:Option Tmp)(args:List gq)(Ts:List gv)(st:XS):Option (XS×Nat×Nat):=match args,Ts,d with
 | [x,y],[T,U],some d=>Bool.rec none (match BO P T with
  |some (none,e)=>match CI st.fr x,CI st.fr y with
   |some xv,some yv=>match el st.s yv with
    |some ys=>match I3 xv ys with
     |some es=>Bool.rec none (some (⟨st.c+1,(d,true,.vec st.s.up.length d st.c (es++ys).length)::st.fr,st.s.put st.s.up.length d st.c (.vec e (es++ys))⟩,st.s.up.length,d)) (es.all (fun y=>y.length==P.cellsOf e)&&BZ P e es.length ys)
     |none=>mL P d e ys st xv
    |none=>none
   |_,_=>none
  | _=>none) (bz T U)
 |_,_,_=>none
theorem AEE(v:V):W8 (v.ren σ δ)=W8 v:=by
 cases v with
 |list f es=>cases f<;>cases es<;>simp[W8]
 |_=>simp[W8]
theorem mM(v:V)(ys:List (List V)):I3 (v.ren σ δ) (ys.map (ck (V.ren σ δ)))=(I3 v ys).map (ck (ck (V.ren σ δ))):=by
 cases v with
 |list f es=>cases f<;>cases es<;>cases ys<;>simp[I3]
 |_=>simp[I3]
theorem qM{v:V}{es ys:List (List V)}(h:I3 v ys=some es):elemsOf s v=some es:=by unfold I3 at h;split at h<;>cases h<;>rfl
theorem eL{e:gv}{n:Nat}(ys:List (List V)):BZ P e n (ys.map (ck (V.ren σ δ)))=BZ P e n ys:=by unfold BZ;rw[F3,cj]
theorem AEF{n:Nat}(ys es:List (List V)):ZC n (ys.map (ck (V.ren σ δ))) (es.map (ck (V.ren σ δ)))=(ZC n ys es).map (ck (V.ren σ δ)):=by
 cases ys with
 |nil=>rfl
 |cons y ys=>
  show(if _ then _ else _)=(if _ then _ else _:List (List V)).map _
  have e:(es.map (ck (V.ren σ δ))).all (fun x=>x.length==(y.map (V.ren σ δ)).length)=es.all (fun x=>x.length==y.length):=by rw[fx,cj];congr 1;funext x;simp
  rw[e]
  split
  ·rw[cq]
  ·rfl
theorem mN{n γ:Nat}{ys es:List (List V)}{U:gv}{o:Option (Nat×AX)}(h:RA n ys o=some (γ,.vec U es)):RA n (ys.map (ck (V.ren σ δ))) (o.map fun p=>(σ p.1,p.2.ren σ δ))=some (σ γ,.vec U (es.map (ck (V.ren σ δ)))):=by obtain⟨es0,rfl,rfl⟩:=PO h;show some (σ γ,AX.vec U (ZC n _ _))=_;rw[AEF]
theorem aC{el:St->V->Option (List (List V))}(hel0:∀s v es,el s v=some es->elemsOf s v=some es){o:ft}{args:Array gq}{Ts:Array gv}{st st':XS}{l q:Nat}(h:Bd st)(ho:o.op=.call { callee:=.builtin .append,args:=args,argTypes:=Ts })
  (hx:xAppG el P o.dst args.toList Ts.toList st=some (st',l,q)):∃d r,o.dst=some d/\cA r=true/\st'=⟨st.c+1,(d,true,HW r l q st.c)::st.fr,st.s.put l q st.c r⟩/\(∀σ σ' δ,AQ st.c σ σ'->r.ren σ δ=r.ren σ' δ) /\
   (∀(σ:Nat->Nat) (pre:List AA) (k:Fr->St->Prop),(∀γ,k ((st.fr.ren σ pre.length).put d true (HW (r.ren σ pre.length) (l+pre.length) q γ)) ((st.s.emb σ pre).put (l+pre.length) q γ (r.ren σ pre.length)))->EQ P true o (st.fr.ren σ pre.length) (st.s.emb σ pre) k) /\
   (∀(W:AK) (σ:Nat->Nat) (pre:List AA),(∀p∈KV (CI st.fr) args.toList,p∉W)->XA P o (st.fr.ren σ pre.length) ((st.s.emb σ pre).hide (cC pre.length W)) (st.s.emb σ pre)=some (l+pre.length,q,r.ren σ pre.length)):=by
 unfold xAppG at hx
 split at hx
 ·rename_i x y T U d ha hT hd;obtain⟨hTU,hx2⟩:=ES hx;clear hx;have hTU:=bj hTU;subst hTU;have hx:=hx2;clear hx2;split at hx
  ·rename_i e hel;split at hx
   ·rename_i xv yv h1 h2;split at hx
    ·rename_i ys hys0;have hys:=hel0 _ _ _ hys0;have hyb:=TZ h (h.rd h2) hys;have r1:=h1;have r2:=h2;rw[D8]at r1 r2;have hys2:∀(W:AK) (σ:Nat->Nat) (pre:List AA),(∀p∈KV (CI st.fr) args.toList,p∉W)->elemsOf ((st.s.emb σ pre).hide (cC pre.length W)) (yv.ren σ pre.length)=some (ys.map (ck (V.ren σ pre.length))):=fun W σ pre hW=>by refine hH (HK hys) ?_;rw[ha]at hW;simp only[KV,h2]at hW;have:=mK (δ:=pre.length) hW;rw[<-RJ (σ:=σ)]at this;exact this
     cases hn:I3 xv ys with
     |some es=>
      rw[hn]at hx
      obtain⟨hc,he⟩:=KB hx
      simp only[fp.injEq]at he
      obtain⟨rfl,rfl,rfl⟩:=he
      simp only[bx]at hc
      obtain⟨hce,hc⟩:=hc
      have heb:=TZ h (h.rd h1) (qM hn)
      refine⟨d,.vec e (es++ys),hd,rfl,rfl,fun σ σ' δ hag=>by simp only[AX.ren,bf,hyb σ σ' δ hag,heb σ σ' δ hag],fun σ pre k hk=>?_,fun W σ pre hW=>?_⟩
      ·have hc':=hc;simp only[BZ,bx,cg,cd]at hc;obtain⟨⟨⟨⟨c1,c2⟩,c3⟩,c4⟩,c5⟩:=hc;unfold EQ;simp only[ho,ha,hT,hd,hel,DR,r1,r2,bq,bh,HK hys,mM,hn,true_and];refine⟨c1,c2,by rw[F3];exact hce,by rw[F3];exact c3,by simpa using c4,by simpa using c5,fun γ=>?_⟩;have:=hk γ;simp only[HW,AX.ren]at this;rw[DI,<-bf];exact this
      ·unfold XA;simp only[ho,ha,hT,hd,hel,DR,r1,r2,bq,bh,hys2 _ _ _ hW,mM,hn,if_true,DI,AX.ren];rw[if_pos ⟨by rw[F3];exact hce,by rw[eL,cj];exact hc⟩,bf]
     |none=>
      rw[hn]at hx
      replace hx:mL P d e ys st xv=some (st',l,q):=hx
      unfold mL at hx
      split at hx
      ·rename_i l0 q0 γ0 n';split at hx
       ·rename_i γ' W es hg;obtain⟨hc,he⟩:=KB hx;simp only[fp.injEq]at he;obtain⟨rfl,rfl,rfl⟩:=he;simp only[bx]at hc;obtain⟨⟨⟨⟨c1,c2⟩,c3⟩,c6⟩,c7⟩:=hc;have c1:=bj c1;have c2:=bj c2;have c3:=bj c3;subst c1;subst c2;subst c3;have heb:∀σ σ' δ,AQ st.c σ σ'->es.map (ck (V.ren σ δ))=es.map (ck (V.ren σ' δ)):=fun σ σ' δ ha=>by
         obtain⟨es0,hg0,e0⟩:=PO hg;have:=NB h hg0 σ σ' δ ha;have e1:es0.map (ck (V.ren σ δ))=es0.map (ck (V.ren σ' δ)):=by simpa [AX.ren]using this
         rcases U3 es.length ys es0 with e2|⟨e2,_⟩
         ·rw[e0,e2,e1]
         ·rw[e0,e2,cq,cq,e1]
        refine⟨d,.vec W (es++ys),hd,rfl,rfl,fun σ σ' δ hag=>by simp only[AX.ren,bf,hyb σ σ' δ hag,heb σ σ' δ hag],fun σ pre k hk=>?_,fun W σ pre hW=>?_⟩
        ·simp only[BZ,bx,cg,cd]at c7;obtain⟨⟨⟨⟨d1,d2⟩,d3⟩,d4⟩,d5⟩:=c7;have hnn:I3 (V.vec (l0+pre.length) q0 (σ γ') es.length) (ys.map (ck (V.ren σ pre.length)))=none:=rfl;unfold EQ;simp only[ho,ha,hT,hd,hel,DR,r1,r2,bq,bh,HK hys,H2,B0,mN hg,true_and,hnn];refine⟨by simp,d1,d2,by rw[F3];exact c6,by rw[F3];exact d3,by simpa using d4,by simpa using d5,fun γ=>?_⟩;have:=hk γ;simp only[HW,AX.ren,bf,cm,cj]at this|-;exact this
        ·have hnn:I3 (V.vec (l0+pre.length) q0 (σ γ') es.length) (ys.map (ck (V.ren σ pre.length)))=none:=rfl;unfold XA;simp only[ho,ha,hT,hd,hel,DR,r1,r2,bq,bh,hys2 _ _ _ hW,H2,B0,mN hg,hnn,if_true];rw[if_pos ⟨trivial,trivial,by simp,by rw[F3];exact c6,by rw[eL,cj];exact c7⟩];simp only[AX.ren,bf]
       ·cases hx
      ·cases hx
    ·cases hx
   ·cases hx
  ·cases hx
 ·cases hx
theorem aD{st:XS}(h:Bd st){d l q:Nat}{r:AX}(hp:cA r=true)(hr:∀σ σ' δ,AQ st.c σ σ'->r.ren σ δ=r.ren σ' δ):K6 st ⟨st.c+1,(d,true,HW r l q st.c)::st.fr,st.s.put l q st.c r⟩:=by
 have hb:∀σ σ',AQ (st.c+1) σ σ'->AQ st.c σ σ':=fun σ σ' ha=>ha.mono (cw _);refine⟨cw _,⟨fun σ σ' δ ha=>?_,fun σ σ' pre ha=>?_,h.lp.put (VI hp)⟩,St.put_len _ _ _ _ _⟩
 ·show((st.fr.put d true (HW r l q st.c)).ren σ δ)=((st.fr.put d true (HW r l q st.c)).ren σ' δ);have e:∀σ:Nat->Nat,(HW r l q st.c).ren σ δ=HW (r.ren σ δ) (l+δ) q (σ st.c):=fun σ=>by cases r<;>simp[HW,AX.ren]
  simp only[H3,e];rw[h.f σ σ' δ (hb _ _ ha),ha st.c (bn _),hr σ σ' δ (hb _ _ ha)]
 ·simp only[CS];rw[h.s σ σ' pre (hb _ _ ha),hr σ σ' _ (hb _ _ ha),ha st.c (bn _)]
theorem mO(r:AX)(l q γ:Nat):(HW r l q γ).ren σ δ=HW (r.ren σ δ) (l+δ) q (σ γ):=by cases r<;>simp[HW,AX.ren]
theorem qN{st:XS}(h:Bd st){d l q:Nat}{r:AX}(hr:∀σ σ' δ,AQ st.c σ σ'->r.ren σ δ=r.ren σ' δ){σ:Nat->Nat}{pre:List AA}{k:Fr->St->Prop}
  (hk:∀σ',AQ st.c σ σ'->k (Fr.ren σ' pre.length ((d,true,HW r l q st.c)::st.fr)) ((st.s.put l q st.c r).emb σ' pre)) (γ:Nat):k ((st.fr.ren σ pre.length).put d true (HW (r.ren σ pre.length) (l+pre.length) q γ)) ((st.s.emb σ pre).put (l+pre.length) q γ (r.ren σ pre.length)):=by
 have:=hk (fun i=>if i=st.c then γ else σ i) (AQ.upd _ _ _)
 have hag:=AQ.upd st.c γ σ
 change k ((st.fr.put d true _).ren _ _) _ at this
 simp only[H3,mO,if_true,CS]at this
 rw[<-h.f _ _ _ hag,<-h.s _ _ _ hag,<-hr _ _ _ hag]at this
 exact this
theorem uT(r:Mk)(l k γ:Nat):(r.val l k γ).ren σ δ=Mk.val ⟨r.res.ren σ δ,r.t⟩ (l+δ) k (σ γ):=by
 obtain⟨r,t⟩:=r;cases t with
 |none=>exact mO _ _ _ _
 |some t=>exact M7 t
theorem yZ{st:XS}(h:Bd st){d l q:Nat}{r:Mk}(hp:cA r.res=true)(hr:∀σ σ' δ,AQ st.c σ σ'->r.res.ren σ δ=r.res.ren σ' δ):K6 st ⟨st.c+1,(d,true,r.val l q st.c)::st.fr,st.s.put l q st.c r.res⟩:=by
 have hb:∀σ σ',AQ (st.c+1) σ σ'->AQ st.c σ σ':=fun σ σ' ha=>ha.mono (cw _);refine⟨cw _,⟨fun σ σ' δ ha=>?_,fun σ σ' pre ha=>?_,h.lp.put (VI hp)⟩,St.put_len _ _ _ _ _⟩
 ·show((st.fr.put d true (r.val l q st.c)).ren σ δ)=((st.fr.put d true (r.val l q st.c)).ren σ' δ);simp only[H3,uT];rw[h.f σ σ' δ (hb _ _ ha),ha st.c (bn _),hr σ σ' δ (hb _ _ ha)]
 ·simp only[CS];rw[h.s σ σ' pre (hb _ _ ha),hr σ σ' _ (hb _ _ ha),ha st.c (bn _)]
theorem AJ5{st:XS}(h:Bd st){d l q:Nat}{r:Mk}(hr:∀σ δ,r.res.ren σ δ=r.res){σ:Nat->Nat}{pre:List AA}{k:Fr->St->Prop}
  (hk:∀σ',AQ st.c σ σ'->k (Fr.ren σ' pre.length ((d,true,r.val l q st.c)::st.fr)) ((st.s.put l q st.c r.res).emb σ' pre)) (γ:Nat):k ((st.fr.ren σ pre.length).put d true (r.val (l+pre.length) q γ)) ((st.s.emb σ pre).put (l+pre.length) q γ r.res):=by
 have:=hk (fun i=>if i=st.c then γ else σ i) (AQ.upd _ _ _)
 have hag:=AQ.upd st.c γ σ
 change k ((st.fr.put d true _).ren _ _) _ at this
 simp only[H3,uT,if_true,CS,hr]at this
 rw[<-h.f _ _ _ hag,<-h.s _ _ _ hag]at this
 exact this
def xAppend(P:gk)(d:Option Tmp)(args:List gq)(Ts:List gv)(st:XS):Option XS:=match xAppG elemsOf P d args Ts st with
 |some (st',_,_)=>some st'
 |none=>none
theorem qO{o:ft}{args:Array gq}{Ts:Array gv}{st st':XS}(h:Bd st)(ho:o.op=.call { callee:=.builtin .append,args:=args,argTypes:=Ts })(hx:xAppend P o.dst args.toList Ts.toList st=some st'):StepX P o st st':=by
 unfold xAppend at hx;split at hx
 ·rename_i st1 l q e1;cases hx;obtain⟨d,r,hd,hp,rfl,hr,hs,_⟩:=aC (fun _ _ _ h=>h) h ho e1;exact⟨aD h hp hr,fun σ pre k hk=>hs σ pre k fun γ=>qN h hr hk γ⟩
 ·cases hx
def uU(P:gk)(d:Option Tmp)(args:List gq)(Ts:List gv)(st:XS):Option XS:=match args,Ts with
 |[x,y],[T,_]=>match BO P T,CI st.fr x,CI st.fr y with
  |some (none,e),some (.vtl l q γ i n),some yv=>match st.s.get l q,elemsOf st.s yv with
   |some (γ',.box cs),some ys=>Bool.rec none (some { st with fr:=putD st.fr d true (.int .i64 ((min ys.length n:Nat):Int)),s:=st.s.put l q γ (.box (A2 cs i (ys.take n).flatten)) }) (bz γ' γ&&bz (P.cellsOf e) 1&&ys.all (fun y=>y.length==1)&&dp (i+n) cs.length&&cz γ st.c)
   |_,_=>none
  |_,_,_=>none
 |_,_=>none
theorem AEG{o:ft}{args:Array gq}{Ts:Array gv}{st st':XS}(h:Bd st)(ho:o.op=.call { callee:=.builtin .copy,args:=args,argTypes:=Ts })(hx:uU P o.dst args.toList Ts.toList st=some st'):StepX P o st st':=by
 unfold uU at hx;split at hx
 ·rename_i x y T U ha hT;split at hx
  ·rename_i e l q γ i n yv hel h1 h2;split at hx
   ·rename_i γ' cs ys hg hys;cases hb:(bz γ' γ&&bz (P.cellsOf e) 1&&ys.all (fun y=>y.length==1)&&dp (i+n) cs.length&&cz γ st.c)with
    |false=>rw[hb]at hx;cases hx
    |true=>
     rw[hb]at hx
     cases hx
     simp only[bx,cg,cd]at hb
     obtain⟨⟨⟨⟨c1,c2⟩,c3⟩,c4⟩,c5⟩:=hb
     have c1:=bj c1
     have c2:=bj c2
     subst c1
     have hB:Bd { st with s:=st.s.put l q γ' (.box (A2 cs i (ys.take n).flatten)) }:=h.putS c5 fun σ σ' δ ha=>by have hr:=NB h hg σ σ' δ ha;have he:=TZ h (h.rd h2) hys σ σ' δ ha;simp only[AX.ren,AX.box.injEq]at hr|-;rw[<-DD,<-DD,hr,df,df,cq,cq,he]
     refine⟨⟨bp _,hB.putF (fun _ _ _ _=>rfl),St.put_len _ _ _ _ _⟩,fun σ pre k hk=>?_⟩
     have:=hk σ (AQ.refl _ _)
     rw[D8]at h1 h2
     unfold EQ
     simp only[ho,ha,hT,hel,DR,h1,h2,bq,XQ,bh,HK hys,B0,hg,AX.ren]
     refine⟨trivial,trivial,c2,?_,by simpa using c4,?_⟩
     ·rw[fx];exact c3▸(by congr 1;funext x;simp)
     ·simp only[F2,ER,CS,AX.ren,<-DD,df,cq]at this;simpa only[cj]using this
   ·cases hx
  ·cases hx
 ·cases hx
end Go.Pg
namespace Go.Pg
variable {P:gk}{Ω:HX P}{σ σ':Nat->Nat}{δ:Nat}{pre:List AA}{s:St}{fr:Fr}{g:Bool}
def FT{α β:Type}(f:α->Option β):List α->Option (List β)
 |[]=>some []
 |x::l=>match f x with
  |some y=>match FT f l with
   |some r=>some (y::r)
   |none=>none
  |none=>none
theorem LI{α β:Type}(f:α->Option β):∀(l:List α),FT f l=l.mapM f
 |[]=>rfl
 |x::l=>by
  simp only[FT,List.mapM_cons,<-LI f l];cases f x with
  |none=>rfl
  |some y=>cases FT f l<;>rfl
abbrev CF:=gw->List V->XS->Option (V×XS)
abbrev CY:=Nat->Nat->Nat->List V->XS->Option (V×XS)
abbrev CF0:=gw->List V->Option V
abbrev CFO:=gw->List V->Tmp->Option Mk
structure XE where
 cf:CF
 cy:CY
 c0:CF0
 co:CFO
 lit:Tmp->Bool
def eM(P:gk)(cf:CF):Prop:=∀f args st r st',cf f args st=some (r,st')->Bd st->(∀v∈args,UL st.c v)->K6 st st'/\UL st'.c r/\st'.fr=st.fr /\
 ∀(σ:Nat->Nat) (pre:List AA) (K:V->St->Prop),(∀σ',AQ st.c σ σ'->K (r.ren σ' pre.length) (st'.s.emb σ' pre))->FD P f (args.map (V.ren σ pre.length)) (st.s.emb σ pre) K
def ARD(P:gk)(cy:CY):Prop:=∀l q γ vs st r st',cy l q γ vs st=some (r,st')->Bd st->(∀v∈vs,UL st.c v)->K6 st st'/\UL st'.c r/\st'.fr=st.fr /\
 ∃fr0 ps asg body N,st.s.get l q=some (γ,.loop fr0 ps asg body N .ready)/\∀(σ:Nat->Nat) (pre:List AA) (k:V->St->Prop),(∀σ',AQ st.c σ σ'->k (r.ren σ' pre.length) (st'.s.emb σ' pre)) ->
  ZB P (l+pre.length) q (σ γ) (Fr.ren σ pre.length fr0) ps asg body N (vs.map (V.ren σ pre.length)) (st.s.emb σ pre) k
def H4(P:gk)(cf:CF0):Prop:=∀f args r,cf f args=some r->(∀s,FD P f args s fun r' s'=>r'=r/\s'=s)/\(∀v∈args,∀σ δ,v.ren σ δ=v)/\(∀σ δ,r.ren σ δ=r)
def qP(P:gk)(co:CFO):Prop:=∀f args d r,co f args d=some r->(∀(s:St),FD P f args s fun v s'=>∃γ,v=r.val s.up.length d γ/\s'=s.put s.up.length d γ r.res) /\
 (∀v∈args,∀σ δ,v.ren σ δ=v)/\(∀σ δ,r.res.ren σ δ=r.res)/\cA r.res=true
structure KW(P:gk)(E:XE):Prop where
 cf:eM P E.cf
 cy:ARD P E.cy
 c0:H4 P E.c0
 co:qP P E.co
def KW.tab{E:XE}(h:KW P E)(own:ft->Bool):HX P:=⟨own,E.co,fun f args d r hc=>(h.co f args d r hc).1⟩
def qQ(cy:CY)(d:Option Tmp)(l q γ:Nat)(args:List gq)(st:XS):Option XS:=match FT (CI st.fr) args with
 |some vs=>match cy l q γ vs st with
  |some (r,st')=>some { st' with fr:=putD st'.fr d true r }
  |none=>none
 |none=>none
def QT(cf:CF)(cy:CY)(d:Option Tmp)(f:gq)(args:List gq)(st:XS):Option XS:=match CI st.fr f with
 |some (.fn fid first cap)=>match FT (CI st.fr) args with
  |some vs=>match cf fid ((first++vs++cap).map weakV) st with
   |some (r,st')=>some { st' with fr:=putD st'.fr d true r }
   |none=>none
  |none=>none
 |some (.yld l q γ)=>qQ cy d l q γ args st
 |_=>none
def H5(co:CFO)(d:Option Tmp)(f:gq)(args:List gq)(st:XS):Option XS:=match d,CI st.fr f with
 |some d,some (.fn fid first cap)=>match FT (CI st.fr) args with
  |some vs=>match co fid ((first++vs++cap).map weakV) d with
   |some r=>some ⟨st.c+1,(d,true,r.val st.s.up.length d st.c)::st.fr,st.s.put st.s.up.length d st.c r.res⟩
   |none=>none
  |none=>none
 |_,_=>none
def cY(P:gk)(o:ft)(st:XS):Option XS:=match AJ4 P o st.fr st.s with
 |some v=>some { st with fr:=putD st.fr o.dst true v }
 |none=>none
def aE(E:XE)(own:Bool)(d:Option Tmp)(f:gq)(args:List gq)(st:XS):Option XS:=Bool.rec (QT E.cf E.cy d f args st) (match H5 E.co d f args st with
 |some st'=>some st'
 | none=>QT E.cf E.cy d f args st) own
def A3P(P:gk)(E:XE)(own:ft->Bool)(o:ft)(c:Call)(st:XS):Option XS:=match c.callee with
 |.value f=>aE E (own o) o.dst f c.args.toList st
 |.builtin .append=>xAppend P o.dst c.args.toList c.argTypes.toList st
 |.builtin .clear=>gZ P o.dst c.args.toList c.argTypes.toList st
 |.builtin .copy=>uU P o.dst c.args.toList c.argTypes.toList st
 |_=>cY P o st
def QU(P:gk)(E:XE)(own:ft->Bool)(o:ft)(st:XS):Option XS:=match o.op with
 |.alloc T=>O2 P o.dst T st
 |.box _ x=>mH o.dst x st
 |.makeMap _ r=>yU o.dst r st
 |.makeSlice T x y=>WX P o.dst T x y st
 |.store T x y=>JW P o.dst T x y st
 |.mapUpdate T x i y=>yV P o.dst T x i y st
 |.call c=>A3P P E own o c st
 |_=>cY P o st
theorem uV{o:ft}{st st':XS}(h:Bd st)(hx:cY P o st=some st'):StepX P o st st':=by
 unfold cY at hx;split at hx
 ·rename_i v hv;cases hx;exact yT h (PX hv)
 ·cases hx
theorem XR{st:XS}(h:Bd st):∀{args:List gq} {vs:List V},FT (CI st.fr) args=some vs->∀v∈vs,UL st.c v
 |[],vs,e,v,hv=>by cases e;cases hv
 |x::l,vs,e,v,hv=>by
  simp only[FT]at e;split at e
  ·rename_i y hy;split at e
   ·rename_i r hr;cases e;rcases List.mem_cons.1 hv with rfl|hv
    ·exact h.rd hy
    ·exact XR h hr v hv
   ·cases e
  ·cases e
theorem hJ{c:Nat}{v:V}(h:UL c v):UL c (weakV v):=fun σ σ' δ ha=>by rw[<-VD,<-VD,h σ σ' δ ha]
theorem AEH{c:Nat}{f:gw}{xs ys:List V}(h:UL c (.fn f xs ys)):(∀v∈xs,UL c v)/\(∀v∈ys,UL c v):=by
 refine⟨fun v hv σ σ' δ ha=>?_,fun v hv σ σ' δ ha=>?_⟩
 ·have:=h σ σ' δ ha;simp only[OZ,V.fn.injEq]at this;exact cn.1 this.2.1 v hv
 ·have:=h σ σ' δ ha;simp only[OZ,V.fn.injEq]at this;exact cn.1 this.2.2 v hv
theorem H6(l:List V):(l.map weakV).map (V.ren σ δ)=(l.map (V.ren σ δ)).map weakV:=by simp only[fh];congr 1;funext v;exact(VD v).symm
theorem eN{E:XE}(hE:KW P E){own:ft->Bool}{o:ft}(hown:own o=true){f:gq}{args:Array gq}{Ts:Array gv}{st st':XS}(h:Bd st)(ho:o.op=.call { callee:=.value f,args:=args,argTypes:=Ts })(hx:H5 E.co o.dst f args.toList st=some st'):gY P (hE.tab own) o st st':=by
 unfold H5 at hx;split at hx
 ·rename_i d fid first cap hd hf;split at hx
  ·rename_i vs hvs;split at hx
   ·rename_i r hc;cases hx;obtain⟨_,hcl,hr,hpl⟩:=hE.co _ _ _ _ hc;refine⟨yZ h hpl (fun σ σ' δ _=>by rw[hr,hr]),d,hd,fun σ pre k hk=>⟨r,?_,fun γ=>?_⟩⟩
    ·have hcd:JM true o (st.fr.ren σ pre.length)=some (fid,(first++vs++cap).map weakV):=by
      rw[LI,FN]at hvs;rw[D8]at hf;simp only[JM,ho,J6,hf,bq,OZ,JN hvs,cx.injEq,fp.injEq,true_and];have e:((first++vs++cap).map weakV).map (V.ren σ pre.length)=(first++vs++cap).map weakV:=by
       conv=>rhs;rw[<-cp ((first++vs++cap).map weakV)]
       exact bg fun v hv=>hcl v hv σ _
      rw[H6]at e;simpa only[bf]using e
     simp only[QI,ho,KW.tab,hown,if_true,hcd,hd,hc]
    ·have:=AJ5 h (d:=d) hr hk γ;rw[<-DI]at this;exact this
   ·cases hx
  ·cases hx
 ·cases hx
theorem mP{cf:CF}{cy:CY}(hcf:eM P cf)(hcy:ARD P cy){o:ft}{f:gq}{args:Array gq}{Ts:Array gv}{st st':XS}(h:Bd st)(ho:o.op=.call { callee:=.value f,args:=args,argTypes:=Ts })(hx:QT cf cy o.dst f args.toList st=some st'):StepX P o st st':=by
 unfold QT at hx;split at hx
 ·rename_i fid first cap hf;split at hx
  ·rename_i vs hvs;split at hx
   ·rename_i r st1 hr;cases hx;have b1:=AEH (h.rd hf);have b2:=XR h hvs;obtain⟨hE,hrb,hfr,hA⟩:=hcf _ _ _ _ _ hr h (fun v hv=>by
     obtain⟨u,hu,rfl⟩:=dq.1 hv;refine hJ ?_;rcases dt.1 hu with hu|hu
     ·rcases dt.1 hu with hu|hu
      ·exact b1.1 u hu
      ·exact b2 u hu
     ·exact b1.2 u hu)
    refine⟨⟨hE.c,hE.bd.putF hrb,hE.n⟩,fun σ pre k hk=>?_⟩;rw[LI,FN]at hvs;rw[D8]at hf;unfold EQ;simp only[ho,J6,hf,bq,OZ,JN hvs];refine .inl ⟨rfl,?_⟩;have:=hA σ pre (fun r s'=>k (putD (st.fr.ren σ pre.length) o.dst true r) s') fun σ' ha=>?_
    ·rw[H6]at this;simpa only[bf]using this
    ·have h1:=hk σ' ha;rw[F2,hfr,<-h.f σ σ' _ ha]at h1;exact h1
   ·cases hx
  ·cases hx
 ·rename_i l q γ hf;unfold qQ at hx;split at hx
  ·rename_i vs hvs;split at hx
   ·rename_i r st1 hr;cases hx;obtain⟨hE,hrb,hfr,fr0,ps,asg,body,N,hget,hA⟩:=hcy _ _ _ _ _ _ _ hr h (XR h hvs);refine⟨⟨hE.c,hE.bd.putF hrb,hE.n⟩,fun σ pre k hk=>?_⟩;rw[LI,FN]at hvs;rw[D8]at hf;unfold EQ;simp only[ho,J6,hf,bq,gV,JN hvs,B0,hget,AX.ren];refine⟨trivial,trivial,?_⟩;refine hA σ pre (fun r s'=>k (putD (st.fr.ren σ pre.length) o.dst true r) s') fun σ' ha=>?_;have h1:=hk σ' ha;rw[F2,hfr,<-h.f σ σ' _ ha]at h1;exact h1
   ·cases hx
  ·cases hx
 ·cases hx
theorem mQ{E:XE}(hE:KW P E){own:ft->Bool}{o:ft}{st st':XS}(h:Bd st)(hx:QU P E own o st=some st'):StepX P o st st':=by
 unfold QU at hx;split at hx
 ·rename_i T ho;exact(eJ (Ω:=HX.nothing P) h ho hx).step
 ·rename_i T x ho;exact(uQ (Ω:=HX.nothing P) h ho hx).step
 ·rename_i T r ho;exact(uR (Ω:=HX.nothing P) h ho hx).step
 ·rename_i T x y ho;exact(mI (Ω:=HX.nothing P) h ho hx).step
 ·rename_i T x y ho;exact eK h ho hx
 ·rename_i T x i y ho;exact AJ3 h ho hx
 ·rename_i c ho;obtain⟨callee,args,Ts⟩:=c;unfold A3P at hx;split at hx
  ·rename_i f hc;have hc:callee=.value f:=hc;subst hc;unfold aE at hx;cases hown:own o with
   |false=>rw[hown]at hx;exact mP hE.cf hE.cy h ho hx
   |true=>
    rw[hown]at hx
    have hx:(match H5 E.co o.dst f args.toList st with
     |some st'=>some st'
     | none=>QT E.cf E.cy o.dst f args.toList st)=some st':=hx
    split at hx
    ·rename_i st1 h1;cases hx;exact(eN hE hown h ho h1).step
    ·exact mP hE.cf hE.cy h ho hx
  ·rename_i hc;have hc:callee=.builtin .append:=hc;subst hc;exact qO h ho hx
  ·rename_i hc;have hc:callee=.builtin .clear:=hc;subst hc;exact yW h ho hx
  ·rename_i hc;have hc:callee=.builtin .copy:=hc;subst hc;exact AEG h ho hx
  ·exact uV h hx
 ·exact uV h hx
def gdX(fr:Fr)(gd:Option (Tmp×Bool)):Option Bool:=match gd with
 |none=>some true
 |some (d,want)=>match BS fr d with
  |some (c,.bool b)=>some (c&&(b==want))
  |_=>none
theorem qR(gd:Option (Tmp×Bool)):gdX fr gd=QH fr gd:=by
 cases gd with
 |none=>rfl
 |some p=>simp only[gdX,QH,FM];rfl
theorem ND{gd:Option (Tmp×Bool)}(h:QH fr gd=some g):QH (fr.ren σ δ) gd=some g:=by
 cases gd with
 |none=>exact h
 |some p=>
  simp only[QH]at h|-
  split at h
  ·rename_i c b e;simp only[Fr.get_ren,e,bq,MH];exact h
  ·cases h
def IQ(d:Option Tmp)(st:XS):XS:={ st with fr:=putD st.fr d false (.bool false) }
def AEI(P:gk)(lit:Tmp->Bool)(o:ft)(st:XS):Option XS:=match o.op,o.dst with
 | .buildSlice T _ _,some d=>Bool.rec none (match BO P T,AJ4 P o st.fr st.s with
  |some (none,e),some (.list true (x::es))=>Bool.rec none (some ⟨st.c+1,(d,true,HW (.vec e (x::es)) st.s.up.length d st.c)::st.fr,st.s.put st.s.up.length d st.c (.vec e (x::es))⟩) (dp (x::es).length maxLen)
  | _,_=>none) (lit d)
 |_,_=>none
theorem AJ7{lit:Tmp->Bool}{o:ft}{st st':XS}(h:Bd st)(hx:AEI P lit o st=some st'):K6 st st' /\
  ∀(σ:Nat->Nat) (pre:List AA) (k:Fr->St->Prop),(∀σ',AQ st.c σ σ'->k (st'.fr.ren σ' pre.length) (st'.s.emb σ' pre))->A3H P true o (st.fr.ren σ pre.length) (st.s.emb σ pre) k:=by
 unfold AEI at hx
 split at hx
 ·rename_i T len parts d ho hd;obtain⟨_,hx⟩:=ES hx;split at hx
  ·rename_i e x es hel hv;obtain⟨hc,he⟩:=KB hx;cases he;have hv:=PX hv;have hb:=TZ h (h.val hv) (ys:=x::es) rfl;refine⟨aD h rfl fun σ σ' δ ha=>by simp only[AX.ren,hb σ σ' δ ha],fun σ pre k hk=>?_⟩;have hv':=JO (σ:=σ) (pre:=pre) hv;unfold F1 at hv';simp only[ho]at hv';obtain⟨ps,h1,h2⟩:=bk.1 hv';rw[E3]at h2;refine⟨T,len,parts,d,e,_,ps,ho,rfl,hd,hel,h1,h2,by simp,by simpa [cd]using hc,fun γ=>?_⟩;have:=qN h (d:=d) (r:=.vec e (x::es)) (fun σ σ' δ ha=>by simp only[AX.ren,hb σ σ' δ ha]) hk γ;rw[DI];simpa only[HW,AX.ren]using this
  ·cases hx
 ·cases hx
def AJ8(all:List ft)(t:Tmp):Bool:=all.any fun p=>match p.op,p.dst with
 |.call { callee:=.builtin .append,.. },some d=>bz d t
 |_,_=>false
def NE(all:List ft)(st:XS):List gq->Option XS
 |[]=>none
 |x::r=>match x with
  | .tmp t=>Bool.rec (NE all st r) (match BS st.fr t with
   |some (true,.vec l q γ n)=>match st.s.get l q with
    |some (γ',.vec _ es)=>Bool.rec none (some ⟨st.c,(t,true,.list false (es.take n))::st.fr,st.s.put l q γ .dead⟩) (bz γ' γ&&dp n es.length&&cz γ st.c)
    |_=>none
   | _=>none) (AJ8 all t)
  |_=>NE all st r
def AEJ(all:List ft)(o:ft)(st:XS):Option XS:=match o.op with
 |.call c=>match c.callee with
  |.value _=>NE all st c.args.toList
  |_=>none
 |_=>none
theorem VK{all:List ft}{st st1:XS}(h:Bd st):∀{xs:List gq},NE all st xs=some st1->K6 st st1 /\
  ∀(o:ft) (σ:Nat->Nat) (pre:List AA) (k:Fr->St->Prop),EQ P true o (st1.fr.ren σ pre.length) (st1.s.emb σ pre) k->AM5 P true o (st.fr.ren σ pre.length) (st.s.emb σ pre) k
 |[],hx=>by cases hx
 |x::r,hx=>by
  unfold NE at hx;split at hx
  ·rename_i t;cases hA:AJ8 all t with
   |false=>rw[hA]at hx;exact VK h hx
   |true=>
    rw[hA]at hx
    have hx:(match BS st.fr t with
     |some (true,.vec l q γ n)=>match st.s.get l q with
      |some (γ',.vec _ es)=>Bool.rec none (some ⟨st.c,(t,true,.list false (es.take n))::st.fr,st.s.put l q γ .dead⟩) (bz γ' γ&&dp n es.length&&cz γ st.c)
      |_=>none
     | _=>none)=some st1:=hx
    split at hx
    ·rename_i l q γ n hg;split at hx
     ·rename_i γ' T es hs;obtain⟨hc,he⟩:=KB hx;simp only[bx]at hc;obtain⟨⟨h1,h2⟩,h3⟩:=hc;have h1:=bj h1;have h2:n<=es.length:=by simpa [cd]using h2
      have h3:γ<st.c:=by simpa [cg]using h3
      subst h1;cases he;rw[FM]at hg;have hb:∀σ σ' δ,AQ st.c σ σ'->es.map (ck (V.ren σ δ))=es.map (ck (V.ren σ' δ)):=fun σ σ' δ ha=>by have:=NB h hs σ σ' δ ha;simpa [AX.ren]using this
      have hv:UL st.c (.list false (es.take n)):=fun σ σ' δ ha=>by simp only[E3,cq,hb σ σ' δ ha]
      have hbd:Bd ⟨st.c,(t,true,.list false (es.take n))::st.fr,st.s.put l q γ' .dead⟩:=(h.putS (l:=l) (k:=q) (r:=.dead) h3 (fun _ _ _ _=>rfl)).putF (d:=some t) (c:=true) hv;refine⟨⟨bp _,hbd,St.put_len _ _ _ _ _⟩,fun o σ pre k hk=>⟨t,l+pre.length,q,σ γ',n,T,es.map (ck (V.ren σ pre.length)),rfl,?_,?_,by simpa using h2,?_⟩⟩
      ·rw[Fr.get_ren,hg];simp
      ·rw[B0,hs];simp[AX.ren]
      ·change EQ P true o ((st.fr.put t true _).ren _ _) _ k at hk;simp only[H3,E3,CS,AX.ren,cq]at hk;exact hk
     ·cases hx
    ·cases hx
  ·exact VK h hx
def opX(P:gk)(E:XE)(all:List ft)(o:ft)(st:XS):Option XS:=match gdX st.fr (LP all o)with
 |some true=>match AEI P E.lit o st with
  |some st'=>some st'
  |none=>match AEJ all o st with
   |some st1=>QU P E (DV all) o st1
   |none=>QU P E (DV all) o st
 |some false=>some (IQ o.dst st)
 |none=>none
theorem eO{d:Option Tmp}{st:XS}(h:Bd st):K6 st (IQ d st):=⟨bp _,h.putF (fun σ σ' δ _=>by simp),rfl⟩
theorem AEK{E:XE}(hE:KW P E){all:List ft}{o:ft}{st st':XS}(h:Bd st)(hx:opX P E all o st=some st'):K6 st st'/\∃g,(∀σ δ,QH (st.fr.ren σ δ) (LP all o)=some g) /\
  ∀(σ:Nat->Nat) (pre:List AA) (k:Fr->St->Prop),(∀σ',AQ st.c σ σ'->k (st'.fr.ren σ' pre.length) (st'.s.emb σ' pre))->TI P g o (st.fr.ren σ pre.length) (st.s.emb σ pre) k:=by
 unfold opX at hx
 rw[qR]at hx
 split at hx
 ·rename_i hg;split at hx
  ·rename_i st1 hl;cases hx;obtain⟨h1,h2⟩:=AJ7 h hl;exact⟨h1,true,fun σ δ=>ND hg,fun σ pre k hk=>.inr (.inr (.inl (h2 σ pre k hk)))⟩
  ·split at hx
   ·rename_i st1 ht;have ht':∃xs,NE all st xs=some st1:=by
     unfold AEJ at ht;split at ht
     ·split at ht
      ·exact⟨_,ht⟩
      ·cases ht
     ·cases ht
    obtain⟨xs,ht'⟩:=ht';obtain⟨hE1,hs1⟩:=VK (P:=P) h ht';obtain⟨h1,h2⟩:=mQ hE hE1.bd hx;exact⟨⟨dh hE1.c h1.c,h1.bd,h1.n.trans hE1.n⟩,true,fun σ δ=>ND hg,fun σ pre k hk=>.inr (.inr (.inr (hs1 o σ pre k (h2 σ pre k fun σ' ha=>hk σ' (ha.mono hE1.c)))))⟩
   ·obtain⟨h1,h2⟩:=mQ hE h hx;exact⟨h1,true,fun σ δ=>ND hg,fun σ pre k hk=>.inl (h2 σ pre k hk)⟩
 ·rename_i hg;cases hx;refine⟨eO h,false,fun σ δ=>ND hg,fun σ pre k hk=>.inr (.inl ⟨rfl,.bool false,?_⟩)⟩;have:=hk σ (AQ.refl _ _);simpa only[IQ,F2,MH]using this
 ·cases hx
def iA(P:gk)(E:XE)(all:List ft):List ft->XS->Option XS
 |[],st=>some st
 |o::r,st=>match opX P E all o st with
  |some st'=>iA P E all r st'
  |none=>none
theorem iB{E:XE}(hEE:KW P E){all:List ft}:∀{l:List ft} {st st':XS},Bd st->iA P E all l st=some st'->K6 st st' /\
  ∀(σ:Nat->Nat) (pre:List AA) (K:Fr->St->Prop),(∀σ',AQ st.c σ σ'->K (st'.fr.ren σ' pre.length) (st'.s.emb σ' pre))->WN P (l.map (LP all)) l (st.fr.ren σ pre.length) (st.s.emb σ pre) K
 |[],st,st',h,hx=>by cases hx;exact⟨⟨bp _,h,rfl⟩,fun σ pre K hk=>hk σ (AQ.refl _ _)⟩
 |o::l,st,st',h,hx=>by
  simp only[iA]at hx;split at hx
  ·rename_i st1 h1;obtain⟨hE,g,hg,hs⟩:=AEK hEE h h1;obtain⟨hE',hs'⟩:=iB hEE hE.bd hx;refine⟨⟨dh hE.c hE'.c,hE'.bd,hE'.n.trans hE.n⟩,fun σ pre K hk=>?_⟩;simp only[dw,WN,hg];exact hs σ pre _ fun σ' ha=>hs' σ' pre K fun σ'' ha'=>hk σ'' (ha.trans ha' hE.c)
  ·cases hx
def aF(cf:CF0)(d:Option Tmp)(f:gq)(args:List gq)(st:XS):Option XS:=match CI st.fr f with
 |some (.fn fid first cap)=>match FT (CI st.fr) args with
  |some vs=>match cf fid ((first++vs++cap).map weakV)with
   |some r=>some { st with fr:=putD st.fr d true r }
   |none=>none
  |none=>none
 |_=>none
def T3(r:Option XS):Option (XS×AK):=match r with
 |some st=>some (st,[])
 |none=>none
def xAppD(P:gk)(d:Option Tmp)(args:List gq)(Ts:List gv)(st:XS):Option (XS×AK):=match xAppG elemsOf P d args Ts st with
 |some (st',l,q)=>some (st',[(l,q),(l,q+FE)])
 |none=>none
def ANE(P:gk)(E:XE)(own:ft->Bool)(o:ft)(c:Call)(st:XS):Option (XS×AK):=match c.callee with
 |.value f=>Bool.rec (T3 (aF E.c0 o.dst f c.args.toList st)) (T3 (H5 E.co o.dst f c.args.toList st)) (own o)
 |.builtin .append=>xAppD P o.dst c.args.toList c.argTypes.toList st
 |_=>T3 (cY P o st)
def AEL(P:gk)(d:Option Tmp)(T:gv)(x y:gq)(st:XS):Option (XS×AK):=match JW P d T x y st with
 |some st'=>some (st',BJ (bz (P.cellsOf T) 1) (CI st.fr x))
 |none=>none
def iC(P:gk)(E:XE)(own:ft->Bool)(o:ft)(st:XS):Option (XS×AK):=match o.op with
 |.alloc T=>T3 (O2 P o.dst T st)
 |.box _ x=>T3 (mH o.dst x st)
 |.makeMap _ r=>T3 (yU o.dst r st)
 |.makeSlice T x y=>T3 (WX P o.dst T x y st)
 |.store T x y=>AEL P o.dst T x y st
 |.call c=>ANE P E own o c st
 |_=>T3 (cY P o st)
def qS(P:gk)(E:XE)(all:List ft)(o:ft)(st:XS):Option (XS×AK):=match gdX st.fr (LP all o)with
 |some true=>iC P E (DV all) o st
 |some false=>Bool.rec (some (IQ o.dst st,[])) none (kA (DV all) o||kW o||kP o)
 |none=>none
theorem H7{r:Option XS}{st':XS}{wr:AK}(h:T3 r=some (st',wr)):r=some st'/\wr=[]:=by
 unfold T3 at h;split at h
 ·cases h;exact⟨rfl,rfl⟩
 ·cases h
def ARE(P:gk)(Ω:HX P)(all:List ft)(o:ft)(st st':XS)(wr:AK):Prop:=K6 st st' /\
  ∀(W:AK) (σ:Nat->Nat) (pre:List AA) (k:Fr->St->Prop),(∀p∈EM P o (CI st.fr),p∉W)->(∀p∈wr,p∈W)->(∀σ',AQ st.c σ σ'->k (st'.fr.ren σ' pre.length) (st'.s.emb σ' pre))->GN P Ω (cC pre.length W) o (LP all o) (st.fr.ren σ pre.length) (st.s.emb σ pre) k
theorem AJ9{E:XE}(hE:KW P E){all:List ft}{o:ft}{st st':XS}{wr:AK}(h:Bd st)(hx:qS P E all o st=some (st',wr)):ARE P (hE.tab (DV all)) all o st st' wr:=by
 have val:∀{st'},(∀σ δ,QH (st.fr.ren σ δ) (LP all o)=some true)->cY P o st=some st'->ARE P (hE.tab (DV all)) all o st st' wr:=by
  intro st' hg hx;unfold cY at hx;split at hx
  ·rename_i v hv;cases hx;have hv:=PX hv;refine⟨⟨bp _,h.putF (h.val hv),rfl⟩,fun W σ pre k hr _ hk=>.inl ⟨true,v.ren σ pre.length,⟨hg _ _,?_⟩,?_⟩⟩
   ·have hrd:∀p∈EM P o (D5 true (st.fr.ren σ pre.length)),p∉cC pre.length W:=by rw[J6,qK,<-FN];exact mK hr
    cases hi:mJ P o (D5 true (st.fr.ren σ pre.length))with
    |true=>exact .inr (.inr (.inl (ARA (JO hv) hi hrd)))
    |false=>exact .inl ⟨_,aB _,yX (JO hv) hi hrd⟩
   ·have:=hk σ (AQ.refl _ _);rwa [F2]at this
  ·cases hx
 have new:∀{st'},(∀σ δ,QH (st.fr.ren σ δ) (LP all o)=some true)->gY P (hE.tab (DV all)) o st st'->ARE P (hE.tab (DV all)) all o st st' wr:=by intro st' hg hn;obtain⟨h1,d,hd,h2⟩:=hn;refine⟨h1,fun W σ pre k _ _ hk=>?_⟩;obtain⟨r,hr,h3⟩:=h2 σ pre k hk;exact .inr (.inl ⟨r,d,⟨hg _ _,hd,hr⟩,h3⟩)
 unfold qS at hx;rw[qR]at hx;split at hx
 ·rename_i hg;have hg':∀σ δ,QH (st.fr.ren σ δ) (LP all o)=some true:=fun σ δ=>ND hg;unfold iC at hx;split at hx
  ·rename_i T ho;exact new hg' (eJ h ho (H7 hx).1)
  ·rename_i T x ho;exact new hg' (uQ h ho (H7 hx).1)
  ·rename_i T r ho;exact new hg' (uR h ho (H7 hx).1)
  ·rename_i T x y ho;exact new hg' (mI h ho (H7 hx).1)
  ·rename_i T x y ho;unfold AEL at hx;split at hx
   ·rename_i st1 hx1;cases hx;obtain⟨hE1,_⟩:=eK h ho hx1;obtain⟨l,q,γ,r,hD,rfl⟩:=AEB ho hx1;refine⟨hE1,fun W σ pre k _ hw hk=>.inr (.inr (.inl ⟨_,_,_,_,⟨hg' _ _,?_,qF hD⟩,?_⟩))⟩
    ·have hp:=ZR hD;unfold pS at hp;simp only[ho]at hp;have main:∀off,(D5 true st.fr x=some (.ptr l q γ off)\/∃i,D5 true st.fr x=some (.eptr l q γ i off))->WOK P (cC pre.length W) o (st.fr.ren σ pre.length) (l+pre.length) q:=by
      intro off hx;have hC:JV P o (st.fr.ren σ pre.length)=some (off,P.cellsOf T):=by unfold JV;rcases hx with hx|⟨i,hx⟩<;>simp only[ho,DR,hx,bq,H1,OY]
      cases hb:bz (P.cellsOf T) 1 with
      |true=>
       have h1:=bj hb
       have hpl:BJ (bz (P.cellsOf T) 1) (CI st.fr x)=[(l,q),(l,DO q off)]:=by rw[D8,hb];rcases hx with hx|⟨i,hx⟩<;>rw[hx]<;>rfl
       rw[hpl]at hw
       refine⟨NC.2 (hw _ (by simp)),.inr fun off' n' e c h2 h3=>?_⟩
       rw[hC]at e
       cases e
       obtain rfl:c=off:=by omega
       exact NC.2 (hw _ (by simp))
      |false=>
       have hpl:BJ (bz (P.cellsOf T) 1) (CI st.fr x)=[(l,q),(l,q+D3)]:=by rw[D8,hb];rcases hx with hx|⟨i,hx⟩<;>rw[hx]<;>rfl
       rw[hpl]at hw
       exact⟨NC.2 (hw _ (by simp)),.inl (NC.2 (hw _ (by simp)))⟩
     split at hp
     ·rename_i l1 q1 γ1 off e;cases hp;exact main off (.inl e)
     ·rename_i l1 q1 γ1 i off e;cases hp;exact main off (.inr ⟨i,e⟩)
     ·cases hp
    ·have:=hk σ (AQ.refl _ _);simp only[CS]at this;exact this
   ·cases hx
  ·rename_i c ho;obtain⟨callee,args,Ts⟩:=c;unfold ANE at hx;split at hx
   ·rename_i f hc;have hc:callee=.value f:=hc;subst hc;cases hown:DV all o with
    |true=>
     rw[hown]at hx
     exact new hg' (eN hE hown h ho (H7 hx).1)
    |false=>
     rw[hown]at hx
     have hx:=(H7 hx).1
     unfold aF at hx
     split at hx
     ·rename_i fid first cap hf;split at hx
      ·rename_i vs hvs;split at hx
       ·rename_i r hr;cases hx;obtain⟨hA,hcl,hrc⟩:=hE.c0 _ _ _ hr;refine⟨⟨bp _,h.putF (fun σ σ' δ _=>by rw[hrc,hrc]),rfl⟩,fun W σ pre k _ _ hk=>.inl ⟨true,r,⟨hg' _ _,.inr (.inl ⟨fid,(first++vs++cap).map weakV,?_,hown,fun _ s=>hA s⟩)⟩,?_⟩⟩
        ·rw[LI,FN]at hvs;rw[D8]at hf;simp only[JM,ho,J6,hf,bq,OZ,JN hvs,cx.injEq,fp.injEq,true_and];have e:((first++vs++cap).map weakV).map (V.ren σ pre.length)=(first++vs++cap).map weakV:=by
          conv=>rhs;rw[<-cp ((first++vs++cap).map weakV)]
          exact bg fun v hv=>hcl v hv σ _
         rw[H6]at e;simpa only[bf]using e
        ·have:=hk σ (AQ.refl _ _);rwa [F2,hrc]at this
       ·cases hx
      ·cases hx
     ·cases hx
   ·rename_i hc;have hc:callee=.builtin .append:=hc;subst hc;unfold xAppD at hx;split at hx
    ·rename_i st1 l q e1;cases hx;obtain⟨d,r,hd,hp,rfl,hr,_,hs⟩:=aC (fun _ _ _ h=>h) h ho e1;have hra:EM P o (CI st.fr)=KV (CI st.fr) args.toList:=by simp only[EM,ho]
     refine⟨aD h hp hr,fun W σ pre k hrd hw hk=>.inr (.inr (.inr ⟨l+pre.length,q,r.ren σ pre.length,d,⟨hg' _ _,⟨NC.2 (hw _ (by simp)),NC.2 (hw _ (by simp))⟩,hd,_,aB _,hs W σ pre (by rw[<-hra];exact hrd)⟩,fun γ=>qN h hr hk γ⟩))⟩
    ·cases hx
   ·exact val hg' (H7 hx).1
  ·exact val hg' (H7 hx).1
 ·rename_i hg;cases hk:(kA (DV all) o||kW o||kP o)with
  |true=>rw[hk]at hx;cases hx
  |false=>
   rw[hk]at hx
   cases hx
   rw[fj,fj]at hk
   refine⟨eO h,fun W σ pre k _ _ hk'=>.inl ⟨false,.bool false,⟨ND hg,.inr (.inr (.inr ⟨rfl,hk.1.1,hk.1.2,hk.2⟩))⟩,?_⟩⟩
   have:=hk' σ (AQ.refl _ _)
   simpa only[IQ,F2,MH]using this
 ·cases hx
def phX(P:gk)(E:XE)(l:List ft):List Nat->XS->AK->AK->Option (XS×AK×AK)
 |[],st,rd,wr=>some (st,rd,wr)
 |i::r,st,rd,wr=>match l[i]? with
  |some o=>match qS P E l o st with
   |some (st',w)=>phX P E l r st' (cond (zB l o) [] (EM P o (CI st.fr))++rd) (w++wr)
   |none=>none
  |none=>none
def sqX(P:gk)(E:XE)(l:List ft):List Nat->XS->Option XS
 |[],st=>some st
 |i::r,st=>match l[i]? with
  |some o=>match opX P E l o st with
   |some st'=>sqX P E l r st'
   |none=>none
  |none=>none
def zA(P:gk)(E:XE)(l:List ft):XB->XS->Option XS
 |[],st=>some st
 | p :: S,st=>Bool.rec none (match phX P E l p.1 st [] []with
  | some (st1,rd,wr)=>Bool.rec none (match sqX P E l p.2 st1 with
   |some HP=>zA P E l S HP
   | none=>none) (wr.all fun p=>!(rd.contains p))
  | none=>none) (Z4 (DV l) l p.1 st.s.loc)
theorem XT{l:List ft}{i:Nat}{o:ft}(h:l[i]? = some o):bZ (l.map (LP l)) i=LP l o:=by simp[bZ,h]
theorem AKA{E:XE}{all:List ft}{o:ft}{st st':XS}{wr:AK}(ho:∃T x,o.op=.load T x)(hx:qS P E all o st=some (st',wr)):wr=[]:=by
 obtain⟨T,x,ho⟩:=ho;unfold qS at hx;split at hx
 ·unfold iC at hx;rw[ho]at hx;exact(H7 hx).2
 ·cases hk:(kA (DV all) o||kW o||kP o)with
  |true=>rw[hk]at hx;cases hx
  |false=>rw[hk]at hx;exact(fp.inj (cx.inj hx)).2.symm
 ·cases hx
theorem AEM{E:XE}(hEE:KW P E){l:List ft}:∀{R:List Nat} {st st':XS} {rd wr rd' wr':AK},Bd st->phX P E l R st rd wr=some (st',rd',wr')->K6 st st'/\(∀p∈rd,p∈rd')/\(∀p∈wr,p∈wr') /\
  ∀(W:AK) (σ:Nat->Nat) (pre:List AA) (K:Fr->St->Prop),(∀p∈rd',p∉W)->(∀p∈wr',p∈W)->(∀σ',AQ st.c σ σ'->K (st'.fr.ren σ' pre.length) (st'.s.emb σ' pre))->QS P (hEE.tab (DV l)) (cC pre.length W) l (l.map (LP l)) R (st.fr.ren σ pre.length) (st.s.emb σ pre) K
 |[],st,st',rd,wr,rd',wr',h,hx=>by cases hx;exact⟨⟨bp _,h,rfl⟩,fun _ h=>h,fun _ h=>h,fun W σ pre K _ _ hk=>hk σ (AQ.refl _ _)⟩
 |i::r,st,st',rd,wr,rd',wr',h,hx=>by
  simp only[phX]at hx;split at hx
  ·rename_i o ho;split at hx
   ·rename_i st1 w1 h1;obtain⟨hE,hs⟩:=AJ9 hEE h h1;obtain⟨hE',hr,hw,hs'⟩:=AEM hEE hE.bd hx;refine⟨⟨dh hE.c hE'.c,hE'.bd,hE'.n.trans hE.n⟩,fun p hp=>hr p (dl _ hp),fun p hp=>hw p (dl _ hp),fun W σ pre K hrd hwr hk=>?_⟩;simp only[QS,NQ,ho,XT ho];cases hz:zB l o with
    |true=>
     have hw0:w1=[]:=AKA (AM8 hz) h1
     subst hw0
     unfold wz
     rw[hz]
     exact hs [] σ pre _ (fun p _=>by simp) (fun p hp=>hp) fun σ' ha=>hs' W σ' pre K hrd hwr fun σ'' ha'=>hk σ'' (ha.trans ha' hE.c)
    |false=>
    rw[hz]at hr;unfold wz;rw[hz];exact hs W σ pre _ (fun p hp=>hrd p (hr p (fk _ hp))) (fun p hp=>hwr p (hw p (fk _ hp))) fun σ' ha=>hs' W σ' pre K hrd hwr fun σ'' ha'=>hk σ'' (ha.trans ha' hE.c)
   ·cases hx
  ·cases hx
theorem AEN{E:XE}(hEE:KW P E){l:List ft}:∀{R:List Nat} {st st':XS},Bd st->sqX P E l R st=some st'->K6 st st' /\
  ∀(σ:Nat->Nat) (pre:List AA) (K:Fr->St->Prop),(∀σ',AQ st.c σ σ'->K (st'.fr.ren σ' pre.length) (st'.s.emb σ' pre))->yK P l (l.map (LP l)) R (st.fr.ren σ pre.length) (st.s.emb σ pre) K
 |[],st,st',h,hx=>by cases hx;exact⟨⟨bp _,h,rfl⟩,fun σ pre K hk=>hk σ (AQ.refl _ _)⟩
 |i::r,st,st',h,hx=>by
  simp only[sqX]at hx;split at hx
  ·rename_i o ho;split at hx
   ·rename_i st1 h1;obtain⟨hE,g,hg,hs⟩:=AEK hEE h h1;obtain⟨hE',hs'⟩:=AEN hEE hE.bd hx;refine⟨⟨dh hE.c hE'.c,hE'.bd,hE'.n.trans hE.n⟩,fun σ pre K hk=>?_⟩;simp only[yK,ho,XT ho,hg];exact hs σ pre _ fun σ' ha=>hs' σ' pre K fun σ'' ha'=>hk σ'' (ha.trans ha' hE.c)
   ·cases hx
  ·cases hx
end Go.Pg
namespace Go.Pg
variable {P:gk}{σ σ':Nat->Nat}{δ:Nat}{pre:List AA}{s:St}{fr:Fr}{g:Bool}
def AG:Nat->V->Bool
 |0,_=>false
 |f+1,v=>match v with
  |.int ..|.bool _|.raw _|.nil|.any=>true
  |.agg cs|.tup cs|.ref cs=>cs.all (AG f)
  |.list _ es=>es.all fun e=>e.all (AG f)
  |.fn _ a b=>a.all (AG f)&&b.all (AG f)
  |_=>false
theorem NF{f:Nat}(ih:∀v,AG f v=true->v.ren σ δ=v){cs:List V}(h:cs.all (AG f)=true):cs.map (V.ren σ δ)=cs:=by
 conv=>rhs;rw[<-cp cs]
 exact bg fun v hv=>ih v (bm.1 h v hv)
theorem EY:∀(f:Nat) (v:V),AG f v=true->v.ren σ δ=v
 |0,_,h=>by cases h
 |f+1,v,h=>by
  have ih:=fun v=>EY f v;cases v with
  |agg cs=>rw[H0,NF ih (by simpa [AG]using h)]
  |tup cs=>rw[LD,NF ih (by simpa [AG]using h)]
  |ref cs=>rw[M6,NF ih (by simpa [AG]using h)]
  |list b es=>
   have h':(es.all fun e=>e.all (AG f))=true:=by simpa [AG]using h
   rw[E3]
   congr 1
   conv=>rhs;rw[<-cp es]
   exact bg fun e he=>NF ih (bm.1 h' e he)
  |fn g a b=>
   have h':a.all (AG f)=true/\b.all (AG f)=true:=by simpa [AG]using h
   rw[OZ,NF ih h'.1,NF ih h'.2]
  |int k n=>simp
  |bool b=>simp
  |raw v=>simp
  |nil=>simp
  |any=>simp
  |_=>simp[AG]at h
def QV(ks:List Nat)(fr:Fr):Fr:=List.rec (motive:=fun _=>Fr) [] (fun k _ ih=>match BS fr k with
 |some (c,v)=>(k,c,v)::ih
 | none=>ih) ks
theorem aG(fr:Fr):∀(ks:List Nat),QV ks fr=OT ks fr
 |[]=>rfl
 |k::r=>by have:=aG fr r;show(match BS fr k with|some (c,v)=>(k,c,v)::QV r fr|none=>QV r fr)=OT (k::r) fr;rw[this,FM];rfl
theorem VL:∀(ks:List Nat),OT ks (fr.ren σ δ)=(OT ks fr).ren σ δ
 |[]=>rfl
 |k::r=>by
  simp only[OT,Fr.get_ren,VL r];cases fr.get k with
  |none=>rfl
  |some p=>rfl
theorem VM{L:AA}:∀(ks:List Nat),JL ks (L.ren σ δ)=(JL ks L).ren σ δ
 |[]=>rfl
 |k::r=>by
  simp only[JL,AA.get_ren,VM r];cases L.get k with
  |none=>rfl
  |some p=>rfl
def T4:List Nat->List Nat->List Nat
 |acc,[]=>acc
 |acc,k::r=>T4 (cond (acc.any (bz k)) acc (k::acc)) r
def RK(ks ls:List Nat)(st:XS):XS:=⟨st.c,QV ks st.fr,⟨st.s.up,JL ls st.s.loc⟩⟩
theorem AEO{ks ls:List Nat}{st:XS}{l k:Nat}{x:Nat×AX}(h:(RK ks ls st).s.get l k=some x):st.s.get l k=some x:=by
 unfold St.get RK at h;unfold St.get;simp only at h;split at h
 ·rename_i e;rw[if_pos e];exact PR h
 ·rename_i e;rw[if_neg e];exact h
theorem T5{ks ls:List Nat}{st:XS}(h:Bd st):K6 st (RK ks ls st):=by
 refine⟨bp _,⟨fun σ σ' δ ha=>?_,fun σ σ' pre ha=>?_,fun l k γ fr ps asg body N ls hg=>h.lp l k γ fr ps asg body N ls (AEO hg)⟩,rfl⟩
 ·simp only[RK,aG,<-VL];rw[h.f σ σ' δ ha]
 ·have:=h.s σ σ' pre ha;simp only[St.emb,St.mk.injEq]at this;simp only[RK,St.emb,St.mk.injEq,<-VM];exact⟨this.1,by rw[this.2]⟩
theorem VN{n N:Nat}{ρ:Option Nat}{c:gx}{K:Exit->Fr->St->Prop}{ks ls:List Nat}{st:XS}(h:BI P n N ρ c K ((RK ks ls st).fr.ren σ pre.length) ((RK ks ls st).s.emb σ pre)):BI P n N ρ c K (st.fr.ren σ pre.length) (st.s.emb σ pre):=by
 refine yD ks ls ?_;have e2:(⟨(st.s.emb σ pre).up,JL ls (st.s.emb σ pre).loc⟩:St)=(RK ks ls st).s.emb σ pre:=by simp only[RK,St.emb,VM]
 rw[VL,e2,<-aG];exact h
abbrev cD:=gx->XS->Option (Exit×XS)
def QW(P:gk)(E:XE)(l:List ft)(st:XS):Option XS:=zA P E l (cX l) st
def A3Q(P:gk)(E:XE)(l:List ft)(draw:Bool)(st:XS):Option XS:=Bool.rec (iA P E l l st)
 (match AQ9 l with
  |[]=>QW P E l st
  | ds=>QW P E l (RK (T4 [] (st.fr.map (·.1))) ((T4 [] (st.s.loc.map (·.1))).filter fun k=>!(ds.any (bz k))) st)) draw
def QJ(r:Option XS):Option (Exit×XS):=match r with
 |some st=>some (.normal,st)
 |none=>none
def cZ(rec:cD)(b:gx)(r:Option (Exit×XS)):Option (Exit×XS):=match r with
 |some (.normal,st')=>rec b st'
 |r=>r
def LQ(id:Nat)(r:Option (Exit×XS)):Option (Exit×XS):=match r with
 |some (.exit i,st')=>Bool.rec (some (.exit i,st')) (some (.normal,st')) (bz i id)
 |r=>r
def mR(rec:cD)(a b:gx)(st:XS)(r:Option V):Option (Exit×XS):=match r with
 |some (.bool c)=>Bool.rec (rec b st) (rec a st) c
 |_=>none
def eP(rec:cD)(body:gx)(ks:List Nat)(n:Nat):XS->Option (Exit×XS):=Nat.rec (motive:=fun _=>XS->Option (Exit×XS)) (fun _=>none) (fun _ ih st=>match rec body (RK ks (T4 [] (st.s.loc.map (·.1))) st)with
 |some (.normal,st')=>ih st'
 | r=>r) n
def BE:Nat:=1000000
def iD(fr:Fr)(n γ:Nat)(r:Option (V×XS)):Option (Exit×XS):=match r with
 |some (_,st)=>match st.s.get n BE with
  | some (γ',.loop _ _ _ _ _ ls)=>Bool.rec none (match ls with
   |.ready=>some (.normal,⟨st.c,fr,st.s.put n BE γ .dead⟩)
   |.left .ret=>some (.ret,⟨st.c,fr,st.s.put n BE γ .dead⟩)
   |.left (.exit id)=>some (.exit id,⟨st.c,fr,st.s.put n BE γ .dead⟩)
   | _=>none) (bz γ' γ&&cz γ st.c)
  |_=>none
 |none=>none
def VO(cf:CF)(N:Nat)(g:gq)(ps:List Tmp)(asg body:gx)(st:XS):Option (Exit×XS):=match CI st.fr g with
 |some (.fn f first cap)=>iD st.fr st.s.up.length st.c (cf f ((first++[V.yld st.s.up.length BE st.c]++cap).map weakV) ⟨st.c+1,st.fr,st.s.put st.s.up.length BE st.c (.loop st.fr ps asg body N .ready)⟩)
 |_=>none
def aH(P:gk)(E:XE)(n N:Nat)(rec:cD):cD:=fun code st=>match code with
 |.skip=>some (.normal,st)
 |.label _=>some (.normal,st)
 |.region _ ops draw=>QJ (A3Q P E ops.toList draw st)
 |.seq a b=>cZ rec b (rec a st)
 |.cond c a b=>mR rec a b st (CI st.fr c)
 |.block id body=>LQ id (rec body st)
 |.loop body=>eP rec body (T4 [] (st.fr.map (·.1))) n st
 |.exit id=>some (.exit id,st)
 |.ret=>some (.ret,st)
 |.scope body=>rec body st
 |.rangeFunc g ps asg body=>VO E.cf N g ps.toList asg body st
 |_=>none
abbrev HD:=Nat->cD
def zC(P:gk)(rs:List ResultVar)(st:XS):Option (V×Nat×List AA):=match F0 P rs st.fr st.s with
 |some r=>match A1 st.s 4 r with
  |some r'=>some (r',st.c,st.s.up.map (AJ st.s))
  |none=>none
 |none=>none
def mS{α:Type}(rec:cD)(ret:XS->Option α)(code:gx)(st:XS):Option α:=match rec code st with
 |some (.ret,st')=>ret st'
 |some (.normal,st')=>ret st'
 |_=>none
def WZ{α:Type}(P:gk)(rec:HD)(ret:Func->XS->Option α)(f:gw)(args:List V)(c:Nat)(up:List AA):Option α:=match P.funcs[f]? with
 |some fn=>match fn.body with
  |some code=>Bool.rec none (mS (rec fn.ntmps) (ret fn) code ⟨c,AD 0 args,⟨up,[]⟩⟩) (dp args.length fn.ntmps)
  |none=>none
 |none=>none
def eQ(P:gk)(rec:HD)(f:gw)(args:List V)(c:Nat)(up:List AA):Option (V×Nat×List AA):=WZ P rec (fun fn=>zC P fn.results.toList) f args c up
def EZ(P:gk)(rec:HD):CF0:=fun f args=>Bool.rec none (match eQ P rec f args 0 []with
 |some (r,_,_)=>Bool.rec none (some r) (AG 9 r)
 | none=>none) (args.all (AG 9))
def B5{α:Type}:List α->Option (List α×α)
 |[]=>none
 |[x]=>some ([],x)
 |x::r=>match B5 r with
  |some (a,b)=>some (x::a,b)
  |none=>none
def BA(P:gk)(kn:CF0)(rec:HD):CF0:=fun f args=>match kn f args with
 |some r=>some r
 |none=>EZ P rec f args
def weakM:V->V
 |.nil=>.list false []
 |v=>v
def weakN:V->V
 |.nil=>.list false []
 |.agg cs=>.agg (cs.map weakM)
 |v=>v
theorem RepV.empty{G:Gh}{v:Value}(h:RepV G .nil v):RepV G (.list false []) v:=by cases h;exact .list false [] none 0 0 0 0 #[] 0 (0,0) (fun _ _=>undef) (by simp) (fun h=>by cases h) (fun h=>absurd rfl h) (fun i h=>absurd h (by simp)) (fun i h=>absurd h (by simp)) (fun i h=>absurd h (by simp))
theorem RepV.weakM{G:Gh}{x:V}{v:Value}(h:RepV G x v):RepV G (weakM x) v:=by cases x<;>first|exact h|exact h.empty
theorem iE(x:V):(weakM x).isCell=x.isCell:=by cases x<;>rfl
theorem RepV.weakN{G:Gh}{x:V}{v:Value}(h:RepV G x v):RepV G (weakN x) v:=by
 cases x with
 |nil=>exact h.empty
 |agg cs=>
  cases h with
  |agg _ arr hl hc hr=>
   refine .agg _ arr (by simpa using hl) (fun c hc'=>?_) (fun i h1 h2=>?_)
   ·obtain⟨d,hd,rfl⟩:=dq.1 hc';rw[iE];exact hc d hd
   ·simp only[List.getElem_map];exact(hr i (by simpa using h1) h2).weakM
 |_=>exact h
theorem RepA.weakN{G:Gh}{xs:List V}{vs:List Value}(h:RepA G xs vs):RepA G (xs.map Pg.weakN) vs :=
 ⟨by simpa using h.1,fun i h1 h2=>by simp only[List.getElem_map];exact(h.2 i (by simpa using h1) h2).weakN⟩
def F4(P:gk)(kn:CF0)(rec:HD):CF0:=fun f args=>match BA P kn rec f (args.map weakN)with
 |some r=>Bool.rec (BA P kn rec f args) (some r) (args.all (AG 9))
 |none=>BA P kn rec f args
def BEF(P:gk)(T:gv):Bool:=match P.underlying T with
 |some (.pointer _)=>true
 |_=>false
def BQ(P:gk)(f:gw):Bool:=match P.funcs[f]? with
 |some fn=>fn.resultTypes.toList.any (BEF P)
 |none=>false
def aI(P:gk)(kn:CF0)(rec:HD):CF:=fun f args st=>Bool.rec (match eQ P rec f args st.c (st.s.up++[st.s.loc])with
 |some (r,c,up)=>match B5 up with
  |some (u,l)=>some (r,⟨c,st.fr,⟨u,l⟩⟩)
  |none=>none
 | none=>none) (match F4 P kn rec f args with
  |some r=>some (r,st)
  | none=>none) (args.all (AG 9)&&!(BQ P f))
def mT(P:gk)(fn:Func)(st:XS):Option Mk:=match F0 P fn.results.toList st.fr st.s with
 | some (.vec l k γ n)=>Bool.rec none (match st.s.loc.get k with
  |some (γ',.vec T es)=>Bool.rec none (some ⟨.vec T es,none⟩) (bz γ' γ&&bz n es.length&&es.all fun e=>e.all (AG 9))
  | _=>none) (bz l st.s.up.length)
 | some v=>Bool.rec none (match fn.resultTypes.toList with
  |[R]=>match BO P R with
   |some (none,T)=>some ⟨.vec T [],none⟩
   |_=>none
  | _=>none) (W8 v)
 |none=>none
def GL(P:gk)(f:gw):Bool:=match P.funcs[f]? with
 |some fn=>match fn.resultTypes.toList with
  |[R]=>match BO P R with
   |some (none,_)=>true
   |_=>false
  |_=>false
 |none=>false
def H8(P:gk)(rec:HD)(f:gw)(args:List V):Option Mk:=Bool.rec none (WZ P rec (mT P) f args 0 []) (args.all (AG 9))
def koT(P:gk)(f:gw):Option gv:=match P.funcs[f]? with
 |some fn=>match fn.resultTypes.toList with
  |[R]=>match BO P R with
   |some (none,T)=>some T
   |_=>none
  |_=>none
 |none=>none
def AKB(P:gk)(f:gw)(T:gv):Prop:=∀(d:Tmp) (s:St),FD P f [.list false []] s fun v s'=>∃γ,v=(⟨.vec T [],none⟩:Mk).val s.up.length d γ/\s'=s.put s.up.length d γ (.vec T [])
open Classical in
def koV(P:gk)(f:gw):List V->Option Mk
 |[.list false []]=>match koT P f with
  |some T=>if AKB P f T then some ⟨.vec T [],none⟩ else none
  |none=>none
 |_=>none
def orM{α:Type}:Option α->Option α->Option α
 |some r,_=>some r
 |none,z=>z
def O3(P:gk)(kn:CF0)(ko:CFO)(rec:HD):CFO:=fun f args d=>match ko f args d with
 |some r=>some r
 | none=>Bool.rec (match F4 P kn rec f args with
  |some r=>some ⟨.dead,some r⟩
  | none=>none) (orM (H8 P rec f args) (koV P f args)) (GL P f)
def IU(s:St)(u:List AA)(l:AA):St:=⟨u.map (AJ s),AJ s l⟩
def O4(fr:Fr)(l q γ:Nat)(r:Option (Exit×XS)):Option (V×XS):=match r with
 |some (e,st)=>match st.s.get l q with
  | some (γ',.loop fr0 ps asg body N .busy)=>Bool.rec none (match B5 st.s.up with
   |some (u,lc)=>match e with
    |.normal=>some (.bool true,⟨st.c,fr,(IU st.s u lc).put l q γ (.loop fr0 ps asg body N .ready)⟩)
    |.ret=>some (.bool false,⟨st.c,fr,(IU st.s u lc).put l q γ (.loop fr0 ps asg body N (.left .ret))⟩)
    |.exit id=>some (.bool false,⟨st.c,fr,(IU st.s u lc).put l q γ (.loop fr0 ps asg body N (.left (.exit id)))⟩)
    |_=>none
   | none=>none) (bz γ' γ&&cz l st.s.up.length&&cz γ st.c)
  |_=>none
 |none=>none
def aJ(rec:cD)(l q γ:Nat)(body:gx)(r:Option (Exit×XS)):Option (Exit×XS):=match r with
 |some (.normal,st)=>match st.s.get l q with
  |some (γ',.loop fr0 ps asg body' N .ready)=>Bool.rec none (rec body ⟨st.c,st.fr,st.s.put l q γ (.loop fr0 ps asg body' N .busy)⟩) (bz γ' γ&&cz γ st.c)
  |_=>none
 |_=>none
def aK(rec:HD):CY:=fun l q γ vs st=>match st.s.get l q with
 |some (γ',.loop fr0 ps asg body N .ready)=>Bool.rec none (O4 st.fr l q γ (aJ (rec N) l q γ body (rec N asg ⟨st.c,JK fr0 ps vs,⟨st.s.up++[st.s.loc],[]⟩⟩))) (bz γ' γ&&bz vs.length ps.length&&cz γ st.c)
 |_=>none
def A3R(P:gk)(kn:CF0)(ko:CFO)(lit:Tmp->Bool)(rec:HD):XE:=⟨aI P kn rec,aK rec,F4 P kn rec,O3 P kn ko rec,lit⟩
def qU(fn:Func):Bool:=match fn.body with
 | some c => !(fn.name == "runtime.NumGoroutine") && E4 fn.ntmps c
 |none=>true
structure EN(P:gk):Prop where
 all:P.funcs.toList.all qU=true
 mixed:P.follows .mixedOrders=true
def aL(P:gk)(N:Nat)(rec:cD):Prop:=∀code st e st',rec code st=some (e,st')->Bd st->E4 N code=true->K6 st st'/\(∀l,e≠.goto l) /\
 ∀(n:Nat) (ρ:Option Nat) (σ:Nat->Nat) (pre:List AA) (K:Exit->Fr->St->Prop),(ρ=none\/GY code=true)->(∀σ',AQ st.c σ σ'->K e (st'.fr.ren σ' pre.length) (st'.s.emb σ' pre))->BI P n N ρ code K (st.fr.ren σ pre.length) (st.s.emb σ pre)
def aM(P:gk)(rec:HD):Prop:=∀N,aL P N (rec N)
theorem O5{α:Type}:∀{l:List α} {u:List α} {x:α},B5 l=some (u,x)->l=u++[x]
 |[],u,x,h=>by cases h
 |[y],u,x,h=>by cases h;rfl
 |y::z::r,u,x,h=>by
  simp only[B5]at h;split at h
  ·rename_i a b e;cases h;rw[O5 (l:=z::r) e];rfl
  ·cases h
theorem AEP{c:Nat}{args:List V}(h:∀v∈args,UL c v)(σ σ':Nat->Nat)(δ:Nat)(ha:AQ c σ σ'):(AD 0 args).ren σ δ=(AD 0 args).ren σ' δ:=by rw[<-PV,<-PV];congr 1;exact bg fun v hv=>h v hv σ σ' δ ha
theorem ARF{st:XS}(h:Bd st){rs:List ResultVar}{v r:V}(hv:F0 P rs st.fr st.s=some v)(hr:A1 st.s 4 v=some r):UL st.c r:=by intro σ σ' δ ha;have q1:=O1 (σ:=σ) (pre:=bw δ []) hv;have q2:=O1 (σ:=σ') (pre:=bw δ []) hv;rw[h.f σ σ' _ ha,h.s σ σ' _ ha,q2]at q1;have q:=cx.inj q1;have r1:=KS (σ:=σ) (pre:=bw δ []) 4 hr;have r2:=KS (σ:=σ') (pre:=bw δ []) 4 hr;rw[h.s σ σ' _ ha,<-q,r2]at r1;have:=cx.inj r1;rw[bc]at this;exact this.symm
theorem H9(u:List AA)(l:AA)(i k:Nat):(⟨u,l⟩:St).get i k=match(u++[l])[i]? with
  |some L=>L.get k
  |none=>none:=by
 unfold St.get
 simp only
 by_cases h:i=u.length
 ·subst h;simp
 ·rw[if_neg h];rcases Nat.lt_or_ge i u.length with h'|h'
  ·rw[dx h'];rfl
  ·rw[dv h',dm h'];have:1<=i-u.length:=by omega
   rw[dm (by simpa using this)]
theorem qV(L:AA)(k g:Nat)(r:AX)(h:((AJ s L).ren σ pre.length).get k=some (g,r)):∃r0,(L.ren σ pre.length).get k=some (g,r0)/\(r=r0\/r=HV (s.emb σ pre) r0):=by
 rw[AA.get_ren,NA]at h;rw[AA.get_ren];cases hL:L.get k with
 |none=>rw[hL]at h;cases h
 |some p=>
  rw[hL]at h
  cases h
  exact⟨p.2.ren σ pre.length,rfl,mG p.2⟩
theorem eR{s:St}{F:List AA}{u u2:List AA}{l l2:AA}(h1:u++[l]=pre++F.map (AA.ren σ pre.length))(h2:u2++[l2]=pre++(F.map (AJ s)).map (AA.ren σ pre.length)):xV (s.emb σ pre) ⟨u,l⟩ ⟨u2,l2⟩:=by
 have hlen:u2.length=u.length:=by have a1:=congrArg db h1;have a2:=congrArg db h2;simp at a1 a2;omega
 refine⟨hlen,fun i k g r hg=>?_⟩;rw[H9,h2]at hg;rw[H9,h1];rcases Nat.lt_or_ge i pre.length with hi|hi
 ·rw[dx hi]at hg|-;exact⟨r,hg,.inl rfl⟩
 ·rw[dv hi]at hg|-;simp only[fh,List.getElem?_map]at hg|-;cases hF:F[i-pre.length]? with
  |none=>rw[hF]at hg;cases hg
  |some L=>
   rw[hF]at hg
   exact qV L k g r hg
theorem qW{s:St}{c:Nat}(hs:∀σ σ' pre,AQ c σ σ'->s.emb σ pre=s.emb σ' pre){r:AX}(hr:∀σ σ' δ,AQ c σ σ'->r.ren σ δ=r.ren σ' δ)(σ σ':Nat->Nat)(δ:Nat)(ha:AQ c σ σ'):(CG s r).ren σ δ=(CG s r).ren σ' δ:=by
 unfold CG;split
 ·rename_i r' h;have q1:=LO (σ:=σ) (pre:=bw δ []) h;have q2:=LO (σ:=σ') (pre:=bw δ []) h;rw[hs σ σ' _ ha]at q1;simp only[bc]at q1 q2;rw[hr σ σ' _ ha,q2]at q1;exact(cx.inj q1).symm
 ·exact hr σ σ' δ ha
theorem mU{L:AA}{δ:Nat}(σ σ':Nat->Nat):L.ren σ δ=L.ren σ' δ↔∀p∈L,σ p.2.1=σ' p.2.1/\p.2.2.ren σ δ=p.2.2.ren σ' δ:=by unfold AA.ren;rw[cn];simp only[fp.injEq,true_and]
theorem eS{s:St}{c:Nat}(hs:∀σ σ' pre,AQ c σ σ'->s.emb σ pre=s.emb σ' pre){L:AA}(hL:∀σ σ' δ,AQ c σ σ'->L.ren σ δ=L.ren σ' δ)(σ σ':Nat->Nat)(δ:Nat)(ha:AQ c σ σ'):(AJ s L).ren σ δ=(AJ s L).ren σ' δ:=by rw[mU];intro p hp;obtain⟨x,hx,rfl⟩:=dq.1 hp;have h1:∀σ σ' δ,AQ c σ σ'->σ x.2.1=σ' x.2.1/\x.2.2.ren σ δ=x.2.2.ren σ' δ:=fun σ σ' δ ha=>(mU σ σ').1 (hL σ σ' δ ha) x hx;exact⟨(h1 σ σ' δ ha).1,qW hs (fun σ σ' δ ha=>(h1 σ σ' δ ha).2) σ σ' δ ha⟩
theorem AEQ{s:St}{c:Nat}(hs:∀σ σ' pre,AQ c σ σ'->s.emb σ pre=s.emb σ' pre):∀L∈s.up,∀σ σ' δ,AQ c σ σ'->L.ren σ δ=L.ren σ' δ:=by intro L hL σ σ' δ ha;have:=hs σ σ' (bw δ []) ha;simp only[St.emb,St.mk.injEq,bc]at this;exact cn.1 (dc this.1) L hL
theorem eT(s:St)(L:AA){k γ:Nat}{fr:Fr}{ps:List Tmp}{asg body:gx}{N:Nat}{st:LS}(h:(AJ s L).get k=some (γ,.loop fr ps asg body N st)):L.get k=some (γ,.loop fr ps asg body N st):=by
 rw[NA]at h;cases hL:L.get k with
 |none=>rw[hL]at h;cases h
 |some p=>
  rw[hL]at h
  simp only[bq,cx.injEq,fp.injEq]at h
  obtain⟨h1,h2⟩:=h
  obtain⟨g,r⟩:=p
  simp only at h1 h2
  subst h1
  congr 2
  cases r with
  |loop=>exact h2
  |box cs=>unfold CG at h2;split at h2<;>rename_i e<;>simp only[B7]at e<;>(try (split at e<;>cases e))<;>cases h2
  |vec T es=>unfold CG at h2;split at h2<;>rename_i e<;>simp only[B7]at e<;>(try (split at e<;>cases e))<;>cases h2
  |map es=>unfold CG at h2;split at h2<;>rename_i e<;>simp only[B7]at e<;>(try (split at e<;>cases e))<;>cases h2
  |dead=>unfold CG at h2;split at h2<;>rename_i e<;>simp only[B7]at e<;>cases e;cases h2
def FX(P:gk)(f:gw)(args:List V)(c:Nat)(up:List AA)(r:V)(c':Nat)(up':List AA):Prop:=c<=c'/\UL c' r/\(∀σ σ' δ,AQ c' σ σ'->up'.map (AA.ren σ δ)=up'.map (AA.ren σ' δ))/\up'.length=up.length /\
  (∀L∈up',∀k γ fr ps asg body N st,L.get k=some (γ,.loop fr ps asg body N st)->TX N ps asg body=true) /\
  ∀(σ:Nat->Nat) (pre:List AA) (s:St) (K:V->St->Prop),s.up++[s.loc]=pre++up.map (AA.ren σ pre.length)->(∀σ' u l,AQ c σ σ'->u++[l]=pre++up'.map (AA.ren σ' pre.length)->K (r.ren σ' pre.length) ⟨u,l⟩)->FD P f (args.map (V.ren σ pre.length)) s K
theorem aN(hP:EN P){rec:HD}(hrec:aM P rec){α:Type}{ret:Func->XS->Option α}{f:gw}{args:List V}{c:Nat}{up:List AA}{x:α}(hx:WZ P rec ret f args c up=some x)(hargs:∀v∈args,UL c v)
  (hup:∀σ σ' δ,AQ c σ σ'->up.map (AA.ren σ δ)=up.map (AA.ren σ' δ)) (hlp:∀L∈up,∀k γ fr ps asg body N st,L.get k=some (γ,.loop fr ps asg body N st)->TX N ps asg body=true) :
  ∃fn st',ret fn st'=some x/\Bd st'/\c<=st'.c/\st'.s.up.length=up.length/\∀(σ:Nat->Nat) (pre:List AA) (s:St) (K:V->St->Prop),s.up++[s.loc]=pre++up.map (AA.ren σ pre.length) ->
   (∀σ',AQ c σ σ'->AQ4 P fn.results.toList (s.up.length+1) K .ret (st'.fr.ren σ' pre.length) (st'.s.emb σ' pre))->FD P f (args.map (V.ren σ pre.length)) s K:=by
 unfold WZ at hx
 split at hx
 ·rename_i fn hf;split at hx
  ·rename_i code hb;obtain⟨hsz,hx1⟩:=ES hx;have hck:qU fn=true:=bm.1 hP.all fn (by
    have:=Array.mem_of_getElem? hf;simpa using this)
   simp only[qU,hb,bx,fg]at hck;have hbd:Bd ⟨c,AD 0 args,⟨up,[]⟩⟩:=⟨fun σ σ' δ ha=>AEP hargs σ σ' δ ha,fun σ σ' pre ha=>by simp only[St.emb,hup σ σ' _ ha]; rfl,fun l k γ fr ps asg body N st hg=>by
    rw[H9]at hg;split at hg
    ·rename_i L hL;rcases dt.1 (fq hL)with hm|hm
     ·exact hlp L hm _ _ _ _ _ _ _ _ hg
     ·have:L=[]:=by simpa using hm
      subst this;simp at hg
    ·cases hg⟩
   have main:∀e st',rec fn.ntmps code ⟨c,AD 0 args,⟨up,[]⟩⟩=some (e,st')->(e=.ret\/e=.normal)->ret fn st'=some x->∃fn st',ret fn st'=some x/\Bd st'/\c<=st'.c/\st'.s.up.length=up.length/\∀(σ:Nat->Nat) (pre:List AA) (s:St) (K:V->St->Prop),s.up++[s.loc]=pre++up.map (AA.ren σ pre.length) ->
     (∀σ',AQ c σ σ'->AQ4 P fn.results.toList (s.up.length+1) K .ret (st'.fr.ren σ' pre.length) (st'.s.emb σ' pre))->FD P f (args.map (V.ren σ pre.length)) s K:=by
    intro e st' h1 he h2
    obtain⟨hE,_,hC⟩:=hrec _ _ _ _ _ h1 hbd hck.2
    refine⟨fn,st',h2,hE.bd,hE.c,hE.n,fun σ pre s K hs hk=>?_⟩
    refine A3J hf hb (lM hf hb hck.1) (by simpa using hsz) ?_
    have e1:(⟨s.up++[s.loc],[]⟩:St)=(⟨up,[]⟩:St).emb σ pre:=by simp only[St.emb,hs];rfl
    rw[PV,e1]
    refine hC _ none σ pre _ (.inl rfl) fun σ' ha=>?_
    have:=hk σ' ha
    rcases he with rfl|rfl<;>exact this
   unfold mS at hx1;split at hx1
   ·rename_i st' h1;exact main _ _ h1 (.inl rfl) hx1
   ·rename_i st' h1;exact main _ _ h1 (.inr rfl) hx1
   ·cases hx1
  ·cases hx
 ·cases hx
theorem mV(hP:EN P){rec:HD}(hrec:aM P rec){f:gw}{args:List V}{c:Nat}{up:List AA}{r:V}{c':Nat}{up':List AA}(hx:eQ P rec f args c up=some (r,c',up'))(hargs:∀v∈args,UL c v)
  (hup:∀σ σ' δ,AQ c σ σ'->up.map (AA.ren σ δ)=up.map (AA.ren σ' δ)) (hlp:∀L∈up,∀k γ fr ps asg body N st,L.get k=some (γ,.loop fr ps asg body N st)->TX N ps asg body=true):FX P f args c up r c' up':=by
 obtain⟨fn,st',hret,hbd,hc,hlen,hA⟩:=aN hP hrec hx hargs hup hlp
 unfold zC at hret
 split at hret
 ·rename_i r0 hr0;split at hret
  ·rename_i r1 hr1;cases hret;refine⟨hc,ARF hbd hr0 hr1,fun σ σ' δ ha=>?_,by simpa using hlen,fun L hL k γ fr ps asg body N st hg=>?_,fun σ pre s K hs hk=>hA σ pre s K hs fun σ' ha=>?_⟩
   ·simp only[fh];exact bg fun L hL=>eS hbd.s (AEQ hbd.s L hL) σ σ' δ ha
   ·obtain⟨L0,hL0,rfl⟩:=dq.1 hL;have hg:=eT _ _ hg;obtain⟨i,hi,rfl⟩:=List.getElem_of_mem hL0;refine hbd.lp i k γ fr ps asg body N st ?_;unfold St.get;rw[if_neg (by omega),List.getElem?_eq_getElem hi];exact hg
   ·have hl2:(st'.s.emb σ' pre).up.length=s.up.length+1:=by have q:=congrArg db hs;simp only[cm,ct,cj]at q;rw[DI,hlen];omega
    rcases dn (st'.s.emb σ' pre).up with h0|⟨u,l,h0⟩
    ·rw[h0]at hl2;simp at hl2
    ·have h0:(st'.s.emb σ' pre).up=u++[l]:=by simpa using h0
     have hu:u.length+1=s.up.length+1:=by rw[<-hl2,h0];simp
     have hcl:=O0 4 (KS (σ:=σ') (pre:=pre) 4 hr1);have hres:=O1 (σ:=σ') (pre:=pre) hr0;rcases dn (pre++(st'.s.up.map (AJ st'.s)).map (AA.ren σ' pre.length))with h3|⟨u2,l2,h3⟩
     ·have h4:=congrArg db h3;have h5:=congrArg db h0;simp only[St.emb,cm,cj,List.length_nil,ct]at h4 h5;omega
     ·have h3:pre++(st'.s.up.map (AJ st'.s)).map (AA.ren σ' pre.length)=u2++[l2]:=by simpa using h3
      have hK:=hk σ' u2 l2 ha h3.symm;have hS:=eR (s:=st'.s) (F:=st'.s.up) (u:=u) (l:=l) (u2:=u2) (l2:=l2) (σ:=σ') (pre:=pre) h0.symm h3.symm;exact⟨u,l,_,h0,hu,hres,.inl ⟨_,_,by rw[hcl];exact Wk.refl _,hS,hK⟩⟩
  ·cases hret
 ·cases hret
theorem VP{c:Nat}{args:List V}(h:args.all (AG 9)=true):∀v∈args,UL c v:=fun v hv σ σ' δ _=>by rw[EY 9 v (bm.1 h v hv),EY 9 v (bm.1 h v hv)]
theorem aO(hP:EN P){rec:HD}(hrec:aM P rec):H4 P (EZ P rec):=by
 intro f args r hx;unfold EZ at hx;obtain⟨hcl,hx1⟩:=ES hx;split at hx1
 ·rename_i r0 c' up' h1;obtain⟨hr,rfl⟩:=KB hx1;obtain⟨_,_,_,hlen,_,hA⟩:=mV hP hrec h1 (VP hcl) (fun _ _ _ _=>rfl) (fun L hL=>by cases hL);have hargs:∀v∈args,∀σ δ,V.ren σ δ v=v:=fun v hv σ δ=>EY 9 v (bm.1 hcl v hv);have hup:up'=[]:=dj hlen;refine⟨fun s=>?_,hargs,fun σ δ=>EY 9 _ hr⟩;have:=hA id (s.up++[s.loc]) s (fun r' s'=>r'=r0/\s'=s) (by simp) fun σ' u l _ hu=>?_
  ·have e:args.map (V.ren id (s.up++[s.loc]).length)=args:=by
    conv=>rhs;rw[<-cp args]
    exact bg fun v hv=>hargs v hv _ _
   rw[e]at this;exact this
  ·rw[hup]at hu;simp only[dk,List.append_nil]at hu;obtain⟨e1,e2⟩:=dg hu rfl;refine⟨EY 9 _ hr,?_⟩;subst e1;simp only[List.cons.injEq,and_true]at e2;subst e2;rfl
 ·cases hx1
theorem aP(hP:EN P){kn:CF0}(hkn:H4 P kn){rec:HD}(hrec:aM P rec):H4 P (BA P kn rec):=by
 intro f args r hx;unfold BA at hx;split at hx
 ·rename_i r0 h0;cases hx;exact hkn _ _ _ h0
 ·exact aO hP hrec _ _ _ hx
theorem aQ(hP:EN P){kn:CF0}(hkn:H4 P kn){rec:HD}(hrec:aM P rec):H4 P (F4 P kn rec):=by
 intro f args r hx;unfold F4 at hx;split at hx
 ·rename_i r0 h0;cases hcl:args.all (AG 9)with
  |false=>rw[hcl]at hx;exact aP hP hkn hrec _ _ _ hx
  |true=>
   rw[hcl]at hx
   cases hx
   obtain⟨hA,_,h2⟩:=aP hP hkn hrec _ _ _ h0
   exact⟨fun s=>⟨(hA s).1,fun G vals w R hI ha hR=>(hA s).2 G vals w R hI ha.weakN hR⟩,fun v hv σ δ=>EY 9 v (bm.1 hcl v hv),h2⟩
 ·exact aP hP hkn hrec _ _ _ hx
theorem handed(hP:EN P){rec:HD}(hrec:aM P rec){f:gw}{args:List V}{ret:Func->XS->Option Mk}{r:Mk}{d:Tmp}(hcl:args.all (AG 9)=true)(hx:WZ P rec ret f args 0 []=some r)
  (hr:∀(fn:Func) (st':XS),ret fn st'=some r->st'.s.up=[]->∀(s:St) (σ':Nat->Nat),∃r0,F0 P fn.results.toList (st'.fr.ren σ' (s.up++[s.loc]).length) (st'.s.emb σ' (s.up++[s.loc]))=some r0 /\
   ((∃k γ T es,(st'.s.emb σ' (s.up++[s.loc])).loc.get k=some (γ,.vec T es)/\yC (s.up.length+1) k s.up.length d 4 r0=r.val s.up.length d γ/\r.res=.vec T es)\/(∃T,W8 r0=true/\r=⟨.vec T [],none⟩)))
  (s:St):FD P f args s fun v s'=>∃γ,v=r.val s.up.length d γ/\s'=s.put s.up.length d γ r.res:=by
 obtain⟨fn,st',hret,hbd,hc,hlen,hA⟩:=aN hP hrec hx (VP hcl) (fun _ _ _ _=>rfl) (fun L hL=>by cases hL)
 have hargs:∀v∈args,∀σ δ,V.ren σ δ v=v:=fun v hv σ δ=>EY 9 v (bm.1 hcl v hv)
 have hup:st'.s.up=[]:=dj hlen
 have:=hA id (s.up++[s.loc]) s (fun v s'=>∃γ,v=r.val s.up.length d γ/\s'=s.put s.up.length d γ r.res) (by simp) fun σ' _=>?_
 ·have e:args.map (V.ren id (s.up++[s.loc]).length)=args:=by
   conv=>rhs;rw[<-cp args]
   exact bg fun v hv=>hargs v hv _ _
  rw[e]at this;exact this
 ·obtain⟨r0,h1,h2⟩:=hr fn st' hret hup s σ';refine⟨s.up,s.loc,r0,by simp[St.emb,hup],rfl,h1,.inr ?_⟩;rcases h2 with⟨k,γ,T,es,h3,h4,h5⟩|⟨T,h3,h4⟩
  ·exact .inl ⟨k,γ,T,es,d,h3,γ,h4,by rw[h5]⟩
  ·subst h4;exact .inr ⟨d,T,h3,fun γ=>⟨γ,rfl,rfl⟩⟩
theorem zD(hP:EN P){rec:HD}(hrec:aM P rec){f:gw}{args:List V}{r:Mk}{d:Tmp}(hx:H8 P rec f args=some r) :
  (∀(s:St),FD P f args s fun v s'=>∃γ,v=r.val s.up.length d γ/\s'=s.put s.up.length d γ r.res)/\(∀v∈args,∀σ δ,v.ren σ δ=v)/\(∀σ δ,r.res.ren σ δ=r.res)/\cA r.res=true:=by
 unfold H8 at hx
 obtain⟨hcl,hx1⟩:=ES hx
 have hargs:∀v∈args,∀σ δ,V.ren σ δ v=v:=fun v hv σ δ=>EY 9 v (bm.1 hcl v hv)
 have main:∀(fn:Func) (st':XS),mT P fn st'=some r->((∀σ δ,r.res.ren σ δ=r.res)/\cA r.res=true)/\(st'.s.up=[]->∀(s:St) (σ':Nat->Nat),∃r0,F0 P fn.results.toList (st'.fr.ren σ' (s.up++[s.loc]).length) (st'.s.emb σ' (s.up++[s.loc]))=some r0 /\
   ((∃k γ T es,(st'.s.emb σ' (s.up++[s.loc])).loc.get k=some (γ,.vec T es)/\yC (s.up.length+1) k s.up.length d 4 r0=r.val s.up.length d γ/\r.res=.vec T es)\/(∃T,W8 r0=true/\r=⟨.vec T [],none⟩))):=by
  intro fn st' hret
  unfold mT at hret
  split at hret
  ·rename_i l k γ n hres;obtain⟨hl,hret⟩:=ES hret;have hl:=bj hl;split at hret
   ·rename_i γ' T es hget;obtain⟨hc2,he⟩:=KB hret;cases he;simp only[bx]at hc2;obtain⟨⟨h1,h2⟩,h3⟩:=hc2;have h1:=bj h1;have h2:=bj h2;subst h1;subst h2;have hes:∀σ δ,es.map (ck (V.ren σ δ))=es:=fun σ δ=>by
     conv=>rhs;rw[<-cp es]
     exact bg fun e he=>NF (fun v=>EY 9 v) (bm.1 h3 e he)
    refine⟨⟨fun σ δ=>by simp only[AX.ren,hes],rfl⟩,fun hup s σ'=>⟨_,O1 hres,.inl ⟨k,σ' γ',T,es,?_,?_,rfl⟩⟩⟩
    ·rw[LF,hget];simp only[bq,AX.ren,hes]
    ·rw[hup]at hl;subst hl;simp[yC,Mk.val,HW]
   ·cases hret
  ·rename_i v hnv hres;obtain⟨hn,hret⟩:=ES hret;split at hret
   ·split at hret
    ·rename_i T _;cases hret;exact⟨⟨fun _ _=>rfl,rfl⟩,fun hup s σ'=>⟨_,O1 hres,.inr ⟨_,by rw[AEE];exact hn,rfl⟩⟩⟩
    ·cases hret
   ·cases hret
  ·cases hret
 obtain⟨fn,st',hret,_⟩:=aN hP hrec hx1 (VP hcl) (fun _ _ _ _=>rfl) (fun L hL=>by cases hL)
 exact⟨handed hP hrec hcl hx1 fun fn st' h=>(main fn st' h).2,hargs,(main fn st' hret).1⟩
theorem CU.nought{G:Gh}{s:St}{w:World}(hI:CU G s w)(d γ:Nat):CU G (s.put s.up.length d γ .dead) w:=by
 have look:∀{l k x},(s.put s.up.length d γ .dead).get l k=some x->x=(γ,.dead)\/s.get l k=some x:=fun {l k x} h=>by
  rw[St.get_putLoc]at h;split at h
  ·exact .inl (cx.inj h).symm
  ·exact .inr h
 refine⟨hI.sl,fun l k g r h=>?_,fun l k g r l' k' g' r' b h1 h2 h3 h4=>?_,fun l k g r b h1 h2=>?_,hI.fresh,hI.env⟩
 ·rcases look h with e|e
  ·cases e;trivial
  ·exact hI.res _ _ _ _ e
 ·rcases look h1 with e|e1
  ·cases e;cases h3
  ·rcases look h2 with e|e2
   ·cases e;cases h4
   ·exact hI.sep _ _ _ _ _ _ _ _ _ e1 e2 h3 h4
 ·rcases look h1 with e|e
  ·cases e;cases h2
  ·exact hI.out _ _ _ _ _ e h2
theorem ARG{f:gw}{args:List V}{r:Mk}{d:Tmp}(hx:koV P f args=some r) :
  (∀(s:St),FD P f args s fun v s'=>∃γ,v=r.val s.up.length d γ/\s'=s.put s.up.length d γ r.res)/\(∀v∈args,∀σ δ,v.ren σ δ=v)/\(∀σ δ,r.res.ren σ δ=r.res)/\cA r.res=true:=by
 unfold koV at hx
 split at hx
 ·split at hx
  ·rename_i T _;split at hx
   ·rename_i hv;cases hx;exact⟨fun s=>hv d s,fun v hm σ δ=>by rw[List.mem_singleton.1 hm];rfl,fun σ δ=>rfl,rfl⟩
   ·cases hx
  ·cases hx
 ·cases hx
theorem AER(hP:EN P){kn:CF0}(hkn:H4 P kn){ko:CFO}(hko:qP P ko){rec:HD}(hrec:aM P rec):qP P (O3 P kn ko rec):=by
 intro f args d r hx;unfold O3 at hx;split at hx
 ·rename_i r0 h0;cases hx;exact hko _ _ _ _ h0
 ·cases hs:GL P f with
  |true=>
   rw[hs]at hx
   have hx:orM (H8 P rec f args) (koV P f args)=some r:=hx
   cases h1:H8 P rec f args with
   |some r1=>
    rw[h1]at hx
    cases hx
    exact zD hP hrec h1
   |none=>
    rw[h1]at hx
    exact ARG hx
  |false=>
   rw[hs]at hx
   have hx:(match F4 P kn rec f args with
    |some r=>some (⟨.dead,some r⟩:Mk)
    | none=>none)=some r:=hx
   split at hx
   ·rename_i r0 h0;cases hx;obtain⟨hA,h1,h2⟩:=aQ hP hkn hrec _ _ _ h0;refine⟨fun s=>⟨(hA s).1,fun G vals w R hI ha hR=>(hA s).2 G vals w R hI ha fun G' v u w' s' hle hI' hv hlen hk=>?_⟩,h1,fun _ _=>rfl,rfl⟩;obtain⟨rfl,rfl⟩:=hk;exact hR G' _ u w' (s'.put s'.up.length d 0 .dead) hle (hI'.nought d 0) hv (St.put_len _ _ _ _ _) ⟨0,(h2 _ _).symm,rfl⟩
   ·cases hx
theorem AES(hP:EN P){kn:CF0}(hkn:H4 P kn){rec:HD}(hrec:aM P rec):eM P (aI P kn rec):=by
 intro f args st r st' hx hbd hargs;unfold aI at hx;cases hcl:(args.all (AG 9)&&!(BQ P f))with
 |true=>
  rw[hcl]at hx
  have hx:(match F4 P kn rec f args with|some r=>some (r,st)|none=>none)=some (r,st'):=hx
  split at hx
  ·rename_i r0 h0;cases hx;obtain⟨hA,h1,h2⟩:=aQ hP hkn hrec _ _ _ h0;refine⟨⟨bp _,hbd,rfl⟩,fun σ σ' δ _=>by rw[h2,h2],rfl,fun σ pre K hk=>?_⟩;have e:args.map (V.ren σ pre.length)=args:=by
    conv=>rhs;rw[<-cp args]
    exact bg fun v hv=>h1 v hv _ _
   rw[e];refine(hA (st.s.emb σ pre)).mono fun r' s' q5=>?_;obtain⟨rfl,rfl⟩:=q5;have:=hk σ (AQ.refl _ _);rwa [h2]at this
  ·cases hx
 |false=>
  rw[hcl]at hx
  have hx:(match eQ P rec f args st.c (st.s.up++[st.s.loc])with
   |some (r,c,up)=>match B5 up with
    |some (u,l)=>some (r,(⟨c,st.fr,⟨u,l⟩⟩:XS))
    |none=>none
   | none=>none)=some (r,st'):=hx
  split at hx
  ·rename_i r0 c0 up0 h1;split at hx
   ·rename_i u l hu;cases hx;have hup0:=O5 hu;have hsb:∀σ σ' δ,AQ st.c σ σ'->(st.s.up++[st.s.loc]).map (AA.ren σ δ)=(st.s.up++[st.s.loc]).map (AA.ren σ' δ):=by intro σ σ' δ ha;have:=hbd.s σ σ' (bw δ []) ha;simp only[St.emb,St.mk.injEq,bc]at this;simp only[bf,dw,dk];rw[dc this.1,this.2]
    have hlp:∀L∈st.s.up++[st.s.loc],∀k γ fr ps asg body N st,L.get k=some (γ,.loop fr ps asg body N st)->TX N ps asg body=true:=by intro L hL k γ fr ps asg body N ls hg;obtain⟨i,hi⟩:=List.getElem?_of_mem hL;refine hbd.lp i k γ fr ps asg body N ls ?_;have:=H9 st.s.up st.s.loc i k;rw[hi]at this;exact this.trans hg
    obtain⟨hc,hrb,hub,hlen,hlp',hA⟩:=mV hP hrec h1 hargs hsb hlp;subst hup0;refine⟨⟨hc,⟨fun σ σ' δ ha=>hbd.f σ σ' δ (ha.mono hc),fun σ σ' pre ha=>?_,fun i k γ fr ps asg body N ls hg=>?_⟩,?_⟩,hrb,rfl,fun σ pre K hk=>?_⟩
    ·have:=hub σ σ' pre.length ha;simp only[bf,dw,dk]at this;obtain⟨e1,e2⟩:=dg this rfl;simp only[List.cons.injEq,and_true]at e2;simp only[St.emb,e1,e2]
    ·rw[H9]at hg;split at hg
     ·rename_i L hL;exact hlp' L (fq hL) _ _ _ _ _ _ _ _ hg
     ·cases hg
    ·simp only[cm,ct]at hlen;simp only;omega
    ·refine hA σ pre (st.s.emb σ pre) K (by simp[St.emb]) fun σ' u' l' ha hu'=>?_;have:=hk σ' ha;simp only[bf,dw,dk,<-List.append_assoc]at hu';obtain⟨e1,e2⟩:=dg hu' rfl;simp only[List.cons.injEq,and_true]at e2;subst e1;subst e2;exact this
   ·cases hx
  ·cases hx
end Go.Pg
