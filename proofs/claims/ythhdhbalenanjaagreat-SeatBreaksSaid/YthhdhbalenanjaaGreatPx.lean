/- Running a Go function upon abstract values, by computing: one operation, and that it is what the walk asks. No program in sight. -/
import Derived.Test.YthhdhbalenanjaaGreatP5
noncomputable section
open Go renaming Oper->fp,Program->ft,Operand->gk,TypeId->gq,FuncId->gv,Code->gw
open Nat renaming eq_of_beq_eq_true->bj,beq->bz,lt_succ_self->bm,le_refl->bn,le_succ->cq,blt->cx,ble_eq->cz,blt_eq->cd,le_trans->dg,ble->dn,lt_of_lt_of_le->fq
open Option renaming bind_eq_some_iff->bk,map_some->bq,bind_some->bg,some->cw
open List renaming replicate->bw,length_replicate->bb,map_append->bc,map_congr_left->bf,all_eq_true->bh,length_map->bp,map->cj,map_take->ck,length_append->cg,map_inj_left->cm,map_id->cn,length_singleton->cp,eq_nil_of_length_eq_zero->ct,map_nil->dj,mem_map->dk,getElem?_append_right->dq,map_cons->dv,getElem?_append_left->dw,map_replicate->dx,length->dz,append_cancel_left->db,map_flatten->dc,append_inj'->df,mem_append_right->dh,getElem?_eq_none->dl,eq_nil_or_concat->dm,getElem?_mapIdx->dp,mem_append->dr,mem_append_left->fj,mem_of_getElem?->fk,all_map->fw,length_mapIdx->fx,map_map->fg
open Bool renaming and_eq_true->bx,or_eq_false_iff->dt,not_eq_true'->fc
open Prod renaming mk->fh
namespace Go.Pg
variable {P:ft}{Ω:HP P}{σ σ':Nat->Nat}{δ:Nat}{pre:List AA}{s:St}{fr:Fr}{g:Bool}
def LU(all:List fp)(o:fp):Option (Tmp×Bool):=match o.guard with
 |none=>none
 |some (j,w)=>match all[j]? with
  |some p=>match p.dst with
   |some d=>some (d,w)
   |none=>none
  |none=>none
def yN(all:List fp):Bool:=all.all fun o=>HM all o (LU all o)
theorem kZ{all:List fp}:∀{l:List fp},(∀o∈l,HM all o (LU all o)=true)->J3 all (l.map (LU all)) l=true
 |[],_=>rfl
 |o::l,h=>by simp only[dv,J3,bx];exact⟨h o (by simp),kZ fun p hp=>h p (by simp[hp])⟩
theorem U9{all:List fp}(h:yN all=true):∀o∈all,HM all o (LU all o)=true:=fun o ho=>bh.1 h o ho
def A67(d:Tmp)(p:fp):Bool:=match p.op with
 |.call { callee:=.builtin .append,args,.. }=>match args.toList with
  |.tmp t::_=>bz t d
  |_=>false
 |.call { callee:=.value (.func _),args,argTypes }=>match args.toList,argTypes.toList with
  |[.tmp t,_],[T,U]=>bz t d&&bz T p.type&&!(bz U T)
  |_,_=>false
 |_=>false
def AVD(d:Tmp)(p:fp):Bool:=match p.op with
 |.store _ _ (.tmp t)=>bz t d
 |_=>false
def DZ(l:List fp)(o:fp):Bool:=match o.op,o.dst with
 |.call { callee:=.value _,.. },some d=>l.any fun p=>A67 d p||AVD d p
 |_,_=>false
def kS(o:fp):Bool:=match o.op with
 |.mapUpdate ..|.insert ..=>true
 |.call { callee:=.builtin b,.. }=>match b with
  |.len|.max|.min|.cap|.append=>false
  |_=>true
 |_=>false
def kC(o:fp):Bool:=match o.op with
 |.call { callee:=.value _,.. }=>true
 |_=>false
def onB(o:fp)(A:List Nat):Bool:=o.after.any fun e=>Region.binds .any e&&A.contains e.on
def A68(o:fp)(l:List fp)(A:List Nat):Bool:=kW o&&l.isEmpty&&A.all fun j=>o.after.any fun e=>Region.binds .any e&&bz e.on j
def A69(o:fp)(i:Nat):List Nat->List Nat
 |[]=>[i]
 |a::A=>cond (onB o [a]) (i::a::A) (a::A69 o i A)
def KN(own:fp->Bool):List fp->Nat->List Nat->List Nat->List Nat->List Nat->List Nat->List Nat->List Nat×List Nat
 |[],_,R,Q,A,S,R2,T=>(R.reverse++Q.reverse++A.reverse++S.reverse++R2.reverse,T.reverse)
 |o::l,i,R,Q,A,S,R2,T=>
  cond (onB o T||kS o||A68 o l (R++Q++A++S++R2++T)||(kC o&&(onB o (Q++S++R2)||(!(own o)&&onB o A)))) (KN own l (i+1) R Q A S R2 (i::T))
   (cond (kP o) (cond (onB o (A++S++R2)) (KN own l (i+1) R Q A S (i :: R2) T) (KN own l (i+1) R (i :: Q) A S R2 T))
   (cond (kW o) (cond (onB o R2) (KN own l (i+1) R Q A S (i :: R2) T) (KN own l (i+1) R Q A (i :: S) R2 T))
    (cond (onB o (Q++S++R2)||(cond (kA own o) (!R2.isEmpty) (onB o (A.take 1)))) (KN own l (i+1) R Q A S (i :: R2) T)
     (cond (kA own o) (KN own l (i+1) R Q (i :: A) S R2 T) (cond (onB o A) (KN own l (i+1) R Q (A69 o i A) S R2 T) (KN own l (i+1) (i :: R) Q A S R2 T))))))
def ARM(af:Nat):List (Nat×Nat)->Nat->Nat
 |[],m=>m
 |p::r,m=>HQ (cond (WV af p.1) (Nat.lor m (Nat.lor p.2 (Nat.shiftLeft 1 p.1))) m) (ARM af r)
def A7A:List (Nat×Nat)->List (Nat×Nat)->List (Nat×Nat)
 |[],acc=>acc
 |p::r,acc=>HQ (ARM p.2 acc 0) fun m=>A7A r ((p.1,m)::acc)
def AVE(l:List fp):List Nat:=((A7A (afL l 0) []).filterMap fun p=>cond (bz p.2 (Nat.sub (Nat.pow 2 p.1) 1)) (match l[p.1]? with
 |some o=>cond (kC o&&bz (K6 p.1 (afL l 0) 0) (Nat.sub (Nat.pow 2 l.length) (Nat.pow 2 (p.1+1)))) (some p.1) none
 | none=>none) none).reverse
def ARN(own:fp->Bool)(l:List fp):Nat->List Nat->YY
 |i,[]=>[KN own (l.drop i) i [] [] [] [] [] []]
 |i,c::cs=>match KN own ((l.drop i).take (c-i)) i [] [] [] [] [] []with
  |(R,T)=>(R,T++[c])::ARN own l (c+1) cs
def fP(l:List fp):YY:=ARN (DZ l) l 0 (AVE l)
def AVF(l:List fp):List Nat:=l.filterMap fun o=>cond (kA (DZ l) o) o.dst none
def GO:gw->Bool
 |.seq a b=>GO a&&GO b
 |.cond _ a b=>GO a&&GO b
 |.block _ c=>GO c
 |.loop c=>GO c
 |.scope _=>false
 |.rangeFunc ..=>false
 |_=>true
def E6(N:Nat):gw->Bool
 |.region _ ops draw=>cond draw (PL (DZ ops.toList) N (ops.toList.map (LU ops.toList)) (fP ops.toList) ops.toList) (MO N ops.toList&&yN ops.toList)
 |.seq a b=>E6 N a&&E6 N b
 |.cond _ a b=>E6 N a&&E6 N b
 |.block _ c=>E6 N c
 |.loop c=>E6 N c
 |.scope c=>E6 N c
 |.rangeFunc _ ps asg body=>ps.toList.all (fun p=>cx p N)&&GO asg&&GO body&&E6 N asg&&E6 N body
 |_=>true
def VA(N:Nat)(ps:List Tmp)(asg body:gw):Bool:=ps.all (fun p=>cx p N)&&GO asg&&GO body&&E6 N asg&&E6 N body
def VB(s:St):Prop:=∀l k γ fr ps asg body N st,s.get l k=some (γ,.loop fr ps asg body N st)->VA N ps asg body=true
theorem uM{s:St}{l k γ:Nat}{r:A0}{l' k':Nat}{x:Nat×A0}(h:(s.put l k γ r).get l' k'=some x):x=(γ,r)\/s.get l' k'=some x:=by
 unfold St.put at h;unfold St.get at h|-;by_cases e1:l=s.up.length
 ·rw[if_pos e1]at h;by_cases e2:l'=s.up.length
  ·rw[if_pos e2]at h|-;rw[AA.get_put]at h;split at h
   ·exact .inl (cw.inj h).symm
   ·exact .inr h
  ·rw[if_neg e2]at h|-;exact .inr h
 ·rw[if_neg e1]at h;have hl:({ s with up:=s.up.modify l (fun L=>L.put k γ r) }:St).up.length=s.up.length:=by simp
  rw[hl]at h;by_cases e2:l'=s.up.length
  ·rw[if_pos e2]at h|-;exact .inr h
  ·rw[if_neg e2]at h|-;rw[List.getElem?_modify]at h;cases hu:s.up[l']? with
   |none=>simp[hu]at h
   |some L=>
    rw[hu]at h
    simp only[Option.map_eq_map,bq]at h
    by_cases e3:l=l'
    ·simp only[e3,if_true,AA.get_put]at h;split at h
     ·exact .inl (cw.inj h).symm
     ·exact .inr h
    ·simp only[e3,if_false]at h;exact .inr h
theorem VB.put{s:St}(h:VB s){l k γ:Nat}{r:A0}(hr:∀fr ps asg body N st,r=.loop fr ps asg body N st->VA N ps asg body=true):VB (s.put l k γ r):=by
 intro l' k' γ' fr ps asg body N st hg;rcases uM hg with e|e
 ·cases e;exact hr _ _ _ _ _ _ rfl
 ·exact h _ _ _ _ _ _ _ _ _ e
structure XS where
 c:Nat
 fr:Fr
 s:St
def A3(fr:Fr)(k:Nat):Option (Bool×V):=List.rec (motive:=fun _=>Option (Bool×V)) none (fun x _ ih=>Bool.rec ih (some x.2) (bz k x.1)) fr
theorem GS:∀(fr:Fr) (k:Nat),A3 fr k=fr.get k
 |[],_=>rfl
 |(j,x)::fr,k=>by
  show(Bool.rec (A3 fr k) (some x) (bz k j):Option (Bool×V))=if k=j then some x else Fr.get fr k
  by_cases h:k=j
  ·subst h;rw[if_pos rfl,Nat.beq_refl]
  ·rw[if_neg h,<-GS fr k];have:bz k j=false:=by
    cases hb:bz k j with
    |false=>rfl
    |true=>exact absurd (bj hb) h
   rw[this]
def CP(fr:Fr)(x:gk):Option V:=match x with
 |.tmp t=>match A3 fr t with
  |some (true,v)=>some v
  |_=>none
 |.const v=>CR v
 |.func f=>some (.fn f [] [])
 |.global _=>none
theorem D8(x:gk):CP fr x=D3 true fr x:=by
 cases x with
 |tmp t=>
  simp only[CP,D3,rd,GS]
  cases fr.get t with
  |none=>rfl
  |some p=>
   obtain⟨c,v⟩:=p
   cases c<;>rfl
 |const v=>
  simp only[CP,D3,rd]
  cases CR v<;>rfl
 |func f=>rfl
 |global g=>rfl
theorem FN:CP fr=D3 true fr:=funext fun x=>D8 x
def AU(c:Nat)(σ σ':Nat->Nat):Prop:=∀i,i<c->σ i=σ' i
theorem AU.refl(c:Nat)(σ:Nat->Nat):AU c σ σ:=fun _ _=>rfl
theorem AU.trans{c c':Nat}{σ σ' σ'':Nat->Nat}(h:AU c σ σ')(h':AU c' σ' σ'')(hc:c<=c'):AU c σ σ'':=fun i hi=>(h i hi).trans (h' i (fq hi hc))
theorem AU.mono{c c':Nat}(h:AU c' σ σ')(hc:c<=c'):AU c σ σ':=fun i hi=>h i (fq hi hc)
theorem AU.upd(c γ:Nat)(σ:Nat->Nat):AU c σ (fun i=>if i=c then γ else σ i):=fun i hi=>by simp[Nat.ne_of_lt hi]
structure Bd(st:XS):Prop where
 f:∀σ σ' δ,AU st.c σ σ'->st.fr.ren σ δ=st.fr.ren σ' δ
 s:∀σ σ' pre,AU st.c σ σ'->st.s.emb σ pre=st.s.emb σ' pre
 lp:VB st.s
def V5(c:Nat)(v:V):Prop:=∀σ σ' δ,AU c σ σ'->v.ren σ δ=v.ren σ' δ
structure KZ(st st':XS):Prop where
 c:st.c<=st'.c
 bd:Bd st'
 n:st'.s.up.length=st.s.up.length
def StepX(P:ft)(o:fp)(st st':XS):Prop:=KZ st st'/\∀(σ:Nat->Nat) (pre:List AA) (k:Fr->St->Prop),(∀σ',AU st.c σ σ'->k (st'.fr.ren σ' pre.length) (st'.s.emb σ' pre))->ES P true o (st.fr.ren σ pre.length) (st.s.emb σ pre) k
theorem FV(d:Option Tmp)(c:Bool)(v:V):(putD fr d c v).ren σ δ=putD (fr.ren σ δ) d c (v.ren σ δ):=by cases d<;>rfl
theorem HV(d:Nat)(c:Bool)(v:V):(fr.put d c v).ren σ δ=(fr.ren σ δ).put d c (v.ren σ δ):=rfl
theorem V5.mono{c c':Nat}{v:V}(h:V5 c v)(hc:c<=c'):V5 c' v:=fun σ σ' δ ha=>h σ σ' δ (ha.mono hc)
theorem Bd.val{st:XS}(h:Bd st){o:fp}{v:V}(hv:FT P g o st.fr st.s=some v):V5 st.c v:=by intro σ σ' δ ha;have h1:=JG (σ:=σ) (pre:=bw δ []) hv;have h2:=JG (σ:=σ') (pre:=bw δ []) hv;rw[h.f σ σ' _ ha,h.s σ σ' _ ha,h2]at h1;have:=cw.inj h1;rw[bb]at this;exact this.symm
theorem Bd.rd{st:XS}(h:Bd st){x:gk}{v:V}(hv:CP st.fr x=some v):V5 st.c v:=by intro σ σ' δ ha;rw[D8]at hv;have h1:=DS (g:=true) (fr:=st.fr) (σ:=σ) (δ:=δ) x;have h2:=DS (g:=true) (fr:=st.fr) (σ:=σ') (δ:=δ) x;rw[h.f σ σ' _ ha,h2,hv]at h1;simpa using h1.symm
theorem Bd.putF{st:XS}(h:Bd st){d:Option Tmp}{c:Bool}{v:V}(hv:V5 st.c v):Bd { st with fr:=putD st.fr d c v } :=
 ⟨fun σ σ' δ ha=>by simp only[FV];rw[h.f σ σ' δ ha,hv σ σ' δ ha],h.s,h.lp⟩
def eU:A0->Bool
 |.loop ..=>false
 |_=>true
theorem W1{r:A0}(h:eU r=true):∀fr ps asg body N st,r=.loop fr ps asg body N st->VA N ps asg body=true:=by intro fr ps asg body N st e;subst e;cases h
theorem Bd.putS{st:XS}(h:Bd st){l k γ:Nat}{r:A0}(hγ:γ<st.c)(hr:∀σ σ' δ,AU st.c σ σ'->r.ren σ δ=r.ren σ' δ)(hp:eU r=true:=by rfl):Bd { st with s:=st.s.put l k γ r } :=
 ⟨h.f,fun σ σ' pre ha=>by simp only[CU];rw[h.s σ σ' pre ha,hr σ σ' _ ha,ha γ hγ],h.lp.put (W1 hp)⟩
theorem ACI{o:fp}{st:XS}{v:V}(h:Bd st)(hv:FT P true o st.fr st.s=some v):StepX P o st { st with fr:=putD st.fr o.dst true v }:=by refine⟨⟨bn _,h.putF (h.val hv),rfl⟩,fun σ pre k hk=>DY (Ω:=HP.nothing P) (.inl ⟨_,JG hv,?_⟩)⟩;have:=hk σ (AU.refl _ _);rwa [FV]at this
theorem dA{c:Nat}{v:V}(h:V5 c v)(σ σ':Nat->Nat)(δ:Nat)(ha:AU c σ σ'):(BD v).map (V.ren σ δ)=(BD v).map (V.ren σ' δ):=by rw[<-EZ,<-EZ,h σ σ' δ ha]
def lA(P:ft)(Ω:HP P)(o:fp)(st st':XS):Prop:=KZ st st'/\∃d,o.dst=some d/\∀(σ:Nat->Nat) (pre:List AA) (k:Fr->St->Prop),(∀σ',AU st.c σ σ'->k (st'.fr.ren σ' pre.length) (st'.s.emb σ' pre)) ->
 ∃r,Q5 P Ω o (st.fr.ren σ pre.length)=some r/\∀γ,k ((st.fr.ren σ pre.length).put d true (r.val (st.s.emb σ pre).up.length d γ)) ((st.s.emb σ pre).put (st.s.emb σ pre).up.length d γ r.res)
theorem lA.step{o:fp}{st st':XS}(h:lA P Ω o st st'):StepX P o st st':=by obtain⟨h1,d,hd,h2⟩:=h;refine⟨h1,fun σ pre k hk=>?_⟩;obtain⟨r,hr,h3⟩:=h2 σ pre k hk;exact DY (Ω:=Ω) (.inr (.inr ⟨r,d,rfl,hd,hr,h3⟩))
theorem iK{o:fp}{st:XS}{d:Nat}{cs:List V}(h:Bd st)(hd:o.dst=some d)(hcs:∀σ σ' δ,AU st.c σ σ'->cs.map (V.ren σ δ)=cs.map (V.ren σ' δ))
  (hn:∀σ pre,Q5 P Ω o (st.fr.ren σ (dz (α:=AA) pre))=some ⟨.box (cs.map (V.ren σ pre.length)),none⟩) :
  lA P Ω o st ⟨st.c+1,st.fr.put d true (.ptr st.s.up.length d st.c 0),st.s.put st.s.up.length d st.c (.box cs)⟩:=by
 have hb:∀σ σ',AU (st.c+1) σ σ'->AU st.c σ σ':=fun σ σ' ha=>ha.mono (cq _)
 refine⟨⟨cq _,⟨fun σ σ' δ ha=>?_,fun σ σ' pre ha=>?_,h.lp.put (W1 rfl)⟩,St.put_len _ _ _ _ _⟩,d,hd,fun σ pre k hk=>⟨_,hn σ pre,fun γ=>?_⟩⟩
 ·simp only[HV,HT];rw[h.f σ σ' δ (hb _ _ ha),ha st.c (bm _)]
 ·simp only[CU,A0.ren];rw[h.s σ σ' pre (hb _ _ ha),hcs σ σ' _ (hb _ _ ha),ha st.c (bm _)]
 ·have:=hk (fun i=>if i=st.c then γ else σ i) (AU.upd _ _ _);have ha:=AU.upd st.c γ σ;simp only[HV,HT,if_true,CU,A0.ren]at this;rw[<-h.f _ _ _ ha,<-h.s _ _ _ ha,<-hcs _ _ _ ha]at this;rw[DK];exact this
def PR(P:ft)(d:Option Tmp)(T:gq)(st:XS):Option XS:=match d,CA P T with
 |some d,some cs=>some ⟨st.c+1,(d,true,.ptr st.s.up.length d st.c 0)::st.fr,st.s.put st.s.up.length d st.c (.box cs)⟩
 |_,_=>none
def pW(d:Option Tmp)(x:gk)(st:XS):Option XS:=match d,CP st.fr x with
 |some d,some v=>Bool.rec none (some ⟨st.c+1,(d,true,.ptr st.s.up.length d st.c 0)::st.fr,st.s.put st.s.up.length d st.c (.box (BD v))⟩) (BE v)
 |_,_=>none
theorem iL{o:fp}{T:gq}{st st':XS}(h:Bd st)(ho:o.op=.alloc T)(hx:PR P o.dst T st=some st'):lA P Ω o st st':=by
 unfold PR at hx;split at hx
 ·rename_i d cs hd hz;cases hx;refine iK h hd (fun σ σ' δ _=>by rw[G7 hz,G7 hz]) fun σ pre=>?_;simp[Q5,ho,hz,G7 hz]
 ·cases hx
theorem yO{o:fp}{T:gq}{x:gk}{st st':XS}(h:Bd st)(ho:o.op=.box T x)(hx:pW o.dst x st=some st'):lA P Ω o st st':=by
 unfold pW at hx;split at hx
 ·rename_i d v hd hv;cases hf:BE v with
  |false=>rw[hf]at hx;cases hx
  |true=>
   rw[hf]at hx
   cases hx
   refine iK h hd (fun σ σ' δ ha=>dA (h.rd hv) σ σ' δ ha) fun σ pre=>?_
   rw[D8]at hv
   simp[Q5,ho,DS,hv,IV,hf,EZ]
 ·cases hx
def YI(P:ft)(d:Option Tmp)(T:gq)(x y:gk)(st:XS):Option XS:=match d,BU P T with
 |some d,some (none,e)=>match CP st.fr x,CP st.fr y with
  |some (.int _ n),some (.int _ m)=>match CA P e with
   |some z=>if 0<=n/\m=n/\z.length=P.cellsOf e/\n.toNat*P.bytesOf e<=140737488355328/\n.toNat<=maxLen then
     some ⟨st.c+1,(d,true,.vec st.s.up.length d st.c n.toNat)::st.fr,st.s.put st.s.up.length d st.c (.vec e (bw n.toNat z))⟩ else none
   |none=>none
  |_,_=>none
 |_,_=>none
theorem pX{o:fp}{T:gq}{x y:gk}{st st':XS}(h:Bd st)(ho:o.op=.makeSlice T x y)(hx:YI P o.dst T x y st=some st'):lA P Ω o st st':=by
 unfold YI at hx;split at hx
 ·rename_i d e hd hel;split at hx
  ·rename_i k1 n k2 m h1 h2;split at hx
   ·rename_i z hz;split at hx
    ·rename_i hc;cases hx;rw[D8]at h1 h2;have hr:∀σ δ,(bw n.toNat z).map (cj (V.ren σ δ))=bw n.toNat z:=fun σ δ=>by rw[dx,G7 hz]
     have hb:∀σ σ',AU (st.c+1) σ σ'->AU st.c σ σ':=fun σ σ' ha=>ha.mono (cq _);refine⟨⟨cq _,⟨fun σ σ' δ ha=>?_,fun σ σ' pre ha=>?_,h.lp.put (W1 rfl)⟩,St.put_len _ _ _ _ _⟩,d,hd,fun σ pre k hk=>⟨⟨.vec e (bw n.toNat z),none⟩,?_,fun γ=>?_⟩⟩
     ·show((st.fr.put d true _).ren σ δ)=((st.fr.put d true _).ren σ' δ);simp only[HV,HU];rw[h.f σ σ' δ (hb _ _ ha),ha st.c (bm _)]
     ·simp only[CU,A0.ren,hr];rw[h.s σ σ' pre (hb _ _ ha),ha st.c (bm _)]
     ·simp only[Q5,ho,DS,h1,h2,bq,EU,hel,hz];rw[if_pos hc]
     ·have:=hk (fun i=>if i=st.c then γ else σ i) (AU.upd _ _ _);have ha:=AU.upd st.c γ σ;change k ((st.fr.put d true _).ren _ _) _ at this;simp only[HV,HU,if_true,CU,A0.ren,hr]at this;rw[<-h.f _ _ _ ha,<-h.s _ _ _ ha]at this;simp only[Mk.val,HO,bb];rw[DK];exact this
    ·cases hx
   ·cases hx
  ·cases hx
 ·cases hx
def ACJ(d:Option Tmp)(r:Option gk)(st:XS):Option XS:=match d,r with
 |some d,none=>some ⟨st.c+1,(d,true,.mp st.s.up.length d st.c)::st.fr,st.s.put st.s.up.length d st.c (.map [])⟩
 |_,_=>none
theorem yP{o:fp}{T:gq}{r:Option gk}{st st':XS}(h:Bd st)(ho:o.op=.makeMap T r)(hx:ACJ o.dst r st=some st'):lA P Ω o st st':=by
 unfold ACJ at hx;split at hx
 ·rename_i d hd;cases hx;have hb:∀σ σ',AU (st.c+1) σ σ'->AU st.c σ σ':=fun σ σ' ha=>ha.mono (cq _);refine⟨⟨cq _,⟨fun σ σ' δ ha=>?_,fun σ σ' pre ha=>?_,h.lp.put (W1 rfl)⟩,St.put_len _ _ _ _ _⟩,d,hd,fun σ pre k hk=>⟨⟨.map [],none⟩,?_,fun γ=>?_⟩⟩
  ·show((st.fr.put d true _).ren σ δ)=((st.fr.put d true _).ren σ' δ);simp only[HV,SA];rw[h.f σ σ' δ (hb _ _ ha),ha st.c (bm _)]
  ·simp only[CU,A0.ren,dj];rw[h.s σ σ' pre (hb _ _ ha),ha st.c (bm _)]
  ·simp only[Q5,ho]
  ·have:=hk (fun i=>if i=st.c then γ else σ i) (AU.upd _ _ _);have ha:=AU.upd st.c γ σ;change k ((st.fr.put d true _).ren _ _) _ at this;simp only[HV,SA,if_true,CU,A0.ren,dj]at this;rw[<-h.f _ _ _ ha,<-h.s _ _ _ ha]at this;simp only[Mk.val,HO];rw[DK];exact this
 ·cases hx
def JQ(P:ft)(d:Option Tmp)(T:gq)(x y:gk)(st:XS):Option XS:=match d with
 |some _=>none
 |none=>match CP st.fr x,CP st.fr y with
  |some (.ptr l q γ off),some v=>match st.s.get l q with
   |some (γ',.box cs)=>if bz γ' γ&&BE v&&cx 0 (P.cellsOf T)&&bz (BD v).length (P.cellsOf T)&&dn (off+P.cellsOf T) cs.length&&cx γ st.c then some { st with s:=st.s.put l q γ (.box (A6 cs off (BD v))) } else none
   |_=>none
  |some (.eptr l q γ i off),some v=>match st.s.get l q with
   |some (γ',.vec U es)=>if bz γ' γ&&BE v&&cx 0 (P.cellsOf T)&&bz (BD v).length (P.cellsOf T)&&cx i es.length&&dn (off+P.cellsOf T) (es.getD i []).length&&cx γ st.c then some { st with s:=st.s.put l q γ (.vec U (es.set i (A6 (es.getD i []) off (BD v)))) } else none
   |_=>none
  |_,_=>none
theorem NS{st:XS}(h:Bd st){l q γ:Nat}{r:A0}(hg:st.s.get l q=some (γ,r))(σ σ':Nat->Nat)(δ:Nat)(ha:AU st.c σ σ'):r.ren σ δ=r.ren σ' δ:=by have h1:=CC (s:=st.s) (σ:=σ) (pre:=bw δ []) l q;have h2:=CC (s:=st.s) (σ:=σ') (pre:=bw δ []) l q;rw[h.s σ σ' _ ha,h2,hg]at h1;simp only[bq,bb,cw.injEq,fh.injEq]at h1;exact h1.2.symm
theorem LA(es:List (List V))(i:Nat)(x:List V):(es.set i x).map (cj (V.ren σ δ))=(es.map (cj (V.ren σ δ))).set i (x.map (V.ren σ δ)):=by simp[List.map_set]
theorem iM{o:fp}{T:gq}{x y:gk}{st st':XS}(h:Bd st)(ho:o.op=.store T x y)(hx:JQ P o.dst T x y st=some st'):StepX P o st st':=by
 unfold JQ at hx;split at hx
 ·cases hx
 ·rename_i hd;split at hx
  ·rename_i l q γ off v h1 h2;split at hx
   ·rename_i γ' cs hg;split at hx
    ·rename_i hc;simp only[bx,cd,cz]at hc;obtain⟨⟨⟨⟨⟨c1,c2⟩,c3⟩,c4⟩,c5⟩,c6⟩:=hc;have c1:=bj c1;have c4:=bj c4;subst c1;cases hx;have hv:=h.rd h2;refine⟨⟨bn _,h.putS c6 fun σ σ' δ ha=>?_,St.put_len _ _ _ _ _⟩,fun σ pre k hk=>?_⟩
     ·have hr:=NS h hg σ σ' δ ha;simp only[A0.ren,A0.box.injEq]at hr|-;rw[<-DF,<-DF,hr,dA hv σ σ' δ ha]
     ·have:=hk σ (AU.refl _ _);rw[D8]at h1 h2;unfold ES;simp only[ho,DS,h1,h2,bq,HT,CC,hg,A0.ren];refine⟨trivial,trivial,by rw[IV];exact c2,c3,by rw[EZ];simpa using c4,by simpa using c5,hd,?_⟩;rw[EZ,DF];rw[CU]at this;exact this
    ·cases hx
   ·cases hx
  ·rename_i l q γ i off v h1 h2;split at hx
   ·rename_i γ' U es hg;split at hx
    ·rename_i hc;simp only[bx,cd,cz]at hc;obtain⟨⟨⟨⟨⟨⟨c1,c2⟩,c3⟩,c4⟩,c5⟩,c6⟩,c7⟩:=hc;have c1:=bj c1;have c4:=bj c4;subst c1;cases hx;have hv:=h.rd h2;refine⟨⟨bn _,h.putS c7 fun σ σ' δ ha=>?_,St.put_len _ _ _ _ _⟩,fun σ pre k hk=>?_⟩
     ·have hr:=NS h hg σ σ' δ ha;simp only[A0.ren,A0.vec.injEq,true_and]at hr|-;rw[LA,LA,<-DF,<-DF,<-FD,<-FD,hr,dA hv σ σ' δ ha]
     ·have:=hk σ (AU.refl _ _);rw[D8]at h1 h2;unfold ES;simp only[ho,DS,h1,h2,bq,PM,CC,hg,A0.ren];refine⟨trivial,trivial,by rw[IV];exact c2,c3,by rw[EZ];simpa using c4,by simpa using c5,by rw[FD];simpa using c6,hd,?_⟩;rw[FD,EZ,DF,<-LA];rw[CU]at this;exact this
    ·cases hx
   ·cases hx
  ·cases hx
def ACK(P:ft)(d:Option Tmp)(T:gq)(x i y:gk)(st:XS):Option XS:=match d with
 |some _=>none
 |none=>match CP st.fr x,CP st.fr i,CP st.fr y with
  |some m,some i,some v=>match MM P st.s T m i v with
   |some (l,q,γ,es)=>Bool.rec none (some { st with s:=st.s.put l q γ (.map es) }) (cx γ st.c)
   |none=>none
  |_,_,_=>none
theorem ANS{o:fp}{T:gq}{x i y:gk}{st st':XS}(h:Bd st)(ho:o.op=.mapUpdate T x i y)(hx:ACK P o.dst T x i y st=some st'):StepX P o st st':=by
 unfold ACK at hx;split at hx
 ·cases hx
 ·rename_i hd;split at hx
  ·rename_i m i' v h1 h2 h3;split at hx
   ·rename_i l q γ es hu;cases hb:cx γ st.c with
    |false=>rw[hb]at hx;cases hx
    |true=>
     rw[hb]at hx
     have hlt:γ<st.c:=by simpa using hb
     cases hx
     have hm:=h.rd h1
     have hi:=h.rd h2
     have hv:=h.rd h3
     refine⟨⟨bn _,h.putS hlt fun σ σ' δ ha=>?_,St.put_len _ _ _ _ _⟩,fun σ pre k hk=>?_⟩
     ·have q1:=WZ (σ:=σ) (pre:=bw δ []) hu;have q2:=WZ (σ:=σ') (pre:=bw δ []) hu;rw[h.s σ σ' _ ha,hm σ σ' _ ha,hi σ σ' _ ha,hv σ σ' _ ha,q2]at q1;simp only[cw.injEq,fh.injEq,bb]at q1;simp only[A0.ren,q1.2.2.2]
     ·have:=hk σ (AU.refl _ _);rw[D8]at h1 h2 h3;unfold ES;simp only[ho,DS,h1,h2,h3,bq,WZ hu];refine⟨trivial,hd,?_⟩;rw[CU]at this;exact this
   ·cases hx
  ·cases hx
def lB(P:ft)(d:Option Tmp)(args:List gk)(Ts:List gq)(st:XS):Option XS:=match args,Ts,d with
 |[x],[T],none=>match BU P T,CP st.fr x with
  |some (none,e),some (.vtl l q γ i n)=>match st.s.get l q,CA P e with
   |some (γ',.vec U es),some z=>Bool.rec none (some { st with s:=st.s.put l q γ (.vec U (es.take i++bw n z++es.drop (i+n))) }) (bz γ' γ&&bz U e&&dn (i+n) es.length&&es.all (fun y=>y.length==z.length)&&cx γ st.c)
   |_,_=>none
  |_,_=>none
 |_,_,_=>none
theorem ACL{o:fp}{args:Array gk}{Ts:Array gq}{st st':XS}(h:Bd st)(ho:o.op=.call { callee:=.builtin .clear,args:=args,argTypes:=Ts })(hx:lB P o.dst args.toList Ts.toList st=some st'):StepX P o st st':=by
 unfold lB at hx;split at hx
 ·rename_i x T ha hT hd;split at hx
  ·rename_i e l q γ i n hel h1;split at hx
   ·rename_i γ' U es z hg hz;cases hb:(bz γ' γ&&bz U e&&dn (i+n) es.length&&es.all (fun y=>y.length==z.length)&&cx γ st.c)with
    |false=>rw[hb]at hx;cases hx
    |true=>
     rw[hb]at hx
     cases hx
     simp only[bx,cd,cz]at hb
     obtain⟨⟨⟨⟨c1,c2⟩,c3⟩,c4⟩,c5⟩:=hb
     have c1:=bj c1
     have c2:=bj c2
     subst c1;subst c2
     have hz':∀σ δ,z.map (V.ren σ δ)=z:=fun σ δ=>G7 hz
     refine⟨⟨bn _,h.putS c5 fun σ σ' δ ha=>?_,St.put_len _ _ _ _ _⟩,fun σ pre k hk=>?_⟩
     ·have hr:=NS h hg σ σ' δ ha;simp only[A0.ren,A0.vec.injEq,true_and]at hr|-;simp only[bc,ck,List.map_drop,dx,hz',hr]
     ·have:=hk σ (AU.refl _ _);rw[D8]at h1;unfold ES;simp only[ho,ha,hT,hd,hel,DS,h1,bq,ZD,CC,hg,hz,A0.ren];refine⟨trivial,trivial,trivial,by simpa using c3,?_,?_⟩
      ·rw[fw];exact c4▸(by congr 1;funext x;simp)
      ·rw[CU]at this;simp only[A0.ren,bc,ck,List.map_drop,dx,hz']at this;exact this
   ·cases hx
  ·cases hx
 ·cases hx
theorem uN{o:fp}{l q γ:Nat}{r:A0}(h:DJ P o fr s=some (l,q,γ,r)):DJ P o (fr.ren σ pre.length) (s.emb σ pre)=some (l+pre.length,q,σ γ,r.ren σ pre.length):=by
 unfold DJ at h|-;split at h
 ·rename_i T x y ho;simp only[DS];split at h
  ·rename_i l1 q1 γ1 off v e1 e2;simp only[e1,e2,bq,HT,CC];split at h
   ·rename_i γ2 cs e3;split at h
    ·rename_i hc;cases h;obtain⟨c1,c2,c3,c4,c5,c6⟩:=hc;subst c1;simp only[e3,bq,A0.ren,IV,EZ,bp];rw[if_pos ⟨trivial,c2,c3,c4,c5,c6⟩,DF]
    ·cases h
   ·cases h
  ·rename_i l1 q1 γ1 i off v e1 e2;simp only[e1,e2,bq,PM,CC];split at h
   ·rename_i γ2 U es e3;split at h
    ·rename_i hc;cases h;obtain⟨c1,c2,c3,c4,c5,c6,c7⟩:=hc;subst c1;simp only[e3,bq,A0.ren,IV,EZ,bp,FD];rw[if_pos ⟨trivial,c2,c3,c4,c5,c6,c7⟩,DF,<-LA]
    ·cases h
   ·cases h
  ·cases h
 ·cases h
theorem AHE{o:fp}{T:gq}{x y:gk}{st st':XS}(ho:o.op=.store T x y)(hx:JQ P o.dst T x y st=some st'):∃l q γ r,DJ P o st.fr st.s=some (l,q,γ,r)/\st'={ st with s:=st.s.put l q γ r }:=by
 unfold JQ at hx;unfold DJ;simp only[ho];split at hx
 ·cases hx
 ·rename_i hd;split at hx
  ·rename_i l q γ off v h1 h2;split at hx
   ·rename_i γ' cs hg;split at hx
    ·rename_i hc;simp only[bx,cd,cz]at hc;obtain⟨⟨⟨⟨⟨c1,c2⟩,c3⟩,c4⟩,c5⟩,c6⟩:=hc;have c1:=bj c1;have c4:=bj c4;subst c1;cases hx;rw[D8]at h1 h2;refine⟨_,_,_,_,?_,rfl⟩;simp only[h1,h2,hg];rw[if_pos ⟨trivial,c2,c3,c4,c5,hd⟩]
    ·cases hx
   ·cases hx
  ·rename_i l q γ i off v h1 h2;split at hx
   ·rename_i γ' U es hg;split at hx
    ·rename_i hc;simp only[bx,cd,cz]at hc;obtain⟨⟨⟨⟨⟨⟨c1,c2⟩,c3⟩,c4⟩,c5⟩,c6⟩,c7⟩:=hc;have c1:=bj c1;have c4:=bj c4;subst c1;cases hx;rw[D8]at h1 h2;refine⟨_,_,_,_,?_,rfl⟩;simp only[h1,h2,hg];rw[if_pos ⟨trivial,c2,c3,c4,c5,c6,hd⟩]
    ·cases hx
   ·cases hx
  ·cases hx
def AA.hide(W:AL)(l:Nat)(L:AA):AA:=L.filter fun e=>!(W.contains (l,e.1))
theorem AA.get_hide(W:AL)(l:Nat):∀(L:AA) (k:Nat),(l,k)∉W->(L.hide W l).get k=L.get k
 |[],k,_=>rfl
 |(j,x)::L,k,hk=>by
  have ih:=AA.get_hide W l L k hk;unfold AA.hide at ih|-;rw[List.filter_cons];split
  ·simp only[AA.get];split
   ·rfl
   ·exact ih
  ·rename_i hc;simp only[fc,Bool.not_eq_false,List.contains_iff_mem]at hc;rw[ih];simp only[AA.get];rw[if_neg (fun e=>hk (by rw[e];simpa using hc))]
theorem AA.get_hide'(W:AL)(l:Nat):∀(L:AA) (k:Nat),(l,k)∈W->(L.hide W l).get k=none
 |[],k,_=>rfl
 |(j,x)::L,k,hk=>by
  have ih:=AA.get_hide' W l L k hk;unfold AA.hide at ih|-;rw[List.filter_cons];split
  ·rename_i hc;simp only[AA.get];rw[if_neg (fun e=>by subst e;simp[hk]at hc)];exact ih
  ·exact ih
def St.hide(W:AL)(s:St):St:=⟨s.up.mapIdx fun l L=>L.hide W l,s.loc.hide W s.up.length⟩
theorem St.get_hide{W:AL}{l k:Nat}(h:(l,k)∉W):(s.hide W).get l k=s.get l k:=by
 unfold St.get St.hide;simp only[fx];split
 ·rename_i e;subst e;exact AA.get_hide W _ _ _ h
 ·rw[dp];cases s.up[l]? with
  |none=>rfl
  |some L=>exact AA.get_hide W _ _ _ h
theorem St.get_hide'{W:AL}{l k:Nat}(h:(l,k)∈W):(s.hide W).get l k=none:=by
 unfold St.get St.hide;simp only[fx];split
 ·rename_i e;subst e;exact AA.get_hide' W _ _ _ h
 ·rw[dp];cases s.up[l]? with
  |none=>rfl
  |some L=>exact AA.get_hide' W _ _ _ h
theorem dB(W:AL):YE W (s.hide W) s:=fun l k x e=>by
 by_cases h:(l,k)∈W
 ·rw[St.get_hide' h]at e;cases e
 ·exact⟨h,by rw[<-St.get_hide h];exact e⟩
def BG:Option V->AL
 |some (.ptr l k _ _)=>[(l,k)]
 |some (.eptr l k _ _ _)=>[(l,k)]
 |some (.vec l k _ _)=>[(l,k)]
 |some (.mp l k _)=>[(l,k)]
 |_=>[]
def BR(one:Bool)(x:Option V):AL:=match one,x with
 |true,some (.ptr l k _ off)=>[(l,k+JE),(l,k+FU),(l,E7 k off)]
 |true,some (.eptr l k _ _ off)=>[(l,k+JE),(l,k+FU),(l,E7 k off)]
 |_,x=>BG x
def C4(one:Bool)(x:Option V):AL:=match one,x with
 |true,some (.ptr l k _ off)=>[(l,k),(l,E7 k off)]
 |true,some (.eptr l k _ _ off)=>[(l,k),(l,E7 k off)]
 |false,some (.ptr l k _ _)=>[(l,k),(l,k+FU)]
 |false,some (.eptr l k _ _ _)=>[(l,k),(l,k+FU)]
 |_,_=>[]
def AHF:Option V->Bool
 |some (.ptr ..)=>true
 |some (.eptr ..)=>true
 |_=>false
def JR:Option V->AL
 |some (.vec l k _ _)=>[(l,k)]
 |some (.vtl l k _ _ _)=>[(l,k)]
 |some (.ptr l k _ _)=>[(l,k)]
 |_=>[]
def NT:Option V->AL
 |some (.vec l k _ _)=>[(l,k+JE)]
 |_=>[]
def pY(P:ft)(o:fp)(r:gk->Option V):Bool:=match o.op with
 |.load T x=>bz (P.cellsOf T) 1&&AHF (r x)
 |.indexAddr _ x _=>match r x with
  |some (.vec ..)=>true
  |_=>false
 |_=>false
def KO(r:gk->Option V):List gk->AL
 |[_,y]=>JR (r y)
 |_=>[]
def EM(P:ft)(o:fp)(r:gk->Option V):AL:=match o.op with
 |.load T x=>BR (bz (P.cellsOf T) 1) (r x)
 |.indexAddr _ x _=>NT (r x)
 |.slice _ x ..=>JR (r x)
 |.lookup _ x ..=>BG (r x)
 |.call { callee:=.builtin .append,args,.. }=>KO r args.toList
 |_=>[]
theorem lC{W:AL}{x:V}{es:List (List V)}(h:elemsOf s x=some es)(hr:∀p∈JR (some x),p∉W):elemsOf (s.hide W) x=some es:=by
 cases x with
 |vec l k g n=>
  have hn:(l,k)∉W:=hr _ (by simp[JR])
  simp only[elemsOf,St.get_hide hn]at h|-
  exact h
 |vtl l k g i n=>
  have hn:(l,k)∉W:=hr _ (by simp[JR])
  simp only[elemsOf,St.get_hide hn]at h|-
  exact h
 |list b es=>exact h
 |nil=>exact h
 |raw v=>exact(X5 _ _ v).trans h
 |_=>cases h
theorem AHG{W:AL}{o:fp}{r:gk->Option V}{v:V}(h:J2 P o s r=some v)(hi:pY P o r=false)(hr:∀p∈EM P o r,p∉W):J2 P o (s.hide W) r=some v:=by
 unfold J2 at h|-;split at h;case h_4 T x ho=>
  obtain⟨p,h1,h2⟩:=bk.1 h
  obtain⟨cs,h3,h4⟩:=bk.1 h2
  have:BA (s.hide W) p=some cs:=by
   cases p with
   |ptr l k g off=>
    have hb:bz (P.cellsOf T) 1=false:=by simpa [pY,ho,h1,AHF]using hi
    have hn:(l,k)∉W:=hr _ (by simp[EM,ho,h1,BR,hb,BG])
    simp only[BA,St.get_hide hn]at h3|-;exact h3
   |eptr l k g i off=>
    have hb:bz (P.cellsOf T) 1=false:=by simpa [pY,ho,h1,AHF]using hi
    have hn:(l,k)∉W:=hr _ (by simp[EM,ho,h1,BR,hb,BG])
    simp only[BA,St.get_hide hn]at h3|-;exact h3
   |_=>exact h3
  simp only[h1,bg,this,h4]
 case h_10 T x i ho=>
  obtain⟨p,h1,h2⟩:=bk.1 h
  obtain⟨q,h3,h4⟩:=bk.1 h2
  have:BW P (s.hide W) T p q=some v:=by
   unfold BW at h4|-;split at h4
   ·exact h4
   ·rename_i e l k g n k' j e1;simp[pY,ho,h1]at hi
   ·exact h4
   ·exact h4
   ·exact h4
   ·cases h4
  simp only[h1,h3,bg,this]
 case h_16 T x lo hi mx ho=>
  obtain⟨p,h1,h2⟩:=bk.1 h
  obtain⟨q,h3,h4⟩:=bk.1 h2
  obtain⟨q',h5,h6⟩:=bk.1 h4
  obtain⟨q2,h7,h8⟩:=bk.1 h6
  have:DB P (s.hide W) T p q q' q2=some v:=by
   unfold DB at h8|-;split at h8;case h_6 e l k g n k' i e1=>
    have hn:(l,k)∉W:=hr _ (by simp[EM,ho,h1,JR])
    simp only[St.get_hide hn];exact h8
   case h_7 n e l k g o e1=>
    have hn:(l,k)∉W:=hr _ (by simp[EM,ho,h1,JR])
    simp only[St.get_hide hn];exact h8
   all_goals exact h8
  simp only[h1,h3,h5,h7,bg,this]
 case h_17 T x i ok ho=>
  obtain⟨p,h1,h2⟩:=bk.1 h
  obtain⟨q,h3,h4⟩:=bk.1 h2
  have:DW P (s.hide W) T p q ok=some v:=by
   unfold DW at h4|-;split at h4
   ·rename_i K E l k g e1;have hn:(l,k)∉W:=hr _ (by simp[EM,ho,h1,BG]);simp only[St.get_hide hn];exact h4
   ·cases h4
  simp only[h1,h3,bg,this]
 all_goals exact h
theorem ACM{W:AL}{o:fp}{v:V}(h:FT P g o fr s=some v)(hi:pY P o (D3 g fr)=false)(hr:∀p∈EM P o (D3 g fr),p∉W):FT P g o fr (s.hide W)=some v:=by
 unfold FT at h|-;split at h
 ·exact h
 ·exact h
 ·exact h
 ·exact AHG h hi hr
def eV(δ:Nat)(W:AL):AL:=W.map fun p=>(p.1+δ,p.2)
theorem NU{W:AL}{l k:Nat}:(l+δ,k)∈eV δ W↔(l,k)∈W:=by
 unfold eV;simp only[dk,fh.injEq,Prod.exists];constructor
 ·rintro ⟨a,b,h,h1,h2⟩;have:a=l:=by omega
  subst this;subst h2;exact h
 ·intro h;exact⟨l,k,h,rfl,rfl⟩
theorem YJ(x:Option V):BG (x.map (V.ren σ δ))=eV δ (BG x):=by
 cases x with
 |none=>rfl
 |some v=>cases v<;>simp[BG,eV]
theorem SF(x:Option V):JR (x.map (V.ren σ δ))=eV δ (JR x):=by
 cases x with
 |none=>rfl
 |some v=>cases v<;>simp[JR,eV]
theorem uO(x:Option V):NT (x.map (V.ren σ δ))=eV δ (NT x):=by
 cases x with
 |none=>rfl
 |some v=>cases v<;>simp[NT,eV]
theorem uP(b:Bool)(x:Option V):BR b (x.map (V.ren σ δ))=eV δ (BR b x):=by
 cases b with
 |false=>exact YJ x
 |true=>
  cases x with
  |none=>rfl
  |some v=>cases v<;>simp[BR,BG,eV]
theorem AVG{W:AL}{o:fp}{v:V}(h:FT P g o fr s=some v)(hi:pY P o (D3 g fr)=true)(hr:∀p∈EM P o (D3 g fr),p∉W):fN P W g o fr s v:=by
 unfold pY at hi;split at hi
 ·rename_i T x ho;rw[bx]at hi;have h1:=bj hi.1;unfold FT at h;simp only[ho,J2]at h;obtain⟨p,hx,h⟩:=bk.1 h;obtain⟨cs,hcs,hv⟩:=bk.1 h;have hp:=hi.2;rw[hx]at hp;cases p with
  |ptr l k γ off=>
   have hr':∀p∈[(l,k+JE),(l,k+FU),(l,E7 k off)],p∉W:=fun p hp=>hr p (by simp only[EM,ho,hx,hi.1,BR];exact hp)
   refine .inr ⟨T,x,_,cs,l,k,off,ho,hx,rfl,hcs,hv,by omega,hr' _ (by simp),hr' _ (by simp),fun c hc=>?_⟩
   obtain rfl:c=0:=by omega
   exact hr' _ (by simp)
  |eptr l k γ i off=>
   have hr':∀p∈[(l,k+JE),(l,k+FU),(l,E7 k off)],p∉W:=fun p hp=>hr p (by simp only[EM,ho,hx,hi.1,BR];exact hp)
   refine .inr ⟨T,x,_,cs,l,k,off,ho,hx,rfl,hcs,hv,by omega,hr' _ (by simp),hr' _ (by simp),fun c hc=>?_⟩
   obtain rfl:c=0:=by omega
   exact hr' _ (by simp)
  |_=>cases hp
 ·rename_i T x i ho;split at hi
  ·rename_i l k γ n hx;unfold FT at h;simp only[ho,J2,hx,bg]at h;obtain⟨iv,hiv,h⟩:=bk.1 h;unfold BW at h;split at h
   ·rename_i e1 e2;cases e2
   ·rename_i e l' k' γ' n' ki j e1 e2;cases e2;split at h
    ·rename_i γ2 T' es hget;split at h
     ·rename_i hc;obtain⟨rfl,hc⟩:=hc;exact .inl ⟨T,x,i,e,_,_,_,_,ki,j,T',es,ho,hx,hiv,e1,hr _ (by simp[EM,ho,hx,NT]),hget,hc,(cw.inj h).symm⟩
     ·cases h
    ·cases h
   ·rename_i e1 e2;cases e2
   ·rename_i e1 e2;cases e2
   ·rename_i e1 e2;cases e2
   ·cases h
  ·cases hi
 ·cases hi
theorem uQ{r:gk->Option V}(l:List gk):KO (fun x=>(r x).map (V.ren σ δ)) l=eV δ (KO r l):=by
 unfold KO;split
 ·exact SF _
 ·rfl
theorem uR{o:fp}{r:gk->Option V}:EM P o (fun x=>(r x).map (V.ren σ δ))=eV δ (EM P o r):=by
 unfold EM;split
 ·exact uP _ _
 ·exact uO _
 ·exact SF _
 ·exact YJ _
 ·exact uQ _
 ·rfl
theorem pZ{W rd:AL}(h:∀p∈rd,p∉W):∀p∈eV δ rd,p∉eV δ W:=by intro p hp;unfold eV at hp;obtain⟨⟨l,k⟩,hq,rfl⟩:=dk.1 hp;exact fun hc=>h _ hq (NU.1 hc)
end Go.Pg
namespace Go.Pg
variable {P:ft}{σ σ':Nat->Nat}{δ:Nat}{pre:List AA}{s:St}{fr:Fr}{g:Bool}
def rdC(fr:Fr)(x:gk):Option (Bool×V):=match x with
 |.tmp t=>A3 fr t
 |.const v=>match CR v with
  |some x=>some (true,x)
  |none=>none
 |.func f=>some (true,.fn f [] [])
 |.global _=>none
theorem AVH(x:gk):rdC fr x=rd fr x:=by
 cases x with
 |tmp t=>exact GS fr t
 |const v=>simp only[rdC,rd];cases CR v<;>rfl
 |func f=>rfl
 |global g=>rfl
def yQ(fr:Fr)(c a b:gk):Option V:=match CP fr c,rdC fr a,rdC fr b with
 |some (.bool c),some (ca,.bool a),some (cb,.bool b)=>Bool.rec (Bool.rec none (some (.bool b)) cb) (Bool.rec none (some (.bool a)) ca) c
 |_,_,_=>none
def OD(P:ft)(fr:Fr)(s:St)(T:gq)(x:gk):Option V:=match CP fr x with
 |some p=>match BA s p with
  |some cs=>BM P T cs
  |none=>none
 |none=>none
def xFA(P:ft)(fr:Fr)(T:gq)(x:gk)(f:Nat):Option V:=match CP fr x with
 |some p=>DE P T p f
 |none=>none
def ACN(P:ft)(fr:Fr)(op:BinOp)(T:gq)(x y:gk):Option V:=match CP fr x,CP fr y with
 |some a,some b=>IC P op T a b
 |_,_=>none
def W2(P:ft)(fr:Fr)(T:gq)(ps:List (Nat×gk)):Option V:=match DI (CP fr) ps with
 |some l=>CS P T l
 |none=>none
def QM(P:ft)(fr:Fr)(T:gq)(n:Nat)(ps:List (Nat×gk)):Option V:=match DI (CP fr) ps with
 |some l=>CE P T n l
 |none=>none
def ANT(P:ft)(o:fp)(fr:Fr)(s:St):Option V:=match o.op with
 |.move x=>CP fr x
 |.assign x=>CP fr x
 |.load T x=>OD P fr s T x
 |.fieldAddr T x f=>xFA P fr T x f
 |.binOp op T x y _=>ACN P fr op T x y
 |.pick c a b=>yQ fr c a b
 |.build T ps=>W2 P fr T ps.toList
 |.buildSlice T n ps=>QM P fr T n ps.toList
 |_=>J2 P o s (CP fr)
theorem QN{o:fp}{v:V}(h:ANT P o fr s=some v):FT P true o fr s=some v:=by
 unfold ANT at h;unfold FT;split at h<;>rename_i ho
 ·simp only[ho,J2,<-FN];exact h
 ·simp only[ho,J2,<-FN];exact h
 ·unfold OD at h;split at h
  ·rename_i p e1;split at h
   ·rename_i cs e2;simp only[ho,J2,<-FN,e1,e2,bg];exact h
   ·cases h
  ·cases h
 ·unfold xFA at h;split at h
  ·rename_i p e1;simp only[ho,J2,<-FN,e1,bg];exact h
  ·cases h
 ·unfold ACN at h;split at h
  ·rename_i a b e1 e2;simp only[ho,J2,<-FN,e1,e2,bg];exact h
  ·cases h
 ·unfold yQ at h;simp only[AVH]at h;split at h
  ·rename_i c ca a cb b e1 e2 e3;rw[D8]at e1;simp only[ho,e1,e2,e3];cases c with
   |true=>
    cases ca with
    |false=>cases h
    |true=>cases h;simp
   |false=>
    cases cb with
    |false=>cases h
    |true=>cases h;simp
  ·cases h
 ·unfold W2 at h;split at h
  ·rename_i l e1;simp only[ho,<-FN,e1,bg];exact h
  ·cases h
 ·unfold QM at h;split at h
  ·rename_i l e1;simp only[ho,<-FN,e1,bg];exact h
  ·cases h
 ·rw[FN]at h;split
  ·rename_i ho';rw[J2,ho']at h;cases h
  ·rename_i ho';rw[J2,ho']at h;cases h
  ·rename_i ho';rw[J2,ho']at h;cases h
  ·exact h
theorem J9{α:Type}{b:Bool}{x y:α}(h:(Bool.rec none (some x) b:Option α)=some y):b=true/\x=y:=by
 cases b with
 |false=>cases h
 |true=>exact⟨rfl,cw.inj h⟩
theorem EV{α:Type}{b:Bool}{x:Option α}{y:α}(h:(Bool.rec none x b:Option α)=some y):b=true/\x=some y:=by
 cases b with
 |false=>cases h
 |true=>exact⟨rfl,h⟩
theorem VC{st:XS}(h:Bd st){v:V}{ys:List (List V)}(hv:V5 st.c v)(he:elemsOf st.s v=some ys)(σ σ':Nat->Nat)(δ:Nat)(ha:AU st.c σ σ'):ys.map (cj (V.ren σ δ))=ys.map (cj (V.ren σ' δ)):=by have h1:=G8 (σ:=σ) (pre:=bw δ []) he;have h2:=G8 (σ:=σ') (pre:=bw δ []) he;rw[h.s σ σ' _ ha,hv σ σ' _ ha,h2]at h1;have:=cw.inj h1;rw[bb]at this;exact this.symm
theorem FW(ys:List (List V))(m:Nat):(ys.map (cj (V.ren σ δ))).all (fun y=>y.length==m)=ys.all (fun y=>y.length==m):=by rw[fw];congr 1;funext y;simp
def qD(P:ft)(d:Tmp)(e:gq)(ys:List (List V))(st:XS)(xv:V):Option (XS×Nat×Nat):=match xv with
 |.vec l q γ n=>match UU n ys (st.s.get l q)with
  |some (γ',.vec W es)=>Bool.rec none (some (⟨st.c+1,(d,true,.vec l q st.c (es++ys).length)::st.fr,st.s.put l q st.c (.vec e (es++ys))⟩,l,q))
    (bz γ' γ&&bz W e&&bz n es.length&&es.all (fun y=>y.length==P.cellsOf e)&&BZ P e es.length ys)
  |_=>none
 |_=>none
def xAppG(el:St->V->Option (List (List V)))(P:ft)(d:Option Tmp)(args:List gk)(Ts:List gq)(st:XS):Option (XS×Nat×Nat):=match args,Ts,d with
 | [x,y],[T,U],some d=>Bool.rec none (match BU P T with
  |some (none,e)=>match CP st.fr x,CP st.fr y with
   |some xv,some yv=>match el st.s yv with
    |some ys=>match IQ xv ys with
     |some es=>Bool.rec none (some (⟨st.c+1,(d,true,.vec st.s.up.length d st.c (es++ys).length)::st.fr,st.s.put st.s.up.length d st.c (.vec e (es++ys))⟩,st.s.up.length,d)) (es.all (fun y=>y.length==P.cellsOf e)&&BZ P e es.length ys)
     |none=>qD P d e ys st xv
    |none=>none
   |_,_=>none
  | _=>none) (bz T U)
 |_,_,_=>none
theorem AHH(v:V):YV (v.ren σ δ)=YV v:=by
 cases v with
 |list f es=>cases f<;>cases es<;>simp[YV]
 |_=>simp[YV]
theorem qF(v:V)(ys:List (List V)):IQ (v.ren σ δ) (ys.map (cj (V.ren σ δ)))=(IQ v ys).map (cj (cj (V.ren σ δ))):=by
 cases v with
 |list f es=>cases f<;>cases es<;>cases ys<;>simp[IQ]
 |_=>simp[IQ]
theorem uS{v:V}{es ys:List (List V)}(h:IQ v ys=some es):elemsOf s v=some es:=by unfold IQ at h;split at h<;>cases h<;>rfl
theorem iN{e:gq}{n:Nat}(ys:List (List V)):BZ P e n (ys.map (cj (V.ren σ δ)))=BZ P e n ys:=by unfold BZ;rw[FW,bp]
theorem AHI{n:Nat}(ys es:List (List V)):bR n (ys.map (cj (V.ren σ δ))) (es.map (cj (V.ren σ δ)))=(bR n ys es).map (cj (V.ren σ δ)):=by
 cases ys with
 |nil=>rfl
 |cons y ys=>
  show(if _ then _ else _)=(if _ then _ else _:List (List V)).map _
  have e:(es.map (cj (V.ren σ δ))).all (fun x=>x.length==(y.map (V.ren σ δ)).length)=es.all (fun x=>x.length==y.length):=by rw[fw,bp];congr 1;funext x;simp
  rw[e]
  split
  ·rw[ck]
  ·rfl
theorem qH{n γ:Nat}{ys es:List (List V)}{U:gq}{o:Option (Nat×A0)}(h:UU n ys o=some (γ,.vec U es)):UU n (ys.map (cj (V.ren σ δ))) (o.map fun p=>(σ p.1,p.2.ren σ δ))=some (σ γ,.vec U (es.map (cj (V.ren σ δ)))):=by obtain⟨es0,rfl,rfl⟩:=QF h;show some (σ γ,A0.vec U (bR n _ _))=_;rw[AHI]
theorem dC{el:St->V->Option (List (List V))}(hel0:∀s v es,el s v=some es->elemsOf s v=some es){o:fp}{args:Array gk}{Ts:Array gq}{st st':XS}{l q:Nat}(h:Bd st)(ho:o.op=.call { callee:=.builtin .append,args:=args,argTypes:=Ts })
  (hx:xAppG el P o.dst args.toList Ts.toList st=some (st',l,q)):∃d r,o.dst=some d/\eU r=true/\st'=⟨st.c+1,(d,true,HO r l q st.c)::st.fr,st.s.put l q st.c r⟩/\(∀σ σ' δ,AU st.c σ σ'->r.ren σ δ=r.ren σ' δ) /\
   (∀(σ:Nat->Nat) (pre:List AA) (k:Fr->St->Prop),(∀γ,k ((st.fr.ren σ pre.length).put d true (HO (r.ren σ pre.length) (l+pre.length) q γ)) ((st.s.emb σ pre).put (l+pre.length) q γ (r.ren σ pre.length)))->ES P true o (st.fr.ren σ pre.length) (st.s.emb σ pre) k) /\
   (∀(W:AL) (σ:Nat->Nat) (pre:List AA),(∀p∈KO (CP st.fr) args.toList,p∉W)->YX P o (st.fr.ren σ pre.length) ((st.s.emb σ pre).hide (eV pre.length W)) (st.s.emb σ pre)=some (l+pre.length,q,r.ren σ pre.length)):=by
 unfold xAppG at hx
 split at hx
 ·rename_i x y T U d ha hT hd;obtain⟨hTU,hx2⟩:=EV hx;clear hx;have hTU:=bj hTU;subst hTU;have hx:=hx2;clear hx2;split at hx
  ·rename_i e hel;split at hx
   ·rename_i xv yv h1 h2;split at hx
    ·rename_i ys hys0;have hys:=hel0 _ _ _ hys0;have hyb:=VC h (h.rd h2) hys;have r1:=h1;have r2:=h2;rw[D8]at r1 r2;have hys2:∀(W:AL) (σ:Nat->Nat) (pre:List AA),(∀p∈KO (CP st.fr) args.toList,p∉W)->elemsOf ((st.s.emb σ pre).hide (eV pre.length W)) (yv.ren σ pre.length)=some (ys.map (cj (V.ren σ pre.length))):=fun W σ pre hW=>by refine lC (G8 hys) ?_;rw[ha]at hW;simp only[KO,h2]at hW;have:=pZ (δ:=pre.length) hW;rw[<-SF (σ:=σ)]at this;exact this
     cases hn:IQ xv ys with
     |some es=>
      rw[hn]at hx
      obtain⟨hc,he⟩:=J9 hx
      simp only[fh.injEq]at he
      obtain⟨rfl,rfl,rfl⟩:=he
      simp only[bx]at hc
      obtain⟨hce,hc⟩:=hc
      have heb:=VC h (h.rd h1) (uS hn)
      refine⟨d,.vec e (es++ys),hd,rfl,rfl,fun σ σ' δ hag=>by simp only[A0.ren,bc,hyb σ σ' δ hag,heb σ σ' δ hag],fun σ pre k hk=>?_,fun W σ pre hW=>?_⟩
      ·have hc':=hc;simp only[BZ,bx,cd,cz]at hc;obtain⟨⟨⟨⟨c1,c2⟩,c3⟩,c4⟩,c5⟩:=hc;unfold ES;simp only[ho,ha,hT,hd,hel,DS,r1,r2,bq,bg,G8 hys,qF,hn,true_and];refine⟨c1,c2,by rw[FW];exact hce,by rw[FW];exact c3,by simpa using c4,by simpa using c5,fun γ=>?_⟩;have:=hk γ;simp only[HO,A0.ren]at this;rw[DK,<-bc];exact this
      ·unfold YX;simp only[ho,ha,hT,hd,hel,DS,r1,r2,bq,bg,hys2 _ _ _ hW,qF,hn,if_true,DK,A0.ren];rw[if_pos ⟨by rw[FW];exact hce,by rw[iN,bp];exact hc⟩,bc]
     |none=>
      rw[hn]at hx
      replace hx:qD P d e ys st xv=some (st',l,q):=hx
      unfold qD at hx
      split at hx
      ·rename_i l0 q0 γ0 n';split at hx
       ·rename_i γ' W es hg;obtain⟨hc,he⟩:=J9 hx;simp only[fh.injEq]at he;obtain⟨rfl,rfl,rfl⟩:=he;simp only[bx]at hc;obtain⟨⟨⟨⟨c1,c2⟩,c3⟩,c6⟩,c7⟩:=hc;have c1:=bj c1;have c2:=bj c2;have c3:=bj c3;subst c1;subst c2;subst c3;have heb:∀σ σ' δ,AU st.c σ σ'->es.map (cj (V.ren σ δ))=es.map (cj (V.ren σ' δ)):=fun σ σ' δ ha=>by
         obtain⟨es0,hg0,e0⟩:=QF hg;have:=NS h hg0 σ σ' δ ha;have e1:es0.map (cj (V.ren σ δ))=es0.map (cj (V.ren σ' δ)):=by simpa [A0.ren]using this
         rcases WM es.length ys es0 with e2|⟨e2,_⟩
         ·rw[e0,e2,e1]
         ·rw[e0,e2,ck,ck,e1]
        refine⟨d,.vec W (es++ys),hd,rfl,rfl,fun σ σ' δ hag=>by simp only[A0.ren,bc,hyb σ σ' δ hag,heb σ σ' δ hag],fun σ pre k hk=>?_,fun W σ pre hW=>?_⟩
        ·simp only[BZ,bx,cd,cz]at c7;obtain⟨⟨⟨⟨d1,d2⟩,d3⟩,d4⟩,d5⟩:=c7;have hnn:IQ (V.vec (l0+pre.length) q0 (σ γ') es.length) (ys.map (cj (V.ren σ pre.length)))=none:=rfl;unfold ES;simp only[ho,ha,hT,hd,hel,DS,r1,r2,bq,bg,G8 hys,HU,CC,qH hg,true_and,hnn];refine⟨by simp,d1,d2,by rw[FW];exact c6,by rw[FW];exact d3,by simpa using d4,by simpa using d5,fun γ=>?_⟩;have:=hk γ;simp only[HO,A0.ren,bc,cg,bp]at this|-;exact this
        ·have hnn:IQ (V.vec (l0+pre.length) q0 (σ γ') es.length) (ys.map (cj (V.ren σ pre.length)))=none:=rfl;unfold YX;simp only[ho,ha,hT,hd,hel,DS,r1,r2,bq,bg,hys2 _ _ _ hW,HU,CC,qH hg,hnn,if_true];rw[if_pos ⟨trivial,trivial,by simp,by rw[FW];exact c6,by rw[iN,bp];exact c7⟩];simp only[A0.ren,bc]
       ·cases hx
      ·cases hx
    ·cases hx
   ·cases hx
  ·cases hx
 ·cases hx
theorem dD{st:XS}(h:Bd st){d l q:Nat}{r:A0}(hp:eU r=true)(hr:∀σ σ' δ,AU st.c σ σ'->r.ren σ δ=r.ren σ' δ):KZ st ⟨st.c+1,(d,true,HO r l q st.c)::st.fr,st.s.put l q st.c r⟩:=by
 have hb:∀σ σ',AU (st.c+1) σ σ'->AU st.c σ σ':=fun σ σ' ha=>ha.mono (cq _);refine⟨cq _,⟨fun σ σ' δ ha=>?_,fun σ σ' pre ha=>?_,h.lp.put (W1 hp)⟩,St.put_len _ _ _ _ _⟩
 ·show((st.fr.put d true (HO r l q st.c)).ren σ δ)=((st.fr.put d true (HO r l q st.c)).ren σ' δ);have e:∀σ:Nat->Nat,(HO r l q st.c).ren σ δ=HO (r.ren σ δ) (l+δ) q (σ st.c):=fun σ=>by cases r<;>simp[HO,A0.ren]
  simp only[HV,e];rw[h.f σ σ' δ (hb _ _ ha),ha st.c (bm _),hr σ σ' δ (hb _ _ ha)]
 ·simp only[CU];rw[h.s σ σ' pre (hb _ _ ha),hr σ σ' _ (hb _ _ ha),ha st.c (bm _)]
theorem qI(r:A0)(l q γ:Nat):(HO r l q γ).ren σ δ=HO (r.ren σ δ) (l+δ) q (σ γ):=by cases r<;>simp[HO,A0.ren]
theorem uT{st:XS}(h:Bd st){d l q:Nat}{r:A0}(hr:∀σ σ' δ,AU st.c σ σ'->r.ren σ δ=r.ren σ' δ){σ:Nat->Nat}{pre:List AA}{k:Fr->St->Prop}
  (hk:∀σ',AU st.c σ σ'->k (Fr.ren σ' pre.length ((d,true,HO r l q st.c)::st.fr)) ((st.s.put l q st.c r).emb σ' pre)) (γ:Nat):k ((st.fr.ren σ pre.length).put d true (HO (r.ren σ pre.length) (l+pre.length) q γ)) ((st.s.emb σ pre).put (l+pre.length) q γ (r.ren σ pre.length)):=by
 have:=hk (fun i=>if i=st.c then γ else σ i) (AU.upd _ _ _)
 have hag:=AU.upd st.c γ σ
 change k ((st.fr.put d true _).ren _ _) _ at this
 simp only[HV,qI,if_true,CU]at this
 rw[<-h.f _ _ _ hag,<-h.s _ _ _ hag,<-hr _ _ _ hag]at this
 exact this
theorem yR(r:Mk)(l k γ:Nat):(r.val l k γ).ren σ δ=Mk.val ⟨r.res.ren σ δ,r.t⟩ (l+δ) k (σ γ):=by
 obtain⟨r,t⟩:=r;cases t with
 |none=>exact qI _ _ _ _
 |some t=>exact NO t
theorem ACO{st:XS}(h:Bd st){d l q:Nat}{r:Mk}(hp:eU r.res=true)(hr:∀σ σ' δ,AU st.c σ σ'->r.res.ren σ δ=r.res.ren σ' δ):KZ st ⟨st.c+1,(d,true,r.val l q st.c)::st.fr,st.s.put l q st.c r.res⟩:=by
 have hb:∀σ σ',AU (st.c+1) σ σ'->AU st.c σ σ':=fun σ σ' ha=>ha.mono (cq _);refine⟨cq _,⟨fun σ σ' δ ha=>?_,fun σ σ' pre ha=>?_,h.lp.put (W1 hp)⟩,St.put_len _ _ _ _ _⟩
 ·show((st.fr.put d true (r.val l q st.c)).ren σ δ)=((st.fr.put d true (r.val l q st.c)).ren σ' δ);simp only[HV,yR];rw[h.f σ σ' δ (hb _ _ ha),ha st.c (bm _),hr σ σ' δ (hb _ _ ha)]
 ·simp only[CU];rw[h.s σ σ' pre (hb _ _ ha),hr σ σ' _ (hb _ _ ha),ha st.c (bm _)]
theorem ANU{st:XS}(h:Bd st){d l q:Nat}{r:Mk}(hr:∀σ δ,r.res.ren σ δ=r.res){σ:Nat->Nat}{pre:List AA}{k:Fr->St->Prop}
  (hk:∀σ',AU st.c σ σ'->k (Fr.ren σ' pre.length ((d,true,r.val l q st.c)::st.fr)) ((st.s.put l q st.c r.res).emb σ' pre)) (γ:Nat):k ((st.fr.ren σ pre.length).put d true (r.val (l+pre.length) q γ)) ((st.s.emb σ pre).put (l+pre.length) q γ r.res):=by
 have:=hk (fun i=>if i=st.c then γ else σ i) (AU.upd _ _ _)
 have hag:=AU.upd st.c γ σ
 change k ((st.fr.put d true _).ren _ _) _ at this
 simp only[HV,yR,if_true,CU,hr]at this
 rw[<-h.f _ _ _ hag,<-h.s _ _ _ hag]at this
 exact this
def xAppend(P:ft)(d:Option Tmp)(args:List gk)(Ts:List gq)(st:XS):Option XS:=match xAppG elemsOf P d args Ts st with
 |some (st',_,_)=>some st'
 |none=>none
theorem uU{o:fp}{args:Array gk}{Ts:Array gq}{st st':XS}(h:Bd st)(ho:o.op=.call { callee:=.builtin .append,args:=args,argTypes:=Ts })(hx:xAppend P o.dst args.toList Ts.toList st=some st'):StepX P o st st':=by
 unfold xAppend at hx;split at hx
 ·rename_i st1 l q e1;cases hx;obtain⟨d,r,hd,hp,rfl,hr,hs,_⟩:=dC (fun _ _ _ h=>h) h ho e1;exact⟨dD h hp hr,fun σ pre k hk=>hs σ pre k fun γ=>uT h hr hk γ⟩
 ·cases hx
def yS(P:ft)(d:Option Tmp)(args:List gk)(Ts:List gq)(st:XS):Option XS:=match args,Ts with
 |[x,y],[T,_]=>match BU P T,CP st.fr x,CP st.fr y with
  |some (none,e),some (.vtl l q γ i n),some yv=>match st.s.get l q,elemsOf st.s yv with
   |some (γ',.box cs),some ys=>Bool.rec none (some { st with fr:=putD st.fr d true (.int .i64 ((min ys.length n:Nat):Int)),s:=st.s.put l q γ (.box (A6 cs i (ys.take n).flatten)) }) (bz γ' γ&&bz (P.cellsOf e) 1&&ys.all (fun y=>y.length==1)&&dn (i+n) cs.length&&cx γ st.c)
   |_,_=>none
  |_,_,_=>none
 |_,_=>none
theorem AHJ{o:fp}{args:Array gk}{Ts:Array gq}{st st':XS}(h:Bd st)(ho:o.op=.call { callee:=.builtin .copy,args:=args,argTypes:=Ts })(hx:yS P o.dst args.toList Ts.toList st=some st'):StepX P o st st':=by
 unfold yS at hx;split at hx
 ·rename_i x y T U ha hT;split at hx
  ·rename_i e l q γ i n yv hel h1 h2;split at hx
   ·rename_i γ' cs ys hg hys;cases hb:(bz γ' γ&&bz (P.cellsOf e) 1&&ys.all (fun y=>y.length==1)&&dn (i+n) cs.length&&cx γ st.c)with
    |false=>rw[hb]at hx;cases hx
    |true=>
     rw[hb]at hx
     cases hx
     simp only[bx,cd,cz]at hb
     obtain⟨⟨⟨⟨c1,c2⟩,c3⟩,c4⟩,c5⟩:=hb
     have c1:=bj c1
     have c2:=bj c2
     subst c1
     have hB:Bd { st with s:=st.s.put l q γ' (.box (A6 cs i (ys.take n).flatten)) }:=h.putS c5 fun σ σ' δ ha=>by have hr:=NS h hg σ σ' δ ha;have he:=VC h (h.rd h2) hys σ σ' δ ha;simp only[A0.ren,A0.box.injEq]at hr|-;rw[<-DF,<-DF,hr,dc,dc,ck,ck,he]
     refine⟨⟨bn _,hB.putF (fun _ _ _ _=>rfl),St.put_len _ _ _ _ _⟩,fun σ pre k hk=>?_⟩
     have:=hk σ (AU.refl _ _)
     rw[D8]at h1 h2
     unfold ES
     simp only[ho,ha,hT,hel,DS,h1,h2,bq,ZD,bg,G8 hys,CC,hg,A0.ren]
     refine⟨trivial,trivial,c2,?_,by simpa using c4,?_⟩
     ·rw[fw];exact c3▸(by congr 1;funext x;simp)
     ·simp only[FV,EU,CU,A0.ren,<-DF,dc,ck]at this;simpa only[bp]using this
   ·cases hx
  ·cases hx
 ·cases hx
end Go.Pg
namespace Go.Pg
variable {P:ft}{Ω:HP P}{σ σ':Nat->Nat}{δ:Nat}{pre:List AA}{s:St}{fr:Fr}{g:Bool}
def GI{α β:Type}(f:α->Option β):List α->Option (List β)
 |[]=>some []
 |x::l=>match f x with
  |some y=>match GI f l with
   |some r=>some (y::r)
   |none=>none
  |none=>none
theorem LB{α β:Type}(f:α->Option β):∀(l:List α),GI f l=l.mapM f
 |[]=>rfl
 |x::l=>by
  simp only[GI,List.mapM_cons,<-LB f l];cases f x with
  |none=>rfl
  |some y=>cases GI f l<;>rfl
abbrev CF:=gv->List V->XS->Option (V×XS)
abbrev CY:=Nat->Nat->Nat->List V->XS->Option (V×XS)
abbrev CF0:=gv->List V->Option V
abbrev CFO:=gv->List V->Tmp->Option Mk
structure XE where
 cf:CF
 cy:CY
 c0:CF0
 co:CFO
 lit:Tmp->Bool
def iO(P:ft)(cf:CF):Prop:=∀f args st r st',cf f args st=some (r,st')->Bd st->(∀v∈args,V5 st.c v)->KZ st st'/\V5 st'.c r/\st'.fr=st.fr /\
 ∀(σ:Nat->Nat) (pre:List AA) (K:V->St->Prop),(∀σ',AU st.c σ σ'->K (r.ren σ' pre.length) (st'.s.emb σ' pre))->FG P f (args.map (V.ren σ pre.length)) (st.s.emb σ pre) K
def AVJ(P:ft)(cy:CY):Prop:=∀l q γ vs st r st',cy l q γ vs st=some (r,st')->Bd st->(∀v∈vs,V5 st.c v)->KZ st st'/\V5 st'.c r/\st'.fr=st.fr /\
 ∃fr0 ps asg body N,st.s.get l q=some (γ,.loop fr0 ps asg body N .ready)/\∀(σ:Nat->Nat) (pre:List AA) (k:V->St->Prop),(∀σ',AU st.c σ σ'->k (r.ren σ' pre.length) (st'.s.emb σ' pre)) ->
  bQ P (l+pre.length) q (σ γ) (Fr.ren σ pre.length fr0) ps asg body N (vs.map (V.ren σ pre.length)) (st.s.emb σ pre) k
def HW(P:ft)(cf:CF0):Prop:=∀f args r,cf f args=some r->(∀s,FG P f args s fun r' s'=>r'=r/\s'=s)/\(∀v∈args,∀σ δ,v.ren σ δ=v)/\(∀σ δ,r.ren σ δ=r)
def uV(P:ft)(co:CFO):Prop:=∀f args d r,co f args d=some r->(∀(s:St),FG P f args s fun v s'=>∃γ,v=r.val s.up.length d γ/\s'=s.put s.up.length d γ r.res) /\
 (∀v∈args,∀σ δ,v.ren σ δ=v)/\(∀σ δ,r.res.ren σ δ=r.res)/\eU r.res=true
structure KP(P:ft)(E:XE):Prop where
 cf:iO P E.cf
 cy:AVJ P E.cy
 c0:HW P E.c0
 co:uV P E.co
def KP.tab{E:XE}(h:KP P E)(own:fp->Bool):HP P:=⟨own,E.co,fun f args d r hc=>(h.co f args d r hc).1⟩
def uW(cy:CY)(d:Option Tmp)(l q γ:Nat)(args:List gk)(st:XS):Option XS:=match GI (CP st.fr) args with
 |some vs=>match cy l q γ vs st with
  |some (r,st')=>some { st' with fr:=putD st'.fr d true r }
  |none=>none
 |none=>none
def VD(cf:CF)(cy:CY)(d:Option Tmp)(f:gk)(args:List gk)(st:XS):Option XS:=match CP st.fr f with
 |some (.fn fid first cap)=>match GI (CP st.fr) args with
  |some vs=>match cf fid ((first++vs++cap).map weakV) st with
   |some (r,st')=>some { st' with fr:=putD st'.fr d true r }
   |none=>none
  |none=>none
 |some (.yld l q γ)=>uW cy d l q γ args st
 |_=>none
def JS(co:CFO)(d:Option Tmp)(f:gk)(args:List gk)(st:XS):Option XS:=match d,CP st.fr f with
 |some d,some (.fn fid first cap)=>match GI (CP st.fr) args with
  |some vs=>match co fid ((first++vs++cap).map weakV) d with
   |some r=>some ⟨st.c+1,(d,true,r.val st.s.up.length d st.c)::st.fr,st.s.put st.s.up.length d st.c r.res⟩
   |none=>none
  |none=>none
 |_,_=>none
def fQ(P:ft)(o:fp)(st:XS):Option XS:=match ANT P o st.fr st.s with
 |some v=>some { st with fr:=putD st.fr o.dst true v }
 |none=>none
def qJ(E:XE)(own:Bool)(d:Option Tmp)(f:gk)(args:List gk)(st:XS):Option XS:=Bool.rec (VD E.cf E.cy d f args st) (match JS E.co d f args st with
 |some st'=>some st'
 | none=>VD E.cf E.cy d f args st) own
def A7B(P:ft)(E:XE)(own:fp->Bool)(o:fp)(c:Call)(st:XS):Option XS:=match c.callee with
 |.value f=>qJ E (own o) o.dst f c.args.toList st
 |.builtin .append=>xAppend P o.dst c.args.toList c.argTypes.toList st
 |.builtin .clear=>lB P o.dst c.args.toList c.argTypes.toList st
 |.builtin .copy=>yS P o.dst c.args.toList c.argTypes.toList st
 |_=>fQ P o st
def RH(P:ft)(E:XE)(own:fp->Bool)(o:fp)(st:XS):Option XS:=match o.op with
 |.alloc T=>PR P o.dst T st
 |.box _ x=>pW o.dst x st
 |.makeMap _ r=>ACJ o.dst r st
 |.makeSlice T x y=>YI P o.dst T x y st
 |.store T x y=>JQ P o.dst T x y st
 |.mapUpdate T x i y=>ACK P o.dst T x i y st
 |.call c=>A7B P E own o c st
 |_=>fQ P o st
theorem yT{o:fp}{st st':XS}(h:Bd st)(hx:fQ P o st=some st'):StepX P o st st':=by
 unfold fQ at hx;split at hx
 ·rename_i v hv;cases hx;exact ACI h (QN hv)
 ·cases hx
theorem ZE{st:XS}(h:Bd st):∀{args:List gk} {vs:List V},GI (CP st.fr) args=some vs->∀v∈vs,V5 st.c v
 |[],vs,e,v,hv=>by cases e;cases hv
 |x::l,vs,e,v,hv=>by
  simp only[GI]at e;split at e
  ·rename_i y hy;split at e
   ·rename_i r hr;cases e;rcases List.mem_cons.1 hv with rfl|hv
    ·exact h.rd hy
    ·exact ZE h hr v hv
   ·cases e
  ·cases e
theorem lD{c:Nat}{v:V}(h:V5 c v):V5 c (weakV v):=fun σ σ' δ ha=>by rw[<-WW,<-WW,h σ σ' δ ha]
theorem AHK{c:Nat}{f:gv}{xs ys:List V}(h:V5 c (.fn f xs ys)):(∀v∈xs,V5 c v)/\(∀v∈ys,V5 c v):=by
 refine⟨fun v hv σ σ' δ ha=>?_,fun v hv σ σ' δ ha=>?_⟩
 ·have:=h σ σ' δ ha;simp only[PN,V.fn.injEq]at this;exact cm.1 this.2.1 v hv
 ·have:=h σ σ' δ ha;simp only[PN,V.fn.injEq]at this;exact cm.1 this.2.2 v hv
theorem HX(l:List V):(l.map weakV).map (V.ren σ δ)=(l.map (V.ren σ δ)).map weakV:=by simp only[fg];congr 1;funext v;exact(WW v).symm
theorem iP{E:XE}(hE:KP P E){own:fp->Bool}{o:fp}(hown:own o=true){f:gk}{args:Array gk}{Ts:Array gq}{st st':XS}(h:Bd st)(ho:o.op=.call { callee:=.value f,args:=args,argTypes:=Ts })(hx:JS E.co o.dst f args.toList st=some st'):lA P (hE.tab own) o st st':=by
 unfold JS at hx;split at hx
 ·rename_i d fid first cap hd hf;split at hx
  ·rename_i vs hvs;split at hx
   ·rename_i r hc;cases hx;obtain⟨_,hcl,hr,hpl⟩:=hE.co _ _ _ _ hc;refine⟨ACO h hpl (fun σ σ' δ _=>by rw[hr,hr]),d,hd,fun σ pre k hk=>⟨r,?_,fun γ=>?_⟩⟩
    ·have hcd:JD true o (st.fr.ren σ pre.length)=some (fid,(first++vs++cap).map weakV):=by
      rw[LB,FN]at hvs;rw[D8]at hf;simp only[JD,ho,J4,hf,bq,PN,JF hvs,cw.injEq,fh.injEq,true_and];have e:((first++vs++cap).map weakV).map (V.ren σ pre.length)=(first++vs++cap).map weakV:=by
       conv=>rhs;rw[<-cn ((first++vs++cap).map weakV)]
       exact bf fun v hv=>hcl v hv σ _
      rw[HX]at e;simpa only[bc]using e
     simp only[Q5,ho,KP.tab,hown,if_true,hcd,hd,hc]
    ·have:=ANU h (d:=d) hr hk γ;rw[<-DK]at this;exact this
   ·cases hx
  ·cases hx
 ·cases hx
theorem qK{cf:CF}{cy:CY}(hcf:iO P cf)(hcy:AVJ P cy){o:fp}{f:gk}{args:Array gk}{Ts:Array gq}{st st':XS}(h:Bd st)(ho:o.op=.call { callee:=.value f,args:=args,argTypes:=Ts })(hx:VD cf cy o.dst f args.toList st=some st'):StepX P o st st':=by
 unfold VD at hx;split at hx
 ·rename_i fid first cap hf;split at hx
  ·rename_i vs hvs;split at hx
   ·rename_i r st1 hr;cases hx;have b1:=AHK (h.rd hf);have b2:=ZE h hvs;obtain⟨hE,hrb,hfr,hA⟩:=hcf _ _ _ _ _ hr h (fun v hv=>by
     obtain⟨u,hu,rfl⟩:=dk.1 hv;refine lD ?_;rcases dr.1 hu with hu|hu
     ·rcases dr.1 hu with hu|hu
      ·exact b1.1 u hu
      ·exact b2 u hu
     ·exact b1.2 u hu)
    refine⟨⟨hE.c,hE.bd.putF hrb,hE.n⟩,fun σ pre k hk=>?_⟩;rw[LB,FN]at hvs;rw[D8]at hf;unfold ES;simp only[ho,J4,hf,bq,PN,JF hvs];refine .inl ⟨rfl,?_⟩;have:=hA σ pre (fun r s'=>k (putD (st.fr.ren σ pre.length) o.dst true r) s') fun σ' ha=>?_
    ·rw[HX]at this;simpa only[bc]using this
    ·have h1:=hk σ' ha;rw[FV,hfr,<-h.f σ σ' _ ha]at h1;exact h1
   ·cases hx
  ·cases hx
 ·rename_i l q γ hf;unfold uW at hx;split at hx
  ·rename_i vs hvs;split at hx
   ·rename_i r st1 hr;cases hx;obtain⟨hE,hrb,hfr,fr0,ps,asg,body,N,hget,hA⟩:=hcy _ _ _ _ _ _ _ hr h (ZE h hvs);refine⟨⟨hE.c,hE.bd.putF hrb,hE.n⟩,fun σ pre k hk=>?_⟩;rw[LB,FN]at hvs;rw[D8]at hf;unfold ES;simp only[ho,J4,hf,bq,kX,JF hvs,CC,hget,A0.ren];refine⟨trivial,trivial,?_⟩;refine hA σ pre (fun r s'=>k (putD (st.fr.ren σ pre.length) o.dst true r) s') fun σ' ha=>?_;have h1:=hk σ' ha;rw[FV,hfr,<-h.f σ σ' _ ha]at h1;exact h1
   ·cases hx
  ·cases hx
 ·cases hx
theorem qM{E:XE}(hE:KP P E){own:fp->Bool}{o:fp}{st st':XS}(h:Bd st)(hx:RH P E own o st=some st'):StepX P o st st':=by
 unfold RH at hx;split at hx
 ·rename_i T ho;exact(iL (Ω:=HP.nothing P) h ho hx).step
 ·rename_i T x ho;exact(yO (Ω:=HP.nothing P) h ho hx).step
 ·rename_i T r ho;exact(yP (Ω:=HP.nothing P) h ho hx).step
 ·rename_i T x y ho;exact(pX (Ω:=HP.nothing P) h ho hx).step
 ·rename_i T x y ho;exact iM h ho hx
 ·rename_i T x i y ho;exact ANS h ho hx
 ·rename_i c ho;obtain⟨callee,args,Ts⟩:=c;unfold A7B at hx;split at hx
  ·rename_i f hc;have hc:callee=.value f:=hc;subst hc;unfold qJ at hx;cases hown:own o with
   |false=>rw[hown]at hx;exact qK hE.cf hE.cy h ho hx
   |true=>
    rw[hown]at hx
    have hx:(match JS E.co o.dst f args.toList st with
     |some st'=>some st'
     | none=>VD E.cf E.cy o.dst f args.toList st)=some st':=hx
    split at hx
    ·rename_i st1 h1;cases hx;exact(iP hE hown h ho h1).step
    ·exact qK hE.cf hE.cy h ho hx
  ·rename_i hc;have hc:callee=.builtin .append:=hc;subst hc;exact uU h ho hx
  ·rename_i hc;have hc:callee=.builtin .clear:=hc;subst hc;exact ACL h ho hx
  ·rename_i hc;have hc:callee=.builtin .copy:=hc;subst hc;exact AHJ h ho hx
  ·exact yT h hx
 ·exact yT h hx
def gdX(fr:Fr)(gd:Option (Tmp×Bool)):Option Bool:=match gd with
 |none=>some true
 |some (d,want)=>match A3 fr d with
  |some (c,.bool b)=>some (c&&(b==want))
  |_=>none
theorem uX(gd:Option (Tmp×Bool)):gdX fr gd=Q4 fr gd:=by
 cases gd with
 |none=>rfl
 |some p=>simp only[gdX,Q4,GS];rfl
theorem NV{gd:Option (Tmp×Bool)}(h:Q4 fr gd=some g):Q4 (fr.ren σ δ) gd=some g:=by
 cases gd with
 |none=>exact h
 |some p=>
  simp only[Q4]at h|-
  split at h
  ·rename_i c b e;simp only[Fr.get_ren,e,bq,MP];exact h
  ·cases h
def JH(d:Option Tmp)(st:XS):XS:={ st with fr:=putD st.fr d false (.bool false) }
def AHL(P:ft)(lit:Tmp->Bool)(o:fp)(st:XS):Option XS:=match o.op,o.dst with
 | .buildSlice T _ _,some d=>Bool.rec none (match BU P T,ANT P o st.fr st.s with
  |some (none,e),some (.list true (x::es))=>Bool.rec none (some ⟨st.c+1,(d,true,HO (.vec e (x::es)) st.s.up.length d st.c)::st.fr,st.s.put st.s.up.length d st.c (.vec e (x::es))⟩) (dn (x::es).length maxLen)
  | _,_=>none) (lit d)
 |_,_=>none
theorem ANW{lit:Tmp->Bool}{o:fp}{st st':XS}(h:Bd st)(hx:AHL P lit o st=some st'):KZ st st' /\
  ∀(σ:Nat->Nat) (pre:List AA) (k:Fr->St->Prop),(∀σ',AU st.c σ σ'->k (st'.fr.ren σ' pre.length) (st'.s.emb σ' pre))->A63 P true o (st.fr.ren σ pre.length) (st.s.emb σ pre) k:=by
 unfold AHL at hx
 split at hx
 ·rename_i T len parts d ho hd;obtain⟨_,hx⟩:=EV hx;split at hx
  ·rename_i e x es hel hv;obtain⟨hc,he⟩:=J9 hx;cases he;have hv:=QN hv;have hb:=VC h (h.val hv) (ys:=x::es) rfl;refine⟨dD h rfl fun σ σ' δ ha=>by simp only[A0.ren,hb σ σ' δ ha],fun σ pre k hk=>?_⟩;have hv':=JG (σ:=σ) (pre:=pre) hv;unfold FT at hv';simp only[ho]at hv';obtain⟨ps,h1,h2⟩:=bk.1 hv';rw[E5]at h2;refine⟨T,len,parts,d,e,_,ps,ho,rfl,hd,hel,h1,h2,by simp,by simpa [cz]using hc,fun γ=>?_⟩;have:=uT h (d:=d) (r:=.vec e (x::es)) (fun σ σ' δ ha=>by simp only[A0.ren,hb σ σ' δ ha]) hk γ;rw[DK];simpa only[HO,A0.ren]using this
  ·cases hx
 ·cases hx
def ANX(all:List fp)(t:Tmp):Bool:=all.any fun p=>match p.op,p.dst with
 |.call { callee:=.builtin .append,.. },some d=>bz d t
 |_,_=>false
def NW(all:List fp)(st:XS):List gk->Option XS
 |[]=>none
 |x::r=>match x with
  | .tmp t=>Bool.rec (NW all st r) (match A3 st.fr t with
   |some (true,.vec l q γ n)=>match st.s.get l q with
    |some (γ',.vec _ es)=>Bool.rec none (some ⟨st.c,(t,true,.list false (es.take n))::st.fr,st.s.put l q γ .dead⟩) (bz γ' γ&&dn n es.length&&cx γ st.c)
    |_=>none
   | _=>none) (ANX all t)
  |_=>NW all st r
def AHM(all:List fp)(o:fp)(st:XS):Option XS:=match o.op with
 |.call c=>match c.callee with
  |.value _=>NW all st c.args.toList
  |_=>none
 |_=>none
theorem W3{all:List fp}{st st1:XS}(h:Bd st):∀{xs:List gk},NW all st xs=some st1->KZ st st1 /\
  ∀(o:fp) (σ:Nat->Nat) (pre:List AA) (k:Fr->St->Prop),ES P true o (st1.fr.ren σ pre.length) (st1.s.emb σ pre) k->ARG P true o (st.fr.ren σ pre.length) (st.s.emb σ pre) k
 |[],hx=>by cases hx
 |x::r,hx=>by
  unfold NW at hx;split at hx
  ·rename_i t;cases hA:ANX all t with
   |false=>rw[hA]at hx;exact W3 h hx
   |true=>
    rw[hA]at hx
    have hx:(match A3 st.fr t with
     |some (true,.vec l q γ n)=>match st.s.get l q with
      |some (γ',.vec _ es)=>Bool.rec none (some ⟨st.c,(t,true,.list false (es.take n))::st.fr,st.s.put l q γ .dead⟩) (bz γ' γ&&dn n es.length&&cx γ st.c)
      |_=>none
     | _=>none)=some st1:=hx
    split at hx
    ·rename_i l q γ n hg;split at hx
     ·rename_i γ' T es hs;obtain⟨hc,he⟩:=J9 hx;simp only[bx]at hc;obtain⟨⟨h1,h2⟩,h3⟩:=hc;have h1:=bj h1;have h2:n<=es.length:=by simpa [cz]using h2
      have h3:γ<st.c:=by simpa [cd]using h3
      subst h1;cases he;rw[GS]at hg;have hb:∀σ σ' δ,AU st.c σ σ'->es.map (cj (V.ren σ δ))=es.map (cj (V.ren σ' δ)):=fun σ σ' δ ha=>by have:=NS h hs σ σ' δ ha;simpa [A0.ren]using this
      have hv:V5 st.c (.list false (es.take n)):=fun σ σ' δ ha=>by simp only[E5,ck,hb σ σ' δ ha]
      have hbd:Bd ⟨st.c,(t,true,.list false (es.take n))::st.fr,st.s.put l q γ' .dead⟩:=(h.putS (l:=l) (k:=q) (r:=.dead) h3 (fun _ _ _ _=>rfl)).putF (d:=some t) (c:=true) hv;refine⟨⟨bn _,hbd,St.put_len _ _ _ _ _⟩,fun o σ pre k hk=>⟨t,l+pre.length,q,σ γ',n,T,es.map (cj (V.ren σ pre.length)),rfl,?_,?_,by simpa using h2,?_⟩⟩
      ·rw[Fr.get_ren,hg];simp
      ·rw[CC,hs];simp[A0.ren]
      ·change ES P true o ((st.fr.put t true _).ren _ _) _ k at hk;simp only[HV,E5,CU,A0.ren,ck]at hk;exact hk
     ·cases hx
    ·cases hx
  ·exact W3 h hx
def opX(P:ft)(E:XE)(all:List fp)(o:fp)(st:XS):Option XS:=match gdX st.fr (LU all o)with
 |some true=>match AHL P E.lit o st with
  |some st'=>some st'
  |none=>match AHM all o st with
   |some st1=>RH P E (DZ all) o st1
   |none=>RH P E (DZ all) o st
 |some false=>some (JH o.dst st)
 |none=>none
theorem iQ{d:Option Tmp}{st:XS}(h:Bd st):KZ st (JH d st):=⟨bn _,h.putF (fun σ σ' δ _=>by simp),rfl⟩
theorem AHN{E:XE}(hE:KP P E){all:List fp}{o:fp}{st st':XS}(h:Bd st)(hx:opX P E all o st=some st'):KZ st st'/\∃g,(∀σ δ,Q4 (st.fr.ren σ δ) (LU all o)=some g) /\
  ∀(σ:Nat->Nat) (pre:List AA) (k:Fr->St->Prop),(∀σ',AU st.c σ σ'->k (st'.fr.ren σ' pre.length) (st'.s.emb σ' pre))->GJ P g o (st.fr.ren σ pre.length) (st.s.emb σ pre) k:=by
 unfold opX at hx
 rw[uX]at hx
 split at hx
 ·rename_i hg;split at hx
  ·rename_i st1 hl;cases hx;obtain⟨h1,h2⟩:=ANW h hl;exact⟨h1,true,fun σ δ=>NV hg,fun σ pre k hk=>.inr (.inr (.inl (h2 σ pre k hk)))⟩
  ·split at hx
   ·rename_i st1 ht;have ht':∃xs,NW all st xs=some st1:=by
     unfold AHM at ht;split at ht
     ·split at ht
      ·exact⟨_,ht⟩
      ·cases ht
     ·cases ht
    obtain⟨xs,ht'⟩:=ht';obtain⟨hE1,hs1⟩:=W3 (P:=P) h ht';obtain⟨h1,h2⟩:=qM hE hE1.bd hx;exact⟨⟨dg hE1.c h1.c,h1.bd,h1.n.trans hE1.n⟩,true,fun σ δ=>NV hg,fun σ pre k hk=>.inr (.inr (.inr (hs1 o σ pre k (h2 σ pre k fun σ' ha=>hk σ' (ha.mono hE1.c)))))⟩
   ·obtain⟨h1,h2⟩:=qM hE h hx;exact⟨h1,true,fun σ δ=>NV hg,fun σ pre k hk=>.inl (h2 σ pre k hk)⟩
 ·rename_i hg;cases hx;refine⟨iQ h,false,fun σ δ=>NV hg,fun σ pre k hk=>.inr (.inl ⟨rfl,.bool false,?_⟩)⟩;have:=hk σ (AU.refl _ _);simpa only[JH,FV,MP]using this
 ·cases hx
def lE(P:ft)(E:XE)(all:List fp):List fp->XS->Option XS
 |[],st=>some st
 |o::r,st=>match opX P E all o st with
  |some st'=>lE P E all r st'
  |none=>none
theorem lF{E:XE}(hEE:KP P E){all:List fp}:∀{l:List fp} {st st':XS},Bd st->lE P E all l st=some st'->KZ st st' /\
  ∀(σ:Nat->Nat) (pre:List AA) (K:Fr->St->Prop),(∀σ',AU st.c σ σ'->K (st'.fr.ren σ' pre.length) (st'.s.emb σ' pre))->X6 P (l.map (LU all)) l (st.fr.ren σ pre.length) (st.s.emb σ pre) K
 |[],st,st',h,hx=>by cases hx;exact⟨⟨bn _,h,rfl⟩,fun σ pre K hk=>hk σ (AU.refl _ _)⟩
 |o::l,st,st',h,hx=>by
  simp only[lE]at hx;split at hx
  ·rename_i st1 h1;obtain⟨hE,g,hg,hs⟩:=AHN hEE h h1;obtain⟨hE',hs'⟩:=lF hEE hE.bd hx;refine⟨⟨dg hE.c hE'.c,hE'.bd,hE'.n.trans hE.n⟩,fun σ pre K hk=>?_⟩;simp only[dv,X6,hg];exact hs σ pre _ fun σ' ha=>hs' σ' pre K fun σ'' ha'=>hk σ'' (ha.trans ha' hE.c)
  ·cases hx
def dE(cf:CF0)(d:Option Tmp)(f:gk)(args:List gk)(st:XS):Option XS:=match CP st.fr f with
 |some (.fn fid first cap)=>match GI (CP st.fr) args with
  |some vs=>match cf fid ((first++vs++cap).map weakV)with
   |some r=>some { st with fr:=putD st.fr d true r }
   |none=>none
  |none=>none
 |_=>none
def VE(r:Option XS):Option (XS×AL):=match r with
 |some st=>some (st,[])
 |none=>none
def xAppD(P:ft)(d:Option Tmp)(args:List gk)(Ts:List gq)(st:XS):Option (XS×AL):=match xAppG elemsOf P d args Ts st with
 |some (st',l,q)=>some (st',[(l,q),(l,q+JE)])
 |none=>none
def ARP(P:ft)(E:XE)(own:fp->Bool)(o:fp)(c:Call)(st:XS):Option (XS×AL):=match c.callee with
 |.value f=>Bool.rec (VE (dE E.c0 o.dst f c.args.toList st)) (VE (JS E.co o.dst f c.args.toList st)) (own o)
 |.builtin .append=>xAppD P o.dst c.args.toList c.argTypes.toList st
 |_=>VE (fQ P o st)
def AHO(P:ft)(d:Option Tmp)(T:gq)(x y:gk)(st:XS):Option (XS×AL):=match JQ P d T x y st with
 |some st'=>some (st',C4 (bz (P.cellsOf T) 1) (CP st.fr x))
 |none=>none
def lG(P:ft)(E:XE)(own:fp->Bool)(o:fp)(st:XS):Option (XS×AL):=match o.op with
 |.alloc T=>VE (PR P o.dst T st)
 |.box _ x=>VE (pW o.dst x st)
 |.makeMap _ r=>VE (ACJ o.dst r st)
 |.makeSlice T x y=>VE (YI P o.dst T x y st)
 |.store T x y=>AHO P o.dst T x y st
 |.call c=>ARP P E own o c st
 |_=>VE (fQ P o st)
def uY(P:ft)(E:XE)(all:List fp)(o:fp)(st:XS):Option (XS×AL):=match gdX st.fr (LU all o)with
 |some true=>lG P E (DZ all) o st
 |some false=>Bool.rec (some (JH o.dst st,[])) none (kA (DZ all) o||kW o||kP o)
 |none=>none
theorem HY{r:Option XS}{st':XS}{wr:AL}(h:VE r=some (st',wr)):r=some st'/\wr=[]:=by
 unfold VE at h;split at h
 ·cases h;exact⟨rfl,rfl⟩
 ·cases h
def AVK(P:ft)(Ω:HP P)(all:List fp)(o:fp)(st st':XS)(wr:AL):Prop:=KZ st st' /\
  ∀(W:AL) (σ:Nat->Nat) (pre:List AA) (k:Fr->St->Prop),(∀p∈EM P o (CP st.fr),p∉W)->(∀p∈wr,p∈W)->(∀σ',AU st.c σ σ'->k (st'.fr.ren σ' pre.length) (st'.s.emb σ' pre))->I5 P Ω (eV pre.length W) o (LU all o) (st.fr.ren σ pre.length) (st.s.emb σ pre) k
theorem ANY{E:XE}(hE:KP P E){all:List fp}{o:fp}{st st':XS}{wr:AL}(h:Bd st)(hx:uY P E all o st=some (st',wr)):AVK P (hE.tab (DZ all)) all o st st' wr:=by
 have val:∀{st'},(∀σ δ,Q4 (st.fr.ren σ δ) (LU all o)=some true)->fQ P o st=some st'->AVK P (hE.tab (DZ all)) all o st st' wr:=by
  intro st' hg hx;unfold fQ at hx;split at hx
  ·rename_i v hv;cases hx;have hv:=QN hv;refine⟨⟨bn _,h.putF (h.val hv),rfl⟩,fun W σ pre k hr _ hk=>.inl ⟨true,v.ren σ pre.length,⟨hg _ _,?_⟩,?_⟩⟩
   ·have hrd:∀p∈EM P o (D3 true (st.fr.ren σ pre.length)),p∉eV pre.length W:=by rw[J4,uR,<-FN];exact pZ hr
    cases hi:pY P o (D3 true (st.fr.ren σ pre.length))with
    |true=>exact .inr (.inr (.inl (AVG (JG hv) hi hrd)))
    |false=>exact .inl ⟨_,dB _,ACM (JG hv) hi hrd⟩
   ·have:=hk σ (AU.refl _ _);rwa [FV]at this
  ·cases hx
 have new:∀{st'},(∀σ δ,Q4 (st.fr.ren σ δ) (LU all o)=some true)->lA P (hE.tab (DZ all)) o st st'->AVK P (hE.tab (DZ all)) all o st st' wr:=by intro st' hg hn;obtain⟨h1,d,hd,h2⟩:=hn;refine⟨h1,fun W σ pre k _ _ hk=>?_⟩;obtain⟨r,hr,h3⟩:=h2 σ pre k hk;exact .inr (.inl ⟨r,d,⟨hg _ _,hd,hr⟩,h3⟩)
 unfold uY at hx;rw[uX]at hx;split at hx
 ·rename_i hg;have hg':∀σ δ,Q4 (st.fr.ren σ δ) (LU all o)=some true:=fun σ δ=>NV hg;unfold lG at hx;split at hx
  ·rename_i T ho;exact new hg' (iL h ho (HY hx).1)
  ·rename_i T x ho;exact new hg' (yO h ho (HY hx).1)
  ·rename_i T r ho;exact new hg' (yP h ho (HY hx).1)
  ·rename_i T x y ho;exact new hg' (pX h ho (HY hx).1)
  ·rename_i T x y ho;unfold AHO at hx;split at hx
   ·rename_i st1 hx1;cases hx;obtain⟨hE1,_⟩:=iM h ho hx1;obtain⟨l,q,γ,r,hD,rfl⟩:=AHE ho hx1;refine⟨hE1,fun W σ pre k _ hw hk=>.inr (.inr (.inl ⟨_,_,_,_,⟨hg' _ _,?_,uN hD⟩,?_⟩))⟩
    ·have hp:=cH hD;unfold uE at hp;simp only[ho]at hp;have main:∀off,(D3 true st.fr x=some (.ptr l q γ off)\/∃i,D3 true st.fr x=some (.eptr l q γ i off))->WOK P (eV pre.length W) o (st.fr.ren σ pre.length) (l+pre.length) q:=by
      intro off hx;have hC:JP P o (st.fr.ren σ pre.length)=some (off,P.cellsOf T):=by unfold JP;rcases hx with hx|⟨i,hx⟩<;>simp only[ho,DS,hx,bq,HT,PM]
      cases hb:bz (P.cellsOf T) 1 with
      |true=>
       have h1:=bj hb
       have hpl:C4 (bz (P.cellsOf T) 1) (CP st.fr x)=[(l,q),(l,E7 q off)]:=by rw[D8,hb];rcases hx with hx|⟨i,hx⟩<;>rw[hx]<;>rfl
       rw[hpl]at hw
       refine⟨NU.2 (hw _ (by simp)),.inr fun off' n' e c h2 h3=>?_⟩
       rw[hC]at e
       cases e
       obtain rfl:c=off:=by omega
       exact NU.2 (hw _ (by simp))
      |false=>
       have hpl:C4 (bz (P.cellsOf T) 1) (CP st.fr x)=[(l,q),(l,q+FU)]:=by rw[D8,hb];rcases hx with hx|⟨i,hx⟩<;>rw[hx]<;>rfl
       rw[hpl]at hw
       exact⟨NU.2 (hw _ (by simp)),.inl (NU.2 (hw _ (by simp)))⟩
     split at hp
     ·rename_i l1 q1 γ1 off e;cases hp;exact main off (.inl e)
     ·rename_i l1 q1 γ1 i off e;cases hp;exact main off (.inr ⟨i,e⟩)
     ·cases hp
    ·have:=hk σ (AU.refl _ _);simp only[CU]at this;exact this
   ·cases hx
  ·rename_i c ho;obtain⟨callee,args,Ts⟩:=c;unfold ARP at hx;split at hx
   ·rename_i f hc;have hc:callee=.value f:=hc;subst hc;cases hown:DZ all o with
    |true=>
     rw[hown]at hx
     exact new hg' (iP hE hown h ho (HY hx).1)
    |false=>
     rw[hown]at hx
     have hx:=(HY hx).1
     unfold dE at hx
     split at hx
     ·rename_i fid first cap hf;split at hx
      ·rename_i vs hvs;split at hx
       ·rename_i r hr;cases hx;obtain⟨hA,hcl,hrc⟩:=hE.c0 _ _ _ hr;refine⟨⟨bn _,h.putF (fun σ σ' δ _=>by rw[hrc,hrc]),rfl⟩,fun W σ pre k _ _ hk=>.inl ⟨true,r,⟨hg' _ _,.inr (.inl ⟨fid,(first++vs++cap).map weakV,?_,hown,fun _ s=>hA s⟩)⟩,?_⟩⟩
        ·rw[LB,FN]at hvs;rw[D8]at hf;simp only[JD,ho,J4,hf,bq,PN,JF hvs,cw.injEq,fh.injEq,true_and];have e:((first++vs++cap).map weakV).map (V.ren σ pre.length)=(first++vs++cap).map weakV:=by
          conv=>rhs;rw[<-cn ((first++vs++cap).map weakV)]
          exact bf fun v hv=>hcl v hv σ _
         rw[HX]at e;simpa only[bc]using e
        ·have:=hk σ (AU.refl _ _);rwa [FV,hrc]at this
       ·cases hx
      ·cases hx
     ·cases hx
   ·rename_i hc;have hc:callee=.builtin .append:=hc;subst hc;unfold xAppD at hx;split at hx
    ·rename_i st1 l q e1;cases hx;obtain⟨d,r,hd,hp,rfl,hr,_,hs⟩:=dC (fun _ _ _ h=>h) h ho e1;have hra:EM P o (CP st.fr)=KO (CP st.fr) args.toList:=by simp only[EM,ho]
     refine⟨dD h hp hr,fun W σ pre k hrd hw hk=>.inr (.inr (.inr ⟨l+pre.length,q,r.ren σ pre.length,d,⟨hg' _ _,⟨NU.2 (hw _ (by simp)),NU.2 (hw _ (by simp))⟩,hd,_,dB _,hs W σ pre (by rw[<-hra];exact hrd)⟩,fun γ=>uT h hr hk γ⟩))⟩
    ·cases hx
   ·exact val hg' (HY hx).1
  ·exact val hg' (HY hx).1
 ·rename_i hg;cases hk:(kA (DZ all) o||kW o||kP o)with
  |true=>rw[hk]at hx;cases hx
  |false=>
   rw[hk]at hx
   cases hx
   rw[dt,dt]at hk
   refine⟨iQ h,fun W σ pre k _ _ hk'=>.inl ⟨false,.bool false,⟨NV hg,.inr (.inr (.inr ⟨rfl,hk.1.1,hk.1.2,hk.2⟩))⟩,?_⟩⟩
   have:=hk' σ (AU.refl _ _)
   simpa only[JH,FV,MP]using this
 ·cases hx
def phX(P:ft)(E:XE)(l:List fp):List Nat->XS->AL->AL->Option (XS×AL×AL)
 |[],st,rd,wr=>some (st,rd,wr)
 |i::r,st,rd,wr=>match l[i]? with
  |some o=>match uY P E l o st with
   |some (st',w)=>phX P E l r st' (cond (zB l o) [] (EM P o (CP st.fr))++rd) (w++wr)
   |none=>none
  |none=>none
def sqX(P:ft)(E:XE)(l:List fp):List Nat->XS->Option XS
 |[],st=>some st
 |i::r,st=>match l[i]? with
  |some o=>match opX P E l o st with
   |some st'=>sqX P E l r st'
   |none=>none
  |none=>none
def ACP(P:ft)(E:XE)(l:List fp):YY->XS->Option XS
 |[],st=>some st
 | p :: S,st=>Bool.rec none (match phX P E l p.1 st [] []with
  | some (st1,rd,wr)=>Bool.rec none (match sqX P E l p.2 st1 with
   |some HD=>ACP P E l S HD
   | none=>none) (wr.all fun p=>!(rd.contains p))
  | none=>none) (cU (DZ l) l p.1 st.s.loc)
theorem ZF{l:List fp}{i:Nat}{o:fp}(h:l[i]? = some o):eT (l.map (LU l)) i=LU l o:=by simp[eT,h]
theorem ANZ{E:XE}{all:List fp}{o:fp}{st st':XS}{wr:AL}(ho:∃T x,o.op=.load T x)(hx:uY P E all o st=some (st',wr)):wr=[]:=by
 obtain⟨T,x,ho⟩:=ho;unfold uY at hx;split at hx
 ·unfold lG at hx;rw[ho]at hx;exact(HY hx).2
 ·cases hk:(kA (DZ all) o||kW o||kP o)with
  |true=>rw[hk]at hx;cases hx
  |false=>rw[hk]at hx;exact(fh.inj (cw.inj hx)).2.symm
 ·cases hx
theorem AHP{E:XE}(hEE:KP P E){l:List fp}:∀{R:List Nat} {st st':XS} {rd wr rd' wr':AL},Bd st->phX P E l R st rd wr=some (st',rd',wr')->KZ st st'/\(∀p∈rd,p∈rd')/\(∀p∈wr,p∈wr') /\
  ∀(W:AL) (σ:Nat->Nat) (pre:List AA) (K:Fr->St->Prop),(∀p∈rd',p∉W)->(∀p∈wr',p∈W)->(∀σ',AU st.c σ σ'->K (st'.fr.ren σ' pre.length) (st'.s.emb σ' pre))->RE P (hEE.tab (DZ l)) (eV pre.length W) l (l.map (LU l)) R (st.fr.ren σ pre.length) (st.s.emb σ pre) K
 |[],st,st',rd,wr,rd',wr',h,hx=>by cases hx;exact⟨⟨bn _,h,rfl⟩,fun _ h=>h,fun _ h=>h,fun W σ pre K _ _ hk=>hk σ (AU.refl _ _)⟩
 |i::r,st,st',rd,wr,rd',wr',h,hx=>by
  simp only[phX]at hx;split at hx
  ·rename_i o ho;split at hx
   ·rename_i st1 w1 h1;obtain⟨hE,hs⟩:=ANY hEE h h1;obtain⟨hE',hr,hw,hs'⟩:=AHP hEE hE.bd hx;refine⟨⟨dg hE.c hE'.c,hE'.bd,hE'.n.trans hE.n⟩,fun p hp=>hr p (dh _ hp),fun p hp=>hw p (dh _ hp),fun W σ pre K hrd hwr hk=>?_⟩;simp only[RE,OA,ho,ZF ho];cases hz:zB l o with
    |true=>
     have hw0:w1=[]:=ANZ (ARJ hz) h1
     subst hw0
     unfold wz
     rw[hz]
     exact hs [] σ pre _ (fun p _=>by simp) (fun p hp=>hp) fun σ' ha=>hs' W σ' pre K hrd hwr fun σ'' ha'=>hk σ'' (ha.trans ha' hE.c)
    |false=>
    rw[hz]at hr;unfold wz;rw[hz];exact hs W σ pre _ (fun p hp=>hrd p (hr p (fj _ hp))) (fun p hp=>hwr p (hw p (fj _ hp))) fun σ' ha=>hs' W σ' pre K hrd hwr fun σ'' ha'=>hk σ'' (ha.trans ha' hE.c)
   ·cases hx
  ·cases hx
theorem AHQ{E:XE}(hEE:KP P E){l:List fp}:∀{R:List Nat} {st st':XS},Bd st->sqX P E l R st=some st'->KZ st st' /\
  ∀(σ:Nat->Nat) (pre:List AA) (K:Fr->St->Prop),(∀σ',AU st.c σ σ'->K (st'.fr.ren σ' pre.length) (st'.s.emb σ' pre))->AB9 P l (l.map (LU l)) R (st.fr.ren σ pre.length) (st.s.emb σ pre) K
 |[],st,st',h,hx=>by cases hx;exact⟨⟨bn _,h,rfl⟩,fun σ pre K hk=>hk σ (AU.refl _ _)⟩
 |i::r,st,st',h,hx=>by
  simp only[sqX]at hx;split at hx
  ·rename_i o ho;split at hx
   ·rename_i st1 h1;obtain⟨hE,g,hg,hs⟩:=AHN hEE h h1;obtain⟨hE',hs'⟩:=AHQ hEE hE.bd hx;refine⟨⟨dg hE.c hE'.c,hE'.bd,hE'.n.trans hE.n⟩,fun σ pre K hk=>?_⟩;simp only[AB9,ho,ZF ho,hg];exact hs σ pre _ fun σ' ha=>hs' σ' pre K fun σ'' ha'=>hk σ'' (ha.trans ha' hE.c)
   ·cases hx
  ·cases hx
end Go.Pg
namespace Go.Pg
variable {P:ft}{σ σ':Nat->Nat}{δ:Nat}{pre:List AA}{s:St}{fr:Fr}{g:Bool}
def AG:Nat->V->Bool
 |0,_=>false
 |f+1,v=>match v with
  |.int ..|.bool _|.raw _|.nil|.any=>true
  |.agg cs|.tup cs|.ref cs=>cs.all (AG f)
  |.list _ es=>es.all fun e=>e.all (AG f)
  |.fn _ a b=>a.all (AG f)&&b.all (AG f)
  |_=>false
theorem NX{f:Nat}(ih:∀v,AG f v=true->v.ren σ δ=v){cs:List V}(h:cs.all (AG f)=true):cs.map (V.ren σ δ)=cs:=by
 conv=>rhs;rw[<-cn cs]
 exact bf fun v hv=>ih v (bh.1 h v hv)
theorem E0:∀(f:Nat) (v:V),AG f v=true->v.ren σ δ=v
 |0,_,h=>by cases h
 |f+1,v,h=>by
  have ih:=fun v=>E0 f v;cases v with
  |agg cs=>rw[HS,NX ih (by simpa [AG]using h)]
  |tup cs=>rw[K7,NX ih (by simpa [AG]using h)]
  |ref cs=>rw[NN,NX ih (by simpa [AG]using h)]
  |list b es=>
   have h':(es.all fun e=>e.all (AG f))=true:=by simpa [AG]using h
   rw[E5]
   congr 1
   conv=>rhs;rw[<-cn es]
   exact bf fun e he=>NX ih (bh.1 h' e he)
  |fn g a b=>
   have h':a.all (AG f)=true/\b.all (AG f)=true:=by simpa [AG]using h
   rw[PN,NX ih h'.1,NX ih h'.2]
  |int k n=>simp
  |bool b=>simp
  |raw v=>simp
  |nil=>simp
  |any=>simp
  |_=>simp[AG]at h
def RI(ks:List Nat)(fr:Fr):Fr:=List.rec (motive:=fun _=>Fr) [] (fun k _ ih=>match A3 fr k with
 |some (c,v)=>(k,c,v)::ih
 | none=>ih) ks
theorem dF(fr:Fr):∀(ks:List Nat),RI ks fr=PH ks fr
 |[]=>rfl
 |k::r=>by have:=dF fr r;show(match A3 fr k with|some (c,v)=>(k,c,v)::RI r fr|none=>RI r fr)=PH (k::r) fr;rw[this,GS];rfl
theorem W4:∀(ks:List Nat),PH ks (fr.ren σ δ)=(PH ks fr).ren σ δ
 |[]=>rfl
 |k::r=>by
  simp only[PH,Fr.get_ren,W4 r];cases fr.get k with
  |none=>rfl
  |some p=>rfl
theorem W5{L:AA}:∀(ks:List Nat),JC ks (L.ren σ δ)=(JC ks L).ren σ δ
 |[]=>rfl
 |k::r=>by
  simp only[JC,AA.get_ren,W5 r];cases L.get k with
  |none=>rfl
  |some p=>rfl
def VF:List Nat->List Nat->List Nat
 |acc,[]=>acc
 |acc,k::r=>VF (cond (acc.any (bz k)) acc (k::acc)) r
def SG(ks ls:List Nat)(st:XS):XS:=⟨st.c,RI ks st.fr,⟨st.s.up,JC ls st.s.loc⟩⟩
theorem AHR{ks ls:List Nat}{st:XS}{l k:Nat}{x:Nat×A0}(h:(SG ks ls st).s.get l k=some x):st.s.get l k=some x:=by
 unfold St.get SG at h;unfold St.get;simp only at h;split at h
 ·rename_i e;rw[if_pos e];exact QH h
 ·rename_i e;rw[if_neg e];exact h
theorem VG{ks ls:List Nat}{st:XS}(h:Bd st):KZ st (SG ks ls st):=by
 refine⟨bn _,⟨fun σ σ' δ ha=>?_,fun σ σ' pre ha=>?_,fun l k γ fr ps asg body N ls hg=>h.lp l k γ fr ps asg body N ls (AHR hg)⟩,rfl⟩
 ·simp only[SG,dF,<-W4];rw[h.f σ σ' δ ha]
 ·have:=h.s σ σ' pre ha;simp only[St.emb,St.mk.injEq]at this;simp only[SG,St.emb,St.mk.injEq,<-W5];exact⟨this.1,by rw[this.2]⟩
theorem W6{n N:Nat}{ρ:Option Nat}{c:gw}{K:Exit->Fr->St->Prop}{ks ls:List Nat}{st:XS}(h:BI P n N ρ c K ((SG ks ls st).fr.ren σ pre.length) ((SG ks ls st).s.emb σ pre)):BI P n N ρ c K (st.fr.ren σ pre.length) (st.s.emb σ pre):=by
 refine AB2 ks ls ?_;have e2:(⟨(st.s.emb σ pre).up,JC ls (st.s.emb σ pre).loc⟩:St)=(SG ks ls st).s.emb σ pre:=by simp only[SG,St.emb,W5]
 rw[W4,e2,<-dF];exact h
abbrev eW:=gw->XS->Option (Exit×XS)
def RJ(P:ft)(E:XE)(l:List fp)(st:XS):Option XS:=ACP P E l (fP l) st
def A7C(P:ft)(E:XE)(l:List fp)(draw:Bool)(st:XS):Option XS:=Bool.rec (lE P E l l st)
 (match AVF l with
  |[]=>RJ P E l st
  | ds=>RJ P E l (SG (VF [] (st.fr.map (·.1))) ((VF [] (st.s.loc.map (·.1))).filter fun k=>!(ds.any (bz k))) st)) draw
def OP(r:Option XS):Option (Exit×XS):=match r with
 |some st=>some (.normal,st)
 |none=>none
def lH(rec:eW)(b:gw)(r:Option (Exit×XS)):Option (Exit×XS):=match r with
 |some (.normal,st')=>rec b st'
 |r=>r
def W7(id:Nat)(r:Option (Exit×XS)):Option (Exit×XS):=match r with
 |some (.exit i,st')=>Bool.rec (some (.exit i,st')) (some (.normal,st')) (bz i id)
 |r=>r
def qN(rec:eW)(a b:gw)(st:XS)(r:Option V):Option (Exit×XS):=match r with
 |some (.bool c)=>Bool.rec (rec b st) (rec a st) c
 |_=>none
def iR(rec:eW)(body:gw)(ks:List Nat)(n:Nat):XS->Option (Exit×XS):=Nat.rec (motive:=fun _=>XS->Option (Exit×XS)) (fun _=>none) (fun _ ih st=>match rec body (SG ks (VF [] (st.s.loc.map (·.1))) st)with
 |some (.normal,st')=>ih st'
 | r=>r) n
def BL:Nat:=1000000
def lI(fr:Fr)(n γ:Nat)(r:Option (V×XS)):Option (Exit×XS):=match r with
 |some (_,st)=>match st.s.get n BL with
  | some (γ',.loop _ _ _ _ _ ls)=>Bool.rec none (match ls with
   |.ready=>some (.normal,⟨st.c,fr,st.s.put n BL γ .dead⟩)
   |.left .ret=>some (.ret,⟨st.c,fr,st.s.put n BL γ .dead⟩)
   |.left (.exit id)=>some (.exit id,⟨st.c,fr,st.s.put n BL γ .dead⟩)
   | _=>none) (bz γ' γ&&cx γ st.c)
  |_=>none
 |none=>none
def W8(cf:CF)(N:Nat)(g:gk)(ps:List Tmp)(asg body:gw)(st:XS):Option (Exit×XS):=match CP st.fr g with
 |some (.fn f first cap)=>lI st.fr st.s.up.length st.c (cf f ((first++[V.yld st.s.up.length BL st.c]++cap).map weakV) ⟨st.c+1,st.fr,st.s.put st.s.up.length BL st.c (.loop st.fr ps asg body N .ready)⟩)
 |_=>none
def dG(P:ft)(E:XE)(n N:Nat)(rec:eW):eW:=fun code st=>match code with
 |.skip=>some (.normal,st)
 |.label _=>some (.normal,st)
 |.region _ ops draw=>OP (A7C P E ops.toList draw st)
 |.seq a b=>lH rec b (rec a st)
 |.cond c a b=>qN rec a b st (CP st.fr c)
 |.block id body=>W7 id (rec body st)
 |.loop body=>iR rec body (VF [] (st.fr.map (·.1))) n st
 |.exit id=>some (.exit id,st)
 |.ret=>some (.ret,st)
 |.scope body=>rec body st
 |.rangeFunc g ps asg body=>W8 E.cf N g ps.toList asg body st
 |_=>none
abbrev GP:=Nat->eW
def ACQ(P:ft)(rs:List ResultVar)(st:XS):Option (V×Nat×List AA):=match GL P rs st.fr st.s with
 |some r=>match A5 st.s 4 r with
  |some r'=>some (r',st.c,st.s.up.map (AJ st.s))
  |none=>none
 |none=>none
def qO{α:Type}(rec:eW)(ret:XS->Option α)(code:gw)(st:XS):Option α:=match rec code st with
 |some (.ret,st')=>ret st'
 |some (.normal,st')=>ret st'
 |_=>none
def YK{α:Type}(P:ft)(rec:GP)(ret:Func->XS->Option α)(f:gv)(args:List V)(c:Nat)(up:List AA):Option α:=match P.funcs[f]? with
 |some fn=>match fn.body with
  |some code=>Bool.rec none (qO (rec fn.ntmps) (ret fn) code ⟨c,AF 0 args,⟨up,[]⟩⟩) (dn args.length fn.ntmps)
  |none=>none
 |none=>none
def iS(P:ft)(rec:GP)(f:gv)(args:List V)(c:Nat)(up:List AA):Option (V×Nat×List AA):=YK P rec (fun fn=>ACQ P fn.results.toList) f args c up
def E1(P:ft)(rec:GP):CF0:=fun f args=>Bool.rec none (match iS P rec f args 0 []with
 |some (r,_,_)=>Bool.rec none (some r) (AG 9 r)
 | none=>none) (args.all (AG 9))
def CO{α:Type}:List α->Option (List α×α)
 |[]=>none
 |[x]=>some ([],x)
 |x::r=>match CO r with
  |some (a,b)=>some (x::a,b)
  |none=>none
def AZ(P:ft)(kn:CF0)(rec:GP):CF0:=fun f args=>match kn f args with
 |some r=>some r
 |none=>E1 P rec f args
def weakM:V->V
 |.nil=>.list false []
 |v=>v
def weakN:V->V
 |.nil=>.list false []
 |.agg cs=>.agg (cs.map weakM)
 |v=>v
theorem RepV.empty{G:Gh}{v:Value}(h:RepV G .nil v):RepV G (.list false []) v:=by cases h;exact .list false [] none 0 0 0 0 #[] 0 (0,0) (fun _ _=>undef) (by simp) (fun h=>by cases h) (fun h=>absurd rfl h) (fun i h=>absurd h (by simp)) (fun i h=>absurd h (by simp)) (fun i h=>absurd h (by simp))
theorem RepV.weakM{G:Gh}{x:V}{v:Value}(h:RepV G x v):RepV G (weakM x) v:=by cases x<;>first|exact h|exact h.empty
theorem lJ(x:V):(weakM x).isCell=x.isCell:=by cases x<;>rfl
theorem RepV.weakN{G:Gh}{x:V}{v:Value}(h:RepV G x v):RepV G (weakN x) v:=by
 cases x with
 |nil=>exact h.empty
 |agg cs=>
  cases h with
  |agg _ arr hl hc hr=>
   refine .agg _ arr (by simpa using hl) (fun c hc'=>?_) (fun i h1 h2=>?_)
   ·obtain⟨d,hd,rfl⟩:=dk.1 hc';rw[lJ];exact hc d hd
   ·simp only[List.getElem_map];exact(hr i (by simpa using h1) h2).weakM
 |_=>exact h
theorem RepA.weakN{G:Gh}{xs:List V}{vs:List Value}(h:RepA G xs vs):RepA G (xs.map Pg.weakN) vs :=
 ⟨by simpa using h.1,fun i h1 h2=>by simp only[List.getElem_map];exact(h.2 i (by simpa using h1) h2).weakN⟩
def FY(P:ft)(kn:CF0)(rec:GP):CF0:=fun f args=>match AZ P kn rec f (args.map weakN)with
 |some r=>Bool.rec (AZ P kn rec f args) (some r) (args.all (AG 9))
 |none=>AZ P kn rec f args
def BHW(P:ft)(T:gq):Bool:=match P.underlying T with
 |some (.pointer _)=>true
 |_=>false
def BJ(P:ft)(f:gv):Bool:=match P.funcs[f]? with
 |some fn=>fn.resultTypes.toList.any (BHW P)
 |none=>false
def dH(P:ft)(kn:CF0)(rec:GP):CF:=fun f args st=>Bool.rec (match iS P rec f args st.c (st.s.up++[st.s.loc])with
 |some (r,c,up)=>match CO up with
  |some (u,l)=>some (r,⟨c,st.fr,⟨u,l⟩⟩)
  |none=>none
 | none=>none) (match FY P kn rec f args with
  |some r=>some (r,st)
  | none=>none) (args.all (AG 9)&&!(BJ P f))
def uZ(P:ft)(fn:Func)(st:XS):Option Mk:=match GL P fn.results.toList st.fr st.s with
 | some (.vec l k γ n)=>Bool.rec none (match st.s.loc.get k with
  |some (γ',.vec T es)=>Bool.rec none (some ⟨.vec T es,none⟩) (bz γ' γ&&bz n es.length&&es.all fun e=>e.all (AG 9))
  | _=>none) (bz l st.s.up.length)
 | some v=>Bool.rec none (match fn.resultTypes.toList with
  |[R]=>match BU P R with
   |some (none,T)=>some ⟨.vec T [],none⟩
   |_=>none
  | _=>none) (YV v)
 |none=>none
def IW(P:ft)(f:gv):Bool:=match P.funcs[f]? with
 |some fn=>match fn.resultTypes.toList with
  |[R]=>match BU P R with
   |some (none,_)=>true
   |_=>false
  |_=>false
 |none=>false
def HZ(P:ft)(rec:GP)(f:gv)(args:List V):Option Mk:=Bool.rec none (YK P rec (uZ P) f args 0 []) (args.all (AG 9))
def koT(P:ft)(f:gv):Option gq:=match P.funcs[f]? with
 |some fn=>match fn.resultTypes.toList with
  |[R]=>match BU P R with
   |some (none,T)=>some T
   |_=>none
  |_=>none
 |none=>none
def lK(P:ft)(f:gv)(T:gq):Prop:=∀(d:Tmp) (s:St),FG P f [.list false []] s fun v s'=>∃γ,v=(⟨.vec T [],none⟩:Mk).val s.up.length d γ/\s'=s.put s.up.length d γ (.vec T [])
open Classical in
def koV(P:ft)(f:gv):List V->Option Mk
 |[.list false []]=>match koT P f with
  |some T=>if lK P f T then some ⟨.vec T [],none⟩ else none
  |none=>none
 |_=>none
theorem AVL{P:ft}{f:gv}{T:gq}(h:koT P f=some T)(hv:lK P f T):koV P f [.list false []]=some ⟨.vec T [],none⟩:=by unfold koV;simp only[h];exact if_pos hv
def orM{α:Type}:Option α->Option α->Option α
 |some r,_=>some r
 |none,z=>z
def VH(P:ft)(kn:CF0)(ko:CFO)(rec:GP):CFO:=fun f args d=>match ko f args d with
 |some r=>some r
 | none=>Bool.rec (match FY P kn rec f args with
  |some r=>some ⟨.dead,some r⟩
  | none=>none) (orM (HZ P rec f args) (koV P f args)) (IW P f)
def IE(s:St)(u:List AA)(l:AA):St:=⟨u.map (AJ s),AJ s l⟩
def W9(fr:Fr)(l q γ:Nat)(r:Option (Exit×XS)):Option (V×XS):=match r with
 |some (e,st)=>match st.s.get l q with
  | some (γ',.loop fr0 ps asg body N .busy)=>Bool.rec none (match CO st.s.up with
   |some (u,lc)=>match e with
    |.normal=>some (.bool true,⟨st.c,fr,(IE st.s u lc).put l q γ (.loop fr0 ps asg body N .ready)⟩)
    |.ret=>some (.bool false,⟨st.c,fr,(IE st.s u lc).put l q γ (.loop fr0 ps asg body N (.left .ret))⟩)
    |.exit id=>some (.bool false,⟨st.c,fr,(IE st.s u lc).put l q γ (.loop fr0 ps asg body N (.left (.exit id)))⟩)
    |_=>none
   | none=>none) (bz γ' γ&&cx l st.s.up.length&&cx γ st.c)
  |_=>none
 |none=>none
def dI(rec:eW)(l q γ:Nat)(body:gw)(r:Option (Exit×XS)):Option (Exit×XS):=match r with
 |some (.normal,st)=>match st.s.get l q with
  |some (γ',.loop fr0 ps asg body' N .ready)=>Bool.rec none (rec body ⟨st.c,st.fr,st.s.put l q γ (.loop fr0 ps asg body' N .busy)⟩) (bz γ' γ&&cx γ st.c)
  |_=>none
 |_=>none
def dJ(rec:GP):CY:=fun l q γ vs st=>match st.s.get l q with
 |some (γ',.loop fr0 ps asg body N .ready)=>Bool.rec none (W9 st.fr l q γ (dI (rec N) l q γ body (rec N asg ⟨st.c,JX fr0 ps vs,⟨st.s.up++[st.s.loc],[]⟩⟩))) (bz γ' γ&&bz vs.length ps.length&&cx γ st.c)
 |_=>none
def A7D(P:ft)(kn:CF0)(ko:CFO)(lit:Tmp->Bool)(rec:GP):XE:=⟨dH P kn rec,dJ rec,FY P kn rec,VH P kn ko rec,lit⟩
def vA(fn:Func):Bool:=match fn.body with
 | some c => !(fn.name == "runtime.NumGoroutine") && E6 fn.ntmps c
 |none=>true
structure EG(P:ft):Prop where
 all:P.funcs.toList.all vA=true
 mixed:P.follows .mixedOrders=true
def dK(P:ft)(N:Nat)(rec:eW):Prop:=∀code st e st',rec code st=some (e,st')->Bd st->E6 N code=true->KZ st st'/\(∀l,e≠.goto l) /\
 ∀(n:Nat) (ρ:Option Nat) (σ:Nat->Nat) (pre:List AA) (K:Exit->Fr->St->Prop),(ρ=none\/GO code=true)->(∀σ',AU st.c σ σ'->K e (st'.fr.ren σ' pre.length) (st'.s.emb σ' pre))->BI P n N ρ code K (st.fr.ren σ pre.length) (st.s.emb σ pre)
def Y1(P:ft)(rec:GP):Prop:=∀N,dK P N (rec N)
theorem PS{α:Type}:∀{l:List α} {u:List α} {x:α},CO l=some (u,x)->l=u++[x]
 |[],u,x,h=>by cases h
 |[y],u,x,h=>by cases h;rfl
 |y::z::r,u,x,h=>by
  simp only[CO]at h;split at h
  ·rename_i a b e;cases h;rw[PS (l:=z::r) e];rfl
  ·cases h
theorem AHS{c:Nat}{args:List V}(h:∀v∈args,V5 c v)(σ σ':Nat->Nat)(δ:Nat)(ha:AU c σ σ'):(AF 0 args).ren σ δ=(AF 0 args).ren σ' δ:=by rw[<-QL,<-QL];congr 1;exact bf fun v hv=>h v hv σ σ' δ ha
theorem AVN{st:XS}(h:Bd st){rs:List ResultVar}{v r:V}(hv:GL P rs st.fr st.s=some v)(hr:A5 st.s 4 v=some r):V5 st.c r:=by intro σ σ' δ ha;have q1:=PQ (σ:=σ) (pre:=bw δ []) hv;have q2:=PQ (σ:=σ') (pre:=bw δ []) hv;rw[h.f σ σ' _ ha,h.s σ σ' _ ha,q2]at q1;have q:=cw.inj q1;have r1:=KM (σ:=σ) (pre:=bw δ []) 4 hr;have r2:=KM (σ:=σ') (pre:=bw δ []) 4 hr;rw[h.s σ σ' _ ha,<-q,r2]at r1;have:=cw.inj r1;rw[bb]at this;exact this.symm
theorem H0(u:List AA)(l:AA)(i k:Nat):(⟨u,l⟩:St).get i k=match(u++[l])[i]? with
  |some L=>L.get k
  |none=>none:=by
 unfold St.get
 simp only
 by_cases h:i=u.length
 ·subst h;simp
 ·rw[if_neg h];rcases Nat.lt_or_ge i u.length with h'|h'
  ·rw[dw h'];rfl
  ·rw[dq h',dl h'];have:1<=i-u.length:=by omega
   rw[dl (by simpa using this)]
theorem vB(L:AA)(k g:Nat)(r:A0)(h:((AJ s L).ren σ pre.length).get k=some (g,r)):∃r0,(L.ren σ pre.length).get k=some (g,r0)/\(r=r0\/r=HN (s.emb σ pre) r0):=by
 rw[AA.get_ren,NR]at h;rw[AA.get_ren];cases hL:L.get k with
 |none=>rw[hL]at h;cases h
 |some p=>
  rw[hL]at h
  cases h
  exact⟨p.2.ren σ pre.length,rfl,pV p.2⟩
theorem iT{s:St}{F:List AA}{u u2:List AA}{l l2:AA}(h1:u++[l]=pre++F.map (AA.ren σ pre.length))(h2:u2++[l2]=pre++(F.map (AJ s)).map (AA.ren σ pre.length)):ABU (s.emb σ pre) ⟨u,l⟩ ⟨u2,l2⟩:=by
 have hlen:u2.length=u.length:=by have a1:=congrArg dz h1;have a2:=congrArg dz h2;simp at a1 a2;omega
 refine⟨hlen,fun i k g r hg=>?_⟩;rw[H0,h2]at hg;rw[H0,h1];rcases Nat.lt_or_ge i pre.length with hi|hi
 ·rw[dw hi]at hg|-;exact⟨r,hg,.inl rfl⟩
 ·rw[dq hi]at hg|-;simp only[fg,List.getElem?_map]at hg|-;cases hF:F[i-pre.length]? with
  |none=>rw[hF]at hg;cases hg
  |some L=>
   rw[hF]at hg
   exact vB L k g r hg
theorem vC{s:St}{c:Nat}(hs:∀σ σ' pre,AU c σ σ'->s.emb σ pre=s.emb σ' pre){r:A0}(hr:∀σ σ' δ,AU c σ σ'->r.ren σ δ=r.ren σ' δ)(σ σ':Nat->Nat)(δ:Nat)(ha:AU c σ σ'):(CV s r).ren σ δ=(CV s r).ren σ' δ:=by
 unfold CV;split
 ·rename_i r' h;have q1:=LR (σ:=σ) (pre:=bw δ []) h;have q2:=LR (σ:=σ') (pre:=bw δ []) h;rw[hs σ σ' _ ha]at q1;simp only[bb]at q1 q2;rw[hr σ σ' _ ha,q2]at q1;exact(cw.inj q1).symm
 ·exact hr σ σ' δ ha
theorem qQ{L:AA}{δ:Nat}(σ σ':Nat->Nat):L.ren σ δ=L.ren σ' δ↔∀p∈L,σ p.2.1=σ' p.2.1/\p.2.2.ren σ δ=p.2.2.ren σ' δ:=by unfold AA.ren;rw[cm];simp only[fh.injEq,true_and]
theorem iU{s:St}{c:Nat}(hs:∀σ σ' pre,AU c σ σ'->s.emb σ pre=s.emb σ' pre){L:AA}(hL:∀σ σ' δ,AU c σ σ'->L.ren σ δ=L.ren σ' δ)(σ σ':Nat->Nat)(δ:Nat)(ha:AU c σ σ'):(AJ s L).ren σ δ=(AJ s L).ren σ' δ:=by rw[qQ];intro p hp;obtain⟨x,hx,rfl⟩:=dk.1 hp;have h1:∀σ σ' δ,AU c σ σ'->σ x.2.1=σ' x.2.1/\x.2.2.ren σ δ=x.2.2.ren σ' δ:=fun σ σ' δ ha=>(qQ σ σ').1 (hL σ σ' δ ha) x hx;exact⟨(h1 σ σ' δ ha).1,vC hs (fun σ σ' δ ha=>(h1 σ σ' δ ha).2) σ σ' δ ha⟩
theorem AHT{s:St}{c:Nat}(hs:∀σ σ' pre,AU c σ σ'->s.emb σ pre=s.emb σ' pre):∀L∈s.up,∀σ σ' δ,AU c σ σ'->L.ren σ δ=L.ren σ' δ:=by intro L hL σ σ' δ ha;have:=hs σ σ' (bw δ []) ha;simp only[St.emb,St.mk.injEq,bb]at this;exact cm.1 (db this.1) L hL
theorem iV(s:St)(L:AA){k γ:Nat}{fr:Fr}{ps:List Tmp}{asg body:gw}{N:Nat}{st:LS}(h:(AJ s L).get k=some (γ,.loop fr ps asg body N st)):L.get k=some (γ,.loop fr ps asg body N st):=by
 rw[NR]at h;cases hL:L.get k with
 |none=>rw[hL]at h;cases h
 |some p=>
  rw[hL]at h
  simp only[bq,cw.injEq,fh.injEq]at h
  obtain⟨h1,h2⟩:=h
  obtain⟨g,r⟩:=p
  simp only at h1 h2
  subst h1
  congr 2
  cases r with
  |loop=>exact h2
  |box cs=>unfold CV at h2;split at h2<;>rename_i e<;>simp only[CD]at e<;>(try (split at e<;>cases e))<;>cases h2
  |vec T es=>unfold CV at h2;split at h2<;>rename_i e<;>simp only[CD]at e<;>(try (split at e<;>cases e))<;>cases h2
  |map es=>unfold CV at h2;split at h2<;>rename_i e<;>simp only[CD]at e<;>(try (split at e<;>cases e))<;>cases h2
  |dead=>unfold CV at h2;split at h2<;>rename_i e<;>simp only[CD]at e<;>cases e;cases h2
def FX(P:ft)(f:gv)(args:List V)(c:Nat)(up:List AA)(r:V)(c':Nat)(up':List AA):Prop:=c<=c'/\V5 c' r/\(∀σ σ' δ,AU c' σ σ'->up'.map (AA.ren σ δ)=up'.map (AA.ren σ' δ))/\up'.length=up.length /\
  (∀L∈up',∀k γ fr ps asg body N st,L.get k=some (γ,.loop fr ps asg body N st)->VA N ps asg body=true) /\
  ∀(σ:Nat->Nat) (pre:List AA) (s:St) (K:V->St->Prop),s.up++[s.loc]=pre++up.map (AA.ren σ pre.length)->(∀σ' u l,AU c σ σ'->u++[l]=pre++up'.map (AA.ren σ' pre.length)->K (r.ren σ' pre.length) ⟨u,l⟩)->FG P f (args.map (V.ren σ pre.length)) s K
theorem dL(hP:EG P){rec:GP}(hrec:Y1 P rec){α:Type}{ret:Func->XS->Option α}{f:gv}{args:List V}{c:Nat}{up:List AA}{x:α}(hx:YK P rec ret f args c up=some x)(hargs:∀v∈args,V5 c v)
  (hup:∀σ σ' δ,AU c σ σ'->up.map (AA.ren σ δ)=up.map (AA.ren σ' δ)) (hlp:∀L∈up,∀k γ fr ps asg body N st,L.get k=some (γ,.loop fr ps asg body N st)->VA N ps asg body=true) :
  ∃fn st',ret fn st'=some x/\Bd st'/\c<=st'.c/\st'.s.up.length=up.length/\∀(σ:Nat->Nat) (pre:List AA) (s:St) (K:V->St->Prop),s.up++[s.loc]=pre++up.map (AA.ren σ pre.length) ->
   (∀σ',AU c σ σ'->AVA P fn.results.toList (s.up.length+1) K .ret (st'.fr.ren σ' pre.length) (st'.s.emb σ' pre))->FG P f (args.map (V.ren σ pre.length)) s K:=by
 unfold YK at hx
 split at hx
 ·rename_i fn hf;split at hx
  ·rename_i code hb;obtain⟨hsz,hx1⟩:=EV hx;have hck:vA fn=true:=bh.1 hP.all fn (by
    have:=Array.mem_of_getElem? hf;simpa using this)
   simp only[vA,hb,bx,fc]at hck;have hbd:Bd ⟨c,AF 0 args,⟨up,[]⟩⟩:=⟨fun σ σ' δ ha=>AHS hargs σ σ' δ ha,fun σ σ' pre ha=>by simp only[St.emb,hup σ σ' _ ha]; rfl,fun l k γ fr ps asg body N st hg=>by
    rw[H0]at hg;split at hg
    ·rename_i L hL;rcases dr.1 (fk hL)with hm|hm
     ·exact hlp L hm _ _ _ _ _ _ _ _ hg
     ·have:L=[]:=by simpa using hm
      subst this;simp at hg
    ·cases hg⟩
   have main:∀e st',rec fn.ntmps code ⟨c,AF 0 args,⟨up,[]⟩⟩=some (e,st')->(e=.ret\/e=.normal)->ret fn st'=some x->∃fn st',ret fn st'=some x/\Bd st'/\c<=st'.c/\st'.s.up.length=up.length/\∀(σ:Nat->Nat) (pre:List AA) (s:St) (K:V->St->Prop),s.up++[s.loc]=pre++up.map (AA.ren σ pre.length) ->
     (∀σ',AU c σ σ'->AVA P fn.results.toList (s.up.length+1) K .ret (st'.fr.ren σ' pre.length) (st'.s.emb σ' pre))->FG P f (args.map (V.ren σ pre.length)) s K:=by
    intro e st' h1 he h2
    obtain⟨hE,_,hC⟩:=hrec _ _ _ _ _ h1 hbd hck.2
    refine⟨fn,st',h2,hE.bd,hE.c,hE.n,fun σ pre s K hs hk=>?_⟩
    refine A65 hf hb (pB hf hb hck.1) (by simpa using hsz) ?_
    have e1:(⟨s.up++[s.loc],[]⟩:St)=(⟨up,[]⟩:St).emb σ pre:=by simp only[St.emb,hs];rfl
    rw[QL,e1]
    refine hC _ none σ pre _ (.inl rfl) fun σ' ha=>?_
    have:=hk σ' ha
    rcases he with rfl|rfl<;>exact this
   unfold qO at hx1;split at hx1
   ·rename_i st' h1;exact main _ _ h1 (.inl rfl) hx1
   ·rename_i st' h1;exact main _ _ h1 (.inr rfl) hx1
   ·cases hx1
  ·cases hx
 ·cases hx
theorem qU(hP:EG P){rec:GP}(hrec:Y1 P rec){f:gv}{args:List V}{c:Nat}{up:List AA}{r:V}{c':Nat}{up':List AA}(hx:iS P rec f args c up=some (r,c',up'))(hargs:∀v∈args,V5 c v)
  (hup:∀σ σ' δ,AU c σ σ'->up.map (AA.ren σ δ)=up.map (AA.ren σ' δ)) (hlp:∀L∈up,∀k γ fr ps asg body N st,L.get k=some (γ,.loop fr ps asg body N st)->VA N ps asg body=true):FX P f args c up r c' up':=by
 obtain⟨fn,st',hret,hbd,hc,hlen,hA⟩:=dL hP hrec hx hargs hup hlp
 unfold ACQ at hret
 split at hret
 ·rename_i r0 hr0;split at hret
  ·rename_i r1 hr1;cases hret;refine⟨hc,AVN hbd hr0 hr1,fun σ σ' δ ha=>?_,by simpa using hlen,fun L hL k γ fr ps asg body N st hg=>?_,fun σ pre s K hs hk=>hA σ pre s K hs fun σ' ha=>?_⟩
   ·simp only[fg];exact bf fun L hL=>iU hbd.s (AHT hbd.s L hL) σ σ' δ ha
   ·obtain⟨L0,hL0,rfl⟩:=dk.1 hL;have hg:=iV _ _ hg;obtain⟨i,hi,rfl⟩:=List.getElem_of_mem hL0;refine hbd.lp i k γ fr ps asg body N st ?_;unfold St.get;rw[if_neg (by omega),List.getElem?_eq_getElem hi];exact hg
   ·have hl2:(st'.s.emb σ' pre).up.length=s.up.length+1:=by have q:=congrArg dz hs;simp only[cg,cp,bp]at q;rw[DK,hlen];omega
    rcases dm (st'.s.emb σ' pre).up with h0|⟨u,l,h0⟩
    ·rw[h0]at hl2;simp at hl2
    ·have h0:(st'.s.emb σ' pre).up=u++[l]:=by simpa using h0
     have hu:u.length+1=s.up.length+1:=by rw[<-hl2,h0];simp
     have hcl:=PO 4 (KM (σ:=σ') (pre:=pre) 4 hr1);have hres:=PQ (σ:=σ') (pre:=pre) hr0;rcases dm (pre++(st'.s.up.map (AJ st'.s)).map (AA.ren σ' pre.length))with h3|⟨u2,l2,h3⟩
     ·have h4:=congrArg dz h3;have h5:=congrArg dz h0;simp only[St.emb,cg,bp,List.length_nil,cp]at h4 h5;omega
     ·have h3:pre++(st'.s.up.map (AJ st'.s)).map (AA.ren σ' pre.length)=u2++[l2]:=by simpa using h3
      have hK:=hk σ' u2 l2 ha h3.symm;have hS:=iT (s:=st'.s) (F:=st'.s.up) (u:=u) (l:=l) (u2:=u2) (l2:=l2) (σ:=σ') (pre:=pre) h0.symm h3.symm;exact⟨u,l,_,h0,hu,hres,.inl ⟨_,_,by rw[hcl];exact Wk.refl _,hS,hK⟩⟩
  ·cases hret
 ·cases hret
theorem XA{c:Nat}{args:List V}(h:args.all (AG 9)=true):∀v∈args,V5 c v:=fun v hv σ σ' δ _=>by rw[E0 9 v (bh.1 h v hv),E0 9 v (bh.1 h v hv)]
theorem dM(hP:EG P){rec:GP}(hrec:Y1 P rec):HW P (E1 P rec):=by
 intro f args r hx;unfold E1 at hx;obtain⟨hcl,hx1⟩:=EV hx;split at hx1
 ·rename_i r0 c' up' h1;obtain⟨hr,rfl⟩:=J9 hx1;obtain⟨_,_,_,hlen,_,hA⟩:=qU hP hrec h1 (XA hcl) (fun _ _ _ _=>rfl) (fun L hL=>by cases hL);have hargs:∀v∈args,∀σ δ,V.ren σ δ v=v:=fun v hv σ δ=>E0 9 v (bh.1 hcl v hv);have hup:up'=[]:=ct hlen;refine⟨fun s=>?_,hargs,fun σ δ=>E0 9 _ hr⟩;have:=hA id (s.up++[s.loc]) s (fun r' s'=>r'=r0/\s'=s) (by simp) fun σ' u l _ hu=>?_
  ·have e:args.map (V.ren id (s.up++[s.loc]).length)=args:=by
    conv=>rhs;rw[<-cn args]
    exact bf fun v hv=>hargs v hv _ _
   rw[e]at this;exact this
  ·rw[hup]at hu;simp only[dj,List.append_nil]at hu;obtain⟨e1,e2⟩:=df hu rfl;refine⟨E0 9 _ hr,?_⟩;subst e1;simp only[List.cons.injEq,and_true]at e2;subst e2;rfl
 ·cases hx1
theorem dN(hP:EG P){kn:CF0}(hkn:HW P kn){rec:GP}(hrec:Y1 P rec):HW P (AZ P kn rec):=by
 intro f args r hx;unfold AZ at hx;split at hx
 ·rename_i r0 h0;cases hx;exact hkn _ _ _ h0
 ·exact dM hP hrec _ _ _ hx
theorem dO(hP:EG P){kn:CF0}(hkn:HW P kn){rec:GP}(hrec:Y1 P rec):HW P (FY P kn rec):=by
 intro f args r hx;unfold FY at hx;split at hx
 ·rename_i r0 h0;cases hcl:args.all (AG 9)with
  |false=>rw[hcl]at hx;exact dN hP hkn hrec _ _ _ hx
  |true=>
   rw[hcl]at hx
   cases hx
   obtain⟨hA,_,h2⟩:=dN hP hkn hrec _ _ _ h0
   exact⟨fun s=>⟨(hA s).1,fun G vals w R hI ha hR=>(hA s).2 G vals w R hI ha.weakN hR⟩,fun v hv σ δ=>E0 9 v (bh.1 hcl v hv),h2⟩
 ·exact dN hP hkn hrec _ _ _ hx
theorem handed(hP:EG P){rec:GP}(hrec:Y1 P rec){f:gv}{args:List V}{ret:Func->XS->Option Mk}{r:Mk}{d:Tmp}(hcl:args.all (AG 9)=true)(hx:YK P rec ret f args 0 []=some r)
  (hr:∀(fn:Func) (st':XS),ret fn st'=some r->st'.s.up=[]->∀(s:St) (σ':Nat->Nat),∃r0,GL P fn.results.toList (st'.fr.ren σ' (s.up++[s.loc]).length) (st'.s.emb σ' (s.up++[s.loc]))=some r0 /\
   ((∃k γ T es,(st'.s.emb σ' (s.up++[s.loc])).loc.get k=some (γ,.vec T es)/\mvV (s.up.length+1) k s.up.length d 4 r0=r.val s.up.length d γ/\r.res=.vec T es)\/(∃T,YV r0=true/\r=⟨.vec T [],none⟩)))
  (s:St):FG P f args s fun v s'=>∃γ,v=r.val s.up.length d γ/\s'=s.put s.up.length d γ r.res:=by
 obtain⟨fn,st',hret,hbd,hc,hlen,hA⟩:=dL hP hrec hx (XA hcl) (fun _ _ _ _=>rfl) (fun L hL=>by cases hL)
 have hargs:∀v∈args,∀σ δ,V.ren σ δ v=v:=fun v hv σ δ=>E0 9 v (bh.1 hcl v hv)
 have hup:st'.s.up=[]:=ct hlen
 have:=hA id (s.up++[s.loc]) s (fun v s'=>∃γ,v=r.val s.up.length d γ/\s'=s.put s.up.length d γ r.res) (by simp) fun σ' _=>?_
 ·have e:args.map (V.ren id (s.up++[s.loc]).length)=args:=by
   conv=>rhs;rw[<-cn args]
   exact bf fun v hv=>hargs v hv _ _
  rw[e]at this;exact this
 ·obtain⟨r0,h1,h2⟩:=hr fn st' hret hup s σ';refine⟨s.up,s.loc,r0,by simp[St.emb,hup],rfl,h1,.inr ?_⟩;rcases h2 with⟨k,γ,T,es,h3,h4,h5⟩|⟨T,h3,h4⟩
  ·exact .inl ⟨k,γ,T,es,d,h3,γ,h4,by rw[h5]⟩
  ·subst h4;exact .inr ⟨d,T,h3,fun γ=>⟨γ,rfl,rfl⟩⟩
theorem iW(hP:EG P){rec:GP}(hrec:Y1 P rec){f:gv}{args:List V}{r:Mk}{d:Tmp}(hx:HZ P rec f args=some r) :
  (∀(s:St),FG P f args s fun v s'=>∃γ,v=r.val s.up.length d γ/\s'=s.put s.up.length d γ r.res)/\(∀v∈args,∀σ δ,v.ren σ δ=v)/\(∀σ δ,r.res.ren σ δ=r.res)/\eU r.res=true:=by
 unfold HZ at hx
 obtain⟨hcl,hx1⟩:=EV hx
 have hargs:∀v∈args,∀σ δ,V.ren σ δ v=v:=fun v hv σ δ=>E0 9 v (bh.1 hcl v hv)
 have main:∀(fn:Func) (st':XS),uZ P fn st'=some r->((∀σ δ,r.res.ren σ δ=r.res)/\eU r.res=true)/\(st'.s.up=[]->∀(s:St) (σ':Nat->Nat),∃r0,GL P fn.results.toList (st'.fr.ren σ' (s.up++[s.loc]).length) (st'.s.emb σ' (s.up++[s.loc]))=some r0 /\
   ((∃k γ T es,(st'.s.emb σ' (s.up++[s.loc])).loc.get k=some (γ,.vec T es)/\mvV (s.up.length+1) k s.up.length d 4 r0=r.val s.up.length d γ/\r.res=.vec T es)\/(∃T,YV r0=true/\r=⟨.vec T [],none⟩))):=by
  intro fn st' hret
  unfold uZ at hret
  split at hret
  ·rename_i l k γ n hres;obtain⟨hl,hret⟩:=EV hret;have hl:=bj hl;split at hret
   ·rename_i γ' T es hget;obtain⟨hc2,he⟩:=J9 hret;cases he;simp only[bx]at hc2;obtain⟨⟨h1,h2⟩,h3⟩:=hc2;have h1:=bj h1;have h2:=bj h2;subst h1;subst h2;have hes:∀σ δ,es.map (cj (V.ren σ δ))=es:=fun σ δ=>by
     conv=>rhs;rw[<-cn es]
     exact bf fun e he=>NX (fun v=>E0 9 v) (bh.1 h3 e he)
    refine⟨⟨fun σ δ=>by simp only[A0.ren,hes],rfl⟩,fun hup s σ'=>⟨_,PQ hres,.inl ⟨k,σ' γ',T,es,?_,?_,rfl⟩⟩⟩
    ·rw[K8,hget];simp only[bq,A0.ren,hes]
    ·rw[hup]at hl;subst hl;simp[mvV,Mk.val,HO]
   ·cases hret
  ·rename_i v hnv hres;obtain⟨hn,hret⟩:=EV hret;split at hret
   ·split at hret
    ·rename_i T _;cases hret;exact⟨⟨fun _ _=>rfl,rfl⟩,fun hup s σ'=>⟨_,PQ hres,.inr ⟨_,by rw[AHH];exact hn,rfl⟩⟩⟩
    ·cases hret
   ·cases hret
  ·cases hret
 obtain⟨fn,st',hret,_⟩:=dL hP hrec hx1 (XA hcl) (fun _ _ _ _=>rfl) (fun L hL=>by cases hL)
 exact⟨handed hP hrec hcl hx1 fun fn st' h=>(main fn st' h).2,hargs,(main fn st' hret).1⟩
theorem CW.nought{G:Gh}{s:St}{w:World}(hI:CW G s w)(d γ:Nat):CW G (s.put s.up.length d γ .dead) w:=by
 have look:∀{l k x},(s.put s.up.length d γ .dead).get l k=some x->x=(γ,.dead)\/s.get l k=some x:=fun {l k x} h=>by
  rw[St.get_putLoc]at h;split at h
  ·exact .inl (cw.inj h).symm
  ·exact .inr h
 refine⟨hI.sl,fun l k g r h=>?_,fun l k g r l' k' g' r' b h1 h2 h3 h4=>?_,fun l k g r b h1 h2=>?_,hI.fresh,hI.env⟩
 ·rcases look h with e|e
  ·cases e;trivial
  ·exact hI.res _ _ _ _ e
 ·rcases look h1 with e|e1
  ·cases e;cases h3
  ·rcases look h2 with e|e2
   ·cases e;cases h4
   ·exact hI.sep _ _ _ _ _ _ _ _ _ e1 e2 h3 h4
 ·rcases look h1 with e|e
  ·cases e;cases h2
  ·exact hI.out _ _ _ _ _ e h2
theorem AVO{f:gv}{args:List V}{r:Mk}{d:Tmp}(hx:koV P f args=some r) :
  (∀(s:St),FG P f args s fun v s'=>∃γ,v=r.val s.up.length d γ/\s'=s.put s.up.length d γ r.res)/\(∀v∈args,∀σ δ,v.ren σ δ=v)/\(∀σ δ,r.res.ren σ δ=r.res)/\eU r.res=true:=by
 unfold koV at hx
 split at hx
 ·split at hx
  ·rename_i T _;split at hx
   ·rename_i hv;cases hx;exact⟨fun s=>hv d s,fun v hm σ δ=>by rw[List.mem_singleton.1 hm];rfl,fun σ δ=>rfl,rfl⟩
   ·cases hx
  ·cases hx
 ·cases hx
theorem AHU(hP:EG P){rec:GP}(hrec:Y1 P rec){f:gv}{T:gq}(h:∀a c,HZ P rec f [.raw (.slice a 0 c)]=some ⟨.vec T [],none⟩):lK P f T:=fun d s=>by
 have hA:=fun a c=>(iW hP hrec (d:=d) (h a c)).1 s;refine⟨(hA none 0).1,fun G vals w R hI ha hR=>?_⟩;obtain⟨l⟩:=vals;match l,ha with
 |[v],ha=>
  have hv:RepV G (.list false []) v:=ha.2 0 (by simp) (by simp)
  cases hv with
  |list _ _ a cap b off sz arr T fz vs hcap hfull h1 hl hv hr=>
   refine(hA a cap).2 G _ w R hI ⟨by simp,fun i h1 h2=>?_⟩ hR
   obtain rfl:i=0:=by simp at h1;omega
   exact .raw _ rfl
 |[],ha=>exact absurd ha.1 (by simp)
 |_::_::_,ha=>exact absurd ha.1 (by simp)
theorem AHV(hP:EG P){kn:CF0}(hkn:HW P kn){ko:CFO}(hko:uV P ko){rec:GP}(hrec:Y1 P rec):uV P (VH P kn ko rec):=by
 intro f args d r hx;unfold VH at hx;split at hx
 ·rename_i r0 h0;cases hx;exact hko _ _ _ _ h0
 ·cases hs:IW P f with
  |true=>
   rw[hs]at hx
   have hx:orM (HZ P rec f args) (koV P f args)=some r:=hx
   cases h1:HZ P rec f args with
   |some r1=>
    rw[h1]at hx
    cases hx
    exact iW hP hrec h1
   |none=>
    rw[h1]at hx
    exact AVO hx
  |false=>
   rw[hs]at hx
   have hx:(match FY P kn rec f args with
    |some r=>some (⟨.dead,some r⟩:Mk)
    | none=>none)=some r:=hx
   split at hx
   ·rename_i r0 h0;cases hx;obtain⟨hA,h1,h2⟩:=dO hP hkn hrec _ _ _ h0;refine⟨fun s=>⟨(hA s).1,fun G vals w R hI ha hR=>(hA s).2 G vals w R hI ha fun G' v u w' s' hle hI' hv hlen hk=>?_⟩,h1,fun _ _=>rfl,rfl⟩;obtain⟨rfl,rfl⟩:=hk;exact hR G' _ u w' (s'.put s'.up.length d 0 .dead) hle (hI'.nought d 0) hv (St.put_len _ _ _ _ _) ⟨0,(h2 _ _).symm,rfl⟩
   ·cases hx
theorem AHW(hP:EG P){kn:CF0}(hkn:HW P kn){rec:GP}(hrec:Y1 P rec):iO P (dH P kn rec):=by
 intro f args st r st' hx hbd hargs;unfold dH at hx;cases hcl:(args.all (AG 9)&&!(BJ P f))with
 |true=>
  rw[hcl]at hx
  have hx:(match FY P kn rec f args with|some r=>some (r,st)|none=>none)=some (r,st'):=hx
  split at hx
  ·rename_i r0 h0;cases hx;obtain⟨hA,h1,h2⟩:=dO hP hkn hrec _ _ _ h0;refine⟨⟨bn _,hbd,rfl⟩,fun σ σ' δ _=>by rw[h2,h2],rfl,fun σ pre K hk=>?_⟩;have e:args.map (V.ren σ pre.length)=args:=by
    conv=>rhs;rw[<-cn args]
    exact bf fun v hv=>h1 v hv _ _
   rw[e];refine(hA (st.s.emb σ pre)).mono fun r' s' q5=>?_;obtain⟨rfl,rfl⟩:=q5;have:=hk σ (AU.refl _ _);rwa [h2]at this
  ·cases hx
 |false=>
  rw[hcl]at hx
  have hx:(match iS P rec f args st.c (st.s.up++[st.s.loc])with
   |some (r,c,up)=>match CO up with
    |some (u,l)=>some (r,(⟨c,st.fr,⟨u,l⟩⟩:XS))
    |none=>none
   | none=>none)=some (r,st'):=hx
  split at hx
  ·rename_i r0 c0 up0 h1;split at hx
   ·rename_i u l hu;cases hx;have hup0:=PS hu;have hsb:∀σ σ' δ,AU st.c σ σ'->(st.s.up++[st.s.loc]).map (AA.ren σ δ)=(st.s.up++[st.s.loc]).map (AA.ren σ' δ):=by intro σ σ' δ ha;have:=hbd.s σ σ' (bw δ []) ha;simp only[St.emb,St.mk.injEq,bb]at this;simp only[bc,dv,dj];rw[db this.1,this.2]
    have hlp:∀L∈st.s.up++[st.s.loc],∀k γ fr ps asg body N st,L.get k=some (γ,.loop fr ps asg body N st)->VA N ps asg body=true:=by intro L hL k γ fr ps asg body N ls hg;obtain⟨i,hi⟩:=List.getElem?_of_mem hL;refine hbd.lp i k γ fr ps asg body N ls ?_;have:=H0 st.s.up st.s.loc i k;rw[hi]at this;exact this.trans hg
    obtain⟨hc,hrb,hub,hlen,hlp',hA⟩:=qU hP hrec h1 hargs hsb hlp;subst hup0;refine⟨⟨hc,⟨fun σ σ' δ ha=>hbd.f σ σ' δ (ha.mono hc),fun σ σ' pre ha=>?_,fun i k γ fr ps asg body N ls hg=>?_⟩,?_⟩,hrb,rfl,fun σ pre K hk=>?_⟩
    ·have:=hub σ σ' pre.length ha;simp only[bc,dv,dj]at this;obtain⟨e1,e2⟩:=df this rfl;simp only[List.cons.injEq,and_true]at e2;simp only[St.emb,e1,e2]
    ·rw[H0]at hg;split at hg
     ·rename_i L hL;exact hlp' L (fk hL) _ _ _ _ _ _ _ _ hg
     ·cases hg
    ·simp only[cg,cp]at hlen;simp only;omega
    ·refine hA σ pre (st.s.emb σ pre) K (by simp[St.emb]) fun σ' u' l' ha hu'=>?_;have:=hk σ' ha;simp only[bc,dv,dj,<-List.append_assoc]at hu';obtain⟨e1,e2⟩:=df hu' rfl;simp only[List.cons.injEq,and_true]at e2;subst e1;subst e2;exact this
   ·cases hx
  ·cases hx
end Go.Pg
