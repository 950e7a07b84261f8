/- Running a Go function upon abstract values, by computing: one operation, and that it is what the walk asks. No program in sight. -/
import Derived.Test.YtanlhbmliegjeaaGreatP5
noncomputable section
open Go renaming Oper->fp,Program->ft,Operand->gk,TypeId->gq,FuncId->gv,Code->gw
open Nat renaming eq_of_beq_eq_true->bj,beq->bz,lt_succ_self->bm,le_refl->bn,le_succ->cq,blt->cx,ble_eq->cz,blt_eq->cd,le_trans->dg,ble->dn,lt_of_lt_of_le->fq
open Option renaming bind_eq_some_iff->bk,map_some->bq,bind_some->bg,some->cw
open List renaming replicate->bw,length_replicate->bb,map_append->bc,map_congr_left->bf,all_eq_true->bh,length_map->bp,map->cj,map_take->ck,length_append->cg,map_inj_left->cm,map_id->cn,length_singleton->cp,eq_nil_of_length_eq_zero->ct,map_nil->dj,mem_map->dk,getElem?_append_right->dq,map_cons->dv,getElem?_append_left->dw,map_replicate->dx,length->dz,append_cancel_left->db,map_flatten->dc,append_inj'->df,mem_append_right->dh,getElem?_eq_none->dl,eq_nil_or_concat->dm,getElem?_mapIdx->dp,mem_append->dr,mem_append_left->fj,mem_of_getElem?->fk,all_map->fw,length_mapIdx->fx,map_map->fg
open Bool renaming and_eq_true->bx,or_eq_false_iff->dt,not_eq_true'->fc
open Prod renaming mk->fh
namespace Go.Pg
variable {P:ft}{Ω:HI P}{σ σ':Nat->Nat}{δ:Nat}{pre:List AA}{s:St}{fr:Fr}{g:Bool}
def K6(all:List fp)(o:fp):Option (Tmp×Bool):=match o.guard with
 |none=>none
 |some (j,w)=>match all[j]? with
  |some p=>match p.dst with
   |some d=>some (d,w)
   |none=>none
  |none=>none
def uS(all:List fp):Bool:=all.all fun o=>HF all o (K6 all o)
theorem gH{all:List fp}:∀{l:List fp},(∀o∈l,HF all o (K6 all o)=true)->JP all (l.map (K6 all)) l=true
 |[],_=>rfl
 |o::l,h=>by simp only[dv,JP,bx];exact⟨h o (by simp),gH fun p hp=>h p (by simp[hp])⟩
theorem SK{all:List fp}(h:uS all=true):∀o∈all,HF all o (K6 all o)=true:=fun o ho=>bh.1 h o ho
def A15(d:Tmp)(p:fp):Bool:=match p.op with
 |.call { callee:=.builtin .append,args,.. }=>match args.toList with
  |.tmp t::_=>bz t d
  |_=>false
 |.call { callee:=.value (.func _),args,argTypes }=>match args.toList,argTypes.toList with
  |[.tmp t,_],[T,U]=>bz t d&&bz T p.type&&!(bz U T)
  |_,_=>false
 |_=>false
def AQS(d:Tmp)(p:fp):Bool:=match p.op with
 |.store _ _ (.tmp t)=>bz t d
 |_=>false
def DR(l:List fp)(o:fp):Bool:=match o.op,o.dst with
 |.call { callee:=.value _,.. },some d=>l.any fun p=>A15 d p||AQS d p
 |_,_=>false
def kS(o:fp):Bool:=match o.op with
 |.mapUpdate ..|.insert ..=>true
 |.call { callee:=.builtin b,.. }=>match b with
  |.len|.max|.min|.cap|.append=>false
  |_=>true
 |_=>false
def kC(o:fp):Bool:=match o.op with
 |.call { callee:=.value _,.. }=>true
 |_=>false
def onB(o:fp)(A:List Nat):Bool:=o.after.any fun e=>Region.binds .any e&&A.contains e.on
def A16(o:fp)(l:List fp)(A:List Nat):Bool:=kW o&&l.isEmpty&&A.all fun j=>o.after.any fun e=>Region.binds .any e&&bz e.on j
def A17(o:fp)(i:Nat):List Nat->List Nat
 |[]=>[i]
 |a::A=>cond (onB o [a]) (i::a::A) (a::A17 o i A)
def KA(own:fp->Bool):List fp->Nat->List Nat->List Nat->List Nat->List Nat->List Nat->List Nat->List Nat×List Nat
 |[],_,R,Q,A,S,R2,T=>(R.reverse++Q.reverse++A.reverse++S.reverse++R2.reverse,T.reverse)
 |o::l,i,R,Q,A,S,R2,T=>
  cond (onB o T||kS o||A16 o l (R++Q++A++S++R2++T)||(kC o&&(onB o (Q++S++R2)||(!(own o)&&onB o A)))) (KA own l (i+1) R Q A S R2 (i::T))
   (cond (kP o) (cond (onB o (A++S++R2)) (KA own l (i+1) R Q A S (i :: R2) T) (KA own l (i+1) R (i :: Q) A S R2 T))
   (cond (kW o) (cond (onB o R2) (KA own l (i+1) R Q A S (i :: R2) T) (KA own l (i+1) R Q A (i :: S) R2 T))
    (cond (onB o (Q++S++R2)||(cond (kA own o) (!R2.isEmpty) (onB o (A.take 1)))) (KA own l (i+1) R Q A S (i :: R2) T)
     (cond (kA own o) (KA own l (i+1) R Q (i :: A) S R2 T) (cond (onB o A) (KA own l (i+1) R Q (A17 o i A) S R2 T) (KA own l (i+1) (i :: R) Q A S R2 T))))))
def AMX(af:Nat):List (Nat×Nat)->Nat->Nat
 |[],m=>m
 |p::r,m=>HJ (cond (UB af p.1) (Nat.lor m (Nat.lor p.2 (Nat.shiftLeft 1 p.1))) m) (AMX af r)
def A18:List (Nat×Nat)->List (Nat×Nat)->List (Nat×Nat)
 |[],acc=>acc
 |p::r,acc=>HJ (AMX p.2 acc 0) fun m=>A18 r ((p.1,m)::acc)
def AQT(l:List fp):List Nat:=((A18 (afL l 0) []).filterMap fun p=>cond (bz p.2 (Nat.sub (Nat.pow 2 p.1) 1)) (match l[p.1]? with
 |some o=>cond (kC o&&bz (KV p.1 (afL l 0) 0) (Nat.sub (Nat.pow 2 l.length) (Nat.pow 2 (p.1+1)))) (some p.1) none
 | none=>none) none).reverse
def AMY(own:fp->Bool)(l:List fp):Nat->List Nat->V6
 |i,[]=>[KA own (l.drop i) i [] [] [] [] [] []]
 |i,c::cs=>match KA own ((l.drop i).take (c-i)) i [] [] [] [] [] []with
  |(R,T)=>(R,T++[c])::AMY own l (c+1) cs
def cG(l:List fp):V6:=AMY (DR l) l 0 (AQT l)
def AQU(l:List fp):List Nat:=l.filterMap fun o=>cond (kA (DR l) o) o.dst none
def GA:gw->Bool
 |.seq a b=>GA a&&GA b
 |.cond _ a b=>GA a&&GA b
 |.block _ c=>GA c
 |.loop c=>GA c
 |.scope _=>false
 |.rangeFunc ..=>false
 |_=>true
def EX(N:Nat):gw->Bool
 |.region _ ops draw=>cond draw (OE (DR ops.toList) N (ops.toList.map (K6 ops.toList)) (cG ops.toList) ops.toList) (LW N ops.toList&&uS ops.toList)
 |.seq a b=>EX N a&&EX N b
 |.cond _ a b=>EX N a&&EX N b
 |.block _ c=>EX N c
 |.loop c=>EX N c
 |.scope c=>EX N c
 |.rangeFunc _ ps asg body=>ps.toList.all (fun p=>cx p N)&&GA asg&&GA body&&EX N asg&&EX N body
 |_=>true
def SL(N:Nat)(ps:List Tmp)(asg body:gw):Bool:=ps.all (fun p=>cx p N)&&GA asg&&GA body&&EX N asg&&EX N body
def SN(s:St):Prop:=∀l k γ fr ps asg body N st,s.get l k=some (γ,.loop fr ps asg body N st)->SL N ps asg body=true
theorem qI{s:St}{l k γ:Nat}{r:AX}{l' k':Nat}{x:Nat×AX}(h:(s.put l k γ r).get l' k'=some x):x=(γ,r)\/s.get l' k'=some x:=by
 unfold St.put at h;unfold St.get at h|-;by_cases e1:l=s.up.length
 ·rw[if_pos e1]at h;by_cases e2:l'=s.up.length
  ·rw[if_pos e2]at h|-;rw[AA.get_put]at h;split at h
   ·exact .inl (cw.inj h).symm
   ·exact .inr h
  ·rw[if_neg e2]at h|-;exact .inr h
 ·rw[if_neg e1]at h;have hl:({ s with up:=s.up.modify l (fun L=>L.put k γ r) }:St).up.length=s.up.length:=by simp
  rw[hl]at h;by_cases e2:l'=s.up.length
  ·rw[if_pos e2]at h|-;exact .inr h
  ·rw[if_neg e2]at h|-;rw[List.getElem?_modify]at h;cases hu:s.up[l']? with
   |none=>simp[hu]at h
   |some L=>
    rw[hu]at h
    simp only[Option.map_eq_map,bq]at h
    by_cases e3:l=l'
    ·simp only[e3,if_true,AA.get_put]at h;split at h
     ·exact .inl (cw.inj h).symm
     ·exact .inr h
    ·simp only[e3,if_false]at h;exact .inr h
theorem SN.put{s:St}(h:SN s){l k γ:Nat}{r:AX}(hr:∀fr ps asg body N st,r=.loop fr ps asg body N st->SL N ps asg body=true):SN (s.put l k γ r):=by
 intro l' k' γ' fr ps asg body N st hg;rcases qI hg with e|e
 ·cases e;exact hr _ _ _ _ _ _ rfl
 ·exact h _ _ _ _ _ _ _ _ _ e
structure XS where
 c:Nat
 fr:Fr
 s:St
def BQ(fr:Fr)(k:Nat):Option (Bool×V):=List.rec (motive:=fun _=>Option (Bool×V)) none (fun x _ ih=>Bool.rec ih (some x.2) (bz k x.1)) fr
theorem FG:∀(fr:Fr) (k:Nat),BQ fr k=fr.get k
 |[],_=>rfl
 |(j,x)::fr,k=>by
  show(Bool.rec (BQ fr k) (some x) (bz k j):Option (Bool×V))=if k=j then some x else Fr.get fr k
  by_cases h:k=j
  ·subst h;rw[if_pos rfl,Nat.beq_refl]
  ·rw[if_neg h,<-FG fr k];have:bz k j=false:=by
    cases hb:bz k j with
    |false=>rfl
    |true=>exact absurd (bj hb) h
   rw[this]
def CH(fr:Fr)(x:gk):Option V:=match x with
 |.tmp t=>match BQ fr t with
  |some (true,v)=>some v
  |_=>none
 |.const v=>CV v
 |.func f=>some (.fn f [] [])
 |.global _=>none
theorem D3(x:gk):CH fr x=DW true fr x:=by
 cases x with
 |tmp t=>
  simp only[CH,DW,rd,FG]
  cases fr.get t with
  |none=>rfl
  |some p=>
   obtain⟨c,v⟩:=p
   cases c<;>rfl
 |const v=>
  simp only[CH,DW,rd]
  cases CV v<;>rfl
 |func f=>rfl
 |global g=>rfl
theorem FH:CH fr=DW true fr:=funext fun x=>D3 x
def AR(c:Nat)(σ σ':Nat->Nat):Prop:=∀i,i<c->σ i=σ' i
theorem AR.refl(c:Nat)(σ:Nat->Nat):AR c σ σ:=fun _ _=>rfl
theorem AR.trans{c c':Nat}{σ σ' σ'':Nat->Nat}(h:AR c σ σ')(h':AR c' σ' σ'')(hc:c<=c'):AR c σ σ'':=fun i hi=>(h i hi).trans (h' i (fq hi hc))
theorem AR.mono{c c':Nat}(h:AR c' σ σ')(hc:c<=c'):AR c σ σ':=fun i hi=>h i (fq hi hc)
theorem AR.upd(c γ:Nat)(σ:Nat->Nat):AR c σ (fun i=>if i=c then γ else σ i):=fun i hi=>by simp[Nat.ne_of_lt hi]
structure Bd(st:XS):Prop where
 f:∀σ σ' δ,AR st.c σ σ'->st.fr.ren σ δ=st.fr.ren σ' δ
 s:∀σ σ' pre,AR st.c σ σ'->st.s.emb σ pre=st.s.emb σ' pre
 lp:SN st.s
def TF(c:Nat)(v:V):Prop:=∀σ σ' δ,AR c σ σ'->v.ren σ δ=v.ren σ' δ
structure KM(st st':XS):Prop where
 c:st.c<=st'.c
 bd:Bd st'
 n:st'.s.up.length=st.s.up.length
def StepX(P:ft)(o:fp)(st st':XS):Prop:=KM st st'/\∀(σ:Nat->Nat) (pre:List AA) (k:Fr->St->Prop),(∀σ',AR st.c σ σ'->k (st'.fr.ren σ' pre.length) (st'.s.emb σ' pre))->EI P true o (st.fr.ren σ pre.length) (st.s.emb σ pre) k
theorem FM(d:Option Tmp)(c:Bool)(v:V):(putD fr d c v).ren σ δ=putD (fr.ren σ δ) d c (v.ren σ δ):=by cases d<;>rfl
theorem HO(d:Nat)(c:Bool)(v:V):(fr.put d c v).ren σ δ=(fr.ren σ δ).put d c (v.ren σ δ):=rfl
theorem TF.mono{c c':Nat}{v:V}(h:TF c v)(hc:c<=c'):TF c' v:=fun σ σ' δ ha=>h σ σ' δ (ha.mono hc)
theorem Bd.val{st:XS}(h:Bd st){o:fp}{v:V}(hv:FL P g o st.fr st.s=some v):TF st.c v:=by intro σ σ' δ ha;have h1:=I6 (σ:=σ) (pre:=bw δ []) hv;have h2:=I6 (σ:=σ') (pre:=bw δ []) hv;rw[h.f σ σ' _ ha,h.s σ σ' _ ha,h2]at h1;have:=cw.inj h1;rw[bb]at this;exact this.symm
theorem Bd.rd{st:XS}(h:Bd st){x:gk}{v:V}(hv:CH st.fr x=some v):TF st.c v:=by intro σ σ' δ ha;rw[D3]at hv;have h1:=DF (g:=true) (fr:=st.fr) (σ:=σ) (δ:=δ) x;have h2:=DF (g:=true) (fr:=st.fr) (σ:=σ') (δ:=δ) x;rw[h.f σ σ' _ ha,h2,hv]at h1;simpa using h1.symm
theorem Bd.putF{st:XS}(h:Bd st){d:Option Tmp}{c:Bool}{v:V}(hv:TF st.c v):Bd { st with fr:=putD st.fr d c v } :=
 ⟨fun σ σ' δ ha=>by simp only[FM];rw[h.f σ σ' δ ha,hv σ σ' δ ha],h.s,h.lp⟩
def bN:AX->Bool
 |.loop ..=>false
 |_=>true
theorem UH{r:AX}(h:bN r=true):∀fr ps asg body N st,r=.loop fr ps asg body N st->SL N ps asg body=true:=by intro fr ps asg body N st e;subst e;cases h
theorem Bd.putS{st:XS}(h:Bd st){l k γ:Nat}{r:AX}(hγ:γ<st.c)(hr:∀σ σ' δ,AR st.c σ σ'->r.ren σ δ=r.ren σ' δ)(hp:bN r=true:=by rfl):Bd { st with s:=st.s.put l k γ r } :=
 ⟨h.f,fun σ σ' pre ha=>by simp only[C0];rw[h.s σ σ' pre ha,hr σ σ' _ ha,ha γ hγ],h.lp.put (UH hp)⟩
theorem yU{o:fp}{st:XS}{v:V}(h:Bd st)(hv:FL P true o st.fr st.s=some v):StepX P o st { st with fr:=putD st.fr o.dst true v }:=by refine⟨⟨bn _,h.putF (h.val hv),rfl⟩,fun σ pre k hk=>DQ (Ω:=HI.nothing P) (.inl ⟨_,I6 hv,?_⟩)⟩;have:=hk σ (AR.refl _ _);rwa [FM]at this
theorem Z1{c:Nat}{v:V}(h:TF c v)(σ σ':Nat->Nat)(δ:Nat)(ha:AR c σ σ'):(A8 v).map (V.ren σ δ)=(A8 v).map (V.ren σ' δ):=by rw[<-EN,<-EN,h σ σ' δ ha]
def gJ(P:ft)(Ω:HI P)(o:fp)(st st':XS):Prop:=KM st st'/\∃d,o.dst=some d/\∀(σ:Nat->Nat) (pre:List AA) (k:Fr->St->Prop),(∀σ',AR st.c σ σ'->k (st'.fr.ren σ' pre.length) (st'.s.emb σ' pre)) ->
 ∃r,PZ P Ω o (st.fr.ren σ pre.length)=some r/\∀γ,k ((st.fr.ren σ pre.length).put d true (r.val (st.s.emb σ pre).up.length d γ)) ((st.s.emb σ pre).put (st.s.emb σ pre).up.length d γ r.res)
theorem gJ.step{o:fp}{st st':XS}(h:gJ P Ω o st st'):StepX P o st st':=by obtain⟨h1,d,hd,h2⟩:=h;refine⟨h1,fun σ pre k hk=>?_⟩;obtain⟨r,hr,h3⟩:=h2 σ pre k hk;exact DQ (Ω:=Ω) (.inr (.inr ⟨r,d,rfl,hd,hr,h3⟩))
theorem dV{o:fp}{st:XS}{d:Nat}{cs:List V}(h:Bd st)(hd:o.dst=some d)(hcs:∀σ σ' δ,AR st.c σ σ'->cs.map (V.ren σ δ)=cs.map (V.ren σ' δ))
  (hn:∀σ pre,PZ P Ω o (st.fr.ren σ (dz (α:=AA) pre))=some ⟨.box (cs.map (V.ren σ pre.length)),none⟩) :
  gJ P Ω o st ⟨st.c+1,st.fr.put d true (.ptr st.s.up.length d st.c 0),st.s.put st.s.up.length d st.c (.box cs)⟩:=by
 have hb:∀σ σ',AR (st.c+1) σ σ'->AR st.c σ σ':=fun σ σ' ha=>ha.mono (cq _)
 refine⟨⟨cq _,⟨fun σ σ' δ ha=>?_,fun σ σ' pre ha=>?_,h.lp.put (UH rfl)⟩,St.put_len _ _ _ _ _⟩,d,hd,fun σ pre k hk=>⟨_,hn σ pre,fun γ=>?_⟩⟩
 ·simp only[HO,HM];rw[h.f σ σ' δ (hb _ _ ha),ha st.c (bm _)]
 ·simp only[C0,AX.ren];rw[h.s σ σ' pre (hb _ _ ha),hcs σ σ' _ (hb _ _ ha),ha st.c (bm _)]
 ·have:=hk (fun i=>if i=st.c then γ else σ i) (AR.upd _ _ _);have ha:=AR.upd st.c γ σ;simp only[HO,HM,if_true,C0,AX.ren]at this;rw[<-h.f _ _ _ ha,<-h.s _ _ _ ha,<-hcs _ _ _ ha]at this;rw[DL];exact this
def OK(P:ft)(d:Option Tmp)(T:gq)(st:XS):Option XS:=match d,CE P T with
 |some d,some cs=>some ⟨st.c+1,(d,true,.ptr st.s.up.length d st.c 0)::st.fr,st.s.put st.s.up.length d st.c (.box cs)⟩
 |_,_=>none
def mJ(d:Option Tmp)(x:gk)(st:XS):Option XS:=match d,CH st.fr x with
 |some d,some v=>Bool.rec none (some ⟨st.c+1,(d,true,.ptr st.s.up.length d st.c 0)::st.fr,st.s.put st.s.up.length d st.c (.box (A8 v))⟩) (A9 v)
 |_,_=>none
theorem dW{o:fp}{T:gq}{st st':XS}(h:Bd st)(ho:o.op=.alloc T)(hx:OK P o.dst T st=some st'):gJ P Ω o st st':=by
 unfold OK at hx;split at hx
 ·rename_i d cs hd hz;cases hx;refine dV h hd (fun σ σ' δ _=>by rw[GS hz,GS hz]) fun σ pre=>?_;simp[PZ,ho,hz,GS hz]
 ·cases hx
theorem uT{o:fp}{T:gq}{x:gk}{st st':XS}(h:Bd st)(ho:o.op=.box T x)(hx:mJ o.dst x st=some st'):gJ P Ω o st st':=by
 unfold mJ at hx;split at hx
 ·rename_i d v hd hv;cases hf:A9 v with
  |false=>rw[hf]at hx;cases hx
  |true=>
   rw[hf]at hx
   cases hx
   refine dV h hd (fun σ σ' δ ha=>Z1 (h.rd hv) σ σ' δ ha) fun σ pre=>?_
   rw[D3]at hv
   simp[PZ,ho,DF,hv,IC,hf,EN]
 ·cases hx
def VU(P:ft)(d:Option Tmp)(T:gq)(x y:gk)(st:XS):Option XS:=match d,BO P T with
 |some d,some (none,e)=>match CH st.fr x,CH st.fr y with
  |some (.int _ n),some (.int _ m)=>match CE P e with
   |some z=>if 0<=n/\m=n/\z.length=P.cellsOf e/\n.toNat*P.bytesOf e<=140737488355328/\n.toNat<=maxLen then
     some ⟨st.c+1,(d,true,.vec st.s.up.length d st.c n.toNat)::st.fr,st.s.put st.s.up.length d st.c (.vec e (bw n.toNat z))⟩ else none
   |none=>none
  |_,_=>none
 |_,_=>none
theorem mK{o:fp}{T:gq}{x y:gk}{st st':XS}(h:Bd st)(ho:o.op=.makeSlice T x y)(hx:VU P o.dst T x y st=some st'):gJ P Ω o st st':=by
 unfold VU at hx;split at hx
 ·rename_i d e hd hel;split at hx
  ·rename_i k1 n k2 m h1 h2;split at hx
   ·rename_i z hz;split at hx
    ·rename_i hc;cases hx;rw[D3]at h1 h2;have hr:∀σ δ,(bw n.toNat z).map (cj (V.ren σ δ))=bw n.toNat z:=fun σ δ=>by rw[dx,GS hz]
     have hb:∀σ σ',AR (st.c+1) σ σ'->AR st.c σ σ':=fun σ σ' ha=>ha.mono (cq _);refine⟨⟨cq _,⟨fun σ σ' δ ha=>?_,fun σ σ' pre ha=>?_,h.lp.put (UH rfl)⟩,St.put_len _ _ _ _ _⟩,d,hd,fun σ pre k hk=>⟨⟨.vec e (bw n.toNat z),none⟩,?_,fun γ=>?_⟩⟩
     ·show((st.fr.put d true _).ren σ δ)=((st.fr.put d true _).ren σ' δ);simp only[HO,HN];rw[h.f σ σ' δ (hb _ _ ha),ha st.c (bm _)]
     ·simp only[C0,AX.ren,hr];rw[h.s σ σ' pre (hb _ _ ha),ha st.c (bm _)]
     ·simp only[PZ,ho,DF,h1,h2,bq,EJ,hel,hz];rw[if_pos hc]
     ·have:=hk (fun i=>if i=st.c then γ else σ i) (AR.upd _ _ _);have ha:=AR.upd st.c γ σ;change k ((st.fr.put d true _).ren _ _) _ at this;simp only[HO,HN,if_true,C0,AX.ren,hr]at this;rw[<-h.f _ _ _ ha,<-h.s _ _ _ ha]at this;simp only[Mk.val,HH,bb];rw[DL];exact this
    ·cases hx
   ·cases hx
  ·cases hx
 ·cases hx
def yV(d:Option Tmp)(r:Option gk)(st:XS):Option XS:=match d,r with
 |some d,none=>some ⟨st.c+1,(d,true,.mp st.s.up.length d st.c)::st.fr,st.s.put st.s.up.length d st.c (.map [])⟩
 |_,_=>none
theorem uU{o:fp}{T:gq}{r:Option gk}{st st':XS}(h:Bd st)(ho:o.op=.makeMap T r)(hx:yV o.dst r st=some st'):gJ P Ω o st st':=by
 unfold yV at hx;split at hx
 ·rename_i d hd;cases hx;have hb:∀σ σ',AR (st.c+1) σ σ'->AR st.c σ σ':=fun σ σ' ha=>ha.mono (cq _);refine⟨⟨cq _,⟨fun σ σ' δ ha=>?_,fun σ σ' pre ha=>?_,h.lp.put (UH rfl)⟩,St.put_len _ _ _ _ _⟩,d,hd,fun σ pre k hk=>⟨⟨.map [],none⟩,?_,fun γ=>?_⟩⟩
  ·show((st.fr.put d true _).ren σ δ)=((st.fr.put d true _).ren σ' δ);simp only[HO,QS];rw[h.f σ σ' δ (hb _ _ ha),ha st.c (bm _)]
  ·simp only[C0,AX.ren,dj];rw[h.s σ σ' pre (hb _ _ ha),ha st.c (bm _)]
  ·simp only[PZ,ho]
  ·have:=hk (fun i=>if i=st.c then γ else σ i) (AR.upd _ _ _);have ha:=AR.upd st.c γ σ;change k ((st.fr.put d true _).ren _ _) _ at this;simp only[HO,QS,if_true,C0,AX.ren,dj]at this;rw[<-h.f _ _ _ ha,<-h.s _ _ _ ha]at this;simp only[Mk.val,HH];rw[DL];exact this
 ·cases hx
def JH(P:ft)(d:Option Tmp)(T:gq)(x y:gk)(st:XS):Option XS:=match d with
 |some _=>none
 |none=>match CH st.fr x,CH st.fr y with
  |some (.ptr l q γ off),some v=>match st.s.get l q with
   |some (γ',.box cs)=>if bz γ' γ&&A9 v&&cx 0 (P.cellsOf T)&&bz (A8 v).length (P.cellsOf T)&&dn (off+P.cellsOf T) cs.length&&cx γ st.c then some { st with s:=st.s.put l q γ (.box (A4 cs off (A8 v))) } else none
   |_=>none
  |some (.eptr l q γ i off),some v=>match st.s.get l q with
   |some (γ',.vec U es)=>if bz γ' γ&&A9 v&&cx 0 (P.cellsOf T)&&bz (A8 v).length (P.cellsOf T)&&cx i es.length&&dn (off+P.cellsOf T) (es.getD i []).length&&cx γ st.c then some { st with s:=st.s.put l q γ (.vec U (es.set i (A4 (es.getD i []) off (A8 v)))) } else none
   |_=>none
  |_,_=>none
theorem M3{st:XS}(h:Bd st){l q γ:Nat}{r:AX}(hg:st.s.get l q=some (γ,r))(σ σ':Nat->Nat)(δ:Nat)(ha:AR st.c σ σ'):r.ren σ δ=r.ren σ' δ:=by have h1:=B9 (s:=st.s) (σ:=σ) (pre:=bw δ []) l q;have h2:=B9 (s:=st.s) (σ:=σ') (pre:=bw δ []) l q;rw[h.s σ σ' _ ha,h2,hg]at h1;simp only[bq,bb,cw.injEq,fh.injEq]at h1;exact h1.2.symm
theorem KZ(es:List (List V))(i:Nat)(x:List V):(es.set i x).map (cj (V.ren σ δ))=(es.map (cj (V.ren σ δ))).set i (x.map (V.ren σ δ)):=by simp[List.map_set]
theorem dX{o:fp}{T:gq}{x y:gk}{st st':XS}(h:Bd st)(ho:o.op=.store T x y)(hx:JH P o.dst T x y st=some st'):StepX P o st st':=by
 unfold JH at hx;split at hx
 ·cases hx
 ·rename_i hd;split at hx
  ·rename_i l q γ off v h1 h2;split at hx
   ·rename_i γ' cs hg;split at hx
    ·rename_i hc;simp only[bx,cd,cz]at hc;obtain⟨⟨⟨⟨⟨c1,c2⟩,c3⟩,c4⟩,c5⟩,c6⟩:=hc;have c1:=bj c1;have c4:=bj c4;subst c1;cases hx;have hv:=h.rd h2;refine⟨⟨bn _,h.putS c6 fun σ σ' δ ha=>?_,St.put_len _ _ _ _ _⟩,fun σ pre k hk=>?_⟩
     ·have hr:=M3 h hg σ σ' δ ha;simp only[AX.ren,AX.box.injEq]at hr|-;rw[<-DI,<-DI,hr,Z1 hv σ σ' δ ha]
     ·have:=hk σ (AR.refl _ _);rw[D3]at h1 h2;unfold EI;simp only[ho,DF,h1,h2,bq,HM,B9,hg,AX.ren];refine⟨trivial,trivial,by rw[IC];exact c2,c3,by rw[EN];simpa using c4,by simpa using c5,hd,?_⟩;rw[EN,DI];rw[C0]at this;exact this
    ·cases hx
   ·cases hx
  ·rename_i l q γ i off v h1 h2;split at hx
   ·rename_i γ' U es hg;split at hx
    ·rename_i hc;simp only[bx,cd,cz]at hc;obtain⟨⟨⟨⟨⟨⟨c1,c2⟩,c3⟩,c4⟩,c5⟩,c6⟩,c7⟩:=hc;have c1:=bj c1;have c4:=bj c4;subst c1;cases hx;have hv:=h.rd h2;refine⟨⟨bn _,h.putS c7 fun σ σ' δ ha=>?_,St.put_len _ _ _ _ _⟩,fun σ pre k hk=>?_⟩
     ·have hr:=M3 h hg σ σ' δ ha;simp only[AX.ren,AX.vec.injEq,true_and]at hr|-;rw[KZ,KZ,<-DI,<-DI,<-E3,<-E3,hr,Z1 hv σ σ' δ ha]
     ·have:=hk σ (AR.refl _ _);rw[D3]at h1 h2;unfold EI;simp only[ho,DF,h1,h2,bq,OG,B9,hg,AX.ren];refine⟨trivial,trivial,by rw[IC];exact c2,c3,by rw[EN];simpa using c4,by simpa using c5,by rw[E3];simpa using c6,hd,?_⟩;rw[E3,EN,DI,<-KZ];rw[C0]at this;exact this
    ·cases hx
   ·cases hx
  ·cases hx
def yW(P:ft)(d:Option Tmp)(T:gq)(x i y:gk)(st:XS):Option XS:=match d with
 |some _=>none
 |none=>match CH st.fr x,CH st.fr i,CH st.fr y with
  |some m,some i,some v=>match LU P st.s T m i v with
   |some (l,q,γ,es)=>Bool.rec none (some { st with s:=st.s.put l q γ (.map es) }) (cx γ st.c)
   |none=>none
  |_,_,_=>none
theorem AIM{o:fp}{T:gq}{x i y:gk}{st st':XS}(h:Bd st)(ho:o.op=.mapUpdate T x i y)(hx:yW P o.dst T x i y st=some st'):StepX P o st st':=by
 unfold yW at hx;split at hx
 ·cases hx
 ·rename_i hd;split at hx
  ·rename_i m i' v h1 h2 h3;split at hx
   ·rename_i l q γ es hu;cases hb:cx γ st.c with
    |false=>rw[hb]at hx;cases hx
    |true=>
     rw[hb]at hx
     have hlt:γ<st.c:=by simpa using hb
     cases hx
     have hm:=h.rd h1
     have hi:=h.rd h2
     have hv:=h.rd h3
     refine⟨⟨bn _,h.putS hlt fun σ σ' δ ha=>?_,St.put_len _ _ _ _ _⟩,fun σ pre k hk=>?_⟩
     ·have q1:=UF (σ:=σ) (pre:=bw δ []) hu;have q2:=UF (σ:=σ') (pre:=bw δ []) hu;rw[h.s σ σ' _ ha,hm σ σ' _ ha,hi σ σ' _ ha,hv σ σ' _ ha,q2]at q1;simp only[cw.injEq,fh.injEq,bb]at q1;simp only[AX.ren,q1.2.2.2]
     ·have:=hk σ (AR.refl _ _);rw[D3]at h1 h2 h3;unfold EI;simp only[ho,DF,h1,h2,h3,bq,UF hu];refine⟨trivial,hd,?_⟩;rw[C0]at this;exact this
   ·cases hx
  ·cases hx
def gK(P:ft)(d:Option Tmp)(args:List gk)(Ts:List gq)(st:XS):Option XS:=match args,Ts,d with
 |[x],[T],none=>match BO P T,CH st.fr x with
  |some (none,e),some (.vtl l q γ i n)=>match st.s.get l q,CE P e with
   |some (γ',.vec U es),some z=>Bool.rec none (some { st with s:=st.s.put l q γ (.vec U (es.take i++bw n z++es.drop (i+n))) }) (bz γ' γ&&bz U e&&dn (i+n) es.length&&es.all (fun y=>y.length==z.length)&&cx γ st.c)
   |_,_=>none
  |_,_=>none
 |_,_,_=>none
theorem yX{o:fp}{args:Array gk}{Ts:Array gq}{st st':XS}(h:Bd st)(ho:o.op=.call { callee:=.builtin .clear,args:=args,argTypes:=Ts })(hx:gK P o.dst args.toList Ts.toList st=some st'):StepX P o st st':=by
 unfold gK at hx;split at hx
 ·rename_i x T ha hT hd;split at hx
  ·rename_i e l q γ i n hel h1;split at hx
   ·rename_i γ' U es z hg hz;cases hb:(bz γ' γ&&bz U e&&dn (i+n) es.length&&es.all (fun y=>y.length==z.length)&&cx γ st.c)with
    |false=>rw[hb]at hx;cases hx
    |true=>
     rw[hb]at hx
     cases hx
     simp only[bx,cd,cz]at hb
     obtain⟨⟨⟨⟨c1,c2⟩,c3⟩,c4⟩,c5⟩:=hb
     have c1:=bj c1
     have c2:=bj c2
     subst c1;subst c2
     have hz':∀σ δ,z.map (V.ren σ δ)=z:=fun σ δ=>GS hz
     refine⟨⟨bn _,h.putS c5 fun σ σ' δ ha=>?_,St.put_len _ _ _ _ _⟩,fun σ pre k hk=>?_⟩
     ·have hr:=M3 h hg σ σ' δ ha;simp only[AX.ren,AX.vec.injEq,true_and]at hr|-;simp only[bc,ck,List.map_drop,dx,hz',hr]
     ·have:=hk σ (AR.refl _ _);rw[D3]at h1;unfold EI;simp only[ho,ha,hT,hd,hel,DF,h1,bq,WJ,B9,hg,hz,AX.ren];refine⟨trivial,trivial,trivial,by simpa using c3,?_,?_⟩
      ·rw[fw];exact c4▸(by congr 1;funext x;simp)
      ·rw[C0]at this;simp only[AX.ren,bc,ck,List.map_drop,dx,hz']at this;exact this
   ·cases hx
  ·cases hx
 ·cases hx
theorem qJ{o:fp}{l q γ:Nat}{r:AX}(h:DK P o fr s=some (l,q,γ,r)):DK P o (fr.ren σ pre.length) (s.emb σ pre)=some (l+pre.length,q,σ γ,r.ren σ pre.length):=by
 unfold DK at h|-;split at h
 ·rename_i T x y ho;simp only[DF];split at h
  ·rename_i l1 q1 γ1 off v e1 e2;simp only[e1,e2,bq,HM,B9];split at h
   ·rename_i γ2 cs e3;split at h
    ·rename_i hc;cases h;obtain⟨c1,c2,c3,c4,c5,c6⟩:=hc;subst c1;simp only[e3,bq,AX.ren,IC,EN,bp];rw[if_pos ⟨trivial,c2,c3,c4,c5,c6⟩,DI]
    ·cases h
   ·cases h
  ·rename_i l1 q1 γ1 i off v e1 e2;simp only[e1,e2,bq,OG,B9];split at h
   ·rename_i γ2 U es e3;split at h
    ·rename_i hc;cases h;obtain⟨c1,c2,c3,c4,c5,c6,c7⟩:=hc;subst c1;simp only[e3,bq,AX.ren,IC,EN,bp,E3];rw[if_pos ⟨trivial,c2,c3,c4,c5,c6,c7⟩,DI,<-KZ]
    ·cases h
   ·cases h
  ·cases h
 ·cases h
theorem ADC{o:fp}{T:gq}{x y:gk}{st st':XS}(ho:o.op=.store T x y)(hx:JH P o.dst T x y st=some st'):∃l q γ r,DK P o st.fr st.s=some (l,q,γ,r)/\st'={ st with s:=st.s.put l q γ r }:=by
 unfold JH at hx;unfold DK;simp only[ho];split at hx
 ·cases hx
 ·rename_i hd;split at hx
  ·rename_i l q γ off v h1 h2;split at hx
   ·rename_i γ' cs hg;split at hx
    ·rename_i hc;simp only[bx,cd,cz]at hc;obtain⟨⟨⟨⟨⟨c1,c2⟩,c3⟩,c4⟩,c5⟩,c6⟩:=hc;have c1:=bj c1;have c4:=bj c4;subst c1;cases hx;rw[D3]at h1 h2;refine⟨_,_,_,_,?_,rfl⟩;simp only[h1,h2,hg];rw[if_pos ⟨trivial,c2,c3,c4,c5,hd⟩]
    ·cases hx
   ·cases hx
  ·rename_i l q γ i off v h1 h2;split at hx
   ·rename_i γ' U es hg;split at hx
    ·rename_i hc;simp only[bx,cd,cz]at hc;obtain⟨⟨⟨⟨⟨⟨c1,c2⟩,c3⟩,c4⟩,c5⟩,c6⟩,c7⟩:=hc;have c1:=bj c1;have c4:=bj c4;subst c1;cases hx;rw[D3]at h1 h2;refine⟨_,_,_,_,?_,rfl⟩;simp only[h1,h2,hg];rw[if_pos ⟨trivial,c2,c3,c4,c5,c6,hd⟩]
    ·cases hx
   ·cases hx
  ·cases hx
def AA.hide(W:AK)(l:Nat)(L:AA):AA:=L.filter fun e=>!(W.contains (l,e.1))
theorem AA.get_hide(W:AK)(l:Nat):∀(L:AA) (k:Nat),(l,k)∉W->(L.hide W l).get k=L.get k
 |[],k,_=>rfl
 |(j,x)::L,k,hk=>by
  have ih:=AA.get_hide W l L k hk;unfold AA.hide at ih|-;rw[List.filter_cons];split
  ·simp only[AA.get];split
   ·rfl
   ·exact ih
  ·rename_i hc;simp only[fc,Bool.not_eq_false,List.contains_iff_mem]at hc;rw[ih];simp only[AA.get];rw[if_neg (fun e=>hk (by rw[e];simpa using hc))]
theorem AA.get_hide'(W:AK)(l:Nat):∀(L:AA) (k:Nat),(l,k)∈W->(L.hide W l).get k=none
 |[],k,_=>rfl
 |(j,x)::L,k,hk=>by
  have ih:=AA.get_hide' W l L k hk;unfold AA.hide at ih|-;rw[List.filter_cons];split
  ·rename_i hc;simp only[AA.get];rw[if_neg (fun e=>by subst e;simp[hk]at hc)];exact ih
  ·exact ih
def St.hide(W:AK)(s:St):St:=⟨s.up.mapIdx fun l L=>L.hide W l,s.loc.hide W s.up.length⟩
theorem St.get_hide{W:AK}{l k:Nat}(h:(l,k)∉W):(s.hide W).get l k=s.get l k:=by
 unfold St.get St.hide;simp only[fx];split
 ·rename_i e;subst e;exact AA.get_hide W _ _ _ h
 ·rw[dp];cases s.up[l]? with
  |none=>rfl
  |some L=>exact AA.get_hide W _ _ _ h
theorem St.get_hide'{W:AK}{l k:Nat}(h:(l,k)∈W):(s.hide W).get l k=none:=by
 unfold St.get St.hide;simp only[fx];split
 ·rename_i e;subst e;exact AA.get_hide' W _ _ _ h
 ·rw[dp];cases s.up[l]? with
  |none=>rfl
  |some L=>exact AA.get_hide' W _ _ _ h
theorem Z2(W:AK):VQ W (s.hide W) s:=fun l k x e=>by
 by_cases h:(l,k)∈W
 ·rw[St.get_hide' h]at e;cases e
 ·exact⟨h,by rw[<-St.get_hide h];exact e⟩
def BM:Option V->AK
 |some (.ptr l k _ _)=>[(l,k)]
 |some (.eptr l k _ _ _)=>[(l,k)]
 |some (.vec l k _ _)=>[(l,k)]
 |some (.mp l k _)=>[(l,k)]
 |_=>[]
def B8(one:Bool)(x:Option V):AK:=match one,x with
 |true,some (.ptr l k _ off)=>[(l,k+IL),(l,k+F3),(l,FD k off)]
 |true,some (.eptr l k _ _ off)=>[(l,k+IL),(l,k+F3),(l,FD k off)]
 |_,x=>BM x
def CL(one:Bool)(x:Option V):AK:=match one,x with
 |true,some (.ptr l k _ off)=>[(l,k),(l,FD k off)]
 |true,some (.eptr l k _ _ off)=>[(l,k),(l,FD k off)]
 |false,some (.ptr l k _ _)=>[(l,k),(l,k+F3)]
 |false,some (.eptr l k _ _ _)=>[(l,k),(l,k+F3)]
 |_,_=>[]
def ADD:Option V->Bool
 |some (.ptr ..)=>true
 |some (.eptr ..)=>true
 |_=>false
def E4:Option V->AK
 |some (.vec l k _ _)=>[(l,k)]
 |some (.vtl l k _ _ _)=>[(l,k)]
 |some (.ptr l k _ _)=>[(l,k)]
 |_=>[]
def KB:Option V->AK
 |some (.vec l k _ _)=>[(l,k+IL)]
 |_=>[]
def mL(P:ft)(o:fp)(r:gk->Option V):Bool:=match o.op with
 |.load T x=>bz (P.cellsOf T) 1&&ADD (r x)
 |.indexAddr _ x _=>match r x with
  |some (.vec ..)=>true
  |_=>false
 |_=>false
def ID(r:gk->Option V):List gk->AK
 |[_,y]=>E4 (r y)
 |_=>[]
def EF(P:ft)(o:fp)(r:gk->Option V):AK:=match o.op with
 |.load T x=>B8 (bz (P.cellsOf T) 1) (r x)
 |.indexAddr _ x _=>KB (r x)
 |.slice _ x ..=>E4 (r x)
 |.lookup _ x ..=>BM (r x)
 |.call { callee:=.builtin .append,args,.. }=>ID r args.toList
 |_=>[]
theorem gL{W:AK}{x:V}{es:List (List V)}(h:elemsOf s x=some es)(hr:∀p∈E4 (some x),p∉W):elemsOf (s.hide W) x=some es:=by
 cases x with
 |vec l k g n=>
  have hn:(l,k)∉W:=hr _ (by simp[E4])
  simp only[elemsOf,St.get_hide hn]at h|-
  exact h
 |vtl l k g i n=>
  have hn:(l,k)∉W:=hr _ (by simp[E4])
  simp only[elemsOf,St.get_hide hn]at h|-
  exact h
 |list b es=>exact h
 |nil=>exact h
 |raw v=>exact(VJ _ _ v).trans h
 |_=>cases h
theorem ADE{W:AK}{o:fp}{r:gk->Option V}{v:V}(h:IA P o s r=some v)(hi:mL P o r=false)(hr:∀p∈EF P o r,p∉W):IA P o (s.hide W) r=some v:=by
 unfold IA at h|-;split at h;case h_4 T x ho=>
  obtain⟨p,h1,h2⟩:=bk.1 h
  obtain⟨cs,h3,h4⟩:=bk.1 h2
  have:A7 (s.hide W) p=some cs:=by
   cases p with
   |ptr l k g off=>
    have hb:bz (P.cellsOf T) 1=false:=by simpa [mL,ho,h1,ADD]using hi
    have hn:(l,k)∉W:=hr _ (by simp[EF,ho,h1,B8,hb,BM])
    simp only[A7,St.get_hide hn]at h3|-;exact h3
   |eptr l k g i off=>
    have hb:bz (P.cellsOf T) 1=false:=by simpa [mL,ho,h1,ADD]using hi
    have hn:(l,k)∉W:=hr _ (by simp[EF,ho,h1,B8,hb,BM])
    simp only[A7,St.get_hide hn]at h3|-;exact h3
   |_=>exact h3
  simp only[h1,bg,this,h4]
 case h_10 T x i ho=>
  obtain⟨p,h1,h2⟩:=bk.1 h
  obtain⟨q,h3,h4⟩:=bk.1 h2
  have:BU P (s.hide W) T p q=some v:=by
   unfold BU at h4|-;split at h4
   ·exact h4
   ·rename_i e l k g n k' j e1;simp[mL,ho,h1]at hi
   ·exact h4
   ·exact h4
   ·exact h4
   ·cases h4
  simp only[h1,h3,bg,this]
 case h_16 T x lo hi mx ho=>
  obtain⟨p,h1,h2⟩:=bk.1 h
  obtain⟨q,h3,h4⟩:=bk.1 h2
  obtain⟨q',h5,h6⟩:=bk.1 h4
  obtain⟨q2,h7,h8⟩:=bk.1 h6
  have:B0 P (s.hide W) T p q q' q2=some v:=by
   unfold B0 at h8|-;split at h8;case h_6 e l k g n k' i e1=>
    have hn:(l,k)∉W:=hr _ (by simp[EF,ho,h1,E4])
    simp only[St.get_hide hn];exact h8
   case h_7 n e l k g o e1=>
    have hn:(l,k)∉W:=hr _ (by simp[EF,ho,h1,E4])
    simp only[St.get_hide hn];exact h8
   all_goals exact h8
  simp only[h1,h3,h5,h7,bg,this]
 case h_17 T x i ok ho=>
  obtain⟨p,h1,h2⟩:=bk.1 h
  obtain⟨q,h3,h4⟩:=bk.1 h2
  have:DP P (s.hide W) T p q ok=some v:=by
   unfold DP at h4|-;split at h4
   ·rename_i K E l k g e1;have hn:(l,k)∉W:=hr _ (by simp[EF,ho,h1,BM]);simp only[St.get_hide hn];exact h4
   ·cases h4
  simp only[h1,h3,bg,this]
 all_goals exact h
theorem yY{W:AK}{o:fp}{v:V}(h:FL P g o fr s=some v)(hi:mL P o (DW g fr)=false)(hr:∀p∈EF P o (DW g fr),p∉W):FL P g o fr (s.hide W)=some v:=by
 unfold FL at h|-;split at h
 ·exact h
 ·exact h
 ·exact h
 ·exact h
 ·exact ADE h hi hr
def bO(δ:Nat)(W:AK):AK:=W.map fun p=>(p.1+δ,p.2)
theorem M4{W:AK}{l k:Nat}:(l+δ,k)∈bO δ W↔(l,k)∈W:=by
 unfold bO;simp only[dk,fh.injEq,Prod.exists];constructor
 ·rintro ⟨a,b,h,h1,h2⟩;have:a=l:=by omega
  subst this;subst h2;exact h
 ·intro h;exact⟨l,k,h,rfl,rfl⟩
theorem VV(x:Option V):BM (x.map (V.ren σ δ))=bO δ (BM x):=by
 cases x with
 |none=>rfl
 |some v=>cases v<;>simp[BM,bO]
theorem QW(x:Option V):E4 (x.map (V.ren σ δ))=bO δ (E4 x):=by
 cases x with
 |none=>rfl
 |some v=>cases v<;>simp[E4,bO]
theorem qK(x:Option V):KB (x.map (V.ren σ δ))=bO δ (KB x):=by
 cases x with
 |none=>rfl
 |some v=>cases v<;>simp[KB,bO]
theorem qM(b:Bool)(x:Option V):B8 b (x.map (V.ren σ δ))=bO δ (B8 b x):=by
 cases b with
 |false=>exact VV x
 |true=>
  cases x with
  |none=>rfl
  |some v=>cases v<;>simp[B8,BM,bO]
theorem AQV{W:AK}{o:fp}{v:V}(h:FL P g o fr s=some v)(hi:mL P o (DW g fr)=true)(hr:∀p∈EF P o (DW g fr),p∉W):cE P W g o fr s v:=by
 unfold mL at hi;split at hi
 ·rename_i T x ho;rw[bx]at hi;have h1:=bj hi.1;unfold FL at h;simp only[ho,IA]at h;obtain⟨p,hx,h⟩:=bk.1 h;obtain⟨cs,hcs,hv⟩:=bk.1 h;have hp:=hi.2;rw[hx]at hp;cases p with
  |ptr l k γ off=>
   have hr':∀p∈[(l,k+IL),(l,k+F3),(l,FD k off)],p∉W:=fun p hp=>hr p (by simp only[EF,ho,hx,hi.1,B8];exact hp)
   refine .inr ⟨T,x,_,cs,l,k,off,ho,hx,rfl,hcs,hv,by omega,hr' _ (by simp),hr' _ (by simp),fun c hc=>?_⟩
   obtain rfl:c=0:=by omega
   exact hr' _ (by simp)
  |eptr l k γ i off=>
   have hr':∀p∈[(l,k+IL),(l,k+F3),(l,FD k off)],p∉W:=fun p hp=>hr p (by simp only[EF,ho,hx,hi.1,B8];exact hp)
   refine .inr ⟨T,x,_,cs,l,k,off,ho,hx,rfl,hcs,hv,by omega,hr' _ (by simp),hr' _ (by simp),fun c hc=>?_⟩
   obtain rfl:c=0:=by omega
   exact hr' _ (by simp)
  |_=>cases hp
 ·rename_i T x i ho;split at hi
  ·rename_i l k γ n hx;unfold FL at h;simp only[ho,IA,hx,bg]at h;obtain⟨iv,hiv,h⟩:=bk.1 h;unfold BU at h;split at h
   ·rename_i e1 e2;cases e2
   ·rename_i e l' k' γ' n' ki j e1 e2;cases e2;split at h
    ·rename_i γ2 T' es hget;split at h
     ·rename_i hc;obtain⟨rfl,hc⟩:=hc;exact .inl ⟨T,x,i,e,_,_,_,_,ki,j,T',es,ho,hx,hiv,e1,hr _ (by simp[EF,ho,hx,KB]),hget,hc,(cw.inj h).symm⟩
     ·cases h
    ·cases h
   ·rename_i e1 e2;cases e2
   ·rename_i e1 e2;cases e2
   ·rename_i e1 e2;cases e2
   ·cases h
  ·cases hi
 ·cases hi
theorem qN{r:gk->Option V}(l:List gk):ID (fun x=>(r x).map (V.ren σ δ)) l=bO δ (ID r l):=by
 unfold ID;split
 ·exact QW _
 ·rfl
theorem qO{o:fp}{r:gk->Option V}:EF P o (fun x=>(r x).map (V.ren σ δ))=bO δ (EF P o r):=by
 unfold EF;split
 ·exact qM _ _
 ·exact qK _
 ·exact QW _
 ·exact VV _
 ·exact qN _
 ·rfl
theorem mM{W rd:AK}(h:∀p∈rd,p∉W):∀p∈bO δ rd,p∉bO δ W:=by intro p hp;unfold bO at hp;obtain⟨⟨l,k⟩,hq,rfl⟩:=dk.1 hp;exact fun hc=>h _ hq (M4.1 hc)
end Go.Pg
namespace Go.Pg
variable {P:ft}{σ σ':Nat->Nat}{δ:Nat}{pre:List AA}{s:St}{fr:Fr}{g:Bool}
def rdC(fr:Fr)(x:gk):Option (Bool×V):=match x with
 |.tmp t=>BQ fr t
 |.const v=>match CV v with
  |some x=>some (true,x)
  |none=>none
 |.func f=>some (true,.fn f [] [])
 |.global _=>none
theorem AQW(x:gk):rdC fr x=rd fr x:=by
 cases x with
 |tmp t=>exact FG fr t
 |const v=>simp only[rdC,rd];cases CV v<;>rfl
 |func f=>rfl
 |global g=>rfl
def uV(fr:Fr)(c a b:gk):Option V:=match CH fr c,rdC fr a,rdC fr b with
 |some (.bool c),some (ca,.bool a),some (cb,.bool b)=>Bool.rec (Bool.rec none (some (.bool b)) cb) (Bool.rec none (some (.bool a)) ca) c
 |_,_,_=>none
def NJ(P:ft)(fr:Fr)(s:St)(T:gq)(x:gk):Option V:=match CH fr x with
 |some p=>match A7 s p with
  |some cs=>BN P T cs
  |none=>none
 |none=>none
def xFA(P:ft)(fr:Fr)(T:gq)(x:gk)(f:Nat):Option V:=match CH fr x with
 |some p=>DH P T p f
 |none=>none
def yZ(P:ft)(fr:Fr)(op:BinOp)(T:gq)(x y:gk):Option V:=match CH fr x,CH fr y with
 |some a,some b=>HE P op T a b
 |_,_=>none
def UI(P:ft)(fr:Fr)(T:gq)(ps:List (Nat×gk)):Option V:=match DJ (CH fr) ps with
 |some l=>DC P T l
 |none=>none
def PF(P:ft)(fr:Fr)(T:gq)(n:Nat)(ps:List (Nat×gk)):Option V:=match DJ (CH fr) ps with
 |some l=>CB P T n l
 |none=>none
def zA(P:ft)(o:fp)(fr:Fr)(s:St):Option V:=match o.op with
 |.move x=>CH fr x
 |.assign x=>CH fr x
 |.load T x=>NJ P fr s T x
 |.fieldAddr T x f=>xFA P fr T x f
 |.binOp op T x y _=>yZ P fr op T x y
 |.pick c a b=>uV fr c a b
 |.build T ps=>UI P fr T ps.toList
 |.buildSlice T n ps=>PF P fr T n ps.toList
 |.call { callee:=.builtin .append,args,argTypes }=>appS P true o args argTypes fr
 |_=>IA P o s (CH fr)
theorem PG{o:fp}{v:V}(h:zA P o fr s=some v):FL P true o fr s=some v:=by
 unfold zA at h;unfold FL;split at h<;>rename_i ho
 ·simp only[ho,IA,<-FH];exact h
 ·simp only[ho,IA,<-FH];exact h
 ·unfold NJ at h;split at h
  ·rename_i p e1;split at h
   ·rename_i cs e2;simp only[ho,IA,<-FH,e1,e2,bg];exact h
   ·cases h
  ·cases h
 ·unfold xFA at h;split at h
  ·rename_i p e1;simp only[ho,IA,<-FH,e1,bg];exact h
  ·cases h
 ·unfold yZ at h;split at h
  ·rename_i a b e1 e2;simp only[ho,IA,<-FH,e1,e2,bg];exact h
  ·cases h
 ·unfold uV at h;simp only[AQW]at h;split at h
  ·rename_i c ca a cb b e1 e2 e3;rw[D3]at e1;simp only[ho,e1,e2,e3];cases c with
   |true=>
    cases ca with
    |false=>cases h
    |true=>cases h;simp
   |false=>
    cases cb with
    |false=>cases h
    |true=>cases h;simp
  ·cases h
 ·unfold UI at h;split at h
  ·rename_i l e1;simp only[ho,<-FH,e1,bg];exact h
  ·cases h
 ·unfold PF at h;split at h
  ·rename_i l e1;simp only[ho,<-FH,e1,bg];exact h
  ·cases h
 ·simp only[ho];exact h
 ·rw[FH]at h;split
  ·rename_i ho';rw[IA,ho']at h;cases h
  ·rename_i ho';rw[IA,ho']at h;cases h
  ·rename_i ho';rw[IA,ho']at h;cases h
  ·rename_i ho';rw[IA,ho']at h;cases h
  ·exact h
theorem JV{α:Type}{b:Bool}{x y:α}(h:(Bool.rec none (some x) b:Option α)=some y):b=true/\x=y:=by
 cases b with
 |false=>cases h
 |true=>exact⟨rfl,cw.inj h⟩
theorem EK{α:Type}{b:Bool}{x:Option α}{y:α}(h:(Bool.rec none x b:Option α)=some y):b=true/\x=some y:=by
 cases b with
 |false=>cases h
 |true=>exact⟨rfl,h⟩
theorem SO{st:XS}(h:Bd st){v:V}{ys:List (List V)}(hv:TF st.c v)(he:elemsOf st.s v=some ys)(σ σ':Nat->Nat)(δ:Nat)(ha:AR st.c σ σ'):ys.map (cj (V.ren σ δ))=ys.map (cj (V.ren σ' δ)):=by have h1:=GU (σ:=σ) (pre:=bw δ []) he;have h2:=GU (σ:=σ') (pre:=bw δ []) he;rw[h.s σ σ' _ ha,hv σ σ' _ ha,h2]at h1;have:=cw.inj h1;rw[bb]at this;exact this.symm
theorem FN(ys:List (List V))(m:Nat):(ys.map (cj (V.ren σ δ))).all (fun y=>y.length==m)=ys.all (fun y=>y.length==m):=by rw[fw];congr 1;funext y;simp
def mN(P:ft)(d:Tmp)(e:gq)(ys:List (List V))(st:XS)(xv:V):Option (XS×Nat×Nat):=match xv with
 |.vec l q γ n=>match QN n ys (st.s.get l q)with
  |some (γ',.vec W es)=>Bool.rec none (some (⟨st.c+1,(d,true,.vec l q st.c (es++ys).length)::st.fr,st.s.put l q st.c (.vec e (es++ys))⟩,l,q))
    (bz γ' γ&&bz W e&&bz n es.length&&es.all (fun y=>y.length==P.cellsOf e)&&CG P e es.length ys)
  |_=>none
 |_=>none
def xAppG(el:St->V->Option (List (List V)))(P:ft)(d:Option Tmp)(args:List gk)(Ts:List gq)(st:XS):Option (XS×Nat×Nat):=match args,Ts,d with
 | [x,y],[T,U],some d=>Bool.rec none (match BO P T with
  |some (none,e)=>match CH st.fr x,CH st.fr y with
   |some xv,some yv=>match el st.s yv with
    |some ys=>match I2 xv ys with
     |some es=>Bool.rec none (some (⟨st.c+1,(d,true,.vec st.s.up.length d st.c (es++ys).length)::st.fr,st.s.put st.s.up.length d st.c (.vec e (es++ys))⟩,st.s.up.length,d)) (es.all (fun y=>y.length==P.cellsOf e)&&CG P e es.length ys)
     |none=>mN P d e ys st xv
    |none=>none
   |_,_=>none
  | _=>none) (bz T U)
 |_,_,_=>none
theorem ADF(v:V):Y2 (v.ren σ δ)=Y2 v:=by
 cases v with
 |list f es=>cases f<;>cases es<;>simp[Y2]
 |_=>simp[Y2]
theorem mO(v:V)(ys:List (List V)):I2 (v.ren σ δ) (ys.map (cj (V.ren σ δ)))=(I2 v ys).map (cj (cj (V.ren σ δ))):=by
 cases v with
 |list f es=>cases f<;>cases es<;>cases ys<;>simp[I2]
 |_=>simp[I2]
theorem qQ{v:V}{es ys:List (List V)}(h:I2 v ys=some es):elemsOf s v=some es:=by unfold I2 at h;split at h<;>cases h<;>rfl
theorem dY{e:gq}{n:Nat}(ys:List (List V)):CG P e n (ys.map (cj (V.ren σ δ)))=CG P e n ys:=by unfold CG;rw[FN,bp]
theorem ADG{n:Nat}(ys es:List (List V)):Y3 n (ys.map (cj (V.ren σ δ))) (es.map (cj (V.ren σ δ)))=(Y3 n ys es).map (cj (V.ren σ δ)):=by
 cases ys with
 |nil=>rfl
 |cons y ys=>
  show(if _ then _ else _)=(if _ then _ else _:List (List V)).map _
  have e:(es.map (cj (V.ren σ δ))).all (fun x=>x.length==(y.map (V.ren σ δ)).length)=es.all (fun x=>x.length==y.length):=by rw[fw,bp];congr 1;funext x;simp
  rw[e]
  split
  ·rw[ck]
  ·rfl
theorem mP{n γ:Nat}{ys es:List (List V)}{U:gq}{o:Option (Nat×AX)}(h:QN n ys o=some (γ,.vec U es)):QN n (ys.map (cj (V.ren σ δ))) (o.map fun p=>(σ p.1,p.2.ren σ δ))=some (σ γ,.vec U (es.map (cj (V.ren σ δ)))):=by obtain⟨es0,rfl,rfl⟩:=O8 h;show some (σ γ,AX.vec U (Y3 n _ _))=_;rw[ADG]
theorem Z3{el:St->V->Option (List (List V))}(hel0:∀s v es,el s v=some es->elemsOf s v=some es){o:fp}{args:Array gk}{Ts:Array gq}{st st':XS}{l q:Nat}(h:Bd st)(ho:o.op=.call { callee:=.builtin .append,args:=args,argTypes:=Ts })
  (hx:xAppG el P o.dst args.toList Ts.toList st=some (st',l,q)):∃d r,o.dst=some d/\bN r=true/\st'=⟨st.c+1,(d,true,HH r l q st.c)::st.fr,st.s.put l q st.c r⟩/\(∀σ σ' δ,AR st.c σ σ'->r.ren σ δ=r.ren σ' δ) /\
   (∀(σ:Nat->Nat) (pre:List AA) (k:Fr->St->Prop),(∀γ,k ((st.fr.ren σ pre.length).put d true (HH (r.ren σ pre.length) (l+pre.length) q γ)) ((st.s.emb σ pre).put (l+pre.length) q γ (r.ren σ pre.length)))->EI P true o (st.fr.ren σ pre.length) (st.s.emb σ pre) k) /\
   (∀(W:AK) (σ:Nat->Nat) (pre:List AA),sealD o.dst=false->(∀p∈ID (CH st.fr) args.toList,p∉W)->V5 P o (st.fr.ren σ pre.length) ((st.s.emb σ pre).hide (bO pre.length W)) (st.s.emb σ pre)=some (l+pre.length,q,r.ren σ pre.length)):=by
 unfold xAppG at hx
 split at hx
 ·rename_i x y T U d ha hT hd;obtain⟨hTU,hx2⟩:=EK hx;clear hx;have hTU:=bj hTU;subst hTU;have hx:=hx2;clear hx2;split at hx
  ·rename_i e hel;split at hx
   ·rename_i xv yv h1 h2;split at hx
    ·rename_i ys hys0;have hys:=hel0 _ _ _ hys0;have hyb:=SO h (h.rd h2) hys;have r1:=h1;have r2:=h2;rw[D3]at r1 r2;have hys2:∀(W:AK) (σ:Nat->Nat) (pre:List AA),(∀p∈ID (CH st.fr) args.toList,p∉W)->elemsOf ((st.s.emb σ pre).hide (bO pre.length W)) (yv.ren σ pre.length)=some (ys.map (cj (V.ren σ pre.length))):=fun W σ pre hW=>by refine gL (GU hys) ?_;rw[ha]at hW;simp only[ID,h2]at hW;have:=mM (δ:=pre.length) hW;rw[<-QW (σ:=σ)]at this;exact this
     cases hn:I2 xv ys with
     |some es=>
      rw[hn]at hx
      obtain⟨hc,he⟩:=JV hx
      simp only[fh.injEq]at he
      obtain⟨rfl,rfl,rfl⟩:=he
      simp only[bx]at hc
      obtain⟨hce,hc⟩:=hc
      have heb:=SO h (h.rd h1) (qQ hn)
      refine⟨d,.vec e (es++ys),hd,rfl,rfl,fun σ σ' δ hag=>by simp only[AX.ren,bc,hyb σ σ' δ hag,heb σ σ' δ hag],fun σ pre k hk=>?_,fun W σ pre hsd hW=>?_⟩
      ·have hc':=hc;simp only[CG,bx,cd,cz]at hc;obtain⟨⟨⟨⟨c1,c2⟩,c3⟩,c4⟩,c5⟩:=hc;unfold EI;simp only[ho,ha,hT,hd,hel,DF,r1,r2,bq,bg,GU hys,mO,hn,true_and];refine .inr ⟨c1,c2,by rw[FN];exact hce,by rw[FN];exact c3,by simpa using c4,by simpa using c5,fun γ=>?_⟩;have:=hk γ;simp only[HH,AX.ren]at this;rw[DL,<-bc];exact this
      ·unfold V5;simp only[ho,ha,hT,hd,hel,DF,r1,r2,bq,bg,hys2 _ _ _ hW,mO,hn,hd▸hsd,and_self,if_true,DL,AX.ren];rw[if_pos ⟨by rw[FN];exact hce,by rw[dY,bp];exact hc⟩,bc]
     |none=>
      rw[hn]at hx
      replace hx:mN P d e ys st xv=some (st',l,q):=hx
      unfold mN at hx
      split at hx
      ·rename_i l0 q0 γ0 n';split at hx
       ·rename_i γ' W es hg;obtain⟨hc,he⟩:=JV hx;simp only[fh.injEq]at he;obtain⟨rfl,rfl,rfl⟩:=he;simp only[bx]at hc;obtain⟨⟨⟨⟨c1,c2⟩,c3⟩,c6⟩,c7⟩:=hc;have c1:=bj c1;have c2:=bj c2;have c3:=bj c3;subst c1;subst c2;subst c3;have heb:∀σ σ' δ,AR st.c σ σ'->es.map (cj (V.ren σ δ))=es.map (cj (V.ren σ' δ)):=fun σ σ' δ ha=>by
         obtain⟨es0,hg0,e0⟩:=O8 hg;have:=M3 h hg0 σ σ' δ ha;have e1:es0.map (cj (V.ren σ δ))=es0.map (cj (V.ren σ' δ)):=by simpa [AX.ren]using this
         rcases T1 es.length ys es0 with e2|⟨e2,_⟩
         ·rw[e0,e2,e1]
         ·rw[e0,e2,ck,ck,e1]
        refine⟨d,.vec W (es++ys),hd,rfl,rfl,fun σ σ' δ hag=>by simp only[AX.ren,bc,hyb σ σ' δ hag,heb σ σ' δ hag],fun σ pre k hk=>?_,fun W σ pre hsd hW=>?_⟩
        ·simp only[CG,bx,cd,cz]at c7;obtain⟨⟨⟨⟨d1,d2⟩,d3⟩,d4⟩,d5⟩:=c7;have hnn:I2 (V.vec (l0+pre.length) q0 (σ γ') es.length) (ys.map (cj (V.ren σ pre.length)))=none:=rfl;unfold EI;simp only[ho,ha,hT,hd,hel,DF,r1,r2,bq,bg,GU hys,HN,B9,mP hg,true_and,hnn];refine .inr ⟨by simp,d1,d2,by rw[FN];exact c6,by rw[FN];exact d3,by simpa using d4,by simpa using d5,fun γ=>?_⟩;have:=hk γ;simp only[HH,AX.ren,bc,cg,bp]at this|-;exact this
        ·have hnn:I2 (V.vec (l0+pre.length) q0 (σ γ') es.length) (ys.map (cj (V.ren σ pre.length)))=none:=rfl;unfold V5;simp only[ho,ha,hT,hd,hel,DF,r1,r2,bq,bg,hys2 _ _ _ hW,HN,B9,mP hg,hnn,hd▸hsd,and_self,if_true];rw[if_pos ⟨trivial,trivial,by simp,by rw[FN];exact c6,by rw[dY,bp];exact c7⟩];simp only[AX.ren,bc]
       ·cases hx
      ·cases hx
    ·cases hx
   ·cases hx
  ·cases hx
 ·cases hx
theorem Z4{st:XS}(h:Bd st){d l q:Nat}{r:AX}(hp:bN r=true)(hr:∀σ σ' δ,AR st.c σ σ'->r.ren σ δ=r.ren σ' δ):KM st ⟨st.c+1,(d,true,HH r l q st.c)::st.fr,st.s.put l q st.c r⟩:=by
 have hb:∀σ σ',AR (st.c+1) σ σ'->AR st.c σ σ':=fun σ σ' ha=>ha.mono (cq _);refine⟨cq _,⟨fun σ σ' δ ha=>?_,fun σ σ' pre ha=>?_,h.lp.put (UH hp)⟩,St.put_len _ _ _ _ _⟩
 ·show((st.fr.put d true (HH r l q st.c)).ren σ δ)=((st.fr.put d true (HH r l q st.c)).ren σ' δ);have e:∀σ:Nat->Nat,(HH r l q st.c).ren σ δ=HH (r.ren σ δ) (l+δ) q (σ st.c):=fun σ=>by cases r<;>simp[HH,AX.ren]
  simp only[HO,e];rw[h.f σ σ' δ (hb _ _ ha),ha st.c (bm _),hr σ σ' δ (hb _ _ ha)]
 ·simp only[C0];rw[h.s σ σ' pre (hb _ _ ha),hr σ σ' _ (hb _ _ ha),ha st.c (bm _)]
theorem mQ(r:AX)(l q γ:Nat):(HH r l q γ).ren σ δ=HH (r.ren σ δ) (l+δ) q (σ γ):=by cases r<;>simp[HH,AX.ren]
theorem qU{st:XS}(h:Bd st){d l q:Nat}{r:AX}(hr:∀σ σ' δ,AR st.c σ σ'->r.ren σ δ=r.ren σ' δ){σ:Nat->Nat}{pre:List AA}{k:Fr->St->Prop}
  (hk:∀σ',AR st.c σ σ'->k (Fr.ren σ' pre.length ((d,true,HH r l q st.c)::st.fr)) ((st.s.put l q st.c r).emb σ' pre)) (γ:Nat):k ((st.fr.ren σ pre.length).put d true (HH (r.ren σ pre.length) (l+pre.length) q γ)) ((st.s.emb σ pre).put (l+pre.length) q γ (r.ren σ pre.length)):=by
 have:=hk (fun i=>if i=st.c then γ else σ i) (AR.upd _ _ _)
 have hag:=AR.upd st.c γ σ
 change k ((st.fr.put d true _).ren _ _) _ at this
 simp only[HO,mQ,if_true,C0]at this
 rw[<-h.f _ _ _ hag,<-h.s _ _ _ hag,<-hr _ _ _ hag]at this
 exact this
theorem uW(r:Mk)(l k γ:Nat):(r.val l k γ).ren σ δ=Mk.val ⟨r.res.ren σ δ,r.t⟩ (l+δ) k (σ γ):=by
 obtain⟨r,t⟩:=r;cases t with
 |none=>exact mQ _ _ _ _
 |some t=>exact MZ t
theorem zC{st:XS}(h:Bd st){d l q:Nat}{r:Mk}(hp:bN r.res=true)(hr:∀σ σ' δ,AR st.c σ σ'->r.res.ren σ δ=r.res.ren σ' δ):KM st ⟨st.c+1,(d,true,r.val l q st.c)::st.fr,st.s.put l q st.c r.res⟩:=by
 have hb:∀σ σ',AR (st.c+1) σ σ'->AR st.c σ σ':=fun σ σ' ha=>ha.mono (cq _);refine⟨cq _,⟨fun σ σ' δ ha=>?_,fun σ σ' pre ha=>?_,h.lp.put (UH hp)⟩,St.put_len _ _ _ _ _⟩
 ·show((st.fr.put d true (r.val l q st.c)).ren σ δ)=((st.fr.put d true (r.val l q st.c)).ren σ' δ);simp only[HO,uW];rw[h.f σ σ' δ (hb _ _ ha),ha st.c (bm _),hr σ σ' δ (hb _ _ ha)]
 ·simp only[C0];rw[h.s σ σ' pre (hb _ _ ha),hr σ σ' _ (hb _ _ ha),ha st.c (bm _)]
theorem AIN{st:XS}(h:Bd st){d l q:Nat}{r:Mk}(hr:∀σ δ,r.res.ren σ δ=r.res){σ:Nat->Nat}{pre:List AA}{k:Fr->St->Prop}
  (hk:∀σ',AR st.c σ σ'->k (Fr.ren σ' pre.length ((d,true,r.val l q st.c)::st.fr)) ((st.s.put l q st.c r.res).emb σ' pre)) (γ:Nat):k ((st.fr.ren σ pre.length).put d true (r.val (l+pre.length) q γ)) ((st.s.emb σ pre).put (l+pre.length) q γ r.res):=by
 have:=hk (fun i=>if i=st.c then γ else σ i) (AR.upd _ _ _)
 have hag:=AR.upd st.c γ σ
 change k ((st.fr.put d true _).ren _ _) _ at this
 simp only[HO,uW,if_true,C0,hr]at this
 rw[<-h.f _ _ _ hag,<-h.s _ _ _ hag]at this
 exact this
def xAppend(P:ft)(d:Option Tmp)(args:List gk)(Ts:List gq)(st:XS):Option XS:=match xAppG elemsOf P d args Ts st with
 |some (st',_,_)=>some st'
 |none=>none
theorem qV{o:fp}{args:Array gk}{Ts:Array gq}{st st':XS}(h:Bd st)(ho:o.op=.call { callee:=.builtin .append,args:=args,argTypes:=Ts })(hx:xAppend P o.dst args.toList Ts.toList st=some st'):StepX P o st st':=by
 unfold xAppend at hx;split at hx
 ·rename_i st1 l q e1;cases hx;obtain⟨d,r,hd,hp,rfl,hr,hs,_⟩:=Z3 (fun _ _ _ h=>h) h ho e1;exact⟨Z4 h hp hr,fun σ pre k hk=>hs σ pre k fun γ=>qU h hr hk γ⟩
 ·cases hx
def uX(P:ft)(d:Option Tmp)(args:List gk)(Ts:List gq)(st:XS):Option XS:=match args,Ts with
 |[x,y],[T,_]=>match BO P T,CH st.fr x,CH st.fr y with
  |some (none,e),some (.vtl l q γ i n),some yv=>match st.s.get l q,elemsOf st.s yv with
   |some (γ',.box cs),some ys=>Bool.rec none (some { st with fr:=putD st.fr d true (.int .i64 ((min ys.length n:Nat):Int)),s:=st.s.put l q γ (.box (A4 cs i (ys.take n).flatten)) }) (bz γ' γ&&bz (P.cellsOf e) 1&&ys.all (fun y=>y.length==1)&&dn (i+n) cs.length&&cx γ st.c)
   |_,_=>none
  |_,_,_=>none
 |_,_=>none
theorem ADH{o:fp}{args:Array gk}{Ts:Array gq}{st st':XS}(h:Bd st)(ho:o.op=.call { callee:=.builtin .copy,args:=args,argTypes:=Ts })(hx:uX P o.dst args.toList Ts.toList st=some st'):StepX P o st st':=by
 unfold uX at hx;split at hx
 ·rename_i x y T U ha hT;split at hx
  ·rename_i e l q γ i n yv hel h1 h2;split at hx
   ·rename_i γ' cs ys hg hys;cases hb:(bz γ' γ&&bz (P.cellsOf e) 1&&ys.all (fun y=>y.length==1)&&dn (i+n) cs.length&&cx γ st.c)with
    |false=>rw[hb]at hx;cases hx
    |true=>
     rw[hb]at hx
     cases hx
     simp only[bx,cd,cz]at hb
     obtain⟨⟨⟨⟨c1,c2⟩,c3⟩,c4⟩,c5⟩:=hb
     have c1:=bj c1
     have c2:=bj c2
     subst c1
     have hB:Bd { st with s:=st.s.put l q γ' (.box (A4 cs i (ys.take n).flatten)) }:=h.putS c5 fun σ σ' δ ha=>by have hr:=M3 h hg σ σ' δ ha;have he:=SO h (h.rd h2) hys σ σ' δ ha;simp only[AX.ren,AX.box.injEq]at hr|-;rw[<-DI,<-DI,hr,dc,dc,ck,ck,he]
     refine⟨⟨bn _,hB.putF (fun _ _ _ _=>rfl),St.put_len _ _ _ _ _⟩,fun σ pre k hk=>?_⟩
     have:=hk σ (AR.refl _ _)
     rw[D3]at h1 h2
     unfold EI
     simp only[ho,ha,hT,hel,DF,h1,h2,bq,WJ,bg,GU hys,B9,hg,AX.ren]
     refine⟨trivial,trivial,c2,?_,by simpa using c4,?_⟩
     ·rw[fw];exact c3▸(by congr 1;funext x;simp)
     ·simp only[FM,EJ,C0,AX.ren,<-DI,dc,ck]at this;simpa only[bp]using this
   ·cases hx
  ·cases hx
 ·cases hx
end Go.Pg
namespace Go.Pg
variable {P:ft}{Ω:HI P}{σ σ':Nat->Nat}{δ:Nat}{pre:List AA}{s:St}{fr:Fr}{g:Bool}
def FJ{α β:Type}(f:α->Option β):List α->Option (List β)
 |[]=>some []
 |x::l=>match f x with
  |some y=>match FJ f l with
   |some r=>some (y::r)
   |none=>none
  |none=>none
theorem K0{α β:Type}(f:α->Option β):∀(l:List α),FJ f l=l.mapM f
 |[]=>rfl
 |x::l=>by
  simp only[FJ,List.mapM_cons,<-K0 f l];cases f x with
  |none=>rfl
  |some y=>cases FJ f l<;>rfl
abbrev CF:=gv->List V->XS->Option (V×XS)
abbrev CY:=Nat->Nat->Nat->List V->XS->Option (V×XS)
abbrev CF0:=gv->List V->Option V
abbrev CFO:=gv->List V->Tmp->Option Mk
structure XE where
 cf:CF
 cy:CY
 c0:CF0
 co:CFO
 lit:Tmp->Bool
def dZ(P:ft)(cf:CF):Prop:=∀f args st r st',cf f args st=some (r,st')->Bd st->(∀v∈args,TF st.c v)->KM st st'/\TF st'.c r/\st'.fr=st.fr /\
 ∀(σ:Nat->Nat) (pre:List AA) (K:V->St->Prop),(∀σ',AR st.c σ σ'->K (r.ren σ' pre.length) (st'.s.emb σ' pre))->E7 P f (args.map (V.ren σ pre.length)) (st.s.emb σ pre) K
def AQY(P:ft)(cy:CY):Prop:=∀l q γ vs st r st',cy l q γ vs st=some (r,st')->Bd st->(∀v∈vs,TF st.c v)->KM st st'/\TF st'.c r/\st'.fr=st.fr /\
 ∃fr0 ps asg body N,st.s.get l q=some (γ,.loop fr0 ps asg body N .ready)/\∀(σ:Nat->Nat) (pre:List AA) (k:V->St->Prop),(∀σ',AR st.c σ σ'->k (r.ren σ' pre.length) (st'.s.emb σ' pre)) ->
  Y1 P (l+pre.length) q (σ γ) (Fr.ren σ pre.length fr0) ps asg body N (vs.map (V.ren σ pre.length)) (st.s.emb σ pre) k
def HP(P:ft)(cf:CF0):Prop:=∀f args r,cf f args=some r->(∀s,E7 P f args s fun r' s'=>r'=r/\s'=s)/\(∀v∈args,∀σ δ,v.ren σ δ=v)/\(∀σ δ,r.ren σ δ=r)
def qY(P:ft)(co:CFO):Prop:=∀f args d r,co f args d=some r->(∀(s:St),E7 P f args s fun v s'=>∃γ,v=r.val s.up.length d γ/\s'=s.put s.up.length d γ r.res) /\
 (∀v∈args,∀σ δ,v.ren σ δ=v)/\(∀σ δ,r.res.ren σ δ=r.res)/\bN r.res=true
structure KC(P:ft)(E:XE):Prop where
 cf:dZ P E.cf
 cy:AQY P E.cy
 c0:HP P E.c0
 co:qY P E.co
def KC.tab{E:XE}(h:KC P E)(own:fp->Bool):HI P:=⟨own,E.co,fun f args d r hc=>(h.co f args d r hc).1⟩
def qZ(cy:CY)(d:Option Tmp)(l q γ:Nat)(args:List gk)(st:XS):Option XS:=match FJ (CH st.fr) args with
 |some vs=>match cy l q γ vs st with
  |some (r,st')=>some { st' with fr:=putD st'.fr d true r }
  |none=>none
 |none=>none
def P7(cf:CF)(cy:CY)(d:Option Tmp)(f:gk)(args:List gk)(st:XS):Option XS:=match CH st.fr f with
 |some (.fn fid first cap)=>match FJ (CH st.fr) args with
  |some vs=>match cf fid ((first++vs++cap).map weakV) st with
   |some (r,st')=>some { st' with fr:=putD st'.fr d true r }
   |none=>none
  |none=>none
 |some (.yld l q γ)=>qZ cy d l q γ args st
 |_=>none
def HQ(co:CFO)(d:Option Tmp)(f:gk)(args:List gk)(st:XS):Option XS:=match d,CH st.fr f with
 |some d,some (.fn fid first cap)=>match FJ (CH st.fr) args with
  |some vs=>match co fid ((first++vs++cap).map weakV) d with
   |some r=>some ⟨st.c+1,(d,true,r.val st.s.up.length d st.c)::st.fr,st.s.put st.s.up.length d st.c r.res⟩
   |none=>none
  |none=>none
 |_,_=>none
def xVal(P:ft)(o:fp)(st:XS):Option XS:=match zA P o st.fr st.s with
 |some v=>some { st with fr:=putD st.fr o.dst true v }
 |none=>none
def Z5(E:XE)(own:Bool)(d:Option Tmp)(f:gk)(args:List gk)(st:XS):Option XS:=Bool.rec (P7 E.cf E.cy d f args st) (match HQ E.co d f args st with
 |some st'=>some st'
 | none=>P7 E.cf E.cy d f args st) own
def A19(P:ft)(E:XE)(own:fp->Bool)(o:fp)(c:Call)(st:XS):Option XS:=match c.callee with
 |.value f=>Z5 E (own o) o.dst f c.args.toList st
 |.builtin .append=>Bool.rec (xAppend P o.dst c.args.toList c.argTypes.toList st) (xVal P o st) (sealD o.dst)
 |.builtin .clear=>gK P o.dst c.args.toList c.argTypes.toList st
 |.builtin .copy=>uX P o.dst c.args.toList c.argTypes.toList st
 |_=>xVal P o st
def P8(P:ft)(E:XE)(own:fp->Bool)(o:fp)(st:XS):Option XS:=match o.op with
 |.alloc T=>OK P o.dst T st
 |.box _ x=>mJ o.dst x st
 |.makeMap _ r=>yV o.dst r st
 |.makeSlice T x y=>VU P o.dst T x y st
 |.store T x y=>JH P o.dst T x y st
 |.mapUpdate T x i y=>yW P o.dst T x i y st
 |.call c=>A19 P E own o c st
 |_=>xVal P o st
theorem gM{o:fp}{st st':XS}(h:Bd st)(hx:xVal P o st=some st'):StepX P o st st':=by
 unfold xVal at hx;split at hx
 ·rename_i v hv;cases hx;exact yU h (PG hv)
 ·cases hx
theorem WK{st:XS}(h:Bd st):∀{args:List gk} {vs:List V},FJ (CH st.fr) args=some vs->∀v∈vs,TF st.c v
 |[],vs,e,v,hv=>by cases e;cases hv
 |x::l,vs,e,v,hv=>by
  simp only[FJ]at e;split at e
  ·rename_i y hy;split at e
   ·rename_i r hr;cases e;rcases List.mem_cons.1 hv with rfl|hv
    ·exact h.rd hy
    ·exact WK h hr v hv
   ·cases e
  ·cases e
theorem gN{c:Nat}{v:V}(h:TF c v):TF c (weakV v):=fun σ σ' δ ha=>by rw[<-UC,<-UC,h σ σ' δ ha]
theorem ADI{c:Nat}{f:gv}{xs ys:List V}(h:TF c (.fn f xs ys)):(∀v∈xs,TF c v)/\(∀v∈ys,TF c v):=by
 refine⟨fun v hv σ σ' δ ha=>?_,fun v hv σ σ' δ ha=>?_⟩
 ·have:=h σ σ' δ ha;simp only[OH,V.fn.injEq]at this;exact cm.1 this.2.1 v hv
 ·have:=h σ σ' δ ha;simp only[OH,V.fn.injEq]at this;exact cm.1 this.2.2 v hv
theorem HR(l:List V):(l.map weakV).map (V.ren σ δ)=(l.map (V.ren σ δ)).map weakV:=by simp only[fg];congr 1;funext v;exact(UC v).symm
theorem eA{E:XE}(hE:KC P E){own:fp->Bool}{o:fp}(hown:own o=true){f:gk}{args:Array gk}{Ts:Array gq}{st st':XS}(h:Bd st)(ho:o.op=.call { callee:=.value f,args:=args,argTypes:=Ts })(hx:HQ E.co o.dst f args.toList st=some st'):gJ P (hE.tab own) o st st':=by
 unfold HQ at hx;split at hx
 ·rename_i d fid first cap hd hf;split at hx
  ·rename_i vs hvs;split at hx
   ·rename_i r hc;cases hx;obtain⟨_,hcl,hr,hpl⟩:=hE.co _ _ _ _ hc;refine⟨zC h hpl (fun σ σ' δ _=>by rw[hr,hr]),d,hd,fun σ pre k hk=>⟨r,?_,fun γ=>?_⟩⟩
    ·have hcd:I4 true o (st.fr.ren σ pre.length)=some (fid,(first++vs++cap).map weakV):=by
      rw[K0,FH]at hvs;rw[D3]at hf;simp only[I4,ho,JQ,hf,bq,OH,I5 hvs,cw.injEq,fh.injEq,true_and];have e:((first++vs++cap).map weakV).map (V.ren σ pre.length)=(first++vs++cap).map weakV:=by
       conv=>rhs;rw[<-cn ((first++vs++cap).map weakV)]
       exact bf fun v hv=>hcl v hv σ _
      rw[HR]at e;simpa only[bc]using e
     simp only[PZ,ho,KC.tab,hown,if_true,hcd,hd,hc]
    ·have:=AIN h (d:=d) hr hk γ;rw[<-DL]at this;exact this
   ·cases hx
  ·cases hx
 ·cases hx
theorem mR{cf:CF}{cy:CY}(hcf:dZ P cf)(hcy:AQY P cy){o:fp}{f:gk}{args:Array gk}{Ts:Array gq}{st st':XS}(h:Bd st)(ho:o.op=.call { callee:=.value f,args:=args,argTypes:=Ts })(hx:P7 cf cy o.dst f args.toList st=some st'):StepX P o st st':=by
 unfold P7 at hx;split at hx
 ·rename_i fid first cap hf;split at hx
  ·rename_i vs hvs;split at hx
   ·rename_i r st1 hr;cases hx;have b1:=ADI (h.rd hf);have b2:=WK h hvs;obtain⟨hE,hrb,hfr,hA⟩:=hcf _ _ _ _ _ hr h (fun v hv=>by
     obtain⟨u,hu,rfl⟩:=dk.1 hv;refine gN ?_;rcases dr.1 hu with hu|hu
     ·rcases dr.1 hu with hu|hu
      ·exact b1.1 u hu
      ·exact b2 u hu
     ·exact b1.2 u hu)
    refine⟨⟨hE.c,hE.bd.putF hrb,hE.n⟩,fun σ pre k hk=>?_⟩;rw[K0,FH]at hvs;rw[D3]at hf;unfold EI;simp only[ho,JQ,hf,bq,OH,I5 hvs];refine .inl ⟨rfl,?_⟩;have:=hA σ pre (fun r s'=>k (putD (st.fr.ren σ pre.length) o.dst true r) s') fun σ' ha=>?_
    ·rw[HR]at this;simpa only[bc]using this
    ·have h1:=hk σ' ha;rw[FM,hfr,<-h.f σ σ' _ ha]at h1;exact h1
   ·cases hx
  ·cases hx
 ·rename_i l q γ hf;unfold qZ at hx;split at hx
  ·rename_i vs hvs;split at hx
   ·rename_i r st1 hr;cases hx;obtain⟨hE,hrb,hfr,fr0,ps,asg,body,N,hget,hA⟩:=hcy _ _ _ _ _ _ _ hr h (WK h hvs);refine⟨⟨hE.c,hE.bd.putF hrb,hE.n⟩,fun σ pre k hk=>?_⟩;rw[K0,FH]at hvs;rw[D3]at hf;unfold EI;simp only[ho,JQ,hf,bq,gF,I5 hvs,B9,hget,AX.ren];refine⟨trivial,trivial,?_⟩;refine hA σ pre (fun r s'=>k (putD (st.fr.ren σ pre.length) o.dst true r) s') fun σ' ha=>?_;have h1:=hk σ' ha;rw[FM,hfr,<-h.f σ σ' _ ha]at h1;exact h1
   ·cases hx
  ·cases hx
 ·cases hx
theorem mS{E:XE}(hE:KC P E){own:fp->Bool}{o:fp}{st st':XS}(h:Bd st)(hx:P8 P E own o st=some st'):StepX P o st st':=by
 unfold P8 at hx;split at hx
 ·rename_i T ho;exact(dW (Ω:=HI.nothing P) h ho hx).step
 ·rename_i T x ho;exact(uT (Ω:=HI.nothing P) h ho hx).step
 ·rename_i T r ho;exact(uU (Ω:=HI.nothing P) h ho hx).step
 ·rename_i T x y ho;exact(mK (Ω:=HI.nothing P) h ho hx).step
 ·rename_i T x y ho;exact dX h ho hx
 ·rename_i T x i y ho;exact AIM h ho hx
 ·rename_i c ho;obtain⟨callee,args,Ts⟩:=c;unfold A19 at hx;split at hx
  ·rename_i f hc;have hc:callee=.value f:=hc;subst hc;unfold Z5 at hx;cases hown:own o with
   |false=>rw[hown]at hx;exact mR hE.cf hE.cy h ho hx
   |true=>
    rw[hown]at hx
    have hx:(match HQ E.co o.dst f args.toList st with
     |some st'=>some st'
     | none=>P7 E.cf E.cy o.dst f args.toList st)=some st':=hx
    split at hx
    ·rename_i st1 h1;cases hx;exact(eA hE hown h ho h1).step
    ·exact mR hE.cf hE.cy h ho hx
  ·rename_i hc;have hc:callee=.builtin .append:=hc;subst hc;cases hsd:sealD o.dst with
   |false=>rw[hsd]at hx;exact qV h ho hx
   |true=>rw[hsd]at hx;exact gM h hx
  ·rename_i hc;have hc:callee=.builtin .clear:=hc;subst hc;exact yX h ho hx
  ·rename_i hc;have hc:callee=.builtin .copy:=hc;subst hc;exact ADH h ho hx
  ·exact gM h hx
 ·exact gM h hx
def gdX(fr:Fr)(gd:Option (Tmp×Bool)):Option Bool:=match gd with
 |none=>some true
 |some (d,want)=>match BQ fr d with
  |some (c,.bool b)=>some (c&&(b==want))
  |_=>none
theorem rA(gd:Option (Tmp×Bool)):gdX fr gd=PY fr gd:=by
 cases gd with
 |none=>rfl
 |some p=>simp only[gdX,PY,FG];rfl
theorem M5{gd:Option (Tmp×Bool)}(h:PY fr gd=some g):PY (fr.ren σ δ) gd=some g:=by
 cases gd with
 |none=>exact h
 |some p=>
  simp only[PY]at h|-
  split at h
  ·rename_i c b e;simp only[Fr.get_ren,e,bq,LY];exact h
  ·cases h
def H0(d:Option Tmp)(st:XS):XS:={ st with fr:=putD st.fr d false (.bool false) }
def ADJ(P:ft)(lit:Tmp->Bool)(o:fp)(st:XS):Option XS:=match o.op,o.dst with
 | .buildSlice T _ _,some d=>Bool.rec none (match BO P T,zA P o st.fr st.s with
  |some (none,e),some (.list true (x::es))=>Bool.rec none (some ⟨st.c+1,(d,true,HH (.vec e (x::es)) st.s.up.length d st.c)::st.fr,st.s.put st.s.up.length d st.c (.vec e (x::es))⟩) (dn (x::es).length maxLen)
  | _,_=>none) (lit d)
 |_,_=>none
theorem AIP{lit:Tmp->Bool}{o:fp}{st st':XS}(h:Bd st)(hx:ADJ P lit o st=some st'):KM st st' /\
  ∀(σ:Nat->Nat) (pre:List AA) (k:Fr->St->Prop),(∀σ',AR st.c σ σ'->k (st'.fr.ren σ' pre.length) (st'.s.emb σ' pre))->A11 P true o (st.fr.ren σ pre.length) (st.s.emb σ pre) k:=by
 unfold ADJ at hx
 split at hx
 ·rename_i T len parts d ho hd;obtain⟨_,hx⟩:=EK hx;split at hx
  ·rename_i e x es hel hv;obtain⟨hc,he⟩:=JV hx;cases he;have hv:=PG hv;have hb:=SO h (h.val hv) (ys:=x::es) rfl;refine⟨Z4 h rfl fun σ σ' δ ha=>by simp only[AX.ren,hb σ σ' δ ha],fun σ pre k hk=>?_⟩;have hv':=I6 (σ:=σ) (pre:=pre) hv;unfold FL at hv';simp only[ho]at hv';obtain⟨ps,h1,h2⟩:=bk.1 hv';rw[EB]at h2;refine⟨T,len,parts,d,e,_,ps,ho,rfl,hd,hel,h1,h2,by simp,by simpa [cz]using hc,fun γ=>?_⟩;have:=qU h (d:=d) (r:=.vec e (x::es)) (fun σ σ' δ ha=>by simp only[AX.ren,hb σ σ' δ ha]) hk γ;rw[DL];simpa only[HH,AX.ren]using this
  ·cases hx
 ·cases hx
def AIQ(all:List fp)(t:Tmp):Bool:=all.any fun p=>match p.op,p.dst with
 |.call { callee:=.builtin .append,.. },some d=>bz d t
 |_,_=>false
def M6(all:List fp)(st:XS):List gk->Option XS
 |[]=>none
 |x::r=>match x with
  | .tmp t=>Bool.rec (M6 all st r) (match BQ st.fr t with
   |some (true,.vec l q γ n)=>match st.s.get l q with
    |some (γ',.vec _ es)=>Bool.rec none (some ⟨st.c,(t,true,.list false (es.take n))::st.fr,st.s.put l q γ .dead⟩) (bz γ' γ&&dn n es.length&&cx γ st.c)
    |_=>none
   | _=>none) (AIQ all t)
  |_=>M6 all st r
def ADK(all:List fp)(o:fp)(st:XS):Option XS:=match o.op with
 |.call c=>match c.callee with
  |.value _=>M6 all st c.args.toList
  |_=>none
 |_=>none
theorem UJ{all:List fp}{st st1:XS}(h:Bd st):∀{xs:List gk},M6 all st xs=some st1->KM st st1 /\
  ∀(o:fp) (σ:Nat->Nat) (pre:List AA) (k:Fr->St->Prop),EI P true o (st1.fr.ren σ pre.length) (st1.s.emb σ pre) k->AMR P true o (st.fr.ren σ pre.length) (st.s.emb σ pre) k
 |[],hx=>by cases hx
 |x::r,hx=>by
  unfold M6 at hx;split at hx
  ·rename_i t;cases hA:AIQ all t with
   |false=>rw[hA]at hx;exact UJ h hx
   |true=>
    rw[hA]at hx
    have hx:(match BQ st.fr t with
     |some (true,.vec l q γ n)=>match st.s.get l q with
      |some (γ',.vec _ es)=>Bool.rec none (some ⟨st.c,(t,true,.list false (es.take n))::st.fr,st.s.put l q γ .dead⟩) (bz γ' γ&&dn n es.length&&cx γ st.c)
      |_=>none
     | _=>none)=some st1:=hx
    split at hx
    ·rename_i l q γ n hg;split at hx
     ·rename_i γ' T es hs;obtain⟨hc,he⟩:=JV hx;simp only[bx]at hc;obtain⟨⟨h1,h2⟩,h3⟩:=hc;have h1:=bj h1;have h2:n<=es.length:=by simpa [cz]using h2
      have h3:γ<st.c:=by simpa [cd]using h3
      subst h1;cases he;rw[FG]at hg;have hb:∀σ σ' δ,AR st.c σ σ'->es.map (cj (V.ren σ δ))=es.map (cj (V.ren σ' δ)):=fun σ σ' δ ha=>by have:=M3 h hs σ σ' δ ha;simpa [AX.ren]using this
      have hv:TF st.c (.list false (es.take n)):=fun σ σ' δ ha=>by simp only[EB,ck,hb σ σ' δ ha]
      have hbd:Bd ⟨st.c,(t,true,.list false (es.take n))::st.fr,st.s.put l q γ' .dead⟩:=(h.putS (l:=l) (k:=q) (r:=.dead) h3 (fun _ _ _ _=>rfl)).putF (d:=some t) (c:=true) hv;refine⟨⟨bn _,hbd,St.put_len _ _ _ _ _⟩,fun o σ pre k hk=>⟨t,l+pre.length,q,σ γ',n,T,es.map (cj (V.ren σ pre.length)),rfl,?_,?_,by simpa using h2,?_⟩⟩
      ·rw[Fr.get_ren,hg];simp
      ·rw[B9,hs];simp[AX.ren]
      ·change EI P true o ((st.fr.put t true _).ren _ _) _ k at hk;simp only[HO,EB,C0,AX.ren,ck]at hk;exact hk
     ·cases hx
    ·cases hx
  ·exact UJ h hx
def opX(P:ft)(E:XE)(all:List fp)(o:fp)(st:XS):Option XS:=match gdX st.fr (K6 all o)with
 |some true=>match ADJ P E.lit o st with
  |some st'=>some st'
  |none=>match ADK all o st with
   |some st1=>P8 P E (DR all) o st1
   |none=>P8 P E (DR all) o st
 |some false=>some (H0 o.dst st)
 |none=>none
theorem eB{d:Option Tmp}{st:XS}(h:Bd st):KM st (H0 d st):=⟨bn _,h.putF (fun σ σ' δ _=>by simp),rfl⟩
theorem ADL{E:XE}(hE:KC P E){all:List fp}{o:fp}{st st':XS}(h:Bd st)(hx:opX P E all o st=some st'):KM st st'/\∃g,(∀σ δ,PY (st.fr.ren σ δ) (K6 all o)=some g) /\
  ∀(σ:Nat->Nat) (pre:List AA) (k:Fr->St->Prop),(∀σ',AR st.c σ σ'->k (st'.fr.ren σ' pre.length) (st'.s.emb σ' pre))->R6 P g o (st.fr.ren σ pre.length) (st.s.emb σ pre) k:=by
 unfold opX at hx
 rw[rA]at hx
 split at hx
 ·rename_i hg;split at hx
  ·rename_i st1 hl;cases hx;obtain⟨h1,h2⟩:=AIP h hl;exact⟨h1,true,fun σ δ=>M5 hg,fun σ pre k hk=>.inr (.inr (.inl (h2 σ pre k hk)))⟩
  ·split at hx
   ·rename_i st1 ht;have ht':∃xs,M6 all st xs=some st1:=by
     unfold ADK at ht;split at ht
     ·split at ht
      ·exact⟨_,ht⟩
      ·cases ht
     ·cases ht
    obtain⟨xs,ht'⟩:=ht';obtain⟨hE1,hs1⟩:=UJ (P:=P) h ht';obtain⟨h1,h2⟩:=mS hE hE1.bd hx;exact⟨⟨dg hE1.c h1.c,h1.bd,h1.n.trans hE1.n⟩,true,fun σ δ=>M5 hg,fun σ pre k hk=>.inr (.inr (.inr (hs1 o σ pre k (h2 σ pre k fun σ' ha=>hk σ' (ha.mono hE1.c)))))⟩
   ·obtain⟨h1,h2⟩:=mS hE h hx;exact⟨h1,true,fun σ δ=>M5 hg,fun σ pre k hk=>.inl (h2 σ pre k hk)⟩
 ·rename_i hg;cases hx;refine⟨eB h,false,fun σ δ=>M5 hg,fun σ pre k hk=>.inr (.inl ⟨rfl,.bool false,?_⟩)⟩;have:=hk σ (AR.refl _ _);simpa only[H0,FM,LY]using this
 ·cases hx
def gO(P:ft)(E:XE)(all:List fp):List fp->XS->Option XS
 |[],st=>some st
 |o::r,st=>match opX P E all o st with
  |some st'=>gO P E all r st'
  |none=>none
theorem gP{E:XE}(hEE:KC P E){all:List fp}:∀{l:List fp} {st st':XS},Bd st->gO P E all l st=some st'->KM st st' /\
  ∀(σ:Nat->Nat) (pre:List AA) (K:Fr->St->Prop),(∀σ',AR st.c σ σ'->K (st'.fr.ren σ' pre.length) (st'.s.emb σ' pre))->VK P (l.map (K6 all)) l (st.fr.ren σ pre.length) (st.s.emb σ pre) K
 |[],st,st',h,hx=>by cases hx;exact⟨⟨bn _,h,rfl⟩,fun σ pre K hk=>hk σ (AR.refl _ _)⟩
 |o::l,st,st',h,hx=>by
  simp only[gO]at hx;split at hx
  ·rename_i st1 h1;obtain⟨hE,g,hg,hs⟩:=ADL hEE h h1;obtain⟨hE',hs'⟩:=gP hEE hE.bd hx;refine⟨⟨dg hE.c hE'.c,hE'.bd,hE'.n.trans hE.n⟩,fun σ pre K hk=>?_⟩;simp only[dv,VK,hg];exact hs σ pre _ fun σ' ha=>hs' σ' pre K fun σ'' ha'=>hk σ'' (ha.trans ha' hE.c)
  ·cases hx
def Z6(cf:CF0)(d:Option Tmp)(f:gk)(args:List gk)(st:XS):Option XS:=match CH st.fr f with
 |some (.fn fid first cap)=>match FJ (CH st.fr) args with
  |some vs=>match cf fid ((first++vs++cap).map weakV)with
   |some r=>some { st with fr:=putD st.fr d true r }
   |none=>none
  |none=>none
 |_=>none
def noW(r:Option XS):Option (XS×AK):=match r with
 |some st=>some (st,[])
 |none=>none
def xAppD(P:ft)(d:Option Tmp)(args:List gk)(Ts:List gq)(st:XS):Option (XS×AK):=match xAppG elemsOf P d args Ts st with
 |some (st',l,q)=>some (st',[(l,q),(l,q+IL)])
 |none=>none
def AM0(P:ft)(E:XE)(own:fp->Bool)(o:fp)(c:Call)(st:XS):Option (XS×AK):=match c.callee with
 |.value f=>Bool.rec (noW (Z6 E.c0 o.dst f c.args.toList st)) (noW (HQ E.co o.dst f c.args.toList st)) (own o)
 |.builtin .append=>Bool.rec (xAppD P o.dst c.args.toList c.argTypes.toList st) (noW (xVal P o st)) (sealD o.dst)
 |_=>noW (xVal P o st)
def ADM(P:ft)(d:Option Tmp)(T:gq)(x y:gk)(st:XS):Option (XS×AK):=match JH P d T x y st with
 |some st'=>some (st',CL (bz (P.cellsOf T) 1) (CH st.fr x))
 |none=>none
def gQ(P:ft)(E:XE)(own:fp->Bool)(o:fp)(st:XS):Option (XS×AK):=match o.op with
 |.alloc T=>noW (OK P o.dst T st)
 |.box _ x=>noW (mJ o.dst x st)
 |.makeMap _ r=>noW (yV o.dst r st)
 |.makeSlice T x y=>noW (VU P o.dst T x y st)
 |.store T x y=>ADM P o.dst T x y st
 |.call c=>AM0 P E own o c st
 |_=>noW (xVal P o st)
def rC(P:ft)(E:XE)(all:List fp)(o:fp)(st:XS):Option (XS×AK):=match gdX st.fr (K6 all o)with
 |some true=>gQ P E (DR all) o st
 |some false=>Bool.rec (some (H0 o.dst st,[])) none (kA (DR all) o||kW o||kP o)
 |none=>none
theorem GB{r:Option XS}{st':XS}{wr:AK}(h:noW r=some (st',wr)):r=some st'/\wr=[]:=by
 unfold noW at h;split at h
 ·cases h;exact⟨rfl,rfl⟩
 ·cases h
def AQZ(P:ft)(Ω:HI P)(all:List fp)(o:fp)(st st':XS)(wr:AK):Prop:=KM st st' /\
  ∀(W:AK) (σ:Nat->Nat) (pre:List AA) (k:Fr->St->Prop),(∀p∈EF P o (CH st.fr),p∉W)->(∀p∈wr,p∈W)->(∀σ',AR st.c σ σ'->k (st'.fr.ren σ' pre.length) (st'.s.emb σ' pre))->IQ P Ω (bO pre.length W) o (K6 all o) (st.fr.ren σ pre.length) (st.s.emb σ pre) k
theorem AIR{E:XE}(hE:KC P E){all:List fp}{o:fp}{st st':XS}{wr:AK}(h:Bd st)(hx:rC P E all o st=some (st',wr)):AQZ P (hE.tab (DR all)) all o st st' wr:=by
 have val:∀{st'},(∀σ δ,PY (st.fr.ren σ δ) (K6 all o)=some true)->xVal P o st=some st'->AQZ P (hE.tab (DR all)) all o st st' wr:=by
  intro st' hg hx;unfold xVal at hx;split at hx
  ·rename_i v hv;cases hx;have hv:=PG hv;refine⟨⟨bn _,h.putF (h.val hv),rfl⟩,fun W σ pre k hr _ hk=>.inl ⟨true,v.ren σ pre.length,⟨hg _ _,?_⟩,?_⟩⟩
   ·have hrd:∀p∈EF P o (DW true (st.fr.ren σ pre.length)),p∉bO pre.length W:=by rw[JQ,qO,<-FH];exact mM hr
    cases hi:mL P o (DW true (st.fr.ren σ pre.length))with
    |true=>exact .inr (.inr (.inl (AQV (I6 hv) hi hrd)))
    |false=>exact .inl ⟨_,Z2 _,yY (I6 hv) hi hrd⟩
   ·have:=hk σ (AR.refl _ _);rwa [FM]at this
  ·cases hx
 have new:∀{st'},(∀σ δ,PY (st.fr.ren σ δ) (K6 all o)=some true)->gJ P (hE.tab (DR all)) o st st'->AQZ P (hE.tab (DR all)) all o st st' wr:=by intro st' hg hn;obtain⟨h1,d,hd,h2⟩:=hn;refine⟨h1,fun W σ pre k _ _ hk=>?_⟩;obtain⟨r,hr,h3⟩:=h2 σ pre k hk;exact .inr (.inl ⟨r,d,⟨hg _ _,hd,hr⟩,h3⟩)
 unfold rC at hx;rw[rA]at hx;split at hx
 ·rename_i hg;have hg':∀σ δ,PY (st.fr.ren σ δ) (K6 all o)=some true:=fun σ δ=>M5 hg;unfold gQ at hx;split at hx
  ·rename_i T ho;exact new hg' (dW h ho (GB hx).1)
  ·rename_i T x ho;exact new hg' (uT h ho (GB hx).1)
  ·rename_i T r ho;exact new hg' (uU h ho (GB hx).1)
  ·rename_i T x y ho;exact new hg' (mK h ho (GB hx).1)
  ·rename_i T x y ho;unfold ADM at hx;split at hx
   ·rename_i st1 hx1;cases hx;obtain⟨hE1,_⟩:=dX h ho hx1;obtain⟨l,q,γ,r,hD,rfl⟩:=ADC ho hx1;refine⟨hE1,fun W σ pre k _ hw hk=>.inr (.inr (.inl ⟨_,_,_,_,⟨hg' _ _,?_,qJ hD⟩,?_⟩))⟩
    ·have hp:=ZI hD;unfold pR at hp;simp only[ho]at hp;have main:∀off,(DW true st.fr x=some (.ptr l q γ off)\/∃i,DW true st.fr x=some (.eptr l q γ i off))->WOK P (bO pre.length W) o (st.fr.ren σ pre.length) (l+pre.length) q:=by
      intro off hx;have hC:JG P o (st.fr.ren σ pre.length)=some (off,P.cellsOf T):=by unfold JG;rcases hx with hx|⟨i,hx⟩<;>simp only[ho,DF,hx,bq,HM,OG]
      cases hb:bz (P.cellsOf T) 1 with
      |true=>
       have h1:=bj hb
       have hpl:CL (bz (P.cellsOf T) 1) (CH st.fr x)=[(l,q),(l,FD q off)]:=by rw[D3,hb];rcases hx with hx|⟨i,hx⟩<;>rw[hx]<;>rfl
       rw[hpl]at hw
       refine⟨M4.2 (hw _ (by simp)),.inr fun off' n' e c h2 h3=>?_⟩
       rw[hC]at e
       cases e
       obtain rfl:c=off:=by omega
       exact M4.2 (hw _ (by simp))
      |false=>
       have hpl:CL (bz (P.cellsOf T) 1) (CH st.fr x)=[(l,q),(l,q+F3)]:=by rw[D3,hb];rcases hx with hx|⟨i,hx⟩<;>rw[hx]<;>rfl
       rw[hpl]at hw
       exact⟨M4.2 (hw _ (by simp)),.inl (M4.2 (hw _ (by simp)))⟩
     split at hp
     ·rename_i l1 q1 γ1 off e;cases hp;exact main off (.inl e)
     ·rename_i l1 q1 γ1 i off e;cases hp;exact main off (.inr ⟨i,e⟩)
     ·cases hp
    ·have:=hk σ (AR.refl _ _);simp only[C0]at this;exact this
   ·cases hx
  ·rename_i c ho;obtain⟨callee,args,Ts⟩:=c;unfold AM0 at hx;split at hx
   ·rename_i f hc;have hc:callee=.value f:=hc;subst hc;cases hown:DR all o with
    |true=>
     rw[hown]at hx
     exact new hg' (eA hE hown h ho (GB hx).1)
    |false=>
     rw[hown]at hx
     have hx:=(GB hx).1
     unfold Z6 at hx
     split at hx
     ·rename_i fid first cap hf;split at hx
      ·rename_i vs hvs;split at hx
       ·rename_i r hr;cases hx;obtain⟨hA,hcl,hrc⟩:=hE.c0 _ _ _ hr;refine⟨⟨bn _,h.putF (fun σ σ' δ _=>by rw[hrc,hrc]),rfl⟩,fun W σ pre k _ _ hk=>.inl ⟨true,r,⟨hg' _ _,.inr (.inl ⟨fid,(first++vs++cap).map weakV,?_,hown,fun _ s=>hA s⟩)⟩,?_⟩⟩
        ·rw[K0,FH]at hvs;rw[D3]at hf;simp only[I4,ho,JQ,hf,bq,OH,I5 hvs,cw.injEq,fh.injEq,true_and];have e:((first++vs++cap).map weakV).map (V.ren σ pre.length)=(first++vs++cap).map weakV:=by
          conv=>rhs;rw[<-cn ((first++vs++cap).map weakV)]
          exact bf fun v hv=>hcl v hv σ _
         rw[HR]at e;simpa only[bc]using e
        ·have:=hk σ (AR.refl _ _);rwa [FM,hrc]at this
       ·cases hx
      ·cases hx
     ·cases hx
   ·rename_i hc;have hc:callee=.builtin .append:=hc;subst hc;cases hsd:sealD o.dst with
    |true=>
     rw[hsd]at hx
     exact val hg' (GB hx).1
    |false=>
    rw[hsd]at hx;replace hx:xAppD P o.dst args.toList Ts.toList st=some (st',wr):=hx;unfold xAppD at hx;split at hx
    ·rename_i st1 l q e1;cases hx;obtain⟨d,r,hd,hp,rfl,hr,_,hs⟩:=Z3 (fun _ _ _ h=>h) h ho e1;have hra:EF P o (CH st.fr)=ID (CH st.fr) args.toList:=by simp only[EF,ho]
     refine⟨Z4 h hp hr,fun W σ pre k hrd hw hk=>.inr (.inr (.inr ⟨l+pre.length,q,r.ren σ pre.length,d,⟨hg' _ _,⟨M4.2 (hw _ (by simp)),M4.2 (hw _ (by simp))⟩,hd,_,Z2 _,hs W σ pre hsd (by rw[<-hra];exact hrd)⟩,fun γ=>qU h hr hk γ⟩))⟩
    ·cases hx
   ·exact val hg' (GB hx).1
  ·exact val hg' (GB hx).1
 ·rename_i hg;cases hk:(kA (DR all) o||kW o||kP o)with
  |true=>rw[hk]at hx;cases hx
  |false=>
   rw[hk]at hx
   cases hx
   rw[dt,dt]at hk
   refine⟨eB h,fun W σ pre k _ _ hk'=>.inl ⟨false,.bool false,⟨M5 hg,.inr (.inr (.inr ⟨rfl,hk.1.1,hk.1.2,hk.2⟩))⟩,?_⟩⟩
   have:=hk' σ (AR.refl _ _)
   simpa only[H0,FM,LY]using this
 ·cases hx
def phX(P:ft)(E:XE)(l:List fp):List Nat->XS->AK->AK->Option (XS×AK×AK)
 |[],st,rd,wr=>some (st,rd,wr)
 |i::r,st,rd,wr=>match l[i]? with
  |some o=>match rC P E l o st with
   |some (st',w)=>phX P E l r st' (cond (zB l o) [] (EF P o (CH st.fr))++rd) (w++wr)
   |none=>none
  |none=>none
def sqX(P:ft)(E:XE)(l:List fp):List Nat->XS->Option XS
 |[],st=>some st
 |i::r,st=>match l[i]? with
  |some o=>match opX P E l o st with
   |some st'=>sqX P E l r st'
   |none=>none
  |none=>none
def zD(P:ft)(E:XE)(l:List fp):V6->XS->Option XS
 |[],st=>some st
 | p :: S,st=>Bool.rec none (match phX P E l p.1 st [] []with
  | some (st1,rd,wr)=>Bool.rec none (match sqX P E l p.2 st1 with
   |some G6=>zD P E l S G6
   | none=>none) (wr.all fun p=>!(rd.contains p))
  | none=>none) (ZV (DR l) l p.1 st.s.loc)
theorem WL{l:List fp}{i:Nat}{o:fp}(h:l[i]? = some o):bM (l.map (K6 l)) i=K6 l o:=by simp[bM,h]
theorem AIS{E:XE}{all:List fp}{o:fp}{st st':XS}{wr:AK}(ho:∃T x,o.op=.load T x)(hx:rC P E all o st=some (st',wr)):wr=[]:=by
 obtain⟨T,x,ho⟩:=ho;unfold rC at hx;split at hx
 ·unfold gQ at hx;rw[ho]at hx;exact(GB hx).2
 ·cases hk:(kA (DR all) o||kW o||kP o)with
  |true=>rw[hk]at hx;cases hx
  |false=>rw[hk]at hx;exact(fh.inj (cw.inj hx)).2.symm
 ·cases hx
theorem ADN{E:XE}(hEE:KC P E){l:List fp}:∀{R:List Nat} {st st':XS} {rd wr rd' wr':AK},Bd st->phX P E l R st rd wr=some (st',rd',wr')->KM st st'/\(∀p∈rd,p∈rd')/\(∀p∈wr,p∈wr') /\
  ∀(W:AK) (σ:Nat->Nat) (pre:List AA) (K:Fr->St->Prop),(∀p∈rd',p∉W)->(∀p∈wr',p∈W)->(∀σ',AR st.c σ σ'->K (st'.fr.ren σ' pre.length) (st'.s.emb σ' pre))->P6 P (hEE.tab (DR l)) (bO pre.length W) l (l.map (K6 l)) R (st.fr.ren σ pre.length) (st.s.emb σ pre) K
 |[],st,st',rd,wr,rd',wr',h,hx=>by cases hx;exact⟨⟨bn _,h,rfl⟩,fun _ h=>h,fun _ h=>h,fun W σ pre K _ _ hk=>hk σ (AR.refl _ _)⟩
 |i::r,st,st',rd,wr,rd',wr',h,hx=>by
  simp only[phX]at hx;split at hx
  ·rename_i o ho;split at hx
   ·rename_i st1 w1 h1;obtain⟨hE,hs⟩:=AIR hEE h h1;obtain⟨hE',hr,hw,hs'⟩:=ADN hEE hE.bd hx;refine⟨⟨dg hE.c hE'.c,hE'.bd,hE'.n.trans hE.n⟩,fun p hp=>hr p (dh _ hp),fun p hp=>hw p (dh _ hp),fun W σ pre K hrd hwr hk=>?_⟩;simp only[P6,NG,ho,WL ho];cases hz:zB l o with
    |true=>
     have hw0:w1=[]:=AIS (AMU hz) h1
     subst hw0
     unfold wz
     rw[hz]
     exact hs [] σ pre _ (fun p _=>by simp) (fun p hp=>hp) fun σ' ha=>hs' W σ' pre K hrd hwr fun σ'' ha'=>hk σ'' (ha.trans ha' hE.c)
    |false=>
    rw[hz]at hr;unfold wz;rw[hz];exact hs W σ pre _ (fun p hp=>hrd p (hr p (fj _ hp))) (fun p hp=>hwr p (hw p (fj _ hp))) fun σ' ha=>hs' W σ' pre K hrd hwr fun σ'' ha'=>hk σ'' (ha.trans ha' hE.c)
   ·cases hx
  ·cases hx
theorem ADO{E:XE}(hEE:KC P E){l:List fp}:∀{R:List Nat} {st st':XS},Bd st->sqX P E l R st=some st'->KM st st' /\
  ∀(σ:Nat->Nat) (pre:List AA) (K:Fr->St->Prop),(∀σ',AR st.c σ σ'->K (st'.fr.ren σ' pre.length) (st'.s.emb σ' pre))->yL P l (l.map (K6 l)) R (st.fr.ren σ pre.length) (st.s.emb σ pre) K
 |[],st,st',h,hx=>by cases hx;exact⟨⟨bn _,h,rfl⟩,fun σ pre K hk=>hk σ (AR.refl _ _)⟩
 |i::r,st,st',h,hx=>by
  simp only[sqX]at hx;split at hx
  ·rename_i o ho;split at hx
   ·rename_i st1 h1;obtain⟨hE,g,hg,hs⟩:=ADL hEE h h1;obtain⟨hE',hs'⟩:=ADO hEE hE.bd hx;refine⟨⟨dg hE.c hE'.c,hE'.bd,hE'.n.trans hE.n⟩,fun σ pre K hk=>?_⟩;simp only[yL,ho,WL ho,hg];exact hs σ pre _ fun σ' ha=>hs' σ' pre K fun σ'' ha'=>hk σ'' (ha.trans ha' hE.c)
   ·cases hx
  ·cases hx
end Go.Pg
namespace Go.Pg
variable {P:ft}{σ σ':Nat->Nat}{δ:Nat}{pre:List AA}{s:St}{fr:Fr}{g:Bool}
def AG:Nat->V->Bool
 |0,_=>false
 |f+1,v=>match v with
  |.int ..|.bool _|.raw _|.nil|.any=>true
  |.agg cs|.tup cs|.ref cs=>cs.all (AG f)
  |.list _ es=>es.all fun e=>e.all (AG f)
  |.fn _ a b=>a.all (AG f)&&b.all (AG f)
  |_=>false
theorem M7{f:Nat}(ih:∀v,AG f v=true->v.ren σ δ=v){cs:List V}(h:cs.all (AG f)=true):cs.map (V.ren σ δ)=cs:=by
 conv=>rhs;rw[<-cn cs]
 exact bf fun v hv=>ih v (bh.1 h v hv)
theorem EO:∀(f:Nat) (v:V),AG f v=true->v.ren σ δ=v
 |0,_,h=>by cases h
 |f+1,v,h=>by
  have ih:=fun v=>EO f v;cases v with
  |agg cs=>rw[HL,M7 ih (by simpa [AG]using h)]
  |tup cs=>rw[KW,M7 ih (by simpa [AG]using h)]
  |ref cs=>rw[MY,M7 ih (by simpa [AG]using h)]
  |list b es=>
   have h':(es.all fun e=>e.all (AG f))=true:=by simpa [AG]using h
   rw[EB]
   congr 1
   conv=>rhs;rw[<-cn es]
   exact bf fun e he=>M7 ih (bh.1 h' e he)
  |fn g a b=>
   have h':a.all (AG f)=true/\b.all (AG f)=true:=by simpa [AG]using h
   rw[OH,M7 ih h'.1,M7 ih h'.2]
  |int k n=>simp
  |bool b=>simp
  |raw v=>simp
  |nil=>simp
  |any=>simp
  |_=>simp[AG]at h
def P9(ks:List Nat)(fr:Fr):Fr:=List.rec (motive:=fun _=>Fr) [] (fun k _ ih=>match BQ fr k with
 |some (c,v)=>(k,c,v)::ih
 | none=>ih) ks
theorem Z7(fr:Fr):∀(ks:List Nat),P9 ks fr=OA ks fr
 |[]=>rfl
 |k::r=>by have:=Z7 fr r;show(match BQ fr k with|some (c,v)=>(k,c,v)::P9 r fr|none=>P9 r fr)=OA (k::r) fr;rw[this,FG];rfl
theorem UK:∀(ks:List Nat),OA ks (fr.ren σ δ)=(OA ks fr).ren σ δ
 |[]=>rfl
 |k::r=>by
  simp only[OA,Fr.get_ren,UK r];cases fr.get k with
  |none=>rfl
  |some p=>rfl
theorem UL{L:AA}:∀(ks:List Nat),I3 ks (L.ren σ δ)=(I3 ks L).ren σ δ
 |[]=>rfl
 |k::r=>by
  simp only[I3,AA.get_ren,UL r];cases L.get k with
  |none=>rfl
  |some p=>rfl
def SP:List Nat->List Nat->List Nat
 |acc,[]=>acc
 |acc,k::r=>SP (cond (acc.any (bz k)) acc (k::acc)) r
def QX(ks ls:List Nat)(st:XS):XS:=⟨st.c,P9 ks st.fr,⟨st.s.up,I3 ls st.s.loc⟩⟩
theorem ADP{ks ls:List Nat}{st:XS}{l k:Nat}{x:Nat×AX}(h:(QX ks ls st).s.get l k=some x):st.s.get l k=some x:=by
 unfold St.get QX at h;unfold St.get;simp only at h;split at h
 ·rename_i e;rw[if_pos e];exact PA h
 ·rename_i e;rw[if_neg e];exact h
theorem SQ{ks ls:List Nat}{st:XS}(h:Bd st):KM st (QX ks ls st):=by
 refine⟨bn _,⟨fun σ σ' δ ha=>?_,fun σ σ' pre ha=>?_,fun l k γ fr ps asg body N ls hg=>h.lp l k γ fr ps asg body N ls (ADP hg)⟩,rfl⟩
 ·simp only[QX,Z7,<-UK];rw[h.f σ σ' δ ha]
 ·have:=h.s σ σ' pre ha;simp only[St.emb,St.mk.injEq]at this;simp only[QX,St.emb,St.mk.injEq,<-UL];exact⟨this.1,by rw[this.2]⟩
theorem UM{n N:Nat}{ρ:Option Nat}{c:gw}{K:Exit->Fr->St->Prop}{ks ls:List Nat}{st:XS}(h:BE P n N ρ c K ((QX ks ls st).fr.ren σ pre.length) ((QX ks ls st).s.emb σ pre)):BE P n N ρ c K (st.fr.ren σ pre.length) (st.s.emb σ pre):=by
 refine yE ks ls ?_;have e2:(⟨(st.s.emb σ pre).up,I3 ls (st.s.emb σ pre).loc⟩:St)=(QX ks ls st).s.emb σ pre:=by simp only[QX,St.emb,UL]
 rw[UK,e2,<-Z7];exact h
abbrev bP:=gw->XS->Option (Exit×XS)
def QA(P:ft)(E:XE)(l:List fp)(st:XS):Option XS:=zD P E l (cG l) st
def A2A(P:ft)(E:XE)(l:List fp)(draw:Bool)(st:XS):Option XS:=Bool.rec (gO P E l l st)
 (match AQU l with
  |[]=>QA P E l st
  | ds=>QA P E l (QX (SP [] (st.fr.map (·.1))) ((SP [] (st.s.loc.map (·.1))).filter fun k=>!(ds.any (bz k))) st)) draw
def OL(r:Option XS):Option (Exit×XS):=match r with
 |some st=>some (.normal,st)
 |none=>none
def gR(rec:bP)(b:gw)(r:Option (Exit×XS)):Option (Exit×XS):=match r with
 |some (.normal,st')=>rec b st'
 |r=>r
def M8(id:Nat)(r:Option (Exit×XS)):Option (Exit×XS):=match r with
 |some (.exit i,st')=>Bool.rec (some (.exit i,st')) (some (.normal,st')) (bz i id)
 |r=>r
def mT(rec:bP)(a b:gw)(st:XS)(r:Option V):Option (Exit×XS):=match r with
 |some (.bool c)=>Bool.rec (rec b st) (rec a st) c
 |_=>none
def eC(rec:bP)(body:gw)(ks:List Nat)(n:Nat):XS->Option (Exit×XS):=Nat.rec (motive:=fun _=>XS->Option (Exit×XS)) (fun _=>none) (fun _ ih st=>match rec body (QX ks (SP [] (st.s.loc.map (·.1))) st)with
 |some (.normal,st')=>ih st'
 | r=>r) n
def BJ:Nat:=1000000
def gS(fr:Fr)(n γ:Nat)(r:Option (V×XS)):Option (Exit×XS):=match r with
 |some (_,st)=>match st.s.get n BJ with
  | some (γ',.loop _ _ _ _ _ ls)=>Bool.rec none (match ls with
   |.ready=>some (.normal,⟨st.c,fr,st.s.put n BJ γ .dead⟩)
   |.left .ret=>some (.ret,⟨st.c,fr,st.s.put n BJ γ .dead⟩)
   |.left (.exit id)=>some (.exit id,⟨st.c,fr,st.s.put n BJ γ .dead⟩)
   | _=>none) (bz γ' γ&&cx γ st.c)
  |_=>none
 |none=>none
def UN(cf:CF)(N:Nat)(g:gk)(ps:List Tmp)(asg body:gw)(st:XS):Option (Exit×XS):=match CH st.fr g with
 |some (.fn f first cap)=>gS st.fr st.s.up.length st.c (cf f ((first++[V.yld st.s.up.length BJ st.c]++cap).map weakV) ⟨st.c+1,st.fr,st.s.put st.s.up.length BJ st.c (.loop st.fr ps asg body N .ready)⟩)
 |_=>none
def Z8(P:ft)(E:XE)(n N:Nat)(rec:bP):bP:=fun code st=>match code with
 |.skip=>some (.normal,st)
 |.label _=>some (.normal,st)
 |.region _ ops draw=>OL (A2A P E ops.toList draw st)
 |.seq a b=>gR rec b (rec a st)
 |.cond c a b=>mT rec a b st (CH st.fr c)
 |.block id body=>M8 id (rec body st)
 |.loop body=>eC rec body (SP [] (st.fr.map (·.1))) n st
 |.exit id=>some (.exit id,st)
 |.ret=>some (.ret,st)
 |.scope body=>rec body st
 |.rangeFunc g ps asg body=>UN E.cf N g ps.toList asg body st
 |_=>none
abbrev G5:=Nat->bP
def zE(P:ft)(rs:List ResultVar)(st:XS):Option (V×Nat×List AA):=match FV P rs st.fr st.s with
 |some r=>match A1 st.s 4 r with
  |some r'=>some (r',st.c,st.s.up.map (AJ st.s))
  |none=>none
 |none=>none
def uY{α:Type}(rec:bP)(ret:XS->Option α)(code:gw)(st:XS):Option α:=match rec code st with
 |some (.ret,st')=>ret st'
 |some (.normal,st')=>ret st'
 |_=>none
def Z9{α:Type}(P:ft)(rec:G5)(ret:Func->XS->Option α)(f:gv)(args:List V)(c:Nat)(up:List AA):Option α:=match P.funcs[f]? with
 |some fn=>match fn.body with
  |some code=>Bool.rec none (uY (rec fn.ntmps) (ret fn) code ⟨c,AD 0 args,⟨up,[]⟩⟩) (dn args.length fn.ntmps)
  |none=>none
 |none=>none
def eD(P:ft)(rec:G5)(f:gv)(args:List V)(c:Nat)(up:List AA):Option (V×Nat×List AA):=Z9 P rec (fun fn=>zE P fn.results.toList) f args c up
def KD(P:ft)(rec:G5):CF0:=fun f args=>Bool.rec none (match eD P rec f args 0 []with
 |some (r,_,_)=>Bool.rec none (some r) (AG 9 r)
 | none=>none) (args.all (AG 9))
def CM{α:Type}:List α->Option (List α×α)
 |[]=>none
 |[x]=>some ([],x)
 |x::r=>match CM r with
  |some (a,b)=>some (x::a,b)
  |none=>none
def AZ(P:ft)(kn:CF0)(rec:G5):CF0:=fun f args=>match kn f args with
 |some r=>some r
 |none=>KD P rec f args
def weakM:V->V
 |.nil=>.list false []
 |v=>v
def weakN:V->V
 |.nil=>.list false []
 |.agg cs=>.agg (cs.map weakM)
 |v=>v
theorem RepV.empty{G:Gh}{v:Value}(h:RepV G .nil v):RepV G (.list false []) v:=by cases h;exact .list false [] none 0 0 0 0 #[] 0 (0,0) (fun _ _=>undef) (by simp) (fun h=>by cases h) (fun h=>absurd rfl h) (fun i h=>absurd h (by simp)) (fun i h=>absurd h (by simp)) (fun i h=>absurd h (by simp))
theorem RepV.weakM{G:Gh}{x:V}{v:Value}(h:RepV G x v):RepV G (weakM x) v:=by cases x<;>first|exact h|exact h.empty
theorem gT(x:V):(weakM x).isCell=x.isCell:=by cases x<;>rfl
theorem RepV.weakN{G:Gh}{x:V}{v:Value}(h:RepV G x v):RepV G (weakN x) v:=by
 cases x with
 |nil=>exact h.empty
 |agg cs=>
  cases h with
  |agg _ arr hl hc hr=>
   refine .agg _ arr (by simpa using hl) (fun c hc'=>?_) (fun i h1 h2=>?_)
   ·obtain⟨d,hd,rfl⟩:=dk.1 hc';rw[gT];exact hc d hd
   ·simp only[List.getElem_map];exact(hr i (by simpa using h1) h2).weakM
 |_=>exact h
theorem RepA.weakN{G:Gh}{xs:List V}{vs:List Value}(h:RepA G xs vs):RepA G (xs.map Pg.weakN) vs :=
 ⟨by simpa using h.1,fun i h1 h2=>by simp only[List.getElem_map];exact(h.2 i (by simpa using h1) h2).weakN⟩
def FO(P:ft)(kn:CF0)(rec:G5):CF0:=fun f args=>match AZ P kn rec f (args.map weakN)with
 |some r=>Bool.rec (AZ P kn rec f args) (some r) (args.all (AG 9))
 |none=>AZ P kn rec f args
def BC6(P:ft)(T:gq):Bool:=match P.underlying T with
 |some (.pointer _)=>true
 |_=>false
def BK(P:ft)(f:gv):Bool:=match P.funcs[f]? with
 |some fn=>fn.resultTypes.toList.any (BC6 P)
 |none=>false
def aA(P:ft)(kn:CF0)(rec:G5):CF:=fun f args st=>Bool.rec (match eD P rec f args st.c (st.s.up++[st.s.loc])with
 |some (r,c,up)=>match CM up with
  |some (u,l)=>some (r,⟨c,st.fr,⟨u,l⟩⟩)
  |none=>none
 | none=>none) (match FO P kn rec f args with
  |some r=>some (r,st)
  | none=>none) (args.all (AG 9)&&!(BK P f))
def rD(P:ft)(fn:Func)(st:XS):Option Mk:=match FV P fn.results.toList st.fr st.s with
 | some (.vec l k γ n)=>Bool.rec none (match st.s.loc.get k with
  |some (γ',.vec T es)=>Bool.rec none (some ⟨.vec T es,none⟩) (bz γ' γ&&bz n es.length&&es.all fun e=>e.all (AG 9))
  | _=>none) (bz l st.s.up.length)
 | some v=>Bool.rec none (match fn.resultTypes.toList with
  |[R]=>match BO P R with
   |some (none,T)=>some ⟨.vec T [],none⟩
   |_=>none
  | _=>none) (Y2 v)
 |none=>none
def HS(P:ft)(f:gv):Bool:=match P.funcs[f]? with
 |some fn=>match fn.resultTypes.toList with
  |[R]=>match BO P R with
   |some (none,_)=>true
   |_=>false
  |_=>false
 |none=>false
def KE(P:ft)(rec:G5)(f:gv)(args:List V):Option Mk:=Bool.rec none (Z9 P rec (rD P) f args 0 []) (args.all (AG 9))
def koT(P:ft)(f:gv):Option gq:=match P.funcs[f]? with
 |some fn=>match fn.resultTypes.toList with
  |[R]=>match BO P R with
   |some (none,T)=>some T
   |_=>none
  |_=>none
 |none=>none
def AIT(P:ft)(f:gv)(T:gq):Prop:=∀(d:Tmp) (s:St),E7 P f [.list false []] s fun v s'=>∃γ,v=(⟨.vec T [],none⟩:Mk).val s.up.length d γ/\s'=s.put s.up.length d γ (.vec T [])
open Classical in
def koV(P:ft)(f:gv):List V->Option Mk
 |[.list false []]=>match koT P f with
  |some T=>if AIT P f T then some ⟨.vec T [],none⟩ else none
  |none=>none
 |_=>none
def orM{α:Type}:Option α->Option α->Option α
 |some r,_=>some r
 |none,z=>z
def OM(P:ft)(kn:CF0)(ko:CFO)(rec:G5):CFO:=fun f args d=>match ko f args d with
 |some r=>some r
 | none=>Bool.rec (match FO P kn rec f args with
  |some r=>some ⟨.dead,some r⟩
  | none=>none) (orM (KE P rec f args) (koV P f args)) (HS P f)
def H1(s:St)(u:List AA)(l:AA):St:=⟨u.map (AJ s),AJ s l⟩
def UO(fr:Fr)(l q γ:Nat)(r:Option (Exit×XS)):Option (V×XS):=match r with
 |some (e,st)=>match st.s.get l q with
  | some (γ',.loop fr0 ps asg body N .busy)=>Bool.rec none (match CM st.s.up with
   |some (u,lc)=>match e with
    |.normal=>some (.bool true,⟨st.c,fr,(H1 st.s u lc).put l q γ (.loop fr0 ps asg body N .ready)⟩)
    |.ret=>some (.bool false,⟨st.c,fr,(H1 st.s u lc).put l q γ (.loop fr0 ps asg body N (.left .ret))⟩)
    |.exit id=>some (.bool false,⟨st.c,fr,(H1 st.s u lc).put l q γ (.loop fr0 ps asg body N (.left (.exit id)))⟩)
    |_=>none
   | none=>none) (bz γ' γ&&cx l st.s.up.length&&cx γ st.c)
  |_=>none
 |none=>none
def aB(rec:bP)(l q γ:Nat)(body:gw)(r:Option (Exit×XS)):Option (Exit×XS):=match r with
 |some (.normal,st)=>match st.s.get l q with
  |some (γ',.loop fr0 ps asg body' N .ready)=>Bool.rec none (rec body ⟨st.c,st.fr,st.s.put l q γ (.loop fr0 ps asg body' N .busy)⟩) (bz γ' γ&&cx γ st.c)
  |_=>none
 |_=>none
def aC(rec:G5):CY:=fun l q γ vs st=>match st.s.get l q with
 |some (γ',.loop fr0 ps asg body N .ready)=>Bool.rec none (UO st.fr l q γ (aB (rec N) l q γ body (rec N asg ⟨st.c,JL fr0 ps vs,⟨st.s.up++[st.s.loc],[]⟩⟩))) (bz γ' γ&&bz vs.length ps.length&&cx γ st.c)
 |_=>none
def A2B(P:ft)(kn:CF0)(ko:CFO)(lit:Tmp->Bool)(rec:G5):XE:=⟨aA P kn rec,aC rec,FO P kn rec,OM P kn ko rec,lit⟩
def rF(fn:Func):Bool:=match fn.body with
 | some c => !(fn.name == "runtime.NumGoroutine") && EX fn.ntmps c
 |none=>true
structure EG(P:ft):Prop where
 all:P.funcs.toList.all rF=true
 mixed:P.follows .mixedOrders=true
def aD(P:ft)(N:Nat)(rec:bP):Prop:=∀code st e st',rec code st=some (e,st')->Bd st->EX N code=true->KM st st'/\(∀l,e≠.goto l) /\
 ∀(n:Nat) (ρ:Option Nat) (σ:Nat->Nat) (pre:List AA) (K:Exit->Fr->St->Prop),(ρ=none\/GA code=true)->(∀σ',AR st.c σ σ'->K e (st'.fr.ren σ' pre.length) (st'.s.emb σ' pre))->BE P n N ρ code K (st.fr.ren σ pre.length) (st.s.emb σ pre)
def aE(P:ft)(rec:G5):Prop:=∀N,aD P N (rec N)
theorem ON{α:Type}:∀{l:List α} {u:List α} {x:α},CM l=some (u,x)->l=u++[x]
 |[],u,x,h=>by cases h
 |[y],u,x,h=>by cases h;rfl
 |y::z::r,u,x,h=>by
  simp only[CM]at h;split at h
  ·rename_i a b e;cases h;rw[ON (l:=z::r) e];rfl
  ·cases h
theorem ADQ{c:Nat}{args:List V}(h:∀v∈args,TF c v)(σ σ':Nat->Nat)(δ:Nat)(ha:AR c σ σ'):(AD 0 args).ren σ δ=(AD 0 args).ren σ' δ:=by rw[<-PE,<-PE];congr 1;exact bf fun v hv=>h v hv σ σ' δ ha
theorem AQ0{st:XS}(h:Bd st){rs:List ResultVar}{v r:V}(hv:FV P rs st.fr st.s=some v)(hr:A1 st.s 4 v=some r):TF st.c r:=by intro σ σ' δ ha;have q1:=OJ (σ:=σ) (pre:=bw δ []) hv;have q2:=OJ (σ:=σ') (pre:=bw δ []) hv;rw[h.f σ σ' _ ha,h.s σ σ' _ ha,q2]at q1;have q:=cw.inj q1;have r1:=J9 (σ:=σ) (pre:=bw δ []) 4 hr;have r2:=J9 (σ:=σ') (pre:=bw δ []) 4 hr;rw[h.s σ σ' _ ha,<-q,r2]at r1;have:=cw.inj r1;rw[bb]at this;exact this.symm
theorem HT(u:List AA)(l:AA)(i k:Nat):(⟨u,l⟩:St).get i k=match(u++[l])[i]? with
  |some L=>L.get k
  |none=>none:=by
 unfold St.get
 simp only
 by_cases h:i=u.length
 ·subst h;simp
 ·rw[if_neg h];rcases Nat.lt_or_ge i u.length with h'|h'
  ·rw[dw h'];rfl
  ·rw[dq h',dl h'];have:1<=i-u.length:=by omega
   rw[dl (by simpa using this)]
theorem rG(L:AA)(k g:Nat)(r:AX)(h:((AJ s L).ren σ pre.length).get k=some (g,r)):∃r0,(L.ren σ pre.length).get k=some (g,r0)/\(r=r0\/r=HG (s.emb σ pre) r0):=by
 rw[AA.get_ren,M2]at h;rw[AA.get_ren];cases hL:L.get k with
 |none=>rw[hL]at h;cases h
 |some p=>
  rw[hL]at h
  cases h
  exact⟨p.2.ren σ pre.length,rfl,mI p.2⟩
theorem eE{s:St}{F:List AA}{u u2:List AA}{l l2:AA}(h1:u++[l]=pre++F.map (AA.ren σ pre.length))(h2:u2++[l2]=pre++(F.map (AJ s)).map (AA.ren σ pre.length)):xW (s.emb σ pre) ⟨u,l⟩ ⟨u2,l2⟩:=by
 have hlen:u2.length=u.length:=by have a1:=congrArg dz h1;have a2:=congrArg dz h2;simp at a1 a2;omega
 refine⟨hlen,fun i k g r hg=>?_⟩;rw[HT,h2]at hg;rw[HT,h1];rcases Nat.lt_or_ge i pre.length with hi|hi
 ·rw[dw hi]at hg|-;exact⟨r,hg,.inl rfl⟩
 ·rw[dq hi]at hg|-;simp only[fg,List.getElem?_map]at hg|-;cases hF:F[i-pre.length]? with
  |none=>rw[hF]at hg;cases hg
  |some L=>
   rw[hF]at hg
   exact rG L k g r hg
theorem rH{s:St}{c:Nat}(hs:∀σ σ' pre,AR c σ σ'->s.emb σ pre=s.emb σ' pre){r:AX}(hr:∀σ σ' δ,AR c σ σ'->r.ren σ δ=r.ren σ' δ)(σ σ':Nat->Nat)(δ:Nat)(ha:AR c σ σ'):(CC s r).ren σ δ=(CC s r).ren σ' δ:=by
 unfold CC;split
 ·rename_i r' h;have q1:=K5 (σ:=σ) (pre:=bw δ []) h;have q2:=K5 (σ:=σ') (pre:=bw δ []) h;rw[hs σ σ' _ ha]at q1;simp only[bb]at q1 q2;rw[hr σ σ' _ ha,q2]at q1;exact(cw.inj q1).symm
 ·exact hr σ σ' δ ha
theorem mU{L:AA}{δ:Nat}(σ σ':Nat->Nat):L.ren σ δ=L.ren σ' δ↔∀p∈L,σ p.2.1=σ' p.2.1/\p.2.2.ren σ δ=p.2.2.ren σ' δ:=by unfold AA.ren;rw[cm];simp only[fh.injEq,true_and]
theorem eF{s:St}{c:Nat}(hs:∀σ σ' pre,AR c σ σ'->s.emb σ pre=s.emb σ' pre){L:AA}(hL:∀σ σ' δ,AR c σ σ'->L.ren σ δ=L.ren σ' δ)(σ σ':Nat->Nat)(δ:Nat)(ha:AR c σ σ'):(AJ s L).ren σ δ=(AJ s L).ren σ' δ:=by rw[mU];intro p hp;obtain⟨x,hx,rfl⟩:=dk.1 hp;have h1:∀σ σ' δ,AR c σ σ'->σ x.2.1=σ' x.2.1/\x.2.2.ren σ δ=x.2.2.ren σ' δ:=fun σ σ' δ ha=>(mU σ σ').1 (hL σ σ' δ ha) x hx;exact⟨(h1 σ σ' δ ha).1,rH hs (fun σ σ' δ ha=>(h1 σ σ' δ ha).2) σ σ' δ ha⟩
theorem ADR{s:St}{c:Nat}(hs:∀σ σ' pre,AR c σ σ'->s.emb σ pre=s.emb σ' pre):∀L∈s.up,∀σ σ' δ,AR c σ σ'->L.ren σ δ=L.ren σ' δ:=by intro L hL σ σ' δ ha;have:=hs σ σ' (bw δ []) ha;simp only[St.emb,St.mk.injEq,bb]at this;exact cm.1 (db this.1) L hL
theorem eG(s:St)(L:AA){k γ:Nat}{fr:Fr}{ps:List Tmp}{asg body:gw}{N:Nat}{st:LS}(h:(AJ s L).get k=some (γ,.loop fr ps asg body N st)):L.get k=some (γ,.loop fr ps asg body N st):=by
 rw[M2]at h;cases hL:L.get k with
 |none=>rw[hL]at h;cases h
 |some p=>
  rw[hL]at h
  simp only[bq,cw.injEq,fh.injEq]at h
  obtain⟨h1,h2⟩:=h
  obtain⟨g,r⟩:=p
  simp only at h1 h2
  subst h1
  congr 2
  cases r with
  |loop=>exact h2
  |box cs=>unfold CC at h2;split at h2<;>rename_i e<;>simp only[CA]at e<;>(try (split at e<;>cases e))<;>cases h2
  |vec T es=>unfold CC at h2;split at h2<;>rename_i e<;>simp only[CA]at e<;>(try (split at e<;>cases e))<;>cases h2
  |map es=>unfold CC at h2;split at h2<;>rename_i e<;>simp only[CA]at e<;>(try (split at e<;>cases e))<;>cases h2
  |dead=>unfold CC at h2;split at h2<;>rename_i e<;>simp only[CA]at e<;>cases e;cases h2
def FX(P:ft)(f:gv)(args:List V)(c:Nat)(up:List AA)(r:V)(c':Nat)(up':List AA):Prop:=c<=c'/\TF c' r/\(∀σ σ' δ,AR c' σ σ'->up'.map (AA.ren σ δ)=up'.map (AA.ren σ' δ))/\up'.length=up.length /\
  (∀L∈up',∀k γ fr ps asg body N st,L.get k=some (γ,.loop fr ps asg body N st)->SL N ps asg body=true) /\
  ∀(σ:Nat->Nat) (pre:List AA) (s:St) (K:V->St->Prop),s.up++[s.loc]=pre++up.map (AA.ren σ pre.length)->(∀σ' u l,AR c σ σ'->u++[l]=pre++up'.map (AA.ren σ' pre.length)->K (r.ren σ' pre.length) ⟨u,l⟩)->E7 P f (args.map (V.ren σ pre.length)) s K
theorem aF(hP:EG P){rec:G5}(hrec:aE P rec){α:Type}{ret:Func->XS->Option α}{f:gv}{args:List V}{c:Nat}{up:List AA}{x:α}(hx:Z9 P rec ret f args c up=some x)(hargs:∀v∈args,TF c v)
  (hup:∀σ σ' δ,AR c σ σ'->up.map (AA.ren σ δ)=up.map (AA.ren σ' δ)) (hlp:∀L∈up,∀k γ fr ps asg body N st,L.get k=some (γ,.loop fr ps asg body N st)->SL N ps asg body=true) :
  ∃fn st',ret fn st'=some x/\Bd st'/\c<=st'.c/\st'.s.up.length=up.length/\∀(σ:Nat->Nat) (pre:List AA) (s:St) (K:V->St->Prop),s.up++[s.loc]=pre++up.map (AA.ren σ pre.length) ->
   (∀σ',AR c σ σ'->AQP P fn.results.toList (s.up.length+1) K .ret (st'.fr.ren σ' pre.length) (st'.s.emb σ' pre))->E7 P f (args.map (V.ren σ pre.length)) s K:=by
 unfold Z9 at hx
 split at hx
 ·rename_i fn hf;split at hx
  ·rename_i code hb;obtain⟨hsz,hx1⟩:=EK hx;have hck:rF fn=true:=bh.1 hP.all fn (by
    have:=Array.mem_of_getElem? hf;simpa using this)
   simp only[rF,hb,bx,fc]at hck;have hbd:Bd ⟨c,AD 0 args,⟨up,[]⟩⟩:=⟨fun σ σ' δ ha=>ADQ hargs σ σ' δ ha,fun σ σ' pre ha=>by simp only[St.emb,hup σ σ' _ ha]; rfl,fun l k γ fr ps asg body N st hg=>by
    rw[HT]at hg;split at hg
    ·rename_i L hL;rcases dr.1 (fk hL)with hm|hm
     ·exact hlp L hm _ _ _ _ _ _ _ _ hg
     ·have:L=[]:=by simpa using hm
      subst this;simp at hg
    ·cases hg⟩
   have main:∀e st',rec fn.ntmps code ⟨c,AD 0 args,⟨up,[]⟩⟩=some (e,st')->(e=.ret\/e=.normal)->ret fn st'=some x->∃fn st',ret fn st'=some x/\Bd st'/\c<=st'.c/\st'.s.up.length=up.length/\∀(σ:Nat->Nat) (pre:List AA) (s:St) (K:V->St->Prop),s.up++[s.loc]=pre++up.map (AA.ren σ pre.length) ->
     (∀σ',AR c σ σ'->AQP P fn.results.toList (s.up.length+1) K .ret (st'.fr.ren σ' pre.length) (st'.s.emb σ' pre))->E7 P f (args.map (V.ren σ pre.length)) s K:=by
    intro e st' h1 he h2
    obtain⟨hE,_,hC⟩:=hrec _ _ _ _ _ h1 hbd hck.2
    refine⟨fn,st',h2,hE.bd,hE.c,hE.n,fun σ pre s K hs hk=>?_⟩
    refine A13 hf hb (lO hf hb hck.1) (by simpa using hsz) ?_
    have e1:(⟨s.up++[s.loc],[]⟩:St)=(⟨up,[]⟩:St).emb σ pre:=by simp only[St.emb,hs];rfl
    rw[PE,e1]
    refine hC _ none σ pre _ (.inl rfl) fun σ' ha=>?_
    have:=hk σ' ha
    rcases he with rfl|rfl<;>exact this
   unfold uY at hx1;split at hx1
   ·rename_i st' h1;exact main _ _ h1 (.inl rfl) hx1
   ·rename_i st' h1;exact main _ _ h1 (.inr rfl) hx1
   ·cases hx1
  ·cases hx
 ·cases hx
theorem mV(hP:EG P){rec:G5}(hrec:aE P rec){f:gv}{args:List V}{c:Nat}{up:List AA}{r:V}{c':Nat}{up':List AA}(hx:eD P rec f args c up=some (r,c',up'))(hargs:∀v∈args,TF c v)
  (hup:∀σ σ' δ,AR c σ σ'->up.map (AA.ren σ δ)=up.map (AA.ren σ' δ)) (hlp:∀L∈up,∀k γ fr ps asg body N st,L.get k=some (γ,.loop fr ps asg body N st)->SL N ps asg body=true):FX P f args c up r c' up':=by
 obtain⟨fn,st',hret,hbd,hc,hlen,hA⟩:=aF hP hrec hx hargs hup hlp
 unfold zE at hret
 split at hret
 ·rename_i r0 hr0;split at hret
  ·rename_i r1 hr1;cases hret;refine⟨hc,AQ0 hbd hr0 hr1,fun σ σ' δ ha=>?_,by simpa using hlen,fun L hL k γ fr ps asg body N st hg=>?_,fun σ pre s K hs hk=>hA σ pre s K hs fun σ' ha=>?_⟩
   ·simp only[fg];exact bf fun L hL=>eF hbd.s (ADR hbd.s L hL) σ σ' δ ha
   ·obtain⟨L0,hL0,rfl⟩:=dk.1 hL;have hg:=eG _ _ hg;obtain⟨i,hi,rfl⟩:=List.getElem_of_mem hL0;refine hbd.lp i k γ fr ps asg body N st ?_;unfold St.get;rw[if_neg (by omega),List.getElem?_eq_getElem hi];exact hg
   ·have hl2:(st'.s.emb σ' pre).up.length=s.up.length+1:=by have q:=congrArg dz hs;simp only[cg,cp,bp]at q;rw[DL,hlen];omega
    rcases dm (st'.s.emb σ' pre).up with h0|⟨u,l,h0⟩
    ·rw[h0]at hl2;simp at hl2
    ·have h0:(st'.s.emb σ' pre).up=u++[l]:=by simpa using h0
     have hu:u.length+1=s.up.length+1:=by rw[<-hl2,h0];simp
     have hcl:=OI 4 (J9 (σ:=σ') (pre:=pre) 4 hr1);have hres:=OJ (σ:=σ') (pre:=pre) hr0;rcases dm (pre++(st'.s.up.map (AJ st'.s)).map (AA.ren σ' pre.length))with h3|⟨u2,l2,h3⟩
     ·have h4:=congrArg dz h3;have h5:=congrArg dz h0;simp only[St.emb,cg,bp,List.length_nil,cp]at h4 h5;omega
     ·have h3:pre++(st'.s.up.map (AJ st'.s)).map (AA.ren σ' pre.length)=u2++[l2]:=by simpa using h3
      have hK:=hk σ' u2 l2 ha h3.symm;have hS:=eE (s:=st'.s) (F:=st'.s.up) (u:=u) (l:=l) (u2:=u2) (l2:=l2) (σ:=σ') (pre:=pre) h0.symm h3.symm;exact⟨u,l,_,h0,hu,hres,.inl ⟨_,_,by rw[hcl];exact Wk.refl _,hS,hK⟩⟩
  ·cases hret
 ·cases hret
theorem UP{c:Nat}{args:List V}(h:args.all (AG 9)=true):∀v∈args,TF c v:=fun v hv σ σ' δ _=>by rw[EO 9 v (bh.1 h v hv),EO 9 v (bh.1 h v hv)]
theorem aG(hP:EG P){rec:G5}(hrec:aE P rec):HP P (KD P rec):=by
 intro f args r hx;unfold KD at hx;obtain⟨hcl,hx1⟩:=EK hx;split at hx1
 ·rename_i r0 c' up' h1;obtain⟨hr,rfl⟩:=JV hx1;obtain⟨_,_,_,hlen,_,hA⟩:=mV hP hrec h1 (UP hcl) (fun _ _ _ _=>rfl) (fun L hL=>by cases hL);have hargs:∀v∈args,∀σ δ,V.ren σ δ v=v:=fun v hv σ δ=>EO 9 v (bh.1 hcl v hv);have hup:up'=[]:=ct hlen;refine⟨fun s=>?_,hargs,fun σ δ=>EO 9 _ hr⟩;have:=hA id (s.up++[s.loc]) s (fun r' s'=>r'=r0/\s'=s) (by simp) fun σ' u l _ hu=>?_
  ·have e:args.map (V.ren id (s.up++[s.loc]).length)=args:=by
    conv=>rhs;rw[<-cn args]
    exact bf fun v hv=>hargs v hv _ _
   rw[e]at this;exact this
  ·rw[hup]at hu;simp only[dj,List.append_nil]at hu;obtain⟨e1,e2⟩:=df hu rfl;refine⟨EO 9 _ hr,?_⟩;subst e1;simp only[List.cons.injEq,and_true]at e2;subst e2;rfl
 ·cases hx1
theorem aH(hP:EG P){kn:CF0}(hkn:HP P kn){rec:G5}(hrec:aE P rec):HP P (AZ P kn rec):=by
 intro f args r hx;unfold AZ at hx;split at hx
 ·rename_i r0 h0;cases hx;exact hkn _ _ _ h0
 ·exact aG hP hrec _ _ _ hx
theorem aI(hP:EG P){kn:CF0}(hkn:HP P kn){rec:G5}(hrec:aE P rec):HP P (FO P kn rec):=by
 intro f args r hx;unfold FO at hx;split at hx
 ·rename_i r0 h0;cases hcl:args.all (AG 9)with
  |false=>rw[hcl]at hx;exact aH hP hkn hrec _ _ _ hx
  |true=>
   rw[hcl]at hx
   cases hx
   obtain⟨hA,_,h2⟩:=aH hP hkn hrec _ _ _ h0
   exact⟨fun s=>⟨(hA s).1,fun G vals w R hI ha hR=>(hA s).2 G vals w R hI ha.weakN hR⟩,fun v hv σ δ=>EO 9 v (bh.1 hcl v hv),h2⟩
 ·exact aH hP hkn hrec _ _ _ hx
theorem handed(hP:EG P){rec:G5}(hrec:aE P rec){f:gv}{args:List V}{ret:Func->XS->Option Mk}{r:Mk}{d:Tmp}(hcl:args.all (AG 9)=true)(hx:Z9 P rec ret f args 0 []=some r)
  (hr:∀(fn:Func) (st':XS),ret fn st'=some r->st'.s.up=[]->∀(s:St) (σ':Nat->Nat),∃r0,FV P fn.results.toList (st'.fr.ren σ' (s.up++[s.loc]).length) (st'.s.emb σ' (s.up++[s.loc]))=some r0 /\
   ((∃k γ T es,(st'.s.emb σ' (s.up++[s.loc])).loc.get k=some (γ,.vec T es)/\yD (s.up.length+1) k s.up.length d 4 r0=r.val s.up.length d γ/\r.res=.vec T es)\/(∃T,Y2 r0=true/\r=⟨.vec T [],none⟩)))
  (s:St):E7 P f args s fun v s'=>∃γ,v=r.val s.up.length d γ/\s'=s.put s.up.length d γ r.res:=by
 obtain⟨fn,st',hret,hbd,hc,hlen,hA⟩:=aF hP hrec hx (UP hcl) (fun _ _ _ _=>rfl) (fun L hL=>by cases hL)
 have hargs:∀v∈args,∀σ δ,V.ren σ δ v=v:=fun v hv σ δ=>EO 9 v (bh.1 hcl v hv)
 have hup:st'.s.up=[]:=ct hlen
 have:=hA id (s.up++[s.loc]) s (fun v s'=>∃γ,v=r.val s.up.length d γ/\s'=s.put s.up.length d γ r.res) (by simp) fun σ' _=>?_
 ·have e:args.map (V.ren id (s.up++[s.loc]).length)=args:=by
   conv=>rhs;rw[<-cn args]
   exact bf fun v hv=>hargs v hv _ _
  rw[e]at this;exact this
 ·obtain⟨r0,h1,h2⟩:=hr fn st' hret hup s σ';refine⟨s.up,s.loc,r0,by simp[St.emb,hup],rfl,h1,.inr ?_⟩;rcases h2 with⟨k,γ,T,es,h3,h4,h5⟩|⟨T,h3,h4⟩
  ·exact .inl ⟨k,γ,T,es,d,h3,γ,h4,by rw[h5]⟩
  ·subst h4;exact .inr ⟨d,T,h3,fun γ=>⟨γ,rfl,rfl⟩⟩
theorem zF(hP:EG P){rec:G5}(hrec:aE P rec){f:gv}{args:List V}{r:Mk}{d:Tmp}(hx:KE P rec f args=some r) :
  (∀(s:St),E7 P f args s fun v s'=>∃γ,v=r.val s.up.length d γ/\s'=s.put s.up.length d γ r.res)/\(∀v∈args,∀σ δ,v.ren σ δ=v)/\(∀σ δ,r.res.ren σ δ=r.res)/\bN r.res=true:=by
 unfold KE at hx
 obtain⟨hcl,hx1⟩:=EK hx
 have hargs:∀v∈args,∀σ δ,V.ren σ δ v=v:=fun v hv σ δ=>EO 9 v (bh.1 hcl v hv)
 have main:∀(fn:Func) (st':XS),rD P fn st'=some r->((∀σ δ,r.res.ren σ δ=r.res)/\bN r.res=true)/\(st'.s.up=[]->∀(s:St) (σ':Nat->Nat),∃r0,FV P fn.results.toList (st'.fr.ren σ' (s.up++[s.loc]).length) (st'.s.emb σ' (s.up++[s.loc]))=some r0 /\
   ((∃k γ T es,(st'.s.emb σ' (s.up++[s.loc])).loc.get k=some (γ,.vec T es)/\yD (s.up.length+1) k s.up.length d 4 r0=r.val s.up.length d γ/\r.res=.vec T es)\/(∃T,Y2 r0=true/\r=⟨.vec T [],none⟩))):=by
  intro fn st' hret
  unfold rD at hret
  split at hret
  ·rename_i l k γ n hres;obtain⟨hl,hret⟩:=EK hret;have hl:=bj hl;split at hret
   ·rename_i γ' T es hget;obtain⟨hc2,he⟩:=JV hret;cases he;simp only[bx]at hc2;obtain⟨⟨h1,h2⟩,h3⟩:=hc2;have h1:=bj h1;have h2:=bj h2;subst h1;subst h2;have hes:∀σ δ,es.map (cj (V.ren σ δ))=es:=fun σ δ=>by
     conv=>rhs;rw[<-cn es]
     exact bf fun e he=>M7 (fun v=>EO 9 v) (bh.1 h3 e he)
    refine⟨⟨fun σ δ=>by simp only[AX.ren,hes],rfl⟩,fun hup s σ'=>⟨_,OJ hres,.inl ⟨k,σ' γ',T,es,?_,?_,rfl⟩⟩⟩
    ·rw[KX,hget];simp only[bq,AX.ren,hes]
    ·rw[hup]at hl;subst hl;simp[yD,Mk.val,HH]
   ·cases hret
  ·rename_i v hnv hres;obtain⟨hn,hret⟩:=EK hret;split at hret
   ·split at hret
    ·rename_i T _;cases hret;exact⟨⟨fun _ _=>rfl,rfl⟩,fun hup s σ'=>⟨_,OJ hres,.inr ⟨_,by rw[ADF];exact hn,rfl⟩⟩⟩
    ·cases hret
   ·cases hret
  ·cases hret
 obtain⟨fn,st',hret,_⟩:=aF hP hrec hx1 (UP hcl) (fun _ _ _ _=>rfl) (fun L hL=>by cases hL)
 exact⟨handed hP hrec hcl hx1 fun fn st' h=>(main fn st' h).2,hargs,(main fn st' hret).1⟩
theorem C4.nought{G:Gh}{s:St}{w:World}(hI:C4 G s w)(d γ:Nat):C4 G (s.put s.up.length d γ .dead) w:=by
 have look:∀{l k x},(s.put s.up.length d γ .dead).get l k=some x->x=(γ,.dead)\/s.get l k=some x:=fun {l k x} h=>by
  rw[St.get_putLoc]at h;split at h
  ·exact .inl (cw.inj h).symm
  ·exact .inr h
 refine⟨hI.sl,fun l k g r h=>?_,fun l k g r l' k' g' r' b h1 h2 h3 h4=>?_,fun l k g r b h1 h2=>?_,hI.fresh,hI.env⟩
 ·rcases look h with e|e
  ·cases e;trivial
  ·exact hI.res _ _ _ _ e
 ·rcases look h1 with e|e1
  ·cases e;cases h3
  ·rcases look h2 with e|e2
   ·cases e;cases h4
   ·exact hI.sep _ _ _ _ _ _ _ _ _ e1 e2 h3 h4
 ·rcases look h1 with e|e
  ·cases e;cases h2
  ·exact hI.out _ _ _ _ _ e h2
theorem AQ1{f:gv}{args:List V}{r:Mk}{d:Tmp}(hx:koV P f args=some r) :
  (∀(s:St),E7 P f args s fun v s'=>∃γ,v=r.val s.up.length d γ/\s'=s.put s.up.length d γ r.res)/\(∀v∈args,∀σ δ,v.ren σ δ=v)/\(∀σ δ,r.res.ren σ δ=r.res)/\bN r.res=true:=by
 unfold koV at hx
 split at hx
 ·split at hx
  ·rename_i T _;split at hx
   ·rename_i hv;cases hx;exact⟨fun s=>hv d s,fun v hm σ δ=>by rw[List.mem_singleton.1 hm];rfl,fun σ δ=>rfl,rfl⟩
   ·cases hx
  ·cases hx
 ·cases hx
theorem ADS(hP:EG P){kn:CF0}(hkn:HP P kn){ko:CFO}(hko:qY P ko){rec:G5}(hrec:aE P rec):qY P (OM P kn ko rec):=by
 intro f args d r hx;unfold OM at hx;split at hx
 ·rename_i r0 h0;cases hx;exact hko _ _ _ _ h0
 ·cases hs:HS P f with
  |true=>
   rw[hs]at hx
   have hx:orM (KE P rec f args) (koV P f args)=some r:=hx
   cases h1:KE P rec f args with
   |some r1=>
    rw[h1]at hx
    cases hx
    exact zF hP hrec h1
   |none=>
    rw[h1]at hx
    exact AQ1 hx
  |false=>
   rw[hs]at hx
   have hx:(match FO P kn rec f args with
    |some r=>some (⟨.dead,some r⟩:Mk)
    | none=>none)=some r:=hx
   split at hx
   ·rename_i r0 h0;cases hx;obtain⟨hA,h1,h2⟩:=aI hP hkn hrec _ _ _ h0;refine⟨fun s=>⟨(hA s).1,fun G vals w R hI ha hR=>(hA s).2 G vals w R hI ha fun G' v u w' s' hle hI' hv hlen hk=>?_⟩,h1,fun _ _=>rfl,rfl⟩;obtain⟨rfl,rfl⟩:=hk;exact hR G' _ u w' (s'.put s'.up.length d 0 .dead) hle (hI'.nought d 0) hv (St.put_len _ _ _ _ _) ⟨0,(h2 _ _).symm,rfl⟩
   ·cases hx
theorem ADT(hP:EG P){kn:CF0}(hkn:HP P kn){rec:G5}(hrec:aE P rec):dZ P (aA P kn rec):=by
 intro f args st r st' hx hbd hargs;unfold aA at hx;cases hcl:(args.all (AG 9)&&!(BK P f))with
 |true=>
  rw[hcl]at hx
  have hx:(match FO P kn rec f args with|some r=>some (r,st)|none=>none)=some (r,st'):=hx
  split at hx
  ·rename_i r0 h0;cases hx;obtain⟨hA,h1,h2⟩:=aI hP hkn hrec _ _ _ h0;refine⟨⟨bn _,hbd,rfl⟩,fun σ σ' δ _=>by rw[h2,h2],rfl,fun σ pre K hk=>?_⟩;have e:args.map (V.ren σ pre.length)=args:=by
    conv=>rhs;rw[<-cn args]
    exact bf fun v hv=>h1 v hv _ _
   rw[e];refine(hA (st.s.emb σ pre)).mono fun r' s' q5=>?_;obtain⟨rfl,rfl⟩:=q5;have:=hk σ (AR.refl _ _);rwa [h2]at this
  ·cases hx
 |false=>
  rw[hcl]at hx
  have hx:(match eD P rec f args st.c (st.s.up++[st.s.loc])with
   |some (r,c,up)=>match CM up with
    |some (u,l)=>some (r,(⟨c,st.fr,⟨u,l⟩⟩:XS))
    |none=>none
   | none=>none)=some (r,st'):=hx
  split at hx
  ·rename_i r0 c0 up0 h1;split at hx
   ·rename_i u l hu;cases hx;have hup0:=ON hu;have hsb:∀σ σ' δ,AR st.c σ σ'->(st.s.up++[st.s.loc]).map (AA.ren σ δ)=(st.s.up++[st.s.loc]).map (AA.ren σ' δ):=by intro σ σ' δ ha;have:=hbd.s σ σ' (bw δ []) ha;simp only[St.emb,St.mk.injEq,bb]at this;simp only[bc,dv,dj];rw[db this.1,this.2]
    have hlp:∀L∈st.s.up++[st.s.loc],∀k γ fr ps asg body N st,L.get k=some (γ,.loop fr ps asg body N st)->SL N ps asg body=true:=by intro L hL k γ fr ps asg body N ls hg;obtain⟨i,hi⟩:=List.getElem?_of_mem hL;refine hbd.lp i k γ fr ps asg body N ls ?_;have:=HT st.s.up st.s.loc i k;rw[hi]at this;exact this.trans hg
    obtain⟨hc,hrb,hub,hlen,hlp',hA⟩:=mV hP hrec h1 hargs hsb hlp;subst hup0;refine⟨⟨hc,⟨fun σ σ' δ ha=>hbd.f σ σ' δ (ha.mono hc),fun σ σ' pre ha=>?_,fun i k γ fr ps asg body N ls hg=>?_⟩,?_⟩,hrb,rfl,fun σ pre K hk=>?_⟩
    ·have:=hub σ σ' pre.length ha;simp only[bc,dv,dj]at this;obtain⟨e1,e2⟩:=df this rfl;simp only[List.cons.injEq,and_true]at e2;simp only[St.emb,e1,e2]
    ·rw[HT]at hg;split at hg
     ·rename_i L hL;exact hlp' L (fk hL) _ _ _ _ _ _ _ _ hg
     ·cases hg
    ·simp only[cg,cp]at hlen;simp only;omega
    ·refine hA σ pre (st.s.emb σ pre) K (by simp[St.emb]) fun σ' u' l' ha hu'=>?_;have:=hk σ' ha;simp only[bc,dv,dj,<-List.append_assoc]at hu';obtain⟨e1,e2⟩:=df hu' rfl;simp only[List.cons.injEq,and_true]at e2;subst e1;subst e2;exact this
   ·cases hx
  ·cases hx
end Go.Pg
