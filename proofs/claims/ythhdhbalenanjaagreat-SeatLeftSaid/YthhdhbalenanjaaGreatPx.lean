/- Running a Go function upon abstract values, by computing: one operation, and that it is what the walk asks. No program in sight. -/
import Derived.Test.YthhdhbalenanjaaGreatP5
noncomputable section
open Go renaming Oper->fp,Program->ft,Operand->gk,TypeId->gq,FuncId->gv,Code->gw
open Nat renaming eq_of_beq_eq_true->bj,beq->bz,lt_succ_self->bm,le_refl->bn,le_succ->cq,blt->cx,ble_eq->cz,blt_eq->cd,le_trans->dg,ble->dn,lt_of_lt_of_le->fq
open Option renaming bind_eq_some_iff->bk,map_some->bq,bind_some->bg,some->cw
open List renaming replicate->bw,length_replicate->bb,map_append->bc,map_congr_left->bf,all_eq_true->bh,length_map->bp,map->cj,map_take->ck,length_append->cg,map_inj_left->cm,map_id->cn,length_singleton->cp,eq_nil_of_length_eq_zero->ct,map_nil->dj,mem_map->dk,getElem?_append_right->dq,map_cons->dv,getElem?_append_left->dw,map_replicate->dx,length->dz,append_cancel_left->db,map_flatten->dc,append_inj'->df,mem_append_right->dh,getElem?_eq_none->dl,eq_nil_or_concat->dm,getElem?_mapIdx->dp,mem_append->dr,mem_append_left->fj,mem_of_getElem?->fk,all_map->fw,length_mapIdx->fx,map_map->fg
open Bool renaming and_eq_true->bx,or_eq_false_iff->dt,not_eq_true'->fc
open Prod renaming mk->fh
namespace Go.Pg
variable {P:ft}{Ω:HE P}{σ σ':Nat->Nat}{δ:Nat}{pre:List AA}{s:St}{fr:Fr}{g:Bool}
def K1(all:List fp)(o:fp):Option (Tmp×Bool):=match o.guard with
 |none=>none
 |some (j,w)=>match all[j]? with
  |some p=>match p.dst with
   |some d=>some (d,w)
   |none=>none
  |none=>none
def tR(all:List fp):Bool:=all.all fun o=>HB all o (K1 all o)
theorem gE{all:List fp}:∀{l:List fp},(∀o∈l,HB all o (K1 all o)=true)->JK all (l.map (K1 all)) l=true
 |[],_=>rfl
 |o::l,h=>by simp only[dv,JK,bx];exact⟨h o (by simp),gE fun p hp=>h p (by simp[hp])⟩
theorem TN{all:List fp}(h:tR all=true):∀o∈all,HB all o (K1 all o)=true:=fun o ho=>bh.1 h o ho
def A3C(d:Tmp)(p:fp):Bool:=match p.op with
 |.call { callee:=.builtin .append,args,.. }=>match args.toList with
  |.tmp t::_=>bz t d
  |_=>false
 |.call { callee:=.value (.func _),args,argTypes }=>match args.toList,argTypes.toList with
  |[.tmp t,_],[T,U]=>bz t d&&bz T p.type&&!(bz U T)
  |_,_=>false
 |_=>false
def AQV(d:Tmp)(p:fp):Bool:=match p.op with
 |.store _ _ (.tmp t)=>bz t d
 |_=>false
def DN(l:List fp)(o:fp):Bool:=match o.op,o.dst with
 |.call { callee:=.value _,.. },some d=>l.any fun p=>A3C d p||AQV d p
 |_,_=>false
def kS(o:fp):Bool:=match o.op with
 |.mapUpdate ..|.insert ..=>true
 |.call { callee:=.builtin b,.. }=>match b with
  |.len|.max|.min|.cap|.append=>false
  |_=>true
 |_=>false
def kC(o:fp):Bool:=match o.op with
 |.call { callee:=.value _,.. }=>true
 |_=>false
def onB(o:fp)(A:List Nat):Bool:=o.after.any fun e=>Region.binds .any e&&A.contains e.on
def A3D(o:fp)(l:List fp)(A:List Nat):Bool:=kW o&&l.isEmpty&&A.all fun j=>o.after.any fun e=>Region.binds .any e&&bz e.on j
def A3E(o:fp)(i:Nat):List Nat->List Nat
 |[]=>[i]
 |a::A=>cond (onB o [a]) (i::a::A) (a::A3E o i A)
def J7(own:fp->Bool):List fp->Nat->List Nat->List Nat->List Nat->List Nat->List Nat->List Nat->List Nat×List Nat
 |[],_,R,Q,A,S,R2,T=>(R.reverse++Q.reverse++A.reverse++S.reverse++R2.reverse,T.reverse)
 |o::l,i,R,Q,A,S,R2,T=>
  cond (onB o T||kS o||A3D o l (R++Q++A++S++R2++T)||(kC o&&(onB o (Q++S++R2)||(!(own o)&&onB o A)))) (J7 own l (i+1) R Q A S R2 (i::T))
   (cond (kP o) (cond (onB o (A++S++R2)) (J7 own l (i+1) R Q A S (i :: R2) T) (J7 own l (i+1) R (i :: Q) A S R2 T))
   (cond (kW o) (cond (onB o R2) (J7 own l (i+1) R Q A S (i :: R2) T) (J7 own l (i+1) R Q A (i :: S) R2 T))
    (cond (onB o (Q++S++R2)||(cond (kA own o) (!R2.isEmpty) (onB o (A.take 1)))) (J7 own l (i+1) R Q A S (i :: R2) T)
     (cond (kA own o) (J7 own l (i+1) R Q (i :: A) S R2 T) (cond (onB o A) (J7 own l (i+1) R Q (A3E o i A) S R2 T) (J7 own l (i+1) (i :: R) Q A S R2 T))))))
def AMU(af:Nat):List (Nat×Nat)->Nat->Nat
 |[],m=>m
 |p::r,m=>HF (cond (U4 af p.1) (Nat.lor m (Nat.lor p.2 (Nat.shiftLeft 1 p.1))) m) (AMU af r)
def A3F:List (Nat×Nat)->List (Nat×Nat)->List (Nat×Nat)
 |[],acc=>acc
 |p::r,acc=>HF (AMU p.2 acc 0) fun m=>A3F r ((p.1,m)::acc)
def AQW(l:List fp):List Nat:=((A3F (afL l 0) []).filterMap fun p=>cond (bz p.2 (Nat.sub (Nat.pow 2 p.1) 1)) (match l[p.1]? with
 |some o=>cond (kC o&&bz (KP p.1 (afL l 0) 0) (Nat.sub (Nat.pow 2 l.length) (Nat.pow 2 (p.1+1)))) (some p.1) none
 | none=>none) none).reverse
def AMV(own:fp->Bool)(l:List fp):Nat->List Nat->WY
 |i,[]=>[J7 own (l.drop i) i [] [] [] [] [] []]
 |i,c::cs=>match J7 own ((l.drop i).take (c-i)) i [] [] [] [] [] []with
  |(R,T)=>(R,T++[c])::AMV own l (c+1) cs
def cI(l:List fp):WY:=AMV (DN l) l 0 (AQW l)
def AQX(l:List fp):List Nat:=l.filterMap fun o=>cond (kA (DN l) o) o.dst none
def GF:gw->Bool
 |.seq a b=>GF a&&GF b
 |.cond _ a b=>GF a&&GF b
 |.block _ c=>GF c
 |.loop c=>GF c
 |.scope _=>false
 |.rangeFunc ..=>false
 |_=>true
def ER(N:Nat):gw->Bool
 |.region _ ops draw=>cond draw (OI (DN ops.toList) N (ops.toList.map (K1 ops.toList)) (cI ops.toList) ops.toList) (LN N ops.toList&&tR ops.toList)
 |.seq a b=>ER N a&&ER N b
 |.cond _ a b=>ER N a&&ER N b
 |.block _ c=>ER N c
 |.loop c=>ER N c
 |.scope c=>ER N c
 |.rangeFunc _ ps asg body=>ps.toList.all (fun p=>cx p N)&&GF asg&&GF body&&ER N asg&&ER N body
 |_=>true
def TO(N:Nat)(ps:List Tmp)(asg body:gw):Bool:=ps.all (fun p=>cx p N)&&GF asg&&GF body&&ER N asg&&ER N body
def TP(s:St):Prop:=∀l k γ fr ps asg body N st,s.get l k=some (γ,.loop fr ps asg body N st)->TO N ps asg body=true
theorem pH{s:St}{l k γ:Nat}{r:AX}{l' k':Nat}{x:Nat×AX}(h:(s.put l k γ r).get l' k'=some x):x=(γ,r)\/s.get l' k'=some x:=by
 unfold St.put at h;unfold St.get at h|-;by_cases e1:l=s.up.length
 ·rw[if_pos e1]at h;by_cases e2:l'=s.up.length
  ·rw[if_pos e2]at h|-;rw[AA.get_put]at h;split at h
   ·exact .inl (cw.inj h).symm
   ·exact .inr h
  ·rw[if_neg e2]at h|-;exact .inr h
 ·rw[if_neg e1]at h;have hl:({ s with up:=s.up.modify l (fun L=>L.put k γ r) }:St).up.length=s.up.length:=by simp
  rw[hl]at h;by_cases e2:l'=s.up.length
  ·rw[if_pos e2]at h|-;exact .inr h
  ·rw[if_neg e2]at h|-;rw[List.getElem?_modify]at h;cases hu:s.up[l']? with
   |none=>simp[hu]at h
   |some L=>
    rw[hu]at h
    simp only[Option.map_eq_map,bq]at h
    by_cases e3:l=l'
    ·simp only[e3,if_true,AA.get_put]at h;split at h
     ·exact .inl (cw.inj h).symm
     ·exact .inr h
    ·simp only[e3,if_false]at h;exact .inr h
theorem TP.put{s:St}(h:TP s){l k γ:Nat}{r:AX}(hr:∀fr ps asg body N st,r=.loop fr ps asg body N st->TO N ps asg body=true):TP (s.put l k γ r):=by
 intro l' k' γ' fr ps asg body N st hg;rcases pH hg with e|e
 ·cases e;exact hr _ _ _ _ _ _ rfl
 ·exact h _ _ _ _ _ _ _ _ _ e
structure XS where
 c:Nat
 fr:Fr
 s:St
def BR(fr:Fr)(k:Nat):Option (Bool×V):=List.rec (motive:=fun _=>Option (Bool×V)) none (fun x _ ih=>Bool.rec ih (some x.2) (bz k x.1)) fr
theorem E5:∀(fr:Fr) (k:Nat),BR fr k=fr.get k
 |[],_=>rfl
 |(j,x)::fr,k=>by
  show(Bool.rec (BR fr k) (some x) (bz k j):Option (Bool×V))=if k=j then some x else Fr.get fr k
  by_cases h:k=j
  ·subst h;rw[if_pos rfl,Nat.beq_refl]
  ·rw[if_neg h,<-E5 fr k];have:bz k j=false:=by
    cases hb:bz k j with
    |false=>rfl
    |true=>exact absurd (bj hb) h
   rw[this]
def CD(fr:Fr)(x:gk):Option V:=match x with
 |.tmp t=>match BR fr t with
  |some (true,v)=>some v
  |_=>none
 |.const v=>CL v
 |.func f=>some (.fn f [] [])
 |.global _=>none
theorem DW(x:gk):CD fr x=DT true fr x:=by
 cases x with
 |tmp t=>
  simp only[CD,DT,rd,E5]
  cases fr.get t with
  |none=>rfl
  |some p=>
   obtain⟨c,v⟩:=p
   cases c<;>rfl
 |const v=>
  simp only[CD,DT,rd]
  cases CL v<;>rfl
 |func f=>rfl
 |global g=>rfl
theorem E6:CD fr=DT true fr:=funext fun x=>DW x
def AO(c:Nat)(σ σ':Nat->Nat):Prop:=∀i,i<c->σ i=σ' i
theorem AO.refl(c:Nat)(σ:Nat->Nat):AO c σ σ:=fun _ _=>rfl
theorem AO.trans{c c':Nat}{σ σ' σ'':Nat->Nat}(h:AO c σ σ')(h':AO c' σ' σ'')(hc:c<=c'):AO c σ σ'':=fun i hi=>(h i hi).trans (h' i (fq hi hc))
theorem AO.mono{c c':Nat}(h:AO c' σ σ')(hc:c<=c'):AO c σ σ':=fun i hi=>h i (fq hi hc)
theorem AO.upd(c γ:Nat)(σ:Nat->Nat):AO c σ (fun i=>if i=c then γ else σ i):=fun i hi=>by simp[Nat.ne_of_lt hi]
structure Bd(st:XS):Prop where
 f:∀σ σ' δ,AO st.c σ σ'->st.fr.ren σ δ=st.fr.ren σ' δ
 s:∀σ σ' pre,AO st.c σ σ'->st.s.emb σ pre=st.s.emb σ' pre
 lp:TP st.s
def UF(c:Nat)(v:V):Prop:=∀σ σ' δ,AO c σ σ'->v.ren σ δ=v.ren σ' δ
structure KJ(st st':XS):Prop where
 c:st.c<=st'.c
 bd:Bd st'
 n:st'.s.up.length=st.s.up.length
def StepX(P:ft)(o:fp)(st st':XS):Prop:=KJ st st'/\∀(σ:Nat->Nat) (pre:List AA) (k:Fr->St->Prop),(∀σ',AO st.c σ σ'->k (st'.fr.ren σ' pre.length) (st'.s.emb σ' pre))->ED P true o (st.fr.ren σ pre.length) (st.s.emb σ pre) k
theorem FG(d:Option Tmp)(c:Bool)(v:V):(putD fr d c v).ren σ δ=putD (fr.ren σ δ) d c (v.ren σ δ):=by cases d<;>rfl
theorem HK(d:Nat)(c:Bool)(v:V):(fr.put d c v).ren σ δ=(fr.ren σ δ).put d c (v.ren σ δ):=rfl
theorem UF.mono{c c':Nat}{v:V}(h:UF c v)(hc:c<=c'):UF c' v:=fun σ σ' δ ha=>h σ σ' δ (ha.mono hc)
theorem Bd.val{st:XS}(h:Bd st){o:fp}{v:V}(hv:FE P g o st.fr st.s=some v):UF st.c v:=by intro σ σ' δ ha;have h1:=IY (σ:=σ) (pre:=bw δ []) hv;have h2:=IY (σ:=σ') (pre:=bw δ []) hv;rw[h.f σ σ' _ ha,h.s σ σ' _ ha,h2]at h1;have:=cw.inj h1;rw[bb]at this;exact this.symm
theorem Bd.rd{st:XS}(h:Bd st){x:gk}{v:V}(hv:CD st.fr x=some v):UF st.c v:=by intro σ σ' δ ha;rw[DW]at hv;have h1:=DI (g:=true) (fr:=st.fr) (σ:=σ) (δ:=δ) x;have h2:=DI (g:=true) (fr:=st.fr) (σ:=σ') (δ:=δ) x;rw[h.f σ σ' _ ha,h2,hv]at h1;simpa using h1.symm
theorem Bd.putF{st:XS}(h:Bd st){d:Option Tmp}{c:Bool}{v:V}(hv:UF st.c v):Bd { st with fr:=putD st.fr d c v } :=
 ⟨fun σ σ' δ ha=>by simp only[FG];rw[h.f σ σ' δ ha,hv σ σ' δ ha],h.s,h.lp⟩
def cJ:AX->Bool
 |.loop ..=>false
 |_=>true
theorem VA{r:AX}(h:cJ r=true):∀fr ps asg body N st,r=.loop fr ps asg body N st->TO N ps asg body=true:=by intro fr ps asg body N st e;subst e;cases h
theorem Bd.putS{st:XS}(h:Bd st){l k γ:Nat}{r:AX}(hγ:γ<st.c)(hr:∀σ σ' δ,AO st.c σ σ'->r.ren σ δ=r.ren σ' δ)(hp:cJ r=true:=by rfl):Bd { st with s:=st.s.put l k γ r } :=
 ⟨h.f,fun σ σ' pre ha=>by simp only[CO];rw[h.s σ σ' pre ha,hr σ σ' _ ha,ha γ hγ],h.lp.put (VA hp)⟩
theorem xX{o:fp}{st:XS}{v:V}(h:Bd st)(hv:FE P true o st.fr st.s=some v):StepX P o st { st with fr:=putD st.fr o.dst true v }:=by refine⟨⟨bn _,h.putF (h.val hv),rfl⟩,fun σ pre k hk=>DM (Ω:=HE.nothing P) (.inl ⟨_,IY hv,?_⟩)⟩;have:=hk σ (AO.refl _ _);rwa [FG]at this
theorem ZV{c:Nat}{v:V}(h:UF c v)(σ σ':Nat->Nat)(δ:Nat)(ha:AO c σ σ'):(A5 v).map (V.ren σ δ)=(A5 v).map (V.ren σ' δ):=by rw[<-EI,<-EI,h σ σ' δ ha]
def gF(P:ft)(Ω:HE P)(o:fp)(st st':XS):Prop:=KJ st st'/\∃d,o.dst=some d/\∀(σ:Nat->Nat) (pre:List AA) (k:Fr->St->Prop),(∀σ',AO st.c σ σ'->k (st'.fr.ren σ' pre.length) (st'.s.emb σ' pre)) ->
 ∃r,P4 P Ω o (st.fr.ren σ pre.length)=some r/\∀γ,k ((st.fr.ren σ pre.length).put d true (r.val (st.s.emb σ pre).up.length d γ)) ((st.s.emb σ pre).put (st.s.emb σ pre).up.length d γ r.res)
theorem gF.step{o:fp}{st st':XS}(h:gF P Ω o st st'):StepX P o st st':=by obtain⟨h1,d,hd,h2⟩:=h;refine⟨h1,fun σ pre k hk=>?_⟩;obtain⟨r,hr,h3⟩:=h2 σ pre k hk;exact DM (Ω:=Ω) (.inr (.inr ⟨r,d,rfl,hd,hr,h3⟩))
theorem dW{o:fp}{st:XS}{d:Nat}{cs:List V}(h:Bd st)(hd:o.dst=some d)(hcs:∀σ σ' δ,AO st.c σ σ'->cs.map (V.ren σ δ)=cs.map (V.ren σ' δ))
  (hn:∀σ pre,P4 P Ω o (st.fr.ren σ (dz (α:=AA) pre))=some ⟨.box (cs.map (V.ren σ pre.length)),none⟩) :
  gF P Ω o st ⟨st.c+1,st.fr.put d true (.ptr st.s.up.length d st.c 0),st.s.put st.s.up.length d st.c (.box cs)⟩:=by
 have hb:∀σ σ',AO (st.c+1) σ σ'->AO st.c σ σ':=fun σ σ' ha=>ha.mono (cq _)
 refine⟨⟨cq _,⟨fun σ σ' δ ha=>?_,fun σ σ' pre ha=>?_,h.lp.put (VA rfl)⟩,St.put_len _ _ _ _ _⟩,d,hd,fun σ pre k hk=>⟨_,hn σ pre,fun γ=>?_⟩⟩
 ·simp only[HK,HI];rw[h.f σ σ' δ (hb _ _ ha),ha st.c (bm _)]
 ·simp only[CO,AX.ren];rw[h.s σ σ' pre (hb _ _ ha),hcs σ σ' _ (hb _ _ ha),ha st.c (bm _)]
 ·have:=hk (fun i=>if i=st.c then γ else σ i) (AO.upd _ _ _);have ha:=AO.upd st.c γ σ;simp only[HK,HI,if_true,CO,AX.ren]at this;rw[<-h.f _ _ _ ha,<-h.s _ _ _ ha,<-hcs _ _ _ ha]at this;rw[DB];exact this
def ON(P:ft)(d:Option Tmp)(T:gq)(st:XS):Option XS:=match d,B7 P T with
 |some d,some cs=>some ⟨st.c+1,(d,true,.ptr st.s.up.length d st.c 0)::st.fr,st.s.put st.s.up.length d st.c (.box cs)⟩
 |_,_=>none
def lQ(d:Option Tmp)(x:gk)(st:XS):Option XS:=match d,CD st.fr x with
 |some d,some v=>Bool.rec none (some ⟨st.c+1,(d,true,.ptr st.s.up.length d st.c 0)::st.fr,st.s.put st.s.up.length d st.c (.box (A5 v))⟩) (A8 v)
 |_,_=>none
theorem dX{o:fp}{T:gq}{st st':XS}(h:Bd st)(ho:o.op=.alloc T)(hx:ON P o.dst T st=some st'):gF P Ω o st st':=by
 unfold ON at hx;split at hx
 ·rename_i d cs hd hz;cases hx;refine dW h hd (fun σ σ' δ _=>by rw[GW hz,GW hz]) fun σ pre=>?_;simp[P4,ho,hz,GW hz]
 ·cases hx
theorem tS{o:fp}{T:gq}{x:gk}{st st':XS}(h:Bd st)(ho:o.op=.box T x)(hx:lQ o.dst x st=some st'):gF P Ω o st st':=by
 unfold lQ at hx;split at hx
 ·rename_i d v hd hv;cases hf:A8 v with
  |false=>rw[hf]at hx;cases hx
  |true=>
   rw[hf]at hx
   cases hx
   refine dW h hd (fun σ σ' δ ha=>ZV (h.rd hv) σ σ' δ ha) fun σ pre=>?_
   rw[DW]at hv
   simp[P4,ho,DI,hv,H8,hf,EI]
 ·cases hx
def WL(P:ft)(d:Option Tmp)(T:gq)(x y:gk)(st:XS):Option XS:=match d,BO P T with
 |some d,some (none,e)=>match CD st.fr x,CD st.fr y with
  |some (.int _ n),some (.int _ m)=>match B7 P e with
   |some z=>if 0<=n/\m=n/\z.length=P.cellsOf e/\n.toNat*P.bytesOf e<=140737488355328/\n.toNat<=maxLen then
     some ⟨st.c+1,(d,true,.vec st.s.up.length d st.c n.toNat)::st.fr,st.s.put st.s.up.length d st.c (.vec e (bw n.toNat z))⟩ else none
   |none=>none
  |_,_=>none
 |_,_=>none
theorem lR{o:fp}{T:gq}{x y:gk}{st st':XS}(h:Bd st)(ho:o.op=.makeSlice T x y)(hx:WL P o.dst T x y st=some st'):gF P Ω o st st':=by
 unfold WL at hx;split at hx
 ·rename_i d e hd hel;split at hx
  ·rename_i k1 n k2 m h1 h2;split at hx
   ·rename_i z hz;split at hx
    ·rename_i hc;cases hx;rw[DW]at h1 h2;have hr:∀σ δ,(bw n.toNat z).map (cj (V.ren σ δ))=bw n.toNat z:=fun σ δ=>by rw[dx,GW hz]
     have hb:∀σ σ',AO (st.c+1) σ σ'->AO st.c σ σ':=fun σ σ' ha=>ha.mono (cq _);refine⟨⟨cq _,⟨fun σ σ' δ ha=>?_,fun σ σ' pre ha=>?_,h.lp.put (VA rfl)⟩,St.put_len _ _ _ _ _⟩,d,hd,fun σ pre k hk=>⟨⟨.vec e (bw n.toNat z),none⟩,?_,fun γ=>?_⟩⟩
     ·show((st.fr.put d true _).ren σ δ)=((st.fr.put d true _).ren σ' δ);simp only[HK,HJ];rw[h.f σ σ' δ (hb _ _ ha),ha st.c (bm _)]
     ·simp only[CO,AX.ren,hr];rw[h.s σ σ' pre (hb _ _ ha),ha st.c (bm _)]
     ·simp only[P4,ho,DI,h1,h2,bq,EE,hel,hz];rw[if_pos hc]
     ·have:=hk (fun i=>if i=st.c then γ else σ i) (AO.upd _ _ _);have ha:=AO.upd st.c γ σ;change k ((st.fr.put d true _).ren _ _) _ at this;simp only[HK,HJ,if_true,CO,AX.ren,hr]at this;rw[<-h.f _ _ _ ha,<-h.s _ _ _ ha]at this;simp only[Mk.val,HD,bb];rw[DB];exact this
    ·cases hx
   ·cases hx
  ·cases hx
 ·cases hx
def xY(d:Option Tmp)(r:Option gk)(st:XS):Option XS:=match d,r with
 |some d,none=>some ⟨st.c+1,(d,true,.mp st.s.up.length d st.c)::st.fr,st.s.put st.s.up.length d st.c (.map [])⟩
 |_,_=>none
theorem tT{o:fp}{T:gq}{r:Option gk}{st st':XS}(h:Bd st)(ho:o.op=.makeMap T r)(hx:xY o.dst r st=some st'):gF P Ω o st st':=by
 unfold xY at hx;split at hx
 ·rename_i d hd;cases hx;have hb:∀σ σ',AO (st.c+1) σ σ'->AO st.c σ σ':=fun σ σ' ha=>ha.mono (cq _);refine⟨⟨cq _,⟨fun σ σ' δ ha=>?_,fun σ σ' pre ha=>?_,h.lp.put (VA rfl)⟩,St.put_len _ _ _ _ _⟩,d,hd,fun σ pre k hk=>⟨⟨.map [],none⟩,?_,fun γ=>?_⟩⟩
  ·show((st.fr.put d true _).ren σ δ)=((st.fr.put d true _).ren σ' δ);simp only[HK,Q4];rw[h.f σ σ' δ (hb _ _ ha),ha st.c (bm _)]
  ·simp only[CO,AX.ren,dj];rw[h.s σ σ' pre (hb _ _ ha),ha st.c (bm _)]
  ·simp only[P4,ho]
  ·have:=hk (fun i=>if i=st.c then γ else σ i) (AO.upd _ _ _);have ha:=AO.upd st.c γ σ;change k ((st.fr.put d true _).ren _ _) _ at this;simp only[HK,Q4,if_true,CO,AX.ren,dj]at this;rw[<-h.f _ _ _ ha,<-h.s _ _ _ ha]at this;simp only[Mk.val,HD];rw[DB];exact this
 ·cases hx
def I7(P:ft)(d:Option Tmp)(T:gq)(x y:gk)(st:XS):Option XS:=match d with
 |some _=>none
 |none=>match CD st.fr x,CD st.fr y with
  |some (.ptr l q γ off),some v=>match st.s.get l q with
   |some (γ',.box cs)=>if bz γ' γ&&A8 v&&cx 0 (P.cellsOf T)&&bz (A5 v).length (P.cellsOf T)&&dn (off+P.cellsOf T) cs.length&&cx γ st.c then some { st with s:=st.s.put l q γ (.box (AZ cs off (A5 v))) } else none
   |_=>none
  |some (.eptr l q γ i off),some v=>match st.s.get l q with
   |some (γ',.vec U es)=>if bz γ' γ&&A8 v&&cx 0 (P.cellsOf T)&&bz (A5 v).length (P.cellsOf T)&&cx i es.length&&dn (off+P.cellsOf T) (es.getD i []).length&&cx γ st.c then some { st with s:=st.s.put l q γ (.vec U (es.set i (AZ (es.getD i []) off (A5 v)))) } else none
   |_=>none
  |_,_=>none
theorem MV{st:XS}(h:Bd st){l q γ:Nat}{r:AX}(hg:st.s.get l q=some (γ,r))(σ σ':Nat->Nat)(δ:Nat)(ha:AO st.c σ σ'):r.ren σ δ=r.ren σ' δ:=by have h1:=BV (s:=st.s) (σ:=σ) (pre:=bw δ []) l q;have h2:=BV (s:=st.s) (σ:=σ') (pre:=bw δ []) l q;rw[h.s σ σ' _ ha,h2,hg]at h1;simp only[bq,bb,cw.injEq,fh.injEq]at h1;exact h1.2.symm
theorem KT(es:List (List V))(i:Nat)(x:List V):(es.set i x).map (cj (V.ren σ δ))=(es.map (cj (V.ren σ δ))).set i (x.map (V.ren σ δ)):=by simp[List.map_set]
theorem dY{o:fp}{T:gq}{x y:gk}{st st':XS}(h:Bd st)(ho:o.op=.store T x y)(hx:I7 P o.dst T x y st=some st'):StepX P o st st':=by
 unfold I7 at hx;split at hx
 ·cases hx
 ·rename_i hd;split at hx
  ·rename_i l q γ off v h1 h2;split at hx
   ·rename_i γ' cs hg;split at hx
    ·rename_i hc;simp only[bx,cd,cz]at hc;obtain⟨⟨⟨⟨⟨c1,c2⟩,c3⟩,c4⟩,c5⟩,c6⟩:=hc;have c1:=bj c1;have c4:=bj c4;subst c1;cases hx;have hv:=h.rd h2;refine⟨⟨bn _,h.putS c6 fun σ σ' δ ha=>?_,St.put_len _ _ _ _ _⟩,fun σ pre k hk=>?_⟩
     ·have hr:=MV h hg σ σ' δ ha;simp only[AX.ren,AX.box.injEq]at hr|-;rw[<-C7,<-C7,hr,ZV hv σ σ' δ ha]
     ·have:=hk σ (AO.refl _ _);rw[DW]at h1 h2;unfold ED;simp only[ho,DI,h1,h2,bq,HI,BV,hg,AX.ren];refine⟨trivial,trivial,by rw[H8];exact c2,c3,by rw[EI];simpa using c4,by simpa using c5,hd,?_⟩;rw[EI,C7];rw[CO]at this;exact this
    ·cases hx
   ·cases hx
  ·rename_i l q γ i off v h1 h2;split at hx
   ·rename_i γ' U es hg;split at hx
    ·rename_i hc;simp only[bx,cd,cz]at hc;obtain⟨⟨⟨⟨⟨⟨c1,c2⟩,c3⟩,c4⟩,c5⟩,c6⟩,c7⟩:=hc;have c1:=bj c1;have c4:=bj c4;subst c1;cases hx;have hv:=h.rd h2;refine⟨⟨bn _,h.putS c7 fun σ σ' δ ha=>?_,St.put_len _ _ _ _ _⟩,fun σ pre k hk=>?_⟩
     ·have hr:=MV h hg σ σ' δ ha;simp only[AX.ren,AX.vec.injEq,true_and]at hr|-;rw[KT,KT,<-C7,<-C7,<-EY,<-EY,hr,ZV hv σ σ' δ ha]
     ·have:=hk σ (AO.refl _ _);rw[DW]at h1 h2;unfold ED;simp only[ho,DI,h1,h2,bq,OJ,BV,hg,AX.ren];refine⟨trivial,trivial,by rw[H8];exact c2,c3,by rw[EI];simpa using c4,by simpa using c5,by rw[EY];simpa using c6,hd,?_⟩;rw[EY,EI,C7,<-KT];rw[CO]at this;exact this
    ·cases hx
   ·cases hx
  ·cases hx
def xZ(P:ft)(d:Option Tmp)(T:gq)(x i y:gk)(st:XS):Option XS:=match d with
 |some _=>none
 |none=>match CD st.fr x,CD st.fr i,CD st.fr y with
  |some m,some i,some v=>match LL P st.s T m i v with
   |some (l,q,γ,es)=>Bool.rec none (some { st with s:=st.s.put l q γ (.map es) }) (cx γ st.c)
   |none=>none
  |_,_,_=>none
theorem AJH{o:fp}{T:gq}{x i y:gk}{st st':XS}(h:Bd st)(ho:o.op=.mapUpdate T x i y)(hx:xZ P o.dst T x i y st=some st'):StepX P o st st':=by
 unfold xZ at hx;split at hx
 ·cases hx
 ·rename_i hd;split at hx
  ·rename_i m i' v h1 h2 h3;split at hx
   ·rename_i l q γ es hu;cases hb:cx γ st.c with
    |false=>rw[hb]at hx;cases hx
    |true=>
     rw[hb]at hx
     have hlt:γ<st.c:=by simpa using hb
     cases hx
     have hm:=h.rd h1
     have hi:=h.rd h2
     have hv:=h.rd h3
     refine⟨⟨bn _,h.putS hlt fun σ σ' δ ha=>?_,St.put_len _ _ _ _ _⟩,fun σ pre k hk=>?_⟩
     ·have q1:=U8 (σ:=σ) (pre:=bw δ []) hu;have q2:=U8 (σ:=σ') (pre:=bw δ []) hu;rw[h.s σ σ' _ ha,hm σ σ' _ ha,hi σ σ' _ ha,hv σ σ' _ ha,q2]at q1;simp only[cw.injEq,fh.injEq,bb]at q1;simp only[AX.ren,q1.2.2.2]
     ·have:=hk σ (AO.refl _ _);rw[DW]at h1 h2 h3;unfold ED;simp only[ho,DI,h1,h2,h3,bq,U8 hu];refine⟨trivial,hd,?_⟩;rw[CO]at this;exact this
   ·cases hx
  ·cases hx
def gG(P:ft)(d:Option Tmp)(args:List gk)(Ts:List gq)(st:XS):Option XS:=match args,Ts,d with
 |[x],[T],none=>match BO P T,CD st.fr x with
  |some (none,e),some (.vtl l q γ i n)=>match st.s.get l q,B7 P e with
   |some (γ',.vec U es),some z=>Bool.rec none (some { st with s:=st.s.put l q γ (.vec U (es.take i++bw n z++es.drop (i+n))) }) (bz γ' γ&&bz U e&&dn (i+n) es.length&&es.all (fun y=>y.length==z.length)&&cx γ st.c)
   |_,_=>none
  |_,_=>none
 |_,_,_=>none
theorem yA{o:fp}{args:Array gk}{Ts:Array gq}{st st':XS}(h:Bd st)(ho:o.op=.call { callee:=.builtin .clear,args:=args,argTypes:=Ts })(hx:gG P o.dst args.toList Ts.toList st=some st'):StepX P o st st':=by
 unfold gG at hx;split at hx
 ·rename_i x T ha hT hd;split at hx
  ·rename_i e l q γ i n hel h1;split at hx
   ·rename_i γ' U es z hg hz;cases hb:(bz γ' γ&&bz U e&&dn (i+n) es.length&&es.all (fun y=>y.length==z.length)&&cx γ st.c)with
    |false=>rw[hb]at hx;cases hx
    |true=>
     rw[hb]at hx
     cases hx
     simp only[bx,cd,cz]at hb
     obtain⟨⟨⟨⟨c1,c2⟩,c3⟩,c4⟩,c5⟩:=hb
     have c1:=bj c1
     have c2:=bj c2
     subst c1;subst c2
     have hz':∀σ δ,z.map (V.ren σ δ)=z:=fun σ δ=>GW hz
     refine⟨⟨bn _,h.putS c5 fun σ σ' δ ha=>?_,St.put_len _ _ _ _ _⟩,fun σ pre k hk=>?_⟩
     ·have hr:=MV h hg σ σ' δ ha;simp only[AX.ren,AX.vec.injEq,true_and]at hr|-;simp only[bc,ck,List.map_drop,dx,hz',hr]
     ·have:=hk σ (AO.refl _ _);rw[DW]at h1;unfold ED;simp only[ho,ha,hT,hd,hel,DI,h1,bq,XB,BV,hg,hz,AX.ren];refine⟨trivial,trivial,trivial,by simpa using c3,?_,?_⟩
      ·rw[fw];exact c4▸(by congr 1;funext x;simp)
      ·rw[CO]at this;simp only[AX.ren,bc,ck,List.map_drop,dx,hz']at this;exact this
   ·cases hx
  ·cases hx
 ·cases hx
theorem pI{o:fp}{l q γ:Nat}{r:AX}(h:C9 P o fr s=some (l,q,γ,r)):C9 P o (fr.ren σ pre.length) (s.emb σ pre)=some (l+pre.length,q,σ γ,r.ren σ pre.length):=by
 unfold C9 at h|-;split at h
 ·rename_i T x y ho;simp only[DI];split at h
  ·rename_i l1 q1 γ1 off v e1 e2;simp only[e1,e2,bq,HI,BV];split at h
   ·rename_i γ2 cs e3;split at h
    ·rename_i hc;cases h;obtain⟨c1,c2,c3,c4,c5,c6⟩:=hc;subst c1;simp only[e3,bq,AX.ren,H8,EI,bp];rw[if_pos ⟨trivial,c2,c3,c4,c5,c6⟩,C7]
    ·cases h
   ·cases h
  ·rename_i l1 q1 γ1 i off v e1 e2;simp only[e1,e2,bq,OJ,BV];split at h
   ·rename_i γ2 U es e3;split at h
    ·rename_i hc;cases h;obtain⟨c1,c2,c3,c4,c5,c6,c7⟩:=hc;subst c1;simp only[e3,bq,AX.ren,H8,EI,bp,EY];rw[if_pos ⟨trivial,c2,c3,c4,c5,c6,c7⟩,C7,<-KT]
    ·cases h
   ·cases h
  ·cases h
 ·cases h
theorem ADP{o:fp}{T:gq}{x y:gk}{st st':XS}(ho:o.op=.store T x y)(hx:I7 P o.dst T x y st=some st'):∃l q γ r,C9 P o st.fr st.s=some (l,q,γ,r)/\st'={ st with s:=st.s.put l q γ r }:=by
 unfold I7 at hx;unfold C9;simp only[ho];split at hx
 ·cases hx
 ·rename_i hd;split at hx
  ·rename_i l q γ off v h1 h2;split at hx
   ·rename_i γ' cs hg;split at hx
    ·rename_i hc;simp only[bx,cd,cz]at hc;obtain⟨⟨⟨⟨⟨c1,c2⟩,c3⟩,c4⟩,c5⟩,c6⟩:=hc;have c1:=bj c1;have c4:=bj c4;subst c1;cases hx;rw[DW]at h1 h2;refine⟨_,_,_,_,?_,rfl⟩;simp only[h1,h2,hg];rw[if_pos ⟨trivial,c2,c3,c4,c5,hd⟩]
    ·cases hx
   ·cases hx
  ·rename_i l q γ i off v h1 h2;split at hx
   ·rename_i γ' U es hg;split at hx
    ·rename_i hc;simp only[bx,cd,cz]at hc;obtain⟨⟨⟨⟨⟨⟨c1,c2⟩,c3⟩,c4⟩,c5⟩,c6⟩,c7⟩:=hc;have c1:=bj c1;have c4:=bj c4;subst c1;cases hx;rw[DW]at h1 h2;refine⟨_,_,_,_,?_,rfl⟩;simp only[h1,h2,hg];rw[if_pos ⟨trivial,c2,c3,c4,c5,c6,hd⟩]
    ·cases hx
   ·cases hx
  ·cases hx
def AA.hide(W:AK)(l:Nat)(L:AA):AA:=L.filter fun e=>!(W.contains (l,e.1))
theorem AA.get_hide(W:AK)(l:Nat):∀(L:AA) (k:Nat),(l,k)∉W->(L.hide W l).get k=L.get k
 |[],k,_=>rfl
 |(j,x)::L,k,hk=>by
  have ih:=AA.get_hide W l L k hk;unfold AA.hide at ih|-;rw[List.filter_cons];split
  ·simp only[AA.get];split
   ·rfl
   ·exact ih
  ·rename_i hc;simp only[fc,Bool.not_eq_false,List.contains_iff_mem]at hc;rw[ih];simp only[AA.get];rw[if_neg (fun e=>hk (by rw[e];simpa using hc))]
theorem AA.get_hide'(W:AK)(l:Nat):∀(L:AA) (k:Nat),(l,k)∈W->(L.hide W l).get k=none
 |[],k,_=>rfl
 |(j,x)::L,k,hk=>by
  have ih:=AA.get_hide' W l L k hk;unfold AA.hide at ih|-;rw[List.filter_cons];split
  ·rename_i hc;simp only[AA.get];rw[if_neg (fun e=>by subst e;simp[hk]at hc)];exact ih
  ·exact ih
def St.hide(W:AK)(s:St):St:=⟨s.up.mapIdx fun l L=>L.hide W l,s.loc.hide W s.up.length⟩
theorem St.get_hide{W:AK}{l k:Nat}(h:(l,k)∉W):(s.hide W).get l k=s.get l k:=by
 unfold St.get St.hide;simp only[fx];split
 ·rename_i e;subst e;exact AA.get_hide W _ _ _ h
 ·rw[dp];cases s.up[l]? with
  |none=>rfl
  |some L=>exact AA.get_hide W _ _ _ h
theorem St.get_hide'{W:AK}{l k:Nat}(h:(l,k)∈W):(s.hide W).get l k=none:=by
 unfold St.get St.hide;simp only[fx];split
 ·rename_i e;subst e;exact AA.get_hide' W _ _ _ h
 ·rw[dp];cases s.up[l]? with
  |none=>rfl
  |some L=>exact AA.get_hide' W _ _ _ h
theorem ZW(W:AK):WH W (s.hide W) s:=fun l k x e=>by
 by_cases h:(l,k)∈W
 ·rw[St.get_hide' h]at e;cases e
 ·exact⟨h,by rw[<-St.get_hide h];exact e⟩
def BN:Option V->AK
 |some (.ptr l k _ _)=>[(l,k)]
 |some (.eptr l k _ _ _)=>[(l,k)]
 |some (.vec l k _ _)=>[(l,k)]
 |some (.mp l k _)=>[(l,k)]
 |_=>[]
def CA(one:Bool)(x:Option V):AK:=match one,x with
 |true,some (.ptr l k _ off)=>[(l,k+ID),(l,k+HV),(l,GB k off)]
 |true,some (.eptr l k _ _ off)=>[(l,k+ID),(l,k+HV),(l,GB k off)]
 |_,x=>BN x
def CQ(one:Bool)(x:Option V):AK:=match one,x with
 |true,some (.ptr l k _ off)=>[(l,k),(l,GB k off)]
 |true,some (.eptr l k _ _ off)=>[(l,k),(l,GB k off)]
 |false,some (.ptr l k _ _)=>[(l,k),(l,k+HV)]
 |false,some (.eptr l k _ _ _)=>[(l,k),(l,k+HV)]
 |_,_=>[]
def ADQ:Option V->Bool
 |some (.ptr ..)=>true
 |some (.eptr ..)=>true
 |_=>false
def GQ:Option V->AK
 |some (.vec l k _ _)=>[(l,k)]
 |some (.vtl l k _ _ _)=>[(l,k)]
 |some (.ptr l k _ _)=>[(l,k)]
 |_=>[]
def J8:Option V->AK
 |some (.vec l k _ _)=>[(l,k+ID)]
 |_=>[]
def lS(P:ft)(o:fp)(r:gk->Option V):Bool:=match o.op with
 |.load T x=>bz (P.cellsOf T) 1&&ADQ (r x)
 |.indexAddr _ x _=>match r x with
  |some (.vec ..)=>true
  |_=>false
 |_=>false
def J9(r:gk->Option V):List gk->AK
 |[_,y]=>GQ (r y)
 |_=>[]
def D9(P:ft)(o:fp)(r:gk->Option V):AK:=match o.op with
 |.load T x=>CA (bz (P.cellsOf T) 1) (r x)
 |.indexAddr _ x _=>J8 (r x)
 |.slice _ x ..=>GQ (r x)
 |.lookup _ x ..=>BN (r x)
 |.call { callee:=.builtin .append,args,.. }=>J9 r args.toList
 |_=>[]
theorem gH{W:AK}{x:V}{es:List (List V)}(h:elemsOf s x=some es)(hr:∀p∈GQ (some x),p∉W):elemsOf (s.hide W) x=some es:=by
 cases x with
 |vec l k g n=>
  have hn:(l,k)∉W:=hr _ (by simp[GQ])
  simp only[elemsOf,St.get_hide hn]at h|-
  exact h
 |vtl l k g i n=>
  have hn:(l,k)∉W:=hr _ (by simp[GQ])
  simp only[elemsOf,St.get_hide hn]at h|-
  exact h
 |list b es=>exact h
 |nil=>exact h
 |_=>cases h
theorem ADR{W:AK}{o:fp}{r:gk->Option V}{v:V}(h:JE P o s r=some v)(hi:lS P o r=false)(hr:∀p∈D9 P o r,p∉W):JE P o (s.hide W) r=some v:=by
 unfold JE at h|-;split at h;case h_4 T x ho=>
  obtain⟨p,h1,h2⟩:=bk.1 h
  obtain⟨cs,h3,h4⟩:=bk.1 h2
  have:A6 (s.hide W) p=some cs:=by
   cases p with
   |ptr l k g off=>
    have hb:bz (P.cellsOf T) 1=false:=by simpa [lS,ho,h1,ADQ]using hi
    have hn:(l,k)∉W:=hr _ (by simp[D9,ho,h1,CA,hb,BN])
    simp only[A6,St.get_hide hn]at h3|-;exact h3
   |eptr l k g i off=>
    have hb:bz (P.cellsOf T) 1=false:=by simpa [lS,ho,h1,ADQ]using hi
    have hn:(l,k)∉W:=hr _ (by simp[D9,ho,h1,CA,hb,BN])
    simp only[A6,St.get_hide hn]at h3|-;exact h3
   |_=>exact h3
  simp only[h1,bg,this,h4]
 case h_10 T x i ho=>
  obtain⟨p,h1,h2⟩:=bk.1 h
  obtain⟨q,h3,h4⟩:=bk.1 h2
  have:BL P (s.hide W) T p q=some v:=by
   unfold BL at h4|-;split at h4
   ·exact h4
   ·rename_i e l k g n k' j e1;simp[lS,ho,h1]at hi
   ·exact h4
   ·exact h4
   ·exact h4
   ·cases h4
  simp only[h1,h3,bg,this]
 case h_16 T x lo hi mx ho=>
  obtain⟨p,h1,h2⟩:=bk.1 h
  obtain⟨q,h3,h4⟩:=bk.1 h2
  obtain⟨q',h5,h6⟩:=bk.1 h4
  obtain⟨q2,h7,h8⟩:=bk.1 h6
  have:CS P (s.hide W) T p q q' q2=some v:=by
   unfold CS at h8|-;split at h8;case h_6 e l k g n k' i e1=>
    have hn:(l,k)∉W:=hr _ (by simp[D9,ho,h1,GQ])
    simp only[St.get_hide hn];exact h8
   case h_7 n e l k g o e1=>
    have hn:(l,k)∉W:=hr _ (by simp[D9,ho,h1,GQ])
    simp only[St.get_hide hn];exact h8
   all_goals exact h8
  simp only[h1,h3,h5,h7,bg,this]
 case h_17 T x i ok ho=>
  obtain⟨p,h1,h2⟩:=bk.1 h
  obtain⟨q,h3,h4⟩:=bk.1 h2
  have:DL P (s.hide W) T p q ok=some v:=by
   unfold DL at h4|-;split at h4
   ·rename_i K E l k g e1;have hn:(l,k)∉W:=hr _ (by simp[D9,ho,h1,BN]);simp only[St.get_hide hn];exact h4
   ·cases h4
  simp only[h1,h3,bg,this]
 all_goals exact h
theorem yB{W:AK}{o:fp}{v:V}(h:FE P g o fr s=some v)(hi:lS P o (DT g fr)=false)(hr:∀p∈D9 P o (DT g fr),p∉W):FE P g o fr (s.hide W)=some v:=by
 unfold FE at h|-;split at h
 ·exact h
 ·exact h
 ·exact h
 ·exact ADR h hi hr
def bN(δ:Nat)(W:AK):AK:=W.map fun p=>(p.1+δ,p.2)
theorem MW{W:AK}{l k:Nat}:(l+δ,k)∈bN δ W↔(l,k)∈W:=by
 unfold bN;simp only[dk,fh.injEq,Prod.exists];constructor
 ·rintro ⟨a,b,h,h1,h2⟩;have:a=l:=by omega
  subst this;subst h2;exact h
 ·intro h;exact⟨l,k,h,rfl,rfl⟩
theorem WM(x:Option V):BN (x.map (V.ren σ δ))=bN δ (BN x):=by
 cases x with
 |none=>rfl
 |some v=>cases v<;>simp[BN,bN]
theorem Q8(x:Option V):GQ (x.map (V.ren σ δ))=bN δ (GQ x):=by
 cases x with
 |none=>rfl
 |some v=>cases v<;>simp[GQ,bN]
theorem pJ(x:Option V):J8 (x.map (V.ren σ δ))=bN δ (J8 x):=by
 cases x with
 |none=>rfl
 |some v=>cases v<;>simp[J8,bN]
theorem pK(b:Bool)(x:Option V):CA b (x.map (V.ren σ δ))=bN δ (CA b x):=by
 cases b with
 |false=>exact WM x
 |true=>
  cases x with
  |none=>rfl
  |some v=>cases v<;>simp[CA,BN,bN]
theorem AQY{W:AK}{o:fp}{v:V}(h:FE P g o fr s=some v)(hi:lS P o (DT g fr)=true)(hr:∀p∈D9 P o (DT g fr),p∉W):cG P W g o fr s v:=by
 unfold lS at hi;split at hi
 ·rename_i T x ho;rw[bx]at hi;have h1:=bj hi.1;unfold FE at h;simp only[ho,JE]at h;obtain⟨p,hx,h⟩:=bk.1 h;obtain⟨cs,hcs,hv⟩:=bk.1 h;have hp:=hi.2;rw[hx]at hp;cases p with
  |ptr l k γ off=>
   have hr':∀p∈[(l,k+ID),(l,k+HV),(l,GB k off)],p∉W:=fun p hp=>hr p (by simp only[D9,ho,hx,hi.1,CA];exact hp)
   refine .inr ⟨T,x,_,cs,l,k,off,ho,hx,rfl,hcs,hv,by omega,hr' _ (by simp),hr' _ (by simp),fun c hc=>?_⟩
   obtain rfl:c=0:=by omega
   exact hr' _ (by simp)
  |eptr l k γ i off=>
   have hr':∀p∈[(l,k+ID),(l,k+HV),(l,GB k off)],p∉W:=fun p hp=>hr p (by simp only[D9,ho,hx,hi.1,CA];exact hp)
   refine .inr ⟨T,x,_,cs,l,k,off,ho,hx,rfl,hcs,hv,by omega,hr' _ (by simp),hr' _ (by simp),fun c hc=>?_⟩
   obtain rfl:c=0:=by omega
   exact hr' _ (by simp)
  |_=>cases hp
 ·rename_i T x i ho;split at hi
  ·rename_i l k γ n hx;unfold FE at h;simp only[ho,JE,hx,bg]at h;obtain⟨iv,hiv,h⟩:=bk.1 h;unfold BL at h;split at h
   ·rename_i e1 e2;cases e2
   ·rename_i e l' k' γ' n' ki j e1 e2;cases e2;split at h
    ·rename_i γ2 T' es hget;split at h
     ·rename_i hc;obtain⟨rfl,hc⟩:=hc;exact .inl ⟨T,x,i,e,_,_,_,_,ki,j,T',es,ho,hx,hiv,e1,hr _ (by simp[D9,ho,hx,J8]),hget,hc,(cw.inj h).symm⟩
     ·cases h
    ·cases h
   ·rename_i e1 e2;cases e2
   ·rename_i e1 e2;cases e2
   ·rename_i e1 e2;cases e2
   ·cases h
  ·cases hi
 ·cases hi
theorem pL{r:gk->Option V}(l:List gk):J9 (fun x=>(r x).map (V.ren σ δ)) l=bN δ (J9 r l):=by
 unfold J9;split
 ·exact Q8 _
 ·rfl
theorem pM{o:fp}{r:gk->Option V}:D9 P o (fun x=>(r x).map (V.ren σ δ))=bN δ (D9 P o r):=by
 unfold D9;split
 ·exact pK _ _
 ·exact pJ _
 ·exact Q8 _
 ·exact WM _
 ·exact pL _
 ·rfl
theorem lT{W rd:AK}(h:∀p∈rd,p∉W):∀p∈bN δ rd,p∉bN δ W:=by intro p hp;unfold bN at hp;obtain⟨⟨l,k⟩,hq,rfl⟩:=dk.1 hp;exact fun hc=>h _ hq (MW.1 hc)
end Go.Pg
namespace Go.Pg
variable {P:ft}{σ σ':Nat->Nat}{δ:Nat}{pre:List AA}{s:St}{fr:Fr}{g:Bool}
def rdC(fr:Fr)(x:gk):Option (Bool×V):=match x with
 |.tmp t=>BR fr t
 |.const v=>match CL v with
  |some x=>some (true,x)
  |none=>none
 |.func f=>some (true,.fn f [] [])
 |.global _=>none
theorem AQZ(x:gk):rdC fr x=rd fr x:=by
 cases x with
 |tmp t=>exact E5 fr t
 |const v=>simp only[rdC,rd];cases CL v<;>rfl
 |func f=>rfl
 |global g=>rfl
def tU(fr:Fr)(c a b:gk):Option V:=match CD fr c,rdC fr a,rdC fr b with
 |some (.bool c),some (ca,.bool a),some (cb,.bool b)=>Bool.rec (Bool.rec none (some (.bool b)) cb) (Bool.rec none (some (.bool a)) ca) c
 |_,_,_=>none
def NE(P:ft)(fr:Fr)(s:St)(T:gq)(x:gk):Option V:=match CD fr x with
 |some p=>match A6 s p with
  |some cs=>BI P T cs
  |none=>none
 |none=>none
def xFA(P:ft)(fr:Fr)(T:gq)(x:gk)(f:Nat):Option V:=match CD fr x with
 |some p=>C6 P T p f
 |none=>none
def yC(P:ft)(fr:Fr)(op:BinOp)(T:gq)(x y:gk):Option V:=match CD fr x,CD fr y with
 |some a,some b=>F9 P op T a b
 |_,_=>none
def VB(P:ft)(fr:Fr)(T:gq)(ps:List (Nat×gk)):Option V:=match C8 (CD fr) ps with
 |some l=>CZ P T l
 |none=>none
def PK(P:ft)(fr:Fr)(T:gq)(n:Nat)(ps:List (Nat×gk)):Option V:=match C8 (CD fr) ps with
 |some l=>B5 P T n l
 |none=>none
def AJI(P:ft)(o:fp)(fr:Fr)(s:St):Option V:=match o.op with
 |.move x=>CD fr x
 |.assign x=>CD fr x
 |.load T x=>NE P fr s T x
 |.fieldAddr T x f=>xFA P fr T x f
 |.binOp op T x y _=>yC P fr op T x y
 |.pick c a b=>tU fr c a b
 |.build T ps=>VB P fr T ps.toList
 |.buildSlice T n ps=>PK P fr T n ps.toList
 |_=>JE P o s (CD fr)
theorem PL{o:fp}{v:V}(h:AJI P o fr s=some v):FE P true o fr s=some v:=by
 unfold AJI at h;unfold FE;split at h<;>rename_i ho
 ·simp only[ho,JE,<-E6];exact h
 ·simp only[ho,JE,<-E6];exact h
 ·unfold NE at h;split at h
  ·rename_i p e1;split at h
   ·rename_i cs e2;simp only[ho,JE,<-E6,e1,e2,bg];exact h
   ·cases h
  ·cases h
 ·unfold xFA at h;split at h
  ·rename_i p e1;simp only[ho,JE,<-E6,e1,bg];exact h
  ·cases h
 ·unfold yC at h;split at h
  ·rename_i a b e1 e2;simp only[ho,JE,<-E6,e1,e2,bg];exact h
  ·cases h
 ·unfold tU at h;simp only[AQZ]at h;split at h
  ·rename_i c ca a cb b e1 e2 e3;rw[DW]at e1;simp only[ho,e1,e2,e3];cases c with
   |true=>
    cases ca with
    |false=>cases h
    |true=>cases h;simp
   |false=>
    cases cb with
    |false=>cases h
    |true=>cases h;simp
  ·cases h
 ·unfold VB at h;split at h
  ·rename_i l e1;simp only[ho,<-E6,e1,bg];exact h
  ·cases h
 ·unfold PK at h;split at h
  ·rename_i l e1;simp only[ho,<-E6,e1,bg];exact h
  ·cases h
 ·rw[E6]at h;split
  ·rename_i ho';rw[JE,ho']at h;cases h
  ·rename_i ho';rw[JE,ho']at h;cases h
  ·rename_i ho';rw[JE,ho']at h;cases h
  ·exact h
theorem JQ{α:Type}{b:Bool}{x y:α}(h:(Bool.rec none (some x) b:Option α)=some y):b=true/\x=y:=by
 cases b with
 |false=>cases h
 |true=>exact⟨rfl,cw.inj h⟩
theorem EF{α:Type}{b:Bool}{x:Option α}{y:α}(h:(Bool.rec none x b:Option α)=some y):b=true/\x=some y:=by
 cases b with
 |false=>cases h
 |true=>exact⟨rfl,h⟩
theorem TQ{st:XS}(h:Bd st){v:V}{ys:List (List V)}(hv:UF st.c v)(he:elemsOf st.s v=some ys)(σ σ':Nat->Nat)(δ:Nat)(ha:AO st.c σ σ'):ys.map (cj (V.ren σ δ))=ys.map (cj (V.ren σ' δ)):=by have h1:=GY (σ:=σ) (pre:=bw δ []) he;have h2:=GY (σ:=σ') (pre:=bw δ []) he;rw[h.s σ σ' _ ha,hv σ σ' _ ha,h2]at h1;have:=cw.inj h1;rw[bb]at this;exact this.symm
theorem FH(ys:List (List V))(m:Nat):(ys.map (cj (V.ren σ δ))).all (fun y=>y.length==m)=ys.all (fun y=>y.length==m):=by rw[fw];congr 1;funext y;simp
def lU(P:ft)(d:Tmp)(e:gq)(ys:List (List V))(st:XS)(xv:V):Option (XS×Nat×Nat):=match xv with
 |.vec l q γ n=>match QY n ys (st.s.get l q)with
  |some (γ',.vec W es)=>Bool.rec none (some (⟨st.c+1,(d,true,.vec l q st.c (es++ys).length)::st.fr,st.s.put l q st.c (.vec e (es++ys))⟩,l,q))
    (bz γ' γ&&bz W e&&bz n es.length&&es.all (fun y=>y.length==P.cellsOf e)&&B8 P e es.length ys)
  |_=>none
 |_=>none
def xAppG(el:St->V->Option (List (List V)))(P:ft)(d:Option Tmp)(args:List gk)(Ts:List gq)(st:XS):Option (XS×Nat×Nat):=match args,Ts,d with
 | [x,y],[T,U],some d=>Bool.rec none (match BO P T with
  |some (none,e)=>match CD st.fr x,CD st.fr y with
   |some xv,some yv=>match el st.s yv with
    |some ys=>match IU xv ys with
     |some es=>Bool.rec none (some (⟨st.c+1,(d,true,.vec st.s.up.length d st.c (es++ys).length)::st.fr,st.s.put st.s.up.length d st.c (.vec e (es++ys))⟩,st.s.up.length,d)) (es.all (fun y=>y.length==P.cellsOf e)&&B8 P e es.length ys)
     |none=>lU P d e ys st xv
    |none=>none
   |_,_=>none
  | _=>none) (bz T U)
 |_,_,_=>none
theorem ADS(v:V):WV (v.ren σ δ)=WV v:=by
 cases v with
 |list f es=>cases f<;>cases es<;>simp[WV]
 |_=>simp[WV]
theorem lV(v:V)(ys:List (List V)):IU (v.ren σ δ) (ys.map (cj (V.ren σ δ)))=(IU v ys).map (cj (cj (V.ren σ δ))):=by
 cases v with
 |list f es=>cases f<;>cases es<;>cases ys<;>simp[IU]
 |_=>simp[IU]
theorem pN{v:V}{es ys:List (List V)}(h:IU v ys=some es):elemsOf s v=some es:=by unfold IU at h;split at h<;>cases h<;>rfl
theorem dZ{e:gq}{n:Nat}(ys:List (List V)):B8 P e n (ys.map (cj (V.ren σ δ)))=B8 P e n ys:=by unfold B8;rw[FH,bp]
theorem ADT{n:Nat}(ys es:List (List V)):YX n (ys.map (cj (V.ren σ δ))) (es.map (cj (V.ren σ δ)))=(YX n ys es).map (cj (V.ren σ δ)):=by
 cases ys with
 |nil=>rfl
 |cons y ys=>
  show(if _ then _ else _)=(if _ then _ else _:List (List V)).map _
  have e:(es.map (cj (V.ren σ δ))).all (fun x=>x.length==(y.map (V.ren σ δ)).length)=es.all (fun x=>x.length==y.length):=by rw[fw,bp];congr 1;funext x;simp
  rw[e]
  split
  ·rw[ck]
  ·rfl
theorem lW{n γ:Nat}{ys es:List (List V)}{U:gq}{o:Option (Nat×AX)}(h:QY n ys o=some (γ,.vec U es)):QY n (ys.map (cj (V.ren σ δ))) (o.map fun p=>(σ p.1,p.2.ren σ δ))=some (σ γ,.vec U (es.map (cj (V.ren σ δ)))):=by obtain⟨es0,rfl,rfl⟩:=PD h;show some (σ γ,AX.vec U (YX n _ _))=_;rw[ADT]
theorem ZX{el:St->V->Option (List (List V))}(hel0:∀s v es,el s v=some es->elemsOf s v=some es){o:fp}{args:Array gk}{Ts:Array gq}{st st':XS}{l q:Nat}(h:Bd st)(ho:o.op=.call { callee:=.builtin .append,args:=args,argTypes:=Ts })
  (hx:xAppG el P o.dst args.toList Ts.toList st=some (st',l,q)):∃d r,o.dst=some d/\cJ r=true/\st'=⟨st.c+1,(d,true,HD r l q st.c)::st.fr,st.s.put l q st.c r⟩/\(∀σ σ' δ,AO st.c σ σ'->r.ren σ δ=r.ren σ' δ) /\
   (∀(σ:Nat->Nat) (pre:List AA) (k:Fr->St->Prop),(∀γ,k ((st.fr.ren σ pre.length).put d true (HD (r.ren σ pre.length) (l+pre.length) q γ)) ((st.s.emb σ pre).put (l+pre.length) q γ (r.ren σ pre.length)))->ED P true o (st.fr.ren σ pre.length) (st.s.emb σ pre) k) /\
   (∀(W:AK) (σ:Nat->Nat) (pre:List AA),(∀p∈J9 (CD st.fr) args.toList,p∉W)->WX P o (st.fr.ren σ pre.length) ((st.s.emb σ pre).hide (bN pre.length W)) (st.s.emb σ pre)=some (l+pre.length,q,r.ren σ pre.length)):=by
 unfold xAppG at hx
 split at hx
 ·rename_i x y T U d ha hT hd;obtain⟨hTU,hx2⟩:=EF hx;clear hx;have hTU:=bj hTU;subst hTU;have hx:=hx2;clear hx2;split at hx
  ·rename_i e hel;split at hx
   ·rename_i xv yv h1 h2;split at hx
    ·rename_i ys hys0;have hys:=hel0 _ _ _ hys0;have hyb:=TQ h (h.rd h2) hys;have r1:=h1;have r2:=h2;rw[DW]at r1 r2;have hys2:∀(W:AK) (σ:Nat->Nat) (pre:List AA),(∀p∈J9 (CD st.fr) args.toList,p∉W)->elemsOf ((st.s.emb σ pre).hide (bN pre.length W)) (yv.ren σ pre.length)=some (ys.map (cj (V.ren σ pre.length))):=fun W σ pre hW=>by refine gH (GY hys) ?_;rw[ha]at hW;simp only[J9,h2]at hW;have:=lT (δ:=pre.length) hW;rw[<-Q8 (σ:=σ)]at this;exact this
     cases hn:IU xv ys with
     |some es=>
      rw[hn]at hx
      obtain⟨hc,he⟩:=JQ hx
      simp only[fh.injEq]at he
      obtain⟨rfl,rfl,rfl⟩:=he
      simp only[bx]at hc
      obtain⟨hce,hc⟩:=hc
      have heb:=TQ h (h.rd h1) (pN hn)
      refine⟨d,.vec e (es++ys),hd,rfl,rfl,fun σ σ' δ hag=>by simp only[AX.ren,bc,hyb σ σ' δ hag,heb σ σ' δ hag],fun σ pre k hk=>?_,fun W σ pre hW=>?_⟩
      ·have hc':=hc;simp only[B8,bx,cd,cz]at hc;obtain⟨⟨⟨⟨c1,c2⟩,c3⟩,c4⟩,c5⟩:=hc;unfold ED;simp only[ho,ha,hT,hd,hel,DI,r1,r2,bq,bg,GY hys,lV,hn,true_and];refine⟨c1,c2,by rw[FH];exact hce,by rw[FH];exact c3,by simpa using c4,by simpa using c5,fun γ=>?_⟩;have:=hk γ;simp only[HD,AX.ren]at this;rw[DB,<-bc];exact this
      ·unfold WX;simp only[ho,ha,hT,hd,hel,DI,r1,r2,bq,bg,hys2 _ _ _ hW,lV,hn,if_true,DB,AX.ren];rw[if_pos ⟨by rw[FH];exact hce,by rw[dZ,bp];exact hc⟩,bc]
     |none=>
      rw[hn]at hx
      replace hx:lU P d e ys st xv=some (st',l,q):=hx
      unfold lU at hx
      split at hx
      ·rename_i l0 q0 γ0 n';split at hx
       ·rename_i γ' W es hg;obtain⟨hc,he⟩:=JQ hx;simp only[fh.injEq]at he;obtain⟨rfl,rfl,rfl⟩:=he;simp only[bx]at hc;obtain⟨⟨⟨⟨c1,c2⟩,c3⟩,c6⟩,c7⟩:=hc;have c1:=bj c1;have c2:=bj c2;have c3:=bj c3;subst c1;subst c2;subst c3;have heb:∀σ σ' δ,AO st.c σ σ'->es.map (cj (V.ren σ δ))=es.map (cj (V.ren σ' δ)):=fun σ σ' δ ha=>by
         obtain⟨es0,hg0,e0⟩:=PD hg;have:=MV h hg0 σ σ' δ ha;have e1:es0.map (cj (V.ren σ δ))=es0.map (cj (V.ren σ' δ)):=by simpa [AX.ren]using this
         rcases UU es.length ys es0 with e2|⟨e2,_⟩
         ·rw[e0,e2,e1]
         ·rw[e0,e2,ck,ck,e1]
        refine⟨d,.vec W (es++ys),hd,rfl,rfl,fun σ σ' δ hag=>by simp only[AX.ren,bc,hyb σ σ' δ hag,heb σ σ' δ hag],fun σ pre k hk=>?_,fun W σ pre hW=>?_⟩
        ·simp only[B8,bx,cd,cz]at c7;obtain⟨⟨⟨⟨d1,d2⟩,d3⟩,d4⟩,d5⟩:=c7;have hnn:IU (V.vec (l0+pre.length) q0 (σ γ') es.length) (ys.map (cj (V.ren σ pre.length)))=none:=rfl;unfold ED;simp only[ho,ha,hT,hd,hel,DI,r1,r2,bq,bg,GY hys,HJ,BV,lW hg,true_and,hnn];refine⟨by simp,d1,d2,by rw[FH];exact c6,by rw[FH];exact d3,by simpa using d4,by simpa using d5,fun γ=>?_⟩;have:=hk γ;simp only[HD,AX.ren,bc,cg,bp]at this|-;exact this
        ·have hnn:IU (V.vec (l0+pre.length) q0 (σ γ') es.length) (ys.map (cj (V.ren σ pre.length)))=none:=rfl;unfold WX;simp only[ho,ha,hT,hd,hel,DI,r1,r2,bq,bg,hys2 _ _ _ hW,HJ,BV,lW hg,hnn,if_true];rw[if_pos ⟨trivial,trivial,by simp,by rw[FH];exact c6,by rw[dZ,bp];exact c7⟩];simp only[AX.ren,bc]
       ·cases hx
      ·cases hx
    ·cases hx
   ·cases hx
  ·cases hx
 ·cases hx
theorem ZY{st:XS}(h:Bd st){d l q:Nat}{r:AX}(hp:cJ r=true)(hr:∀σ σ' δ,AO st.c σ σ'->r.ren σ δ=r.ren σ' δ):KJ st ⟨st.c+1,(d,true,HD r l q st.c)::st.fr,st.s.put l q st.c r⟩:=by
 have hb:∀σ σ',AO (st.c+1) σ σ'->AO st.c σ σ':=fun σ σ' ha=>ha.mono (cq _);refine⟨cq _,⟨fun σ σ' δ ha=>?_,fun σ σ' pre ha=>?_,h.lp.put (VA hp)⟩,St.put_len _ _ _ _ _⟩
 ·show((st.fr.put d true (HD r l q st.c)).ren σ δ)=((st.fr.put d true (HD r l q st.c)).ren σ' δ);have e:∀σ:Nat->Nat,(HD r l q st.c).ren σ δ=HD (r.ren σ δ) (l+δ) q (σ st.c):=fun σ=>by cases r<;>simp[HD,AX.ren]
  simp only[HK,e];rw[h.f σ σ' δ (hb _ _ ha),ha st.c (bm _),hr σ σ' δ (hb _ _ ha)]
 ·simp only[CO];rw[h.s σ σ' pre (hb _ _ ha),hr σ σ' _ (hb _ _ ha),ha st.c (bm _)]
theorem lX(r:AX)(l q γ:Nat):(HD r l q γ).ren σ δ=HD (r.ren σ δ) (l+δ) q (σ γ):=by cases r<;>simp[HD,AX.ren]
theorem pO{st:XS}(h:Bd st){d l q:Nat}{r:AX}(hr:∀σ σ' δ,AO st.c σ σ'->r.ren σ δ=r.ren σ' δ){σ:Nat->Nat}{pre:List AA}{k:Fr->St->Prop}
  (hk:∀σ',AO st.c σ σ'->k (Fr.ren σ' pre.length ((d,true,HD r l q st.c)::st.fr)) ((st.s.put l q st.c r).emb σ' pre)) (γ:Nat):k ((st.fr.ren σ pre.length).put d true (HD (r.ren σ pre.length) (l+pre.length) q γ)) ((st.s.emb σ pre).put (l+pre.length) q γ (r.ren σ pre.length)):=by
 have:=hk (fun i=>if i=st.c then γ else σ i) (AO.upd _ _ _)
 have hag:=AO.upd st.c γ σ
 change k ((st.fr.put d true _).ren _ _) _ at this
 simp only[HK,lX,if_true,CO]at this
 rw[<-h.f _ _ _ hag,<-h.s _ _ _ hag,<-hr _ _ _ hag]at this
 exact this
theorem tV(r:Mk)(l k γ:Nat):(r.val l k γ).ren σ δ=Mk.val ⟨r.res.ren σ δ,r.t⟩ (l+δ) k (σ γ):=by
 obtain⟨r,t⟩:=r;cases t with
 |none=>exact lX _ _ _ _
 |some t=>exact MR t
theorem yD{st:XS}(h:Bd st){d l q:Nat}{r:Mk}(hp:cJ r.res=true)(hr:∀σ σ' δ,AO st.c σ σ'->r.res.ren σ δ=r.res.ren σ' δ):KJ st ⟨st.c+1,(d,true,r.val l q st.c)::st.fr,st.s.put l q st.c r.res⟩:=by
 have hb:∀σ σ',AO (st.c+1) σ σ'->AO st.c σ σ':=fun σ σ' ha=>ha.mono (cq _);refine⟨cq _,⟨fun σ σ' δ ha=>?_,fun σ σ' pre ha=>?_,h.lp.put (VA hp)⟩,St.put_len _ _ _ _ _⟩
 ·show((st.fr.put d true (r.val l q st.c)).ren σ δ)=((st.fr.put d true (r.val l q st.c)).ren σ' δ);simp only[HK,tV];rw[h.f σ σ' δ (hb _ _ ha),ha st.c (bm _),hr σ σ' δ (hb _ _ ha)]
 ·simp only[CO];rw[h.s σ σ' pre (hb _ _ ha),hr σ σ' _ (hb _ _ ha),ha st.c (bm _)]
theorem AJJ{st:XS}(h:Bd st){d l q:Nat}{r:Mk}(hr:∀σ δ,r.res.ren σ δ=r.res){σ:Nat->Nat}{pre:List AA}{k:Fr->St->Prop}
  (hk:∀σ',AO st.c σ σ'->k (Fr.ren σ' pre.length ((d,true,r.val l q st.c)::st.fr)) ((st.s.put l q st.c r.res).emb σ' pre)) (γ:Nat):k ((st.fr.ren σ pre.length).put d true (r.val (l+pre.length) q γ)) ((st.s.emb σ pre).put (l+pre.length) q γ r.res):=by
 have:=hk (fun i=>if i=st.c then γ else σ i) (AO.upd _ _ _)
 have hag:=AO.upd st.c γ σ
 change k ((st.fr.put d true _).ren _ _) _ at this
 simp only[HK,tV,if_true,CO,hr]at this
 rw[<-h.f _ _ _ hag,<-h.s _ _ _ hag]at this
 exact this
def xAppend(P:ft)(d:Option Tmp)(args:List gk)(Ts:List gq)(st:XS):Option XS:=match xAppG elemsOf P d args Ts st with
 |some (st',_,_)=>some st'
 |none=>none
theorem pP{o:fp}{args:Array gk}{Ts:Array gq}{st st':XS}(h:Bd st)(ho:o.op=.call { callee:=.builtin .append,args:=args,argTypes:=Ts })(hx:xAppend P o.dst args.toList Ts.toList st=some st'):StepX P o st st':=by
 unfold xAppend at hx;split at hx
 ·rename_i st1 l q e1;cases hx;obtain⟨d,r,hd,hp,rfl,hr,hs,_⟩:=ZX (fun _ _ _ h=>h) h ho e1;exact⟨ZY h hp hr,fun σ pre k hk=>hs σ pre k fun γ=>pO h hr hk γ⟩
 ·cases hx
def tW(P:ft)(d:Option Tmp)(args:List gk)(Ts:List gq)(st:XS):Option XS:=match args,Ts with
 |[x,y],[T,_]=>match BO P T,CD st.fr x,CD st.fr y with
  |some (none,e),some (.vtl l q γ i n),some yv=>match st.s.get l q,elemsOf st.s yv with
   |some (γ',.box cs),some ys=>Bool.rec none (some { st with fr:=putD st.fr d true (.int .i64 ((min ys.length n:Nat):Int)),s:=st.s.put l q γ (.box (AZ cs i (ys.take n).flatten)) }) (bz γ' γ&&bz (P.cellsOf e) 1&&ys.all (fun y=>y.length==1)&&dn (i+n) cs.length&&cx γ st.c)
   |_,_=>none
  |_,_,_=>none
 |_,_=>none
theorem ADU{o:fp}{args:Array gk}{Ts:Array gq}{st st':XS}(h:Bd st)(ho:o.op=.call { callee:=.builtin .copy,args:=args,argTypes:=Ts })(hx:tW P o.dst args.toList Ts.toList st=some st'):StepX P o st st':=by
 unfold tW at hx;split at hx
 ·rename_i x y T U ha hT;split at hx
  ·rename_i e l q γ i n yv hel h1 h2;split at hx
   ·rename_i γ' cs ys hg hys;cases hb:(bz γ' γ&&bz (P.cellsOf e) 1&&ys.all (fun y=>y.length==1)&&dn (i+n) cs.length&&cx γ st.c)with
    |false=>rw[hb]at hx;cases hx
    |true=>
     rw[hb]at hx
     cases hx
     simp only[bx,cd,cz]at hb
     obtain⟨⟨⟨⟨c1,c2⟩,c3⟩,c4⟩,c5⟩:=hb
     have c1:=bj c1
     have c2:=bj c2
     subst c1
     have hB:Bd { st with s:=st.s.put l q γ' (.box (AZ cs i (ys.take n).flatten)) }:=h.putS c5 fun σ σ' δ ha=>by have hr:=MV h hg σ σ' δ ha;have he:=TQ h (h.rd h2) hys σ σ' δ ha;simp only[AX.ren,AX.box.injEq]at hr|-;rw[<-C7,<-C7,hr,dc,dc,ck,ck,he]
     refine⟨⟨bn _,hB.putF (fun _ _ _ _=>rfl),St.put_len _ _ _ _ _⟩,fun σ pre k hk=>?_⟩
     have:=hk σ (AO.refl _ _)
     rw[DW]at h1 h2
     unfold ED
     simp only[ho,ha,hT,hel,DI,h1,h2,bq,XB,bg,GY hys,BV,hg,AX.ren]
     refine⟨trivial,trivial,c2,?_,by simpa using c4,?_⟩
     ·rw[fw];exact c3▸(by congr 1;funext x;simp)
     ·simp only[FG,EE,CO,AX.ren,<-C7,dc,ck]at this;simpa only[bp]using this
   ·cases hx
  ·cases hx
 ·cases hx
end Go.Pg
namespace Go.Pg
variable {P:ft}{Ω:HE P}{σ σ':Nat->Nat}{δ:Nat}{pre:List AA}{s:St}{fr:Fr}{g:Bool}
def E8{α β:Type}(f:α->Option β):List α->Option (List β)
 |[]=>some []
 |x::l=>match f x with
  |some y=>match E8 f l with
   |some r=>some (y::r)
   |none=>none
  |none=>none
theorem KU{α β:Type}(f:α->Option β):∀(l:List α),E8 f l=l.mapM f
 |[]=>rfl
 |x::l=>by
  simp only[E8,List.mapM_cons,<-KU f l];cases f x with
  |none=>rfl
  |some y=>cases E8 f l<;>rfl
abbrev CF:=gv->List V->XS->Option (V×XS)
abbrev CY:=Nat->Nat->Nat->List V->XS->Option (V×XS)
abbrev CF0:=gv->List V->Option V
abbrev CFO:=gv->List V->Tmp->Option Mk
structure XE where
 cf:CF
 cy:CY
 c0:CF0
 co:CFO
 lit:Tmp->Bool
def eA(P:ft)(cf:CF):Prop:=∀f args st r st',cf f args st=some (r,st')->Bd st->(∀v∈args,UF st.c v)->KJ st st'/\UF st'.c r/\st'.fr=st.fr /\
 ∀(σ:Nat->Nat) (pre:List AA) (K:V->St->Prop),(∀σ',AO st.c σ σ'->K (r.ren σ' pre.length) (st'.s.emb σ' pre))->FB P f (args.map (V.ren σ pre.length)) (st.s.emb σ pre) K
def AQ1(P:ft)(cy:CY):Prop:=∀l q γ vs st r st',cy l q γ vs st=some (r,st')->Bd st->(∀v∈vs,UF st.c v)->KJ st st'/\UF st'.c r/\st'.fr=st.fr /\
 ∃fr0 ps asg body N,st.s.get l q=some (γ,.loop fr0 ps asg body N .ready)/\∀(σ:Nat->Nat) (pre:List AA) (k:V->St->Prop),(∀σ',AO st.c σ σ'->k (r.ren σ' pre.length) (st'.s.emb σ' pre)) ->
  YW P (l+pre.length) q (σ γ) (Fr.ren σ pre.length fr0) ps asg body N (vs.map (V.ren σ pre.length)) (st.s.emb σ pre) k
def HL(P:ft)(cf:CF0):Prop:=∀f args r,cf f args=some r->(∀s,FB P f args s fun r' s'=>r'=r/\s'=s)/\(∀v∈args,∀σ δ,v.ren σ δ=v)/\(∀σ δ,r.ren σ δ=r)
def pQ(P:ft)(co:CFO):Prop:=∀f args d r,co f args d=some r->(∀(s:St),FB P f args s fun v s'=>∃γ,v=r.val s.up.length d γ/\s'=s.put s.up.length d γ r.res) /\
 (∀v∈args,∀σ δ,v.ren σ δ=v)/\(∀σ δ,r.res.ren σ δ=r.res)/\cJ r.res=true
structure KA(P:ft)(E:XE):Prop where
 cf:eA P E.cf
 cy:AQ1 P E.cy
 c0:HL P E.c0
 co:pQ P E.co
def KA.tab{E:XE}(h:KA P E)(own:fp->Bool):HE P:=⟨own,E.co,fun f args d r hc=>(h.co f args d r hc).1⟩
def pR(cy:CY)(d:Option Tmp)(l q γ:Nat)(args:List gk)(st:XS):Option XS:=match E8 (CD st.fr) args with
 |some vs=>match cy l q γ vs st with
  |some (r,st')=>some { st' with fr:=putD st'.fr d true r }
  |none=>none
 |none=>none
def QF(cf:CF)(cy:CY)(d:Option Tmp)(f:gk)(args:List gk)(st:XS):Option XS:=match CD st.fr f with
 |some (.fn fid first cap)=>match E8 (CD st.fr) args with
  |some vs=>match cf fid ((first++vs++cap).map weakV) st with
   |some (r,st')=>some { st' with fr:=putD st'.fr d true r }
   |none=>none
  |none=>none
 |some (.yld l q γ)=>pR cy d l q γ args st
 |_=>none
def HM(co:CFO)(d:Option Tmp)(f:gk)(args:List gk)(st:XS):Option XS:=match d,CD st.fr f with
 |some d,some (.fn fid first cap)=>match E8 (CD st.fr) args with
  |some vs=>match co fid ((first++vs++cap).map weakV) d with
   |some r=>some ⟨st.c+1,(d,true,r.val st.s.up.length d st.c)::st.fr,st.s.put st.s.up.length d st.c r.res⟩
   |none=>none
  |none=>none
 |_,_=>none
def cK(P:ft)(o:fp)(st:XS):Option XS:=match AJI P o st.fr st.s with
 |some v=>some { st with fr:=putD st.fr o.dst true v }
 |none=>none
def ZZ(E:XE)(own:Bool)(d:Option Tmp)(f:gk)(args:List gk)(st:XS):Option XS:=Bool.rec (QF E.cf E.cy d f args st) (match HM E.co d f args st with
 |some st'=>some st'
 | none=>QF E.cf E.cy d f args st) own
def A3G(P:ft)(E:XE)(own:fp->Bool)(o:fp)(c:Call)(st:XS):Option XS:=match c.callee with
 |.value f=>ZZ E (own o) o.dst f c.args.toList st
 |.builtin .append=>xAppend P o.dst c.args.toList c.argTypes.toList st
 |.builtin .clear=>gG P o.dst c.args.toList c.argTypes.toList st
 |.builtin .copy=>tW P o.dst c.args.toList c.argTypes.toList st
 |_=>cK P o st
def QG(P:ft)(E:XE)(own:fp->Bool)(o:fp)(st:XS):Option XS:=match o.op with
 |.alloc T=>ON P o.dst T st
 |.box _ x=>lQ o.dst x st
 |.makeMap _ r=>xY o.dst r st
 |.makeSlice T x y=>WL P o.dst T x y st
 |.store T x y=>I7 P o.dst T x y st
 |.mapUpdate T x i y=>xZ P o.dst T x i y st
 |.call c=>A3G P E own o c st
 |_=>cK P o st
theorem tX{o:fp}{st st':XS}(h:Bd st)(hx:cK P o st=some st'):StepX P o st st':=by
 unfold cK at hx;split at hx
 ·rename_i v hv;cases hx;exact xX h (PL hv)
 ·cases hx
theorem XC{st:XS}(h:Bd st):∀{args:List gk} {vs:List V},E8 (CD st.fr) args=some vs->∀v∈vs,UF st.c v
 |[],vs,e,v,hv=>by cases e;cases hv
 |x::l,vs,e,v,hv=>by
  simp only[E8]at e;split at e
  ·rename_i y hy;split at e
   ·rename_i r hr;cases e;rcases List.mem_cons.1 hv with rfl|hv
    ·exact h.rd hy
    ·exact XC h hr v hv
   ·cases e
  ·cases e
theorem gJ{c:Nat}{v:V}(h:UF c v):UF c (weakV v):=fun σ σ' δ ha=>by rw[<-U5,<-U5,h σ σ' δ ha]
theorem ADV{c:Nat}{f:gv}{xs ys:List V}(h:UF c (.fn f xs ys)):(∀v∈xs,UF c v)/\(∀v∈ys,UF c v):=by
 refine⟨fun v hv σ σ' δ ha=>?_,fun v hv σ σ' δ ha=>?_⟩
 ·have:=h σ σ' δ ha;simp only[OK,V.fn.injEq]at this;exact cm.1 this.2.1 v hv
 ·have:=h σ σ' δ ha;simp only[OK,V.fn.injEq]at this;exact cm.1 this.2.2 v hv
theorem HN(l:List V):(l.map weakV).map (V.ren σ δ)=(l.map (V.ren σ δ)).map weakV:=by simp only[fg];congr 1;funext v;exact(U5 v).symm
theorem eB{E:XE}(hE:KA P E){own:fp->Bool}{o:fp}(hown:own o=true){f:gk}{args:Array gk}{Ts:Array gq}{st st':XS}(h:Bd st)(ho:o.op=.call { callee:=.value f,args:=args,argTypes:=Ts })(hx:HM E.co o.dst f args.toList st=some st'):gF P (hE.tab own) o st st':=by
 unfold HM at hx;split at hx
 ·rename_i d fid first cap hd hf;split at hx
  ·rename_i vs hvs;split at hx
   ·rename_i r hc;cases hx;obtain⟨_,hcl,hr,hpl⟩:=hE.co _ _ _ _ hc;refine⟨yD h hpl (fun σ σ' δ _=>by rw[hr,hr]),d,hd,fun σ pre k hk=>⟨r,?_,fun γ=>?_⟩⟩
    ·have hcd:IW true o (st.fr.ren σ pre.length)=some (fid,(first++vs++cap).map weakV):=by
      rw[KU,E6]at hvs;rw[DW]at hf;simp only[IW,ho,JL,hf,bq,OK,IX hvs,cw.injEq,fh.injEq,true_and];have e:((first++vs++cap).map weakV).map (V.ren σ pre.length)=(first++vs++cap).map weakV:=by
       conv=>rhs;rw[<-cn ((first++vs++cap).map weakV)]
       exact bf fun v hv=>hcl v hv σ _
      rw[HN]at e;simpa only[bc]using e
     simp only[P4,ho,KA.tab,hown,if_true,hcd,hd,hc]
    ·have:=AJJ h (d:=d) hr hk γ;rw[<-DB]at this;exact this
   ·cases hx
  ·cases hx
 ·cases hx
theorem lY{cf:CF}{cy:CY}(hcf:eA P cf)(hcy:AQ1 P cy){o:fp}{f:gk}{args:Array gk}{Ts:Array gq}{st st':XS}(h:Bd st)(ho:o.op=.call { callee:=.value f,args:=args,argTypes:=Ts })(hx:QF cf cy o.dst f args.toList st=some st'):StepX P o st st':=by
 unfold QF at hx;split at hx
 ·rename_i fid first cap hf;split at hx
  ·rename_i vs hvs;split at hx
   ·rename_i r st1 hr;cases hx;have b1:=ADV (h.rd hf);have b2:=XC h hvs;obtain⟨hE,hrb,hfr,hA⟩:=hcf _ _ _ _ _ hr h (fun v hv=>by
     obtain⟨u,hu,rfl⟩:=dk.1 hv;refine gJ ?_;rcases dr.1 hu with hu|hu
     ·rcases dr.1 hu with hu|hu
      ·exact b1.1 u hu
      ·exact b2 u hu
     ·exact b1.2 u hu)
    refine⟨⟨hE.c,hE.bd.putF hrb,hE.n⟩,fun σ pre k hk=>?_⟩;rw[KU,E6]at hvs;rw[DW]at hf;unfold ED;simp only[ho,JL,hf,bq,OK,IX hvs];refine .inl ⟨rfl,?_⟩;have:=hA σ pre (fun r s'=>k (putD (st.fr.ren σ pre.length) o.dst true r) s') fun σ' ha=>?_
    ·rw[HN]at this;simpa only[bc]using this
    ·have h1:=hk σ' ha;rw[FG,hfr,<-h.f σ σ' _ ha]at h1;exact h1
   ·cases hx
  ·cases hx
 ·rename_i l q γ hf;unfold pR at hx;split at hx
  ·rename_i vs hvs;split at hx
   ·rename_i r st1 hr;cases hx;obtain⟨hE,hrb,hfr,fr0,ps,asg,body,N,hget,hA⟩:=hcy _ _ _ _ _ _ _ hr h (XC h hvs);refine⟨⟨hE.c,hE.bd.putF hrb,hE.n⟩,fun σ pre k hk=>?_⟩;rw[KU,E6]at hvs;rw[DW]at hf;unfold ED;simp only[ho,JL,hf,bq,gC,IX hvs,BV,hget,AX.ren];refine⟨trivial,trivial,?_⟩;refine hA σ pre (fun r s'=>k (putD (st.fr.ren σ pre.length) o.dst true r) s') fun σ' ha=>?_;have h1:=hk σ' ha;rw[FG,hfr,<-h.f σ σ' _ ha]at h1;exact h1
   ·cases hx
  ·cases hx
 ·cases hx
theorem lZ{E:XE}(hE:KA P E){own:fp->Bool}{o:fp}{st st':XS}(h:Bd st)(hx:QG P E own o st=some st'):StepX P o st st':=by
 unfold QG at hx;split at hx
 ·rename_i T ho;exact(dX (Ω:=HE.nothing P) h ho hx).step
 ·rename_i T x ho;exact(tS (Ω:=HE.nothing P) h ho hx).step
 ·rename_i T r ho;exact(tT (Ω:=HE.nothing P) h ho hx).step
 ·rename_i T x y ho;exact(lR (Ω:=HE.nothing P) h ho hx).step
 ·rename_i T x y ho;exact dY h ho hx
 ·rename_i T x i y ho;exact AJH h ho hx
 ·rename_i c ho;obtain⟨callee,args,Ts⟩:=c;unfold A3G at hx;split at hx
  ·rename_i f hc;have hc:callee=.value f:=hc;subst hc;unfold ZZ at hx;cases hown:own o with
   |false=>rw[hown]at hx;exact lY hE.cf hE.cy h ho hx
   |true=>
    rw[hown]at hx
    have hx:(match HM E.co o.dst f args.toList st with
     |some st'=>some st'
     | none=>QF E.cf E.cy o.dst f args.toList st)=some st':=hx
    split at hx
    ·rename_i st1 h1;cases hx;exact(eB hE hown h ho h1).step
    ·exact lY hE.cf hE.cy h ho hx
  ·rename_i hc;have hc:callee=.builtin .append:=hc;subst hc;exact pP h ho hx
  ·rename_i hc;have hc:callee=.builtin .clear:=hc;subst hc;exact yA h ho hx
  ·rename_i hc;have hc:callee=.builtin .copy:=hc;subst hc;exact ADU h ho hx
  ·exact tX h hx
 ·exact tX h hx
def gdX(fr:Fr)(gd:Option (Tmp×Bool)):Option Bool:=match gd with
 |none=>some true
 |some (d,want)=>match BR fr d with
  |some (c,.bool b)=>some (c&&(b==want))
  |_=>none
theorem pS(gd:Option (Tmp×Bool)):gdX fr gd=P3 fr gd:=by
 cases gd with
 |none=>rfl
 |some p=>simp only[gdX,P3,E5];rfl
theorem MX{gd:Option (Tmp×Bool)}(h:P3 fr gd=some g):P3 (fr.ren σ δ) gd=some g:=by
 cases gd with
 |none=>exact h
 |some p=>
  simp only[P3]at h|-
  split at h
  ·rename_i c b e;simp only[Fr.get_ren,e,bq,LO];exact h
  ·cases h
def HZ(d:Option Tmp)(st:XS):XS:={ st with fr:=putD st.fr d false (.bool false) }
def ADW(P:ft)(lit:Tmp->Bool)(o:fp)(st:XS):Option XS:=match o.op,o.dst with
 | .buildSlice T _ _,some d=>Bool.rec none (match BO P T,AJI P o st.fr st.s with
  |some (none,e),some (.list true (x::es))=>Bool.rec none (some ⟨st.c+1,(d,true,HD (.vec e (x::es)) st.s.up.length d st.c)::st.fr,st.s.put st.s.up.length d st.c (.vec e (x::es))⟩) (dn (x::es).length maxLen)
  | _,_=>none) (lit d)
 |_,_=>none
theorem AJL{lit:Tmp->Bool}{o:fp}{st st':XS}(h:Bd st)(hx:ADW P lit o st=some st'):KJ st st' /\
  ∀(σ:Nat->Nat) (pre:List AA) (k:Fr->St->Prop),(∀σ',AO st.c σ σ'->k (st'.fr.ren σ' pre.length) (st'.s.emb σ' pre))->A28 P true o (st.fr.ren σ pre.length) (st.s.emb σ pre) k:=by
 unfold ADW at hx
 split at hx
 ·rename_i T len parts d ho hd;obtain⟨_,hx⟩:=EF hx;split at hx
  ·rename_i e x es hel hv;obtain⟨hc,he⟩:=JQ hx;cases he;have hv:=PL hv;have hb:=TQ h (h.val hv) (ys:=x::es) rfl;refine⟨ZY h rfl fun σ σ' δ ha=>by simp only[AX.ren,hb σ σ' δ ha],fun σ pre k hk=>?_⟩;have hv':=IY (σ:=σ) (pre:=pre) hv;unfold FE at hv';simp only[ho]at hv';obtain⟨ps,h1,h2⟩:=bk.1 hv';rw[EQ]at h2;refine⟨T,len,parts,d,e,_,ps,ho,rfl,hd,hel,h1,h2,by simp,by simpa [cz]using hc,fun γ=>?_⟩;have:=pO h (d:=d) (r:=.vec e (x::es)) (fun σ σ' δ ha=>by simp only[AX.ren,hb σ σ' δ ha]) hk γ;rw[DB];simpa only[HD,AX.ren]using this
  ·cases hx
 ·cases hx
def AJM(all:List fp)(t:Tmp):Bool:=all.any fun p=>match p.op,p.dst with
 |.call { callee:=.builtin .append,.. },some d=>bz d t
 |_,_=>false
def MY(all:List fp)(st:XS):List gk->Option XS
 |[]=>none
 |x::r=>match x with
  | .tmp t=>Bool.rec (MY all st r) (match BR st.fr t with
   |some (true,.vec l q γ n)=>match st.s.get l q with
    |some (γ',.vec _ es)=>Bool.rec none (some ⟨st.c,(t,true,.list false (es.take n))::st.fr,st.s.put l q γ .dead⟩) (bz γ' γ&&dn n es.length&&cx γ st.c)
    |_=>none
   | _=>none) (AJM all t)
  |_=>MY all st r
def ADX(all:List fp)(o:fp)(st:XS):Option XS:=match o.op with
 |.call c=>match c.callee with
  |.value _=>MY all st c.args.toList
  |_=>none
 |_=>none
theorem VC{all:List fp}{st st1:XS}(h:Bd st):∀{xs:List gk},MY all st xs=some st1->KJ st st1 /\
  ∀(o:fp) (σ:Nat->Nat) (pre:List AA) (k:Fr->St->Prop),ED P true o (st1.fr.ren σ pre.length) (st1.s.emb σ pre) k->AMO P true o (st.fr.ren σ pre.length) (st.s.emb σ pre) k
 |[],hx=>by cases hx
 |x::r,hx=>by
  unfold MY at hx;split at hx
  ·rename_i t;cases hA:AJM all t with
   |false=>rw[hA]at hx;exact VC h hx
   |true=>
    rw[hA]at hx
    have hx:(match BR st.fr t with
     |some (true,.vec l q γ n)=>match st.s.get l q with
      |some (γ',.vec _ es)=>Bool.rec none (some ⟨st.c,(t,true,.list false (es.take n))::st.fr,st.s.put l q γ .dead⟩) (bz γ' γ&&dn n es.length&&cx γ st.c)
      |_=>none
     | _=>none)=some st1:=hx
    split at hx
    ·rename_i l q γ n hg;split at hx
     ·rename_i γ' T es hs;obtain⟨hc,he⟩:=JQ hx;simp only[bx]at hc;obtain⟨⟨h1,h2⟩,h3⟩:=hc;have h1:=bj h1;have h2:n<=es.length:=by simpa [cz]using h2
      have h3:γ<st.c:=by simpa [cd]using h3
      subst h1;cases he;rw[E5]at hg;have hb:∀σ σ' δ,AO st.c σ σ'->es.map (cj (V.ren σ δ))=es.map (cj (V.ren σ' δ)):=fun σ σ' δ ha=>by have:=MV h hs σ σ' δ ha;simpa [AX.ren]using this
      have hv:UF st.c (.list false (es.take n)):=fun σ σ' δ ha=>by simp only[EQ,ck,hb σ σ' δ ha]
      have hbd:Bd ⟨st.c,(t,true,.list false (es.take n))::st.fr,st.s.put l q γ' .dead⟩:=(h.putS (l:=l) (k:=q) (r:=.dead) h3 (fun _ _ _ _=>rfl)).putF (d:=some t) (c:=true) hv;refine⟨⟨bn _,hbd,St.put_len _ _ _ _ _⟩,fun o σ pre k hk=>⟨t,l+pre.length,q,σ γ',n,T,es.map (cj (V.ren σ pre.length)),rfl,?_,?_,by simpa using h2,?_⟩⟩
      ·rw[Fr.get_ren,hg];simp
      ·rw[BV,hs];simp[AX.ren]
      ·change ED P true o ((st.fr.put t true _).ren _ _) _ k at hk;simp only[HK,EQ,CO,AX.ren,ck]at hk;exact hk
     ·cases hx
    ·cases hx
  ·exact VC h hx
def opX(P:ft)(E:XE)(all:List fp)(o:fp)(st:XS):Option XS:=match gdX st.fr (K1 all o)with
 |some true=>match ADW P E.lit o st with
  |some st'=>some st'
  |none=>match ADX all o st with
   |some st1=>QG P E (DN all) o st1
   |none=>QG P E (DN all) o st
 |some false=>some (HZ o.dst st)
 |none=>none
theorem eC{d:Option Tmp}{st:XS}(h:Bd st):KJ st (HZ d st):=⟨bn _,h.putF (fun σ σ' δ _=>by simp),rfl⟩
theorem ADY{E:XE}(hE:KA P E){all:List fp}{o:fp}{st st':XS}(h:Bd st)(hx:opX P E all o st=some st'):KJ st st'/\∃g,(∀σ δ,P3 (st.fr.ren σ δ) (K1 all o)=some g) /\
  ∀(σ:Nat->Nat) (pre:List AA) (k:Fr->St->Prop),(∀σ',AO st.c σ σ'->k (st'.fr.ren σ' pre.length) (st'.s.emb σ' pre))->TA P g o (st.fr.ren σ pre.length) (st.s.emb σ pre) k:=by
 unfold opX at hx
 rw[pS]at hx
 split at hx
 ·rename_i hg;split at hx
  ·rename_i st1 hl;cases hx;obtain⟨h1,h2⟩:=AJL h hl;exact⟨h1,true,fun σ δ=>MX hg,fun σ pre k hk=>.inr (.inr (.inl (h2 σ pre k hk)))⟩
  ·split at hx
   ·rename_i st1 ht;have ht':∃xs,MY all st xs=some st1:=by
     unfold ADX at ht;split at ht
     ·split at ht
      ·exact⟨_,ht⟩
      ·cases ht
     ·cases ht
    obtain⟨xs,ht'⟩:=ht';obtain⟨hE1,hs1⟩:=VC (P:=P) h ht';obtain⟨h1,h2⟩:=lZ hE hE1.bd hx;exact⟨⟨dg hE1.c h1.c,h1.bd,h1.n.trans hE1.n⟩,true,fun σ δ=>MX hg,fun σ pre k hk=>.inr (.inr (.inr (hs1 o σ pre k (h2 σ pre k fun σ' ha=>hk σ' (ha.mono hE1.c)))))⟩
   ·obtain⟨h1,h2⟩:=lZ hE h hx;exact⟨h1,true,fun σ δ=>MX hg,fun σ pre k hk=>.inl (h2 σ pre k hk)⟩
 ·rename_i hg;cases hx;refine⟨eC h,false,fun σ δ=>MX hg,fun σ pre k hk=>.inr (.inl ⟨rfl,.bool false,?_⟩)⟩;have:=hk σ (AO.refl _ _);simpa only[HZ,FG,LO]using this
 ·cases hx
def gK(P:ft)(E:XE)(all:List fp):List fp->XS->Option XS
 |[],st=>some st
 |o::r,st=>match opX P E all o st with
  |some st'=>gK P E all r st'
  |none=>none
theorem gL{E:XE}(hEE:KA P E){all:List fp}:∀{l:List fp} {st st':XS},Bd st->gK P E all l st=some st'->KJ st st' /\
  ∀(σ:Nat->Nat) (pre:List AA) (K:Fr->St->Prop),(∀σ',AO st.c σ σ'->K (st'.fr.ren σ' pre.length) (st'.s.emb σ' pre))->WB P (l.map (K1 all)) l (st.fr.ren σ pre.length) (st.s.emb σ pre) K
 |[],st,st',h,hx=>by cases hx;exact⟨⟨bn _,h,rfl⟩,fun σ pre K hk=>hk σ (AO.refl _ _)⟩
 |o::l,st,st',h,hx=>by
  simp only[gK]at hx;split at hx
  ·rename_i st1 h1;obtain⟨hE,g,hg,hs⟩:=ADY hEE h h1;obtain⟨hE',hs'⟩:=gL hEE hE.bd hx;refine⟨⟨dg hE.c hE'.c,hE'.bd,hE'.n.trans hE.n⟩,fun σ pre K hk=>?_⟩;simp only[dv,WB,hg];exact hs σ pre _ fun σ' ha=>hs' σ' pre K fun σ'' ha'=>hk σ'' (ha.trans ha' hE.c)
  ·cases hx
def Z0(cf:CF0)(d:Option Tmp)(f:gk)(args:List gk)(st:XS):Option XS:=match CD st.fr f with
 |some (.fn fid first cap)=>match E8 (CD st.fr) args with
  |some vs=>match cf fid ((first++vs++cap).map weakV)with
   |some r=>some { st with fr:=putD st.fr d true r }
   |none=>none
  |none=>none
 |_=>none
def TR(r:Option XS):Option (XS×AK):=match r with
 |some st=>some (st,[])
 |none=>none
def xAppD(P:ft)(d:Option Tmp)(args:List gk)(Ts:List gq)(st:XS):Option (XS×AK):=match xAppG elemsOf P d args Ts st with
 |some (st',l,q)=>some (st',[(l,q),(l,q+ID)])
 |none=>none
def AMX(P:ft)(E:XE)(own:fp->Bool)(o:fp)(c:Call)(st:XS):Option (XS×AK):=match c.callee with
 |.value f=>Bool.rec (TR (Z0 E.c0 o.dst f c.args.toList st)) (TR (HM E.co o.dst f c.args.toList st)) (own o)
 |.builtin .append=>xAppD P o.dst c.args.toList c.argTypes.toList st
 |_=>TR (cK P o st)
def ADZ(P:ft)(d:Option Tmp)(T:gq)(x y:gk)(st:XS):Option (XS×AK):=match I7 P d T x y st with
 |some st'=>some (st',CQ (bz (P.cellsOf T) 1) (CD st.fr x))
 |none=>none
def gM(P:ft)(E:XE)(own:fp->Bool)(o:fp)(st:XS):Option (XS×AK):=match o.op with
 |.alloc T=>TR (ON P o.dst T st)
 |.box _ x=>TR (lQ o.dst x st)
 |.makeMap _ r=>TR (xY o.dst r st)
 |.makeSlice T x y=>TR (WL P o.dst T x y st)
 |.store T x y=>ADZ P o.dst T x y st
 |.call c=>AMX P E own o c st
 |_=>TR (cK P o st)
def pT(P:ft)(E:XE)(all:List fp)(o:fp)(st:XS):Option (XS×AK):=match gdX st.fr (K1 all o)with
 |some true=>gM P E (DN all) o st
 |some false=>Bool.rec (some (HZ o.dst st,[])) none (kA (DN all) o||kW o||kP o)
 |none=>none
theorem HO{r:Option XS}{st':XS}{wr:AK}(h:TR r=some (st',wr)):r=some st'/\wr=[]:=by
 unfold TR at h;split at h
 ·cases h;exact⟨rfl,rfl⟩
 ·cases h
def AQ2(P:ft)(Ω:HE P)(all:List fp)(o:fp)(st st':XS)(wr:AK):Prop:=KJ st st' /\
  ∀(W:AK) (σ:Nat->Nat) (pre:List AA) (k:Fr->St->Prop),(∀p∈D9 P o (CD st.fr),p∉W)->(∀p∈wr,p∈W)->(∀σ',AO st.c σ σ'->k (st'.fr.ren σ' pre.length) (st'.s.emb σ' pre))->F4 P Ω (bN pre.length W) o (K1 all o) (st.fr.ren σ pre.length) (st.s.emb σ pre) k
theorem AJN{E:XE}(hE:KA P E){all:List fp}{o:fp}{st st':XS}{wr:AK}(h:Bd st)(hx:pT P E all o st=some (st',wr)):AQ2 P (hE.tab (DN all)) all o st st' wr:=by
 have val:∀{st'},(∀σ δ,P3 (st.fr.ren σ δ) (K1 all o)=some true)->cK P o st=some st'->AQ2 P (hE.tab (DN all)) all o st st' wr:=by
  intro st' hg hx;unfold cK at hx;split at hx
  ·rename_i v hv;cases hx;have hv:=PL hv;refine⟨⟨bn _,h.putF (h.val hv),rfl⟩,fun W σ pre k hr _ hk=>.inl ⟨true,v.ren σ pre.length,⟨hg _ _,?_⟩,?_⟩⟩
   ·have hrd:∀p∈D9 P o (DT true (st.fr.ren σ pre.length)),p∉bN pre.length W:=by rw[JL,pM,<-E6];exact lT hr
    cases hi:lS P o (DT true (st.fr.ren σ pre.length))with
    |true=>exact .inr (.inr (.inl (AQY (IY hv) hi hrd)))
    |false=>exact .inl ⟨_,ZW _,yB (IY hv) hi hrd⟩
   ·have:=hk σ (AO.refl _ _);rwa [FG]at this
  ·cases hx
 have new:∀{st'},(∀σ δ,P3 (st.fr.ren σ δ) (K1 all o)=some true)->gF P (hE.tab (DN all)) o st st'->AQ2 P (hE.tab (DN all)) all o st st' wr:=by intro st' hg hn;obtain⟨h1,d,hd,h2⟩:=hn;refine⟨h1,fun W σ pre k _ _ hk=>?_⟩;obtain⟨r,hr,h3⟩:=h2 σ pre k hk;exact .inr (.inl ⟨r,d,⟨hg _ _,hd,hr⟩,h3⟩)
 unfold pT at hx;rw[pS]at hx;split at hx
 ·rename_i hg;have hg':∀σ δ,P3 (st.fr.ren σ δ) (K1 all o)=some true:=fun σ δ=>MX hg;unfold gM at hx;split at hx
  ·rename_i T ho;exact new hg' (dX h ho (HO hx).1)
  ·rename_i T x ho;exact new hg' (tS h ho (HO hx).1)
  ·rename_i T r ho;exact new hg' (tT h ho (HO hx).1)
  ·rename_i T x y ho;exact new hg' (lR h ho (HO hx).1)
  ·rename_i T x y ho;unfold ADZ at hx;split at hx
   ·rename_i st1 hx1;cases hx;obtain⟨hE1,_⟩:=dY h ho hx1;obtain⟨l,q,γ,r,hD,rfl⟩:=ADP ho hx1;refine⟨hE1,fun W σ pre k _ hw hk=>.inr (.inr (.inl ⟨_,_,_,_,⟨hg' _ _,?_,pI hD⟩,?_⟩))⟩
    ·have hp:=ZC hD;unfold oY at hp;simp only[ho]at hp;have main:∀off,(DT true st.fr x=some (.ptr l q γ off)\/∃i,DT true st.fr x=some (.eptr l q γ i off))->WOK P (bN pre.length W) o (st.fr.ren σ pre.length) (l+pre.length) q:=by
      intro off hx;have hC:I6 P o (st.fr.ren σ pre.length)=some (off,P.cellsOf T):=by unfold I6;rcases hx with hx|⟨i,hx⟩<;>simp only[ho,DI,hx,bq,HI,OJ]
      cases hb:bz (P.cellsOf T) 1 with
      |true=>
       have h1:=bj hb
       have hpl:CQ (bz (P.cellsOf T) 1) (CD st.fr x)=[(l,q),(l,GB q off)]:=by rw[DW,hb];rcases hx with hx|⟨i,hx⟩<;>rw[hx]<;>rfl
       rw[hpl]at hw
       refine⟨MW.2 (hw _ (by simp)),.inr fun off' n' e c h2 h3=>?_⟩
       rw[hC]at e
       cases e
       obtain rfl:c=off:=by omega
       exact MW.2 (hw _ (by simp))
      |false=>
       have hpl:CQ (bz (P.cellsOf T) 1) (CD st.fr x)=[(l,q),(l,q+HV)]:=by rw[DW,hb];rcases hx with hx|⟨i,hx⟩<;>rw[hx]<;>rfl
       rw[hpl]at hw
       exact⟨MW.2 (hw _ (by simp)),.inl (MW.2 (hw _ (by simp)))⟩
     split at hp
     ·rename_i l1 q1 γ1 off e;cases hp;exact main off (.inl e)
     ·rename_i l1 q1 γ1 i off e;cases hp;exact main off (.inr ⟨i,e⟩)
     ·cases hp
    ·have:=hk σ (AO.refl _ _);simp only[CO]at this;exact this
   ·cases hx
  ·rename_i c ho;obtain⟨callee,args,Ts⟩:=c;unfold AMX at hx;split at hx
   ·rename_i f hc;have hc:callee=.value f:=hc;subst hc;cases hown:DN all o with
    |true=>
     rw[hown]at hx
     exact new hg' (eB hE hown h ho (HO hx).1)
    |false=>
     rw[hown]at hx
     have hx:=(HO hx).1
     unfold Z0 at hx
     split at hx
     ·rename_i fid first cap hf;split at hx
      ·rename_i vs hvs;split at hx
       ·rename_i r hr;cases hx;obtain⟨hA,hcl,hrc⟩:=hE.c0 _ _ _ hr;refine⟨⟨bn _,h.putF (fun σ σ' δ _=>by rw[hrc,hrc]),rfl⟩,fun W σ pre k _ _ hk=>.inl ⟨true,r,⟨hg' _ _,.inr (.inl ⟨fid,(first++vs++cap).map weakV,?_,hown,fun _ s=>hA s⟩)⟩,?_⟩⟩
        ·rw[KU,E6]at hvs;rw[DW]at hf;simp only[IW,ho,JL,hf,bq,OK,IX hvs,cw.injEq,fh.injEq,true_and];have e:((first++vs++cap).map weakV).map (V.ren σ pre.length)=(first++vs++cap).map weakV:=by
          conv=>rhs;rw[<-cn ((first++vs++cap).map weakV)]
          exact bf fun v hv=>hcl v hv σ _
         rw[HN]at e;simpa only[bc]using e
        ·have:=hk σ (AO.refl _ _);rwa [FG,hrc]at this
       ·cases hx
      ·cases hx
     ·cases hx
   ·rename_i hc;have hc:callee=.builtin .append:=hc;subst hc;unfold xAppD at hx;split at hx
    ·rename_i st1 l q e1;cases hx;obtain⟨d,r,hd,hp,rfl,hr,_,hs⟩:=ZX (fun _ _ _ h=>h) h ho e1;have hra:D9 P o (CD st.fr)=J9 (CD st.fr) args.toList:=by simp only[D9,ho]
     refine⟨ZY h hp hr,fun W σ pre k hrd hw hk=>.inr (.inr (.inr ⟨l+pre.length,q,r.ren σ pre.length,d,⟨hg' _ _,⟨MW.2 (hw _ (by simp)),MW.2 (hw _ (by simp))⟩,hd,_,ZW _,hs W σ pre (by rw[<-hra];exact hrd)⟩,fun γ=>pO h hr hk γ⟩))⟩
    ·cases hx
   ·exact val hg' (HO hx).1
  ·exact val hg' (HO hx).1
 ·rename_i hg;cases hk:(kA (DN all) o||kW o||kP o)with
  |true=>rw[hk]at hx;cases hx
  |false=>
   rw[hk]at hx
   cases hx
   rw[dt,dt]at hk
   refine⟨eC h,fun W σ pre k _ _ hk'=>.inl ⟨false,.bool false,⟨MX hg,.inr (.inr (.inr ⟨rfl,hk.1.1,hk.1.2,hk.2⟩))⟩,?_⟩⟩
   have:=hk' σ (AO.refl _ _)
   simpa only[HZ,FG,LO]using this
 ·cases hx
def phX(P:ft)(E:XE)(l:List fp):List Nat->XS->AK->AK->Option (XS×AK×AK)
 |[],st,rd,wr=>some (st,rd,wr)
 |i::r,st,rd,wr=>match l[i]? with
  |some o=>match pT P E l o st with
   |some (st',w)=>phX P E l r st' (cond (zB l o) [] (D9 P o (CD st.fr))++rd) (w++wr)
   |none=>none
  |none=>none
def sqX(P:ft)(E:XE)(l:List fp):List Nat->XS->Option XS
 |[],st=>some st
 |i::r,st=>match l[i]? with
  |some o=>match opX P E l o st with
   |some st'=>sqX P E l r st'
   |none=>none
  |none=>none
def yE(P:ft)(E:XE)(l:List fp):WY->XS->Option XS
 |[],st=>some st
 | p :: S,st=>Bool.rec none (match phX P E l p.1 st [] []with
  | some (st1,rd,wr)=>Bool.rec none (match sqX P E l p.2 st1 with
   |some G7=>yE P E l S G7
   | none=>none) (wr.all fun p=>!(rd.contains p))
  | none=>none) (ZP (DN l) l p.1 st.s.loc)
theorem XD{l:List fp}{i:Nat}{o:fp}(h:l[i]? = some o):bM (l.map (K1 l)) i=K1 l o:=by simp[bM,h]
theorem AJO{E:XE}{all:List fp}{o:fp}{st st':XS}{wr:AK}(ho:∃T x,o.op=.load T x)(hx:pT P E all o st=some (st',wr)):wr=[]:=by
 obtain⟨T,x,ho⟩:=ho;unfold pT at hx;split at hx
 ·unfold gM at hx;rw[ho]at hx;exact(HO hx).2
 ·cases hk:(kA (DN all) o||kW o||kP o)with
  |true=>rw[hk]at hx;cases hx
  |false=>rw[hk]at hx;exact(fh.inj (cw.inj hx)).2.symm
 ·cases hx
theorem AD0{E:XE}(hEE:KA P E){l:List fp}:∀{R:List Nat} {st st':XS} {rd wr rd' wr':AK},Bd st->phX P E l R st rd wr=some (st',rd',wr')->KJ st st'/\(∀p∈rd,p∈rd')/\(∀p∈wr,p∈wr') /\
  ∀(W:AK) (σ:Nat->Nat) (pre:List AA) (K:Fr->St->Prop),(∀p∈rd',p∉W)->(∀p∈wr',p∈W)->(∀σ',AO st.c σ σ'->K (st'.fr.ren σ' pre.length) (st'.s.emb σ' pre))->QE P (hEE.tab (DN l)) (bN pre.length W) l (l.map (K1 l)) R (st.fr.ren σ pre.length) (st.s.emb σ pre) K
 |[],st,st',rd,wr,rd',wr',h,hx=>by cases hx;exact⟨⟨bn _,h,rfl⟩,fun _ h=>h,fun _ h=>h,fun W σ pre K _ _ hk=>hk σ (AO.refl _ _)⟩
 |i::r,st,st',rd,wr,rd',wr',h,hx=>by
  simp only[phX]at hx;split at hx
  ·rename_i o ho;split at hx
   ·rename_i st1 w1 h1;obtain⟨hE,hs⟩:=AJN hEE h h1;obtain⟨hE',hr,hw,hs'⟩:=AD0 hEE hE.bd hx;refine⟨⟨dg hE.c hE'.c,hE'.bd,hE'.n.trans hE.n⟩,fun p hp=>hr p (dh _ hp),fun p hp=>hw p (dh _ hp),fun W σ pre K hrd hwr hk=>?_⟩;simp only[QE,NB,ho,XD ho];cases hz:zB l o with
    |true=>
     have hw0:w1=[]:=AJO (AMR hz) h1
     subst hw0
     unfold wz
     rw[hz]
     exact hs [] σ pre _ (fun p _=>by simp) (fun p hp=>hp) fun σ' ha=>hs' W σ' pre K hrd hwr fun σ'' ha'=>hk σ'' (ha.trans ha' hE.c)
    |false=>
    rw[hz]at hr;unfold wz;rw[hz];exact hs W σ pre _ (fun p hp=>hrd p (hr p (fj _ hp))) (fun p hp=>hwr p (hw p (fj _ hp))) fun σ' ha=>hs' W σ' pre K hrd hwr fun σ'' ha'=>hk σ'' (ha.trans ha' hE.c)
   ·cases hx
  ·cases hx
theorem AD1{E:XE}(hEE:KA P E){l:List fp}:∀{R:List Nat} {st st':XS},Bd st->sqX P E l R st=some st'->KJ st st' /\
  ∀(σ:Nat->Nat) (pre:List AA) (K:Fr->St->Prop),(∀σ',AO st.c σ σ'->K (st'.fr.ren σ' pre.length) (st'.s.emb σ' pre))->xO P l (l.map (K1 l)) R (st.fr.ren σ pre.length) (st.s.emb σ pre) K
 |[],st,st',h,hx=>by cases hx;exact⟨⟨bn _,h,rfl⟩,fun σ pre K hk=>hk σ (AO.refl _ _)⟩
 |i::r,st,st',h,hx=>by
  simp only[sqX]at hx;split at hx
  ·rename_i o ho;split at hx
   ·rename_i st1 h1;obtain⟨hE,g,hg,hs⟩:=ADY hEE h h1;obtain⟨hE',hs'⟩:=AD1 hEE hE.bd hx;refine⟨⟨dg hE.c hE'.c,hE'.bd,hE'.n.trans hE.n⟩,fun σ pre K hk=>?_⟩;simp only[xO,ho,XD ho,hg];exact hs σ pre _ fun σ' ha=>hs' σ' pre K fun σ'' ha'=>hk σ'' (ha.trans ha' hE.c)
   ·cases hx
  ·cases hx
end Go.Pg
namespace Go.Pg
variable {P:ft}{σ σ':Nat->Nat}{δ:Nat}{pre:List AA}{s:St}{fr:Fr}{g:Bool}
def AF:Nat->V->Bool
 |0,_=>false
 |f+1,v=>match v with
  |.int ..|.bool _|.raw _|.nil|.any=>true
  |.agg cs|.tup cs|.ref cs=>cs.all (AF f)
  |.list _ es=>es.all fun e=>e.all (AF f)
  |.fn _ a b=>a.all (AF f)&&b.all (AF f)
  |_=>false
theorem MZ{f:Nat}(ih:∀v,AF f v=true->v.ren σ δ=v){cs:List V}(h:cs.all (AF f)=true):cs.map (V.ren σ δ)=cs:=by
 conv=>rhs;rw[<-cn cs]
 exact bf fun v hv=>ih v (bh.1 h v hv)
theorem EJ:∀(f:Nat) (v:V),AF f v=true->v.ren σ δ=v
 |0,_,h=>by cases h
 |f+1,v,h=>by
  have ih:=fun v=>EJ f v;cases v with
  |agg cs=>rw[HH,MZ ih (by simpa [AF]using h)]
  |tup cs=>rw[KQ,MZ ih (by simpa [AF]using h)]
  |ref cs=>rw[MQ,MZ ih (by simpa [AF]using h)]
  |list b es=>
   have h':(es.all fun e=>e.all (AF f))=true:=by simpa [AF]using h
   rw[EQ]
   congr 1
   conv=>rhs;rw[<-cn es]
   exact bf fun e he=>MZ ih (bh.1 h' e he)
  |fn g a b=>
   have h':a.all (AF f)=true/\b.all (AF f)=true:=by simpa [AF]using h
   rw[OK,MZ ih h'.1,MZ ih h'.2]
  |int k n=>simp
  |bool b=>simp
  |raw v=>simp
  |nil=>simp
  |any=>simp
  |_=>simp[AF]at h
def QH(ks:List Nat)(fr:Fr):Fr:=List.rec (motive:=fun _=>Fr) [] (fun k _ ih=>match BR fr k with
 |some (c,v)=>(k,c,v)::ih
 | none=>ih) ks
theorem Z5(fr:Fr):∀(ks:List Nat),QH ks fr=OD ks fr
 |[]=>rfl
 |k::r=>by have:=Z5 fr r;show(match BR fr k with|some (c,v)=>(k,c,v)::QH r fr|none=>QH r fr)=OD (k::r) fr;rw[this,E5];rfl
theorem VD:∀(ks:List Nat),OD ks (fr.ren σ δ)=(OD ks fr).ren σ δ
 |[]=>rfl
 |k::r=>by
  simp only[OD,Fr.get_ren,VD r];cases fr.get k with
  |none=>rfl
  |some p=>rfl
theorem VE{L:AA}:∀(ks:List Nat),IV ks (L.ren σ δ)=(IV ks L).ren σ δ
 |[]=>rfl
 |k::r=>by
  simp only[IV,AA.get_ren,VE r];cases L.get k with
  |none=>rfl
  |some p=>rfl
def TS:List Nat->List Nat->List Nat
 |acc,[]=>acc
 |acc,k::r=>TS (cond (acc.any (bz k)) acc (k::acc)) r
def Q9(ks ls:List Nat)(st:XS):XS:=⟨st.c,QH ks st.fr,⟨st.s.up,IV ls st.s.loc⟩⟩
theorem AD2{ks ls:List Nat}{st:XS}{l k:Nat}{x:Nat×AX}(h:(Q9 ks ls st).s.get l k=some x):st.s.get l k=some x:=by
 unfold St.get Q9 at h;unfold St.get;simp only at h;split at h
 ·rename_i e;rw[if_pos e];exact PF h
 ·rename_i e;rw[if_neg e];exact h
theorem TU{ks ls:List Nat}{st:XS}(h:Bd st):KJ st (Q9 ks ls st):=by
 refine⟨bn _,⟨fun σ σ' δ ha=>?_,fun σ σ' pre ha=>?_,fun l k γ fr ps asg body N ls hg=>h.lp l k γ fr ps asg body N ls (AD2 hg)⟩,rfl⟩
 ·simp only[Q9,Z5,<-VD];rw[h.f σ σ' δ ha]
 ·have:=h.s σ σ' pre ha;simp only[St.emb,St.mk.injEq]at this;simp only[Q9,St.emb,St.mk.injEq,<-VE];exact⟨this.1,by rw[this.2]⟩
theorem VF{n N:Nat}{ρ:Option Nat}{c:gw}{K:Exit->Fr->St->Prop}{ks ls:List Nat}{st:XS}(h:BE P n N ρ c K ((Q9 ks ls st).fr.ren σ pre.length) ((Q9 ks ls st).s.emb σ pre)):BE P n N ρ c K (st.fr.ren σ pre.length) (st.s.emb σ pre):=by
 refine xH ks ls ?_;have e2:(⟨(st.s.emb σ pre).up,IV ls (st.s.emb σ pre).loc⟩:St)=(Q9 ks ls st).s.emb σ pre:=by simp only[Q9,St.emb,VE]
 rw[VD,e2,<-Z5];exact h
abbrev bO:=gw->XS->Option (Exit×XS)
def QI(P:ft)(E:XE)(l:List fp)(st:XS):Option XS:=yE P E l (cI l) st
def A3H(P:ft)(E:XE)(l:List fp)(draw:Bool)(st:XS):Option XS:=Bool.rec (gK P E l l st)
 (match AQX l with
  |[]=>QI P E l st
  | ds=>QI P E l (Q9 (TS [] (st.fr.map (·.1))) ((TS [] (st.s.loc.map (·.1))).filter fun k=>!(ds.any (bz k))) st)) draw
def RA(r:Option XS):Option (Exit×XS):=match r with
 |some st=>some (.normal,st)
 |none=>none
def cL(rec:bO)(b:gw)(r:Option (Exit×XS)):Option (Exit×XS):=match r with
 |some (.normal,st')=>rec b st'
 |r=>r
def K2(id:Nat)(r:Option (Exit×XS)):Option (Exit×XS):=match r with
 |some (.exit i,st')=>Bool.rec (some (.exit i,st')) (some (.normal,st')) (bz i id)
 |r=>r
def mA(rec:bO)(a b:gw)(st:XS)(r:Option V):Option (Exit×XS):=match r with
 |some (.bool c)=>Bool.rec (rec b st) (rec a st) c
 |_=>none
def eD(rec:bO)(body:gw)(ks:List Nat)(n:Nat):XS->Option (Exit×XS):=Nat.rec (motive:=fun _=>XS->Option (Exit×XS)) (fun _=>none) (fun _ ih st=>match rec body (Q9 ks (TS [] (st.s.loc.map (·.1))) st)with
 |some (.normal,st')=>ih st'
 | r=>r) n
def A9:Nat:=1000000
def gN(fr:Fr)(n γ:Nat)(r:Option (V×XS)):Option (Exit×XS):=match r with
 |some (_,st)=>match st.s.get n A9 with
  | some (γ',.loop _ _ _ _ _ ls)=>Bool.rec none (match ls with
   |.ready=>some (.normal,⟨st.c,fr,st.s.put n A9 γ .dead⟩)
   |.left .ret=>some (.ret,⟨st.c,fr,st.s.put n A9 γ .dead⟩)
   |.left (.exit id)=>some (.exit id,⟨st.c,fr,st.s.put n A9 γ .dead⟩)
   | _=>none) (bz γ' γ&&cx γ st.c)
  |_=>none
 |none=>none
def VG(cf:CF)(N:Nat)(g:gk)(ps:List Tmp)(asg body:gw)(st:XS):Option (Exit×XS):=match CD st.fr g with
 |some (.fn f first cap)=>gN st.fr st.s.up.length st.c (cf f ((first++[V.yld st.s.up.length A9 st.c]++cap).map weakV) ⟨st.c+1,st.fr,st.s.put st.s.up.length A9 st.c (.loop st.fr ps asg body N .ready)⟩)
 |_=>none
def Z6(P:ft)(E:XE)(n N:Nat)(rec:bO):bO:=fun code st=>match code with
 |.skip=>some (.normal,st)
 |.label _=>some (.normal,st)
 |.region _ ops draw=>RA (A3H P E ops.toList draw st)
 |.seq a b=>cL rec b (rec a st)
 |.cond c a b=>mA rec a b st (CD st.fr c)
 |.block id body=>K2 id (rec body st)
 |.loop body=>eD rec body (TS [] (st.fr.map (·.1))) n st
 |.exit id=>some (.exit id,st)
 |.ret=>some (.ret,st)
 |.scope body=>rec body st
 |.rangeFunc g ps asg body=>VG E.cf N g ps.toList asg body st
 |_=>none
abbrev GR:=Nat->bO
def yF(P:ft)(rs:List ResultVar)(st:XS):Option (V×Nat×List AA):=match FD P rs st.fr st.s with
 |some r=>match AY st.s 4 r with
  |some r'=>some (r',st.c,st.s.up.map (AH st.s))
  |none=>none
 |none=>none
def mB{α:Type}(rec:bO)(ret:XS->Option α)(code:gw)(st:XS):Option α:=match rec code st with
 |some (.ret,st')=>ret st'
 |some (.normal,st')=>ret st'
 |_=>none
def WN{α:Type}(P:ft)(rec:GR)(ret:Func->XS->Option α)(f:gv)(args:List V)(c:Nat)(up:List AA):Option α:=match P.funcs[f]? with
 |some fn=>match fn.body with
  |some code=>Bool.rec none (mB (rec fn.ntmps) (ret fn) code ⟨c,AD 0 args,⟨up,[]⟩⟩) (dn args.length fn.ntmps)
  |none=>none
 |none=>none
def eE(P:ft)(rec:GR)(f:gv)(args:List V)(c:Nat)(up:List AA):Option (V×Nat×List AA):=WN P rec (fun fn=>yF P fn.results.toList) f args c up
def EK(P:ft)(rec:GR):CF0:=fun f args=>Bool.rec none (match eE P rec f args 0 []with
 |some (r,_,_)=>Bool.rec none (some r) (AF 9 r)
 | none=>none) (args.all (AF 9))
def BW{α:Type}:List α->Option (List α×α)
 |[]=>none
 |[x]=>some ([],x)
 |x::r=>match BW r with
  |some (a,b)=>some (x::a,b)
  |none=>none
def A3(P:ft)(kn:CF0)(rec:GR):CF0:=fun f args=>match kn f args with
 |some r=>some r
 |none=>EK P rec f args
def weakM:V->V
 |.nil=>.list false []
 |v=>v
def weakN:V->V
 |.nil=>.list false []
 |.agg cs=>.agg (cs.map weakM)
 |v=>v
theorem RepV.empty{G:Gh}{v:Value}(h:RepV G .nil v):RepV G (.list false []) v:=by cases h;exact .list false [] none 0 0 0 0 #[] 0 (0,0) (fun _ _=>undef) (by simp) (fun h=>by cases h) (fun h=>absurd rfl h) (fun i h=>absurd h (by simp)) (fun i h=>absurd h (by simp)) (fun i h=>absurd h (by simp))
theorem RepV.weakM{G:Gh}{x:V}{v:Value}(h:RepV G x v):RepV G (weakM x) v:=by cases x<;>first|exact h|exact h.empty
theorem gO(x:V):(weakM x).isCell=x.isCell:=by cases x<;>rfl
theorem RepV.weakN{G:Gh}{x:V}{v:Value}(h:RepV G x v):RepV G (weakN x) v:=by
 cases x with
 |nil=>exact h.empty
 |agg cs=>
  cases h with
  |agg _ arr hl hc hr=>
   refine .agg _ arr (by simpa using hl) (fun c hc'=>?_) (fun i h1 h2=>?_)
   ·obtain⟨d,hd,rfl⟩:=dk.1 hc';rw[gO];exact hc d hd
   ·simp only[List.getElem_map];exact(hr i (by simpa using h1) h2).weakM
 |_=>exact h
theorem RepA.weakN{G:Gh}{xs:List V}{vs:List Value}(h:RepA G xs vs):RepA G (xs.map Pg.weakN) vs :=
 ⟨by simpa using h.1,fun i h1 h2=>by simp only[List.getElem_map];exact(h.2 i (by simpa using h1) h2).weakN⟩
def FI(P:ft)(kn:CF0)(rec:GR):CF0:=fun f args=>match A3 P kn rec f (args.map weakN)with
 |some r=>Bool.rec (A3 P kn rec f args) (some r) (args.all (AF 9))
 |none=>A3 P kn rec f args
def BD3(P:ft)(T:gq):Bool:=match P.underlying T with
 |some (.pointer _)=>true
 |_=>false
def BJ(P:ft)(f:gv):Bool:=match P.funcs[f]? with
 |some fn=>fn.resultTypes.toList.any (BD3 P)
 |none=>false
def Z7(P:ft)(kn:CF0)(rec:GR):CF:=fun f args st=>Bool.rec (match eE P rec f args st.c (st.s.up++[st.s.loc])with
 |some (r,c,up)=>match BW up with
  |some (u,l)=>some (r,⟨c,st.fr,⟨u,l⟩⟩)
  |none=>none
 | none=>none) (match FI P kn rec f args with
  |some r=>some (r,st)
  | none=>none) (args.all (AF 9)&&!(BJ P f))
def mC(P:ft)(fn:Func)(st:XS):Option Mk:=match FD P fn.results.toList st.fr st.s with
 | some (.vec l k γ n)=>Bool.rec none (match st.s.loc.get k with
  |some (γ',.vec T es)=>Bool.rec none (some ⟨.vec T es,none⟩) (bz γ' γ&&bz n es.length&&es.all fun e=>e.all (AF 9))
  | _=>none) (bz l st.s.up.length)
 | some v=>Bool.rec none (match fn.resultTypes.toList with
  |[R]=>match BO P R with
   |some (none,T)=>some ⟨.vec T [],none⟩
   |_=>none
  | _=>none) (WV v)
 |none=>none
def F3(P:ft)(f:gv):Bool:=match P.funcs[f]? with
 |some fn=>match fn.resultTypes.toList with
  |[R]=>match BO P R with
   |some (none,_)=>true
   |_=>false
  |_=>false
 |none=>false
def I8(P:ft)(rec:GR)(f:gv)(args:List V):Option Mk:=Bool.rec none (WN P rec (mC P) f args 0 []) (args.all (AF 9))
def OP(P:ft)(kn:CF0)(ko:CFO)(rec:GR):CFO:=fun f args d=>match ko f args d with
 |some r=>some r
 | none=>Bool.rec (match FI P kn rec f args with
  |some r=>some ⟨.dead,some r⟩
  | none=>none) (I8 P rec f args) (F3 P f)
def H0(s:St)(u:List AA)(l:AA):St:=⟨u.map (AH s),AH s l⟩
def OQ(fr:Fr)(l q γ:Nat)(r:Option (Exit×XS)):Option (V×XS):=match r with
 |some (e,st)=>match st.s.get l q with
  | some (γ',.loop fr0 ps asg body N .busy)=>Bool.rec none (match BW st.s.up with
   |some (u,lc)=>match e with
    |.normal=>some (.bool true,⟨st.c,fr,(H0 st.s u lc).put l q γ (.loop fr0 ps asg body N .ready)⟩)
    |.ret=>some (.bool false,⟨st.c,fr,(H0 st.s u lc).put l q γ (.loop fr0 ps asg body N (.left .ret))⟩)
    |.exit id=>some (.bool false,⟨st.c,fr,(H0 st.s u lc).put l q γ (.loop fr0 ps asg body N (.left (.exit id)))⟩)
    |_=>none
   | none=>none) (bz γ' γ&&cx l st.s.up.length&&cx γ st.c)
  |_=>none
 |none=>none
def Z8(rec:bO)(l q γ:Nat)(body:gw)(r:Option (Exit×XS)):Option (Exit×XS):=match r with
 |some (.normal,st)=>match st.s.get l q with
  |some (γ',.loop fr0 ps asg body' N .ready)=>Bool.rec none (rec body ⟨st.c,st.fr,st.s.put l q γ (.loop fr0 ps asg body' N .busy)⟩) (bz γ' γ&&cx γ st.c)
  |_=>none
 |_=>none
def Z9(rec:GR):CY:=fun l q γ vs st=>match st.s.get l q with
 |some (γ',.loop fr0 ps asg body N .ready)=>Bool.rec none (OQ st.fr l q γ (Z8 (rec N) l q γ body (rec N asg ⟨st.c,IQ fr0 ps vs,⟨st.s.up++[st.s.loc],[]⟩⟩))) (bz γ' γ&&bz vs.length ps.length&&cx γ st.c)
 |_=>none
def A3I(P:ft)(kn:CF0)(ko:CFO)(lit:Tmp->Bool)(rec:GR):XE:=⟨Z7 P kn rec,Z9 rec,FI P kn rec,OP P kn ko rec,lit⟩
def pU(fn:Func):Bool:=match fn.body with
 | some c => !(fn.name == "runtime.NumGoroutine") && ER fn.ntmps c
 |none=>true
structure EA(P:ft):Prop where
 all:P.funcs.toList.all pU=true
 mixed:P.follows .mixedOrders=true
def aA(P:ft)(N:Nat)(rec:bO):Prop:=∀code st e st',rec code st=some (e,st')->Bd st->ER N code=true->KJ st st'/\(∀l,e≠.goto l) /\
 ∀(n:Nat) (ρ:Option Nat) (σ:Nat->Nat) (pre:List AA) (K:Exit->Fr->St->Prop),(ρ=none\/GF code=true)->(∀σ',AO st.c σ σ'->K e (st'.fr.ren σ' pre.length) (st'.s.emb σ' pre))->BE P n N ρ code K (st.fr.ren σ pre.length) (st.s.emb σ pre)
def aB(P:ft)(rec:GR):Prop:=∀N,aA P N (rec N)
theorem OR{α:Type}:∀{l:List α} {u:List α} {x:α},BW l=some (u,x)->l=u++[x]
 |[],u,x,h=>by cases h
 |[y],u,x,h=>by cases h;rfl
 |y::z::r,u,x,h=>by
  simp only[BW]at h;split at h
  ·rename_i a b e;cases h;rw[OR (l:=z::r) e];rfl
  ·cases h
theorem AD3{c:Nat}{args:List V}(h:∀v∈args,UF c v)(σ σ':Nat->Nat)(δ:Nat)(ha:AO c σ σ'):(AD 0 args).ren σ δ=(AD 0 args).ren σ' δ:=by rw[<-PJ,<-PJ];congr 1;exact bf fun v hv=>h v hv σ σ' δ ha
theorem AQ3{st:XS}(h:Bd st){rs:List ResultVar}{v r:V}(hv:FD P rs st.fr st.s=some v)(hr:AY st.s 4 v=some r):UF st.c r:=by intro σ σ' δ ha;have q1:=OM (σ:=σ) (pre:=bw δ []) hv;have q2:=OM (σ:=σ') (pre:=bw δ []) hv;rw[h.f σ σ' _ ha,h.s σ σ' _ ha,q2]at q1;have q:=cw.inj q1;have r1:=J6 (σ:=σ) (pre:=bw δ []) 4 hr;have r2:=J6 (σ:=σ') (pre:=bw δ []) 4 hr;rw[h.s σ σ' _ ha,<-q,r2]at r1;have:=cw.inj r1;rw[bb]at this;exact this.symm
theorem HP(u:List AA)(l:AA)(i k:Nat):(⟨u,l⟩:St).get i k=match(u++[l])[i]? with
  |some L=>L.get k
  |none=>none:=by
 unfold St.get
 simp only
 by_cases h:i=u.length
 ·subst h;simp
 ·rw[if_neg h];rcases Nat.lt_or_ge i u.length with h'|h'
  ·rw[dw h'];rfl
  ·rw[dq h',dl h'];have:1<=i-u.length:=by omega
   rw[dl (by simpa using this)]
theorem pV(L:AA)(k g:Nat)(r:AX)(h:((AH s L).ren σ pre.length).get k=some (g,r)):∃r0,(L.ren σ pre.length).get k=some (g,r0)/\(r=r0\/r=HC (s.emb σ pre) r0):=by
 rw[AA.get_ren,MU]at h;rw[AA.get_ren];cases hL:L.get k with
 |none=>rw[hL]at h;cases h
 |some p=>
  rw[hL]at h
  cases h
  exact⟨p.2.ren σ pre.length,rfl,lP p.2⟩
theorem eF{s:St}{F:List AA}{u u2:List AA}{l l2:AA}(h1:u++[l]=pre++F.map (AA.ren σ pre.length))(h2:u2++[l2]=pre++(F.map (AH s)).map (AA.ren σ pre.length)):wZ (s.emb σ pre) ⟨u,l⟩ ⟨u2,l2⟩:=by
 have hlen:u2.length=u.length:=by have a1:=congrArg dz h1;have a2:=congrArg dz h2;simp at a1 a2;omega
 refine⟨hlen,fun i k g r hg=>?_⟩;rw[HP,h2]at hg;rw[HP,h1];rcases Nat.lt_or_ge i pre.length with hi|hi
 ·rw[dw hi]at hg|-;exact⟨r,hg,.inl rfl⟩
 ·rw[dq hi]at hg|-;simp only[fg,List.getElem?_map]at hg|-;cases hF:F[i-pre.length]? with
  |none=>rw[hF]at hg;cases hg
  |some L=>
   rw[hF]at hg
   exact pV L k g r hg
theorem pW{s:St}{c:Nat}(hs:∀σ σ' pre,AO c σ σ'->s.emb σ pre=s.emb σ' pre){r:AX}(hr:∀σ σ' δ,AO c σ σ'->r.ren σ δ=r.ren σ' δ)(σ σ':Nat->Nat)(δ:Nat)(ha:AO c σ σ'):(CB s r).ren σ δ=(CB s r).ren σ' δ:=by
 unfold CB;split
 ·rename_i r' h;have q1:=K0 (σ:=σ) (pre:=bw δ []) h;have q2:=K0 (σ:=σ') (pre:=bw δ []) h;rw[hs σ σ' _ ha]at q1;simp only[bb]at q1 q2;rw[hr σ σ' _ ha,q2]at q1;exact(cw.inj q1).symm
 ·exact hr σ σ' δ ha
theorem mD{L:AA}{δ:Nat}(σ σ':Nat->Nat):L.ren σ δ=L.ren σ' δ↔∀p∈L,σ p.2.1=σ' p.2.1/\p.2.2.ren σ δ=p.2.2.ren σ' δ:=by unfold AA.ren;rw[cm];simp only[fh.injEq,true_and]
theorem eG{s:St}{c:Nat}(hs:∀σ σ' pre,AO c σ σ'->s.emb σ pre=s.emb σ' pre){L:AA}(hL:∀σ σ' δ,AO c σ σ'->L.ren σ δ=L.ren σ' δ)(σ σ':Nat->Nat)(δ:Nat)(ha:AO c σ σ'):(AH s L).ren σ δ=(AH s L).ren σ' δ:=by rw[mD];intro p hp;obtain⟨x,hx,rfl⟩:=dk.1 hp;have h1:∀σ σ' δ,AO c σ σ'->σ x.2.1=σ' x.2.1/\x.2.2.ren σ δ=x.2.2.ren σ' δ:=fun σ σ' δ ha=>(mD σ σ').1 (hL σ σ' δ ha) x hx;exact⟨(h1 σ σ' δ ha).1,pW hs (fun σ σ' δ ha=>(h1 σ σ' δ ha).2) σ σ' δ ha⟩
theorem AD4{s:St}{c:Nat}(hs:∀σ σ' pre,AO c σ σ'->s.emb σ pre=s.emb σ' pre):∀L∈s.up,∀σ σ' δ,AO c σ σ'->L.ren σ δ=L.ren σ' δ:=by intro L hL σ σ' δ ha;have:=hs σ σ' (bw δ []) ha;simp only[St.emb,St.mk.injEq,bb]at this;exact cm.1 (db this.1) L hL
theorem eH(s:St)(L:AA){k γ:Nat}{fr:Fr}{ps:List Tmp}{asg body:gw}{N:Nat}{st:LS}(h:(AH s L).get k=some (γ,.loop fr ps asg body N st)):L.get k=some (γ,.loop fr ps asg body N st):=by
 rw[MU]at h;cases hL:L.get k with
 |none=>rw[hL]at h;cases h
 |some p=>
  rw[hL]at h
  simp only[bq,cw.injEq,fh.injEq]at h
  obtain⟨h1,h2⟩:=h
  obtain⟨g,r⟩:=p
  simp only at h1 h2
  subst h1
  congr 2
  cases r with
  |loop=>exact h2
  |box cs=>unfold CB at h2;split at h2<;>rename_i e<;>simp only[B0]at e<;>(try (split at e<;>cases e))<;>cases h2
  |vec T es=>unfold CB at h2;split at h2<;>rename_i e<;>simp only[B0]at e<;>(try (split at e<;>cases e))<;>cases h2
  |map es=>unfold CB at h2;split at h2<;>rename_i e<;>simp only[B0]at e<;>(try (split at e<;>cases e))<;>cases h2
  |dead=>unfold CB at h2;split at h2<;>rename_i e<;>simp only[B0]at e<;>cases e;cases h2
def FX(P:ft)(f:gv)(args:List V)(c:Nat)(up:List AA)(r:V)(c':Nat)(up':List AA):Prop:=c<=c'/\UF c' r/\(∀σ σ' δ,AO c' σ σ'->up'.map (AA.ren σ δ)=up'.map (AA.ren σ' δ))/\up'.length=up.length /\
  (∀L∈up',∀k γ fr ps asg body N st,L.get k=some (γ,.loop fr ps asg body N st)->TO N ps asg body=true) /\
  ∀(σ:Nat->Nat) (pre:List AA) (s:St) (K:V->St->Prop),s.up++[s.loc]=pre++up.map (AA.ren σ pre.length)->(∀σ' u l,AO c σ σ'->u++[l]=pre++up'.map (AA.ren σ' pre.length)->K (r.ren σ' pre.length) ⟨u,l⟩)->FB P f (args.map (V.ren σ pre.length)) s K
theorem aC(hP:EA P){rec:GR}(hrec:aB P rec){α:Type}{ret:Func->XS->Option α}{f:gv}{args:List V}{c:Nat}{up:List AA}{x:α}(hx:WN P rec ret f args c up=some x)(hargs:∀v∈args,UF c v)
  (hup:∀σ σ' δ,AO c σ σ'->up.map (AA.ren σ δ)=up.map (AA.ren σ' δ)) (hlp:∀L∈up,∀k γ fr ps asg body N st,L.get k=some (γ,.loop fr ps asg body N st)->TO N ps asg body=true) :
  ∃fn st',ret fn st'=some x/\Bd st'/\c<=st'.c/\st'.s.up.length=up.length/\∀(σ:Nat->Nat) (pre:List AA) (s:St) (K:V->St->Prop),s.up++[s.loc]=pre++up.map (AA.ren σ pre.length) ->
   (∀σ',AO c σ σ'->AQS P fn.results.toList (s.up.length+1) K .ret (st'.fr.ren σ' pre.length) (st'.s.emb σ' pre))->FB P f (args.map (V.ren σ pre.length)) s K:=by
 unfold WN at hx
 split at hx
 ·rename_i fn hf;split at hx
  ·rename_i code hb;obtain⟨hsz,hx1⟩:=EF hx;have hck:pU fn=true:=bh.1 hP.all fn (by
    have:=Array.mem_of_getElem? hf;simpa using this)
   simp only[pU,hb,bx,fc]at hck;have hbd:Bd ⟨c,AD 0 args,⟨up,[]⟩⟩:=⟨fun σ σ' δ ha=>AD3 hargs σ σ' δ ha,fun σ σ' pre ha=>by simp only[St.emb,hup σ σ' _ ha]; rfl,fun l k γ fr ps asg body N st hg=>by
    rw[HP]at hg;split at hg
    ·rename_i L hL;rcases dr.1 (fk hL)with hm|hm
     ·exact hlp L hm _ _ _ _ _ _ _ _ hg
     ·have:L=[]:=by simpa using hm
      subst this;simp at hg
    ·cases hg⟩
   have main:∀e st',rec fn.ntmps code ⟨c,AD 0 args,⟨up,[]⟩⟩=some (e,st')->(e=.ret\/e=.normal)->ret fn st'=some x->∃fn st',ret fn st'=some x/\Bd st'/\c<=st'.c/\st'.s.up.length=up.length/\∀(σ:Nat->Nat) (pre:List AA) (s:St) (K:V->St->Prop),s.up++[s.loc]=pre++up.map (AA.ren σ pre.length) ->
     (∀σ',AO c σ σ'->AQS P fn.results.toList (s.up.length+1) K .ret (st'.fr.ren σ' pre.length) (st'.s.emb σ' pre))->FB P f (args.map (V.ren σ pre.length)) s K:=by
    intro e st' h1 he h2
    obtain⟨hE,_,hC⟩:=hrec _ _ _ _ _ h1 hbd hck.2
    refine⟨fn,st',h2,hE.bd,hE.c,hE.n,fun σ pre s K hs hk=>?_⟩
    refine A3A hf hb (kU hf hb hck.1) (by simpa using hsz) ?_
    have e1:(⟨s.up++[s.loc],[]⟩:St)=(⟨up,[]⟩:St).emb σ pre:=by simp only[St.emb,hs];rfl
    rw[PJ,e1]
    refine hC _ none σ pre _ (.inl rfl) fun σ' ha=>?_
    have:=hk σ' ha
    rcases he with rfl|rfl<;>exact this
   unfold mB at hx1;split at hx1
   ·rename_i st' h1;exact main _ _ h1 (.inl rfl) hx1
   ·rename_i st' h1;exact main _ _ h1 (.inr rfl) hx1
   ·cases hx1
  ·cases hx
 ·cases hx
theorem mE(hP:EA P){rec:GR}(hrec:aB P rec){f:gv}{args:List V}{c:Nat}{up:List AA}{r:V}{c':Nat}{up':List AA}(hx:eE P rec f args c up=some (r,c',up'))(hargs:∀v∈args,UF c v)
  (hup:∀σ σ' δ,AO c σ σ'->up.map (AA.ren σ δ)=up.map (AA.ren σ' δ)) (hlp:∀L∈up,∀k γ fr ps asg body N st,L.get k=some (γ,.loop fr ps asg body N st)->TO N ps asg body=true):FX P f args c up r c' up':=by
 obtain⟨fn,st',hret,hbd,hc,hlen,hA⟩:=aC hP hrec hx hargs hup hlp
 unfold yF at hret
 split at hret
 ·rename_i r0 hr0;split at hret
  ·rename_i r1 hr1;cases hret;refine⟨hc,AQ3 hbd hr0 hr1,fun σ σ' δ ha=>?_,by simpa using hlen,fun L hL k γ fr ps asg body N st hg=>?_,fun σ pre s K hs hk=>hA σ pre s K hs fun σ' ha=>?_⟩
   ·simp only[fg];exact bf fun L hL=>eG hbd.s (AD4 hbd.s L hL) σ σ' δ ha
   ·obtain⟨L0,hL0,rfl⟩:=dk.1 hL;have hg:=eH _ _ hg;obtain⟨i,hi,rfl⟩:=List.getElem_of_mem hL0;refine hbd.lp i k γ fr ps asg body N st ?_;unfold St.get;rw[if_neg (by omega),List.getElem?_eq_getElem hi];exact hg
   ·have hl2:(st'.s.emb σ' pre).up.length=s.up.length+1:=by have q:=congrArg dz hs;simp only[cg,cp,bp]at q;rw[DB,hlen];omega
    rcases dm (st'.s.emb σ' pre).up with h0|⟨u,l,h0⟩
    ·rw[h0]at hl2;simp at hl2
    ·have h0:(st'.s.emb σ' pre).up=u++[l]:=by simpa using h0
     have hu:u.length+1=s.up.length+1:=by rw[<-hl2,h0];simp
     have hcl:=OL 4 (J6 (σ:=σ') (pre:=pre) 4 hr1);have hres:=OM (σ:=σ') (pre:=pre) hr0;rcases dm (pre++(st'.s.up.map (AH st'.s)).map (AA.ren σ' pre.length))with h3|⟨u2,l2,h3⟩
     ·have h4:=congrArg dz h3;have h5:=congrArg dz h0;simp only[St.emb,cg,bp,List.length_nil,cp]at h4 h5;omega
     ·have h3:pre++(st'.s.up.map (AH st'.s)).map (AA.ren σ' pre.length)=u2++[l2]:=by simpa using h3
      have hK:=hk σ' u2 l2 ha h3.symm;have hS:=eF (s:=st'.s) (F:=st'.s.up) (u:=u) (l:=l) (u2:=u2) (l2:=l2) (σ:=σ') (pre:=pre) h0.symm h3.symm;exact⟨u,l,_,h0,hu,hres,.inl ⟨_,_,by rw[hcl];exact Wk.refl _,hS,hK⟩⟩
  ·cases hret
 ·cases hret
theorem VH{c:Nat}{args:List V}(h:args.all (AF 9)=true):∀v∈args,UF c v:=fun v hv σ σ' δ _=>by rw[EJ 9 v (bh.1 h v hv),EJ 9 v (bh.1 h v hv)]
theorem aD(hP:EA P){rec:GR}(hrec:aB P rec):HL P (EK P rec):=by
 intro f args r hx;unfold EK at hx;obtain⟨hcl,hx1⟩:=EF hx;split at hx1
 ·rename_i r0 c' up' h1;obtain⟨hr,rfl⟩:=JQ hx1;obtain⟨_,_,_,hlen,_,hA⟩:=mE hP hrec h1 (VH hcl) (fun _ _ _ _=>rfl) (fun L hL=>by cases hL);have hargs:∀v∈args,∀σ δ,V.ren σ δ v=v:=fun v hv σ δ=>EJ 9 v (bh.1 hcl v hv);have hup:up'=[]:=ct hlen;refine⟨fun s=>?_,hargs,fun σ δ=>EJ 9 _ hr⟩;have:=hA id (s.up++[s.loc]) s (fun r' s'=>r'=r0/\s'=s) (by simp) fun σ' u l _ hu=>?_
  ·have e:args.map (V.ren id (s.up++[s.loc]).length)=args:=by
    conv=>rhs;rw[<-cn args]
    exact bf fun v hv=>hargs v hv _ _
   rw[e]at this;exact this
  ·rw[hup]at hu;simp only[dj,List.append_nil]at hu;obtain⟨e1,e2⟩:=df hu rfl;refine⟨EJ 9 _ hr,?_⟩;subst e1;simp only[List.cons.injEq,and_true]at e2;subst e2;rfl
 ·cases hx1
theorem aE(hP:EA P){kn:CF0}(hkn:HL P kn){rec:GR}(hrec:aB P rec):HL P (A3 P kn rec):=by
 intro f args r hx;unfold A3 at hx;split at hx
 ·rename_i r0 h0;cases hx;exact hkn _ _ _ h0
 ·exact aD hP hrec _ _ _ hx
theorem aF(hP:EA P){kn:CF0}(hkn:HL P kn){rec:GR}(hrec:aB P rec):HL P (FI P kn rec):=by
 intro f args r hx;unfold FI at hx;split at hx
 ·rename_i r0 h0;cases hcl:args.all (AF 9)with
  |false=>rw[hcl]at hx;exact aE hP hkn hrec _ _ _ hx
  |true=>
   rw[hcl]at hx
   cases hx
   obtain⟨hA,_,h2⟩:=aE hP hkn hrec _ _ _ h0
   exact⟨fun s=>⟨(hA s).1,fun G vals w R hI ha hR=>(hA s).2 G vals w R hI ha.weakN hR⟩,fun v hv σ δ=>EJ 9 v (bh.1 hcl v hv),h2⟩
 ·exact aE hP hkn hrec _ _ _ hx
theorem handed(hP:EA P){rec:GR}(hrec:aB P rec){f:gv}{args:List V}{ret:Func->XS->Option Mk}{r:Mk}{d:Tmp}(hcl:args.all (AF 9)=true)(hx:WN P rec ret f args 0 []=some r)
  (hr:∀(fn:Func) (st':XS),ret fn st'=some r->st'.s.up=[]->∀(s:St) (σ':Nat->Nat),∃r0,FD P fn.results.toList (st'.fr.ren σ' (s.up++[s.loc]).length) (st'.s.emb σ' (s.up++[s.loc]))=some r0 /\
   ((∃k γ T es,(st'.s.emb σ' (s.up++[s.loc])).loc.get k=some (γ,.vec T es)/\xG (s.up.length+1) k s.up.length d 4 r0=r.val s.up.length d γ/\r.res=.vec T es)\/(∃T,WV r0=true/\r=⟨.vec T [],none⟩)))
  (s:St):FB P f args s fun v s'=>∃γ,v=r.val s.up.length d γ/\s'=s.put s.up.length d γ r.res:=by
 obtain⟨fn,st',hret,hbd,hc,hlen,hA⟩:=aC hP hrec hx (VH hcl) (fun _ _ _ _=>rfl) (fun L hL=>by cases hL)
 have hargs:∀v∈args,∀σ δ,V.ren σ δ v=v:=fun v hv σ δ=>EJ 9 v (bh.1 hcl v hv)
 have hup:st'.s.up=[]:=ct hlen
 have:=hA id (s.up++[s.loc]) s (fun v s'=>∃γ,v=r.val s.up.length d γ/\s'=s.put s.up.length d γ r.res) (by simp) fun σ' _=>?_
 ·have e:args.map (V.ren id (s.up++[s.loc]).length)=args:=by
   conv=>rhs;rw[<-cn args]
   exact bf fun v hv=>hargs v hv _ _
  rw[e]at this;exact this
 ·obtain⟨r0,h1,h2⟩:=hr fn st' hret hup s σ';refine⟨s.up,s.loc,r0,by simp[St.emb,hup],rfl,h1,.inr ?_⟩;rcases h2 with⟨k,γ,T,es,h3,h4,h5⟩|⟨T,h3,h4⟩
  ·exact .inl ⟨k,γ,T,es,d,h3,γ,h4,by rw[h5]⟩
  ·subst h4;exact .inr ⟨d,T,h3,fun γ=>⟨γ,rfl,rfl⟩⟩
theorem yG(hP:EA P){rec:GR}(hrec:aB P rec){f:gv}{args:List V}{r:Mk}{d:Tmp}(hx:I8 P rec f args=some r) :
  (∀(s:St),FB P f args s fun v s'=>∃γ,v=r.val s.up.length d γ/\s'=s.put s.up.length d γ r.res)/\(∀v∈args,∀σ δ,v.ren σ δ=v)/\(∀σ δ,r.res.ren σ δ=r.res)/\cJ r.res=true:=by
 unfold I8 at hx
 obtain⟨hcl,hx1⟩:=EF hx
 have hargs:∀v∈args,∀σ δ,V.ren σ δ v=v:=fun v hv σ δ=>EJ 9 v (bh.1 hcl v hv)
 have main:∀(fn:Func) (st':XS),mC P fn st'=some r->((∀σ δ,r.res.ren σ δ=r.res)/\cJ r.res=true)/\(st'.s.up=[]->∀(s:St) (σ':Nat->Nat),∃r0,FD P fn.results.toList (st'.fr.ren σ' (s.up++[s.loc]).length) (st'.s.emb σ' (s.up++[s.loc]))=some r0 /\
   ((∃k γ T es,(st'.s.emb σ' (s.up++[s.loc])).loc.get k=some (γ,.vec T es)/\xG (s.up.length+1) k s.up.length d 4 r0=r.val s.up.length d γ/\r.res=.vec T es)\/(∃T,WV r0=true/\r=⟨.vec T [],none⟩))):=by
  intro fn st' hret
  unfold mC at hret
  split at hret
  ·rename_i l k γ n hres;obtain⟨hl,hret⟩:=EF hret;have hl:=bj hl;split at hret
   ·rename_i γ' T es hget;obtain⟨hc2,he⟩:=JQ hret;cases he;simp only[bx]at hc2;obtain⟨⟨h1,h2⟩,h3⟩:=hc2;have h1:=bj h1;have h2:=bj h2;subst h1;subst h2;have hes:∀σ δ,es.map (cj (V.ren σ δ))=es:=fun σ δ=>by
     conv=>rhs;rw[<-cn es]
     exact bf fun e he=>MZ (fun v=>EJ 9 v) (bh.1 h3 e he)
    refine⟨⟨fun σ δ=>by simp only[AX.ren,hes],rfl⟩,fun hup s σ'=>⟨_,OM hres,.inl ⟨k,σ' γ',T,es,?_,?_,rfl⟩⟩⟩
    ·rw[KR,hget];simp only[bq,AX.ren,hes]
    ·rw[hup]at hl;subst hl;simp[xG,Mk.val,HD]
   ·cases hret
  ·rename_i v hnv hres;obtain⟨hn,hret⟩:=EF hret;split at hret
   ·split at hret
    ·rename_i T _;cases hret;exact⟨⟨fun _ _=>rfl,rfl⟩,fun hup s σ'=>⟨_,OM hres,.inr ⟨_,by rw[ADS];exact hn,rfl⟩⟩⟩
    ·cases hret
   ·cases hret
  ·cases hret
 obtain⟨fn,st',hret,_⟩:=aC hP hrec hx1 (VH hcl) (fun _ _ _ _=>rfl) (fun L hL=>by cases hL)
 exact⟨handed hP hrec hcl hx1 fun fn st' h=>(main fn st' h).2,hargs,(main fn st' hret).1⟩
theorem CP.nought{G:Gh}{s:St}{w:World}(hI:CP G s w)(d γ:Nat):CP G (s.put s.up.length d γ .dead) w:=by
 have look:∀{l k x},(s.put s.up.length d γ .dead).get l k=some x->x=(γ,.dead)\/s.get l k=some x:=fun {l k x} h=>by
  rw[St.get_putLoc]at h;split at h
  ·exact .inl (cw.inj h).symm
  ·exact .inr h
 refine⟨hI.sl,fun l k g r h=>?_,fun l k g r l' k' g' r' b h1 h2 h3 h4=>?_,fun l k g r b h1 h2=>?_,hI.fresh,hI.env⟩
 ·rcases look h with e|e
  ·cases e;trivial
  ·exact hI.res _ _ _ _ e
 ·rcases look h1 with e|e1
  ·cases e;cases h3
  ·rcases look h2 with e|e2
   ·cases e;cases h4
   ·exact hI.sep _ _ _ _ _ _ _ _ _ e1 e2 h3 h4
 ·rcases look h1 with e|e
  ·cases e;cases h2
  ·exact hI.out _ _ _ _ _ e h2
theorem AD5(hP:EA P){kn:CF0}(hkn:HL P kn){ko:CFO}(hko:pQ P ko){rec:GR}(hrec:aB P rec):pQ P (OP P kn ko rec):=by
 intro f args d r hx;unfold OP at hx;split at hx
 ·rename_i r0 h0;cases hx;exact hko _ _ _ _ h0
 ·cases hs:F3 P f with
  |true=>
   rw[hs]at hx
   exact yG hP hrec hx
  |false=>
   rw[hs]at hx
   have hx:(match FI P kn rec f args with
    |some r=>some (⟨.dead,some r⟩:Mk)
    | none=>none)=some r:=hx
   split at hx
   ·rename_i r0 h0;cases hx;obtain⟨hA,h1,h2⟩:=aF hP hkn hrec _ _ _ h0;refine⟨fun s=>⟨(hA s).1,fun G vals w R hI ha hR=>(hA s).2 G vals w R hI ha fun G' v u w' s' hle hI' hv hlen hk=>?_⟩,h1,fun _ _=>rfl,rfl⟩;obtain⟨rfl,rfl⟩:=hk;exact hR G' _ u w' (s'.put s'.up.length d 0 .dead) hle (hI'.nought d 0) hv (St.put_len _ _ _ _ _) ⟨0,(h2 _ _).symm,rfl⟩
   ·cases hx
theorem AD6(hP:EA P){kn:CF0}(hkn:HL P kn){rec:GR}(hrec:aB P rec):eA P (Z7 P kn rec):=by
 intro f args st r st' hx hbd hargs;unfold Z7 at hx;cases hcl:(args.all (AF 9)&&!(BJ P f))with
 |true=>
  rw[hcl]at hx
  have hx:(match FI P kn rec f args with|some r=>some (r,st)|none=>none)=some (r,st'):=hx
  split at hx
  ·rename_i r0 h0;cases hx;obtain⟨hA,h1,h2⟩:=aF hP hkn hrec _ _ _ h0;refine⟨⟨bn _,hbd,rfl⟩,fun σ σ' δ _=>by rw[h2,h2],rfl,fun σ pre K hk=>?_⟩;have e:args.map (V.ren σ pre.length)=args:=by
    conv=>rhs;rw[<-cn args]
    exact bf fun v hv=>h1 v hv _ _
   rw[e];refine(hA (st.s.emb σ pre)).mono fun r' s' q5=>?_;obtain⟨rfl,rfl⟩:=q5;have:=hk σ (AO.refl _ _);rwa [h2]at this
  ·cases hx
 |false=>
  rw[hcl]at hx
  have hx:(match eE P rec f args st.c (st.s.up++[st.s.loc])with
   |some (r,c,up)=>match BW up with
    |some (u,l)=>some (r,(⟨c,st.fr,⟨u,l⟩⟩:XS))
    |none=>none
   | none=>none)=some (r,st'):=hx
  split at hx
  ·rename_i r0 c0 up0 h1;split at hx
   ·rename_i u l hu;cases hx;have hup0:=OR hu;have hsb:∀σ σ' δ,AO st.c σ σ'->(st.s.up++[st.s.loc]).map (AA.ren σ δ)=(st.s.up++[st.s.loc]).map (AA.ren σ' δ):=by intro σ σ' δ ha;have:=hbd.s σ σ' (bw δ []) ha;simp only[St.emb,St.mk.injEq,bb]at this;simp only[bc,dv,dj];rw[db this.1,this.2]
    have hlp:∀L∈st.s.up++[st.s.loc],∀k γ fr ps asg body N st,L.get k=some (γ,.loop fr ps asg body N st)->TO N ps asg body=true:=by intro L hL k γ fr ps asg body N ls hg;obtain⟨i,hi⟩:=List.getElem?_of_mem hL;refine hbd.lp i k γ fr ps asg body N ls ?_;have:=HP st.s.up st.s.loc i k;rw[hi]at this;exact this.trans hg
    obtain⟨hc,hrb,hub,hlen,hlp',hA⟩:=mE hP hrec h1 hargs hsb hlp;subst hup0;refine⟨⟨hc,⟨fun σ σ' δ ha=>hbd.f σ σ' δ (ha.mono hc),fun σ σ' pre ha=>?_,fun i k γ fr ps asg body N ls hg=>?_⟩,?_⟩,hrb,rfl,fun σ pre K hk=>?_⟩
    ·have:=hub σ σ' pre.length ha;simp only[bc,dv,dj]at this;obtain⟨e1,e2⟩:=df this rfl;simp only[List.cons.injEq,and_true]at e2;simp only[St.emb,e1,e2]
    ·rw[HP]at hg;split at hg
     ·rename_i L hL;exact hlp' L (fk hL) _ _ _ _ _ _ _ _ hg
     ·cases hg
    ·simp only[cg,cp]at hlen;simp only;omega
    ·refine hA σ pre (st.s.emb σ pre) K (by simp[St.emb]) fun σ' u' l' ha hu'=>?_;have:=hk σ' ha;simp only[bc,dv,dj,<-List.append_assoc]at hu';obtain⟨e1,e2⟩:=df hu' rfl;simp only[List.cons.injEq,and_true]at e2;subst e1;subst e2;exact this
   ·cases hx
  ·cases hx
end Go.Pg
