/- Running a Go function upon abstract values, by computing: one operation, and that it is what the walk asks. No program in sight. -/
import Derived.Test.YthhdhbalenanjaaGreatP5
noncomputable section
open Go renaming Oper->fh,Program->fp,Operand->ft,TypeId->gk,FuncId->gq,Code->gv
open Nat renaming eq_of_beq_eq_true->bj,beq->bz,lt_succ_self->bm,le_refl->bn,le_succ->ck,blt->cw,ble_eq->cx,blt_eq->cz,le_trans->df,ble->dm,lt_of_lt_of_le->fk
open Option renaming bind_eq_some_iff->bk,map_some->bq,bind_some->bg,some->cq
open List renaming replicate->bw,length_replicate->bb,map_append->bc,map_congr_left->bf,all_eq_true->bh,length_map->bp,map->bt,map_take->cj,length_append->cd,map_inj_left->cg,map_id->cm,length_singleton->cn,eq_nil_of_length_eq_zero->cp,map_nil->ct,mem_map->dj,getElem?_append_right->dk,map_cons->dq,getElem?_append_left->dv,map_replicate->dw,length->dx,append_cancel_left->dz,map_flatten->db,append_inj'->dc,mem_append_right->dg,getElem?_eq_none->dh,eq_nil_or_concat->dl,getElem?_mapIdx->dn,mem_append->dp,mem_append_left->dt,mem_of_getElem?->fj,all_map->fq,length_mapIdx->fw,map_map->fc
open Bool renaming and_eq_true->bx,or_eq_false_iff->dr,not_eq_true'->fx
open Prod renaming mk->fg
namespace Go.Pg
variable {P:fp}{Ω:HE P}{σ σ':Nat->Nat}{δ:Nat}{pre:List AA}{s:St}{fr:Fr}{g:Bool}
def LF(all:List fh)(o:fh):Option (Tmp×Bool):=match o.guard with
 |none=>none
 |some (j,w)=>match all[j]? with
  |some p=>match p.dst with
   |some d=>some (d,w)
   |none=>none
  |none=>none
def xA(all:List fh):Bool:=all.all fun o=>HB all o (LF all o)
theorem jV{all:List fh}:∀{l:List fh},(∀o∈l,HB all o (LF all o)=true)->JO all (l.map (LF all)) l=true
 |[],_=>rfl
 |o::l,h=>by simp only[dq,JO,bx];exact⟨h o (by simp),jV fun p hp=>h p (by simp[hp])⟩
theorem UH{all:List fh}(h:xA all=true):∀o∈all,HB all o (LF all o)=true:=fun o ho=>bh.1 h o ho
def A5R(d:Tmp)(p:fh):Bool:=match p.op with
 |.call { callee:=.builtin .append,args,.. }=>match args.toList with
  |.tmp t::_=>bz t d
  |_=>false
 |.call { callee:=.value (.func _),args,argTypes }=>match args.toList,argTypes.toList with
  |[.tmp t,_],[T,U]=>bz t d&&bz T p.type&&!(bz U T)
  |_,_=>false
 |_=>false
def AT4(d:Tmp)(p:fh):Bool:=match p.op with
 |.store _ _ (.tmp t)=>bz t d
 |_=>false
def DQ(l:List fh)(o:fh):Bool:=match o.op,o.dst with
 |.call { callee:=.value _,.. },some d=>l.any fun p=>A5R d p||AT4 d p
 |_,_=>false
def kS(o:fh):Bool:=match o.op with
 |.mapUpdate ..|.insert ..=>true
 |.call { callee:=.builtin b,.. }=>match b with
  |.len|.max|.min|.cap|.append=>false
  |_=>true
 |_=>false
def kC(o:fh):Bool:=match o.op with
 |.call { callee:=.value _,.. }=>true
 |_=>false
def onB(o:fh)(A:List Nat):Bool:=o.after.any fun e=>Region.binds .any e&&A.contains e.on
def A5S(o:fh)(l:List fh)(A:List Nat):Bool:=kW o&&l.isEmpty&&A.all fun j=>o.after.any fun e=>Region.binds .any e&&bz e.on j
def A5T(o:fh)(i:Nat):List Nat->List Nat
 |[]=>[i]
 |a::A=>cond (onB o [a]) (i::a::A) (a::A5T o i A)
def J8(own:fh->Bool):List fh->Nat->List Nat->List Nat->List Nat->List Nat->List Nat->List Nat->List Nat×List Nat
 |[],_,R,Q,A,S,R2,T=>(R.reverse++Q.reverse++A.reverse++S.reverse++R2.reverse,T.reverse)
 |o::l,i,R,Q,A,S,R2,T=>
  cond (onB o T||kS o||A5S o l (R++Q++A++S++R2++T)||(kC o&&(onB o (Q++S++R2)||(!(own o)&&onB o A)))) (J8 own l (i+1) R Q A S R2 (i::T))
   (cond (kP o) (cond (onB o (A++S++R2)) (J8 own l (i+1) R Q A S (i :: R2) T) (J8 own l (i+1) R (i :: Q) A S R2 T))
   (cond (kW o) (cond (onB o R2) (J8 own l (i+1) R Q A S (i :: R2) T) (J8 own l (i+1) R Q A (i :: S) R2 T))
    (cond (onB o (Q++S++R2)||(cond (kA own o) (!R2.isEmpty) (onB o (A.take 1)))) (J8 own l (i+1) R Q A S (i :: R2) T)
     (cond (kA own o) (J8 own l (i+1) R Q (i :: A) S R2 T) (cond (onB o A) (J8 own l (i+1) R Q (A5T o i A) S R2 T) (J8 own l (i+1) (i :: R) Q A S R2 T))))))
def AQC(af:Nat):List (Nat×Nat)->Nat->Nat
 |[],m=>m
 |p::r,m=>HF (cond (VZ af p.1) (Nat.lor m (Nat.lor p.2 (Nat.shiftLeft 1 p.1))) m) (AQC af r)
def A5U:List (Nat×Nat)->List (Nat×Nat)->List (Nat×Nat)
 |[],acc=>acc
 |p::r,acc=>HF (AQC p.2 acc 0) fun m=>A5U r ((p.1,m)::acc)
def AT5(l:List fh):List Nat:=((A5U (afL l 0) []).filterMap fun p=>cond (bz p.2 (Nat.sub (Nat.pow 2 p.1) 1)) (match l[p.1]? with
 |some o=>cond (kC o&&bz (KY p.1 (afL l 0) 0) (Nat.sub (Nat.pow 2 l.length) (Nat.pow 2 (p.1+1)))) (some p.1) none
 | none=>none) none).reverse
def AQD(own:fh->Bool)(l:List fh):Nat->List Nat->YC
 |i,[]=>[J8 own (l.drop i) i [] [] [] [] [] []]
 |i,c::cs=>match J8 own ((l.drop i).take (c-i)) i [] [] [] [] [] []with
  |(R,T)=>(R,T++[c])::AQD own l (c+1) cs
def eX(l:List fh):YC:=AQD (DQ l) l 0 (AT5 l)
def AT6(l:List fh):List Nat:=l.filterMap fun o=>cond (kA (DQ l) o) o.dst none
def GH:gv->Bool
 |.seq a b=>GH a&&GH b
 |.cond _ a b=>GH a&&GH b
 |.block _ c=>GH c
 |.loop c=>GH c
 |.scope _=>false
 |.rangeFunc ..=>false
 |_=>true
def EX(N:Nat):gv->Bool
 |.region _ ops draw=>cond draw (OV (DQ ops.toList) N (ops.toList.map (LF ops.toList)) (eX ops.toList) ops.toList) (L7 N ops.toList&&xA ops.toList)
 |.seq a b=>EX N a&&EX N b
 |.cond _ a b=>EX N a&&EX N b
 |.block _ c=>EX N c
 |.loop c=>EX N c
 |.scope c=>EX N c
 |.rangeFunc _ ps asg body=>ps.toList.all (fun p=>cw p N)&&GH asg&&GH body&&EX N asg&&EX N body
 |_=>true
def UI(N:Nat)(ps:List Tmp)(asg body:gv):Bool:=ps.all (fun p=>cw p N)&&GH asg&&GH body&&EX N asg&&EX N body
def UJ(s:St):Prop:=∀l k γ fr ps asg body N st,s.get l k=some (γ,.loop fr ps asg body N st)->UI N ps asg body=true
theorem tJ{s:St}{l k γ:Nat}{r:AX}{l' k':Nat}{x:Nat×AX}(h:(s.put l k γ r).get l' k'=some x):x=(γ,r)\/s.get l' k'=some x:=by
 unfold St.put at h;unfold St.get at h|-;by_cases e1:l=s.up.length
 ·rw[if_pos e1]at h;by_cases e2:l'=s.up.length
  ·rw[if_pos e2]at h|-;rw[AA.get_put]at h;split at h
   ·exact .inl (cq.inj h).symm
   ·exact .inr h
  ·rw[if_neg e2]at h|-;exact .inr h
 ·rw[if_neg e1]at h;have hl:({ s with up:=s.up.modify l (fun L=>L.put k γ r) }:St).up.length=s.up.length:=by simp
  rw[hl]at h;by_cases e2:l'=s.up.length
  ·rw[if_pos e2]at h|-;exact .inr h
  ·rw[if_neg e2]at h|-;rw[List.getElem?_modify]at h;cases hu:s.up[l']? with
   |none=>simp[hu]at h
   |some L=>
    rw[hu]at h
    simp only[Option.map_eq_map,bq]at h
    by_cases e3:l=l'
    ·simp only[e3,if_true,AA.get_put]at h;split at h
     ·exact .inl (cq.inj h).symm
     ·exact .inr h
    ·simp only[e3,if_false]at h;exact .inr h
theorem UJ.put{s:St}(h:UJ s){l k γ:Nat}{r:AX}(hr:∀fr ps asg body N st,r=.loop fr ps asg body N st->UI N ps asg body=true):UJ (s.put l k γ r):=by
 intro l' k' γ' fr ps asg body N st hg;rcases tJ hg with e|e
 ·cases e;exact hr _ _ _ _ _ _ rfl
 ·exact h _ _ _ _ _ _ _ _ _ e
structure XS where
 c:Nat
 fr:Fr
 s:St
def BG(fr:Fr)(k:Nat):Option (Bool×V):=List.rec (motive:=fun _=>Option (Bool×V)) none (fun x _ ih=>Bool.rec ih (some x.2) (bz k x.1)) fr
theorem FE:∀(fr:Fr) (k:Nat),BG fr k=fr.get k
 |[],_=>rfl
 |(j,x)::fr,k=>by
  show(Bool.rec (BG fr k) (some x) (bz k j):Option (Bool×V))=if k=j then some x else Fr.get fr k
  by_cases h:k=j
  ·subst h;rw[if_pos rfl,Nat.beq_refl]
  ·rw[if_neg h,<-FE fr k];have:bz k j=false:=by
    cases hb:bz k j with
    |false=>rfl
    |true=>exact absurd (bj hb) h
   rw[this]
def CK(fr:Fr)(x:ft):Option V:=match x with
 |.tmp t=>match BG fr t with
  |some (true,v)=>some v
  |_=>none
 |.const v=>CL v
 |.func f=>some (.fn f [] [])
 |.global _=>none
theorem D4(x:ft):CK fr x=DW true fr x:=by
 cases x with
 |tmp t=>
  simp only[CK,DW,rd,FE]
  cases fr.get t with
  |none=>rfl
  |some p=>
   obtain⟨c,v⟩:=p
   cases c<;>rfl
 |const v=>
  simp only[CK,DW,rd]
  cases CL v<;>rfl
 |func f=>rfl
 |global g=>rfl
theorem FG:CK fr=DW true fr:=funext fun x=>D4 x
def AR(c:Nat)(σ σ':Nat->Nat):Prop:=∀i,i<c->σ i=σ' i
theorem AR.refl(c:Nat)(σ:Nat->Nat):AR c σ σ:=fun _ _=>rfl
theorem AR.trans{c c':Nat}{σ σ' σ'':Nat->Nat}(h:AR c σ σ')(h':AR c' σ' σ'')(hc:c<=c'):AR c σ σ'':=fun i hi=>(h i hi).trans (h' i (fk hi hc))
theorem AR.mono{c c':Nat}(h:AR c' σ σ')(hc:c<=c'):AR c σ σ':=fun i hi=>h i (fk hi hc)
theorem AR.upd(c γ:Nat)(σ:Nat->Nat):AR c σ (fun i=>if i=c then γ else σ i):=fun i hi=>by simp[Nat.ne_of_lt hi]
structure Bd(st:XS):Prop where
 f:∀σ σ' δ,AR st.c σ σ'->st.fr.ren σ δ=st.fr.ren σ' δ
 s:∀σ σ' pre,AR st.c σ σ'->st.s.emb σ pre=st.s.emb σ' pre
 lp:UJ st.s
def U8(c:Nat)(v:V):Prop:=∀σ σ' δ,AR c σ σ'->v.ren σ δ=v.ren σ' δ
structure KM(st st':XS):Prop where
 c:st.c<=st'.c
 bd:Bd st'
 n:st'.s.up.length=st.s.up.length
def StepX(P:fp)(o:fh)(st st':XS):Prop:=KM st st'/\∀(σ:Nat->Nat) (pre:List AA) (k:Fr->St->Prop),(∀σ',AR st.c σ σ'->k (st'.fr.ren σ' pre.length) (st'.s.emb σ' pre))->EH P true o (st.fr.ren σ pre.length) (st.s.emb σ pre) k
theorem FO(d:Option Tmp)(c:Bool)(v:V):(putD fr d c v).ren σ δ=putD (fr.ren σ δ) d c (v.ren σ δ):=by cases d<;>rfl
theorem HK(d:Nat)(c:Bool)(v:V):(fr.put d c v).ren σ δ=(fr.ren σ δ).put d c (v.ren σ δ):=rfl
theorem U8.mono{c c':Nat}{v:V}(h:U8 c v)(hc:c<=c'):U8 c' v:=fun σ σ' δ ha=>h σ σ' δ (ha.mono hc)
theorem Bd.val{st:XS}(h:Bd st){o:fh}{v:V}(hv:FN P g o st.fr st.s=some v):U8 st.c v:=by intro σ σ' δ ha;have h1:=I6 (σ:=σ) (pre:=bw δ []) hv;have h2:=I6 (σ:=σ') (pre:=bw δ []) hv;rw[h.f σ σ' _ ha,h.s σ σ' _ ha,h2]at h1;have:=cq.inj h1;rw[bb]at this;exact this.symm
theorem Bd.rd{st:XS}(h:Bd st){x:ft}{v:V}(hv:CK st.fr x=some v):U8 st.c v:=by intro σ σ' δ ha;rw[D4]at hv;have h1:=DK (g:=true) (fr:=st.fr) (σ:=σ) (δ:=δ) x;have h2:=DK (g:=true) (fr:=st.fr) (σ:=σ') (δ:=δ) x;rw[h.f σ σ' _ ha,h2,hv]at h1;simpa using h1.symm
theorem Bd.putF{st:XS}(h:Bd st){d:Option Tmp}{c:Bool}{v:V}(hv:U8 st.c v):Bd { st with fr:=putD st.fr d c v } :=
 ⟨fun σ σ' δ ha=>by simp only[FO];rw[h.f σ σ' δ ha,hv σ σ' δ ha],h.s,h.lp⟩
def gO:AX->Bool
 |.loop ..=>false
 |_=>true
theorem V5{r:AX}(h:gO r=true):∀fr ps asg body N st,r=.loop fr ps asg body N st->UI N ps asg body=true:=by intro fr ps asg body N st e;subst e;cases h
theorem Bd.putS{st:XS}(h:Bd st){l k γ:Nat}{r:AX}(hγ:γ<st.c)(hr:∀σ σ' δ,AR st.c σ σ'->r.ren σ δ=r.ren σ' δ)(hp:gO r=true:=by rfl):Bd { st with s:=st.s.put l k γ r } :=
 ⟨h.f,fun σ σ' pre ha=>by simp only[CN];rw[h.s σ σ' pre ha,hr σ σ' _ ha,ha γ hγ],h.lp.put (V5 hp)⟩
theorem ABB{o:fh}{st:XS}{v:V}(h:Bd st)(hv:FN P true o st.fr st.s=some v):StepX P o st { st with fr:=putD st.fr o.dst true v }:=by refine⟨⟨bn _,h.putF (h.val hv),rfl⟩,fun σ pre k hk=>DP (Ω:=HE.nothing P) (.inl ⟨_,I6 hv,?_⟩)⟩;have:=hk σ (AR.refl _ _);rwa [FO]at this
theorem cF{c:Nat}{v:V}(h:U8 c v)(σ σ':Nat->Nat)(δ:Nat)(ha:AR c σ σ'):(A9 v).map (V.ren σ δ)=(A9 v).map (V.ren σ' δ):=by rw[<-EM,<-EM,h σ σ' δ ha]
def jW(P:fp)(Ω:HE P)(o:fh)(st st':XS):Prop:=KM st st'/\∃d,o.dst=some d/\∀(σ:Nat->Nat) (pre:List AA) (k:Fr->St->Prop),(∀σ',AR st.c σ σ'->k (st'.fr.ren σ' pre.length) (st'.s.emb σ' pre)) ->
 ∃r,QF P Ω o (st.fr.ren σ pre.length)=some r/\∀γ,k ((st.fr.ren σ pre.length).put d true (r.val (st.s.emb σ pre).up.length d γ)) ((st.s.emb σ pre).put (st.s.emb σ pre).up.length d γ r.res)
theorem jW.step{o:fh}{st st':XS}(h:jW P Ω o st st'):StepX P o st st':=by obtain⟨h1,d,hd,h2⟩:=h;refine⟨h1,fun σ pre k hk=>?_⟩;obtain⟨r,hr,h3⟩:=h2 σ pre k hk;exact DP (Ω:=Ω) (.inr (.inr ⟨r,d,rfl,hd,hr,h3⟩))
theorem gP{o:fh}{st:XS}{d:Nat}{cs:List V}(h:Bd st)(hd:o.dst=some d)(hcs:∀σ σ' δ,AR st.c σ σ'->cs.map (V.ren σ δ)=cs.map (V.ren σ' δ))
  (hn:∀σ pre,QF P Ω o (st.fr.ren σ (dx (α:=AA) pre))=some ⟨.box (cs.map (V.ren σ pre.length)),none⟩) :
  jW P Ω o st ⟨st.c+1,st.fr.put d true (.ptr st.s.up.length d st.c 0),st.s.put st.s.up.length d st.c (.box cs)⟩:=by
 have hb:∀σ σ',AR (st.c+1) σ σ'->AR st.c σ σ':=fun σ σ' ha=>ha.mono (ck _)
 refine⟨⟨ck _,⟨fun σ σ' δ ha=>?_,fun σ σ' pre ha=>?_,h.lp.put (V5 rfl)⟩,St.put_len _ _ _ _ _⟩,d,hd,fun σ pre k hk=>⟨_,hn σ pre,fun γ=>?_⟩⟩
 ·simp only[HK,HI];rw[h.f σ σ' δ (hb _ _ ha),ha st.c (bm _)]
 ·simp only[CN,AX.ren];rw[h.s σ σ' pre (hb _ _ ha),hcs σ σ' _ (hb _ _ ha),ha st.c (bm _)]
 ·have:=hk (fun i=>if i=st.c then γ else σ i) (AR.upd _ _ _);have ha:=AR.upd st.c γ σ;simp only[HK,HI,if_true,CN,AX.ren]at this;rw[<-h.f _ _ _ ha,<-h.s _ _ _ ha,<-hcs _ _ _ ha]at this;rw[DA];exact this
def O0(P:fp)(d:Option Tmp)(T:gk)(st:XS):Option XS:=match d,B8 P T with
 |some d,some cs=>some ⟨st.c+1,(d,true,.ptr st.s.up.length d st.c 0)::st.fr,st.s.put st.s.up.length d st.c (.box cs)⟩
 |_,_=>none
def oR(d:Option Tmp)(x:ft)(st:XS):Option XS:=match d,CK st.fr x with
 |some d,some v=>Bool.rec none (some ⟨st.c+1,(d,true,.ptr st.s.up.length d st.c 0)::st.fr,st.s.put st.s.up.length d st.c (.box (A9 v))⟩) (BA v)
 |_,_=>none
theorem gQ{o:fh}{T:gk}{st st':XS}(h:Bd st)(ho:o.op=.alloc T)(hx:O0 P o.dst T st=some st'):jW P Ω o st st':=by
 unfold O0 at hx;split at hx
 ·rename_i d cs hd hz;cases hx;refine gP h hd (fun σ σ' δ _=>by rw[GR hz,GR hz]) fun σ pre=>?_;simp[QF,ho,hz,GR hz]
 ·cases hx
theorem xB{o:fh}{T:gk}{x:ft}{st st':XS}(h:Bd st)(ho:o.op=.box T x)(hx:oR o.dst x st=some st'):jW P Ω o st st':=by
 unfold oR at hx;split at hx
 ·rename_i d v hd hv;cases hf:BA v with
  |false=>rw[hf]at hx;cases hx
  |true=>
   rw[hf]at hx
   cases hx
   refine gP h hd (fun σ σ' δ ha=>cF (h.rd hv) σ σ' δ ha) fun σ pre=>?_
   rw[D4]at hv
   simp[QF,ho,DK,hv,IE,hf,EM]
 ·cases hx
def XO(P:fp)(d:Option Tmp)(T:gk)(x y:ft)(st:XS):Option XS:=match d,BV P T with
 |some d,some (none,e)=>match CK st.fr x,CK st.fr y with
  |some (.int _ n),some (.int _ m)=>match B8 P e with
   |some z=>if 0<=n/\m=n/\z.length=P.cellsOf e/\n.toNat*P.bytesOf e<=140737488355328/\n.toNat<=maxLen then
     some ⟨st.c+1,(d,true,.vec st.s.up.length d st.c n.toNat)::st.fr,st.s.put st.s.up.length d st.c (.vec e (bw n.toNat z))⟩ else none
   |none=>none
  |_,_=>none
 |_,_=>none
theorem oS{o:fh}{T:gk}{x y:ft}{st st':XS}(h:Bd st)(ho:o.op=.makeSlice T x y)(hx:XO P o.dst T x y st=some st'):jW P Ω o st st':=by
 unfold XO at hx;split at hx
 ·rename_i d e hd hel;split at hx
  ·rename_i k1 n k2 m h1 h2;split at hx
   ·rename_i z hz;split at hx
    ·rename_i hc;cases hx;rw[D4]at h1 h2;have hr:∀σ δ,(bw n.toNat z).map (bt (V.ren σ δ))=bw n.toNat z:=fun σ δ=>by rw[dw,GR hz]
     have hb:∀σ σ',AR (st.c+1) σ σ'->AR st.c σ σ':=fun σ σ' ha=>ha.mono (ck _);refine⟨⟨ck _,⟨fun σ σ' δ ha=>?_,fun σ σ' pre ha=>?_,h.lp.put (V5 rfl)⟩,St.put_len _ _ _ _ _⟩,d,hd,fun σ pre k hk=>⟨⟨.vec e (bw n.toNat z),none⟩,?_,fun γ=>?_⟩⟩
     ·show((st.fr.put d true _).ren σ δ)=((st.fr.put d true _).ren σ' δ);simp only[HK,HJ];rw[h.f σ σ' δ (hb _ _ ha),ha st.c (bm _)]
     ·simp only[CN,AX.ren,hr];rw[h.s σ σ' pre (hb _ _ ha),ha st.c (bm _)]
     ·simp only[QF,ho,DK,h1,h2,bq,EI,hel,hz];rw[if_pos hc]
     ·have:=hk (fun i=>if i=st.c then γ else σ i) (AR.upd _ _ _);have ha:=AR.upd st.c γ σ;change k ((st.fr.put d true _).ren _ _) _ at this;simp only[HK,HJ,if_true,CN,AX.ren,hr]at this;rw[<-h.f _ _ _ ha,<-h.s _ _ _ ha]at this;simp only[Mk.val,HD,bb];rw[DA];exact this
    ·cases hx
   ·cases hx
  ·cases hx
 ·cases hx
def ABC(d:Option Tmp)(r:Option ft)(st:XS):Option XS:=match d,r with
 |some d,none=>some ⟨st.c+1,(d,true,.mp st.s.up.length d st.c)::st.fr,st.s.put st.s.up.length d st.c (.map [])⟩
 |_,_=>none
theorem xC{o:fh}{T:gk}{r:Option ft}{st st':XS}(h:Bd st)(ho:o.op=.makeMap T r)(hx:ABC o.dst r st=some st'):jW P Ω o st st':=by
 unfold ABC at hx;split at hx
 ·rename_i d hd;cases hx;have hb:∀σ σ',AR (st.c+1) σ σ'->AR st.c σ σ':=fun σ σ' ha=>ha.mono (ck _);refine⟨⟨ck _,⟨fun σ σ' δ ha=>?_,fun σ σ' pre ha=>?_,h.lp.put (V5 rfl)⟩,St.put_len _ _ _ _ _⟩,d,hd,fun σ pre k hk=>⟨⟨.map [],none⟩,?_,fun γ=>?_⟩⟩
  ·show((st.fr.put d true _).ren σ δ)=((st.fr.put d true _).ren σ' δ);simp only[HK,Q9];rw[h.f σ σ' δ (hb _ _ ha),ha st.c (bm _)]
  ·simp only[CN,AX.ren,ct];rw[h.s σ σ' pre (hb _ _ ha),ha st.c (bm _)]
  ·simp only[QF,ho]
  ·have:=hk (fun i=>if i=st.c then γ else σ i) (AR.upd _ _ _);have ha:=AR.upd st.c γ σ;change k ((st.fr.put d true _).ren _ _) _ at this;simp only[HK,Q9,if_true,CN,AX.ren,ct]at this;rw[<-h.f _ _ _ ha,<-h.s _ _ _ ha]at this;simp only[Mk.val,HD];rw[DA];exact this
 ·cases hx
def JE(P:fp)(d:Option Tmp)(T:gk)(x y:ft)(st:XS):Option XS:=match d with
 |some _=>none
 |none=>match CK st.fr x,CK st.fr y with
  |some (.ptr l q γ off),some v=>match st.s.get l q with
   |some (γ',.box cs)=>if bz γ' γ&&BA v&&cw 0 (P.cellsOf T)&&bz (A9 v).length (P.cellsOf T)&&dm (off+P.cellsOf T) cs.length&&cw γ st.c then some { st with s:=st.s.put l q γ (.box (A4 cs off (A9 v))) } else none
   |_=>none
  |some (.eptr l q γ i off),some v=>match st.s.get l q with
   |some (γ',.vec U es)=>if bz γ' γ&&BA v&&cw 0 (P.cellsOf T)&&bz (A9 v).length (P.cellsOf T)&&cw i es.length&&dm (off+P.cellsOf T) (es.getD i []).length&&cw γ st.c then some { st with s:=st.s.put l q γ (.vec U (es.set i (A4 (es.getD i []) off (A9 v)))) } else none
   |_=>none
  |_,_=>none
theorem M7{st:XS}(h:Bd st){l q γ:Nat}{r:AX}(hg:st.s.get l q=some (γ,r))(σ σ':Nat->Nat)(δ:Nat)(ha:AR st.c σ σ'):r.ren σ δ=r.ren σ' δ:=by have h1:=B9 (s:=st.s) (σ:=σ) (pre:=bw δ []) l q;have h2:=B9 (s:=st.s) (σ:=σ') (pre:=bw δ []) l q;rw[h.s σ σ' _ ha,h2,hg]at h1;simp only[bq,bb,cq.injEq,fg.injEq]at h1;exact h1.2.symm
theorem K2(es:List (List V))(i:Nat)(x:List V):(es.set i x).map (bt (V.ren σ δ))=(es.map (bt (V.ren σ δ))).set i (x.map (V.ren σ δ)):=by simp[List.map_set]
theorem gR{o:fh}{T:gk}{x y:ft}{st st':XS}(h:Bd st)(ho:o.op=.store T x y)(hx:JE P o.dst T x y st=some st'):StepX P o st st':=by
 unfold JE at hx;split at hx
 ·cases hx
 ·rename_i hd;split at hx
  ·rename_i l q γ off v h1 h2;split at hx
   ·rename_i γ' cs hg;split at hx
    ·rename_i hc;simp only[bx,cz,cx]at hc;obtain⟨⟨⟨⟨⟨c1,c2⟩,c3⟩,c4⟩,c5⟩,c6⟩:=hc;have c1:=bj c1;have c4:=bj c4;subst c1;cases hx;have hv:=h.rd h2;refine⟨⟨bn _,h.putS c6 fun σ σ' δ ha=>?_,St.put_len _ _ _ _ _⟩,fun σ pre k hk=>?_⟩
     ·have hr:=M7 h hg σ σ' δ ha;simp only[AX.ren,AX.box.injEq]at hr|-;rw[<-C7,<-C7,hr,cF hv σ σ' δ ha]
     ·have:=hk σ (AR.refl _ _);rw[D4]at h1 h2;unfold EH;simp only[ho,DK,h1,h2,bq,HI,B9,hg,AX.ren];refine⟨trivial,trivial,by rw[IE];exact c2,c3,by rw[EM];simpa using c4,by simpa using c5,hd,?_⟩;rw[EM,C7];rw[CN]at this;exact this
    ·cases hx
   ·cases hx
  ·rename_i l q γ i off v h1 h2;split at hx
   ·rename_i γ' U es hg;split at hx
    ·rename_i hc;simp only[bx,cz,cx]at hc;obtain⟨⟨⟨⟨⟨⟨c1,c2⟩,c3⟩,c4⟩,c5⟩,c6⟩,c7⟩:=hc;have c1:=bj c1;have c4:=bj c4;subst c1;cases hx;have hv:=h.rd h2;refine⟨⟨bn _,h.putS c7 fun σ σ' δ ha=>?_,St.put_len _ _ _ _ _⟩,fun σ pre k hk=>?_⟩
     ·have hr:=M7 h hg σ σ' δ ha;simp only[AX.ren,AX.vec.injEq,true_and]at hr|-;rw[K2,K2,<-C7,<-C7,<-E7,<-E7,hr,cF hv σ σ' δ ha]
     ·have:=hk σ (AR.refl _ _);rw[D4]at h1 h2;unfold EH;simp only[ho,DK,h1,h2,bq,OW,B9,hg,AX.ren];refine⟨trivial,trivial,by rw[IE];exact c2,c3,by rw[EM];simpa using c4,by simpa using c5,by rw[E7];simpa using c6,hd,?_⟩;rw[E7,EM,C7,<-K2];rw[CN]at this;exact this
    ·cases hx
   ·cases hx
  ·cases hx
def ABD(P:fp)(d:Option Tmp)(T:gk)(x i y:ft)(st:XS):Option XS:=match d with
 |some _=>none
 |none=>match CK st.fr x,CK st.fr i,CK st.fr y with
  |some m,some i,some v=>match L5 P st.s T m i v with
   |some (l,q,γ,es)=>Bool.rec none (some { st with s:=st.s.put l q γ (.map es) }) (cw γ st.c)
   |none=>none
  |_,_,_=>none
theorem AMM{o:fh}{T:gk}{x i y:ft}{st st':XS}(h:Bd st)(ho:o.op=.mapUpdate T x i y)(hx:ABD P o.dst T x i y st=some st'):StepX P o st st':=by
 unfold ABD at hx;split at hx
 ·cases hx
 ·rename_i hd;split at hx
  ·rename_i m i' v h1 h2 h3;split at hx
   ·rename_i l q γ es hu;cases hb:cw γ st.c with
    |false=>rw[hb]at hx;cases hx
    |true=>
     rw[hb]at hx
     have hlt:γ<st.c:=by simpa using hb
     cases hx
     have hm:=h.rd h1
     have hi:=h.rd h2
     have hv:=h.rd h3
     refine⟨⟨bn _,h.putS hlt fun σ σ' δ ha=>?_,St.put_len _ _ _ _ _⟩,fun σ pre k hk=>?_⟩
     ·have q1:=V3 (σ:=σ) (pre:=bw δ []) hu;have q2:=V3 (σ:=σ') (pre:=bw δ []) hu;rw[h.s σ σ' _ ha,hm σ σ' _ ha,hi σ σ' _ ha,hv σ σ' _ ha,q2]at q1;simp only[cq.injEq,fg.injEq,bb]at q1;simp only[AX.ren,q1.2.2.2]
     ·have:=hk σ (AR.refl _ _);rw[D4]at h1 h2 h3;unfold EH;simp only[ho,DK,h1,h2,h3,bq,V3 hu];refine⟨trivial,hd,?_⟩;rw[CN]at this;exact this
   ·cases hx
  ·cases hx
def jX(P:fp)(d:Option Tmp)(args:List ft)(Ts:List gk)(st:XS):Option XS:=match args,Ts,d with
 |[x],[T],none=>match BV P T,CK st.fr x with
  |some (none,e),some (.vtl l q γ i n)=>match st.s.get l q,B8 P e with
   |some (γ',.vec U es),some z=>Bool.rec none (some { st with s:=st.s.put l q γ (.vec U (es.take i++bw n z++es.drop (i+n))) }) (bz γ' γ&&bz U e&&dm (i+n) es.length&&es.all (fun y=>y.length==z.length)&&cw γ st.c)
   |_,_=>none
  |_,_=>none
 |_,_,_=>none
theorem ABE{o:fh}{args:Array ft}{Ts:Array gk}{st st':XS}(h:Bd st)(ho:o.op=.call { callee:=.builtin .clear,args:=args,argTypes:=Ts })(hx:jX P o.dst args.toList Ts.toList st=some st'):StepX P o st st':=by
 unfold jX at hx;split at hx
 ·rename_i x T ha hT hd;split at hx
  ·rename_i e l q γ i n hel h1;split at hx
   ·rename_i γ' U es z hg hz;cases hb:(bz γ' γ&&bz U e&&dm (i+n) es.length&&es.all (fun y=>y.length==z.length)&&cw γ st.c)with
    |false=>rw[hb]at hx;cases hx
    |true=>
     rw[hb]at hx
     cases hx
     simp only[bx,cz,cx]at hb
     obtain⟨⟨⟨⟨c1,c2⟩,c3⟩,c4⟩,c5⟩:=hb
     have c1:=bj c1
     have c2:=bj c2
     subst c1;subst c2
     have hz':∀σ δ,z.map (V.ren σ δ)=z:=fun σ δ=>GR hz
     refine⟨⟨bn _,h.putS c5 fun σ σ' δ ha=>?_,St.put_len _ _ _ _ _⟩,fun σ pre k hk=>?_⟩
     ·have hr:=M7 h hg σ σ' δ ha;simp only[AX.ren,AX.vec.injEq,true_and]at hr|-;simp only[bc,cj,List.map_drop,dw,hz',hr]
     ·have:=hk σ (AR.refl _ _);rw[D4]at h1;unfold EH;simp only[ho,ha,hT,hd,hel,DK,h1,bq,YT,B9,hg,hz,AX.ren];refine⟨trivial,trivial,trivial,by simpa using c3,?_,?_⟩
      ·rw[fq];exact c4▸(by congr 1;funext x;simp)
      ·rw[CN]at this;simp only[AX.ren,bc,cj,List.map_drop,dw,hz']at this;exact this
   ·cases hx
  ·cases hx
 ·cases hx
theorem tK{o:fh}{l q γ:Nat}{r:AX}(h:C9 P o fr s=some (l,q,γ,r)):C9 P o (fr.ren σ pre.length) (s.emb σ pre)=some (l+pre.length,q,σ γ,r.ren σ pre.length):=by
 unfold C9 at h|-;split at h
 ·rename_i T x y ho;simp only[DK];split at h
  ·rename_i l1 q1 γ1 off v e1 e2;simp only[e1,e2,bq,HI,B9];split at h
   ·rename_i γ2 cs e3;split at h
    ·rename_i hc;cases h;obtain⟨c1,c2,c3,c4,c5,c6⟩:=hc;subst c1;simp only[e3,bq,AX.ren,IE,EM,bp];rw[if_pos ⟨trivial,c2,c3,c4,c5,c6⟩,C7]
    ·cases h
   ·cases h
  ·rename_i l1 q1 γ1 i off v e1 e2;simp only[e1,e2,bq,OW,B9];split at h
   ·rename_i γ2 U es e3;split at h
    ·rename_i hc;cases h;obtain⟨c1,c2,c3,c4,c5,c6,c7⟩:=hc;subst c1;simp only[e3,bq,AX.ren,IE,EM,bp,E7];rw[if_pos ⟨trivial,c2,c3,c4,c5,c6,c7⟩,C7,<-K2]
    ·cases h
   ·cases h
  ·cases h
 ·cases h
theorem AGD{o:fh}{T:gk}{x y:ft}{st st':XS}(ho:o.op=.store T x y)(hx:JE P o.dst T x y st=some st'):∃l q γ r,C9 P o st.fr st.s=some (l,q,γ,r)/\st'={ st with s:=st.s.put l q γ r }:=by
 unfold JE at hx;unfold C9;simp only[ho];split at hx
 ·cases hx
 ·rename_i hd;split at hx
  ·rename_i l q γ off v h1 h2;split at hx
   ·rename_i γ' cs hg;split at hx
    ·rename_i hc;simp only[bx,cz,cx]at hc;obtain⟨⟨⟨⟨⟨c1,c2⟩,c3⟩,c4⟩,c5⟩,c6⟩:=hc;have c1:=bj c1;have c4:=bj c4;subst c1;cases hx;rw[D4]at h1 h2;refine⟨_,_,_,_,?_,rfl⟩;simp only[h1,h2,hg];rw[if_pos ⟨trivial,c2,c3,c4,c5,hd⟩]
    ·cases hx
   ·cases hx
  ·rename_i l q γ i off v h1 h2;split at hx
   ·rename_i γ' U es hg;split at hx
    ·rename_i hc;simp only[bx,cz,cx]at hc;obtain⟨⟨⟨⟨⟨⟨c1,c2⟩,c3⟩,c4⟩,c5⟩,c6⟩,c7⟩:=hc;have c1:=bj c1;have c4:=bj c4;subst c1;cases hx;rw[D4]at h1 h2;refine⟨_,_,_,_,?_,rfl⟩;simp only[h1,h2,hg];rw[if_pos ⟨trivial,c2,c3,c4,c5,c6,hd⟩]
    ·cases hx
   ·cases hx
  ·cases hx
def AA.hide(W:AL)(l:Nat)(L:AA):AA:=L.filter fun e=>!(W.contains (l,e.1))
theorem AA.get_hide(W:AL)(l:Nat):∀(L:AA) (k:Nat),(l,k)∉W->(L.hide W l).get k=L.get k
 |[],k,_=>rfl
 |(j,x)::L,k,hk=>by
  have ih:=AA.get_hide W l L k hk;unfold AA.hide at ih|-;rw[List.filter_cons];split
  ·simp only[AA.get];split
   ·rfl
   ·exact ih
  ·rename_i hc;simp only[fx,Bool.not_eq_false,List.contains_iff_mem]at hc;rw[ih];simp only[AA.get];rw[if_neg (fun e=>hk (by rw[e];simpa using hc))]
theorem AA.get_hide'(W:AL)(l:Nat):∀(L:AA) (k:Nat),(l,k)∈W->(L.hide W l).get k=none
 |[],k,_=>rfl
 |(j,x)::L,k,hk=>by
  have ih:=AA.get_hide' W l L k hk;unfold AA.hide at ih|-;rw[List.filter_cons];split
  ·rename_i hc;simp only[AA.get];rw[if_neg (fun e=>by subst e;simp[hk]at hc)];exact ih
  ·exact ih
def St.hide(W:AL)(s:St):St:=⟨s.up.mapIdx fun l L=>L.hide W l,s.loc.hide W s.up.length⟩
theorem St.get_hide{W:AL}{l k:Nat}(h:(l,k)∉W):(s.hide W).get l k=s.get l k:=by
 unfold St.get St.hide;simp only[fw];split
 ·rename_i e;subst e;exact AA.get_hide W _ _ _ h
 ·rw[dn];cases s.up[l]? with
  |none=>rfl
  |some L=>exact AA.get_hide W _ _ _ h
theorem St.get_hide'{W:AL}{l k:Nat}(h:(l,k)∈W):(s.hide W).get l k=none:=by
 unfold St.get St.hide;simp only[fw];split
 ·rename_i e;subst e;exact AA.get_hide' W _ _ _ h
 ·rw[dn];cases s.up[l]? with
  |none=>rfl
  |some L=>exact AA.get_hide' W _ _ _ h
theorem cG(W:AL):XK W (s.hide W) s:=fun l k x e=>by
 by_cases h:(l,k)∈W
 ·rw[St.get_hide' h]at e;cases e
 ·exact⟨h,by rw[<-St.get_hide h];exact e⟩
def B6:Option V->AL
 |some (.ptr l k _ _)=>[(l,k)]
 |some (.eptr l k _ _ _)=>[(l,k)]
 |some (.vec l k _ _)=>[(l,k)]
 |some (.mp l k _)=>[(l,k)]
 |_=>[]
def CD(one:Bool)(x:Option V):AL:=match one,x with
 |true,some (.ptr l k _ off)=>[(l,k+J4),(l,k+KK),(l,ID k off)]
 |true,some (.eptr l k _ _ off)=>[(l,k+J4),(l,k+KK),(l,ID k off)]
 |_,x=>B6 x
def EY(one:Bool)(x:Option V):AL:=match one,x with
 |true,some (.ptr l k _ off)=>[(l,k),(l,ID k off)]
 |true,some (.eptr l k _ _ off)=>[(l,k),(l,ID k off)]
 |false,some (.ptr l k _ _)=>[(l,k),(l,k+KK)]
 |false,some (.eptr l k _ _ _)=>[(l,k),(l,k+KK)]
 |_,_=>[]
def AGE:Option V->Bool
 |some (.ptr ..)=>true
 |some (.eptr ..)=>true
 |_=>false
def JF:Option V->AL
 |some (.vec l k _ _)=>[(l,k)]
 |some (.vtl l k _ _ _)=>[(l,k)]
 |some (.ptr l k _ _)=>[(l,k)]
 |_=>[]
def M8:Option V->AL
 |some (.vec l k _ _)=>[(l,k+J4)]
 |_=>[]
def oT(P:fp)(o:fh)(r:ft->Option V):Bool:=match o.op with
 |.load T x=>bz (P.cellsOf T) 1&&AGE (r x)
 |.indexAddr _ x _=>match r x with
  |some (.vec ..)=>true
  |_=>false
 |_=>false
def J9(r:ft->Option V):List ft->AL
 |[_,y]=>JF (r y)
 |_=>[]
def EA(P:fp)(o:fh)(r:ft->Option V):AL:=match o.op with
 |.load T x=>CD (bz (P.cellsOf T) 1) (r x)
 |.indexAddr _ x _=>M8 (r x)
 |.slice _ x ..=>JF (r x)
 |.lookup _ x ..=>B6 (r x)
 |.call { callee:=.builtin .append,args,.. }=>J9 r args.toList
 |_=>[]
theorem jY{W:AL}{x:V}{es:List (List V)}(h:elemsOf s x=some es)(hr:∀p∈JF (some x),p∉W):elemsOf (s.hide W) x=some es:=by
 cases x with
 |vec l k g n=>
  have hn:(l,k)∉W:=hr _ (by simp[JF])
  simp only[elemsOf,St.get_hide hn]at h|-
  exact h
 |vtl l k g i n=>
  have hn:(l,k)∉W:=hr _ (by simp[JF])
  simp only[elemsOf,St.get_hide hn]at h|-
  exact h
 |list b es=>exact h
 |nil=>exact h
 |_=>cases h
theorem AGF{W:AL}{o:fh}{r:ft->Option V}{v:V}(h:JN P o s r=some v)(hi:oT P o r=false)(hr:∀p∈EA P o r,p∉W):JN P o (s.hide W) r=some v:=by
 unfold JN at h|-;split at h;case h_4 T x ho=>
  obtain⟨p,h1,h2⟩:=bk.1 h
  obtain⟨cs,h3,h4⟩:=bk.1 h2
  have:A6 (s.hide W) p=some cs:=by
   cases p with
   |ptr l k g off=>
    have hb:bz (P.cellsOf T) 1=false:=by simpa [oT,ho,h1,AGE]using hi
    have hn:(l,k)∉W:=hr _ (by simp[EA,ho,h1,CD,hb,B6])
    simp only[A6,St.get_hide hn]at h3|-;exact h3
   |eptr l k g i off=>
    have hb:bz (P.cellsOf T) 1=false:=by simpa [oT,ho,h1,AGE]using hi
    have hn:(l,k)∉W:=hr _ (by simp[EA,ho,h1,CD,hb,B6])
    simp only[A6,St.get_hide hn]at h3|-;exact h3
   |_=>exact h3
  simp only[h1,bg,this,h4]
 case h_10 T x i ho=>
  obtain⟨p,h1,h2⟩:=bk.1 h
  obtain⟨q,h3,h4⟩:=bk.1 h2
  have:BT P (s.hide W) T p q=some v:=by
   unfold BT at h4|-;split at h4
   ·exact h4
   ·rename_i e l k g n k' j e1;simp[oT,ho,h1]at hi
   ·exact h4
   ·exact h4
   ·exact h4
   ·cases h4
  simp only[h1,h3,bg,this]
 case h_16 T x lo hi mx ho=>
  obtain⟨p,h1,h2⟩:=bk.1 h
  obtain⟨q,h3,h4⟩:=bk.1 h2
  obtain⟨q',h5,h6⟩:=bk.1 h4
  obtain⟨q2,h7,h8⟩:=bk.1 h6
  have:C3 P (s.hide W) T p q q' q2=some v:=by
   unfold C3 at h8|-;split at h8;case h_6 e l k g n k' i e1=>
    have hn:(l,k)∉W:=hr _ (by simp[EA,ho,h1,JF])
    simp only[St.get_hide hn];exact h8
   case h_7 n e l k g o e1=>
    have hn:(l,k)∉W:=hr _ (by simp[EA,ho,h1,JF])
    simp only[St.get_hide hn];exact h8
   all_goals exact h8
  simp only[h1,h3,h5,h7,bg,this]
 case h_17 T x i ok ho=>
  obtain⟨p,h1,h2⟩:=bk.1 h
  obtain⟨q,h3,h4⟩:=bk.1 h2
  have:DO P (s.hide W) T p q ok=some v:=by
   unfold DO at h4|-;split at h4
   ·rename_i K E l k g e1;have hn:(l,k)∉W:=hr _ (by simp[EA,ho,h1,B6]);simp only[St.get_hide hn];exact h4
   ·cases h4
  simp only[h1,h3,bg,this]
 all_goals exact h
theorem ABF{W:AL}{o:fh}{v:V}(h:FN P g o fr s=some v)(hi:oT P o (DW g fr)=false)(hr:∀p∈EA P o (DW g fr),p∉W):FN P g o fr (s.hide W)=some v:=by
 unfold FN at h|-;split at h
 ·exact h
 ·exact h
 ·exact h
 ·exact AGF h hi hr
def eB(δ:Nat)(W:AL):AL:=W.map fun p=>(p.1+δ,p.2)
theorem M9{W:AL}{l k:Nat}:(l+δ,k)∈eB δ W↔(l,k)∈W:=by
 unfold eB;simp only[dj,fg.injEq,Prod.exists];constructor
 ·rintro ⟨a,b,h,h1,h2⟩;have:a=l:=by omega
  subst this;subst h2;exact h
 ·intro h;exact⟨l,k,h,rfl,rfl⟩
theorem XP(x:Option V):B6 (x.map (V.ren σ δ))=eB δ (B6 x):=by
 cases x with
 |none=>rfl
 |some v=>cases v<;>simp[B6,eB]
theorem RE(x:Option V):JF (x.map (V.ren σ δ))=eB δ (JF x):=by
 cases x with
 |none=>rfl
 |some v=>cases v<;>simp[JF,eB]
theorem tL(x:Option V):M8 (x.map (V.ren σ δ))=eB δ (M8 x):=by
 cases x with
 |none=>rfl
 |some v=>cases v<;>simp[M8,eB]
theorem tM(b:Bool)(x:Option V):CD b (x.map (V.ren σ δ))=eB δ (CD b x):=by
 cases b with
 |false=>exact XP x
 |true=>
  cases x with
  |none=>rfl
  |some v=>cases v<;>simp[CD,B6,eB]
theorem AT7{W:AL}{o:fh}{v:V}(h:FN P g o fr s=some v)(hi:oT P o (DW g fr)=true)(hr:∀p∈EA P o (DW g fr),p∉W):eV P W g o fr s v:=by
 unfold oT at hi;split at hi
 ·rename_i T x ho;rw[bx]at hi;have h1:=bj hi.1;unfold FN at h;simp only[ho,JN]at h;obtain⟨p,hx,h⟩:=bk.1 h;obtain⟨cs,hcs,hv⟩:=bk.1 h;have hp:=hi.2;rw[hx]at hp;cases p with
  |ptr l k γ off=>
   have hr':∀p∈[(l,k+J4),(l,k+KK),(l,ID k off)],p∉W:=fun p hp=>hr p (by simp only[EA,ho,hx,hi.1,CD];exact hp)
   refine .inr ⟨T,x,_,cs,l,k,off,ho,hx,rfl,hcs,hv,by omega,hr' _ (by simp),hr' _ (by simp),fun c hc=>?_⟩
   obtain rfl:c=0:=by omega
   exact hr' _ (by simp)
  |eptr l k γ i off=>
   have hr':∀p∈[(l,k+J4),(l,k+KK),(l,ID k off)],p∉W:=fun p hp=>hr p (by simp only[EA,ho,hx,hi.1,CD];exact hp)
   refine .inr ⟨T,x,_,cs,l,k,off,ho,hx,rfl,hcs,hv,by omega,hr' _ (by simp),hr' _ (by simp),fun c hc=>?_⟩
   obtain rfl:c=0:=by omega
   exact hr' _ (by simp)
  |_=>cases hp
 ·rename_i T x i ho;split at hi
  ·rename_i l k γ n hx;unfold FN at h;simp only[ho,JN,hx,bg]at h;obtain⟨iv,hiv,h⟩:=bk.1 h;unfold BT at h;split at h
   ·rename_i e1 e2;cases e2
   ·rename_i e l' k' γ' n' ki j e1 e2;cases e2;split at h
    ·rename_i γ2 T' es hget;split at h
     ·rename_i hc;obtain⟨rfl,hc⟩:=hc;exact .inl ⟨T,x,i,e,_,_,_,_,ki,j,T',es,ho,hx,hiv,e1,hr _ (by simp[EA,ho,hx,M8]),hget,hc,(cq.inj h).symm⟩
     ·cases h
    ·cases h
   ·rename_i e1 e2;cases e2
   ·rename_i e1 e2;cases e2
   ·rename_i e1 e2;cases e2
   ·cases h
  ·cases hi
 ·cases hi
theorem tN{r:ft->Option V}(l:List ft):J9 (fun x=>(r x).map (V.ren σ δ)) l=eB δ (J9 r l):=by
 unfold J9;split
 ·exact RE _
 ·rfl
theorem tO{o:fh}{r:ft->Option V}:EA P o (fun x=>(r x).map (V.ren σ δ))=eB δ (EA P o r):=by
 unfold EA;split
 ·exact tM _ _
 ·exact tL _
 ·exact RE _
 ·exact XP _
 ·exact tN _
 ·rfl
theorem oU{W rd:AL}(h:∀p∈rd,p∉W):∀p∈eB δ rd,p∉eB δ W:=by intro p hp;unfold eB at hp;obtain⟨⟨l,k⟩,hq,rfl⟩:=dj.1 hp;exact fun hc=>h _ hq (M9.1 hc)
end Go.Pg
namespace Go.Pg
variable {P:fp}{σ σ':Nat->Nat}{δ:Nat}{pre:List AA}{s:St}{fr:Fr}{g:Bool}
def rdC(fr:Fr)(x:ft):Option (Bool×V):=match x with
 |.tmp t=>BG fr t
 |.const v=>match CL v with
  |some x=>some (true,x)
  |none=>none
 |.func f=>some (true,.fn f [] [])
 |.global _=>none
theorem AT8(x:ft):rdC fr x=rd fr x:=by
 cases x with
 |tmp t=>exact FE fr t
 |const v=>simp only[rdC,rd];cases CL v<;>rfl
 |func f=>rfl
 |global g=>rfl
def xD(fr:Fr)(c a b:ft):Option V:=match CK fr c,rdC fr a,rdC fr b with
 |some (.bool c),some (ca,.bool a),some (cb,.bool b)=>Bool.rec (Bool.rec none (some (.bool b)) cb) (Bool.rec none (some (.bool a)) ca) c
 |_,_,_=>none
def QN(P:fp)(fr:Fr)(s:St)(T:gk)(x:ft):Option V:=match CK fr x with
 |some p=>match A6 s p with
  |some cs=>BH P T cs
  |none=>none
 |none=>none
def xFA(P:fp)(fr:Fr)(T:gk)(x:ft)(f:Nat):Option V:=match CK fr x with
 |some p=>C6 P T p f
 |none=>none
def ABG(P:fp)(fr:Fr)(op:BinOp)(T:gk)(x y:ft):Option V:=match CK fr x,CK fr y with
 |some a,some b=>H0 P op T a b
 |_,_=>none
def V6(P:fp)(fr:Fr)(T:gk)(ps:List (Nat×ft)):Option V:=match C8 (CK fr) ps with
 |some l=>CQ P T l
 |none=>none
def PU(P:fp)(fr:Fr)(T:gk)(n:Nat)(ps:List (Nat×ft)):Option V:=match C8 (CK fr) ps with
 |some l=>CB P T n l
 |none=>none
def AMN(P:fp)(o:fh)(fr:Fr)(s:St):Option V:=match o.op with
 |.move x=>CK fr x
 |.assign x=>CK fr x
 |.load T x=>QN P fr s T x
 |.fieldAddr T x f=>xFA P fr T x f
 |.binOp op T x y _=>ABG P fr op T x y
 |.pick c a b=>xD fr c a b
 |.build T ps=>V6 P fr T ps.toList
 |.buildSlice T n ps=>PU P fr T n ps.toList
 |_=>JN P o s (CK fr)
theorem PV{o:fh}{v:V}(h:AMN P o fr s=some v):FN P true o fr s=some v:=by
 unfold AMN at h;unfold FN;split at h<;>rename_i ho
 ·simp only[ho,JN,<-FG];exact h
 ·simp only[ho,JN,<-FG];exact h
 ·unfold QN at h;split at h
  ·rename_i p e1;split at h
   ·rename_i cs e2;simp only[ho,JN,<-FG,e1,e2,bg];exact h
   ·cases h
  ·cases h
 ·unfold xFA at h;split at h
  ·rename_i p e1;simp only[ho,JN,<-FG,e1,bg];exact h
  ·cases h
 ·unfold ABG at h;split at h
  ·rename_i a b e1 e2;simp only[ho,JN,<-FG,e1,e2,bg];exact h
  ·cases h
 ·unfold xD at h;simp only[AT8]at h;split at h
  ·rename_i c ca a cb b e1 e2 e3;rw[D4]at e1;simp only[ho,e1,e2,e3];cases c with
   |true=>
    cases ca with
    |false=>cases h
    |true=>cases h;simp
   |false=>
    cases cb with
    |false=>cases h
    |true=>cases h;simp
  ·cases h
 ·unfold V6 at h;split at h
  ·rename_i l e1;simp only[ho,<-FG,e1,bg];exact h
  ·cases h
 ·unfold PU at h;split at h
  ·rename_i l e1;simp only[ho,<-FG,e1,bg];exact h
  ·cases h
 ·rw[FG]at h;split
  ·rename_i ho';rw[JN,ho']at h;cases h
  ·rename_i ho';rw[JN,ho']at h;cases h
  ·rename_i ho';rw[JN,ho']at h;cases h
  ·exact h
theorem JU{α:Type}{b:Bool}{x y:α}(h:(Bool.rec none (some x) b:Option α)=some y):b=true/\x=y:=by
 cases b with
 |false=>cases h
 |true=>exact⟨rfl,cq.inj h⟩
theorem EJ{α:Type}{b:Bool}{x:Option α}{y:α}(h:(Bool.rec none x b:Option α)=some y):b=true/\x=some y:=by
 cases b with
 |false=>cases h
 |true=>exact⟨rfl,h⟩
theorem UK{st:XS}(h:Bd st){v:V}{ys:List (List V)}(hv:U8 st.c v)(he:elemsOf st.s v=some ys)(σ σ':Nat->Nat)(δ:Nat)(ha:AR st.c σ σ'):ys.map (bt (V.ren σ δ))=ys.map (bt (V.ren σ' δ)):=by have h1:=GS (σ:=σ) (pre:=bw δ []) he;have h2:=GS (σ:=σ') (pre:=bw δ []) he;rw[h.s σ σ' _ ha,hv σ σ' _ ha,h2]at h1;have:=cq.inj h1;rw[bb]at this;exact this.symm
theorem FP(ys:List (List V))(m:Nat):(ys.map (bt (V.ren σ δ))).all (fun y=>y.length==m)=ys.all (fun y=>y.length==m):=by rw[fq];congr 1;funext y;simp
def oV(P:fp)(d:Tmp)(e:gk)(ys:List (List V))(st:XS)(xv:V):Option (XS×Nat×Nat):=match xv with
 |.vec l q γ n=>match TZ n ys (st.s.get l q)with
  |some (γ',.vec W es)=>Bool.rec none (some (⟨st.c+1,(d,true,.vec l q st.c (es++ys).length)::st.fr,st.s.put l q st.c (.vec e (es++ys))⟩,l,q))
    (bz γ' γ&&bz W e&&bz n es.length&&es.all (fun y=>y.length==P.cellsOf e)&&BW P e es.length ys)
  |_=>none
 |_=>none
def xAppG(el:St->V->Option (List (List V)))(P:fp)(d:Option Tmp)(args:List ft)(Ts:List gk)(st:XS):Option (XS×Nat×Nat):=match args,Ts,d with
 | [x,y],[T,U],some d=>Bool.rec none (match BV P T with
  |some (none,e)=>match CK st.fr x,CK st.fr y with
   |some xv,some yv=>match el st.s yv with
    |some ys=>match I2 xv ys with
     |some es=>Bool.rec none (some (⟨st.c+1,(d,true,.vec st.s.up.length d st.c (es++ys).length)::st.fr,st.s.put st.s.up.length d st.c (.vec e (es++ys))⟩,st.s.up.length,d)) (es.all (fun y=>y.length==P.cellsOf e)&&BW P e es.length ys)
     |none=>oV P d e ys st xv
    |none=>none
   |_,_=>none
  | _=>none) (bz T U)
 |_,_,_=>none
theorem AGG(v:V):X7 (v.ren σ δ)=X7 v:=by
 cases v with
 |list f es=>cases f<;>cases es<;>simp[X7]
 |_=>simp[X7]
theorem oW(v:V)(ys:List (List V)):I2 (v.ren σ δ) (ys.map (bt (V.ren σ δ)))=(I2 v ys).map (bt (bt (V.ren σ δ))):=by
 cases v with
 |list f es=>cases f<;>cases es<;>cases ys<;>simp[I2]
 |_=>simp[I2]
theorem tP{v:V}{es ys:List (List V)}(h:I2 v ys=some es):elemsOf s v=some es:=by unfold I2 at h;split at h<;>cases h<;>rfl
theorem gS{e:gk}{n:Nat}(ys:List (List V)):BW P e n (ys.map (bt (V.ren σ δ)))=BW P e n ys:=by unfold BW;rw[FP,bp]
theorem AGH{n:Nat}(ys es:List (List V)):aW n (ys.map (bt (V.ren σ δ))) (es.map (bt (V.ren σ δ)))=(aW n ys es).map (bt (V.ren σ δ)):=by
 cases ys with
 |nil=>rfl
 |cons y ys=>
  show(if _ then _ else _)=(if _ then _ else _:List (List V)).map _
  have e:(es.map (bt (V.ren σ δ))).all (fun x=>x.length==(y.map (V.ren σ δ)).length)=es.all (fun x=>x.length==y.length):=by rw[fq,bp];congr 1;funext x;simp
  rw[e]
  split
  ·rw[cj]
  ·rfl
theorem oX{n γ:Nat}{ys es:List (List V)}{U:gk}{o:Option (Nat×AX)}(h:TZ n ys o=some (γ,.vec U es)):TZ n (ys.map (bt (V.ren σ δ))) (o.map fun p=>(σ p.1,p.2.ren σ δ))=some (σ γ,.vec U (es.map (bt (V.ren σ δ)))):=by obtain⟨es0,rfl,rfl⟩:=PM h;show some (σ γ,AX.vec U (aW n _ _))=_;rw[AGH]
theorem cH{el:St->V->Option (List (List V))}(hel0:∀s v es,el s v=some es->elemsOf s v=some es){o:fh}{args:Array ft}{Ts:Array gk}{st st':XS}{l q:Nat}(h:Bd st)(ho:o.op=.call { callee:=.builtin .append,args:=args,argTypes:=Ts })
  (hx:xAppG el P o.dst args.toList Ts.toList st=some (st',l,q)):∃d r,o.dst=some d/\gO r=true/\st'=⟨st.c+1,(d,true,HD r l q st.c)::st.fr,st.s.put l q st.c r⟩/\(∀σ σ' δ,AR st.c σ σ'->r.ren σ δ=r.ren σ' δ) /\
   (∀(σ:Nat->Nat) (pre:List AA) (k:Fr->St->Prop),(∀γ,k ((st.fr.ren σ pre.length).put d true (HD (r.ren σ pre.length) (l+pre.length) q γ)) ((st.s.emb σ pre).put (l+pre.length) q γ (r.ren σ pre.length)))->EH P true o (st.fr.ren σ pre.length) (st.s.emb σ pre) k) /\
   (∀(W:AL) (σ:Nat->Nat) (pre:List AA),(∀p∈J9 (CK st.fr) args.toList,p∉W)->YB P o (st.fr.ren σ pre.length) ((st.s.emb σ pre).hide (eB pre.length W)) (st.s.emb σ pre)=some (l+pre.length,q,r.ren σ pre.length)):=by
 unfold xAppG at hx
 split at hx
 ·rename_i x y T U d ha hT hd;obtain⟨hTU,hx2⟩:=EJ hx;clear hx;have hTU:=bj hTU;subst hTU;have hx:=hx2;clear hx2;split at hx
  ·rename_i e hel;split at hx
   ·rename_i xv yv h1 h2;split at hx
    ·rename_i ys hys0;have hys:=hel0 _ _ _ hys0;have hyb:=UK h (h.rd h2) hys;have r1:=h1;have r2:=h2;rw[D4]at r1 r2;have hys2:∀(W:AL) (σ:Nat->Nat) (pre:List AA),(∀p∈J9 (CK st.fr) args.toList,p∉W)->elemsOf ((st.s.emb σ pre).hide (eB pre.length W)) (yv.ren σ pre.length)=some (ys.map (bt (V.ren σ pre.length))):=fun W σ pre hW=>by refine jY (GS hys) ?_;rw[ha]at hW;simp only[J9,h2]at hW;have:=oU (δ:=pre.length) hW;rw[<-RE (σ:=σ)]at this;exact this
     cases hn:I2 xv ys with
     |some es=>
      rw[hn]at hx
      obtain⟨hc,he⟩:=JU hx
      simp only[fg.injEq]at he
      obtain⟨rfl,rfl,rfl⟩:=he
      simp only[bx]at hc
      obtain⟨hce,hc⟩:=hc
      have heb:=UK h (h.rd h1) (tP hn)
      refine⟨d,.vec e (es++ys),hd,rfl,rfl,fun σ σ' δ hag=>by simp only[AX.ren,bc,hyb σ σ' δ hag,heb σ σ' δ hag],fun σ pre k hk=>?_,fun W σ pre hW=>?_⟩
      ·have hc':=hc;simp only[BW,bx,cz,cx]at hc;obtain⟨⟨⟨⟨c1,c2⟩,c3⟩,c4⟩,c5⟩:=hc;unfold EH;simp only[ho,ha,hT,hd,hel,DK,r1,r2,bq,bg,GS hys,oW,hn,true_and];refine⟨c1,c2,by rw[FP];exact hce,by rw[FP];exact c3,by simpa using c4,by simpa using c5,fun γ=>?_⟩;have:=hk γ;simp only[HD,AX.ren]at this;rw[DA,<-bc];exact this
      ·unfold YB;simp only[ho,ha,hT,hd,hel,DK,r1,r2,bq,bg,hys2 _ _ _ hW,oW,hn,if_true,DA,AX.ren];rw[if_pos ⟨by rw[FP];exact hce,by rw[gS,bp];exact hc⟩,bc]
     |none=>
      rw[hn]at hx
      replace hx:oV P d e ys st xv=some (st',l,q):=hx
      unfold oV at hx
      split at hx
      ·rename_i l0 q0 γ0 n';split at hx
       ·rename_i γ' W es hg;obtain⟨hc,he⟩:=JU hx;simp only[fg.injEq]at he;obtain⟨rfl,rfl,rfl⟩:=he;simp only[bx]at hc;obtain⟨⟨⟨⟨c1,c2⟩,c3⟩,c6⟩,c7⟩:=hc;have c1:=bj c1;have c2:=bj c2;have c3:=bj c3;subst c1;subst c2;subst c3;have heb:∀σ σ' δ,AR st.c σ σ'->es.map (bt (V.ren σ δ))=es.map (bt (V.ren σ' δ)):=fun σ σ' δ ha=>by
         obtain⟨es0,hg0,e0⟩:=PM hg;have:=M7 h hg0 σ σ' δ ha;have e1:es0.map (bt (V.ren σ δ))=es0.map (bt (V.ren σ' δ)):=by simpa [AX.ren]using this
         rcases VQ es.length ys es0 with e2|⟨e2,_⟩
         ·rw[e0,e2,e1]
         ·rw[e0,e2,cj,cj,e1]
        refine⟨d,.vec W (es++ys),hd,rfl,rfl,fun σ σ' δ hag=>by simp only[AX.ren,bc,hyb σ σ' δ hag,heb σ σ' δ hag],fun σ pre k hk=>?_,fun W σ pre hW=>?_⟩
        ·simp only[BW,bx,cz,cx]at c7;obtain⟨⟨⟨⟨d1,d2⟩,d3⟩,d4⟩,d5⟩:=c7;have hnn:I2 (V.vec (l0+pre.length) q0 (σ γ') es.length) (ys.map (bt (V.ren σ pre.length)))=none:=rfl;unfold EH;simp only[ho,ha,hT,hd,hel,DK,r1,r2,bq,bg,GS hys,HJ,B9,oX hg,true_and,hnn];refine⟨by simp,d1,d2,by rw[FP];exact c6,by rw[FP];exact d3,by simpa using d4,by simpa using d5,fun γ=>?_⟩;have:=hk γ;simp only[HD,AX.ren,bc,cd,bp]at this|-;exact this
        ·have hnn:I2 (V.vec (l0+pre.length) q0 (σ γ') es.length) (ys.map (bt (V.ren σ pre.length)))=none:=rfl;unfold YB;simp only[ho,ha,hT,hd,hel,DK,r1,r2,bq,bg,hys2 _ _ _ hW,HJ,B9,oX hg,hnn,if_true];rw[if_pos ⟨trivial,trivial,by simp,by rw[FP];exact c6,by rw[gS,bp];exact c7⟩];simp only[AX.ren,bc]
       ·cases hx
      ·cases hx
    ·cases hx
   ·cases hx
  ·cases hx
 ·cases hx
theorem cI{st:XS}(h:Bd st){d l q:Nat}{r:AX}(hp:gO r=true)(hr:∀σ σ' δ,AR st.c σ σ'->r.ren σ δ=r.ren σ' δ):KM st ⟨st.c+1,(d,true,HD r l q st.c)::st.fr,st.s.put l q st.c r⟩:=by
 have hb:∀σ σ',AR (st.c+1) σ σ'->AR st.c σ σ':=fun σ σ' ha=>ha.mono (ck _);refine⟨ck _,⟨fun σ σ' δ ha=>?_,fun σ σ' pre ha=>?_,h.lp.put (V5 hp)⟩,St.put_len _ _ _ _ _⟩
 ·show((st.fr.put d true (HD r l q st.c)).ren σ δ)=((st.fr.put d true (HD r l q st.c)).ren σ' δ);have e:∀σ:Nat->Nat,(HD r l q st.c).ren σ δ=HD (r.ren σ δ) (l+δ) q (σ st.c):=fun σ=>by cases r<;>simp[HD,AX.ren]
  simp only[HK,e];rw[h.f σ σ' δ (hb _ _ ha),ha st.c (bm _),hr σ σ' δ (hb _ _ ha)]
 ·simp only[CN];rw[h.s σ σ' pre (hb _ _ ha),hr σ σ' _ (hb _ _ ha),ha st.c (bm _)]
theorem oY(r:AX)(l q γ:Nat):(HD r l q γ).ren σ δ=HD (r.ren σ δ) (l+δ) q (σ γ):=by cases r<;>simp[HD,AX.ren]
theorem tQ{st:XS}(h:Bd st){d l q:Nat}{r:AX}(hr:∀σ σ' δ,AR st.c σ σ'->r.ren σ δ=r.ren σ' δ){σ:Nat->Nat}{pre:List AA}{k:Fr->St->Prop}
  (hk:∀σ',AR st.c σ σ'->k (Fr.ren σ' pre.length ((d,true,HD r l q st.c)::st.fr)) ((st.s.put l q st.c r).emb σ' pre)) (γ:Nat):k ((st.fr.ren σ pre.length).put d true (HD (r.ren σ pre.length) (l+pre.length) q γ)) ((st.s.emb σ pre).put (l+pre.length) q γ (r.ren σ pre.length)):=by
 have:=hk (fun i=>if i=st.c then γ else σ i) (AR.upd _ _ _)
 have hag:=AR.upd st.c γ σ
 change k ((st.fr.put d true _).ren _ _) _ at this
 simp only[HK,oY,if_true,CN]at this
 rw[<-h.f _ _ _ hag,<-h.s _ _ _ hag,<-hr _ _ _ hag]at this
 exact this
theorem xE(r:Mk)(l k γ:Nat):(r.val l k γ).ren σ δ=Mk.val ⟨r.res.ren σ δ,r.t⟩ (l+δ) k (σ γ):=by
 obtain⟨r,t⟩:=r;cases t with
 |none=>exact oY _ _ _ _
 |some t=>exact M3 t
theorem ABH{st:XS}(h:Bd st){d l q:Nat}{r:Mk}(hp:gO r.res=true)(hr:∀σ σ' δ,AR st.c σ σ'->r.res.ren σ δ=r.res.ren σ' δ):KM st ⟨st.c+1,(d,true,r.val l q st.c)::st.fr,st.s.put l q st.c r.res⟩:=by
 have hb:∀σ σ',AR (st.c+1) σ σ'->AR st.c σ σ':=fun σ σ' ha=>ha.mono (ck _);refine⟨ck _,⟨fun σ σ' δ ha=>?_,fun σ σ' pre ha=>?_,h.lp.put (V5 hp)⟩,St.put_len _ _ _ _ _⟩
 ·show((st.fr.put d true (r.val l q st.c)).ren σ δ)=((st.fr.put d true (r.val l q st.c)).ren σ' δ);simp only[HK,xE];rw[h.f σ σ' δ (hb _ _ ha),ha st.c (bm _),hr σ σ' δ (hb _ _ ha)]
 ·simp only[CN];rw[h.s σ σ' pre (hb _ _ ha),hr σ σ' _ (hb _ _ ha),ha st.c (bm _)]
theorem AMO{st:XS}(h:Bd st){d l q:Nat}{r:Mk}(hr:∀σ δ,r.res.ren σ δ=r.res){σ:Nat->Nat}{pre:List AA}{k:Fr->St->Prop}
  (hk:∀σ',AR st.c σ σ'->k (Fr.ren σ' pre.length ((d,true,r.val l q st.c)::st.fr)) ((st.s.put l q st.c r.res).emb σ' pre)) (γ:Nat):k ((st.fr.ren σ pre.length).put d true (r.val (l+pre.length) q γ)) ((st.s.emb σ pre).put (l+pre.length) q γ r.res):=by
 have:=hk (fun i=>if i=st.c then γ else σ i) (AR.upd _ _ _)
 have hag:=AR.upd st.c γ σ
 change k ((st.fr.put d true _).ren _ _) _ at this
 simp only[HK,xE,if_true,CN,hr]at this
 rw[<-h.f _ _ _ hag,<-h.s _ _ _ hag]at this
 exact this
def xAppend(P:fp)(d:Option Tmp)(args:List ft)(Ts:List gk)(st:XS):Option XS:=match xAppG elemsOf P d args Ts st with
 |some (st',_,_)=>some st'
 |none=>none
theorem tR{o:fh}{args:Array ft}{Ts:Array gk}{st st':XS}(h:Bd st)(ho:o.op=.call { callee:=.builtin .append,args:=args,argTypes:=Ts })(hx:xAppend P o.dst args.toList Ts.toList st=some st'):StepX P o st st':=by
 unfold xAppend at hx;split at hx
 ·rename_i st1 l q e1;cases hx;obtain⟨d,r,hd,hp,rfl,hr,hs,_⟩:=cH (fun _ _ _ h=>h) h ho e1;exact⟨cI h hp hr,fun σ pre k hk=>hs σ pre k fun γ=>tQ h hr hk γ⟩
 ·cases hx
def xF(P:fp)(d:Option Tmp)(args:List ft)(Ts:List gk)(st:XS):Option XS:=match args,Ts with
 |[x,y],[T,_]=>match BV P T,CK st.fr x,CK st.fr y with
  |some (none,e),some (.vtl l q γ i n),some yv=>match st.s.get l q,elemsOf st.s yv with
   |some (γ',.box cs),some ys=>Bool.rec none (some { st with fr:=putD st.fr d true (.int .i64 ((min ys.length n:Nat):Int)),s:=st.s.put l q γ (.box (A4 cs i (ys.take n).flatten)) }) (bz γ' γ&&bz (P.cellsOf e) 1&&ys.all (fun y=>y.length==1)&&dm (i+n) cs.length&&cw γ st.c)
   |_,_=>none
  |_,_,_=>none
 |_,_=>none
theorem AGI{o:fh}{args:Array ft}{Ts:Array gk}{st st':XS}(h:Bd st)(ho:o.op=.call { callee:=.builtin .copy,args:=args,argTypes:=Ts })(hx:xF P o.dst args.toList Ts.toList st=some st'):StepX P o st st':=by
 unfold xF at hx;split at hx
 ·rename_i x y T U ha hT;split at hx
  ·rename_i e l q γ i n yv hel h1 h2;split at hx
   ·rename_i γ' cs ys hg hys;cases hb:(bz γ' γ&&bz (P.cellsOf e) 1&&ys.all (fun y=>y.length==1)&&dm (i+n) cs.length&&cw γ st.c)with
    |false=>rw[hb]at hx;cases hx
    |true=>
     rw[hb]at hx
     cases hx
     simp only[bx,cz,cx]at hb
     obtain⟨⟨⟨⟨c1,c2⟩,c3⟩,c4⟩,c5⟩:=hb
     have c1:=bj c1
     have c2:=bj c2
     subst c1
     have hB:Bd { st with s:=st.s.put l q γ' (.box (A4 cs i (ys.take n).flatten)) }:=h.putS c5 fun σ σ' δ ha=>by have hr:=M7 h hg σ σ' δ ha;have he:=UK h (h.rd h2) hys σ σ' δ ha;simp only[AX.ren,AX.box.injEq]at hr|-;rw[<-C7,<-C7,hr,db,db,cj,cj,he]
     refine⟨⟨bn _,hB.putF (fun _ _ _ _=>rfl),St.put_len _ _ _ _ _⟩,fun σ pre k hk=>?_⟩
     have:=hk σ (AR.refl _ _)
     rw[D4]at h1 h2
     unfold EH
     simp only[ho,ha,hT,hel,DK,h1,h2,bq,YT,bg,GS hys,B9,hg,AX.ren]
     refine⟨trivial,trivial,c2,?_,by simpa using c4,?_⟩
     ·rw[fq];exact c3▸(by congr 1;funext x;simp)
     ·simp only[FO,EI,CN,AX.ren,<-C7,db,cj]at this;simpa only[bp]using this
   ·cases hx
  ·cases hx
 ·cases hx
end Go.Pg
namespace Go.Pg
variable {P:fp}{Ω:HE P}{σ σ':Nat->Nat}{δ:Nat}{pre:List AA}{s:St}{fr:Fr}{g:Bool}
def FQ{α β:Type}(f:α->Option β):List α->Option (List β)
 |[]=>some []
 |x::l=>match f x with
  |some y=>match FQ f l with
   |some r=>some (y::r)
   |none=>none
  |none=>none
theorem K3{α β:Type}(f:α->Option β):∀(l:List α),FQ f l=l.mapM f
 |[]=>rfl
 |x::l=>by
  simp only[FQ,List.mapM_cons,<-K3 f l];cases f x with
  |none=>rfl
  |some y=>cases FQ f l<;>rfl
abbrev CF:=gq->List V->XS->Option (V×XS)
abbrev CY:=Nat->Nat->Nat->List V->XS->Option (V×XS)
abbrev CF0:=gq->List V->Option V
abbrev CFO:=gq->List V->Tmp->Option Mk
structure XE where
 cf:CF
 cy:CY
 c0:CF0
 co:CFO
 lit:Tmp->Bool
def gT(P:fp)(cf:CF):Prop:=∀f args st r st',cf f args st=some (r,st')->Bd st->(∀v∈args,U8 st.c v)->KM st st'/\U8 st'.c r/\st'.fr=st.fr /\
 ∀(σ:Nat->Nat) (pre:List AA) (K:V->St->Prop),(∀σ',AR st.c σ σ'->K (r.ren σ' pre.length) (st'.s.emb σ' pre))->FL P f (args.map (V.ren σ pre.length)) (st.s.emb σ pre) K
def AUA(P:fp)(cy:CY):Prop:=∀l q γ vs st r st',cy l q γ vs st=some (r,st')->Bd st->(∀v∈vs,U8 st.c v)->KM st st'/\U8 st'.c r/\st'.fr=st.fr /\
 ∃fr0 ps asg body N,st.s.get l q=some (γ,.loop fr0 ps asg body N .ready)/\∀(σ:Nat->Nat) (pre:List AA) (k:V->St->Prop),(∀σ',AR st.c σ σ'->k (r.ren σ' pre.length) (st'.s.emb σ' pre)) ->
  aV P (l+pre.length) q (σ γ) (Fr.ren σ pre.length fr0) ps asg body N (vs.map (V.ren σ pre.length)) (st.s.emb σ pre) k
def HL(P:fp)(cf:CF0):Prop:=∀f args r,cf f args=some r->(∀s,FL P f args s fun r' s'=>r'=r/\s'=s)/\(∀v∈args,∀σ δ,v.ren σ δ=v)/\(∀σ δ,r.ren σ δ=r)
def tS(P:fp)(co:CFO):Prop:=∀f args d r,co f args d=some r->(∀(s:St),FL P f args s fun v s'=>∃γ,v=r.val s.up.length d γ/\s'=s.put s.up.length d γ r.res) /\
 (∀v∈args,∀σ δ,v.ren σ δ=v)/\(∀σ δ,r.res.ren σ δ=r.res)/\gO r.res=true
structure KA(P:fp)(E:XE):Prop where
 cf:gT P E.cf
 cy:AUA P E.cy
 c0:HL P E.c0
 co:tS P E.co
def KA.tab{E:XE}(h:KA P E)(own:fh->Bool):HE P:=⟨own,E.co,fun f args d r hc=>(h.co f args d r hc).1⟩
def tT(cy:CY)(d:Option Tmp)(l q γ:Nat)(args:List ft)(st:XS):Option XS:=match FQ (CK st.fr) args with
 |some vs=>match cy l q γ vs st with
  |some (r,st')=>some { st' with fr:=putD st'.fr d true r }
  |none=>none
 |none=>none
def UL(cf:CF)(cy:CY)(d:Option Tmp)(f:ft)(args:List ft)(st:XS):Option XS:=match CK st.fr f with
 |some (.fn fid first cap)=>match FQ (CK st.fr) args with
  |some vs=>match cf fid ((first++vs++cap).map weakV) st with
   |some (r,st')=>some { st' with fr:=putD st'.fr d true r }
   |none=>none
  |none=>none
 |some (.yld l q γ)=>tT cy d l q γ args st
 |_=>none
def HM(co:CFO)(d:Option Tmp)(f:ft)(args:List ft)(st:XS):Option XS:=match d,CK st.fr f with
 |some d,some (.fn fid first cap)=>match FQ (CK st.fr) args with
  |some vs=>match co fid ((first++vs++cap).map weakV) d with
   |some r=>some ⟨st.c+1,(d,true,r.val st.s.up.length d st.c)::st.fr,st.s.put st.s.up.length d st.c r.res⟩
   |none=>none
  |none=>none
 |_,_=>none
def eY(P:fp)(o:fh)(st:XS):Option XS:=match AMN P o st.fr st.s with
 |some v=>some { st with fr:=putD st.fr o.dst true v }
 |none=>none
def cJ(E:XE)(own:Bool)(d:Option Tmp)(f:ft)(args:List ft)(st:XS):Option XS:=Bool.rec (UL E.cf E.cy d f args st) (match HM E.co d f args st with
 |some st'=>some st'
 | none=>UL E.cf E.cy d f args st) own
def A5V(P:fp)(E:XE)(own:fh->Bool)(o:fh)(c:Call)(st:XS):Option XS:=match c.callee with
 |.value f=>cJ E (own o) o.dst f c.args.toList st
 |.builtin .append=>xAppend P o.dst c.args.toList c.argTypes.toList st
 |.builtin .clear=>jX P o.dst c.args.toList c.argTypes.toList st
 |.builtin .copy=>xF P o.dst c.args.toList c.argTypes.toList st
 |_=>eY P o st
def QO(P:fp)(E:XE)(own:fh->Bool)(o:fh)(st:XS):Option XS:=match o.op with
 |.alloc T=>O0 P o.dst T st
 |.box _ x=>oR o.dst x st
 |.makeMap _ r=>ABC o.dst r st
 |.makeSlice T x y=>XO P o.dst T x y st
 |.store T x y=>JE P o.dst T x y st
 |.mapUpdate T x i y=>ABD P o.dst T x i y st
 |.call c=>A5V P E own o c st
 |_=>eY P o st
theorem xG{o:fh}{st st':XS}(h:Bd st)(hx:eY P o st=some st'):StepX P o st st':=by
 unfold eY at hx;split at hx
 ·rename_i v hv;cases hx;exact ABB h (PV hv)
 ·cases hx
theorem YU{st:XS}(h:Bd st):∀{args:List ft} {vs:List V},FQ (CK st.fr) args=some vs->∀v∈vs,U8 st.c v
 |[],vs,e,v,hv=>by cases e;cases hv
 |x::l,vs,e,v,hv=>by
  simp only[FQ]at e;split at e
  ·rename_i y hy;split at e
   ·rename_i r hr;cases e;rcases List.mem_cons.1 hv with rfl|hv
    ·exact h.rd hy
    ·exact YU h hr v hv
   ·cases e
  ·cases e
theorem jZ{c:Nat}{v:V}(h:U8 c v):U8 c (weakV v):=fun σ σ' δ ha=>by rw[<-V0,<-V0,h σ σ' δ ha]
theorem AGJ{c:Nat}{f:gq}{xs ys:List V}(h:U8 c (.fn f xs ys)):(∀v∈xs,U8 c v)/\(∀v∈ys,U8 c v):=by
 refine⟨fun v hv σ σ' δ ha=>?_,fun v hv σ σ' δ ha=>?_⟩
 ·have:=h σ σ' δ ha;simp only[OX,V.fn.injEq]at this;exact cg.1 this.2.1 v hv
 ·have:=h σ σ' δ ha;simp only[OX,V.fn.injEq]at this;exact cg.1 this.2.2 v hv
theorem HN(l:List V):(l.map weakV).map (V.ren σ δ)=(l.map (V.ren σ δ)).map weakV:=by simp only[fc];congr 1;funext v;exact(V0 v).symm
theorem gU{E:XE}(hE:KA P E){own:fh->Bool}{o:fh}(hown:own o=true){f:ft}{args:Array ft}{Ts:Array gk}{st st':XS}(h:Bd st)(ho:o.op=.call { callee:=.value f,args:=args,argTypes:=Ts })(hx:HM E.co o.dst f args.toList st=some st'):jW P (hE.tab own) o st st':=by
 unfold HM at hx;split at hx
 ·rename_i d fid first cap hd hf;split at hx
  ·rename_i vs hvs;split at hx
   ·rename_i r hc;cases hx;obtain⟨_,hcl,hr,hpl⟩:=hE.co _ _ _ _ hc;refine⟨ABH h hpl (fun σ σ' δ _=>by rw[hr,hr]),d,hd,fun σ pre k hk=>⟨r,?_,fun γ=>?_⟩⟩
    ·have hcd:I4 true o (st.fr.ren σ pre.length)=some (fid,(first++vs++cap).map weakV):=by
      rw[K3,FG]at hvs;rw[D4]at hf;simp only[I4,ho,JP,hf,bq,OX,I5 hvs,cq.injEq,fg.injEq,true_and];have e:((first++vs++cap).map weakV).map (V.ren σ pre.length)=(first++vs++cap).map weakV:=by
       conv=>rhs;rw[<-cm ((first++vs++cap).map weakV)]
       exact bf fun v hv=>hcl v hv σ _
      rw[HN]at e;simpa only[bc]using e
     simp only[QF,ho,KA.tab,hown,if_true,hcd,hd,hc]
    ·have:=AMO h (d:=d) hr hk γ;rw[<-DA]at this;exact this
   ·cases hx
  ·cases hx
 ·cases hx
theorem oZ{cf:CF}{cy:CY}(hcf:gT P cf)(hcy:AUA P cy){o:fh}{f:ft}{args:Array ft}{Ts:Array gk}{st st':XS}(h:Bd st)(ho:o.op=.call { callee:=.value f,args:=args,argTypes:=Ts })(hx:UL cf cy o.dst f args.toList st=some st'):StepX P o st st':=by
 unfold UL at hx;split at hx
 ·rename_i fid first cap hf;split at hx
  ·rename_i vs hvs;split at hx
   ·rename_i r st1 hr;cases hx;have b1:=AGJ (h.rd hf);have b2:=YU h hvs;obtain⟨hE,hrb,hfr,hA⟩:=hcf _ _ _ _ _ hr h (fun v hv=>by
     obtain⟨u,hu,rfl⟩:=dj.1 hv;refine jZ ?_;rcases dp.1 hu with hu|hu
     ·rcases dp.1 hu with hu|hu
      ·exact b1.1 u hu
      ·exact b2 u hu
     ·exact b1.2 u hu)
    refine⟨⟨hE.c,hE.bd.putF hrb,hE.n⟩,fun σ pre k hk=>?_⟩;rw[K3,FG]at hvs;rw[D4]at hf;unfold EH;simp only[ho,JP,hf,bq,OX,I5 hvs];refine .inl ⟨rfl,?_⟩;have:=hA σ pre (fun r s'=>k (putD (st.fr.ren σ pre.length) o.dst true r) s') fun σ' ha=>?_
    ·rw[HN]at this;simpa only[bc]using this
    ·have h1:=hk σ' ha;rw[FO,hfr,<-h.f σ σ' _ ha]at h1;exact h1
   ·cases hx
  ·cases hx
 ·rename_i l q γ hf;unfold tT at hx;split at hx
  ·rename_i vs hvs;split at hx
   ·rename_i r st1 hr;cases hx;obtain⟨hE,hrb,hfr,fr0,ps,asg,body,N,hget,hA⟩:=hcy _ _ _ _ _ _ _ hr h (YU h hvs);refine⟨⟨hE.c,hE.bd.putF hrb,hE.n⟩,fun σ pre k hk=>?_⟩;rw[K3,FG]at hvs;rw[D4]at hf;unfold EH;simp only[ho,JP,hf,bq,jT,I5 hvs,B9,hget,AX.ren];refine⟨trivial,trivial,?_⟩;refine hA σ pre (fun r s'=>k (putD (st.fr.ren σ pre.length) o.dst true r) s') fun σ' ha=>?_;have h1:=hk σ' ha;rw[FO,hfr,<-h.f σ σ' _ ha]at h1;exact h1
   ·cases hx
  ·cases hx
 ·cases hx
theorem pA{E:XE}(hE:KA P E){own:fh->Bool}{o:fh}{st st':XS}(h:Bd st)(hx:QO P E own o st=some st'):StepX P o st st':=by
 unfold QO at hx;split at hx
 ·rename_i T ho;exact(gQ (Ω:=HE.nothing P) h ho hx).step
 ·rename_i T x ho;exact(xB (Ω:=HE.nothing P) h ho hx).step
 ·rename_i T r ho;exact(xC (Ω:=HE.nothing P) h ho hx).step
 ·rename_i T x y ho;exact(oS (Ω:=HE.nothing P) h ho hx).step
 ·rename_i T x y ho;exact gR h ho hx
 ·rename_i T x i y ho;exact AMM h ho hx
 ·rename_i c ho;obtain⟨callee,args,Ts⟩:=c;unfold A5V at hx;split at hx
  ·rename_i f hc;have hc:callee=.value f:=hc;subst hc;unfold cJ at hx;cases hown:own o with
   |false=>rw[hown]at hx;exact oZ hE.cf hE.cy h ho hx
   |true=>
    rw[hown]at hx
    have hx:(match HM E.co o.dst f args.toList st with
     |some st'=>some st'
     | none=>UL E.cf E.cy o.dst f args.toList st)=some st':=hx
    split at hx
    ·rename_i st1 h1;cases hx;exact(gU hE hown h ho h1).step
    ·exact oZ hE.cf hE.cy h ho hx
  ·rename_i hc;have hc:callee=.builtin .append:=hc;subst hc;exact tR h ho hx
  ·rename_i hc;have hc:callee=.builtin .clear:=hc;subst hc;exact ABE h ho hx
  ·rename_i hc;have hc:callee=.builtin .copy:=hc;subst hc;exact AGI h ho hx
  ·exact xG h hx
 ·exact xG h hx
def gdX(fr:Fr)(gd:Option (Tmp×Bool)):Option Bool:=match gd with
 |none=>some true
 |some (d,want)=>match BG fr d with
  |some (c,.bool b)=>some (c&&(b==want))
  |_=>none
theorem tU(gd:Option (Tmp×Bool)):gdX fr gd=QE fr gd:=by
 cases gd with
 |none=>rfl
 |some p=>simp only[gdX,QE,FE];rfl
theorem NA{gd:Option (Tmp×Bool)}(h:QE fr gd=some g):QE (fr.ren σ δ) gd=some g:=by
 cases gd with
 |none=>exact h
 |some p=>
  simp only[QE]at h|-
  split at h
  ·rename_i c b e;simp only[Fr.get_ren,e,bq,L8];exact h
  ·cases h
def I7(d:Option Tmp)(st:XS):XS:={ st with fr:=putD st.fr d false (.bool false) }
def AGK(P:fp)(lit:Tmp->Bool)(o:fh)(st:XS):Option XS:=match o.op,o.dst with
 | .buildSlice T _ _,some d=>Bool.rec none (match BV P T,AMN P o st.fr st.s with
  |some (none,e),some (.list true (x::es))=>Bool.rec none (some ⟨st.c+1,(d,true,HD (.vec e (x::es)) st.s.up.length d st.c)::st.fr,st.s.put st.s.up.length d st.c (.vec e (x::es))⟩) (dm (x::es).length maxLen)
  | _,_=>none) (lit d)
 |_,_=>none
theorem AMQ{lit:Tmp->Bool}{o:fh}{st st':XS}(h:Bd st)(hx:AGK P lit o st=some st'):KM st st' /\
  ∀(σ:Nat->Nat) (pre:List AA) (k:Fr->St->Prop),(∀σ',AR st.c σ σ'->k (st'.fr.ren σ' pre.length) (st'.s.emb σ' pre))->A5N P true o (st.fr.ren σ pre.length) (st.s.emb σ pre) k:=by
 unfold AGK at hx
 split at hx
 ·rename_i T len parts d ho hd;obtain⟨_,hx⟩:=EJ hx;split at hx
  ·rename_i e x es hel hv;obtain⟨hc,he⟩:=JU hx;cases he;have hv:=PV hv;have hb:=UK h (h.val hv) (ys:=x::es) rfl;refine⟨cI h rfl fun σ σ' δ ha=>by simp only[AX.ren,hb σ σ' δ ha],fun σ pre k hk=>?_⟩;have hv':=I6 (σ:=σ) (pre:=pre) hv;unfold FN at hv';simp only[ho]at hv';obtain⟨ps,h1,h2⟩:=bk.1 hv';rw[EW]at h2;refine⟨T,len,parts,d,e,_,ps,ho,rfl,hd,hel,h1,h2,by simp,by simpa [cx]using hc,fun γ=>?_⟩;have:=tQ h (d:=d) (r:=.vec e (x::es)) (fun σ σ' δ ha=>by simp only[AX.ren,hb σ σ' δ ha]) hk γ;rw[DA];simpa only[HD,AX.ren]using this
  ·cases hx
 ·cases hx
def AMR(all:List fh)(t:Tmp):Bool:=all.any fun p=>match p.op,p.dst with
 |.call { callee:=.builtin .append,.. },some d=>bz d t
 |_,_=>false
def NB(all:List fh)(st:XS):List ft->Option XS
 |[]=>none
 |x::r=>match x with
  | .tmp t=>Bool.rec (NB all st r) (match BG st.fr t with
   |some (true,.vec l q γ n)=>match st.s.get l q with
    |some (γ',.vec _ es)=>Bool.rec none (some ⟨st.c,(t,true,.list false (es.take n))::st.fr,st.s.put l q γ .dead⟩) (bz γ' γ&&dm n es.length&&cw γ st.c)
    |_=>none
   | _=>none) (AMR all t)
  |_=>NB all st r
def AGL(all:List fh)(o:fh)(st:XS):Option XS:=match o.op with
 |.call c=>match c.callee with
  |.value _=>NB all st c.args.toList
  |_=>none
 |_=>none
theorem V7{all:List fh}{st st1:XS}(h:Bd st):∀{xs:List ft},NB all st xs=some st1->KM st st1 /\
  ∀(o:fh) (σ:Nat->Nat) (pre:List AA) (k:Fr->St->Prop),EH P true o (st1.fr.ren σ pre.length) (st1.s.emb σ pre) k->AP6 P true o (st.fr.ren σ pre.length) (st.s.emb σ pre) k
 |[],hx=>by cases hx
 |x::r,hx=>by
  unfold NB at hx;split at hx
  ·rename_i t;cases hA:AMR all t with
   |false=>rw[hA]at hx;exact V7 h hx
   |true=>
    rw[hA]at hx
    have hx:(match BG st.fr t with
     |some (true,.vec l q γ n)=>match st.s.get l q with
      |some (γ',.vec _ es)=>Bool.rec none (some ⟨st.c,(t,true,.list false (es.take n))::st.fr,st.s.put l q γ .dead⟩) (bz γ' γ&&dm n es.length&&cw γ st.c)
      |_=>none
     | _=>none)=some st1:=hx
    split at hx
    ·rename_i l q γ n hg;split at hx
     ·rename_i γ' T es hs;obtain⟨hc,he⟩:=JU hx;simp only[bx]at hc;obtain⟨⟨h1,h2⟩,h3⟩:=hc;have h1:=bj h1;have h2:n<=es.length:=by simpa [cx]using h2
      have h3:γ<st.c:=by simpa [cz]using h3
      subst h1;cases he;rw[FE]at hg;have hb:∀σ σ' δ,AR st.c σ σ'->es.map (bt (V.ren σ δ))=es.map (bt (V.ren σ' δ)):=fun σ σ' δ ha=>by have:=M7 h hs σ σ' δ ha;simpa [AX.ren]using this
      have hv:U8 st.c (.list false (es.take n)):=fun σ σ' δ ha=>by simp only[EW,cj,hb σ σ' δ ha]
      have hbd:Bd ⟨st.c,(t,true,.list false (es.take n))::st.fr,st.s.put l q γ' .dead⟩:=(h.putS (l:=l) (k:=q) (r:=.dead) h3 (fun _ _ _ _=>rfl)).putF (d:=some t) (c:=true) hv;refine⟨⟨bn _,hbd,St.put_len _ _ _ _ _⟩,fun o σ pre k hk=>⟨t,l+pre.length,q,σ γ',n,T,es.map (bt (V.ren σ pre.length)),rfl,?_,?_,by simpa using h2,?_⟩⟩
      ·rw[Fr.get_ren,hg];simp
      ·rw[B9,hs];simp[AX.ren]
      ·change EH P true o ((st.fr.put t true _).ren _ _) _ k at hk;simp only[HK,EW,CN,AX.ren,cj]at hk;exact hk
     ·cases hx
    ·cases hx
  ·exact V7 h hx
def opX(P:fp)(E:XE)(all:List fh)(o:fh)(st:XS):Option XS:=match gdX st.fr (LF all o)with
 |some true=>match AGK P E.lit o st with
  |some st'=>some st'
  |none=>match AGL all o st with
   |some st1=>QO P E (DQ all) o st1
   |none=>QO P E (DQ all) o st
 |some false=>some (I7 o.dst st)
 |none=>none
theorem gV{d:Option Tmp}{st:XS}(h:Bd st):KM st (I7 d st):=⟨bn _,h.putF (fun σ σ' δ _=>by simp),rfl⟩
theorem AGM{E:XE}(hE:KA P E){all:List fh}{o:fh}{st st':XS}(h:Bd st)(hx:opX P E all o st=some st'):KM st st'/\∃g,(∀σ δ,QE (st.fr.ren σ δ) (LF all o)=some g) /\
  ∀(σ:Nat->Nat) (pre:List AA) (k:Fr->St->Prop),(∀σ',AR st.c σ σ'->k (st'.fr.ren σ' pre.length) (st'.s.emb σ' pre))->T3 P g o (st.fr.ren σ pre.length) (st.s.emb σ pre) k:=by
 unfold opX at hx
 rw[tU]at hx
 split at hx
 ·rename_i hg;split at hx
  ·rename_i st1 hl;cases hx;obtain⟨h1,h2⟩:=AMQ h hl;exact⟨h1,true,fun σ δ=>NA hg,fun σ pre k hk=>.inr (.inr (.inl (h2 σ pre k hk)))⟩
  ·split at hx
   ·rename_i st1 ht;have ht':∃xs,NB all st xs=some st1:=by
     unfold AGL at ht;split at ht
     ·split at ht
      ·exact⟨_,ht⟩
      ·cases ht
     ·cases ht
    obtain⟨xs,ht'⟩:=ht';obtain⟨hE1,hs1⟩:=V7 (P:=P) h ht';obtain⟨h1,h2⟩:=pA hE hE1.bd hx;exact⟨⟨df hE1.c h1.c,h1.bd,h1.n.trans hE1.n⟩,true,fun σ δ=>NA hg,fun σ pre k hk=>.inr (.inr (.inr (hs1 o σ pre k (h2 σ pre k fun σ' ha=>hk σ' (ha.mono hE1.c)))))⟩
   ·obtain⟨h1,h2⟩:=pA hE h hx;exact⟨h1,true,fun σ δ=>NA hg,fun σ pre k hk=>.inl (h2 σ pre k hk)⟩
 ·rename_i hg;cases hx;refine⟨gV h,false,fun σ δ=>NA hg,fun σ pre k hk=>.inr (.inl ⟨rfl,.bool false,?_⟩)⟩;have:=hk σ (AR.refl _ _);simpa only[I7,FO,L8]using this
 ·cases hx
def kB(P:fp)(E:XE)(all:List fh):List fh->XS->Option XS
 |[],st=>some st
 |o::r,st=>match opX P E all o st with
  |some st'=>kB P E all r st'
  |none=>none
theorem kD{E:XE}(hEE:KA P E){all:List fh}:∀{l:List fh} {st st':XS},Bd st->kB P E all l st=some st'->KM st st' /\
  ∀(σ:Nat->Nat) (pre:List AA) (K:Fr->St->Prop),(∀σ',AR st.c σ σ'->K (st'.fr.ren σ' pre.length) (st'.s.emb σ' pre))->XD P (l.map (LF all)) l (st.fr.ren σ pre.length) (st.s.emb σ pre) K
 |[],st,st',h,hx=>by cases hx;exact⟨⟨bn _,h,rfl⟩,fun σ pre K hk=>hk σ (AR.refl _ _)⟩
 |o::l,st,st',h,hx=>by
  simp only[kB]at hx;split at hx
  ·rename_i st1 h1;obtain⟨hE,g,hg,hs⟩:=AGM hEE h h1;obtain⟨hE',hs'⟩:=kD hEE hE.bd hx;refine⟨⟨df hE.c hE'.c,hE'.bd,hE'.n.trans hE.n⟩,fun σ pre K hk=>?_⟩;simp only[dq,XD,hg];exact hs σ pre _ fun σ' ha=>hs' σ' pre K fun σ'' ha'=>hk σ'' (ha.trans ha' hE.c)
  ·cases hx
def cK(cf:CF0)(d:Option Tmp)(f:ft)(args:List ft)(st:XS):Option XS:=match CK st.fr f with
 |some (.fn fid first cap)=>match FQ (CK st.fr) args with
  |some vs=>match cf fid ((first++vs++cap).map weakV)with
   |some r=>some { st with fr:=putD st.fr d true r }
   |none=>none
  |none=>none
 |_=>none
def UM(r:Option XS):Option (XS×AL):=match r with
 |some st=>some (st,[])
 |none=>none
def xAppD(P:fp)(d:Option Tmp)(args:List ft)(Ts:List gk)(st:XS):Option (XS×AL):=match xAppG elemsOf P d args Ts st with
 |some (st',l,q)=>some (st',[(l,q),(l,q+J4)])
 |none=>none
def AQF(P:fp)(E:XE)(own:fh->Bool)(o:fh)(c:Call)(st:XS):Option (XS×AL):=match c.callee with
 |.value f=>Bool.rec (UM (cK E.c0 o.dst f c.args.toList st)) (UM (HM E.co o.dst f c.args.toList st)) (own o)
 |.builtin .append=>xAppD P o.dst c.args.toList c.argTypes.toList st
 |_=>UM (eY P o st)
def AGN(P:fp)(d:Option Tmp)(T:gk)(x y:ft)(st:XS):Option (XS×AL):=match JE P d T x y st with
 |some st'=>some (st',EY (bz (P.cellsOf T) 1) (CK st.fr x))
 |none=>none
def kE(P:fp)(E:XE)(own:fh->Bool)(o:fh)(st:XS):Option (XS×AL):=match o.op with
 |.alloc T=>UM (O0 P o.dst T st)
 |.box _ x=>UM (oR o.dst x st)
 |.makeMap _ r=>UM (ABC o.dst r st)
 |.makeSlice T x y=>UM (XO P o.dst T x y st)
 |.store T x y=>AGN P o.dst T x y st
 |.call c=>AQF P E own o c st
 |_=>UM (eY P o st)
def tV(P:fp)(E:XE)(all:List fh)(o:fh)(st:XS):Option (XS×AL):=match gdX st.fr (LF all o)with
 |some true=>kE P E (DQ all) o st
 |some false=>Bool.rec (some (I7 o.dst st,[])) none (kA (DQ all) o||kW o||kP o)
 |none=>none
theorem HO{r:Option XS}{st':XS}{wr:AL}(h:UM r=some (st',wr)):r=some st'/\wr=[]:=by
 unfold UM at h;split at h
 ·cases h;exact⟨rfl,rfl⟩
 ·cases h
def AUB(P:fp)(Ω:HE P)(all:List fh)(o:fh)(st st':XS)(wr:AL):Prop:=KM st st' /\
  ∀(W:AL) (σ:Nat->Nat) (pre:List AA) (k:Fr->St->Prop),(∀p∈EA P o (CK st.fr),p∉W)->(∀p∈wr,p∈W)->(∀σ',AR st.c σ σ'->k (st'.fr.ren σ' pre.length) (st'.s.emb σ' pre))->E0 P Ω (eB pre.length W) o (LF all o) (st.fr.ren σ pre.length) (st.s.emb σ pre) k
theorem AMS{E:XE}(hE:KA P E){all:List fh}{o:fh}{st st':XS}{wr:AL}(h:Bd st)(hx:tV P E all o st=some (st',wr)):AUB P (hE.tab (DQ all)) all o st st' wr:=by
 have val:∀{st'},(∀σ δ,QE (st.fr.ren σ δ) (LF all o)=some true)->eY P o st=some st'->AUB P (hE.tab (DQ all)) all o st st' wr:=by
  intro st' hg hx;unfold eY at hx;split at hx
  ·rename_i v hv;cases hx;have hv:=PV hv;refine⟨⟨bn _,h.putF (h.val hv),rfl⟩,fun W σ pre k hr _ hk=>.inl ⟨true,v.ren σ pre.length,⟨hg _ _,?_⟩,?_⟩⟩
   ·have hrd:∀p∈EA P o (DW true (st.fr.ren σ pre.length)),p∉eB pre.length W:=by rw[JP,tO,<-FG];exact oU hr
    cases hi:oT P o (DW true (st.fr.ren σ pre.length))with
    |true=>exact .inr (.inr (.inl (AT7 (I6 hv) hi hrd)))
    |false=>exact .inl ⟨_,cG _,ABF (I6 hv) hi hrd⟩
   ·have:=hk σ (AR.refl _ _);rwa [FO]at this
  ·cases hx
 have new:∀{st'},(∀σ δ,QE (st.fr.ren σ δ) (LF all o)=some true)->jW P (hE.tab (DQ all)) o st st'->AUB P (hE.tab (DQ all)) all o st st' wr:=by intro st' hg hn;obtain⟨h1,d,hd,h2⟩:=hn;refine⟨h1,fun W σ pre k _ _ hk=>?_⟩;obtain⟨r,hr,h3⟩:=h2 σ pre k hk;exact .inr (.inl ⟨r,d,⟨hg _ _,hd,hr⟩,h3⟩)
 unfold tV at hx;rw[tU]at hx;split at hx
 ·rename_i hg;have hg':∀σ δ,QE (st.fr.ren σ δ) (LF all o)=some true:=fun σ δ=>NA hg;unfold kE at hx;split at hx
  ·rename_i T ho;exact new hg' (gQ h ho (HO hx).1)
  ·rename_i T x ho;exact new hg' (xB h ho (HO hx).1)
  ·rename_i T r ho;exact new hg' (xC h ho (HO hx).1)
  ·rename_i T x y ho;exact new hg' (oS h ho (HO hx).1)
  ·rename_i T x y ho;unfold AGN at hx;split at hx
   ·rename_i st1 hx1;cases hx;obtain⟨hE1,_⟩:=gR h ho hx1;obtain⟨l,q,γ,r,hD,rfl⟩:=AGD ho hx1;refine⟨hE1,fun W σ pre k _ hw hk=>.inr (.inr (.inl ⟨_,_,_,_,⟨hg' _ _,?_,tK hD⟩,?_⟩))⟩
    ·have hp:=bL hD;unfold tB at hp;simp only[ho]at hp;have main:∀off,(DW true st.fr x=some (.ptr l q γ off)\/∃i,DW true st.fr x=some (.eptr l q γ i off))->WOK P (eB pre.length W) o (st.fr.ren σ pre.length) (l+pre.length) q:=by
      intro off hx;have hC:JD P o (st.fr.ren σ pre.length)=some (off,P.cellsOf T):=by unfold JD;rcases hx with hx|⟨i,hx⟩<;>simp only[ho,DK,hx,bq,HI,OW]
      cases hb:bz (P.cellsOf T) 1 with
      |true=>
       have h1:=bj hb
       have hpl:EY (bz (P.cellsOf T) 1) (CK st.fr x)=[(l,q),(l,ID q off)]:=by rw[D4,hb];rcases hx with hx|⟨i,hx⟩<;>rw[hx]<;>rfl
       rw[hpl]at hw
       refine⟨M9.2 (hw _ (by simp)),.inr fun off' n' e c h2 h3=>?_⟩
       rw[hC]at e
       cases e
       obtain rfl:c=off:=by omega
       exact M9.2 (hw _ (by simp))
      |false=>
       have hpl:EY (bz (P.cellsOf T) 1) (CK st.fr x)=[(l,q),(l,q+KK)]:=by rw[D4,hb];rcases hx with hx|⟨i,hx⟩<;>rw[hx]<;>rfl
       rw[hpl]at hw
       exact⟨M9.2 (hw _ (by simp)),.inl (M9.2 (hw _ (by simp)))⟩
     split at hp
     ·rename_i l1 q1 γ1 off e;cases hp;exact main off (.inl e)
     ·rename_i l1 q1 γ1 i off e;cases hp;exact main off (.inr ⟨i,e⟩)
     ·cases hp
    ·have:=hk σ (AR.refl _ _);simp only[CN]at this;exact this
   ·cases hx
  ·rename_i c ho;obtain⟨callee,args,Ts⟩:=c;unfold AQF at hx;split at hx
   ·rename_i f hc;have hc:callee=.value f:=hc;subst hc;cases hown:DQ all o with
    |true=>
     rw[hown]at hx
     exact new hg' (gU hE hown h ho (HO hx).1)
    |false=>
     rw[hown]at hx
     have hx:=(HO hx).1
     unfold cK at hx
     split at hx
     ·rename_i fid first cap hf;split at hx
      ·rename_i vs hvs;split at hx
       ·rename_i r hr;cases hx;obtain⟨hA,hcl,hrc⟩:=hE.c0 _ _ _ hr;refine⟨⟨bn _,h.putF (fun σ σ' δ _=>by rw[hrc,hrc]),rfl⟩,fun W σ pre k _ _ hk=>.inl ⟨true,r,⟨hg' _ _,.inr (.inl ⟨fid,(first++vs++cap).map weakV,?_,hown,fun _ s=>hA s⟩)⟩,?_⟩⟩
        ·rw[K3,FG]at hvs;rw[D4]at hf;simp only[I4,ho,JP,hf,bq,OX,I5 hvs,cq.injEq,fg.injEq,true_and];have e:((first++vs++cap).map weakV).map (V.ren σ pre.length)=(first++vs++cap).map weakV:=by
          conv=>rhs;rw[<-cm ((first++vs++cap).map weakV)]
          exact bf fun v hv=>hcl v hv σ _
         rw[HN]at e;simpa only[bc]using e
        ·have:=hk σ (AR.refl _ _);rwa [FO,hrc]at this
       ·cases hx
      ·cases hx
     ·cases hx
   ·rename_i hc;have hc:callee=.builtin .append:=hc;subst hc;unfold xAppD at hx;split at hx
    ·rename_i st1 l q e1;cases hx;obtain⟨d,r,hd,hp,rfl,hr,_,hs⟩:=cH (fun _ _ _ h=>h) h ho e1;have hra:EA P o (CK st.fr)=J9 (CK st.fr) args.toList:=by simp only[EA,ho]
     refine⟨cI h hp hr,fun W σ pre k hrd hw hk=>.inr (.inr (.inr ⟨l+pre.length,q,r.ren σ pre.length,d,⟨hg' _ _,⟨M9.2 (hw _ (by simp)),M9.2 (hw _ (by simp))⟩,hd,_,cG _,hs W σ pre (by rw[<-hra];exact hrd)⟩,fun γ=>tQ h hr hk γ⟩))⟩
    ·cases hx
   ·exact val hg' (HO hx).1
  ·exact val hg' (HO hx).1
 ·rename_i hg;cases hk:(kA (DQ all) o||kW o||kP o)with
  |true=>rw[hk]at hx;cases hx
  |false=>
   rw[hk]at hx
   cases hx
   rw[dr,dr]at hk
   refine⟨gV h,fun W σ pre k _ _ hk'=>.inl ⟨false,.bool false,⟨NA hg,.inr (.inr (.inr ⟨rfl,hk.1.1,hk.1.2,hk.2⟩))⟩,?_⟩⟩
   have:=hk' σ (AR.refl _ _)
   simpa only[I7,FO,L8]using this
 ·cases hx
def phX(P:fp)(E:XE)(l:List fh):List Nat->XS->AL->AL->Option (XS×AL×AL)
 |[],st,rd,wr=>some (st,rd,wr)
 |i::r,st,rd,wr=>match l[i]? with
  |some o=>match tV P E l o st with
   |some (st',w)=>phX P E l r st' (cond (zB l o) [] (EA P o (CK st.fr))++rd) (w++wr)
   |none=>none
  |none=>none
def sqX(P:fp)(E:XE)(l:List fh):List Nat->XS->Option XS
 |[],st=>some st
 |i::r,st=>match l[i]? with
  |some o=>match opX P E l o st with
   |some st'=>sqX P E l r st'
   |none=>none
  |none=>none
def ABI(P:fp)(E:XE)(l:List fh):YC->XS->Option XS
 |[],st=>some st
 | p :: S,st=>Bool.rec none (match phX P E l p.1 st [] []with
  | some (st1,rd,wr)=>Bool.rec none (match sqX P E l p.2 st1 with
   |some G5=>ABI P E l S G5
   | none=>none) (wr.all fun p=>!(rd.contains p))
  | none=>none) (bY (DQ l) l p.1 st.s.loc)
theorem YV{l:List fh}{i:Nat}{o:fh}(h:l[i]? = some o):eA (l.map (LF l)) i=LF l o:=by simp[eA,h]
theorem AMT{E:XE}{all:List fh}{o:fh}{st st':XS}{wr:AL}(ho:∃T x,o.op=.load T x)(hx:tV P E all o st=some (st',wr)):wr=[]:=by
 obtain⟨T,x,ho⟩:=ho;unfold tV at hx;split at hx
 ·unfold kE at hx;rw[ho]at hx;exact(HO hx).2
 ·cases hk:(kA (DQ all) o||kW o||kP o)with
  |true=>rw[hk]at hx;cases hx
  |false=>rw[hk]at hx;exact(fg.inj (cq.inj hx)).2.symm
 ·cases hx
theorem AGO{E:XE}(hEE:KA P E){l:List fh}:∀{R:List Nat} {st st':XS} {rd wr rd' wr':AL},Bd st->phX P E l R st rd wr=some (st',rd',wr')->KM st st'/\(∀p∈rd,p∈rd')/\(∀p∈wr,p∈wr') /\
  ∀(W:AL) (σ:Nat->Nat) (pre:List AA) (K:Fr->St->Prop),(∀p∈rd',p∉W)->(∀p∈wr',p∈W)->(∀σ',AR st.c σ σ'->K (st'.fr.ren σ' pre.length) (st'.s.emb σ' pre))->QM P (hEE.tab (DQ l)) (eB pre.length W) l (l.map (LF l)) R (st.fr.ren σ pre.length) (st.s.emb σ pre) K
 |[],st,st',rd,wr,rd',wr',h,hx=>by cases hx;exact⟨⟨bn _,h,rfl⟩,fun _ h=>h,fun _ h=>h,fun W σ pre K _ _ hk=>hk σ (AR.refl _ _)⟩
 |i::r,st,st',rd,wr,rd',wr',h,hx=>by
  simp only[phX]at hx;split at hx
  ·rename_i o ho;split at hx
   ·rename_i st1 w1 h1;obtain⟨hE,hs⟩:=AMS hEE h h1;obtain⟨hE',hr,hw,hs'⟩:=AGO hEE hE.bd hx;refine⟨⟨df hE.c hE'.c,hE'.bd,hE'.n.trans hE.n⟩,fun p hp=>hr p (dg _ hp),fun p hp=>hw p (dg _ hp),fun W σ pre K hrd hwr hk=>?_⟩;simp only[QM,NM,ho,YV ho];cases hz:zB l o with
    |true=>
     have hw0:w1=[]:=AMT (AP9 hz) h1
     subst hw0
     unfold wz
     rw[hz]
     exact hs [] σ pre _ (fun p _=>by simp) (fun p hp=>hp) fun σ' ha=>hs' W σ' pre K hrd hwr fun σ'' ha'=>hk σ'' (ha.trans ha' hE.c)
    |false=>
    rw[hz]at hr;unfold wz;rw[hz];exact hs W σ pre _ (fun p hp=>hrd p (hr p (dt _ hp))) (fun p hp=>hwr p (hw p (dt _ hp))) fun σ' ha=>hs' W σ' pre K hrd hwr fun σ'' ha'=>hk σ'' (ha.trans ha' hE.c)
   ·cases hx
  ·cases hx
theorem AGP{E:XE}(hEE:KA P E){l:List fh}:∀{R:List Nat} {st st':XS},Bd st->sqX P E l R st=some st'->KM st st' /\
  ∀(σ:Nat->Nat) (pre:List AA) (K:Fr->St->Prop),(∀σ',AR st.c σ σ'->K (st'.fr.ren σ' pre.length) (st'.s.emb σ' pre))->AA2 P l (l.map (LF l)) R (st.fr.ren σ pre.length) (st.s.emb σ pre) K
 |[],st,st',h,hx=>by cases hx;exact⟨⟨bn _,h,rfl⟩,fun σ pre K hk=>hk σ (AR.refl _ _)⟩
 |i::r,st,st',h,hx=>by
  simp only[sqX]at hx;split at hx
  ·rename_i o ho;split at hx
   ·rename_i st1 h1;obtain⟨hE,g,hg,hs⟩:=AGM hEE h h1;obtain⟨hE',hs'⟩:=AGP hEE hE.bd hx;refine⟨⟨df hE.c hE'.c,hE'.bd,hE'.n.trans hE.n⟩,fun σ pre K hk=>?_⟩;simp only[AA2,ho,YV ho,hg];exact hs σ pre _ fun σ' ha=>hs' σ' pre K fun σ'' ha'=>hk σ'' (ha.trans ha' hE.c)
   ·cases hx
  ·cases hx
end Go.Pg
namespace Go.Pg
variable {P:fp}{σ σ':Nat->Nat}{δ:Nat}{pre:List AA}{s:St}{fr:Fr}{g:Bool}
def AG:Nat->V->Bool
 |0,_=>false
 |f+1,v=>match v with
  |.int ..|.bool _|.raw _|.nil|.any=>true
  |.agg cs|.tup cs|.ref cs=>cs.all (AG f)
  |.list _ es=>es.all fun e=>e.all (AG f)
  |.fn _ a b=>a.all (AG f)&&b.all (AG f)
  |_=>false
theorem NC{f:Nat}(ih:∀v,AG f v=true->v.ren σ δ=v){cs:List V}(h:cs.all (AG f)=true):cs.map (V.ren σ δ)=cs:=by
 conv=>rhs;rw[<-cm cs]
 exact bf fun v hv=>ih v (bh.1 h v hv)
theorem EN:∀(f:Nat) (v:V),AG f v=true->v.ren σ δ=v
 |0,_,h=>by cases h
 |f+1,v,h=>by
  have ih:=fun v=>EN f v;cases v with
  |agg cs=>rw[HH,NC ih (by simpa [AG]using h)]
  |tup cs=>rw[KZ,NC ih (by simpa [AG]using h)]
  |ref cs=>rw[M2,NC ih (by simpa [AG]using h)]
  |list b es=>
   have h':(es.all fun e=>e.all (AG f))=true:=by simpa [AG]using h
   rw[EW]
   congr 1
   conv=>rhs;rw[<-cm es]
   exact bf fun e he=>NC ih (bh.1 h' e he)
  |fn g a b=>
   have h':a.all (AG f)=true/\b.all (AG f)=true:=by simpa [AG]using h
   rw[OX,NC ih h'.1,NC ih h'.2]
  |int k n=>simp
  |bool b=>simp
  |raw v=>simp
  |nil=>simp
  |any=>simp
  |_=>simp[AG]at h
def QP(ks:List Nat)(fr:Fr):Fr:=List.rec (motive:=fun _=>Fr) [] (fun k _ ih=>match BG fr k with
 |some (c,v)=>(k,c,v)::ih
 | none=>ih) ks
theorem cL(fr:Fr):∀(ks:List Nat),QP ks fr=OR ks fr
 |[]=>rfl
 |k::r=>by have:=cL fr r;show(match BG fr k with|some (c,v)=>(k,c,v)::QP r fr|none=>QP r fr)=OR (k::r) fr;rw[this,FE];rfl
theorem V8:∀(ks:List Nat),OR ks (fr.ren σ δ)=(OR ks fr).ren σ δ
 |[]=>rfl
 |k::r=>by
  simp only[OR,Fr.get_ren,V8 r];cases fr.get k with
  |none=>rfl
  |some p=>rfl
theorem V9{L:AA}:∀(ks:List Nat),I3 ks (L.ren σ δ)=(I3 ks L).ren σ δ
 |[]=>rfl
 |k::r=>by
  simp only[I3,AA.get_ren,V9 r];cases L.get k with
  |none=>rfl
  |some p=>rfl
def UN:List Nat->List Nat->List Nat
 |acc,[]=>acc
 |acc,k::r=>UN (cond (acc.any (bz k)) acc (k::acc)) r
def RH(ks ls:List Nat)(st:XS):XS:=⟨st.c,QP ks st.fr,⟨st.s.up,I3 ls st.s.loc⟩⟩
theorem AGQ{ks ls:List Nat}{st:XS}{l k:Nat}{x:Nat×AX}(h:(RH ks ls st).s.get l k=some x):st.s.get l k=some x:=by
 unfold St.get RH at h;unfold St.get;simp only at h;split at h
 ·rename_i e;rw[if_pos e];exact PO h
 ·rename_i e;rw[if_neg e];exact h
theorem UO{ks ls:List Nat}{st:XS}(h:Bd st):KM st (RH ks ls st):=by
 refine⟨bn _,⟨fun σ σ' δ ha=>?_,fun σ σ' pre ha=>?_,fun l k γ fr ps asg body N ls hg=>h.lp l k γ fr ps asg body N ls (AGQ hg)⟩,rfl⟩
 ·simp only[RH,cL,<-V8];rw[h.f σ σ' δ ha]
 ·have:=h.s σ σ' pre ha;simp only[St.emb,St.mk.injEq]at this;simp only[RH,St.emb,St.mk.injEq,<-V9];exact⟨this.1,by rw[this.2]⟩
theorem WA{n N:Nat}{ρ:Option Nat}{c:gv}{K:Exit->Fr->St->Prop}{ks ls:List Nat}{st:XS}(h:BE P n N ρ c K ((RH ks ls st).fr.ren σ pre.length) ((RH ks ls st).s.emb σ pre)):BE P n N ρ c K (st.fr.ren σ pre.length) (st.s.emb σ pre):=by
 refine AAV ks ls ?_;have e2:(⟨(st.s.emb σ pre).up,I3 ls (st.s.emb σ pre).loc⟩:St)=(RH ks ls st).s.emb σ pre:=by simp only[RH,St.emb,V9]
 rw[V8,e2,<-cL];exact h
abbrev eC:=gv->XS->Option (Exit×XS)
def QQ(P:fp)(E:XE)(l:List fh)(st:XS):Option XS:=ABI P E l (eX l) st
def A5W(P:fp)(E:XE)(l:List fh)(draw:Bool)(st:XS):Option XS:=Bool.rec (kB P E l l st)
 (match AT6 l with
  |[]=>QQ P E l st
  | ds=>QQ P E l (RH (UN [] (st.fr.map (·.1))) ((UN [] (st.s.loc.map (·.1))).filter fun k=>!(ds.any (bz k))) st)) draw
def PW(r:Option XS):Option (Exit×XS):=match r with
 |some st=>some (.normal,st)
 |none=>none
def eZ(rec:eC)(b:gv)(r:Option (Exit×XS)):Option (Exit×XS):=match r with
 |some (.normal,st')=>rec b st'
 |r=>r
def LG(id:Nat)(r:Option (Exit×XS)):Option (Exit×XS):=match r with
 |some (.exit i,st')=>Bool.rec (some (.exit i,st')) (some (.normal,st')) (bz i id)
 |r=>r
def pB(rec:eC)(a b:gv)(st:XS)(r:Option V):Option (Exit×XS):=match r with
 |some (.bool c)=>Bool.rec (rec b st) (rec a st) c
 |_=>none
def gW(rec:eC)(body:gv)(ks:List Nat)(n:Nat):XS->Option (Exit×XS):=Nat.rec (motive:=fun _=>XS->Option (Exit×XS)) (fun _=>none) (fun _ ih st=>match rec body (RH ks (UN [] (st.s.loc.map (·.1))) st)with
 |some (.normal,st')=>ih st'
 | r=>r) n
def BS:Nat:=1000000
def kF(fr:Fr)(n γ:Nat)(r:Option (V×XS)):Option (Exit×XS):=match r with
 |some (_,st)=>match st.s.get n BS with
  | some (γ',.loop _ _ _ _ _ ls)=>Bool.rec none (match ls with
   |.ready=>some (.normal,⟨st.c,fr,st.s.put n BS γ .dead⟩)
   |.left .ret=>some (.ret,⟨st.c,fr,st.s.put n BS γ .dead⟩)
   |.left (.exit id)=>some (.exit id,⟨st.c,fr,st.s.put n BS γ .dead⟩)
   | _=>none) (bz γ' γ&&cw γ st.c)
  |_=>none
 |none=>none
def WB(cf:CF)(N:Nat)(g:ft)(ps:List Tmp)(asg body:gv)(st:XS):Option (Exit×XS):=match CK st.fr g with
 |some (.fn f first cap)=>kF st.fr st.s.up.length st.c (cf f ((first++[V.yld st.s.up.length BS st.c]++cap).map weakV) ⟨st.c+1,st.fr,st.s.put st.s.up.length BS st.c (.loop st.fr ps asg body N .ready)⟩)
 |_=>none
def cM(P:fp)(E:XE)(n N:Nat)(rec:eC):eC:=fun code st=>match code with
 |.skip=>some (.normal,st)
 |.label _=>some (.normal,st)
 |.region _ ops draw=>PW (A5W P E ops.toList draw st)
 |.seq a b=>eZ rec b (rec a st)
 |.cond c a b=>pB rec a b st (CK st.fr c)
 |.block id body=>LG id (rec body st)
 |.loop body=>gW rec body (UN [] (st.fr.map (·.1))) n st
 |.exit id=>some (.exit id,st)
 |.ret=>some (.ret,st)
 |.scope body=>rec body st
 |.rangeFunc g ps asg body=>WB E.cf N g ps.toList asg body st
 |_=>none
abbrev HP:=Nat->eC
def ABJ(P:fp)(rs:List ResultVar)(st:XS):Option (V×Nat×List AA):=match GZ P rs st.fr st.s with
 |some r=>match A3 st.s 4 r with
  |some r'=>some (r',st.c,st.s.up.map (AH st.s))
  |none=>none
 |none=>none
def pC{α:Type}(rec:eC)(ret:XS->Option α)(code:gv)(st:XS):Option α:=match rec code st with
 |some (.ret,st')=>ret st'
 |some (.normal,st')=>ret st'
 |_=>none
def XQ{α:Type}(P:fp)(rec:HP)(ret:Func->XS->Option α)(f:gq)(args:List V)(c:Nat)(up:List AA):Option α:=match P.funcs[f]? with
 |some fn=>match fn.body with
  |some code=>Bool.rec none (pC (rec fn.ntmps) (ret fn) code ⟨c,AF 0 args,⟨up,[]⟩⟩) (dm args.length fn.ntmps)
  |none=>none
 |none=>none
def gX(P:fp)(rec:HP)(f:gq)(args:List V)(c:Nat)(up:List AA):Option (V×Nat×List AA):=XQ P rec (fun fn=>ABJ P fn.results.toList) f args c up
def E1(P:fp)(rec:HP):CF0:=fun f args=>Bool.rec none (match gX P rec f args 0 []with
 |some (r,_,_)=>Bool.rec none (some r) (AG 9 r)
 | none=>none) (args.all (AG 9))
def CE{α:Type}:List α->Option (List α×α)
 |[]=>none
 |[x]=>some ([],x)
 |x::r=>match CE r with
  |some (a,b)=>some (x::a,b)
  |none=>none
def AY(P:fp)(kn:CF0)(rec:HP):CF0:=fun f args=>match kn f args with
 |some r=>some r
 |none=>E1 P rec f args
def weakM:V->V
 |.nil=>.list false []
 |v=>v
def weakN:V->V
 |.nil=>.list false []
 |.agg cs=>.agg (cs.map weakM)
 |v=>v
theorem RepV.empty{G:Gh}{v:Value}(h:RepV G .nil v):RepV G (.list false []) v:=by cases h;exact .list false [] none 0 0 0 0 #[] 0 (0,0) (fun _ _=>undef) (by simp) (fun h=>by cases h) (fun h=>absurd rfl h) (fun i h=>absurd h (by simp)) (fun i h=>absurd h (by simp)) (fun i h=>absurd h (by simp))
theorem RepV.weakM{G:Gh}{x:V}{v:Value}(h:RepV G x v):RepV G (weakM x) v:=by cases x<;>first|exact h|exact h.empty
theorem kG(x:V):(weakM x).isCell=x.isCell:=by cases x<;>rfl
theorem RepV.weakN{G:Gh}{x:V}{v:Value}(h:RepV G x v):RepV G (weakN x) v:=by
 cases x with
 |nil=>exact h.empty
 |agg cs=>
  cases h with
  |agg _ arr hl hc hr=>
   refine .agg _ arr (by simpa using hl) (fun c hc'=>?_) (fun i h1 h2=>?_)
   ·obtain⟨d,hd,rfl⟩:=dj.1 hc';rw[kG];exact hc d hd
   ·simp only[List.getElem_map];exact(hr i (by simpa using h1) h2).weakM
 |_=>exact h
theorem RepA.weakN{G:Gh}{xs:List V}{vs:List Value}(h:RepA G xs vs):RepA G (xs.map Pg.weakN) vs :=
 ⟨by simpa using h.1,fun i h1 h2=>by simp only[List.getElem_map];exact(h.2 i (by simpa using h1) h2).weakN⟩
def FS(P:fp)(kn:CF0)(rec:HP):CF0:=fun f args=>match AY P kn rec f (args.map weakN)with
 |some r=>Bool.rec (AY P kn rec f args) (some r) (args.all (AG 9))
 |none=>AY P kn rec f args
def BF6(P:fp)(T:gk):Bool:=match P.underlying T with
 |some (.pointer _)=>true
 |_=>false
def BD(P:fp)(f:gq):Bool:=match P.funcs[f]? with
 |some fn=>fn.resultTypes.toList.any (BF6 P)
 |none=>false
def cN(P:fp)(kn:CF0)(rec:HP):CF:=fun f args st=>Bool.rec (match gX P rec f args st.c (st.s.up++[st.s.loc])with
 |some (r,c,up)=>match CE up with
  |some (u,l)=>some (r,⟨c,st.fr,⟨u,l⟩⟩)
  |none=>none
 | none=>none) (match FS P kn rec f args with
  |some r=>some (r,st)
  | none=>none) (args.all (AG 9)&&!(BD P f))
def tW(P:fp)(fn:Func)(st:XS):Option Mk:=match GZ P fn.results.toList st.fr st.s with
 | some (.vec l k γ n)=>Bool.rec none (match st.s.loc.get k with
  |some (γ',.vec T es)=>Bool.rec none (some ⟨.vec T es,none⟩) (bz γ' γ&&bz n es.length&&es.all fun e=>e.all (AG 9))
  | _=>none) (bz l st.s.up.length)
 | some v=>Bool.rec none (match fn.resultTypes.toList with
  |[R]=>match BV P R with
   |some (none,T)=>some ⟨.vec T [],none⟩
   |_=>none
  | _=>none) (X7 v)
 |none=>none
def IF(P:fp)(f:gq):Bool:=match P.funcs[f]? with
 |some fn=>match fn.resultTypes.toList with
  |[R]=>match BV P R with
   |some (none,_)=>true
   |_=>false
  |_=>false
 |none=>false
def HQ(P:fp)(rec:HP)(f:gq)(args:List V):Option Mk:=Bool.rec none (XQ P rec (tW P) f args 0 []) (args.all (AG 9))
def O1(P:fp)(kn:CF0)(ko:CFO)(rec:HP):CFO:=fun f args d=>match ko f args d with
 |some r=>some r
 | none=>Bool.rec (match FS P kn rec f args with
  |some r=>some ⟨.dead,some r⟩
  | none=>none) (HQ P rec f args) (IF P f)
def H2(s:St)(u:List AA)(l:AA):St:=⟨u.map (AH s),AH s l⟩
def RI(fr:Fr)(l q γ:Nat)(r:Option (Exit×XS)):Option (V×XS):=match r with
 |some (e,st)=>match st.s.get l q with
  | some (γ',.loop fr0 ps asg body N .busy)=>Bool.rec none (match CE st.s.up with
   |some (u,lc)=>match e with
    |.normal=>some (.bool true,⟨st.c,fr,(H2 st.s u lc).put l q γ (.loop fr0 ps asg body N .ready)⟩)
    |.ret=>some (.bool false,⟨st.c,fr,(H2 st.s u lc).put l q γ (.loop fr0 ps asg body N (.left .ret))⟩)
    |.exit id=>some (.bool false,⟨st.c,fr,(H2 st.s u lc).put l q γ (.loop fr0 ps asg body N (.left (.exit id)))⟩)
    |_=>none
   | none=>none) (bz γ' γ&&cw l st.s.up.length&&cw γ st.c)
  |_=>none
 |none=>none
def cO(rec:eC)(l q γ:Nat)(body:gv)(r:Option (Exit×XS)):Option (Exit×XS):=match r with
 |some (.normal,st)=>match st.s.get l q with
  |some (γ',.loop fr0 ps asg body' N .ready)=>Bool.rec none (rec body ⟨st.c,st.fr,st.s.put l q γ (.loop fr0 ps asg body' N .busy)⟩) (bz γ' γ&&cw γ st.c)
  |_=>none
 |_=>none
def fA(rec:HP):CY:=fun l q γ vs st=>match st.s.get l q with
 |some (γ',.loop fr0 ps asg body N .ready)=>Bool.rec none (RI st.fr l q γ (cO (rec N) l q γ body (rec N asg ⟨st.c,KX fr0 ps vs,⟨st.s.up++[st.s.loc],[]⟩⟩))) (bz γ' γ&&bz vs.length ps.length&&cw γ st.c)
 |_=>none
def A5X(P:fp)(kn:CF0)(ko:CFO)(lit:Tmp->Bool)(rec:HP):XE:=⟨cN P kn rec,fA rec,FS P kn rec,O1 P kn ko rec,lit⟩
def tX(fn:Func):Bool:=match fn.body with
 | some c => !(fn.name == "runtime.NumGoroutine") && EX fn.ntmps c
 |none=>true
structure EB(P:fp):Prop where
 all:P.funcs.toList.all tX=true
 mixed:P.follows .mixedOrders=true
def cP(P:fp)(N:Nat)(rec:eC):Prop:=∀code st e st',rec code st=some (e,st')->Bd st->EX N code=true->KM st st'/\(∀l,e≠.goto l) /\
 ∀(n:Nat) (ρ:Option Nat) (σ:Nat->Nat) (pre:List AA) (K:Exit->Fr->St->Prop),(ρ=none\/GH code=true)->(∀σ',AR st.c σ σ'->K e (st'.fr.ren σ' pre.length) (st'.s.emb σ' pre))->BE P n N ρ code K (st.fr.ren σ pre.length) (st.s.emb σ pre)
def cQ(P:fp)(rec:HP):Prop:=∀N,cP P N (rec N)
theorem O2{α:Type}:∀{l:List α} {u:List α} {x:α},CE l=some (u,x)->l=u++[x]
 |[],u,x,h=>by cases h
 |[y],u,x,h=>by cases h;rfl
 |y::z::r,u,x,h=>by
  simp only[CE]at h;split at h
  ·rename_i a b e;cases h;rw[O2 (l:=z::r) e];rfl
  ·cases h
theorem AGR{c:Nat}{args:List V}(h:∀v∈args,U8 c v)(σ σ':Nat->Nat)(δ:Nat)(ha:AR c σ σ'):(AF 0 args).ren σ δ=(AF 0 args).ren σ' δ:=by rw[<-PT,<-PT];congr 1;exact bf fun v hv=>h v hv σ σ' δ ha
theorem AUC{st:XS}(h:Bd st){rs:List ResultVar}{v r:V}(hv:GZ P rs st.fr st.s=some v)(hr:A3 st.s 4 v=some r):U8 st.c r:=by intro σ σ' δ ha;have q1:=OZ (σ:=σ) (pre:=bw δ []) hv;have q2:=OZ (σ:=σ') (pre:=bw δ []) hv;rw[h.f σ σ' _ ha,h.s σ σ' _ ha,q2]at q1;have q:=cq.inj q1;have r1:=J7 (σ:=σ) (pre:=bw δ []) 4 hr;have r2:=J7 (σ:=σ') (pre:=bw δ []) 4 hr;rw[h.s σ σ' _ ha,<-q,r2]at r1;have:=cq.inj r1;rw[bb]at this;exact this.symm
theorem HR(u:List AA)(l:AA)(i k:Nat):(⟨u,l⟩:St).get i k=match(u++[l])[i]? with
  |some L=>L.get k
  |none=>none:=by
 unfold St.get
 simp only
 by_cases h:i=u.length
 ·subst h;simp
 ·rw[if_neg h];rcases Nat.lt_or_ge i u.length with h'|h'
  ·rw[dv h'];rfl
  ·rw[dk h',dh h'];have:1<=i-u.length:=by omega
   rw[dh (by simpa using this)]
theorem tY(L:AA)(k g:Nat)(r:AX)(h:((AH s L).ren σ pre.length).get k=some (g,r)):∃r0,(L.ren σ pre.length).get k=some (g,r0)/\(r=r0\/r=HC (s.emb σ pre) r0):=by
 rw[AA.get_ren,M6]at h;rw[AA.get_ren];cases hL:L.get k with
 |none=>rw[hL]at h;cases h
 |some p=>
  rw[hL]at h
  cases h
  exact⟨p.2.ren σ pre.length,rfl,oQ p.2⟩
theorem gY{s:St}{F:List AA}{u u2:List AA}{l l2:AA}(h1:u++[l]=pre++F.map (AA.ren σ pre.length))(h2:u2++[l2]=pre++(F.map (AH s)).map (AA.ren σ pre.length)):AAN (s.emb σ pre) ⟨u,l⟩ ⟨u2,l2⟩:=by
 have hlen:u2.length=u.length:=by have a1:=congrArg dx h1;have a2:=congrArg dx h2;simp at a1 a2;omega
 refine⟨hlen,fun i k g r hg=>?_⟩;rw[HR,h2]at hg;rw[HR,h1];rcases Nat.lt_or_ge i pre.length with hi|hi
 ·rw[dv hi]at hg|-;exact⟨r,hg,.inl rfl⟩
 ·rw[dk hi]at hg|-;simp only[fc,List.getElem?_map]at hg|-;cases hF:F[i-pre.length]? with
  |none=>rw[hF]at hg;cases hg
  |some L=>
   rw[hF]at hg
   exact tY L k g r hg
theorem tZ{s:St}{c:Nat}(hs:∀σ σ' pre,AR c σ σ'->s.emb σ pre=s.emb σ' pre){r:AX}(hr:∀σ σ' δ,AR c σ σ'->r.ren σ δ=r.ren σ' δ)(σ σ':Nat->Nat)(δ:Nat)(ha:AR c σ σ'):(CG s r).ren σ δ=(CG s r).ren σ' δ:=by
 unfold CG;split
 ·rename_i r' h;have q1:=LD (σ:=σ) (pre:=bw δ []) h;have q2:=LD (σ:=σ') (pre:=bw δ []) h;rw[hs σ σ' _ ha]at q1;simp only[bb]at q1 q2;rw[hr σ σ' _ ha,q2]at q1;exact(cq.inj q1).symm
 ·exact hr σ σ' δ ha
theorem pD{L:AA}{δ:Nat}(σ σ':Nat->Nat):L.ren σ δ=L.ren σ' δ↔∀p∈L,σ p.2.1=σ' p.2.1/\p.2.2.ren σ δ=p.2.2.ren σ' δ:=by unfold AA.ren;rw[cg];simp only[fg.injEq,true_and]
theorem gZ{s:St}{c:Nat}(hs:∀σ σ' pre,AR c σ σ'->s.emb σ pre=s.emb σ' pre){L:AA}(hL:∀σ σ' δ,AR c σ σ'->L.ren σ δ=L.ren σ' δ)(σ σ':Nat->Nat)(δ:Nat)(ha:AR c σ σ'):(AH s L).ren σ δ=(AH s L).ren σ' δ:=by rw[pD];intro p hp;obtain⟨x,hx,rfl⟩:=dj.1 hp;have h1:∀σ σ' δ,AR c σ σ'->σ x.2.1=σ' x.2.1/\x.2.2.ren σ δ=x.2.2.ren σ' δ:=fun σ σ' δ ha=>(pD σ σ').1 (hL σ σ' δ ha) x hx;exact⟨(h1 σ σ' δ ha).1,tZ hs (fun σ σ' δ ha=>(h1 σ σ' δ ha).2) σ σ' δ ha⟩
theorem AGS{s:St}{c:Nat}(hs:∀σ σ' pre,AR c σ σ'->s.emb σ pre=s.emb σ' pre):∀L∈s.up,∀σ σ' δ,AR c σ σ'->L.ren σ δ=L.ren σ' δ:=by intro L hL σ σ' δ ha;have:=hs σ σ' (bw δ []) ha;simp only[St.emb,St.mk.injEq,bb]at this;exact cg.1 (dz this.1) L hL
theorem hH(s:St)(L:AA){k γ:Nat}{fr:Fr}{ps:List Tmp}{asg body:gv}{N:Nat}{st:LS}(h:(AH s L).get k=some (γ,.loop fr ps asg body N st)):L.get k=some (γ,.loop fr ps asg body N st):=by
 rw[M6]at h;cases hL:L.get k with
 |none=>rw[hL]at h;cases h
 |some p=>
  rw[hL]at h
  simp only[bq,cq.injEq,fg.injEq]at h
  obtain⟨h1,h2⟩:=h
  obtain⟨g,r⟩:=p
  simp only at h1 h2
  subst h1
  congr 2
  cases r with
  |loop=>exact h2
  |box cs=>unfold CG at h2;split at h2<;>rename_i e<;>simp only[CA]at e<;>(try (split at e<;>cases e))<;>cases h2
  |vec T es=>unfold CG at h2;split at h2<;>rename_i e<;>simp only[CA]at e<;>(try (split at e<;>cases e))<;>cases h2
  |map es=>unfold CG at h2;split at h2<;>rename_i e<;>simp only[CA]at e<;>(try (split at e<;>cases e))<;>cases h2
  |dead=>unfold CG at h2;split at h2<;>rename_i e<;>simp only[CA]at e<;>cases e;cases h2
def FX(P:fp)(f:gq)(args:List V)(c:Nat)(up:List AA)(r:V)(c':Nat)(up':List AA):Prop:=c<=c'/\U8 c' r/\(∀σ σ' δ,AR c' σ σ'->up'.map (AA.ren σ δ)=up'.map (AA.ren σ' δ))/\up'.length=up.length /\
  (∀L∈up',∀k γ fr ps asg body N st,L.get k=some (γ,.loop fr ps asg body N st)->UI N ps asg body=true) /\
  ∀(σ:Nat->Nat) (pre:List AA) (s:St) (K:V->St->Prop),s.up++[s.loc]=pre++up.map (AA.ren σ pre.length)->(∀σ' u l,AR c σ σ'->u++[l]=pre++up'.map (AA.ren σ' pre.length)->K (r.ren σ' pre.length) ⟨u,l⟩)->FL P f (args.map (V.ren σ pre.length)) s K
theorem cR(hP:EB P){rec:HP}(hrec:cQ P rec){α:Type}{ret:Func->XS->Option α}{f:gq}{args:List V}{c:Nat}{up:List AA}{x:α}(hx:XQ P rec ret f args c up=some x)(hargs:∀v∈args,U8 c v)
  (hup:∀σ σ' δ,AR c σ σ'->up.map (AA.ren σ δ)=up.map (AA.ren σ' δ)) (hlp:∀L∈up,∀k γ fr ps asg body N st,L.get k=some (γ,.loop fr ps asg body N st)->UI N ps asg body=true) :
  ∃fn st',ret fn st'=some x/\Bd st'/\c<=st'.c/\st'.s.up.length=up.length/\∀(σ:Nat->Nat) (pre:List AA) (s:St) (K:V->St->Prop),s.up++[s.loc]=pre++up.map (AA.ren σ pre.length) ->
   (∀σ',AR c σ σ'->AT1 P fn.results.toList (s.up.length+1) K .ret (st'.fr.ren σ' pre.length) (st'.s.emb σ' pre))->FL P f (args.map (V.ren σ pre.length)) s K:=by
 unfold XQ at hx
 split at hx
 ·rename_i fn hf;split at hx
  ·rename_i code hb;obtain⟨hsz,hx1⟩:=EJ hx;have hck:tX fn=true:=bh.1 hP.all fn (by
    have:=Array.mem_of_getElem? hf;simpa using this)
   simp only[tX,hb,bx,fx]at hck;have hbd:Bd ⟨c,AF 0 args,⟨up,[]⟩⟩:=⟨fun σ σ' δ ha=>AGR hargs σ σ' δ ha,fun σ σ' pre ha=>by simp only[St.emb,hup σ σ' _ ha]; rfl,fun l k γ fr ps asg body N st hg=>by
    rw[HR]at hg;split at hg
    ·rename_i L hL;rcases dp.1 (fj hL)with hm|hm
     ·exact hlp L hm _ _ _ _ _ _ _ _ hg
     ·have:L=[]:=by simpa using hm
      subst this;simp at hg
    ·cases hg⟩
   have main:∀e st',rec fn.ntmps code ⟨c,AF 0 args,⟨up,[]⟩⟩=some (e,st')->(e=.ret\/e=.normal)->ret fn st'=some x->∃fn st',ret fn st'=some x/\Bd st'/\c<=st'.c/\st'.s.up.length=up.length/\∀(σ:Nat->Nat) (pre:List AA) (s:St) (K:V->St->Prop),s.up++[s.loc]=pre++up.map (AA.ren σ pre.length) ->
     (∀σ',AR c σ σ'->AT1 P fn.results.toList (s.up.length+1) K .ret (st'.fr.ren σ' pre.length) (st'.s.emb σ' pre))->FL P f (args.map (V.ren σ pre.length)) s K:=by
    intro e st' h1 he h2
    obtain⟨hE,_,hC⟩:=hrec _ _ _ _ _ h1 hbd hck.2
    refine⟨fn,st',h2,hE.bd,hE.c,hE.n,fun σ pre s K hs hk=>?_⟩
    refine A5P hf hb (nW hf hb hck.1) (by simpa using hsz) ?_
    have e1:(⟨s.up++[s.loc],[]⟩:St)=(⟨up,[]⟩:St).emb σ pre:=by simp only[St.emb,hs];rfl
    rw[PT,e1]
    refine hC _ none σ pre _ (.inl rfl) fun σ' ha=>?_
    have:=hk σ' ha
    rcases he with rfl|rfl<;>exact this
   unfold pC at hx1;split at hx1
   ·rename_i st' h1;exact main _ _ h1 (.inl rfl) hx1
   ·rename_i st' h1;exact main _ _ h1 (.inr rfl) hx1
   ·cases hx1
  ·cases hx
 ·cases hx
theorem pE(hP:EB P){rec:HP}(hrec:cQ P rec){f:gq}{args:List V}{c:Nat}{up:List AA}{r:V}{c':Nat}{up':List AA}(hx:gX P rec f args c up=some (r,c',up'))(hargs:∀v∈args,U8 c v)
  (hup:∀σ σ' δ,AR c σ σ'->up.map (AA.ren σ δ)=up.map (AA.ren σ' δ)) (hlp:∀L∈up,∀k γ fr ps asg body N st,L.get k=some (γ,.loop fr ps asg body N st)->UI N ps asg body=true):FX P f args c up r c' up':=by
 obtain⟨fn,st',hret,hbd,hc,hlen,hA⟩:=cR hP hrec hx hargs hup hlp
 unfold ABJ at hret
 split at hret
 ·rename_i r0 hr0;split at hret
  ·rename_i r1 hr1;cases hret;refine⟨hc,AUC hbd hr0 hr1,fun σ σ' δ ha=>?_,by simpa using hlen,fun L hL k γ fr ps asg body N st hg=>?_,fun σ pre s K hs hk=>hA σ pre s K hs fun σ' ha=>?_⟩
   ·simp only[fc];exact bf fun L hL=>gZ hbd.s (AGS hbd.s L hL) σ σ' δ ha
   ·obtain⟨L0,hL0,rfl⟩:=dj.1 hL;have hg:=hH _ _ hg;obtain⟨i,hi,rfl⟩:=List.getElem_of_mem hL0;refine hbd.lp i k γ fr ps asg body N st ?_;unfold St.get;rw[if_neg (by omega),List.getElem?_eq_getElem hi];exact hg
   ·have hl2:(st'.s.emb σ' pre).up.length=s.up.length+1:=by have q:=congrArg dx hs;simp only[cd,cn,bp]at q;rw[DA,hlen];omega
    rcases dl (st'.s.emb σ' pre).up with h0|⟨u,l,h0⟩
    ·rw[h0]at hl2;simp at hl2
    ·have h0:(st'.s.emb σ' pre).up=u++[l]:=by simpa using h0
     have hu:u.length+1=s.up.length+1:=by rw[<-hl2,h0];simp
     have hcl:=OY 4 (J7 (σ:=σ') (pre:=pre) 4 hr1);have hres:=OZ (σ:=σ') (pre:=pre) hr0;rcases dl (pre++(st'.s.up.map (AH st'.s)).map (AA.ren σ' pre.length))with h3|⟨u2,l2,h3⟩
     ·have h4:=congrArg dx h3;have h5:=congrArg dx h0;simp only[St.emb,cd,bp,List.length_nil,cn]at h4 h5;omega
     ·have h3:pre++(st'.s.up.map (AH st'.s)).map (AA.ren σ' pre.length)=u2++[l2]:=by simpa using h3
      have hK:=hk σ' u2 l2 ha h3.symm;have hS:=gY (s:=st'.s) (F:=st'.s.up) (u:=u) (l:=l) (u2:=u2) (l2:=l2) (σ:=σ') (pre:=pre) h0.symm h3.symm;exact⟨u,l,_,h0,hu,hres,.inl ⟨_,_,by rw[hcl];exact Wk.refl _,hS,hK⟩⟩
  ·cases hret
 ·cases hret
theorem WC{c:Nat}{args:List V}(h:args.all (AG 9)=true):∀v∈args,U8 c v:=fun v hv σ σ' δ _=>by rw[EN 9 v (bh.1 h v hv),EN 9 v (bh.1 h v hv)]
theorem cS(hP:EB P){rec:HP}(hrec:cQ P rec):HL P (E1 P rec):=by
 intro f args r hx;unfold E1 at hx;obtain⟨hcl,hx1⟩:=EJ hx;split at hx1
 ·rename_i r0 c' up' h1;obtain⟨hr,rfl⟩:=JU hx1;obtain⟨_,_,_,hlen,_,hA⟩:=pE hP hrec h1 (WC hcl) (fun _ _ _ _=>rfl) (fun L hL=>by cases hL);have hargs:∀v∈args,∀σ δ,V.ren σ δ v=v:=fun v hv σ δ=>EN 9 v (bh.1 hcl v hv);have hup:up'=[]:=cp hlen;refine⟨fun s=>?_,hargs,fun σ δ=>EN 9 _ hr⟩;have:=hA id (s.up++[s.loc]) s (fun r' s'=>r'=r0/\s'=s) (by simp) fun σ' u l _ hu=>?_
  ·have e:args.map (V.ren id (s.up++[s.loc]).length)=args:=by
    conv=>rhs;rw[<-cm args]
    exact bf fun v hv=>hargs v hv _ _
   rw[e]at this;exact this
  ·rw[hup]at hu;simp only[ct,List.append_nil]at hu;obtain⟨e1,e2⟩:=dc hu rfl;refine⟨EN 9 _ hr,?_⟩;subst e1;simp only[List.cons.injEq,and_true]at e2;subst e2;rfl
 ·cases hx1
theorem cT(hP:EB P){kn:CF0}(hkn:HL P kn){rec:HP}(hrec:cQ P rec):HL P (AY P kn rec):=by
 intro f args r hx;unfold AY at hx;split at hx
 ·rename_i r0 h0;cases hx;exact hkn _ _ _ h0
 ·exact cS hP hrec _ _ _ hx
theorem cU(hP:EB P){kn:CF0}(hkn:HL P kn){rec:HP}(hrec:cQ P rec):HL P (FS P kn rec):=by
 intro f args r hx;unfold FS at hx;split at hx
 ·rename_i r0 h0;cases hcl:args.all (AG 9)with
  |false=>rw[hcl]at hx;exact cT hP hkn hrec _ _ _ hx
  |true=>
   rw[hcl]at hx
   cases hx
   obtain⟨hA,_,h2⟩:=cT hP hkn hrec _ _ _ h0
   exact⟨fun s=>⟨(hA s).1,fun G vals w R hI ha hR=>(hA s).2 G vals w R hI ha.weakN hR⟩,fun v hv σ δ=>EN 9 v (bh.1 hcl v hv),h2⟩
 ·exact cT hP hkn hrec _ _ _ hx
theorem handed(hP:EB P){rec:HP}(hrec:cQ P rec){f:gq}{args:List V}{ret:Func->XS->Option Mk}{r:Mk}{d:Tmp}(hcl:args.all (AG 9)=true)(hx:XQ P rec ret f args 0 []=some r)
  (hr:∀(fn:Func) (st':XS),ret fn st'=some r->st'.s.up=[]->∀(s:St) (σ':Nat->Nat),∃r0,GZ P fn.results.toList (st'.fr.ren σ' (s.up++[s.loc]).length) (st'.s.emb σ' (s.up++[s.loc]))=some r0 /\
   ((∃k γ T es,(st'.s.emb σ' (s.up++[s.loc])).loc.get k=some (γ,.vec T es)/\mvV (s.up.length+1) k s.up.length d 4 r0=r.val s.up.length d γ/\r.res=.vec T es)\/(∃T,X7 r0=true/\r=⟨.vec T [],none⟩)))
  (s:St):FL P f args s fun v s'=>∃γ,v=r.val s.up.length d γ/\s'=s.put s.up.length d γ r.res:=by
 obtain⟨fn,st',hret,hbd,hc,hlen,hA⟩:=cR hP hrec hx (WC hcl) (fun _ _ _ _=>rfl) (fun L hL=>by cases hL)
 have hargs:∀v∈args,∀σ δ,V.ren σ δ v=v:=fun v hv σ δ=>EN 9 v (bh.1 hcl v hv)
 have hup:st'.s.up=[]:=cp hlen
 have:=hA id (s.up++[s.loc]) s (fun v s'=>∃γ,v=r.val s.up.length d γ/\s'=s.put s.up.length d γ r.res) (by simp) fun σ' _=>?_
 ·have e:args.map (V.ren id (s.up++[s.loc]).length)=args:=by
   conv=>rhs;rw[<-cm args]
   exact bf fun v hv=>hargs v hv _ _
  rw[e]at this;exact this
 ·obtain⟨r0,h1,h2⟩:=hr fn st' hret hup s σ';refine⟨s.up,s.loc,r0,by simp[St.emb,hup],rfl,h1,.inr ?_⟩;rcases h2 with⟨k,γ,T,es,h3,h4,h5⟩|⟨T,h3,h4⟩
  ·exact .inl ⟨k,γ,T,es,d,h3,γ,h4,by rw[h5]⟩
  ·subst h4;exact .inr ⟨d,T,h3,fun γ=>⟨γ,rfl,rfl⟩⟩
theorem ABK(hP:EB P){rec:HP}(hrec:cQ P rec){f:gq}{args:List V}{r:Mk}{d:Tmp}(hx:HQ P rec f args=some r) :
  (∀(s:St),FL P f args s fun v s'=>∃γ,v=r.val s.up.length d γ/\s'=s.put s.up.length d γ r.res)/\(∀v∈args,∀σ δ,v.ren σ δ=v)/\(∀σ δ,r.res.ren σ δ=r.res)/\gO r.res=true:=by
 unfold HQ at hx
 obtain⟨hcl,hx1⟩:=EJ hx
 have hargs:∀v∈args,∀σ δ,V.ren σ δ v=v:=fun v hv σ δ=>EN 9 v (bh.1 hcl v hv)
 have main:∀(fn:Func) (st':XS),tW P fn st'=some r->((∀σ δ,r.res.ren σ δ=r.res)/\gO r.res=true)/\(st'.s.up=[]->∀(s:St) (σ':Nat->Nat),∃r0,GZ P fn.results.toList (st'.fr.ren σ' (s.up++[s.loc]).length) (st'.s.emb σ' (s.up++[s.loc]))=some r0 /\
   ((∃k γ T es,(st'.s.emb σ' (s.up++[s.loc])).loc.get k=some (γ,.vec T es)/\mvV (s.up.length+1) k s.up.length d 4 r0=r.val s.up.length d γ/\r.res=.vec T es)\/(∃T,X7 r0=true/\r=⟨.vec T [],none⟩))):=by
  intro fn st' hret
  unfold tW at hret
  split at hret
  ·rename_i l k γ n hres;obtain⟨hl,hret⟩:=EJ hret;have hl:=bj hl;split at hret
   ·rename_i γ' T es hget;obtain⟨hc2,he⟩:=JU hret;cases he;simp only[bx]at hc2;obtain⟨⟨h1,h2⟩,h3⟩:=hc2;have h1:=bj h1;have h2:=bj h2;subst h1;subst h2;have hes:∀σ δ,es.map (bt (V.ren σ δ))=es:=fun σ δ=>by
     conv=>rhs;rw[<-cm es]
     exact bf fun e he=>NC (fun v=>EN 9 v) (bh.1 h3 e he)
    refine⟨⟨fun σ δ=>by simp only[AX.ren,hes],rfl⟩,fun hup s σ'=>⟨_,OZ hres,.inl ⟨k,σ' γ',T,es,?_,?_,rfl⟩⟩⟩
    ·rw[K0,hget];simp only[bq,AX.ren,hes]
    ·rw[hup]at hl;subst hl;simp[mvV,Mk.val,HD]
   ·cases hret
  ·rename_i v hnv hres;obtain⟨hn,hret⟩:=EJ hret;split at hret
   ·split at hret
    ·rename_i T _;cases hret;exact⟨⟨fun _ _=>rfl,rfl⟩,fun hup s σ'=>⟨_,OZ hres,.inr ⟨_,by rw[AGG];exact hn,rfl⟩⟩⟩
    ·cases hret
   ·cases hret
  ·cases hret
 obtain⟨fn,st',hret,_⟩:=cR hP hrec hx1 (WC hcl) (fun _ _ _ _=>rfl) (fun L hL=>by cases hL)
 exact⟨handed hP hrec hcl hx1 fun fn st' h=>(main fn st' h).2,hargs,(main fn st' hret).1⟩
theorem CO.nought{G:Gh}{s:St}{w:World}(hI:CO G s w)(d γ:Nat):CO G (s.put s.up.length d γ .dead) w:=by
 have look:∀{l k x},(s.put s.up.length d γ .dead).get l k=some x->x=(γ,.dead)\/s.get l k=some x:=fun {l k x} h=>by
  rw[St.get_putLoc]at h;split at h
  ·exact .inl (cq.inj h).symm
  ·exact .inr h
 refine⟨hI.sl,fun l k g r h=>?_,fun l k g r l' k' g' r' b h1 h2 h3 h4=>?_,fun l k g r b h1 h2=>?_,hI.fresh,hI.env⟩
 ·rcases look h with e|e
  ·cases e;trivial
  ·exact hI.res _ _ _ _ e
 ·rcases look h1 with e|e1
  ·cases e;cases h3
  ·rcases look h2 with e|e2
   ·cases e;cases h4
   ·exact hI.sep _ _ _ _ _ _ _ _ _ e1 e2 h3 h4
 ·rcases look h1 with e|e
  ·cases e;cases h2
  ·exact hI.out _ _ _ _ _ e h2
theorem AGT(hP:EB P){kn:CF0}(hkn:HL P kn){ko:CFO}(hko:tS P ko){rec:HP}(hrec:cQ P rec):tS P (O1 P kn ko rec):=by
 intro f args d r hx;unfold O1 at hx;split at hx
 ·rename_i r0 h0;cases hx;exact hko _ _ _ _ h0
 ·cases hs:IF P f with
  |true=>
   rw[hs]at hx
   exact ABK hP hrec hx
  |false=>
   rw[hs]at hx
   have hx:(match FS P kn rec f args with
    |some r=>some (⟨.dead,some r⟩:Mk)
    | none=>none)=some r:=hx
   split at hx
   ·rename_i r0 h0;cases hx;obtain⟨hA,h1,h2⟩:=cU hP hkn hrec _ _ _ h0;refine⟨fun s=>⟨(hA s).1,fun G vals w R hI ha hR=>(hA s).2 G vals w R hI ha fun G' v u w' s' hle hI' hv hlen hk=>?_⟩,h1,fun _ _=>rfl,rfl⟩;obtain⟨rfl,rfl⟩:=hk;exact hR G' _ u w' (s'.put s'.up.length d 0 .dead) hle (hI'.nought d 0) hv (St.put_len _ _ _ _ _) ⟨0,(h2 _ _).symm,rfl⟩
   ·cases hx
theorem AGU(hP:EB P){kn:CF0}(hkn:HL P kn){rec:HP}(hrec:cQ P rec):gT P (cN P kn rec):=by
 intro f args st r st' hx hbd hargs;unfold cN at hx;cases hcl:(args.all (AG 9)&&!(BD P f))with
 |true=>
  rw[hcl]at hx
  have hx:(match FS P kn rec f args with|some r=>some (r,st)|none=>none)=some (r,st'):=hx
  split at hx
  ·rename_i r0 h0;cases hx;obtain⟨hA,h1,h2⟩:=cU hP hkn hrec _ _ _ h0;refine⟨⟨bn _,hbd,rfl⟩,fun σ σ' δ _=>by rw[h2,h2],rfl,fun σ pre K hk=>?_⟩;have e:args.map (V.ren σ pre.length)=args:=by
    conv=>rhs;rw[<-cm args]
    exact bf fun v hv=>h1 v hv _ _
   rw[e];refine(hA (st.s.emb σ pre)).mono fun r' s' q5=>?_;obtain⟨rfl,rfl⟩:=q5;have:=hk σ (AR.refl _ _);rwa [h2]at this
  ·cases hx
 |false=>
  rw[hcl]at hx
  have hx:(match gX P rec f args st.c (st.s.up++[st.s.loc])with
   |some (r,c,up)=>match CE up with
    |some (u,l)=>some (r,(⟨c,st.fr,⟨u,l⟩⟩:XS))
    |none=>none
   | none=>none)=some (r,st'):=hx
  split at hx
  ·rename_i r0 c0 up0 h1;split at hx
   ·rename_i u l hu;cases hx;have hup0:=O2 hu;have hsb:∀σ σ' δ,AR st.c σ σ'->(st.s.up++[st.s.loc]).map (AA.ren σ δ)=(st.s.up++[st.s.loc]).map (AA.ren σ' δ):=by intro σ σ' δ ha;have:=hbd.s σ σ' (bw δ []) ha;simp only[St.emb,St.mk.injEq,bb]at this;simp only[bc,dq,ct];rw[dz this.1,this.2]
    have hlp:∀L∈st.s.up++[st.s.loc],∀k γ fr ps asg body N st,L.get k=some (γ,.loop fr ps asg body N st)->UI N ps asg body=true:=by intro L hL k γ fr ps asg body N ls hg;obtain⟨i,hi⟩:=List.getElem?_of_mem hL;refine hbd.lp i k γ fr ps asg body N ls ?_;have:=HR st.s.up st.s.loc i k;rw[hi]at this;exact this.trans hg
    obtain⟨hc,hrb,hub,hlen,hlp',hA⟩:=pE hP hrec h1 hargs hsb hlp;subst hup0;refine⟨⟨hc,⟨fun σ σ' δ ha=>hbd.f σ σ' δ (ha.mono hc),fun σ σ' pre ha=>?_,fun i k γ fr ps asg body N ls hg=>?_⟩,?_⟩,hrb,rfl,fun σ pre K hk=>?_⟩
    ·have:=hub σ σ' pre.length ha;simp only[bc,dq,ct]at this;obtain⟨e1,e2⟩:=dc this rfl;simp only[List.cons.injEq,and_true]at e2;simp only[St.emb,e1,e2]
    ·rw[HR]at hg;split at hg
     ·rename_i L hL;exact hlp' L (fj hL) _ _ _ _ _ _ _ _ hg
     ·cases hg
    ·simp only[cd,cn]at hlen;simp only;omega
    ·refine hA σ pre (st.s.emb σ pre) K (by simp[St.emb]) fun σ' u' l' ha hu'=>?_;have:=hk σ' ha;simp only[bc,dq,ct,<-List.append_assoc]at hu';obtain⟨e1,e2⟩:=dc hu' rfl;simp only[List.cons.injEq,and_true]at e2;subst e1;subst e2;exact this
   ·cases hx
  ·cases hx
end Go.Pg
