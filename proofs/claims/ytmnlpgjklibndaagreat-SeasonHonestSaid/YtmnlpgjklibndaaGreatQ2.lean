/- A row is read as a list by one call that gives a number or a bool; it stays a row. No program in sight. -/
import Derived.Test.YtmnlpgjklibndaaGreatQa
noncomputable section
open Go renaming Oper->fh,Program->fp,World->ft,TypeId->gk,Value->gv,FuncId->gw
open Bool renaming and_eq_true->bj
open Nat renaming eq_of_beq_eq_true->bq,le_refl->bf,blt->bh,beq->bn,lt_of_lt_of_le->bp,lt_or_ge->br,beq_refl->cg,le_trans->dv,zero_add->dh,blt_eq->fq
open Array renaming getElem?_eq_some_iff->bw,getElem?_eq_none->cd
open List renaming getElem?_eq_some_iff->bx,all_eq_true->bz,map_congr_left->bc,getElem?_eq_getElem->bg,map_cons->bt,getElem_map->cj,mem_filterMap->ck,eq_nil_iff_forall_not_mem->cq,map_map->cx,map_inj_left->cz,getElem?_modify->cm,map_flatten->cp,length_drop->cr,mem_map_of_mem->dj,mem_map->dk,append_cancel_left_eq->dq,length_erase_of_mem->dw,replicate->dx,take_of_length_le->db,getElem_cons_zero->dc,getElem_cons_succ->df,take_append_drop->dl,mem_erase_of_ne->dp,nodup_cons->dr,mem_append->dt,getElem?_of_mem->fj,range->fk,mem_cons->fw,cons->ff
open Option renaming isNone_iff_eq_none->dz,map_some->dg,map_eq_map->dm,map_eq_some_iff->dn,some->fx,bind_some->fc
open Prod renaming mk->fg
namespace Go.Pg
variable {P:fp}{σ σ':Nat->Nat}{δ:Nat}{pre:List AA}{s:St}{fr:Fr}{G G':Gh}{w:ft}
def P7(st:XS):List Nat->V->V
 |[],v=>v
 |k::ks,v=>P7 st ks (cond (bh k 10000) (BH st.s.up.length k (st.s.loc.get k) 3 v) (BH (k / 10000-1) (k % 10000) (st.s.get (k / 10000-1) (k % 10000)) 3 v))
def fR:V->Bool
 |.int ..=>true
 |.bool _=>true
 |_=>false
def Y0:V->Bool
 |.int ..=>true
 |.bool _=>true
 |.agg cs=>cs.all fR
 |_=>false
def lW(cf:CF)(c0:CF0)(ks:List Nat):CF:=fun f args st=>match c0 f (args.map (P7 st ks))with
 |some r=>Bool.rec (cf f args st) (some (r,st)) (Y0 r)
 |none=>cf f args st
def cfU(ks:List Nat)(E:XE):XE:=match ks with
 |[]=>E
 |_::_=>⟨lW E.cf E.c0 ks,E.cy,E.c0,E.co,E.lit⟩
def ADW(G:Gh)(w:ft)(b:Nat):Option Obj:=if (G.mm b).isSome=true then none else w.heap[b]?
def aQ(G:Gh)(w:ft):Gh:={ sl:=ADW G w,be:=G.be,env:=G.env,mm:=G.mm }
def AIN(G:Gh)(w:ft):Gh:={ sl:=ADW G w,be:=G.be,env:=(w.os,w.output,w.heap.size),mm:=G.mm }
theorem WI{b:Nat}(h:G.mm b=none):ADW G w b=w.heap[b]?:=if_neg (by rw[h];exact Bool.false_ne_true)
theorem uF(hI:CB G s w){b:Nat}{o:Obj}(h:G.sl b=some o):G.mm b=none:=by
 cases hm:G.mm b with
 |none=>rfl
 |some d=>rw[hI.me.sl b d hm]at h;cases h
theorem fS(hI:CB G s w):G.le (aQ G w):=⟨fun b o h=>(WI (uF hI h)).trans (hI.sl b o h),fun _ _ h=>h,rfl,fun _ _ h=>h⟩
theorem ADX:(aQ G w).lec (AIN G w):=⟨fun _ _ _ _ h=>h,fun _ _ h=>h,fun _ _ h=>h⟩
theorem ADY(hI:CB G s w):CB (AIN G w) ⟨[],[]⟩ w where
 sl b o h:=by
  have h:ADW G w b=some o:=h;unfold ADW at h;split at h
  ·cases h
  ·exact h
 me:=⟨fun b d h=>(hI.me.at' b d h).any,hI.me.lt,fun l k g r b h=>(by simp[St.get]at h),fun b d h=>if_pos (by rw[show G.mm b=some d from h];rfl)⟩
 res l k g r h:=by simp[St.get]at h
 sep l k g r l' k' g' r' b h:=by simp[St.get]at h
 out l k g r b h:=by simp[St.get]at h
 fresh:=hI.fresh
 env:=⟨rfl,rfl,bf _,fun b c T fz h1 h2=>by
  have h3:=(bw.1 h2).1;have h4:w.heap.size<=b:=h1;omega⟩
theorem ADZ{l k g n:Nat}{v:gv}(h:RepV (aQ G w) (.vec l k g n) v):RepV G (.vec l k g n) v:=by
 cases h with
 |vec _ _ _ _ b sz C a h1 h2 h3=>exact .vec _ _ _ _ b sz C a h1 h2 h3
theorem AD0{l k g n:Nat}{v:gv}(h:RepV (aQ G w) (.ptr l k g n) v):RepV G (.ptr l k g n) v:=by
 cases h with
 |ptr _ _ _ _ b sz C h1=>exact .ptr _ _ _ _ b sz C h1
theorem cS{st:XS}(hI:CB G (st.s.emb σ pre) w)(l k:Nat):QX (aQ G w) (aQ G w) σ pre.length l k (st.s.get l k):=by
 refine⟨fun γ T es ho v hv=>?_,fun γ cs ho off v hv=>?_⟩
 ·have hget:(st.s.emb σ pre).get (l+pre.length) k=some (σ γ,.vec T (es.map (List.map (V.ren σ pre.length)))):=by rw[BP,ho];rfl
  have:=K2 hI (fS hI) hget (m:=es.length) (by simp) (fun _ e=>WI (hI.me.ow _ _ _ _ _ hget e)) (ADZ hv);rwa [db (by simp)]at this
 ·have hget:(st.s.emb σ pre).get (l+pre.length) k=some (σ γ,.box (cs.map (V.ren σ pre.length))):=by rw[BP,ho];rfl
  rw[O8];exact jS hI (fS hI) hget (fun _ e=>WI (hI.me.ow _ _ _ _ _ hget e)) (AD0 hv)
theorem qZ{st:XS}(hI:CB G (st.s.emb σ pre) w)(k:Nat):QX (aQ G w) (aQ G w) σ pre.length st.s.up.length k (st.s.loc.get k):=by have:=cS hI st.s.up.length k;rwa [WA]at this
theorem T4{st:XS}(hI:CB G (st.s.emb σ pre) w):∀(ks:List Nat) (x:V) (v:gv),RepV (aQ G w) (x.ren σ pre.length) v->RepV (aQ G w) ((P7 st ks x).ren σ pre.length) v
 |[],_,_,h=>h
 |k::ks,x,v,h=>by
  unfold P7;cases bh k 10000 with
  |true=>exact T4 hI ks _ v (OB (Gh.le_refl _) (qZ hI k) 3 x v h)
  |false=>exact T4 hI ks _ v (OB (Gh.le_refl _) (cS hI _ _) 3 x v h)
theorem AD1{s':St}{w':ft}(hI:CB G s w)(hle:(AIN G w).le G')(hI':CB G' s' w'):CB G s w':=by
 have he:G'.env=(w.os,w.output,w.heap.size):=hle.e;obtain⟨h1,h2,h3,h4⟩:=hI'.env;rw[he]at h1 h2 h3 h4;have hold:∀i,i<w.heap.size->G.mm i=none->w'.heap[i]? = w.heap[i]?:=fun i hi hm=>by have:=hI'.sl i w.heap[i] (hle.1 i _ ((WI hm).trans (show w.heap[i]? = some w.heap[i] by simp[hi])));rw[this];simp[hi]
 obtain⟨e1,e2,e3,e4⟩:=hI.env;refine⟨fun b o h=>?_,fun l k g r h=>(hI.res l k g r h).keep (Gh.le_refl _) fun b hb=>hold b (hI.out _ _ _ _ _ h hb).2 (hI.me.ow _ _ _ _ _ h hb),hI.sep,fun l k g r b h hb=>⟨(hI.out _ _ _ _ _ h hb).1,bp (hI.out _ _ _ _ _ h hb).2 h3⟩,hI.fresh,⟨h1.trans e1,h2.trans e2,dv e3 h3,fun b c T fz hb hc=>?_⟩,⟨fun b d hb=>?_,fun b d hb=>bp (hI.me.lt b d hb) h3,hI.me.ow,hI.me.sl⟩⟩
 ·have hm:=uF hI h;have h:=hI.sl b o h;rw[hold b (bw.1 h).1 hm];exact h
 ·rcases br b w.heap.size with hl|hl
  ·cases hm:G.mm b with
   |none=>
    rw[hold b hl hm]at hc
    exact e4 b c T fz hb hc
   |some d=>
    obtain⟨arr,clock,_,e,_⟩:=hI'.me.at' b d (hle.m b d hm)
    rw[e]at hc
    cases hc
  ·exact h4 b c T fz hl hc
 ·exact(hI'.me.at' b d (hle.m b d hb)).any
theorem AD2{r:V}{v:gv}(hf:Y0 r=true)(h:RepV G' r v):RepV G r v:=by
 cases r with
 |int k n=>cases h;exact .int _ _
 |bool b=>cases h;exact .bool _
 |agg cs=>
  cases h with
  |agg _ arr hl hc hr=>
   refine .agg _ arr hl hc fun i h1 h2=>?_
   have q:=hr i h1 h2
   have f:=bz.1 (show cs.all fR=true from hf) _ (List.getElem_mem h1)
   generalize cs[i]=c at *
   generalize arr[i]=z at *
   cases c with
   |int k n=>cases q;exact .int _ _
   |bool b=>cases q;exact .bool _
   |_=>cases f
 |_=>cases hf
theorem AD3{cf:CF}(hcf:cC P cf){c0:CF0}(hc0:EN P c0)(ks:List Nat):cC P (lW cf c0 ks):=by
 intro f args st r st' hx hbd hargs;unfold lW at hx;split at hx
 ·rename_i r0 h0;cases hf:Y0 r0 with
  |false=>
   rw[hf]at hx
   exact hcf f args st r st' hx hbd hargs
  |true=>
   rw[hf]at hx
   cases hx
   obtain⟨hA,h1,h2⟩:=hc0 _ _ _ h0
   refine⟨⟨bf _,hbd,rfl⟩,fun σ σ' δ _=>by rw[h2,h2],rfl,fun σ pre K hk=>⟨(hA ⟨[],[]⟩).1,fun G vals w R hI ha hR=>?_⟩⟩
   refine(hA ⟨[],[]⟩).2 (AIN G w) vals w R (ADY hI) ?_ fun G' r' v w' s' hle hI' hv hlen hk'=>?_
   ·refine⟨by simpa using ha.1,fun i p q=>?_⟩;have hr:=ha.2 i (by simpa using p) q;simp only[cj]at hr|-;have h3:=T4 hI ks _ _ (hr.mono (fS hI));rw[h1 _ (dj (List.getElem_mem _))]at h3;exact h3.monoC ADX
   ·obtain⟨rfl,rfl⟩:=hk';have:=hk σ (AR.refl _ _);rw[h2]at this;exact hR G r' v w' _ (Gh.le_refl _) (AD1 hI hle hI') (AD2 hf hv) rfl this
 ·exact hcf f args st r st' hx hbd hargs
theorem AP6{E:XE}(h:JQ P E)(ks:List Nat):JQ P (cfU ks E):=by
 cases ks with
 |nil=>exact h
 |cons k ks=>exact⟨AD3 h.cf h.c0 _,h.cy,h.c0,h.co⟩
end Go.Pg
namespace Go.Pg
variable {P:fp}{σ σ':Nat->Nat}{δ:Nat}{pre:List AA}{s:St}{fr:Fr}{G G':Gh}{w:ft}{n k l d:Nat}
def OD(n k l d:Nat):Nat->V->V
 |0,v=>v
 |f+1,v=>match v with
  |.vec l' k' γ m=>if l'=n/\k'=k then .vec l d γ m else v
  |.ptr l' k' γ o=>if l'=n/\k'=k then .ptr l d γ o else v
  |.mp l' k' γ=>if l'=n/\k'=k then .mp l d γ else v
  |.agg cs=>.agg (cs.map (OD n k l d f))
  |.tup cs=>.tup (cs.map (OD n k l d f))
  |v=>v
def fT(n k l d:Nat):AZ->AZ
 |.box cs=>.box (cs.map (OD n k l d 3))
 |.vec T es=>.vec T (es.map (List.map (OD n k l d 3)))
 |r=>r
def mvF(n k l d:Nat)(fr:Fr):Fr:=fr.map fun x=>(x.1,x.2.1,OD n k l d 3 x.2.2)
def mvL(n k l d:Nat):AA->AA
 |[]=>[]
 |(j,g,r)::L=>if j=k then mvL n k l d L else(j,g,fT n k l d r)::mvL n k l d L
def KS(u:Nat):AA->AA
 |[]=>[]
 |(j,x)::L=>if j=u then KS u L else(j,x)::KS u L
def mvU(n k l d:Nat):List Nat->AA->AA
 |[],L=>L
 |u::us,L=>match L.get u with
  |some (g,r)=>(u,g,fT n k l d r)::mvU n k l d us (KS u L)
  |none=>mvU n k l d us L
def mvS(k l d:Nat)(us:List Nat)(s:St)(o:Option (Nat×AZ)):St:=match o with
 |some (γ,r)=>St.put ⟨s.up.modify l (mvU s.up.length k l d us),mvL s.up.length k l d s.loc⟩ l d γ (fT s.up.length k l d r)
 |none=>s
def lX(l n:Nat):Option (Nat×AZ)->Bool
 |some (_,r)=>Nat.ble l n&&plR r
 |none=>false
def mv1(k l d:Nat)(us:List Nat)(st:XS):XS:=Bool.rec st ⟨st.c,mvF st.s.up.length k l d st.fr,mvS k l d us st.s (st.s.loc.get k)⟩ (lX l st.s.up.length (st.s.loc.get k))
theorem lY:∀(f:Nat) (v:V),(v.ren σ δ).isCell=true->((OD n k l d f v).ren σ δ).isCell=true
 |0,v,h=>h
 |f+1,v,h=>by
  cases v with
  |agg cs=>simp only[E8]at h;cases h
  |tup cs=>simp only[HC]at h;cases h
  |vec l' k' g m=>simp only[OD];split<;>(simp only[HE];rfl)
  |ptr l' k' g m=>simp only[OD];split<;>(simp only[HD];rfl)
  |mp l' k' g=>simp only[OD];split<;>(simp only[MF];rfl)
  |_=>exact h
theorem fU:∀(f:Nat) (x:V) (v:gv),RepV G (x.ren σ δ) v->RepV G ((OD n k l d f x).ren σ δ) v
 |0,x,v,h=>h
 |f+1,x,v,h=>by
  have ih:=fU f;cases x with
  |vec l' k' g m=>
   simp only[OD]
   split
   ·simp only[HE]at h|-;cases h with
    |vec _ _ _ _ b sz C a h1 h2 h3=>exact .vec _ _ _ _ b sz C a h1 h2 h3
   ·exact h
  |ptr l' k' g o=>
   simp only[OD]
   split
   ·simp only[HD]at h|-;cases h with
    |ptr _ _ _ _ b sz C h1=>exact .ptr _ _ _ _ b sz C h1
   ·exact h
  |mp l' k' g=>
   simp only[OD]
   split
   ·simp only[MF]at h|-;cases h with
    |mp _ _ _ b sz C h1=>exact .mp _ _ _ b sz C h1
   ·exact h
  |agg cs=>
   simp only[OD,E8]at h|-
   cases h with
   |agg _ arr hl hc hr=>
    refine .agg _ arr (by simpa using hl) (fun c hc'=>?_) (fun i h1 h2=>?_)
    ·simp only[dk]at hc';obtain⟨d',⟨e,he,rfl⟩,rfl⟩:=hc';exact lY f e (hc _ (dj he))
    ·have q:=hr i (by simpa using h1) h2;simp only[cj]at q|-;exact ih _ _ q
  |tup cs=>
   simp only[OD,HC]at h|-
   cases h with
   |tup _ arr hl hr=>
    refine .tup _ arr (by simpa using hl) (fun i h1 h2=>?_)
    have q:=hr i (by simpa using h1) h2
    simp only[cj]at q|-
    exact ih _ _ q
  |_=>exact h
theorem lZ{cs:List V}{vs:List gv}(h:RepL G (cs.map (V.ren σ δ)) vs):RepL G ((cs.map (OD n k l d 3)).map (V.ren σ δ)) vs :=
 ⟨by simpa using h.1,fun i p q=>by
  have r:=h.2 i (by simpa using p) q;simp only[cj]at r |-;exact⟨lY 3 _ r.1,fU 3 _ _ r.2⟩⟩
theorem uG{g:Nat}{r:AZ}(h:GZ G g w (r.ren σ δ)):GZ G g w ((fT n k l d r).ren σ δ):=by
 cases r with
 |box cs=>
  obtain⟨b,arr,T,h1,h2,h3⟩:=h
  exact⟨b,arr,T,by simpa using h1,h2,lZ h3⟩
 |vec T es=>
  obtain⟨b,sz,C,h1,h2,h3,h4,h5⟩:=h
  refine⟨b,sz,C,h1,by simpa using h2,fun e he=>?_,⟨h4.1,fun h=>h4.2 (by simpa using h)⟩,fun hC=>?_⟩
  ·simp only[dk]at he;obtain⟨e1,⟨e2,he2,rfl⟩,rfl⟩:=he;have:=h3 (e2.map (V.ren σ δ)) (dj he2);simpa using this
  ·obtain⟨arr,h6,h7,h8⟩:=h5 hC;refine⟨arr,h6,h7,?_⟩;have q:RepL G (es.flatten.map (V.ren σ δ)) (arr.toList.take (es.length*sz)):=by rw[cp];simpa using h8
   have q2:=lZ (n:=n) (k:=k) (l:=l) (d:=d) q;rw[cp,cp]at q2;simpa using q2
 |map es=>exact h
 |loop fr ps asg body N st=>exact h
 |dead=>trivial
theorem uH(G:Gh)(g:Nat)(r:AZ):BC G g ((fT n k l d r).ren σ δ)=BC G g (r.ren σ δ):=by cases r<;>rfl
theorem uI:∀(fr:Fr) (j:Nat),(mvF n k l d fr).get j=(fr.get j).map fun x=>(x.1,OD n k l d 3 x.2)
 |[],_=>rfl
 |(i,c,v)::fr,j=>by
  have ih:=uI fr j;simp only[mvF,bt,Fr.get]at ih|-;split
  ·rfl
  ·exact ih
theorem uJ:∀(L:AA) (j:Nat),(mvL n k l d L).get j=if j=k then none else(L.get j).map fun x=>(x.1,fT n k l d x.2)
 |[],j=>by simp[mvL]
 |(i,g,r)::L,j=>by
  have ih:=uJ L j;unfold mvL;by_cases h:i=k
  ·rw[if_pos h,ih];by_cases hj:j=k
   ·simp[hj]
   ·rw[if_neg hj,if_neg hj,AA.get,if_neg (by rw[h];exact hj)]
  ·rw[if_neg h];simp only[AA.get];by_cases hj:j=i
   ·subst hj;rw[if_pos rfl,if_pos rfl,if_neg h];rfl
   ·rw[if_neg hj,if_neg hj,ih]
theorem Y1(u:Nat):∀(L:AA) (j:Nat),(KS u L).get j=if j=u then none else L.get j
 |[],j=>by simp[KS,AA.get]
 |(q,x)::L,j=>by
  have ih:=Y1 u L j;unfold KS;by_cases h:q=u
  ·rw[if_pos h,ih];subst h;by_cases hj:j=q
   ·rw[if_pos hj,if_pos hj]
   ·rw[if_neg hj,if_neg hj];simp only[AA.get];rw[if_neg hj]
  ·rw[if_neg h];simp only[AA.get];by_cases hj:j=q
   ·subst hj;rw[if_pos rfl,if_neg h,if_pos rfl]
   ·rw[if_neg hj,if_neg hj,ih]
theorem fV:∀(us:List Nat) (L:AA) (j:Nat) (x:Nat×AZ),(mvU n k l d us L).get j=some x->L.get j=some x\/∃r,L.get j=some (x.1,r)/\x.2=fT n k l d r
 |[],L,j,x,h=>.inl h
 |u::us,L,j,x,h=>by
  unfold mvU at h;split at h
  ·rename_i g r e;simp only[AA.get]at h;split at h
   ·rename_i e2;subst e2;cases h;exact .inr ⟨r,e,rfl⟩
   ·rename_i hne;have:=fV us _ j x h;rw[Y1,if_neg hne]at this;exact this
  ·exact fV us L j x h
theorem rA{s:St}{l k γ:Nat}{r:AZ}{l' k':Nat}{x:Nat×AZ}(h:(s.put l k γ r).get l' k'=some x):(l'=l/\k'=k/\x=(γ,r))\/(¬(l'=l/\k'=k)/\s.get l' k'=some x):=by
 unfold St.put at h;unfold St.get at h|-;by_cases e1:l=s.up.length
 ·rw[if_pos e1]at h;by_cases e2:l'=s.up.length
  ·rw[if_pos e2]at h|-;rw[AA.get_put]at h;split at h
   ·rename_i e;exact .inl ⟨e2.trans e1.symm,e,(fx.inj h).symm⟩
   ·rename_i e;exact .inr ⟨fun hh=>e hh.2,h⟩
  ·rw[if_neg e2]at h|-;exact .inr ⟨fun hh=>e2 (hh.1.trans e1),h⟩
 ·rw[if_neg e1]at h;have hl:({ s with up:=s.up.modify l (fun L=>L.put k γ r) }:St).up.length=s.up.length:=by simp
  rw[hl]at h;by_cases e2:l'=s.up.length
  ·rw[if_pos e2]at h|-;exact .inr ⟨fun hh=>e1 (hh.1.symm.trans e2),h⟩
  ·rw[if_neg e2]at h|-;rw[cm]at h;cases hu:s.up[l']? with
   |none=>simp[hu]at h
   |some L=>
    rw[hu]at h
    simp only[dm,dg]at h
    by_cases e3:l=l'
    ·simp only[e3,if_true,AA.get_put]at h;split at h
     ·rename_i e;exact .inl ⟨e3.symm,e,(fx.inj h).symm⟩
     ·rename_i e;exact .inr ⟨fun hh=>e hh.2,h⟩
    ·simp only[e3,if_false]at h;exact .inr ⟨fun hh=>e3 hh.1.symm,h⟩
theorem uK{us:List Nat}{γ:Nat}{r:AZ}{l1 k1:Nat}{x:Nat×AZ}(h:(mvS k l d us s (some (γ,r))).get l1 k1=some x) :
  (l1=l/\k1=d/\x=(γ,fT s.up.length k l d r))\/(¬(l1=l/\k1=d)/\¬(l1=s.up.length/\k1=k)/\(s.get l1 k1=some x\/∃r0,s.get l1 k1=some (x.1,r0)/\x.2=fT s.up.length k l d r0)):=by
 rcases rA h with⟨h1,h2,h3⟩|⟨h1,h2⟩
 ·exact .inl ⟨h1,h2,h3⟩
 ·refine .inr ⟨h1,?_⟩;have hlen:(s.up.modify l (mvU s.up.length k l d us)).length=s.up.length:=by simp
  unfold St.get at h2|-;simp only[hlen]at h2;by_cases e:l1=s.up.length
  ·rw[if_pos e]at h2|-;rw[uJ]at h2;split at h2
   ·cases h2
   ·rename_i hk;refine⟨fun hh=>hk hh.2,.inr ?_⟩;obtain⟨y,hy,rfl⟩:=dn.1 h2;exact⟨y.2,hy,rfl⟩
  ·rw[if_neg e]at h2|-;refine⟨fun hh=>e hh.1,?_⟩;rw[cm]at h2;cases hu:s.up[l1]? with
   |none=>simp[hu]at h2
   |some L=>
    rw[hu]at h2
    simp only[dm,dg]at h2|-
    by_cases e3:l=l1
    ·simp only[e3,if_true]at h2;rw[<-e3]at h2;exact fV us L k1 x h2
    ·simp only[e3,if_false]at h2;exact .inl h2
theorem AIO{s s':St}{l1 k1:Nat}(h:l1<pre.length):(s.emb σ pre).get l1 k1=(s'.emb σ pre).get l1 k1:=by unfold St.get;rw[CZ,CZ,if_neg (by omega),if_neg (by omega)];simp only[St.emb,List.getElem?_append_left h]
theorem uM{us:List Nat}{o:Option (Nat×AZ)}:(mvS k l d us s o).up.length=s.up.length:=by
 cases o with
 |none=>rfl
 |some x=>unfold mvS;rw[St.put_len];simp
theorem AP7{us:List Nat}{γ:Nat}{r:AZ}(hr:s.loc.get k=some (γ,r))(hI:CB G (s.emb σ pre) w):CB G ((mvS k l d us s (some (γ,r))).emb σ pre) w:=by
 have look:∀{l1 k1 g r1},((mvS k l d us s (some (γ,r))).emb σ pre).get l1 k1=some (g,r1)->∃l0 k0 r0,(s.emb σ pre).get l0 k0=some (g,r0)/\GZ G g w r1/\BC G g r1=BC G g r0 /\
   ((l1=l+pre.length/\k1=d/\l0=s.up.length+pre.length/\k0=k)\/(¬(l1=l+pre.length/\k1=d)/\¬(l1=s.up.length+pre.length/\k1=k)/\l0=l1/\k0=k1)):=by
  intro l1 k1 g r1 h
  by_cases hp:l1<pre.length
  ·rw[AIO (s':=s) hp]at h;exact⟨l1,k1,r1,h,hI.res _ _ _ _ h,rfl,.inr ⟨fun hh=>by omega,fun hh=>by omega,rfl,rfl⟩⟩
  ·obtain⟨l2,rfl⟩:∃l2,l1=l2+pre.length:=⟨l1-pre.length,by omega⟩;rw[BP]at h;obtain⟨⟨γ',r'⟩,h1,h2⟩:=dn.1 h;cases h2;rcases uK h1 with⟨rfl,rfl,e⟩|⟨e1,e2,e3⟩
   ·cases e;have h0:(s.emb σ pre).get (s.up.length+pre.length) k=some (σ γ,r.ren σ pre.length):=by rw[BP,WA,hr];rfl
    exact⟨_,_,_,h0,uG (hI.res _ _ _ _ h0),uH _ _ _,.inl ⟨rfl,rfl,rfl,rfl⟩⟩
   ·rcases e3 with e3|⟨r0,e3,rfl⟩
    ·have h0:(s.emb σ pre).get (l2+pre.length) k1=some (σ γ',r'.ren σ pre.length):=by rw[BP,e3];rfl
     exact⟨_,_,_,h0,hI.res _ _ _ _ h0,rfl,.inr ⟨fun hh=>e1 ⟨by omega,hh.2⟩,fun hh=>e2 ⟨by omega,hh.2⟩,rfl,rfl⟩⟩
    ·have h0:(s.emb σ pre).get (l2+pre.length) k1=some (σ γ',r0.ren σ pre.length):=by rw[BP,e3];rfl
     exact⟨_,_,_,h0,uG (hI.res _ _ _ _ h0),uH _ _ _,.inr ⟨fun hh=>e1 ⟨by omega,hh.2⟩,fun hh=>e2 ⟨by omega,hh.2⟩,rfl,rfl⟩⟩
 refine⟨hI.sl,fun l k g r h=>(by obtain⟨_,_,_,_,h2,_⟩:=look h; exact h2),fun l1 k1 g1 r1 l2 k2 g2 r2 b h1 h2 h3 h4=>?_,fun l1 k1 g1 r1 b h1 h2=>?_,hI.fresh,hI.env,hI.me.step (Gh.le_refl _) rfl (fun _ _ _=>rfl) (fun l1 k1 g1 r1 b h1 h2=>by
  obtain⟨a1,a2,a3,a4,_,a6,_⟩:=look h1;exact .inl ⟨_,_,_,_,a4,a6▸h2⟩) fun b d hb=>hI.me.sl b d hb⟩
 ·obtain⟨a1,a2,a3,a4,_,a6,a7⟩:=look h1;obtain⟨b1,b2,b3,b4,_,b6,b7⟩:=look h2;have hs:=hI.sep _ _ _ _ _ _ _ _ _ a4 b4 (a6▸h3) (b6▸h4);rcases a7 with⟨c1,c2,c3,c4⟩|⟨c1,c2,c3,c4⟩<;>rcases b7 with⟨d1,d2,d3,d4⟩|⟨d1,d2,d3,d4⟩
  ·exact⟨c1.trans d1.symm,c2.trans d2.symm⟩
  ·exact(d2 ⟨d3.symm.trans (hs.1.symm.trans c3),d4.symm.trans (hs.2.symm.trans c4)⟩).elim
  ·exact(c2 ⟨c3.symm.trans (hs.1.trans d3),c4.symm.trans (hs.2.trans d4)⟩).elim
  ·exact⟨c3.symm.trans (hs.1.trans d3),c4.symm.trans (hs.2.trans d4)⟩
 ·obtain⟨a1,a2,a3,a4,_,a6,_⟩:=look h1;exact hI.out _ _ _ _ _ a4 (a6▸h2)
theorem AD5{us:List Nat}{st:XS}:E3 (st.fr.ren σ pre.length) (st.s.emb σ pre) ((mv1 k l d us st).fr.ren σ pre.length) ((mv1 k l d us st).s.emb σ pre):=by
 unfold mv1;cases ho:lX l st.s.up.length (st.s.loc.get k)with
 |false=>exact fun n N G0 G a w hR=>⟨G,hR⟩
 |true=>
  cases hr:st.s.loc.get k with
  |none=>rw[hr]at ho;cases ho
  |some x=>
   obtain⟨γ,r⟩:=x
   rw[hr]at ho
   simp only[lX,bj,Nat.ble_eq]at ho
   intro n N G0 G a w hR
   refine⟨G,hR.le,AP7 hr hR.inv,fun j c v hj=>?_,hR.size,?_,hR.marks⟩
   ·rw[Fr.get_ren]at hj;have hj':((mvF st.s.up.length k l d st.fr).get j).map (fun p=>(p.1,p.2.ren σ pre.length))=some (c,v):=hj;rw[uI]at hj';cases hg:st.fr.get j with
    |none=>rw[hg]at hj';cases hj'
    |some y=>
     rw[hg]at hj'
     obtain⟨c0,v0⟩:=y
     cases hj'
     obtain⟨x,q1,q2,q3⟩:=hR.fr j c0 (v0.ren σ pre.length) (by rw[Fr.get_ren,hg];rfl)
     exact⟨x,q1,fun hc=>fU 3 _ _ (q2 hc),q3⟩
   ·have:=hR.lvl;rw[CZ]at this|-;show(mvS k l d us st.s (some (γ,r))).up.length+_=_;rw[uM];exact this
theorem AD6{N:Nat}{ρ:Option Nat}{c:Code}{K:Exit->Fr->St->Prop}{us:List Nat}{m:Nat}{st:XS}(h:BD P m N ρ c K ((mv1 k l d us st).fr.ren σ pre.length) ((mv1 k l d us st).s.emb σ pre)):BD P m N ρ c K (st.fr.ren σ pre.length) (st.s.emb σ pre):=fN AD5 h
theorem rC:∀(f:Nat) (v:V),v.ren σ δ=v.ren σ' δ->(OD n k l d f v).ren σ δ=(OD n k l d f v).ren σ' δ
 |0,v,h=>h
 |f+1,v,h=>by
  have ih:=rC f;have lst:∀cs:List V,cs.map (V.ren σ δ)=cs.map (V.ren σ' δ)->(cs.map (OD n k l d f)).map (V.ren σ δ)=(cs.map (OD n k l d f)).map (V.ren σ' δ):=by intro cs h;simp only[cx];refine bc fun x hx=>?_;exact ih x (cz.1 h x hx)
  cases v with
  |vec l' k' g m=>
   simp only[OD]
   split
   ·simp only[HE,V.vec.injEq,true_and,and_true]at h|-;exact h
   ·exact h
  |ptr l' k' g o=>
   simp only[OD]
   split
   ·simp only[HD,V.ptr.injEq,true_and,and_true]at h|-;exact h
   ·exact h
  |mp l' k' g=>
   simp only[OD]
   split
   ·simp only[MF,V.mp.injEq,true_and]at h|-;exact h
   ·exact h
  |agg cs=>
   simp only[OD,E8,V.agg.injEq]at h|-
   exact lst cs h
  |tup cs=>
   simp only[OD,HC,V.tup.injEq]at h|-
   exact lst cs h
  |_=>exact h
theorem rD{r:AZ}(h:r.ren σ δ=r.ren σ' δ):(fT n k l d r).ren σ δ=(fT n k l d r).ren σ' δ:=by
 have lst:∀cs:List V,cs.map (V.ren σ δ)=cs.map (V.ren σ' δ)->(cs.map (OD n k l d 3)).map (V.ren σ δ)=(cs.map (OD n k l d 3)).map (V.ren σ' δ):=by intro cs h;simp only[cx];exact bc fun x hx=>rC 3 x (cz.1 h x hx)
 cases r with
 |box cs=>
  simp only[fT,AZ.ren,AZ.box.injEq]at h|-
  exact lst cs h
 |vec T es=>
  simp only[fT,AZ.ren,AZ.vec.injEq,true_and,cx]at h|-
  refine bc fun e he=>?_
  exact lst e (cz.1 h e he)
 |_=>exact h
theorem AD7:∀(L:AA),L.ren σ δ=L.ren σ' δ->(mvL n k l d L).ren σ δ=(mvL n k l d L).ren σ' δ
 |[],_=>rfl
 |(j,g,r)::L,h=>by
  simp only[AA.ren,bt,ff.injEq,fg.injEq,true_and]at h;have ih:=AD7 L h.2;simp only[mvL];split
  ·exact ih
  ·simp only[AA.ren,bt,ff.injEq,fg.injEq,true_and];exact⟨⟨h.1.1,rD h.1.2⟩,ih⟩
theorem AD8{L:AA}(h:L.ren σ δ=L.ren σ' δ){k γ:Nat}{r:AZ}(hg:L.get k=some (γ,r)):σ γ=σ' γ/\r.ren σ δ=r.ren σ' δ:=by
 have e1:(L.ren σ δ).get k=some (σ γ,r.ren σ δ):=by rw[AA.get_ren,hg];rfl
 have e2:(L.ren σ' δ).get k=some (σ' γ,r.ren σ' δ):=by rw[AA.get_ren,hg];rfl
 rw[h,e2]at e1;simp only[fx.injEq,fg.injEq]at e1;exact⟨e1.1.symm,e1.2.symm⟩
theorem Y2(u:Nat):∀(L:AA),AA.ren σ δ (KS u L)=KS u (AA.ren σ δ L)
 |[]=>rfl
 |(q,g,r)::L=>by
  have ih:=Y2 u L;show AA.ren σ δ (KS u ((q,g,r)::L))=KS u ((q,σ g,r.ren σ δ)::AA.ren σ δ L);unfold KS;by_cases h:q=u
  ·rw[if_pos h,if_pos h,ih]
  ·rw[if_neg h,if_neg h,<-ih];rfl
theorem rF:∀(us:List Nat) (L:AA),L.ren σ δ=L.ren σ' δ->(mvU n k l d us L).ren σ δ=(mvU n k l d us L).ren σ' δ
 |[],_,h=>h
 |u::us,L,h=>by
  unfold mvU;split
  ·rename_i g r e;obtain⟨h1,h2⟩:=AD8 h e;have ih:=rF us (KS u L) (by rw[Y2,Y2,h]);simp only[AA.ren,bt,ff.injEq,fg.injEq,true_and];exact⟨⟨h1,rD h2⟩,ih⟩
  ·exact rF us L h
theorem AP8{us:List Nat}{γ:Nat}{r:AZ}(hr:s.loc.get k=some (γ,r))(h:s.emb σ pre=s.emb σ' pre):(mvS k l d us s (some (γ,r))).emb σ pre=(mvS k l d us s (some (γ,r))).emb σ' pre:=by
 have h0:=h;simp only[St.emb,St.mk.injEq,dq]at h;obtain⟨h1,h2⟩:=AD8 h.2 hr;unfold mvS;rw[CK,CK,h1,rD h2];congr 1;simp only[St.emb,St.mk.injEq,dq];refine⟨?_,AD7 _ h.2⟩;apply List.ext_getElem?;intro i;have hi:=congrArg (·[i]?) h.1;simp only[List.getElem?_map,cm]at hi|-;cases hu:s.up[i]? with
 |none=>rfl
 |some L=>
  rw[hu]at hi
  simp only[dg,fx.injEq,dm]at hi|-
  split
  ·exact rF us L hi
  ·exact hi
theorem uN{us:List Nat}{st:XS}(h:Bd st):H8 st (mv1 k l d us st):=by
 unfold mv1;cases ho:lX l st.s.up.length (st.s.loc.get k)with
 |false=>exact⟨bf _,h,rfl⟩
 |true=>
  cases hr:st.s.loc.get k with
  |none=>rw[hr]at ho;cases ho
  |some x=>
   obtain⟨γ,r⟩:=x
   rw[hr]at ho
   simp only[lX,bj,Nat.ble_eq]at ho
   refine⟨bf _,⟨fun σ σ' δ ha=>?_,fun σ σ' pre ha=>AP8 hr (h.s σ σ' pre ha),fun l1 k1 γ' fr ps asg body N ls hg=>?_⟩,uM⟩
   ·have q:=h.f σ σ' δ ha;simp only[mvF,Fr.ren,cx]at q|-;refine bc fun x hx=>?_;have:=cz.1 q x hx;simp only[fg.injEq,true_and]at this;simp only[Function.comp,fg.injEq,true_and];exact rC 3 _ this
   ·have nl:∀r0:AZ,(AZ.loop fr ps asg body N ls)=fT st.s.up.length k l d r0->r0=.loop fr ps asg body N ls:=by intro r0 e;cases r0<;>first|exact e.symm|cases e
    rcases uK hg with⟨_,_,e⟩|⟨_,_,e⟩
    ·have e2:AZ.loop fr ps asg body N ls=fT st.s.up.length k l d r:=congrArg Prod.snd e;have:=nl r e2;subst this;exact absurd ho.2 (by simp[plR])
    ·rcases e with e|⟨r0,e,e2⟩
     ·exact h.lp l1 k1 γ' fr ps asg body N ls e
     ·have:=nl r0 e2;subst this;exact h.lp l1 k1 γ' fr ps asg body N ls e
def AP9(n:Nat)(o:Option (Nat×AZ)):List Nat:=match o with
 |some (_,.vec _ es)=>es.filterMap fun e=>match e with
  |[.vec l k _ _]=>if l=n then some k else none
  |_=>none
 |_=>[]
def A2E(k:Nat)(st:XS):XS:=U3 (AP9 st.s.up.length (st.s.loc.get k)) st
def AD9(p:Nat)(st:XS):Nat:=match p with
 |0=>st.s.up.length-1
 |p+1=>match E5 st.fr p with
  |some (true,.ptr l _ _ _)=>l
  |_=>0
def AQA(B i:Nat)(st:XS):Nat:=match i with
 |0=>B
 |i+1=>match E5 st.fr i with
  |some (true,.int _ n)=>B+n.toNat
  |_=>B
def mvX(k B i p u:Nat)(st:XS):XS:=mv1 k (AD9 p st) (AQA B i st) (match u with|0=>[]|u+1=>[u]) st
def cT:V->V
 |.nil=>.list false []
 |v=>v
def wkR:AZ->AZ
 |.vec T es=>.vec T (es.map (List.map cT))
 |.box cs=>.box (cs.map cT)
 |r=>r
def aR(k:Nat):AA->AA
 |[]=>[]
 |(j,g,r)::L=>(j,g,if j=k then wkR r else r)::aR k L
def wk1(k:Nat)(st:XS):XS:=⟨st.c,st.fr,⟨st.s.up,aR k st.s.loc⟩⟩
theorem AIP(v:V):(cT v).ren σ δ=cT (v.ren σ δ):=by cases v<;>simp[cT]
theorem mA(cs:List V):(cs.map cT).map (V.ren σ δ)=(cs.map (V.ren σ δ)).map cT:=by rw[cx,cx];exact bc fun v _=>AIP v
theorem AIQ(r:AZ):(wkR r).ren σ δ=wkR (r.ren σ δ):=by
 cases r with
 |box cs=>simp only[wkR,AZ.ren,mA]
 |vec T es=>
  simp only[wkR,AZ.ren,cx,AZ.vec.injEq,true_and]
  exact bc fun e _=>mA e
 |_=>rfl
theorem uO(k:Nat):∀L:AA,(aR k L).ren σ δ=aR k (L.ren σ δ)
 |[]=>rfl
 |(j,g,r)::L=>by
  have ih:=uO k L;simp only[AA.ren]at ih;simp only[aR,AA.ren,bt,ih,ff.injEq,fg.injEq,true_and,and_true];split
  ·exact AIQ r
  ·rfl
theorem uP(k:Nat):∀(L:AA) (j:Nat),(aR k L).get j=if j=k then(L.get j).map (fun x=>(x.1,wkR x.2)) else L.get j
 |[],j=>by simp[aR]
 |(i,g,r)::L,j=>by
  have ih:=uP k L j;simp only[aR,AA.get];by_cases hj:j=i
  ·subst hj;rw[if_pos rfl,if_pos rfl];by_cases h:j=k
   ·rw[if_pos h,if_pos h];rfl
   ·rw[if_neg h,if_neg h]
  ·rw[if_neg hj,if_neg hj,ih]
theorem AEA{v:V}(h:v.isCell=true):(cT v).isCell=true:=by cases v<;>first|exact h|rfl
theorem AIR{G:Gh}{x:V}{v:gv}(h:RepV G x v):RepV G (cT x) v:=by
 cases x with
 |nil=>exact h.empty
 |_=>exact h
theorem mB{G:Gh}{cs:List V}{vs:List gv}(h:RepL G cs vs):RepL G (cs.map cT) vs :=
 ⟨by simpa using h.1,fun i p q=>by
  have r:=h.2 i (by simpa using p) q;simp only[cj];exact⟨AEA r.1,AIR r.2⟩⟩
theorem AIS{G:Gh}{w:ft}{g:Nat}{r:AZ}(h:GZ G g w r):GZ G g w (wkR r):=by
 cases r with
 |box cs=>
  obtain⟨b,arr,T,h1,h2,h3⟩:=h
  exact⟨b,arr,T,by simpa using h1,h2,mB h3⟩
 |vec T es=>
  obtain⟨b,sz,C,h1,h2,h3,h4,h5⟩:=h
  refine⟨b,sz,C,h1,by simpa using h2,fun e he=>?_,⟨h4.1,fun h=>h4.2 (by simpa using h)⟩,fun hC=>?_⟩
  ·obtain⟨e2,he2,rfl⟩:=dk.1 he;simpa using h3 e2 he2
  ·obtain⟨arr,h6,h7,h8⟩:=h5 hC;refine⟨arr,h6,h7,?_⟩;have q:=mB h8;rw[cp]at q;simpa using q
 |_=>exact h
theorem AEB(G:Gh)(g:Nat)(r:AZ):BC G g (wkR r)=BC G g r:=by cases r<;>rfl
theorem AEC{s:St}{k l j:Nat}{x:Nat×AZ}(h:St.get ⟨s.up,aR k s.loc⟩ l j=some x):∃r,s.get l j=some (x.1,r)/\(x.2=r\/x.2=wkR r):=by
 unfold St.get at h|-;split at h
 ·rename_i e;rw[if_pos e];have h:(aR k s.loc).get j=some x:=h;rw[uP]at h;split at h
  ·cases hg:s.loc.get j with
   |none=>rw[hg]at h;cases h
   |some y=>rw[hg]at h;cases h;exact⟨_,rfl,.inr rfl⟩
  ·exact⟨_,h,.inl rfl⟩
 ·rename_i e;rw[if_neg e];exact⟨_,h,.inl rfl⟩
theorem AQB{G:Gh}{s:St}{w:ft}{k:Nat}(hI:CB G s w):CB G ⟨s.up,aR k s.loc⟩ w:=by
 have look:∀{l j g r},St.get ⟨s.up,aR k s.loc⟩ l j=some (g,r)->∃r0,s.get l j=some (g,r0)/\GZ G g w r/\BC G g r=BC G g r0:=by
  intro l j g r h;obtain⟨r0,h1,h2⟩:=AEC h;refine⟨r0,h1,?_⟩;have h3:=hI.res _ _ _ _ h1;rcases h2 with h2|h2
  ·simp only at h2;subst h2;exact⟨h3,rfl⟩
  ·simp only at h2;subst h2;exact⟨AIS h3,AEB _ _ _⟩
 refine⟨hI.sl,fun l k g r h=>(by obtain⟨r0,_,h2,_⟩:=look h; exact h2),fun l k g r l' k' g' r' b h1 h2 h3 h4=>?_,fun l k g r b h1 h2=>?_,hI.fresh,hI.env,hI.me.step (Gh.le_refl _) rfl (fun _ _ _=>rfl) (fun l k g r b h1 h2=>by
  obtain⟨r0,e,_,o⟩:=look h1;exact .inl ⟨_,_,_,_,e,o▸h2⟩) fun b d hb=>hI.me.sl b d hb⟩
 ·rcases look h1 with⟨r1,e1,_,o1⟩;rcases look h2 with⟨r2,e2,_,o2⟩;exact hI.sep _ _ _ _ _ _ _ _ _ e1 e2 (o1▸h3) (o2▸h4)
 ·rcases look h1 with⟨r1,e1,_,o1⟩;exact hI.out _ _ _ _ _ e1 (o1▸h2)
theorem fW{k:Nat}{st:XS}:(wk1 k st).s.emb σ pre=⟨(st.s.emb σ pre).up,aR k (st.s.emb σ pre).loc⟩:=by simp only[wk1,St.emb,uO]
theorem AED{m N:Nat}{ρ:Option Nat}{c:Code}{K:Exit->Fr->St->Prop}{k:Nat}{st:XS}(h:BD P m N ρ c K ((wk1 k st).fr.ren σ pre.length) ((wk1 k st).s.emb σ pre)):BD P m N ρ c K (st.fr.ren σ pre.length) (st.s.emb σ pre):=by intro G0 G a w hR;rw[fW]at h;exact h G0 G a w ⟨hR.le,AQB hR.inv,hR.fr,hR.size,hR.lvl,hR.marks⟩
theorem AIT{k:Nat}{st:XS}(h:Bd st):H8 st (wk1 k st):=by
 refine⟨bf _,⟨h.f,fun σ σ' pre ha=>by rw[fW,fW,h.s σ σ' pre ha],fun l j γ fr ps asg body N ls hg=>?_⟩,rfl⟩;obtain⟨r,h1,h2⟩:=AEC (s:=st.s) hg;have e:r=.loop fr ps asg body N ls:=by
  rcases h2 with h2|h2
  ·exact h2.symm
  ·cases r<;>first|exact h2.symm|cases h2
 subst e;exact h.lp l j γ fr ps asg body N ls h1
def uQ(k:Nat)(st:XS):XS:=Bool.rec (Bool.rec (Bool.rec (Bool.rec (OC (k % 1000) (k / 1000 % 1000) st) (wk1 (k % 1000) st) (bh k 3000000000000000)) (A2E (k % 1000) st) (bh k 2000000000000000))
 (mvX ((k-1000) % 1000) ((k-1000) / 1000 % 1000) ((k-1000) / 1000000 % 1000) ((k-1000) / 1000000000 % 1000) ((k-1000) / 1000000000000) st) (bh k 1000000000000000)) (EK k st) (bh k 1000)
def T5(ks:List Nat)(st:XS):XS:=List.rec (motive:=fun _=>XS->XS) (fun st=>st) (fun k _ ih st=>ih (uQ k st)) ks st
theorem ALX{us:List Nat}{st:XS}:(mv1 k l d us st).c=st.c:=by unfold mv1;cases lX l st.s.up.length (st.s.loc.get k)<;>rfl
theorem A2F{k:Nat}{st:XS}:(uQ k st).c=st.c:=by
 unfold uQ;cases bh k 1000 with
 |true=>rfl
 |false=>cases bh k 1000000000000000 with
  |true=>exact ALX
  |false=>cases bh k 2000000000000000 with
   |true=>exact uD _ _
   |false=>cases bh k 3000000000000000 with
    |true=>rfl
    |false=>exact ADS
theorem AIU{k:Nat}{st:XS}(h:Bd st):H8 st (uQ k st):=by
 unfold uQ;cases bh k 1000 with
 |true=>exact K8 h
 |false=>cases bh k 1000000000000000 with
  |true=>exact uN h
  |false=>cases bh k 2000000000000000 with
   |true=>exact cP _ h
   |false=>cases bh k 3000000000000000 with
    |true=>exact AIT h
    |false=>exact YZ h
theorem AEE{m N:Nat}{ρ:Option Nat}{c:Code}{K:Exit->Fr->St->Prop}{k:Nat}{st:XS}(h:BD P m N ρ c K ((uQ k st).fr.ren σ pre.length) ((uQ k st).s.emb σ pre)):BD P m N ρ c K (st.fr.ren σ pre.length) (st.s.emb σ pre):=by
 unfold uQ at h;cases h1:bh k 1000 with
 |true=>rw[h1]at h;exact YW h
 |false=>
  rw[h1]at h
  cases h2:bh k 1000000000000000 with
  |true=>rw[h2]at h;exact AD6 h
  |false=>
   rw[h2]at h
   cases h3:bh k 2000000000000000 with
   |true=>rw[h3]at h;exact YX _ h
   |false=>
    rw[h3]at h
    cases h4:bh k 3000000000000000 with
    |true=>rw[h4]at h;exact AED h
    |false=>rw[h4]at h;exact yH h
theorem ALY:∀(ks:List Nat) (st:XS),(T5 ks st).c=st.c
 |[],_=>rfl
 |k::ks,st=>(ALY ks (uQ k st)).trans A2F
theorem uR:∀(ks:List Nat) {st:XS},Bd st->H8 st (T5 ks st)
 |[],st,h=>⟨bf _,h,rfl⟩
 |k::ks,st,h=>by have h1:=AIU (k:=k) h;have h2:=uR ks h1.bd;exact⟨dv h1.c h2.c,h2.bd,h2.n.trans h1.n⟩
theorem mC{m N:Nat}{ρ:Option Nat}{c:Code}{K:Exit->Fr->St->Prop}:∀(ks:List Nat) {st:XS},BD P m N ρ c K ((T5 ks st).fr.ren σ pre.length) ((T5 ks st).s.emb σ pre)->BD P m N ρ c K (st.fr.ren σ pre.length) (st.s.emb σ pre)
 |[],_,h=>h
 |k::ks,st,h=>AEE (k:=k) (mC ks (st:=uQ k st) h)
end Go.Pg
namespace Go.Pg
variable {P:fp}{n N:Nat}{ρ:Option Nat}{G0 G:Gh}{fr fr':Fr}{s s':St}{a:Act}{w:ft}{l:List fh}{gs:List (Option (Tmp×Bool))}{e:Nat}{σ σ':Nat->Nat}{δ:Nat}{pre:List AA}
def HT(P:fp)(l:List fh)(gs:List (Option (Tmp×Bool)))(e i:Nat)(fr:Fr)(s:St)(k:Fr->St->Prop):Prop:=match l[i]? with
 |some o=>if i=e then ∃f args,NE fr (aA gs i)=some true/\HQ true o fr=some (f,args)/\DX P f args s fun r s'=>k (putD fr o.dst true r) s'
  else ∃v,NE fr (aA gs i)=some true/\(∀s,FD P true o fr s=some v)/\k (putD fr o.dst true v) s
 |none=>False
def fX(P:fp)(l:List fh)(gs:List (Option (Tmp×Bool)))(e:Nat)(T:Array Bool->Fr->St->Prop):Nat->List Nat->Array Bool->Fr->St->Prop
 |0,_,listed,fr,s=>T listed fr s
 |m+1,R,listed,fr,s=>xH l listed≠[]/\∀j∈xH l listed,j∈R/\HT P l gs e j fr s (fX P l gs e T m (R.erase j) (listed.setIfInBounds j true))
def KF(fr fr':Fr):Prop:=∀k,fr.get k=fr'.get k
theorem KF.same(h:KF fr fr'):E4 fr ⟨[],[]⟩ fr' ⟨[],[]⟩:=⟨h,fun _ _=>rfl,rfl⟩
theorem KF.putD(h:KF fr fr')(d:Option Tmp)(c:Bool)(v:V):KF (Pg.putD fr d c v) (Pg.putD fr' d c v):=(h.same.putD d c v).f
variable {T:Array Bool->Fr->St->Prop}
theorem mD{i:Nat}{k k':Fr->St->Prop}(h:HT P l gs e i fr s k)(hf:KF fr fr')(hk:∀f1 f2 s1,KF f1 f2->k f1 s1->k' f2 s1):HT P l gs e i fr' s k':=by
 unfold HT at h|-;split
 ·rename_i o ho;simp only[ho]at h;split
  ·rename_i hi;rw[if_pos hi]at h;obtain⟨f,args,h1,h2,h3⟩:=h;exact⟨f,args,(hf.same.gd _).symm.trans h1,(GL fun x _=>(hf.same.rd x).symm).trans h2,h3.mono fun r s1=>hk _ _ _ (hf.putD _ _ _)⟩
  ·rename_i hi;rw[if_neg hi]at h;obtain⟨v,h1,h2,h3⟩:=h;exact⟨v,(hf.same.gd _).symm.trans h1,fun s1=>(GG fun x _=>(hf.same.rd x).symm).trans (h2 s1),hk _ _ _ (hf.putD _ _ _) h3⟩
 ·rename_i ho;simp only[ho]at h
theorem MR{i:Nat}{k k':Fr->St->Prop}(h:HT P l gs e i fr s k)(hk:∀f1 s1,k f1 s1->k' f1 s1):HT P l gs e i fr s k':=by
 unfold HT at h|-;split
 ·rename_i o ho;simp only[ho]at h;split
  ·rename_i hi;rw[if_pos hi]at h;obtain⟨f,args,h1,h2,h3⟩:=h;exact⟨f,args,h1,h2,h3.mono fun r s1=>hk _ _⟩
  ·rename_i hi;rw[if_neg hi]at h;obtain⟨v,h1,h2,h3⟩:=h;exact⟨v,h1,h2,hk _ _ h3⟩
 ·rename_i ho;simp only[ho]at h
theorem Y3(hT:∀listed fr fr' s,KF fr fr'->T listed fr s->T listed fr' s):∀(m:Nat) (R:List Nat) (listed:Array Bool) (fr fr':Fr) (s:St),KF fr fr'->fX P l gs e T m R listed fr s->fX P l gs e T m R listed fr' s
 |0,_,_,_,_,_,hs,h=>hT _ _ _ _ hs h
 |m+1,_,_,_,_,_,hs,h=>⟨h.1,fun j hj=>⟨(h.2 j hj).1,mD (h.2 j hj).2 hs fun _ _ _ h12 h'=>Y3 hT m _ _ _ _ _ h12 h'⟩⟩
theorem rG{i j:Nat}{oi oj:fh}{k k':Fr->St->Prop}(hi:l[i]? = some oi)(hj:l[j]? = some oj)(hie:i≠e)(hij:F2 oj (aA gs j) oi.dst)(hji:F2 oi (aA gs i) oj.dst)(hne:∀d,oi.dst=some d->oj.dst≠some d)
  (h:HT P l gs e i fr s fun f1 s1=>HT P l gs e j f1 s1 k) (hk:∀f1 f2 s1,KF f1 f2->k f1 s1->k' f2 s1):HT P l gs e j fr s fun f2 s2=>HT P l gs e i f2 s2 k':=by
 have hcomm:∀(v v':V),KF (putD (putD fr oi.dst true v) oj.dst true v') (putD (putD fr oj.dst true v') oi.dst true v):=by
  intro v v' t;simp only[F1];by_cases e1:oj.dst=some t
  ·have:oi.dst≠some t:=fun e2=>hne t e2 e1;simp[e1,this]
  ·simp[e1]
 unfold HT at h|-
 simp only[hi,hj,if_neg hie]at h|-
 obtain⟨v,g1,hv,h⟩:=h
 by_cases hje:j=e
 ·rw[if_pos hje]at h|-;obtain⟨f,args,g2,hc,h⟩:=h;exact⟨f,args,(hij.gd true v).symm.trans g2,(GL (hij.rd true v)).symm.trans hc,h.mono fun r s1 hk'=>⟨v,(hji.gd true r).trans g1,fun s2=>(GG (hji.rd true r)).trans (hv s2),hk _ _ _ (hcomm v r) hk'⟩⟩
 ·rw[if_neg hje]at h|-;obtain⟨u,g2,hu,h⟩:=h;exact⟨u,(hij.gd true v).symm.trans g2,fun s2=>(GG (hij.rd true v)).symm.trans (hu s2),v,(hji.gd true u).trans g1,fun s2=>(GG (hji.rd true u)).trans (hv s2),hk _ _ _ (hcomm v u) h⟩
structure uS(l:List fh)(gs:List (Option (Tmp×Bool)))(e i:Nat)(oi:fh)(B:List Nat)(R:List Nat)(listed:Array Bool):Prop where
 ready:i∈xH l listed
 mem:i∈R
 wait:∀b∈B,∃o,l[b]? = some o/\∃x∈o.after,Region.binds .any x=true/\(x.on=i\/x.on∈B)
 un:∀b∈B,listed.getD b true=false
 free:∀j oj,l[j]? = some oj->j≠i->j∉B->listed.getD j true=false->i≠e/\j∈R/\F2 oj (aA gs j) oi.dst/\F2 oi (aA gs i) oj.dst/\(∀d,oi.dst=some d->oj.dst≠some d)
theorem uS.blocked{i:Nat}{oi:fh}{B R:List Nat}{listed:Array Bool}(h:uS l gs e i oi B R listed){j:Nat}(hj:j∈xH l listed):j∉B:=by
 intro hb;obtain⟨_,o,ho,hall⟩:=mem_ready.1 hj;obtain⟨o',ho',x,hx,hbi,hon⟩:=h.wait j hb;have:o=o':=by simpa [ho']using ho.symm
 subst this;have h1:=hall x hx hbi;rcases hon with hon|hon
 ·rw[hon,WD (mem_ready.1 h.ready).1]at h1;cases h1
 ·rw[WD (h.un _ hon)]at h1;cases h1
theorem rH(hT:∀listed fr fr' s,KF fr fr'->T listed fr s->T listed fr' s){i:Nat}{oi:fh}{B:List Nat}(hi:l[i]? = some oi):∀(m:Nat) (R:List Nat) (listed:Array Bool) (fr:Fr) (s:St),
  uS l gs e i oi B R listed->R.length=m+1->R.Nodup->HT P l gs e i fr s (fX P l gs e T m (R.erase i) (listed.setIfInBounds i true))->fX P l gs e T (m+1) R listed fr s:=by
 intro m
 induction m with
 |zero=>
  intro R listed fr s hF hlen _ h
  refine⟨fun e=>?_,fun j hj=>?_⟩
  ·have:=hF.ready;rw[e]at this;cases this
  ·by_cases hji:j=i
   ·subst hji;exact⟨hF.mem,h⟩
   ·obtain⟨hun,oj,hoj,_⟩:=mem_ready.1 hj;have hR:=(hF.free j oj (by simpa using hoj) hji (hF.blocked hj) hun).2.1;exfalso;obtain⟨x,rfl⟩:=List.length_eq_one_iff.1 hlen;have e1:=hF.mem;simp at e1 hR;exact hji (hR.trans e1.symm)
 |succ m ih=>
  intro R listed fr s hF hlen hnd h
  refine⟨fun e=>?_,fun j hj=>?_⟩
  ·have:=hF.ready;rw[e]at this;cases this
  ·by_cases hji:j=i
   ·subst hji;exact⟨hF.mem,h⟩
   ·obtain⟨hun,oj,hoj,_⟩:=mem_ready.1 hj;have hoj':l[j]? = some oj:=by simpa using hoj
    have hjB:=hF.blocked hj;obtain⟨hie,hjR,b1,b2,hne⟩:=hF.free j oj hoj' hji hjB hun;refine⟨hjR,?_⟩;have h1:HT P l gs e i fr s fun f1 s1=>HT P l gs e j f1 s1 (fX P l gs e T m ((R.erase i).erase j) ((listed.setIfInBounds i true).setIfInBounds j true)) :=
     MR h fun f1 s1 h'=>(h'.2 j (ready_mono hj hji)).2
    have h2:=rG hi hoj' hie b1 b2 hne h1 fun f1 f2 s1 h12 h'=>Y3 hT _ _ _ _ _ _ h12 h';refine MR h2 fun f1 s1 h'=>?_;have hlt:j<listed.size:=by
     rcases br j listed.size with h'|h'
     ·exact h'
     ·simp[cd h']at hun
    refine ih (R.erase j) (listed.setIfInBounds j true) f1 s1 ⟨ready_mono hF.ready (Ne.symm hji),(dp (Ne.symm hji)).2 hF.mem,hF.wait,fun b hb=>?_,fun k ok hk hki hkB hku=>?_⟩ ?_ (hnd.erase j) ?_
    ·rw[getD_set_ne true (fun e=>hjB (by rw[e];exact hb))];exact hF.un b hb
    ·have hkj:k≠j:=by intro e;subst e;simp[hlt]at hku
     rw[getD_set_ne true (Ne.symm hkj)]at hku;obtain⟨q0,q1,q2⟩:=hF.free k ok hk hki hkB hku;exact⟨q0,(dp hkj).2 q1,q2⟩
    ·rw[dw hjR,hlen];rfl
    ·rw[List.erase_comm,Array.setIfInBounds_comm _ _ hji];exact h'
def OE(P:fp)(l:List fh)(gs:List (Option (Tmp×Bool)))(e:Nat):List Nat->Fr->St->(Fr->St->Prop)->Prop
 |[],fr,s,K=>K fr s
 |i::r,fr,s,K=>HT P l gs e i fr s fun fr s=>OE P l gs e r fr s K
theorem Y4:∀(R:List Nat) (fr:Fr) (s:St) (k k':Fr->St->Prop),(∀f1 s1,k f1 s1->k' f1 s1)->OE P l gs e R fr s k->OE P l gs e R fr s k'
 |[],_,_,_,_,hk,h=>hk _ _ h
 |_::r,_,_,k,k',hk,h=>MR h fun _ _ h'=>Y4 r _ _ k k' hk h'
def PhY(l:List fh)(gs:List (Option (Tmp×Bool)))(e:Nat):List Nat->Array Bool->Prop
 |[],_=>True
 |i::r,listed=>(∃oi B,l[i]? = some oi/\uS l gs e i oi B (i::r) listed)/\PhY l gs e r (listed.setIfInBounds i true)
theorem SL(hT:∀listed fr fr' s,KF fr fr'->T listed fr s->T listed fr' s):∀(R:List Nat) (listed:Array Bool) (fr:Fr) (s:St),R.Nodup->PhY l gs e R listed ->
  OE P l gs e R fr s (T (R.foldl (fun L i=>L.setIfInBounds i true) listed))->fX P l gs e T R.length R listed fr s
 |[],_,_,_,_,_,h=>h
 |i::r,listed,fr,s,hnd,hp,h=>by obtain⟨⟨oi,B,hi,hF⟩,hp⟩:=hp;refine rH hT hi r.length (i::r) listed fr s hF rfl hnd ?_;rw[List.erase_cons_head];exact MR h fun f1 s1 h'=>SL hT r _ _ _ (dr.1 hnd).2 hp h'
theorem rI{o:fh}{f:gw}{args:List V}{k:Fr->St->Prop}(hc:HQ true o fr=some (f,args))(h:DX P f args s fun r s'=>k (putD fr o.dst true r) s'):D7 P true o fr s k:=by
 unfold HQ at hc;unfold D7;split at hc
 ·rename_i f' args' argTypes' ho;simp only[ho];split at hc
  ·rename_i fid first cap vs e1 e2;cases hc;simp only[e1,e2];exact .inl ⟨rfl,h⟩
  ·cases hc
 ·cases hc
theorem Y5{K:Exit->Fr->St->Prop}(hN:K3 N l=true)(hg:JB l gs l=true){t:Nat}(hT:∀listed fr s G a w,T listed fr s->ID n N G0 G fr s a w->wpAnyIn (wf ρ) 0 P .any l.toArray (KO n N G0 K) t listed a w) :
  ∀(m:Nat) (R:List Nat) (listed:Array Bool) (G:Gh) (fr:Fr) (s:St) (a:Act) (w:ft),ID n N G0 G fr s a w->fX P l gs e T m R listed fr s->wpAnyIn (wf ρ) 0 P .any l.toArray (KO n N G0 K) (m+t) listed a w
 |0,_,listed,G,fr,s,a,w,hR,h=>by rw[dh];exact hT _ _ _ _ _ _ h hR
 |m+1,R,listed,G,fr,s,a,w,hR,h=>by
  rw[Nat.add_right_comm];refine⟨fun h0=>absurd h0 h.1,fun j hj=>?_⟩;have h':=(h.2 j hj).2;unfold HT at h';split at h'
  ·rename_i o ho;have main:NE fr (aA gs j)=some true->RV P true o fr s (fX P l gs e T m (R.erase j) (listed.setIfInBounds j true))->wpOpIn (wf ρ) 0 P l.toArray (KO n N G0 K) j (wpAnyIn (wf ρ) 0 P .any l.toArray (KO n N G0 K) (m+t) (listed.setIfInBounds j true)) a w:=fun hgd hst=>
    HB hR hN hg ho hgd hst fun G' a' w' fr' s' hR' hk=>Y5 hN hg hT m _ _ G' fr' s' a' w' hR' hk
   split at h'
   ·obtain⟨f,args,h1,h2,h3⟩:=h';exact main h1 (.inl (rI h2 h3))
   ·obtain⟨v,h1,h2,h3⟩:=h';exact main h1 (.inl (DL (Ω:=G8.nothing P) (.inl ⟨v,h2 s,h3⟩)))
  ·cases h'
def uT(l:List fh)(i j:Nat):Bool:=bn (Nat.land (dsM l i) (Nat.lor (lkM l j) (dsM l j))) 0&&bn (Nat.land (dsM l j) (lkM l i)) 0
theorem rJ{i j:Nat}{oi oj:fh}(hi:l[i]? = some oi)(hj:l[j]? = some oj)(h:uT l i j=true) :
  (∀d,oi.dst=some d->d∉oj.looksAt l.toArray)/\(∀d,oi.dst=some d->oj.dst≠some d)/\(∀d,oj.dst=some d->d∉oi.looksAt l.toArray):=by
 unfold uT dsM lkM at h
 simp only[hi,hj,bj]at h
 obtain⟨h1,h2⟩:=h
 refine⟨fun d hd hm=>?_,fun d hd he=>?_,fun d hd hm=>?_⟩
 ·rw[hd]at h1;refine FN h1 (j:=d) (by rw[CE];simp) ?_;rw[testBit_or,DI.2 hm];rfl
 ·rw[hd,he]at h1;refine FN h1 (j:=d) (by rw[CE];simp) ?_;rw[testBit_or,CE];simp
 ·rw[hd]at h2;exact FN h2 (j:=d) (by rw[CE];simp) (DI.2 hm)
def AIV(l:List fh)(tl:List Nat)(e:Nat):List Nat->Nat->Bool
 |[],_=>true
 |i::r,done=>HA (J7 i (afL l 0) 0) fun B=>
  bh i l.length&&!(TK done i)&&NV l i done&&bn (Nat.land B done) 0&&tl.all (TK B)&&r.all (fun j=>TK B j||(!(bn i e)&&uT l i j))&&HA (Nat.lor done (Nat.shiftLeft 1 i)) (AIV l tl e r)
theorem cU{tl:List Nat}(hg:JB l gs l=true):∀{R:List Nat} {done:Nat} {listed:Array Bool},J4 l (R++tl) done listed->AIV l tl e R done=true->PhY l gs e R listed
 |[],_,_,_,_=>trivial
 |i::r,done,listed,hL,h=>by
  unfold AIV at h;rw[E2,E2]at h;simp only[bj,Bool.not_eq_true',bz,Bool.or_eq_true]at h;obtain⟨⟨⟨⟨⟨⟨h1,h2⟩,h3⟩,h4⟩,h5⟩,h6⟩,h7⟩:=h;have hi:i<l.length:=by simpa [fq]using h1
  have hw:=ME (l:=l) (i:=i) (js:=afL l 0) (B:=0) (fun p hp=>by
   obtain⟨k,o,e1,e2,e3⟩:=eW (j:=p.1) (m:=p.2) hp;exact⟨o,by rw[e1,dh]; exact e2,e3⟩) (fun b hb=>by simp at hb)
  generalize J7 i (afL l 0) 0=B at *;have hb:∀b,b∈(fk l.length).filter (fun b=>B.testBit b)↔B.testBit b=true:=fun b=>by rw[List.mem_filter,List.mem_range];refine⟨fun h=>h.2,fun h=>⟨?_,h⟩⟩;obtain⟨o,ho,_⟩:=hw b h;exact(bx.1 ho).1
  refine⟨⟨l[i],(fk l.length).filter (fun b=>B.testBit b),bg hi,⟨hL.ready hi h2 h3,by simp,fun b hbm=>?_,fun b hbm=>?_,fun j oj hj hji hjB hun=>?_⟩⟩,cU hg (hL.next hi) h7⟩
  ·obtain⟨o,ho,x,he,hbi,hon⟩:=hw b ((hb b).1 hbm);exact⟨o,ho,x,he,hbi,hon.imp id fun h=>(hb _).2 h⟩
  ·have hbt:=(hb b).1 hbm;refine hL.un.2 ⟨?_,?_⟩
   ·obtain⟨o,ho,_⟩:=hw b hbt;exact(bx.1 ho).1
   ·cases hd:done.testBit b with
    |false=>rfl
    |true=>exact(FN h4 hbt hd).elim
  ·obtain⟨hlt,hdn⟩:=hL.un.1 hun;have hnb:B.testBit j=false:=by
    cases hd:B.testBit j with
    |false=>rfl
    |true=>exact absurd ((hb j).2 hd) hjB
   rcases dt.1 (hL.cov j hlt hdn)with hm|hm
   ·rcases fw.1 hm with rfl|hr
    ·exact absurd rfl hji
    ·have hp:i≠e/\uT l i j=true:=by
      rcases h6 j hr with h6|h6
      ·rw[R9,hnb]at h6;cases h6
      ·refine⟨fun he=>?_,h6.2⟩;have:=h6.1;rw[he,cg]at this;cases this
     obtain⟨a1,a2,a3⟩:=rJ (bg hi) hj hp.2;exact⟨hp.1,hm,R7 (_x:=l[i]) a1 (MC hg hj),R7 (_x:=oj) a3 (MC hg (bg hi)),a2⟩
   ·have:=h5 j hm;rw[R9,hnb]at this;cases this
abbrev aS:=List (List Nat×Nat)
def OG(S:aS):List Nat:=S.flatMap fun p=>p.1
def uU(l:List fh):aS->Nat->Bool
 |[],_=>true
 |(R,e)::S,done=>R.all (bh · l.length)&&YB R&&AIV l (OG S) e R done&&HA (ACW done R) (uU l S)
def fY(N:Nat)(gs:List (Option (Tmp×Bool)))(S:aS)(l:List fh):Bool :=
 K3 N l&&JB l gs l&&uU l S 0&&bn (OG S).length l.length&&bn (M9 (OG S)) (2 ^ l.length-1)
def fZ(P:fp)(l:List fh)(gs:List (Option (Tmp×Bool))):aS->Fr->St->(Fr->St->Prop)->Prop
 |[],fr,s,K=>K fr s
 |(R,e)::S,fr,s,K=>OE P l gs e R fr s fun fr s=>fZ P l gs S fr s K
theorem ID.sameF(h:ID n N G0 G fr s a w)(hs:KF fr fr'):ID n N G0 G fr' s a w:=h.same ⟨hs,fun _ _=>rfl,rfl⟩
theorem SM{K:Exit->Fr->St->Prop}(hN:K3 N l=true)(hg:JB l gs l=true):∀(S:aS) (done:Nat) (listed:Array Bool),J4 l (OG S) done listed->uU l S done=true ->
  ∀(G:Gh) (fr:Fr) (s:St) (a:Act) (w:ft),ID n N G0 G fr s a w->fZ P l gs S fr s (K .normal)->wpAnyIn (wf ρ) 0 P .any l.toArray (KO n N G0 K) (OG S).length listed a w
 |[],done,listed,hL,_,G,fr,s,a,w,hR,h=>by refine⟨cq.2 fun j hj=>?_,G,fr,s,hR,h⟩;obtain⟨h1,o,ho,_⟩:=mem_ready.1 hj;obtain⟨hlt,hdn⟩:=hL.un.1 h1;exact absurd (hL.cov j hlt hdn) (by simp[OG])
 |(R,e)::S,done,listed,hL,hM,G,fr,s,a,w,hR,h=>by
  unfold uU at hM;rw[E2]at hM;simp only[bj]at hM;obtain⟨⟨⟨h1,h2⟩,h3⟩,h4⟩:=hM;have hfl:OG ((R,e)::S)=R++OG S:=by simp[OG]
  rw[hfl]at hL;have hL1:=hL.fold (fun i hi=>by simpa [fq]using bz.1 h1 i hi);have hP:=cU hg hL h3;let T:Array Bool->Fr->St->Prop:=fun listed fr s=>∀G a w,ID n N G0 G fr s a w->wpAnyIn (wf ρ) 0 P .any l.toArray (KO n N G0 K) (OG S).length listed a w;have hw':OE P l gs e R fr s (T (R.foldl (fun L i=>L.setIfInBounds i true) listed)) :=
   Y4 R fr s _ _ (fun f1 s1 h' G a w hR=>SM hN hg S _ _ hL1 h4 G f1 s1 a w hR h') h
  have hA:=SL (T:=T) (fun listed f1 f2 s hs hT G a w hR=>hT G a w (hR.sameF fun k=>(hs k).symm)) R _ fr s (NW h2) hP hw';have hB:=Y5 (ρ:=ρ) (K:=K) hN hg (T:=T) (t:=(OG S).length) (fun listed f1 s1 G a w hT hR=>hT G a w hR) R.length R _ G fr s a _ hR hA;rw[hfl];simpa using hB
theorem rK{id:Nat}{K:Exit->Fr->St->Prop}(hm:P.follows .mixedOrders=true)(gs:List (Option (Tmp×Bool)))(S:aS)(hB:fY N gs S l=true)
  (h:fZ P l gs S fr s (K .normal)):BD P n N ρ (.region id l.toArray true) K fr s:=by
 simp only[fY,bj]at hB
 obtain⟨⟨⟨⟨h1,h2⟩,h4⟩,h5⟩,h6⟩:=hB
 intro G0 G a w hR
 refine wpIn_region_any hm ?_
 have hR':ID n N G0 G fr s a { w with drawn:=w.drawn+1 }:=⟨hR.le,hR.inv.drawn _,hR.fr,hR.size,hR.lvl,hR.marks⟩
 have:=SM (ρ:=ρ) (K:=K) h1 h2 S 0 _ (J4.start (l:=l) h6) h4 G fr s a _ hR' h
 rw[bq h5]at this
 simpa using this
def uV(l:List fh):List Nat->List Nat->aS
 |[],left=>[(left,l.length)]
 |e::es,left=>(left.filter (fun i=>!(bn i e)&&!(es.any (bn i))&&!((e::es).any fun x=>TK (J7 x (afL l 0) 0) i))++[e],e)::uV l es (left.filter fun i=>!(bn i e)&&(es.any (bn i)||(e::es).any fun x=>TK (J7 x (afL l 0) 0) i))
def AEF(l:List fh):aS:=uV l ((fk l.length).filter fun i=>match l[i]? with
 |some o=>kC o
 | none=>false) (fk l.length)
def cY1(E:XE)(d:Option Tmp)(st:XS):Option V->Option (List V)->Option XS
 |some (.fn f first cap),some vs=>match E.cf f ((first++vs++cap).map weakV) st with
  |some (r,st')=>some ⟨st'.c,putD st'.fr d true r,st'.s⟩
  |none=>none
 |_,_=>none
def AQC(E:XE)(o:fh)(st:XS):Option XS:=match o.op with
 |.call c=>match c.callee with
  |.value f=>cY1 E o.dst st (BV st.fr f) (EE (BV st.fr) c.args.toList)
  |_=>none
 |_=>none
def ALZ(st:XS):Option XS->Option XS
 |some st1=>some ⟨st.c,st1.fr,st.s⟩
 |none=>none
def AQD(P:fp)(o:fh)(st:XS):Option XS:=ALZ st (xVal P o ⟨st.c,st.fr,⟨[],[]⟩⟩)
def opY(P:fp)(E:XE)(l:List fh)(b:Bool)(o:fh)(st:XS):Option XS:=match gdX st.fr (KR l o)with
 |some true=>Bool.rec (AQD P o st) (AQC E o st) b
 |_=>none
def phY(P:fp)(E:XE)(l:List fh)(e:Nat):List Nat->XS->Option XS
 |[],st=>some st
 |i::r,st=>match l[i]? with
  |some o=>match opY P E l (bn i e) o st with
   |some st'=>phY P E l e r st'
   |none=>none
  |none=>none
def AIW(P:fp)(E:XE)(l:List fh):aS->XS->Option XS
 |[],st=>some st
 |p::S,st=>match phY P E l p.2 p.1 st with
  |some st1=>AIW P E l S st1
  |none=>none
def uW(P:fp)(E:XE)(N:Nat)(l:List fh)(st:XS):Option XS:=Bool.rec none (AIW P E l (AEF l) st) (fY N (l.map (KR l)) (AEF l) l)
theorem yI(n l k:Nat):(⟨dx n [],[]⟩:St).get l k=none:=by
 unfold St.get;split
 ·rfl
 ·split
  ·rename_i L hL;simp only[List.getElem?_replicate]at hL;split at hL
   ·cases hL;rfl
   ·cases hL
  ·rfl
theorem AQE{E:XE}(hEE:JQ P E){b:Bool}{o:fh}{st st':XS}(h:Bd st)(hx:opY P E l b o st=some st'):H8 st st'/\(∀σ δ,NE (st.fr.ren σ δ) (KR l o)=some true) /\
  (b=true->∀(σ:Nat->Nat) (pre:List AA) (K:Fr->St->Prop),(∀σ',AR st.c σ σ'->K (st'.fr.ren σ' pre.length) (st'.s.emb σ' pre))->∃f args,HQ true o (st.fr.ren σ pre.length)=some (f,args)/\DX P f args (st.s.emb σ pre) fun r s'=>K (putD (st.fr.ren σ pre.length) o.dst true r) s') /\
  (b=false->∀(σ:Nat->Nat) (pre:List AA) (K:Fr->St->Prop),(∀σ',AR st.c σ σ'->K (st'.fr.ren σ' pre.length) (st'.s.emb σ' pre))->∃v,(∀s,FD P true o (st.fr.ren σ pre.length) s=some v)/\K (putD (st.fr.ren σ pre.length) o.dst true v) (st.s.emb σ pre)):=by
 unfold opY at hx
 split at hx
 ·rename_i hg;rw[pR]at hg;have hgd:∀σ δ,NE (st.fr.ren σ δ) (KR l o)=some true:=fun σ δ=>ML hg;cases b with
  |true=>
   have hx:AQC E o st=some st':=hx
   unfold AQC at hx
   split at hx
   ·rename_i c ho;split at hx
    ·rename_i f hc;unfold cY1 at hx;split at hx
     ·rename_i fid first cap vs hf hvs;split at hx
      ·rename_i r GU hcall;cases hx;have hbf:=AC4 (h.rd hf);obtain⟨hE,hbr,hfr,hA⟩:=hEE.cf _ _ _ _ _ hcall h (fun v hv=>by
        obtain⟨u,hu,rfl⟩:=dk.1 hv;refine fA ?_;rcases dt.1 hu with hu|hu
        ·rcases dt.1 hu with hu|hu
         ·exact hbf.1 u hu
         ·exact WF h hvs u hu
        ·exact hbf.2 u hu)
       refine⟨⟨hE.c,hE.bd.putF hbr,hE.n⟩,hgd,fun _ σ pre K hk=>?_,fun h=>(by cases h)⟩;refine⟨fid,(((first++vs++cap).map weakV).map (V.ren σ pre.length)),?_,?_⟩
       ·rw[DM]at hf;rw[KB,E9]at hvs;unfold HQ;obtain⟨cal,args,Ts⟩:=c;have hc:cal=.value f:=hc;subst hc;have hvs':args.toList.mapM (DO true (st.fr.ren σ pre.length))=some (vs.map (V.ren σ pre.length)):=by rw[H7];exact HF hvs
        simp only[ho,C4,hf,hvs',dg,MG];rw[HG];simp only[List.map_append]
       ·refine hA σ pre _ fun σ' ha=>?_;have:=hk σ' ha;rw[EZ,hfr,<-h.f σ σ' pre.length ha]at this;exact this
      ·cases hx
     ·cases hx
    ·cases hx
   ·cases hx
  |false=>
   have hx:AQD P o st=some st':=hx
   unfold AQD ALZ at hx
   split at hx
   ·rename_i st1 h1;cases hx;unfold xVal at h1;split at h1
    ·rename_i v hv;cases h1;have hv:=O7 hv;have hb0:Bd (⟨st.c,st.fr,⟨[],[]⟩⟩:XS):=⟨h.f,fun σ σ' pre _=>rfl,fun l k γ fr ps asg body N ls hg=>by simp[St.get]at hg⟩;have hbv:S5 st.c v:=hb0.val hv;refine⟨⟨bf _,h.putF hbv,rfl⟩,hgd,fun h=>(by cases h),fun _ σ pre K hk=>⟨v.ren σ pre.length,fun s=>?_,?_⟩⟩
     ·have q:=IL (σ:=σ) (pre:=dx pre.length []) hv;simp only[List.length_replicate]at q;refine kG (fun l k x hx=>?_) q;have e0:(⟨[],[]⟩:St).emb σ (dx pre.length [])=⟨dx pre.length [],[]⟩:=by simp[St.emb,AA.ren]
      rw[e0,yI]at hx;cases hx
     ·have:=hk σ (AR.refl _ _);rw[EZ]at this;exact this
    ·cases h1
   ·cases hx
 ·cases hx
theorem AEG{E:XE}(hEE:JQ P E):∀{R:List Nat} {st st':XS},Bd st->phY P E l e R st=some st'->H8 st st' /\
  ∀(σ:Nat->Nat) (pre:List AA) (K:Fr->St->Prop),(∀σ',AR st.c σ σ'->K (st'.fr.ren σ' pre.length) (st'.s.emb σ' pre))->OE P l (l.map (KR l)) e R (st.fr.ren σ pre.length) (st.s.emb σ pre) K
 |[],st,st',h,hx=>by cases hx;exact⟨⟨bf _,h,rfl⟩,fun σ pre K hk=>hk σ (AR.refl _ _)⟩
 |i::r,st,st',h,hx=>by
  simp only[phY]at hx;split at hx
  ·rename_i o ho;split at hx
   ·rename_i st1 h1;obtain⟨hE,hg,h2,h3⟩:=AQE hEE h h1;obtain⟨hE',hs'⟩:=AEG hEE hE.bd hx;refine⟨⟨dv hE.c hE'.c,hE'.bd,hE'.n.trans hE.n⟩,fun σ pre K hk=>?_⟩;have hk1:∀σ',AR st.c σ σ'->OE P l (l.map (KR l)) e r (st1.fr.ren σ' pre.length) (st1.s.emb σ' pre) K:=fun σ' ha=>hs' σ' pre K fun σ'' ha'=>hk σ'' (ha.trans ha' hE.c);simp only[OE,HT,ho,WG ho];by_cases hie:i=e
    ·rw[if_pos hie];obtain⟨f,args,q1,q2⟩:=h2 (by rw[hie];exact cg e) σ pre (fun fr s=>OE P l (l.map (KR l)) e r fr s K) hk1;exact⟨f,args,hg _ _,q1,q2⟩
    ·rw[if_neg hie];obtain⟨v,q1,q2⟩:=h3 (by
      cases hb:bn i e with
      |false=>rfl
      | true=>exact absurd (bq hb) hie) σ pre (fun fr s=>OE P l (l.map (KR l)) e r fr s K) hk1
     exact⟨v,hg _ _,q1,q2⟩
   ·cases hx
  ·cases hx
theorem uX{E:XE}(hEE:JQ P E):∀{S:aS} {st st':XS},Bd st->AIW P E l S st=some st'->H8 st st' /\
  ∀(σ:Nat->Nat) (pre:List AA) (K:Fr->St->Prop),(∀σ',AR st.c σ σ'->K (st'.fr.ren σ' pre.length) (st'.s.emb σ' pre))->fZ P l (l.map (KR l)) S (st.fr.ren σ pre.length) (st.s.emb σ pre) K
 |[],st,st',h,hx=>by cases hx;exact⟨⟨bf _,h,rfl⟩,fun σ pre K hk=>hk σ (AR.refl _ _)⟩
 |p::S,st,st',h,hx=>by
  simp only[AIW]at hx;split at hx
  ·rename_i st1 h1;obtain⟨hE,hs⟩:=AEG hEE h h1;obtain⟨hE',hs'⟩:=uX hEE hE.bd hx;refine⟨⟨dv hE.c hE'.c,hE'.bd,hE'.n.trans hE.n⟩,fun σ pre K hk=>?_⟩;exact hs σ pre _ fun σ' ha=>hs' σ' pre K fun σ'' ha'=>hk σ'' (ha.trans ha' hE.c)
  ·cases hx
theorem AEH(hP:DR P){E:XE}(hEE:JQ P E){id:Nat}{st st':XS}(hx:uW P E N l st=some st')(hbd:Bd st):H8 st st' /\
  ∀(n:Nat) (ρ:Option Nat) (σ:Nat->Nat) (pre:List AA) (K:Exit->Fr->St->Prop),(∀σ',AR st.c σ σ'->K .normal (st'.fr.ren σ' pre.length) (st'.s.emb σ' pre))->BD P n N ρ (.region id l.toArray true) K (st.fr.ren σ pre.length) (st.s.emb σ pre):=by
 unfold uW at hx
 obtain⟨hok,hx⟩:=DZ hx
 obtain⟨hE,hs⟩:=uX hEE hbd hx
 exact⟨hE,fun n ρ σ pre K hk=>rK hP.mixed (l.map (KR l)) (AEF l) hok (hs σ pre _ hk)⟩
end Go.Pg
namespace Go.Pg
variable {P:fp}{n N:Nat}{ρ:Option Nat}{G0 G:Gh}{fr fr':Fr}{s s':St}{a:Act}{w:ft}
def ldC(o:fh):Option (gk×Tmp×Tmp):=match o.op with
 |.load T (.tmp a)=>match o.dst with
  |some d=>some (T,a,d)
  |none=>none
 |_=>none
def HJ(l:List fh):List (gk×Tmp×Tmp):=l.filterMap ldC
def AQF(P:fp)(T:gk):Bool:=match P.underlying T with
 |some (.struct _)=>true
 |some (.array _ _)=>true
 |_=>bn (P.cellsOf T) 1
def A2G(all:List fh)(o:fh)(T:gk)(a d:Tmp):Bool:=o.after.toList.any fun e=>Region.binds .any e&&match all[e.on]? with
 |some p=>match ldC p with
  |some k=>bn k.1 T&&bn k.2.1 a&&bn k.2.2 d
  |none=>false
 |none=>false
def AEI(P:fp)(all:List fh)(ks:List (gk×Tmp×Tmp))(j:Nat)(o:fh):Bool :=
 (KR all o).isNone&&(o.after.toList.all fun e=>!(Region.binds .any e)||bh e.on j)&&match o.op with
 |.load _ (.tmp a)=>o.dst.isSome&&ks.all (fun k=>!(bn k.2.2 a))
 |.store T (.tmp a) (.tmp d)=>o.dst.isNone&&ks.all (fun k=>!(bn k.2.2 a))&&bh 0 (P.cellsOf T)&&AQF P T&&A2G all o T a d
 |_=>false
def rL(P:fp)(all:List fh)(ks:List (gk×Tmp×Tmp)):List fh->Nat->Bool
 |[],_=>true
 |o::r,j=>AEI P all ks j o&&rL P all ks r (j+1)
def AIY(l:List fh):Nat:=(l.filter kW).length
def PT(P:fp)(l:List fh):Bool:=bh 2 (AIY l)&&rL P l (HJ l) l 0
theorem WJ{all:List fh}{ks:List (gk×Tmp×Tmp)}:∀{l:List fh} {j:Nat},rL P all ks l j=true->∀{i:Nat} {o:fh},l[i]? = some o->AEI P all ks (j+i) o=true
 |[],_,_,i,o,h=>by simp at h
 |p::r,j,hB,i,o,h=>by
  simp only[rL,bj]at hB;cases i with
  |zero=>simp at h;subst h;exact hB.1
  |succ i=>
   have:=WJ hB.2 (i:=i) (o:=o) (by simpa using h)
   rwa [show j+1+i=j+(i+1) by omega]at this
theorem OH{o:fh}{k:gk×Tmp×Tmp}(h:ldC o=some k):o.op=.load k.1 (.tmp k.2.1)/\o.dst=some k.2.2:=by
 unfold ldC at h;split at h
 ·rename_i T a ho;split at h
  ·rename_i d hd;cases h;exact⟨ho,hd⟩
  ·cases h
 ·cases h
theorem mE{g:Bool}{t:Tmp}(h:fr'.get t=fr.get t):DO g fr' (.tmp t)=DO g fr (.tmp t):=by
 show(match fr'.get t with
  |some (c,v)=>if (!g||c)=true then some v else none
  | none=>none)=_
 rw[h];rfl
def A2H (T : gk) (x : Operand) : fh := { dst := none, op := .load T x, type := 0, pos := "", after := #[], guard := none }
def rM:Option V->Bool
 |some (.ptr ..)=>true
 |_=>false
def AQG(P:fp)(k:gk×Tmp×Tmp):Option XS->Option XS
 | some st=>Bool.rec none (match N5 P st.fr st.s k.1 (.tmp k.2.1)with
  |some v=>some ⟨st.c,putD st.fr (some k.2.2) true v,st.s⟩
  | none=>none) (rM (BV st.fr (.tmp k.2.1)))
 |none=>none
def PU(P:fp):List (gk×Tmp×Tmp)->Option XS->Option XS
 |[],o=>o
 |k::r,o=>PU P r (AQG P k o)
theorem cV:∀(ks:List (gk×Tmp×Tmp)),PU P ks none=none
 |[]=>rfl
 |_::r=>cV r
def AQH(P:fp)(fr frF:Fr)(s:St)(k:gk×Tmp×Tmp):Prop :=
 ∃v l q γ off,frF.get k.2.2=some (true,v)/\DO true fr (.tmp k.2.1)=some (.ptr l q γ off)/\(BA s (.ptr l q γ off)).bind (BJ P k.1)=some v
theorem cW:∀(ks:List (gk×Tmp×Tmp)) {st st':XS},(∀k∈ks,∀k'∈ks,k.2.2≠k'.2.1)->(ks.map (·.2.2)).Nodup->Bd st->PU P ks (some st)=some st' ->
  Bd st'/\st'.c=st.c/\st'.s=st.s/\(∀t,(∀k∈ks,k.2.2≠t)->st'.fr.get t=st.fr.get t)/\∀k∈ks,AQH P st.fr st'.fr st.s k
 |[],st,st',_,_,hb,h=>by cases h;exact⟨hb,rfl,rfl,fun _ _=>rfl,fun k hk=>by cases hk⟩
 |k::r,st,st',h1,h2,hb,h=>by
  simp only[PU]at h;cases hs:AQG P k (some st)with
  |none=>rw[hs,cV]at h;cases h
  |some st1=>
   rw[hs]at h
   unfold AQG at hs
   simp only at hs
   cases hp:rM (BV st.fr (.tmp k.2.1))with
   |false=>rw[hp]at hs;cases hs
   |true=>
   rw[hp]at hs
   simp only at hs
   split at hs
   ·rename_i v hv;have hl:FD P true (A2H k.1 (.tmp k.2.1)) st.fr st.s=some v:=by
     unfold N5 at hv;rw[DM]at hv;show((DO true st.fr (.tmp k.2.1)).bind fun v=>(BA st.s v).bind fun cs=>BJ P k.1 cs)=some v;revert hv;cases DO true st.fr (.tmp k.2.1)with
     |none=>intro hv;cases hv
     |some p=>
      simp only[fc]
      cases BA st.s p with
      |none=>intro hv;cases hv
      |some cs=>exact fun hv=>hv
    have hbv:=hb.val hl;cases hs;have hb1:Bd ({ st with fr:=putD st.fr (some k.2.2) true v }:XS):=hb.putF hbv;simp only[bt,dr]at h2;obtain⟨b1,b2,b3,b4,b5⟩:=cW r (fun x hx y hy=>h1 x (by simp[hx]) y (by simp[hy])) h2.2 hb1 h;refine⟨b1,b2,b3,fun t ht=>?_,fun x hx=>?_⟩
    ·rw[b4 t fun x hx=>ht x (by simp[hx])];show(putD st.fr (some k.2.2) true v).get t=_;rw[F1,if_neg (fun e=>ht k (by simp) (by simpa using e))]
    ·rcases fw.1 hx with rfl|hx
     ·unfold rM at hp;rw[DM]at hp;split at hp
      ·rename_i l q γ off hr;refine⟨v,l,q,γ,off,?_,hr,?_⟩
       ·rw[b4 x.2.2 fun y hy e=>h2.1 (dk.2 ⟨y,hy,e⟩)];show(putD st.fr (some x.2.2) true v).get x.2.2=_;rw[F1,if_pos rfl]
       ·have hl:((DO true st.fr (.tmp x.2.1)).bind fun v=>(BA st.s v).bind fun cs=>BJ P x.1 cs)=some v:=hl;rw[hr]at hl;exact hl
      ·cases hp
     ·obtain⟨v',l,q,γ,off,c1,c2,c3⟩:=b5 x hx;refine⟨v',l,q,γ,off,c1,?_,c3⟩;have:DO true (putD st.fr (some k.2.2) true v) (.tmp x.2.1)=DO true st.fr (.tmp x.2.1):=mE (by
       rw[F1,if_neg (fun e=>h1 k (by simp) x (by simp[hx]) (by simpa using e))])
      rw[<-this];exact c2
   ·cases hs
theorem mF{T:gk}{cs:List V}{v:V}(h:BJ P T cs=some v)(h1:AQF P T=true)(hc:∀x∈cs,x.isCell=true):A9 v=true/\A8 v=cs.take (P.cellsOf T)/\P.cellsOf T<=cs.length:=by
 have one:P.cellsOf T=1->cs[0]? = some v->A9 v=true/\A8 v=cs.take (P.cellsOf T)/\P.cellsOf T<=cs.length:=fun e h=>by
  cases cs with
  |nil=>cases h
  |cons c cs=>
   simp only[List.getElem?_cons_zero,fx.injEq]at h
   subst h
   have hi:=hc c (by simp)
   rw[e]
   refine⟨?_,?_,by simp⟩
   ·cases c<;>first|rfl|cases hi
   ·cases c<;>first|rfl|cases hi
 unfold BJ at h;unfold AQF at h1;split at h
 ·split at h
  ·rename_i hle;cases h;exact⟨rfl,rfl,hle⟩
  ·cases h
 ·split at h
  ·rename_i hle;cases h;exact⟨rfl,rfl,hle⟩
  ·cases h
 ·rename_i g1 g2 hu;split at h1
  ·rename_i fs e;rw[hu]at e;cases e;exact(g1 _ rfl).elim
  ·rename_i m x e;rw[hu]at e;cases e;exact(g2 _ _ rfl).elim
  ·exact one (bq h1) h
 ·cases h
theorem mG{α:Type}(cs:List α)(off m:Nat):A6 cs off ((cs.drop off).take m)=cs:=by
 unfold A6;rw[List.length_take,cr,List.append_assoc];have:(cs.drop off).take m++cs.drop (off+min m (cs.length-off))=cs.drop off:=by
  rw[<-List.drop_drop];have e:min m (cs.length-off)=min m (cs.drop off).length:=by rw[cr]
  rw[e];generalize cs.drop off=ds;by_cases h:m<=ds.length
  ·rw[Nat.min_eq_left h,dl]
  ·rw[Nat.min_eq_right (by omega),List.drop_length,db (by omega),List.append_nil]
 rw[this,dl]
structure A2I(l:List fh)(fr frF:Fr)(s:St)(listed:Array Bool)(fr':Fr)(s':St):Prop where
 o:∀t,(∀k∈HJ l,k.2.2≠t)->fr'.get t=fr.get t
 d:∀j o k,l[j]? = some o->ldC o=some k->listed.getD j true=true->fr'.get k.2.2=frF.get k.2.2
 p:∀i k,s'.get i k=s.get i k
 n:s'.up.length=s.up.length
theorem yJ{listed:Array Bool}{i:Nat}:(listed.setIfInBounds i true).getD i true=true:=by
 rcases br i listed.size with h|h
 ·simp[h]
 ·simp
theorem AIZ{l:List fh}{K:Exit->Fr->St->Prop}(hN:K3 N l=true)(hg:JB l (l.map (KR l)) l=true)(hD:xI l)(hC:rL P l (HJ l) l 0=true){frF:Fr}
  (h1:∀t,(∀k∈HJ l,k.2.2≠t)->frF.get t=fr.get t) (h2:∀k∈HJ l,AQH P fr frF s k) (hK:K .normal frF s) :
  ∀(R:List Nat) (listed:Array Bool) (G:Gh) (fr':Fr) (s':St) (a:Act) (w:ft),R.Nodup->(∀j,j∈R↔j<l.length/\listed.getD j true=false)->A2I l fr frF s listed fr' s'->ID n N G0 G fr' s' a w ->
   wpAnyIn (wf ρ) 0 P .any l.toArray (KO n N G0 K) R.length listed a w:=by
 have mem:∀{j:Nat} {o:fh} {k:gk×Tmp×Tmp},l[j]? = some o->ldC o=some k->k∈HJ l:=fun hj hk=>ck.2 ⟨_,List.mem_of_getElem? hj,hk⟩
 intro R
 induction hm:R.length generalizing R with
 |zero=>
  intro listed G fr' s' a w hnd hR hI hrel
  have e:R=[]:=List.eq_nil_of_length_eq_zero hm
  subst e
  refine⟨?_,G,frF,s,hrel.same ⟨fun t=>?_,hI.p,hI.n⟩,hK⟩
  ·refine cq.2 fun j hj=>?_;obtain⟨q1,o,ho,_⟩:=mem_ready.1 hj;have:=(hR j).2 ⟨by
    have:=(bw.1 ho).1;simpa using this,q1⟩
   cases this
  ·by_cases ht:∀k∈HJ l,k.2.2≠t
   ·rw[hI.o t ht,h1 t ht]
   ·have⟨k,hk,e⟩:∃k∈HJ l,k.2.2=t:=Classical.byContradiction fun hn=>ht fun k hk e=>hn ⟨k,hk,e⟩;obtain⟨o,ho,hk⟩:=ck.1 hk;obtain⟨j,hj⟩:=fj ho;rw[<-e];refine hI.d j o k hj hk ?_;cases hl:listed.getD j true with
    |true=>rfl
    |false=>exact absurd ((hR j).2 ⟨(bx.1 hj).1,hl⟩) (by simp)
 |succ m ih=>
  intro listed G fr' s' a w hnd hR hI hrel
  refine⟨fun h0=>?_,fun i hi=>?_⟩
  ·exfalso;have hex:∃j,j∈R:=by
    cases R with
    |nil=>simp at hm
    |cons x R=>exact⟨x,by simp⟩
   obtain⟨j0,hj0⟩:=hex;have least:∀d j,j<=d->j∈R->∃j∈R,∀i,i<j->i∉R:=by
    intro d;induction d with
    |zero=>intro j hj hm;exact⟨j,hm,fun i hi=>by omega⟩
    |succ d ihd=>
     intro j hj hm
     by_cases hx:∃i,i<j/\i∈R
     ·obtain⟨i,hi,hi2⟩:=hx;exact ihd i (by omega) hi2
     ·exact⟨j,hm,fun i hi hi2=>hx ⟨i,hi,hi2⟩⟩
   obtain⟨j,hj,hmin⟩:=least j0 j0 (bf _) hj0;obtain⟨q1,q2⟩:=(hR j).1 hj;have ho:l[j]? = some l[j]:=bg q1;have hc:=WJ hC ho;rw[dh]at hc;simp only[AEI,bj,bz]at hc;have:j∈Region.ready .any l.toArray listed:=mem_ready.2 ⟨q2,l[j],by simp,fun e he hb=>by
    have hlt:=hc.1.2 e (by simpa using he);rw[hb]at hlt;have hlt:e.on<j:=by simpa [fq]using hlt
    have hni:=hmin e.on hlt;cases hd:listed.getD e.on false with
    |true=>rfl
    |false=>
     refine absurd ((hR e.on).2 ⟨by omega,?_⟩) hni
     rcases br e.on listed.size with h'|h'
     ·simp[h']at hd|-;exact hd
     ·exfalso;rcases br j listed.size with h''|h''
      ·omega
      ·simp[cd h'']at q2⟩
   rw[h0]at this;cases this
  ·obtain⟨q1,o,ho,hwait⟩:=mem_ready.1 hi;have ho:l[i]? = some o:=by simpa using ho
   have hil:i<l.length:=(bx.1 ho).1;have hiR:i∈R:=(hR i).2 ⟨hil,q1⟩;have hc:=WJ hC ho;rw[dh]at hc;simp only[AEI,bj,bz]at hc;obtain⟨⟨c1,_⟩,c3⟩:=hc;have hgn:aA (l.map (KR l)) i=none:=by rw[WG ho];exact dz.1 c1
   have hgd:NE fr' (aA (l.map (KR l)) i)=some true:=by rw[hgn];rfl
   have hlen:(R.erase i).length=m:=by rw[dw hiR,hm];rfl
   have hR':∀j,j∈R.erase i↔j<l.length/\(listed.setIfInBounds i true).getD j true=false:=fun j=>by
    rw[List.Nodup.mem_erase_iff hnd,hR];by_cases e:j=i
    ·subst e;rw[yJ];simp
    ·rw[getD_set_ne true (Ne.symm e)];simp[e]
   have next:∀(fr2:Fr) (s2:St),A2I l fr frF s (listed.setIfInBounds i true) fr2 s2->∀G' a' w',ID n N G0 G' fr2 s2 a' w'->wpAnyIn (wf ρ) 0 P .any l.toArray (KO n N G0 K) m (listed.setIfInBounds i true) a' w' :=
    fun fr2 s2 hI2 G' a' w' hr2=>ih (R.erase i) hlen (listed.setIfInBounds i true) G' fr2 s2 a' w' (hnd.erase i) hR' hI2 hr2
   have same:∀(t:Tmp),(∀k∈HJ l,k.2.2≠t)->DO true fr' (.tmp t)=DO true fr (.tmp t):=fun t ht=>mE (hI.o t ht);have cel:∀v,BA s' v=BA s v:=fun v=>by unfold BA;cases v<;>first|rfl|simp only[hI.p]
   split at c3
   ·rename_i T t hop;simp only[bj]at c3;obtain⟨d,hd⟩:=Option.isSome_iff_exists.1 c3.1;have hk:ldC o=some (T,t,d):=by simp only[ldC,hop,hd]
    have hnt:∀k∈HJ l,k.2.2≠t:=fun k hk e=>by have:=bz.1 c3.2 k hk;rw[e,cg]at this;cases this
    obtain⟨v,l1,q,γ,off,e1,e2,e3⟩:=h2 _ (mem ho hk);refine HB hrel hN hg ho hgd (k:=fun f2 s2=>f2=putD fr' o.dst true v/\s2=s') ?_ fun G' a' w' fr2 s2 hr2 hk2=>?_
    ·refine .inl (DL (Ω:=G8.nothing P) (.inl ⟨v,?_,rfl,rfl⟩));have:FD P true o fr' s'=(DO true fr' (.tmp t)).bind fun v=>(BA s' v).bind fun cs=>BJ P T cs:=by unfold FD;rw[hop];show IU P o s' (DO true fr')=_;unfold IU;rw[hop]
     rw[this,same t hnt,e2,fc,cel];exact e3
    ·obtain⟨rfl,rfl⟩:=hk2;refine next _ _ ⟨fun x hx=>?_,fun j p k hj hpk hl=>?_,hI.p,hI.n⟩ G' a' w' hr2
     ·rw[F1,hd,if_neg (fun e=>hx _ (mem ho hk) (by simpa using e))];exact hI.o x hx
     ·by_cases e:j=i
      ·subst e;rw[ho]at hj;cases hj;rw[hk]at hpk;cases hpk;rw[F1,hd,if_pos rfl];exact e1.symm
      ·rw[getD_set_ne true (Ne.symm e)]at hl;have hne:=hD i j o p d ho hj (Ne.symm e) hd;rw[F1,hd,if_neg (fun e=>hne (by rw[(OH hpk).2];simpa using e.symm))];exact hI.d j p k hj hpk hl
   ·rename_i T t d hop;simp only[bj]at c3;obtain⟨⟨⟨⟨d1,d2⟩,d3⟩,d4⟩,d5⟩:=c3;have hdn:o.dst=none:=dz.1 d1;have hnt:∀k∈HJ l,k.2.2≠t:=fun k hk e=>by have:=bz.1 d2 k hk;rw[e,cg]at this;cases this
    obtain⟨e,he,hb⟩:=List.any_eq_true.1 d5;simp only[bj]at hb;obtain⟨hb,hp⟩:=hb;split at hp
    ·rename_i p hpl;split at hp
     ·rename_i k hk;simp only[bj]at hp;have k1:k.1=T:=bq hp.1.1;have k2:k.2.1=t:=bq hp.1.2;have k3:k.2.2=d:=bq hp.2;have hdone:listed.getD e.on true=true:=by
       have:=hwait e (by simpa using he) hb;rcases br e.on listed.size with h'|h'
       ·simp[h']at this|-;exact this
       ·simp[cd h']
      obtain⟨v,l1,q,γ,off,e1,e2,e3⟩:=h2 _ (mem hpl hk);have hfd:fr'.get d=some (true,v):=by rw[<-k3,hI.d e.on p k hpl hk hdone];exact e1
      rw[k2]at e2;rw[k1]at e3;cases hget:s.get l1 q with
      |none=>simp[BA,hget]at e3
      |some x=>
       obtain⟨γ',r⟩:=x
       cases r with
       |box cs=>
        by_cases hγ:γ'=γ
        ·subst hγ;have e3:BJ P T (cs.drop off)=some v:=by simpa [BA,hget]using e3
         have hget':s'.get l1 q=some (γ',.box cs):=by rw[hI.p];exact hget
         have hcell:∀x∈cs.drop off,x.isCell=true:=fun x hx=>by obtain⟨b,arr,T',_,_,hr⟩:=hrel.inv.res _ _ _ _ hget';obtain⟨j,hj,rfl⟩:=List.getElem_of_mem (List.mem_of_mem_drop hx);exact(hr.2 j hj (by rw[<-hr.1];exact hj)).1
         have h0:0<P.cellsOf T:=by simpa [fq]using d3
         obtain⟨w1,w2,w3⟩:=mF e3 d4 hcell;have hst:DB P o fr' s'=some (l1,q,γ',.box cs):=by
          unfold DB;rw[hop];have r1:DO true fr' (.tmp t)=some (.ptr l1 q γ' off):=by rw[same t hnt];exact e2
          have r2:DO true fr' (.tmp d)=some v:=by
           show(match fr'.get d with
            |some (c,v)=>if (!true||c)=true then some v else none
            | none=>none)=_
           rw[hfd];rfl
          simp only[r1,r2,hget'];rw[cr]at w3;rw[if_pos ⟨trivial,w1,h0,by rw[w2,List.length_take,cr];omega,by omega,hdn⟩,w2,mG]
         refine HB hrel hN hg ho hgd (k:=fun f2 s2=>f2=fr'/\s2=s'.put l1 q γ' (.box cs)) (.inl ((DG hst).2.2.2 _ ⟨rfl,rfl⟩)) fun G' a' w' fr2 s2 hr2 hk2=>?_;obtain⟨rfl,rfl⟩:=hk2;refine next _ _ ⟨hI.o,fun j p2 k' hj hpk hl=>?_,fun i2 k2=>?_,by rw[St.put_len];exact hI.n⟩ G' a' w' hr2
         ·by_cases ej:j=i
          ·subst ej;rw[ho]at hj;cases hj;rw[(OH hpk).2]at hdn;cases hdn
          ·rw[getD_set_ne true (Ne.symm ej)]at hl;exact hI.d j p2 k' hj hpk hl
         ·rw[St.get_put s' hget'];split
          ·rename_i e;rw[e.1,e.2,hget]
          ·exact hI.p i2 k2
        ·simp[BA,hget,hγ]at e3
       |_=>simp[BA,hget]at e3
     ·cases hp
    ·cases hp
   ·cases c3
theorem AEJ{l:List fh}{id:Nat}{K:Exit->Fr->St->Prop}(hm:P.follows .mixedOrders=true)(hB:NX (DD l) N (l.map (KR l)) (VK l) l=true)(hC:rL P l (HJ l) l 0=true){frF:Fr}
  (h1:∀t,(∀k∈HJ l,k.2.2≠t)->frF.get t=fr.get t) (h2:∀k∈HJ l,AQH P fr frF s k) (hK:K .normal frF s):BD P n N ρ (.region id l.toArray true) K fr s:=by
 simp only[NX,bj]at hB
 obtain⟨⟨⟨⟨⟨b1,b2⟩,b3⟩,b4⟩,b5⟩,b6⟩:=hB
 intro G0 G a w hR
 refine wpIn_region_any hm ?_
 have hR':ID n N G0 G fr s a { w with drawn:=w.drawn+1 }:=⟨hR.le,hR.inv.drawn _,hR.fr,hR.size,hR.lvl,hR.marks⟩
 have:=AIZ (ρ:=ρ) (K:=K) b1 b2 (QR b3) hC h1 h2 hK (fk l.length) (Array.replicate l.length false) G fr s a _ List.nodup_range (fun j=>by
  rw[List.mem_range];refine⟨fun h=>⟨h,by simp[h]⟩,fun h=>h.1⟩) ⟨fun _ _=>rfl,fun j o k hj _ hl=>by
   have:=(bx.1 hj).1;simp[this]at hl,fun _ _=>rfl,rfl⟩ hR'
 rw[List.length_range]at this
 simpa using this
theorem Y6:∀{l:List fh},YC l=true->((HJ l).map (·.2.2)).Nodup
 |[],_=>by simp[HJ]
 |o::r,h=>by
  simp only[YC,bj]at h;have ih:=Y6 h.2;unfold HJ at ih|-;rw[List.filterMap_cons];cases hk:ldC o with
  |none=>exact ih
  |some k=>
   simp only[bt,dr]
   refine⟨fun hm=>?_,ih⟩
   obtain⟨k',hk',e⟩:=dk.1 hm
   obtain⟨p,hp,hpk⟩:=ck.1 hk'
   have h1:=h.1
   rw[(OH hk).2]at h1
   have h2:=bz.1 h1 p hp
   rw[(OH hpk).2]at h2
   simp only[e,cg]at h2
   cases h2
theorem rN{l:List fh}(hC:rL P l (HJ l) l 0=true):∀k∈HJ l,∀k'∈HJ l,k.2.2≠k'.2.1:=fun k hk k' hk' e=>by obtain⟨o,ho,hko⟩:=ck.1 hk';obtain⟨j,hj⟩:=fj ho;have hc:=WJ hC hj;simp only[AEI,bj,(OH hko).1]at hc;have:=bz.1 hc.2.2 k hk;rw[e,cg]at this;cases this
theorem AI0(hP:DR P){id:Nat}{l:List fh}(hN:NX (DD l) N (l.map (KR l)) (VK l) l=true)(hC:PT P l=true){st st':XS}(hx:PU P (HJ l) (some st)=some st')(hbd:Bd st):H8 st st' /\
  ∀(n:Nat) (ρ:Option Nat) (σ:Nat->Nat) (pre:List AA) (K:Exit->Fr->St->Prop),(∀σ',AR st.c σ σ'->K .normal (st'.fr.ren σ' pre.length) (st'.s.emb σ' pre))->BD P n N ρ (.region id l.toArray true) K (st.fr.ren σ pre.length) (st.s.emb σ pre):=by
 simp only[PT,bj]at hC
 have hdd:YC l=true:=by have hB:=hN;simp only[NX,bj]at hB;exact hB.1.1.1.2
 obtain⟨b1,b2,b3,b4,b5⟩:=cW _ (rN hC.2) (Y6 hdd) hbd hx
 refine⟨⟨by omega,b1,by rw[b3]⟩,fun n ρ σ pre K hk=>AEJ hP.mixed hN hC.2 (frF:=st'.fr.ren σ pre.length) (fun t ht=>?_) (fun k hk=>?_) (by
  have:=hk σ (AR.refl _ _);rwa [b3]at this)⟩
 ·rw[Fr.get_ren,Fr.get_ren,b4 t ht]
 ·obtain⟨v,l1,q,γ,off,e1,e2,e3⟩:=b5 k hk;have hv:FD P true (A2H k.1 (.tmp k.2.1)) st.fr st.s=some v:=by show((DO true st.fr (.tmp k.2.1)).bind fun v=>(BA st.s v).bind fun cs=>BJ P k.1 cs)=some v;rw[e2];exact e3
  have hv:=IL (σ:=σ) (pre:=pre) hv;have e2':DO true (st.fr.ren σ pre.length) (.tmp k.2.1)=some ((V.ptr l1 q γ off).ren σ pre.length):=by rw[C4,e2];rfl
  refine⟨v.ren σ pre.length,l1+pre.length,q,σ γ,off,by rw[Fr.get_ren,e1];rfl,by rw[e2'];simp,?_⟩;have hv:((DO true (st.fr.ren σ pre.length) (.tmp k.2.1)).bind fun v=>(BA (st.s.emb σ pre) v).bind fun cs=>BJ P k.1 cs)=some (v.ren σ pre.length):=hv;rw[e2']at hv;simpa using hv
end Go.Pg
namespace Go.Pg
variable {P:fp}{s:St}{G G':Gh}{w:ft}
def SN(w:ft)(bm:Nat):Gh:={ sl:=fun b=>if b=bm then none else w.heap[b]?,be:=fun g=>if g=0 then some (bm,1,1) else none,env:=(w.os,w.output,w.heap.size),mm:=fun _=>none }
theorem AEK{bm:Nat}{D:List V}(hI:CB G s w)(hm:G.mm bm=some D):∃es:List (V×V),I7 D es/\CB (SN w bm) ⟨[],[(0,0,.map es)]⟩ w:=by
 obtain⟨arr,clock,es,h1,h2,h3,h4⟩:=(hI.me.at' bm D hm).any (G':=SN w bm);have look:∀{l k g r},(⟨[],[(0,0,.map es)]⟩:St).get l k=some (g,r)->l=0/\k=0/\g=0/\r=.map es:=by
  intro l k g r h;unfold St.get at h;split at h
  ·rename_i e;simp only[AA.get]at h;split at h
   ·rename_i e2;cases h;exact⟨e,e2,rfl,rfl⟩
   ·cases h
  ·simp at h
 have hown:BC (SN w bm) 0 (.map es)=some bm:=rfl;refine⟨es,h4,⟨fun b o h=>?_,fun l k g r h=>?_,fun l k g r l' k' g' r' b e1 e2 _ _=>?_,fun l k g r b e1 e2=>?_,⟨1,fun g hg=>if_neg (by omega)⟩,⟨rfl,rfl,bf _,fun b c T fz e1 e2=>?_⟩,⟨fun _ _ h=>(by cases h),fun _ _ h=>(by cases h),fun _ _ _ _ _ _ _=>rfl,fun _ _ h=>by cases h⟩⟩⟩
 ·have h:(if b=bm then none else w.heap[b]?)=some o:=h;split at h
  ·cases h
  ·exact h
 ·obtain⟨_,_,rfl,rfl⟩:=look h;exact⟨bm,arr,clock,rfl,h1,h2,h3⟩
 ·obtain⟨rfl,rfl,_,_⟩:=look e1;obtain⟨rfl,rfl,_,_⟩:=look e2;exact⟨rfl,rfl⟩
 ·obtain⟨_,_,rfl,rfl⟩:=look e1;rw[hown]at e2;cases e2;exact⟨if_pos rfl,hI.me.lt bm D hm⟩
 ·have h3:=(bw.1 e2).1;have h4:w.heap.size<=b:=e1;omega
theorem yK{bm:Nat}{D:List V}{G2:Gh}{s2:St}{w2:ft}{es:List (V×V)}(hI:CB G s w)(hm:G.mm bm=some D)(hle:(SN w bm).le G2)(hI2:CB G2 s2 w2)(hg:s2.get 0 0=some (0,.map es))(hes:I7 D es):CB G s w2:=by
 have he:G2.env=(w.os,w.output,w.heap.size):=hle.e;obtain⟨h1,h2,h3,h4⟩:=hI2.env;rw[he]at h1 h2 h3 h4;have hold:∀i,i<w.heap.size->i≠bm->w2.heap[i]? = w.heap[i]?:=fun i hi hne=>by have:=hI2.sl i w.heap[i] (hle.1 i _ ((if_neg hne).trans (show w.heap[i]? = some w.heap[i] by simp[hi])));rw[this];simp[hi]
 have hb:LU G w2 bm D:=by
  obtain⟨b',arr,clock,q1,q2,q3,q4⟩:=hI2.res _ _ _ _ hg;have q5:=hle.2 0 _ (show(SN w bm).be 0=some (bm,1,1) from rfl);rw[q1]at q5;obtain rfl:b'=bm:=by simpa using q5
  exact LU.any ⟨arr,clock,es,q2,q3,q4,hes⟩
 have hne:∀{b},G.mm b=none->b≠bm:=fun h e=>by rw[e,hm]at h;cases h
 obtain⟨e1,e2,e3,e4⟩:=hI.env;refine⟨fun b o h=>?_,fun l k g r h=>(hI.res l k g r h).keep (Gh.le_refl _) fun b hb=>hold b (hI.out _ _ _ _ _ h hb).2 (hne (hI.me.ow _ _ _ _ _ h hb)),hI.sep,fun l k g r b h hb=>⟨(hI.out _ _ _ _ _ h hb).1,bp (hI.out _ _ _ _ _ h hb).2 h3⟩,hI.fresh,⟨h1.trans e1,h2.trans e2,dv e3 h3,fun b c T fz hb hc=>?_⟩,⟨fun b d hb'=>?_,fun b d hb=>bp (hI.me.lt b d hb) h3,hI.me.ow,hI.me.sl⟩⟩
 ·have hn:b≠bm:=fun e=>by rw[e,hI.me.sl bm D hm]at h;cases h
  have h:=hI.sl b o h;rw[hold b (bw.1 h).1 hn];exact h
 ·rename_i hb0;rcases br b w.heap.size with hl|hl
  ·by_cases e:b=bm
   ·subst e;obtain⟨arr,clock,_,q,_⟩:=hb0;rw[q]at hc;cases hc
   ·rw[hold b hl e]at hc;exact e4 b c T fz hb hc
  ·exact h4 b c T fz hl hc
 ·by_cases e:b=bm
  ·subst e;rw[hm]at hb';cases hb';exact hb
  ·exact(hI.me.at' b d hb').keep (fun _ _ h=>h) (hold b (hI.me.lt b d hb') e)
theorem yL{f:gw}{c key:V}{b:Bool}(h1:FG 9 c=true)(h2:FG 9 key=true)
  (hcall:∀es:List (V×V),I7 [c] es->DX P f [.ref [c,.mp 0 0 0],key] ⟨[],[(0,0,.map es)]⟩ fun r s'=>r=.bool b/\∃es',s'.get 0 0=some (0,.map es')/\I7 [c] es') :
  ∀s,DX P f [.ref [c,.memo [c]],key] s fun r s'=>r=.bool b/\s'=s:=by
 intro s
 refine⟨(hcall [] (I7.nil _)).1,fun G vals w R hI hA hR=>?_⟩
 have hl:=hA.1
 match hv:vals.toList,hl with
 |[v0,v1],_=>
  rw[hv]at hA
  have a0:=hA.2 0 (by simp) (by simp)
  have a1:=hA.2 1 (by simp) (by simp)
  simp only[dc,df]at a0 a1
  cases a0 with
  |ref cs b0 off arr T fz vs ha hcell hr=>
   have r1:=hr 1 (by simp)
   simp only[df,dc]at r1
   generalize hy:vs 1=y at r1
   cases r1 with
   |memo _ bm hm=>
    obtain⟨es,hes,hI1⟩:=AEK hI hm
    have hsl:∀b o,G.sl b=some o->(SN w bm).sl b=some o:=fun b o h=>by
     have hn:b≠bm:=fun e=>by rw[e,hI.me.sl bm _ hm]at h;cases h
     exact(if_neg hn).trans (hI.sl b o h)
    have q0:RepV (SN w bm) (.ref [c,.mp 0 0 0]) (.pointer (some ⟨b0,off,none⟩)):=by
     refine .ref _ b0 off arr T fz vs (hsl _ _ ha) (fun j hj=>?_) (fun j hj=>?_)
     ·match j,hj with
      |0,_=>exact hcell 0 (by simp)
      |1,_=>exact⟨(hcell 1 (by simp)).1,rfl⟩
     ·match j,hj with
      |0,_=>exact SK hsl 9 _ _ h1 (hr 0 (by simp))
      |1,_=>
       show RepV _ (.mp 0 0 0) (vs 1)
       rw[hy]
       exact .mp 0 0 0 bm 1 1 rfl
    have q1:RepV (SN w bm) key v1:=SK hsl 9 _ _ h2 a1
    refine(hcall es hes).2 (SN w bm) vals w R hI1 (by rw[hv];exact RepA.cons q0 (RepA.cons q1 (RepA.nil _))) fun G2 r v w2 s2 hle hI2 hrv _ hK=>?_
    obtain⟨rfl,es',hg,hes'⟩:=hK
    exact hR G _ v w2 s (Gh.le_refl G) (yK hI hm hle hI2 hg hes') (RO hrv) rfl ⟨rfl,rfl⟩
def uY:List V->Option V
 | [.ref [c,.memo [c']],key]=>cond (aT 9 c c'&&(FG 9 c&&FG 9 key)) (match isV [c] key with
  |some b=>some (.bool b)
  | none=>none) none
 |_=>none
def cX(fi:gw):CF0:=fun f args=>cond (bn f fi) (uY args) none
theorem mH{fi:gw} (hcall:∀(c key:V) (b:Bool),FG 9 c=true->FG 9 key=true->isV [c] key=some b->∀es:List (V×V),I7 [c] es ->
   DX P fi [.ref [c,.mp 0 0 0],key] ⟨[],[(0,0,.map es)]⟩ fun r s'=>r=.bool b/\∃es',s'.get 0 0=some (0,.map es')/\I7 [c] es'):EN P (cX fi):=by
 intro f args r h
 unfold cX at h
 cases h1:bn f fi with
 |false=>rw[h1]at h;cases h
 |true=>
  rw[h1]at h
  have h1:=bq h1
  subst h1
  replace h:uY args=some r:=h
  unfold uY at h
  split at h
  ·rename_i c c' key;cases hc:(aT 9 c c'&&(FG 9 c&&FG 9 key))with
   |false=>rw[hc]at h;cases h
   |true=>
    rw[hc]at h
    simp only[bj]at hc
    obtain⟨h2,h3,h4⟩:=hc
    have h2:=QY _ _ h2
    subst h2
    have h:(match isV [c] key with
     |some b=>some (V.bool b)
     | none=>none)=some r:=h
    split at h
    ·rename_i b hb;cases h;have e1:=fun σ δ=>BX (σ:=σ) (δ:=δ) 9 _ (ET 9 _ h3);have e2:=fun σ δ=>BX (σ:=σ) (δ:=δ) 9 _ (ET 9 _ h4);refine⟨yL h3 h4 (hcall c key b h3 h4 hb),fun v hv σ δ=>?_,fun σ δ=>by simp⟩;simp only[fw,List.not_mem_nil,or_false]at hv;rcases hv with rfl|rfl
     ·simp[e1]
     ·exact e2 σ δ
    ·cases h
  ·cases h
def orC(a b:CF0):CF0:=fun f args=>match a f args with
 |some r=>some r
 |none=>b f args
theorem rP{a b:CF0}(ha:EN P a)(hb:EN P b):EN P (orC a b):=by
 intro f args r h;unfold orC at h;split at h
 ·rename_i r' hr;cases h;exact ha f args _ hr
 ·exact hb f args r h
end Go.Pg
namespace Go.Pg
variable {P:fp}
def AQI:List V->Option V
 |[.list false []]=>some (.list false [])
 |_=>none
def AQJ(fi:gw):CF0:=fun f args=>cond (bn f fi) (AQI args) none
theorem AI1(hP:DR P){rec:FU}(hrec:TW P rec){fi:gw}(h:∀a c,∃r,EJ P rec fi [.raw (.slice a 0 c)]=some r/\weakM r=.list false []):EN P (AQJ fi):=by
 intro f args r hx;unfold AQJ at hx;cases hf:bn f fi with
 |false=>rw[hf]at hx;cases hx
 |true=>
  rw[hf]at hx
  replace hx:AQI args=some r:=hx
  unfold AQI at hx
  split at hx
  ·cases hx;obtain rfl:=bq hf;refine⟨fun s=>?_,fun v hm σ δ=>by rw[List.mem_singleton.1 hm];rfl,fun σ δ=>rfl⟩;obtain⟨r0,h0,_⟩:=h none 0;refine⟨((K7 hP hrec _ _ _ h0).1 s).1,fun G vals w R hI ha hR=>?_⟩;obtain⟨l⟩:=vals;match l,ha with
   |[v],ha=>
    have hv:RepV G (.list false []) v:=ha.2 0 (by simp) (by simp)
    cases hv with
    |list _ _ a cap b off sz arr T fz vs hcap hfull h1 hl hv hr=>
     obtain⟨r1,h1,hw⟩:=h a cap
     refine((K7 hP hrec _ _ _ h1).1 s).2 G _ w R hI ⟨by simp,fun i h1 h2=>?_⟩ fun G' r v w' s' g1 g2 g3 g4 hk=>hR G' (weakM r) v w' s' g1 g2 g3.weakM g4 ⟨by rw[hk.1,hw],hk.2⟩
     obtain rfl:i=0:=by simp at h1;omega
     exact .raw _ rfl
   |[],ha=>exact absurd ha.1 (by simp)
   |_::_::_,ha=>exact absurd ha.1 (by simp)
  ·cases hx
end Go.Pg
