/- A row is read as a list by one call that gives a number or a bool; it stays a row. No program in sight. -/
import Derived.Test.YtmnlpgjklibndaaGreatQa
noncomputable section
open Go renaming Oper->fh,Program->fp,World->ft,TypeId->gk,Value->gv,FuncId->gw
open Bool renaming and_eq_true->bj
open Nat renaming eq_of_beq_eq_true->bq,le_refl->bf,blt->bh,beq->bn,lt_of_lt_of_le->bp,lt_or_ge->br,beq_refl->cg,le_trans->dv,zero_add->dh,blt_eq->fq
open Array renaming getElem?_eq_some_iff->bw,getElem?_eq_none->cd
open List renaming getElem?_eq_some_iff->bx,all_eq_true->bz,map_congr_left->bc,getElem?_eq_getElem->bg,map_cons->bt,getElem_map->cj,mem_filterMap->ck,eq_nil_iff_forall_not_mem->cq,map_map->cx,map_inj_left->cz,getElem?_modify->cm,map_flatten->cp,length_drop->cr,mem_map_of_mem->dj,mem_map->dk,append_cancel_left_eq->dq,length_erase_of_mem->dw,replicate->dx,take_of_length_le->db,getElem_cons_zero->dc,getElem_cons_succ->df,take_append_drop->dl,mem_erase_of_ne->dp,nodup_cons->dr,mem_append->dt,getElem?_of_mem->fj,range->fk,mem_cons->fw,cons->ff
open Option renaming isNone_iff_eq_none->dz,map_some->dg,map_eq_map->dm,map_eq_some_iff->dn,some->fx,bind_some->fc
open Prod renaming mk->fg
namespace Go.Pg
variable {P:fp}{σ σ':Nat->Nat}{δ:Nat}{pre:List AA}{s:St}{fr:Fr}{G G':Gh}{w:ft}
def QP(st:XS):List Nat->V->V
 |[],v=>v
 |k::ks,v=>QP st ks (cond (bh k 10000) (BS st.s.up.length k (st.s.loc.get k) 3 v) (BS (k / 10000-1) (k % 10000) (st.s.get (k / 10000-1) (k % 10000)) 3 v))
def iP:V->Bool
 |.int ..=>true
 |.bool _=>true
 |_=>false
def Z8:V->Bool
 |.int ..=>true
 |.bool _=>true
 |.agg cs=>cs.all iP
 |_=>false
def nZ(cf:CF)(c0:CF0)(ks:List Nat):CF:=fun f args st=>match c0 f (args.map (QP st ks))with
 |some r=>Bool.rec (cf f args st) (some (r,st)) (Z8 r)
 |none=>cf f args st
def cfU(ks:List Nat)(E:XE):XE:=match ks with
 |[]=>E
 |_::_=>⟨nZ E.cf E.c0 ks,E.cy,E.c0,E.co,E.lit⟩
def AGC(G:Gh)(w:ft)(b:Nat):Option Obj:=if (G.mm b).isSome=true then none else w.heap[b]?
def cK(G:Gh)(w:ft):Gh:={ sl:=AGC G w,be:=G.be,env:=G.env,mm:=G.mm }
def AK9(G:Gh)(w:ft):Gh:={ sl:=AGC G w,be:=G.be,env:=(w.os,w.output,w.heap.size),mm:=G.mm }
theorem XF{b:Nat}(h:G.mm b=none):AGC G w b=w.heap[b]?:=if_neg (by rw[h];exact Bool.false_ne_true)
theorem wU(hI:CE G s w){b:Nat}{o:Obj}(h:G.sl b=some o):G.mm b=none:=by
 cases hm:G.mm b with
 |none=>rfl
 |some d=>rw[hI.me.sl b d hm]at h;cases h
theorem iQ(hI:CE G s w):G.le (cK G w):=⟨fun b o h=>(XF (wU hI h)).trans (hI.sl b o h),fun _ _ h=>h,rfl,fun _ _ h=>h⟩
theorem AGD:(cK G w).lec (AK9 G w):=⟨fun _ _ _ _ h=>h,fun _ _ h=>h,fun _ _ h=>h⟩
theorem AGE(hI:CE G s w):CE (AK9 G w) ⟨[],[]⟩ w where
 sl b o h:=by
  have h:AGC G w b=some o:=h;unfold AGC at h;split at h
  ·cases h
  ·exact h
 me:=⟨fun b d h=>(hI.me.at' b d h).any,hI.me.lt,fun l k g r b h=>(by simp[St.get]at h),fun b d h=>if_pos (by rw[show G.mm b=some d from h];rfl)⟩
 res l k g r h:=by simp[St.get]at h
 sep l k g r l' k' g' r' b h:=by simp[St.get]at h
 out l k g r b h:=by simp[St.get]at h
 fresh:=hI.fresh
 env:=⟨rfl,rfl,bf _,fun b c T fz h1 h2=>by
  have h3:=(bw.1 h2).1;have h4:w.heap.size<=b:=h1;omega⟩
theorem AGF{l k g n:Nat}{v:gv}(h:RepV (cK G w) (.vec l k g n) v):RepV G (.vec l k g n) v:=by
 cases h with
 |vec _ _ _ _ b sz C a h1 h2 h3=>exact .vec _ _ _ _ b sz C a h1 h2 h3
theorem AGG{l k g n:Nat}{v:gv}(h:RepV (cK G w) (.ptr l k g n) v):RepV G (.ptr l k g n) v:=by
 cases h with
 |ptr _ _ _ _ b sz C h1=>exact .ptr _ _ _ _ b sz C h1
theorem eQ{st:XS}(hI:CE G (st.s.emb σ pre) w)(l k:Nat):RG (cK G w) (cK G w) σ pre.length l k (st.s.get l k):=by
 refine⟨fun γ T es ho v hv=>?_,fun γ cs ho off v hv=>?_⟩
 ·have hget:(st.s.emb σ pre).get (l+pre.length) k=some (σ γ,.vec T (es.map (List.map (V.ren σ pre.length)))):=by rw[BZ,ho];rfl
  have:=LO hI (iQ hI) hget (m:=es.length) (by simp) (fun _ e=>XF (hI.me.ow _ _ _ _ _ hget e)) (AGF hv);rwa [db (by simp)]at this
 ·have hget:(st.s.emb σ pre).get (l+pre.length) k=some (σ γ,.box (cs.map (V.ren σ pre.length))):=by rw[BZ,ho];rfl
  rw[PO];exact mA hI (iQ hI) hget (fun _ e=>XF (hI.me.ow _ _ _ _ _ hget e)) (AGG hv)
theorem tN{st:XS}(hI:CE G (st.s.emb σ pre) w)(k:Nat):RG (cK G w) (cK G w) σ pre.length st.s.up.length k (st.s.loc.get k):=by have:=eQ hI st.s.up.length k;rwa [W6]at this
theorem UP{st:XS}(hI:CE G (st.s.emb σ pre) w):∀(ks:List Nat) (x:V) (v:gv),RepV (cK G w) (x.ren σ pre.length) v->RepV (cK G w) ((QP st ks x).ren σ pre.length) v
 |[],_,_,h=>h
 |k::ks,x,v,h=>by
  unfold QP;cases bh k 10000 with
  |true=>exact UP hI ks _ v (OT (Gh.le_refl _) (tN hI k) 3 x v h)
  |false=>exact UP hI ks _ v (OT (Gh.le_refl _) (eQ hI _ _) 3 x v h)
theorem AGH{s':St}{w':ft}(hI:CE G s w)(hle:(AK9 G w).le G')(hI':CE G' s' w'):CE G s w':=by
 have he:G'.env=(w.os,w.output,w.heap.size):=hle.e;obtain⟨h1,h2,h3,h4⟩:=hI'.env;rw[he]at h1 h2 h3 h4;have hold:∀i,i<w.heap.size->G.mm i=none->w'.heap[i]? = w.heap[i]?:=fun i hi hm=>by have:=hI'.sl i w.heap[i] (hle.1 i _ ((XF hm).trans (show w.heap[i]? = some w.heap[i] by simp[hi])));rw[this];simp[hi]
 obtain⟨e1,e2,e3,e4⟩:=hI.env;refine⟨fun b o h=>?_,fun l k g r h=>(hI.res l k g r h).keep (Gh.le_refl _) fun b hb=>hold b (hI.out _ _ _ _ _ h hb).2 (hI.me.ow _ _ _ _ _ h hb),hI.sep,fun l k g r b h hb=>⟨(hI.out _ _ _ _ _ h hb).1,bp (hI.out _ _ _ _ _ h hb).2 h3⟩,hI.fresh,⟨h1.trans e1,h2.trans e2,dv e3 h3,fun b c T fz hb hc=>?_⟩,⟨fun b d hb=>?_,fun b d hb=>bp (hI.me.lt b d hb) h3,hI.me.ow,hI.me.sl⟩⟩
 ·have hm:=wU hI h;have h:=hI.sl b o h;rw[hold b (bw.1 h).1 hm];exact h
 ·rcases br b w.heap.size with hl|hl
  ·cases hm:G.mm b with
   |none=>
    rw[hold b hl hm]at hc
    exact e4 b c T fz hb hc
   |some d=>
    obtain⟨arr,clock,_,e,_⟩:=hI'.me.at' b d (hle.m b d hm)
    rw[e]at hc
    cases hc
  ·exact h4 b c T fz hl hc
 ·exact(hI'.me.at' b d (hle.m b d hb)).any
theorem AGI{r:V}{v:gv}(hf:Z8 r=true)(h:RepV G' r v):RepV G r v:=by
 cases r with
 |int k n=>cases h;exact .int _ _
 |bool b=>cases h;exact .bool _
 |agg cs=>
  cases h with
  |agg _ arr hl hc hr=>
   refine .agg _ arr hl hc fun i h1 h2=>?_
   have q:=hr i h1 h2
   have f:=bz.1 (show cs.all iP=true from hf) _ (List.getElem_mem h1)
   generalize cs[i]=c at *
   generalize arr[i]=z at *
   cases c with
   |int k n=>cases q;exact .int _ _
   |bool b=>cases q;exact .bool _
   |_=>cases f
 |_=>cases hf
theorem AGJ{cf:CF}(hcf:eA P cf){c0:CF0}(hc0:EX P c0)(ks:List Nat):eA P (nZ cf c0 ks):=by
 intro f args st r st' hx hbd hargs;unfold nZ at hx;split at hx
 ·rename_i r0 h0;cases hf:Z8 r0 with
  |false=>
   rw[hf]at hx
   exact hcf f args st r st' hx hbd hargs
  |true=>
   rw[hf]at hx
   cases hx
   obtain⟨hA,h1,h2⟩:=hc0 _ _ _ h0
   refine⟨⟨bf _,hbd,rfl⟩,fun σ σ' δ _=>by rw[h2,h2],rfl,fun σ pre K hk=>⟨(hA ⟨[],[]⟩).1,fun G vals w R hI ha hR=>?_⟩⟩
   refine(hA ⟨[],[]⟩).2 (AK9 G w) vals w R (AGE hI) ?_ fun G' r' v w' s' hle hI' hv hlen hk'=>?_
   ·refine⟨by simpa using ha.1,fun i p q=>?_⟩;have hr:=ha.2 i (by simpa using p) q;simp only[cj]at hr|-;have h3:=UP hI ks _ _ (hr.mono (iQ hI));rw[h1 _ (dj (List.getElem_mem _))]at h3;exact h3.monoC AGD
   ·obtain⟨rfl,rfl⟩:=hk';have:=hk σ (AS.refl _ _);rw[h2]at this;exact hR G r' v w' _ (Gh.le_refl _) (AGH hI hle hI') (AGI hf hv) rfl this
 ·exact hcf f args st r st' hx hbd hargs
theorem ATC{E:XE}(h:KD P E)(ks:List Nat):KD P (cfU ks E):=by
 cases ks with
 |nil=>exact h
 |cons k ks=>exact⟨AGJ h.cf h.c0 _,h.cy,h.c0,h.co⟩
end Go.Pg
namespace Go.Pg
variable {P:fp}{σ σ':Nat->Nat}{δ:Nat}{pre:List AA}{s:St}{fr:Fr}{G G':Gh}{w:ft}{n k l d:Nat}
def OV(n k l d:Nat):Nat->V->V
 |0,v=>v
 |f+1,v=>match v with
  |.vec l' k' γ m=>if l'=n/\k'=k then .vec l d γ m else v
  |.ptr l' k' γ o=>if l'=n/\k'=k then .ptr l d γ o else v
  |.mp l' k' γ=>if l'=n/\k'=k then .mp l d γ else v
  |.agg cs=>.agg (cs.map (OV n k l d f))
  |.tup cs=>.tup (cs.map (OV n k l d f))
  |v=>v
def iR(n k l d:Nat):A6->A6
 |.box cs=>.box (cs.map (OV n k l d 3))
 |.vec T es=>.vec T (es.map (List.map (OV n k l d 3)))
 |r=>r
def mvF(n k l d:Nat)(fr:Fr):Fr:=fr.map fun x=>(x.1,x.2.1,OV n k l d 3 x.2.2)
def mvL(n k l d:Nat):AA->AA
 |[]=>[]
 |(j,g,r)::L=>if j=k then mvL n k l d L else(j,g,iR n k l d r)::mvL n k l d L
def LB(u:Nat):AA->AA
 |[]=>[]
 |(j,x)::L=>if j=u then LB u L else(j,x)::LB u L
def mvU(n k l d:Nat):List Nat->AA->AA
 |[],L=>L
 |u::us,L=>match L.get u with
  |some (g,r)=>(u,g,iR n k l d r)::mvU n k l d us (LB u L)
  |none=>mvU n k l d us L
def mvS(k l d:Nat)(us:List Nat)(s:St)(o:Option (Nat×A6)):St:=match o with
 |some (γ,r)=>St.put ⟨s.up.modify l (mvU s.up.length k l d us),mvL s.up.length k l d s.loc⟩ l d γ (iR s.up.length k l d r)
 |none=>s
def oA(l n:Nat):Option (Nat×A6)->Bool
 |some (_,r)=>Nat.ble l n&&plR r
 |none=>false
def mv1(k l d:Nat)(us:List Nat)(st:XS):XS:=Bool.rec st ⟨st.c,mvF st.s.up.length k l d st.fr,mvS k l d us st.s (st.s.loc.get k)⟩ (oA l st.s.up.length (st.s.loc.get k))
theorem oB:∀(f:Nat) (v:V),(v.ren σ δ).isCell=true->((OV n k l d f v).ren σ δ).isCell=true
 |0,v,h=>h
 |f+1,v,h=>by
  cases v with
  |agg cs=>simp only[FH]at h;cases h
  |tup cs=>simp only[HR]at h;cases h
  |vec l' k' g m=>simp only[OV];split<;>(simp only[HT];rfl)
  |ptr l' k' g m=>simp only[OV];split<;>(simp only[HS];rfl)
  |mp l' k' g=>simp only[OV];split<;>(simp only[M3];rfl)
  |_=>exact h
theorem iS:∀(f:Nat) (x:V) (v:gv),RepV G (x.ren σ δ) v->RepV G ((OV n k l d f x).ren σ δ) v
 |0,x,v,h=>h
 |f+1,x,v,h=>by
  have ih:=iS f;cases x with
  |vec l' k' g m=>
   simp only[OV]
   split
   ·simp only[HT]at h|-;cases h with
    |vec _ _ _ _ b sz C a h1 h2 h3=>exact .vec _ _ _ _ b sz C a h1 h2 h3
   ·exact h
  |ptr l' k' g o=>
   simp only[OV]
   split
   ·simp only[HS]at h|-;cases h with
    |ptr _ _ _ _ b sz C h1=>exact .ptr _ _ _ _ b sz C h1
   ·exact h
  |mp l' k' g=>
   simp only[OV]
   split
   ·simp only[M3]at h|-;cases h with
    |mp _ _ _ b sz C h1=>exact .mp _ _ _ b sz C h1
   ·exact h
  |agg cs=>
   simp only[OV,FH]at h|-
   cases h with
   |agg _ arr hl hc hr=>
    refine .agg _ arr (by simpa using hl) (fun c hc'=>?_) (fun i h1 h2=>?_)
    ·simp only[dk]at hc';obtain⟨d',⟨e,he,rfl⟩,rfl⟩:=hc';exact oB f e (hc _ (dj he))
    ·have q:=hr i (by simpa using h1) h2;simp only[cj]at q|-;exact ih _ _ q
  |tup cs=>
   simp only[OV,HR]at h|-
   cases h with
   |tup _ arr hl hr=>
    refine .tup _ arr (by simpa using hl) (fun i h1 h2=>?_)
    have q:=hr i (by simpa using h1) h2
    simp only[cj]at q|-
    exact ih _ _ q
  |_=>exact h
theorem oC{cs:List V}{vs:List gv}(h:RepL G (cs.map (V.ren σ δ)) vs):RepL G ((cs.map (OV n k l d 3)).map (V.ren σ δ)) vs :=
 ⟨by simpa using h.1,fun i p q=>by
  have r:=h.2 i (by simpa using p) q;simp only[cj]at r |-;exact⟨oB 3 _ r.1,iS 3 _ _ r.2⟩⟩
theorem wV{g:Nat}{r:A6}(h:HJ G g w (r.ren σ δ)):HJ G g w ((iR n k l d r).ren σ δ):=by
 cases r with
 |box cs=>
  obtain⟨b,arr,T,h1,h2,h3⟩:=h
  exact⟨b,arr,T,by simpa using h1,h2,oC h3⟩
 |vec T es=>
  obtain⟨b,sz,C,h1,h2,h3,h4,h5⟩:=h
  refine⟨b,sz,C,h1,by simpa using h2,fun e he=>?_,⟨h4.1,fun h=>h4.2 (by simpa using h)⟩,fun hC=>?_⟩
  ·simp only[dk]at he;obtain⟨e1,⟨e2,he2,rfl⟩,rfl⟩:=he;have:=h3 (e2.map (V.ren σ δ)) (dj he2);simpa using this
  ·obtain⟨arr,h6,h7,h8⟩:=h5 hC;refine⟨arr,h6,h7,?_⟩;have q:RepL G (es.flatten.map (V.ren σ δ)) (arr.toList.take (es.length*sz)):=by rw[cp];simpa using h8
   have q2:=oC (n:=n) (k:=k) (l:=l) (d:=d) q;rw[cp,cp]at q2;simpa using q2
 |map es=>exact h
 |loop fr ps asg body N st=>exact h
 |dead=>trivial
theorem wW(G:Gh)(g:Nat)(r:A6):BG G g ((iR n k l d r).ren σ δ)=BG G g (r.ren σ δ):=by cases r<;>rfl
theorem wX:∀(fr:Fr) (j:Nat),(mvF n k l d fr).get j=(fr.get j).map fun x=>(x.1,OV n k l d 3 x.2)
 |[],_=>rfl
 |(i,c,v)::fr,j=>by
  have ih:=wX fr j;simp only[mvF,bt,Fr.get]at ih|-;split
  ·rfl
  ·exact ih
theorem wY:∀(L:AA) (j:Nat),(mvL n k l d L).get j=if j=k then none else(L.get j).map fun x=>(x.1,iR n k l d x.2)
 |[],j=>by simp[mvL]
 |(i,g,r)::L,j=>by
  have ih:=wY L j;unfold mvL;by_cases h:i=k
  ·rw[if_pos h,ih];by_cases hj:j=k
   ·simp[hj]
   ·rw[if_neg hj,if_neg hj,AA.get,if_neg (by rw[h];exact hj)]
  ·rw[if_neg h];simp only[AA.get];by_cases hj:j=i
   ·subst hj;rw[if_pos rfl,if_pos rfl,if_neg h];rfl
   ·rw[if_neg hj,if_neg hj,ih]
theorem Z9(u:Nat):∀(L:AA) (j:Nat),(LB u L).get j=if j=u then none else L.get j
 |[],j=>by simp[LB,AA.get]
 |(q,x)::L,j=>by
  have ih:=Z9 u L j;unfold LB;by_cases h:q=u
  ·rw[if_pos h,ih];subst h;by_cases hj:j=q
   ·rw[if_pos hj,if_pos hj]
   ·rw[if_neg hj,if_neg hj];simp only[AA.get];rw[if_neg hj]
  ·rw[if_neg h];simp only[AA.get];by_cases hj:j=q
   ·subst hj;rw[if_pos rfl,if_neg h,if_pos rfl]
   ·rw[if_neg hj,if_neg hj,ih]
theorem iT:∀(us:List Nat) (L:AA) (j:Nat) (x:Nat×A6),(mvU n k l d us L).get j=some x->L.get j=some x\/∃r,L.get j=some (x.1,r)/\x.2=iR n k l d r
 |[],L,j,x,h=>.inl h
 |u::us,L,j,x,h=>by
  unfold mvU at h;split at h
  ·rename_i g r e;simp only[AA.get]at h;split at h
   ·rename_i e2;subst e2;cases h;exact .inr ⟨r,e,rfl⟩
   ·rename_i hne;have:=iT us _ j x h;rw[Z9,if_neg hne]at this;exact this
  ·exact iT us L j x h
theorem tO{s:St}{l k γ:Nat}{r:A6}{l' k':Nat}{x:Nat×A6}(h:(s.put l k γ r).get l' k'=some x):(l'=l/\k'=k/\x=(γ,r))\/(¬(l'=l/\k'=k)/\s.get l' k'=some x):=by
 unfold St.put at h;unfold St.get at h|-;by_cases e1:l=s.up.length
 ·rw[if_pos e1]at h;by_cases e2:l'=s.up.length
  ·rw[if_pos e2]at h|-;rw[AA.get_put]at h;split at h
   ·rename_i e;exact .inl ⟨e2.trans e1.symm,e,(fx.inj h).symm⟩
   ·rename_i e;exact .inr ⟨fun hh=>e hh.2,h⟩
  ·rw[if_neg e2]at h|-;exact .inr ⟨fun hh=>e2 (hh.1.trans e1),h⟩
 ·rw[if_neg e1]at h;have hl:({ s with up:=s.up.modify l (fun L=>L.put k γ r) }:St).up.length=s.up.length:=by simp
  rw[hl]at h;by_cases e2:l'=s.up.length
  ·rw[if_pos e2]at h|-;exact .inr ⟨fun hh=>e1 (hh.1.symm.trans e2),h⟩
  ·rw[if_neg e2]at h|-;rw[cm]at h;cases hu:s.up[l']? with
   |none=>simp[hu]at h
   |some L=>
    rw[hu]at h
    simp only[dm,dg]at h
    by_cases e3:l=l'
    ·simp only[e3,if_true,AA.get_put]at h;split at h
     ·rename_i e;exact .inl ⟨e3.symm,e,(fx.inj h).symm⟩
     ·rename_i e;exact .inr ⟨fun hh=>e hh.2,h⟩
    ·simp only[e3,if_false]at h;exact .inr ⟨fun hh=>e3 hh.1.symm,h⟩
theorem wZ{us:List Nat}{γ:Nat}{r:A6}{l1 k1:Nat}{x:Nat×A6}(h:(mvS k l d us s (some (γ,r))).get l1 k1=some x) :
  (l1=l/\k1=d/\x=(γ,iR s.up.length k l d r))\/(¬(l1=l/\k1=d)/\¬(l1=s.up.length/\k1=k)/\(s.get l1 k1=some x\/∃r0,s.get l1 k1=some (x.1,r0)/\x.2=iR s.up.length k l d r0)):=by
 rcases tO h with⟨h1,h2,h3⟩|⟨h1,h2⟩
 ·exact .inl ⟨h1,h2,h3⟩
 ·refine .inr ⟨h1,?_⟩;have hlen:(s.up.modify l (mvU s.up.length k l d us)).length=s.up.length:=by simp
  unfold St.get at h2|-;simp only[hlen]at h2;by_cases e:l1=s.up.length
  ·rw[if_pos e]at h2|-;rw[wY]at h2;split at h2
   ·cases h2
   ·rename_i hk;refine⟨fun hh=>hk hh.2,.inr ?_⟩;obtain⟨y,hy,rfl⟩:=dn.1 h2;exact⟨y.2,hy,rfl⟩
  ·rw[if_neg e]at h2|-;refine⟨fun hh=>e hh.1,?_⟩;rw[cm]at h2;cases hu:s.up[l1]? with
   |none=>simp[hu]at h2
   |some L=>
    rw[hu]at h2
    simp only[dm,dg]at h2|-
    by_cases e3:l=l1
    ·simp only[e3,if_true]at h2;rw[<-e3]at h2;exact iT us L k1 x h2
    ·simp only[e3,if_false]at h2;exact .inl h2
theorem ALA{s s':St}{l1 k1:Nat}(h:l1<pre.length):(s.emb σ pre).get l1 k1=(s'.emb σ pre).get l1 k1:=by unfold St.get;rw[C5,C5,if_neg (by omega),if_neg (by omega)];simp only[St.emb,List.getElem?_append_left h]
theorem xA{us:List Nat}{o:Option (Nat×A6)}:(mvS k l d us s o).up.length=s.up.length:=by
 cases o with
 |none=>rfl
 |some x=>unfold mvS;rw[St.put_len];simp
theorem ATD{us:List Nat}{γ:Nat}{r:A6}(hr:s.loc.get k=some (γ,r))(hI:CE G (s.emb σ pre) w):CE G ((mvS k l d us s (some (γ,r))).emb σ pre) w:=by
 have look:∀{l1 k1 g r1},((mvS k l d us s (some (γ,r))).emb σ pre).get l1 k1=some (g,r1)->∃l0 k0 r0,(s.emb σ pre).get l0 k0=some (g,r0)/\HJ G g w r1/\BG G g r1=BG G g r0 /\
   ((l1=l+pre.length/\k1=d/\l0=s.up.length+pre.length/\k0=k)\/(¬(l1=l+pre.length/\k1=d)/\¬(l1=s.up.length+pre.length/\k1=k)/\l0=l1/\k0=k1)):=by
  intro l1 k1 g r1 h
  by_cases hp:l1<pre.length
  ·rw[ALA (s':=s) hp]at h;exact⟨l1,k1,r1,h,hI.res _ _ _ _ h,rfl,.inr ⟨fun hh=>by omega,fun hh=>by omega,rfl,rfl⟩⟩
  ·obtain⟨l2,rfl⟩:∃l2,l1=l2+pre.length:=⟨l1-pre.length,by omega⟩;rw[BZ]at h;obtain⟨⟨γ',r'⟩,h1,h2⟩:=dn.1 h;cases h2;rcases wZ h1 with⟨rfl,rfl,e⟩|⟨e1,e2,e3⟩
   ·cases e;have h0:(s.emb σ pre).get (s.up.length+pre.length) k=some (σ γ,r.ren σ pre.length):=by rw[BZ,W6,hr];rfl
    exact⟨_,_,_,h0,wV (hI.res _ _ _ _ h0),wW _ _ _,.inl ⟨rfl,rfl,rfl,rfl⟩⟩
   ·rcases e3 with e3|⟨r0,e3,rfl⟩
    ·have h0:(s.emb σ pre).get (l2+pre.length) k1=some (σ γ',r'.ren σ pre.length):=by rw[BZ,e3];rfl
     exact⟨_,_,_,h0,hI.res _ _ _ _ h0,rfl,.inr ⟨fun hh=>e1 ⟨by omega,hh.2⟩,fun hh=>e2 ⟨by omega,hh.2⟩,rfl,rfl⟩⟩
    ·have h0:(s.emb σ pre).get (l2+pre.length) k1=some (σ γ',r0.ren σ pre.length):=by rw[BZ,e3];rfl
     exact⟨_,_,_,h0,wV (hI.res _ _ _ _ h0),wW _ _ _,.inr ⟨fun hh=>e1 ⟨by omega,hh.2⟩,fun hh=>e2 ⟨by omega,hh.2⟩,rfl,rfl⟩⟩
 refine⟨hI.sl,fun l k g r h=>(by obtain⟨_,_,_,_,h2,_⟩:=look h; exact h2),fun l1 k1 g1 r1 l2 k2 g2 r2 b h1 h2 h3 h4=>?_,fun l1 k1 g1 r1 b h1 h2=>?_,hI.fresh,hI.env,hI.me.step (Gh.le_refl _) rfl (fun _ _ _=>rfl) (fun l1 k1 g1 r1 b h1 h2=>by
  obtain⟨a1,a2,a3,a4,_,a6,_⟩:=look h1;exact .inl ⟨_,_,_,_,a4,a6▸h2⟩) fun b d hb=>hI.me.sl b d hb⟩
 ·obtain⟨a1,a2,a3,a4,_,a6,a7⟩:=look h1;obtain⟨b1,b2,b3,b4,_,b6,b7⟩:=look h2;have hs:=hI.sep _ _ _ _ _ _ _ _ _ a4 b4 (a6▸h3) (b6▸h4);rcases a7 with⟨c1,c2,c3,c4⟩|⟨c1,c2,c3,c4⟩<;>rcases b7 with⟨d1,d2,d3,d4⟩|⟨d1,d2,d3,d4⟩
  ·exact⟨c1.trans d1.symm,c2.trans d2.symm⟩
  ·exact(d2 ⟨d3.symm.trans (hs.1.symm.trans c3),d4.symm.trans (hs.2.symm.trans c4)⟩).elim
  ·exact(c2 ⟨c3.symm.trans (hs.1.trans d3),c4.symm.trans (hs.2.trans d4)⟩).elim
  ·exact⟨c3.symm.trans (hs.1.trans d3),c4.symm.trans (hs.2.trans d4)⟩
 ·obtain⟨a1,a2,a3,a4,_,a6,_⟩:=look h1;exact hI.out _ _ _ _ _ a4 (a6▸h2)
theorem AGL{us:List Nat}{st:XS}:FB (st.fr.ren σ pre.length) (st.s.emb σ pre) ((mv1 k l d us st).fr.ren σ pre.length) ((mv1 k l d us st).s.emb σ pre):=by
 unfold mv1;cases ho:oA l st.s.up.length (st.s.loc.get k)with
 |false=>exact fun n N G0 G a w hR=>⟨G,hR⟩
 |true=>
  cases hr:st.s.loc.get k with
  |none=>rw[hr]at ho;cases ho
  |some x=>
   obtain⟨γ,r⟩:=x
   rw[hr]at ho
   simp only[oA,bj,Nat.ble_eq]at ho
   intro n N G0 G a w hR
   refine⟨G,hR.le,ATD hr hR.inv,fun j c v hj=>?_,hR.size,?_,hR.marks⟩
   ·rw[Fr.get_ren]at hj;have hj':((mvF st.s.up.length k l d st.fr).get j).map (fun p=>(p.1,p.2.ren σ pre.length))=some (c,v):=hj;rw[wX]at hj';cases hg:st.fr.get j with
    |none=>rw[hg]at hj';cases hj'
    |some y=>
     rw[hg]at hj'
     obtain⟨c0,v0⟩:=y
     cases hj'
     obtain⟨x,q1,q2,q3⟩:=hR.fr j c0 (v0.ren σ pre.length) (by rw[Fr.get_ren,hg];rfl)
     exact⟨x,q1,fun hc=>iS 3 _ _ (q2 hc),q3⟩
   ·have:=hR.lvl;rw[C5]at this|-;show(mvS k l d us st.s (some (γ,r))).up.length+_=_;rw[xA];exact this
theorem AGM{N:Nat}{ρ:Option Nat}{c:Code}{K:Exit->Fr->St->Prop}{us:List Nat}{m:Nat}{st:XS}(h:BH P m N ρ c K ((mv1 k l d us st).fr.ren σ pre.length) ((mv1 k l d us st).s.emb σ pre)):BH P m N ρ c K (st.fr.ren σ pre.length) (st.s.emb σ pre):=iL AGL h
theorem tP:∀(f:Nat) (v:V),v.ren σ δ=v.ren σ' δ->(OV n k l d f v).ren σ δ=(OV n k l d f v).ren σ' δ
 |0,v,h=>h
 |f+1,v,h=>by
  have ih:=tP f;have lst:∀cs:List V,cs.map (V.ren σ δ)=cs.map (V.ren σ' δ)->(cs.map (OV n k l d f)).map (V.ren σ δ)=(cs.map (OV n k l d f)).map (V.ren σ' δ):=by intro cs h;simp only[cx];refine bc fun x hx=>?_;exact ih x (cz.1 h x hx)
  cases v with
  |vec l' k' g m=>
   simp only[OV]
   split
   ·simp only[HT,V.vec.injEq,true_and,and_true]at h|-;exact h
   ·exact h
  |ptr l' k' g o=>
   simp only[OV]
   split
   ·simp only[HS,V.ptr.injEq,true_and,and_true]at h|-;exact h
   ·exact h
  |mp l' k' g=>
   simp only[OV]
   split
   ·simp only[M3,V.mp.injEq,true_and]at h|-;exact h
   ·exact h
  |agg cs=>
   simp only[OV,FH,V.agg.injEq]at h|-
   exact lst cs h
  |tup cs=>
   simp only[OV,HR,V.tup.injEq]at h|-
   exact lst cs h
  |_=>exact h
theorem tQ{r:A6}(h:r.ren σ δ=r.ren σ' δ):(iR n k l d r).ren σ δ=(iR n k l d r).ren σ' δ:=by
 have lst:∀cs:List V,cs.map (V.ren σ δ)=cs.map (V.ren σ' δ)->(cs.map (OV n k l d 3)).map (V.ren σ δ)=(cs.map (OV n k l d 3)).map (V.ren σ' δ):=by intro cs h;simp only[cx];exact bc fun x hx=>tP 3 x (cz.1 h x hx)
 cases r with
 |box cs=>
  simp only[iR,A6.ren,A6.box.injEq]at h|-
  exact lst cs h
 |vec T es=>
  simp only[iR,A6.ren,A6.vec.injEq,true_and,cx]at h|-
  refine bc fun e he=>?_
  exact lst e (cz.1 h e he)
 |_=>exact h
theorem AGN:∀(L:AA),L.ren σ δ=L.ren σ' δ->(mvL n k l d L).ren σ δ=(mvL n k l d L).ren σ' δ
 |[],_=>rfl
 |(j,g,r)::L,h=>by
  simp only[AA.ren,bt,ff.injEq,fg.injEq,true_and]at h;have ih:=AGN L h.2;simp only[mvL];split
  ·exact ih
  ·simp only[AA.ren,bt,ff.injEq,fg.injEq,true_and];exact⟨⟨h.1.1,tQ h.1.2⟩,ih⟩
theorem AGO{L:AA}(h:L.ren σ δ=L.ren σ' δ){k γ:Nat}{r:A6}(hg:L.get k=some (γ,r)):σ γ=σ' γ/\r.ren σ δ=r.ren σ' δ:=by
 have e1:(L.ren σ δ).get k=some (σ γ,r.ren σ δ):=by rw[AA.get_ren,hg];rfl
 have e2:(L.ren σ' δ).get k=some (σ' γ,r.ren σ' δ):=by rw[AA.get_ren,hg];rfl
 rw[h,e2]at e1;simp only[fx.injEq,fg.injEq]at e1;exact⟨e1.1.symm,e1.2.symm⟩
theorem aA(u:Nat):∀(L:AA),AA.ren σ δ (LB u L)=LB u (AA.ren σ δ L)
 |[]=>rfl
 |(q,g,r)::L=>by
  have ih:=aA u L;show AA.ren σ δ (LB u ((q,g,r)::L))=LB u ((q,σ g,r.ren σ δ)::AA.ren σ δ L);unfold LB;by_cases h:q=u
  ·rw[if_pos h,if_pos h,ih]
  ·rw[if_neg h,if_neg h,<-ih];rfl
theorem tR:∀(us:List Nat) (L:AA),L.ren σ δ=L.ren σ' δ->(mvU n k l d us L).ren σ δ=(mvU n k l d us L).ren σ' δ
 |[],_,h=>h
 |u::us,L,h=>by
  unfold mvU;split
  ·rename_i g r e;obtain⟨h1,h2⟩:=AGO h e;have ih:=tR us (LB u L) (by rw[aA,aA,h]);simp only[AA.ren,bt,ff.injEq,fg.injEq,true_and];exact⟨⟨h1,tQ h2⟩,ih⟩
  ·exact tR us L h
theorem ATE{us:List Nat}{γ:Nat}{r:A6}(hr:s.loc.get k=some (γ,r))(h:s.emb σ pre=s.emb σ' pre):(mvS k l d us s (some (γ,r))).emb σ pre=(mvS k l d us s (some (γ,r))).emb σ' pre:=by
 have h0:=h;simp only[St.emb,St.mk.injEq,dq]at h;obtain⟨h1,h2⟩:=AGO h.2 hr;unfold mvS;rw[CN,CN,h1,tQ h2];congr 1;simp only[St.emb,St.mk.injEq,dq];refine⟨?_,AGN _ h.2⟩;apply List.ext_getElem?;intro i;have hi:=congrArg (·[i]?) h.1;simp only[List.getElem?_map,cm]at hi|-;cases hu:s.up[i]? with
 |none=>rfl
 |some L=>
  rw[hu]at hi
  simp only[dg,fx.injEq,dm]at hi|-
  split
  ·exact tR us L hi
  ·exact hi
theorem xB{us:List Nat}{st:XS}(h:Bd st):IX st (mv1 k l d us st):=by
 unfold mv1;cases ho:oA l st.s.up.length (st.s.loc.get k)with
 |false=>exact⟨bf _,h,rfl⟩
 |true=>
  cases hr:st.s.loc.get k with
  |none=>rw[hr]at ho;cases ho
  |some x=>
   obtain⟨γ,r⟩:=x
   rw[hr]at ho
   simp only[oA,bj,Nat.ble_eq]at ho
   refine⟨bf _,⟨fun σ σ' δ ha=>?_,fun σ σ' pre ha=>ATE hr (h.s σ σ' pre ha),fun l1 k1 γ' fr ps asg body N ls hg=>?_⟩,xA⟩
   ·have q:=h.f σ σ' δ ha;simp only[mvF,Fr.ren,cx]at q|-;refine bc fun x hx=>?_;have:=cz.1 q x hx;simp only[fg.injEq,true_and]at this;simp only[Function.comp,fg.injEq,true_and];exact tP 3 _ this
   ·have nl:∀r0:A6,(A6.loop fr ps asg body N ls)=iR st.s.up.length k l d r0->r0=.loop fr ps asg body N ls:=by intro r0 e;cases r0<;>first|exact e.symm|cases e
    rcases wZ hg with⟨_,_,e⟩|⟨_,_,e⟩
    ·have e2:A6.loop fr ps asg body N ls=iR st.s.up.length k l d r:=congrArg Prod.snd e;have:=nl r e2;subst this;exact absurd ho.2 (by simp[plR])
    ·rcases e with e|⟨r0,e,e2⟩
     ·exact h.lp l1 k1 γ' fr ps asg body N ls e
     ·have:=nl r0 e2;subst this;exact h.lp l1 k1 γ' fr ps asg body N ls e
def ATF(n:Nat)(o:Option (Nat×A6)):List Nat:=match o with
 |some (_,.vec _ es)=>es.filterMap fun e=>match e with
  |[.vec l k _ _]=>if l=n then some k else none
  |_=>none
 |_=>[]
def A5U(k:Nat)(st:XS):XS:=VV (ATF st.s.up.length (st.s.loc.get k)) st
def AGP(p:Nat)(st:XS):Nat:=match p with
 |0=>st.s.up.length-1
 |p+1=>match FD st.fr p with
  |some (true,.ptr l _ _ _)=>l
  |_=>0
def ATG(B i:Nat)(st:XS):Nat:=match i with
 |0=>B
 |i+1=>match FD st.fr i with
  |some (true,.int _ n)=>B+n.toNat
  |_=>B
def mvX(k B i p u:Nat)(st:XS):XS:=mv1 k (AGP p st) (ATG B i st) (match u with|0=>[]|u+1=>[u]) st
def kD:V->V
 |.nil=>.list false []
 |v=>v
def wkR:A6->A6
 |.vec T es=>.vec T (es.map (List.map kD))
 |.box cs=>.box (cs.map kD)
 |r=>r
def cL(k:Nat):AA->AA
 |[]=>[]
 |(j,g,r)::L=>(j,g,if j=k then wkR r else r)::cL k L
def wk1(k:Nat)(st:XS):XS:=⟨st.c,st.fr,⟨st.s.up,cL k st.s.loc⟩⟩
theorem ALB(v:V):(kD v).ren σ δ=kD (v.ren σ δ):=by cases v<;>simp[kD]
theorem oD(cs:List V):(cs.map kD).map (V.ren σ δ)=(cs.map (V.ren σ δ)).map kD:=by rw[cx,cx];exact bc fun v _=>ALB v
theorem ALC(r:A6):(wkR r).ren σ δ=wkR (r.ren σ δ):=by
 cases r with
 |box cs=>simp only[wkR,A6.ren,oD]
 |vec T es=>
  simp only[wkR,A6.ren,cx,A6.vec.injEq,true_and]
  exact bc fun e _=>oD e
 |_=>rfl
theorem xC(k:Nat):∀L:AA,(cL k L).ren σ δ=cL k (L.ren σ δ)
 |[]=>rfl
 |(j,g,r)::L=>by
  have ih:=xC k L;simp only[AA.ren]at ih;simp only[cL,AA.ren,bt,ih,ff.injEq,fg.injEq,true_and,and_true];split
  ·exact ALC r
  ·rfl
theorem xD(k:Nat):∀(L:AA) (j:Nat),(cL k L).get j=if j=k then(L.get j).map (fun x=>(x.1,wkR x.2)) else L.get j
 |[],j=>by simp[cL]
 |(i,g,r)::L,j=>by
  have ih:=xD k L j;simp only[cL,AA.get];by_cases hj:j=i
  ·subst hj;rw[if_pos rfl,if_pos rfl];by_cases h:j=k
   ·rw[if_pos h,if_pos h];rfl
   ·rw[if_neg h,if_neg h]
  ·rw[if_neg hj,if_neg hj,ih]
theorem AGQ{v:V}(h:v.isCell=true):(kD v).isCell=true:=by cases v<;>first|exact h|rfl
theorem ALD{G:Gh}{x:V}{v:gv}(h:RepV G x v):RepV G (kD x) v:=by
 cases x with
 |nil=>exact h.empty
 |_=>exact h
theorem oE{G:Gh}{cs:List V}{vs:List gv}(h:RepL G cs vs):RepL G (cs.map kD) vs :=
 ⟨by simpa using h.1,fun i p q=>by
  have r:=h.2 i (by simpa using p) q;simp only[cj];exact⟨AGQ r.1,ALD r.2⟩⟩
theorem ALE{G:Gh}{w:ft}{g:Nat}{r:A6}(h:HJ G g w r):HJ G g w (wkR r):=by
 cases r with
 |box cs=>
  obtain⟨b,arr,T,h1,h2,h3⟩:=h
  exact⟨b,arr,T,by simpa using h1,h2,oE h3⟩
 |vec T es=>
  obtain⟨b,sz,C,h1,h2,h3,h4,h5⟩:=h
  refine⟨b,sz,C,h1,by simpa using h2,fun e he=>?_,⟨h4.1,fun h=>h4.2 (by simpa using h)⟩,fun hC=>?_⟩
  ·obtain⟨e2,he2,rfl⟩:=dk.1 he;simpa using h3 e2 he2
  ·obtain⟨arr,h6,h7,h8⟩:=h5 hC;refine⟨arr,h6,h7,?_⟩;have q:=oE h8;rw[cp]at q;simpa using q
 |_=>exact h
theorem AGR(G:Gh)(g:Nat)(r:A6):BG G g (wkR r)=BG G g r:=by cases r<;>rfl
theorem AGS{s:St}{k l j:Nat}{x:Nat×A6}(h:St.get ⟨s.up,cL k s.loc⟩ l j=some x):∃r,s.get l j=some (x.1,r)/\(x.2=r\/x.2=wkR r):=by
 unfold St.get at h|-;split at h
 ·rename_i e;rw[if_pos e];have h:(cL k s.loc).get j=some x:=h;rw[xD]at h;split at h
  ·cases hg:s.loc.get j with
   |none=>rw[hg]at h;cases h
   |some y=>rw[hg]at h;cases h;exact⟨_,rfl,.inr rfl⟩
  ·exact⟨_,h,.inl rfl⟩
 ·rename_i e;rw[if_neg e];exact⟨_,h,.inl rfl⟩
theorem ATH{G:Gh}{s:St}{w:ft}{k:Nat}(hI:CE G s w):CE G ⟨s.up,cL k s.loc⟩ w:=by
 have look:∀{l j g r},St.get ⟨s.up,cL k s.loc⟩ l j=some (g,r)->∃r0,s.get l j=some (g,r0)/\HJ G g w r/\BG G g r=BG G g r0:=by
  intro l j g r h;obtain⟨r0,h1,h2⟩:=AGS h;refine⟨r0,h1,?_⟩;have h3:=hI.res _ _ _ _ h1;rcases h2 with h2|h2
  ·simp only at h2;subst h2;exact⟨h3,rfl⟩
  ·simp only at h2;subst h2;exact⟨ALE h3,AGR _ _ _⟩
 refine⟨hI.sl,fun l k g r h=>(by obtain⟨r0,_,h2,_⟩:=look h; exact h2),fun l k g r l' k' g' r' b h1 h2 h3 h4=>?_,fun l k g r b h1 h2=>?_,hI.fresh,hI.env,hI.me.step (Gh.le_refl _) rfl (fun _ _ _=>rfl) (fun l k g r b h1 h2=>by
  obtain⟨r0,e,_,o⟩:=look h1;exact .inl ⟨_,_,_,_,e,o▸h2⟩) fun b d hb=>hI.me.sl b d hb⟩
 ·rcases look h1 with⟨r1,e1,_,o1⟩;rcases look h2 with⟨r2,e2,_,o2⟩;exact hI.sep _ _ _ _ _ _ _ _ _ e1 e2 (o1▸h3) (o2▸h4)
 ·rcases look h1 with⟨r1,e1,_,o1⟩;exact hI.out _ _ _ _ _ e1 (o1▸h2)
theorem iU{k:Nat}{st:XS}:(wk1 k st).s.emb σ pre=⟨(st.s.emb σ pre).up,cL k (st.s.emb σ pre).loc⟩:=by simp only[wk1,St.emb,xC]
theorem AGT{m N:Nat}{ρ:Option Nat}{c:Code}{K:Exit->Fr->St->Prop}{k:Nat}{st:XS}(h:BH P m N ρ c K ((wk1 k st).fr.ren σ pre.length) ((wk1 k st).s.emb σ pre)):BH P m N ρ c K (st.fr.ren σ pre.length) (st.s.emb σ pre):=by intro G0 G a w hR;rw[iU]at h;exact h G0 G a w ⟨hR.le,ATH hR.inv,hR.fr,hR.size,hR.lvl,hR.marks⟩
theorem ALF{k:Nat}{st:XS}(h:Bd st):IX st (wk1 k st):=by
 refine⟨bf _,⟨h.f,fun σ σ' pre ha=>by rw[iU,iU,h.s σ σ' pre ha],fun l j γ fr ps asg body N ls hg=>?_⟩,rfl⟩;obtain⟨r,h1,h2⟩:=AGS (s:=st.s) hg;have e:r=.loop fr ps asg body N ls:=by
  rcases h2 with h2|h2
  ·exact h2.symm
  ·cases r<;>first|exact h2.symm|cases h2
 subst e;exact h.lp l j γ fr ps asg body N ls h1
def xE(k:Nat)(st:XS):XS:=Bool.rec (Bool.rec (Bool.rec (Bool.rec (OU (k % 1000) (k / 1000 % 1000) st) (wk1 (k % 1000) st) (bh k 3000000000000000)) (A5U (k % 1000) st) (bh k 2000000000000000))
 (mvX ((k-1000) % 1000) ((k-1000) / 1000 % 1000) ((k-1000) / 1000000 % 1000) ((k-1000) / 1000000000 % 1000) ((k-1000) / 1000000000000) st) (bh k 1000000000000000)) (ET k st) (bh k 1000)
def XG(ks:List Nat)(st:XS):XS:=List.rec (motive:=fun _=>XS->XS) (fun st=>st) (fun k _ ih st=>ih (xE k st)) ks st
theorem AOX{us:List Nat}{st:XS}:(mv1 k l d us st).c=st.c:=by unfold mv1;cases oA l st.s.up.length (st.s.loc.get k)<;>rfl
theorem A5V{k:Nat}{st:XS}:(xE k st).c=st.c:=by
 unfold xE;cases bh k 1000 with
 |true=>rfl
 |false=>cases bh k 1000000000000000 with
  |true=>exact AOX
  |false=>cases bh k 2000000000000000 with
   |true=>exact wS _ _
   |false=>cases bh k 3000000000000000 with
    |true=>rfl
    |false=>exact AF8
theorem ALG{k:Nat}{st:XS}(h:Bd st):IX st (xE k st):=by
 unfold xE;cases bh k 1000 with
 |true=>exact LW h
 |false=>cases bh k 1000000000000000 with
  |true=>exact xB h
  |false=>cases bh k 2000000000000000 with
   |true=>exact eN _ h
   |false=>cases bh k 3000000000000000 with
    |true=>exact ALF h
    |false=>exact Z7 h
theorem AGU{m N:Nat}{ρ:Option Nat}{c:Code}{K:Exit->Fr->St->Prop}{k:Nat}{st:XS}(h:BH P m N ρ c K ((xE k st).fr.ren σ pre.length) ((xE k st).s.emb σ pre)):BH P m N ρ c K (st.fr.ren σ pre.length) (st.s.emb σ pre):=by
 unfold xE at h;cases h1:bh k 1000 with
 |true=>rw[h1]at h;exact Z4 h
 |false=>
  rw[h1]at h
  cases h2:bh k 1000000000000000 with
  |true=>rw[h2]at h;exact AGM h
  |false=>
   rw[h2]at h
   cases h3:bh k 2000000000000000 with
   |true=>rw[h3]at h;exact Z5 _ h
   |false=>
    rw[h3]at h
    cases h4:bh k 3000000000000000 with
    |true=>rw[h4]at h;exact AGT h
    |false=>rw[h4]at h;exact AAT h
theorem AOY:∀(ks:List Nat) (st:XS),(XG ks st).c=st.c
 |[],_=>rfl
 |k::ks,st=>(AOY ks (xE k st)).trans A5V
theorem xF:∀(ks:List Nat) {st:XS},Bd st->IX st (XG ks st)
 |[],st,h=>⟨bf _,h,rfl⟩
 |k::ks,st,h=>by have h1:=ALG (k:=k) h;have h2:=xF ks h1.bd;exact⟨dv h1.c h2.c,h2.bd,h2.n.trans h1.n⟩
theorem oF{m N:Nat}{ρ:Option Nat}{c:Code}{K:Exit->Fr->St->Prop}:∀(ks:List Nat) {st:XS},BH P m N ρ c K ((XG ks st).fr.ren σ pre.length) ((XG ks st).s.emb σ pre)->BH P m N ρ c K (st.fr.ren σ pre.length) (st.s.emb σ pre)
 |[],_,h=>h
 |k::ks,st,h=>AGU (k:=k) (oF ks (st:=xE k st) h)
end Go.Pg
namespace Go.Pg
variable {P:fp}{n N:Nat}{ρ:Option Nat}{G0 G:Gh}{fr fr':Fr}{s s':St}{a:Act}{w:ft}{l:List fh}{gs:List (Option (Tmp×Bool))}{e:Nat}{σ σ':Nat->Nat}{δ:Nat}{pre:List AA}
def H9(P:fp)(l:List fh)(gs:List (Option (Tmp×Bool)))(e i:Nat)(fr:Fr)(s:St)(k:Fr->St->Prop):Prop:=match l[i]? with
 |some o=>if i=e then ∃f args,NW fr (bS gs i)=some true/\H6 true o fr=some (f,args)/\EA P f args s fun r s'=>k (putD fr o.dst true r) s'
  else ∃v,NW fr (bS gs i)=some true/\(∀s,FP P true o fr s=some v)/\k (putD fr o.dst true v) s
 |none=>False
def iV(P:fp)(l:List fh)(gs:List (Option (Tmp×Bool)))(e:Nat)(T:Array Bool->Fr->St->Prop):Nat->List Nat->Array Bool->Fr->St->Prop
 |0,_,listed,fr,s=>T listed fr s
 |m+1,R,listed,fr,s=>zT l listed≠[]/\∀j∈zT l listed,j∈R/\H9 P l gs e j fr s (iV P l gs e T m (R.erase j) (listed.setIfInBounds j true))
def K0(fr fr':Fr):Prop:=∀k,fr.get k=fr'.get k
theorem K0.same(h:K0 fr fr'):FC fr ⟨[],[]⟩ fr' ⟨[],[]⟩:=⟨h,fun _ _=>rfl,rfl⟩
theorem K0.putD(h:K0 fr fr')(d:Option Tmp)(c:Bool)(v:V):K0 (Pg.putD fr d c v) (Pg.putD fr' d c v):=(h.same.putD d c v).f
variable {T:Array Bool->Fr->St->Prop}
theorem oG{i:Nat}{k k':Fr->St->Prop}(h:H9 P l gs e i fr s k)(hf:K0 fr fr')(hk:∀f1 f2 s1,K0 f1 f2->k f1 s1->k' f2 s1):H9 P l gs e i fr' s k':=by
 unfold H9 at h|-;split
 ·rename_i o ho;simp only[ho]at h;split
  ·rename_i hi;rw[if_pos hi]at h;obtain⟨f,args,h1,h2,h3⟩:=h;exact⟨f,args,(hf.same.gd _).symm.trans h1,(GW fun x _=>(hf.same.rd x).symm).trans h2,h3.mono fun r s1=>hk _ _ _ (hf.putD _ _ _)⟩
  ·rename_i hi;rw[if_neg hi]at h;obtain⟨v,h1,h2,h3⟩:=h;exact⟨v,(hf.same.gd _).symm.trans h1,fun s1=>(GQ fun x _=>(hf.same.rd x).symm).trans (h2 s1),hk _ _ _ (hf.putD _ _ _) h3⟩
 ·rename_i ho;simp only[ho]at h
theorem NE{i:Nat}{k k':Fr->St->Prop}(h:H9 P l gs e i fr s k)(hk:∀f1 s1,k f1 s1->k' f1 s1):H9 P l gs e i fr s k':=by
 unfold H9 at h|-;split
 ·rename_i o ho;simp only[ho]at h;split
  ·rename_i hi;rw[if_pos hi]at h;obtain⟨f,args,h1,h2,h3⟩:=h;exact⟨f,args,h1,h2,h3.mono fun r s1=>hk _ _⟩
  ·rename_i hi;rw[if_neg hi]at h;obtain⟨v,h1,h2,h3⟩:=h;exact⟨v,h1,h2,hk _ _ h3⟩
 ·rename_i ho;simp only[ho]at h
theorem aB(hT:∀listed fr fr' s,K0 fr fr'->T listed fr s->T listed fr' s):∀(m:Nat) (R:List Nat) (listed:Array Bool) (fr fr':Fr) (s:St),K0 fr fr'->iV P l gs e T m R listed fr s->iV P l gs e T m R listed fr' s
 |0,_,_,_,_,_,hs,h=>hT _ _ _ _ hs h
 |m+1,_,_,_,_,_,hs,h=>⟨h.1,fun j hj=>⟨(h.2 j hj).1,oG (h.2 j hj).2 hs fun _ _ _ h12 h'=>aB hT m _ _ _ _ _ h12 h'⟩⟩
theorem tS{i j:Nat}{oi oj:fh}{k k':Fr->St->Prop}(hi:l[i]? = some oi)(hj:l[j]? = some oj)(hie:i≠e)(hij:GF oj (bS gs j) oi.dst)(hji:GF oi (bS gs i) oj.dst)(hne:∀d,oi.dst=some d->oj.dst≠some d)
  (h:H9 P l gs e i fr s fun f1 s1=>H9 P l gs e j f1 s1 k) (hk:∀f1 f2 s1,K0 f1 f2->k f1 s1->k' f2 s1):H9 P l gs e j fr s fun f2 s2=>H9 P l gs e i f2 s2 k':=by
 have hcomm:∀(v v':V),K0 (putD (putD fr oi.dst true v) oj.dst true v') (putD (putD fr oj.dst true v') oi.dst true v):=by
  intro v v' t;simp only[GD];by_cases e1:oj.dst=some t
  ·have:oi.dst≠some t:=fun e2=>hne t e2 e1;simp[e1,this]
  ·simp[e1]
 unfold H9 at h|-
 simp only[hi,hj,if_neg hie]at h|-
 obtain⟨v,g1,hv,h⟩:=h
 by_cases hje:j=e
 ·rw[if_pos hje]at h|-;obtain⟨f,args,g2,hc,h⟩:=h;exact⟨f,args,(hij.gd true v).symm.trans g2,(GW (hij.rd true v)).symm.trans hc,h.mono fun r s1 hk'=>⟨v,(hji.gd true r).trans g1,fun s2=>(GQ (hji.rd true r)).trans (hv s2),hk _ _ _ (hcomm v r) hk'⟩⟩
 ·rw[if_neg hje]at h|-;obtain⟨u,g2,hu,h⟩:=h;exact⟨u,(hij.gd true v).symm.trans g2,fun s2=>(GQ (hij.rd true v)).symm.trans (hu s2),v,(hji.gd true u).trans g1,fun s2=>(GQ (hji.rd true u)).trans (hv s2),hk _ _ _ (hcomm v u) h⟩
structure xG(l:List fh)(gs:List (Option (Tmp×Bool)))(e i:Nat)(oi:fh)(B:List Nat)(R:List Nat)(listed:Array Bool):Prop where
 ready:i∈zT l listed
 mem:i∈R
 wait:∀b∈B,∃o,l[b]? = some o/\∃x∈o.after,Region.binds .any x=true/\(x.on=i\/x.on∈B)
 un:∀b∈B,listed.getD b true=false
 free:∀j oj,l[j]? = some oj->j≠i->j∉B->listed.getD j true=false->i≠e/\j∈R/\GF oj (bS gs j) oi.dst/\GF oi (bS gs i) oj.dst/\(∀d,oi.dst=some d->oj.dst≠some d)
theorem xG.blocked{i:Nat}{oi:fh}{B R:List Nat}{listed:Array Bool}(h:xG l gs e i oi B R listed){j:Nat}(hj:j∈zT l listed):j∉B:=by
 intro hb;obtain⟨_,o,ho,hall⟩:=mem_ready.1 hj;obtain⟨o',ho',x,hx,hbi,hon⟩:=h.wait j hb;have:o=o':=by simpa [ho']using ho.symm
 subst this;have h1:=hall x hx hbi;rcases hon with hon|hon
 ·rw[hon,W9 (mem_ready.1 h.ready).1]at h1;cases h1
 ·rw[W9 (h.un _ hon)]at h1;cases h1
theorem tT(hT:∀listed fr fr' s,K0 fr fr'->T listed fr s->T listed fr' s){i:Nat}{oi:fh}{B:List Nat}(hi:l[i]? = some oi):∀(m:Nat) (R:List Nat) (listed:Array Bool) (fr:Fr) (s:St),
  xG l gs e i oi B R listed->R.length=m+1->R.Nodup->H9 P l gs e i fr s (iV P l gs e T m (R.erase i) (listed.setIfInBounds i true))->iV P l gs e T (m+1) R listed fr s:=by
 intro m
 induction m with
 |zero=>
  intro R listed fr s hF hlen _ h
  refine⟨fun e=>?_,fun j hj=>?_⟩
  ·have:=hF.ready;rw[e]at this;cases this
  ·by_cases hji:j=i
   ·subst hji;exact⟨hF.mem,h⟩
   ·obtain⟨hun,oj,hoj,_⟩:=mem_ready.1 hj;have hR:=(hF.free j oj (by simpa using hoj) hji (hF.blocked hj) hun).2.1;exfalso;obtain⟨x,rfl⟩:=List.length_eq_one_iff.1 hlen;have e1:=hF.mem;simp at e1 hR;exact hji (hR.trans e1.symm)
 |succ m ih=>
  intro R listed fr s hF hlen hnd h
  refine⟨fun e=>?_,fun j hj=>?_⟩
  ·have:=hF.ready;rw[e]at this;cases this
  ·by_cases hji:j=i
   ·subst hji;exact⟨hF.mem,h⟩
   ·obtain⟨hun,oj,hoj,_⟩:=mem_ready.1 hj;have hoj':l[j]? = some oj:=by simpa using hoj
    have hjB:=hF.blocked hj;obtain⟨hie,hjR,b1,b2,hne⟩:=hF.free j oj hoj' hji hjB hun;refine⟨hjR,?_⟩;have h1:H9 P l gs e i fr s fun f1 s1=>H9 P l gs e j f1 s1 (iV P l gs e T m ((R.erase i).erase j) ((listed.setIfInBounds i true).setIfInBounds j true)) :=
     NE h fun f1 s1 h'=>(h'.2 j (ready_mono hj hji)).2
    have h2:=tS hi hoj' hie b1 b2 hne h1 fun f1 f2 s1 h12 h'=>aB hT _ _ _ _ _ _ h12 h';refine NE h2 fun f1 s1 h'=>?_;have hlt:j<listed.size:=by
     rcases br j listed.size with h'|h'
     ·exact h'
     ·simp[cd h']at hun
    refine ih (R.erase j) (listed.setIfInBounds j true) f1 s1 ⟨ready_mono hF.ready (Ne.symm hji),(dp (Ne.symm hji)).2 hF.mem,hF.wait,fun b hb=>?_,fun k ok hk hki hkB hku=>?_⟩ ?_ (hnd.erase j) ?_
    ·rw[getD_set_ne true (fun e=>hjB (by rw[e];exact hb))];exact hF.un b hb
    ·have hkj:k≠j:=by intro e;subst e;simp[hlt]at hku
     rw[getD_set_ne true (Ne.symm hkj)]at hku;obtain⟨q0,q1,q2⟩:=hF.free k ok hk hki hkB hku;exact⟨q0,(dp hkj).2 q1,q2⟩
    ·rw[dw hjR,hlen];rfl
    ·rw[List.erase_comm,Array.setIfInBounds_comm _ _ hji];exact h'
def OW(P:fp)(l:List fh)(gs:List (Option (Tmp×Bool)))(e:Nat):List Nat->Fr->St->(Fr->St->Prop)->Prop
 |[],fr,s,K=>K fr s
 |i::r,fr,s,K=>H9 P l gs e i fr s fun fr s=>OW P l gs e r fr s K
theorem aC:∀(R:List Nat) (fr:Fr) (s:St) (k k':Fr->St->Prop),(∀f1 s1,k f1 s1->k' f1 s1)->OW P l gs e R fr s k->OW P l gs e R fr s k'
 |[],_,_,_,_,hk,h=>hk _ _ h
 |_::r,_,_,k,k',hk,h=>NE h fun _ _ h'=>aC r _ _ k k' hk h'
def PhY(l:List fh)(gs:List (Option (Tmp×Bool)))(e:Nat):List Nat->Array Bool->Prop
 |[],_=>True
 |i::r,listed=>(∃oi B,l[i]? = some oi/\xG l gs e i oi B (i::r) listed)/\PhY l gs e r (listed.setIfInBounds i true)
theorem S9(hT:∀listed fr fr' s,K0 fr fr'->T listed fr s->T listed fr' s):∀(R:List Nat) (listed:Array Bool) (fr:Fr) (s:St),R.Nodup->PhY l gs e R listed ->
  OW P l gs e R fr s (T (R.foldl (fun L i=>L.setIfInBounds i true) listed))->iV P l gs e T R.length R listed fr s
 |[],_,_,_,_,_,h=>h
 |i::r,listed,fr,s,hnd,hp,h=>by obtain⟨⟨oi,B,hi,hF⟩,hp⟩:=hp;refine tT hT hi r.length (i::r) listed fr s hF rfl hnd ?_;rw[List.erase_cons_head];exact NE h fun f1 s1 h'=>S9 hT r _ _ _ (dr.1 hnd).2 hp h'
theorem tU{o:fh}{f:gw}{args:List V}{k:Fr->St->Prop}(hc:H6 true o fr=some (f,args))(h:EA P f args s fun r s'=>k (putD fr o.dst true r) s'):EF P true o fr s k:=by
 unfold H6 at hc;unfold EF;split at hc
 ·rename_i f' args' argTypes' ho;simp only[ho];split at hc
  ·rename_i fid first cap vs e1 e2;cases hc;simp only[e1,e2];exact .inl ⟨rfl,h⟩
  ·cases hc
 ·cases hc
theorem aD{K:Exit->Fr->St->Prop}(hN:LP N l=true)(hg:JW l gs l=true){t:Nat}(hT:∀listed fr s G a w,T listed fr s->I4 n N G0 G fr s a w->wpAnyIn (wf ρ) 0 P .any l.toArray (K7 n N G0 K) t listed a w) :
  ∀(m:Nat) (R:List Nat) (listed:Array Bool) (G:Gh) (fr:Fr) (s:St) (a:Act) (w:ft),I4 n N G0 G fr s a w->iV P l gs e T m R listed fr s->wpAnyIn (wf ρ) 0 P .any l.toArray (K7 n N G0 K) (m+t) listed a w
 |0,_,listed,G,fr,s,a,w,hR,h=>by rw[dh];exact hT _ _ _ _ _ _ h hR
 |m+1,R,listed,G,fr,s,a,w,hR,h=>by
  rw[Nat.add_right_comm];refine⟨fun h0=>absurd h0 h.1,fun j hj=>?_⟩;have h':=(h.2 j hj).2;unfold H9 at h';split at h'
  ·rename_i o ho;have main:NW fr (bS gs j)=some true->SE P true o fr s (iV P l gs e T m (R.erase j) (listed.setIfInBounds j true))->wpOpIn (wf ρ) 0 P l.toArray (K7 n N G0 K) j (wpAnyIn (wf ρ) 0 P .any l.toArray (K7 n N G0 K) (m+t) (listed.setIfInBounds j true)) a w:=fun hgd hst=>
    HQ hR hN hg ho hgd hst fun G' a' w' fr' s' hR' hk=>aD hN hg hT m _ _ G' fr' s' a' w' hR' hk
   split at h'
   ·obtain⟨f,args,h1,h2,h3⟩:=h';exact main h1 (.inl (tU h2 h3))
   ·obtain⟨v,h1,h2,h3⟩:=h';exact main h1 (.inl (DS (Ω:=HO.nothing P) (.inl ⟨v,h2 s,h3⟩)))
  ·cases h'
def xH(l:List fh)(i j:Nat):Bool:=bn (Nat.land (dsM l i) (Nat.lor (lkM l j) (dsM l j))) 0&&bn (Nat.land (dsM l j) (lkM l i)) 0
theorem tV{i j:Nat}{oi oj:fh}(hi:l[i]? = some oi)(hj:l[j]? = some oj)(h:xH l i j=true) :
  (∀d,oi.dst=some d->d∉oj.looksAt l.toArray)/\(∀d,oi.dst=some d->oj.dst≠some d)/\(∀d,oj.dst=some d->d∉oi.looksAt l.toArray):=by
 unfold xH dsM lkM at h
 simp only[hi,hj,bj]at h
 obtain⟨h1,h2⟩:=h
 refine⟨fun d hd hm=>?_,fun d hd he=>?_,fun d hd hm=>?_⟩
 ·rw[hd]at h1;refine F0 h1 (j:=d) (by rw[CI];simp) ?_;rw[testBit_or,DN.2 hm];rfl
 ·rw[hd,he]at h1;refine F0 h1 (j:=d) (by rw[CI];simp) ?_;rw[testBit_or,CI];simp
 ·rw[hd]at h2;exact F0 h2 (j:=d) (by rw[CI];simp) (DN.2 hm)
def ALH(l:List fh)(tl:List Nat)(e:Nat):List Nat->Nat->Bool
 |[],_=>true
 |i::r,done=>HP (KS i (afL l 0) 0) fun B=>
  bh i l.length&&!(T7 done i)&&OH l i done&&bn (Nat.land B done) 0&&tl.all (T7 B)&&r.all (fun j=>T7 B j||(!(bn i e)&&xH l i j))&&HP (Nat.lor done (Nat.shiftLeft 1 i)) (ALH l tl e r)
theorem eR{tl:List Nat}(hg:JW l gs l=true):∀{R:List Nat} {done:Nat} {listed:Array Bool},KQ l (R++tl) done listed->ALH l tl e R done=true->PhY l gs e R listed
 |[],_,_,_,_=>trivial
 |i::r,done,listed,hL,h=>by
  unfold ALH at h;rw[E9,E9]at h;simp only[bj,Bool.not_eq_true',bz,Bool.or_eq_true]at h;obtain⟨⟨⟨⟨⟨⟨h1,h2⟩,h3⟩,h4⟩,h5⟩,h6⟩,h7⟩:=h;have hi:i<l.length:=by simpa [fq]using h1
  have hw:=M2 (l:=l) (i:=i) (js:=afL l 0) (B:=0) (fun p hp=>by
   obtain⟨k,o,e1,e2,e3⟩:=gY (j:=p.1) (m:=p.2) hp;exact⟨o,by rw[e1,dh]; exact e2,e3⟩) (fun b hb=>by simp at hb)
  generalize KS i (afL l 0) 0=B at *;have hb:∀b,b∈(fk l.length).filter (fun b=>B.testBit b)↔B.testBit b=true:=fun b=>by rw[List.mem_filter,List.mem_range];refine⟨fun h=>h.2,fun h=>⟨?_,h⟩⟩;obtain⟨o,ho,_⟩:=hw b h;exact(bx.1 ho).1
  refine⟨⟨l[i],(fk l.length).filter (fun b=>B.testBit b),bg hi,⟨hL.ready hi h2 h3,by simp,fun b hbm=>?_,fun b hbm=>?_,fun j oj hj hji hjB hun=>?_⟩⟩,eR hg (hL.next hi) h7⟩
  ·obtain⟨o,ho,x,he,hbi,hon⟩:=hw b ((hb b).1 hbm);exact⟨o,ho,x,he,hbi,hon.imp id fun h=>(hb _).2 h⟩
  ·have hbt:=(hb b).1 hbm;refine hL.un.2 ⟨?_,?_⟩
   ·obtain⟨o,ho,_⟩:=hw b hbt;exact(bx.1 ho).1
   ·cases hd:done.testBit b with
    |false=>rfl
    |true=>exact(F0 h4 hbt hd).elim
  ·obtain⟨hlt,hdn⟩:=hL.un.1 hun;have hnb:B.testBit j=false:=by
    cases hd:B.testBit j with
    |false=>rfl
    |true=>exact absurd ((hb j).2 hd) hjB
   rcases dt.1 (hL.cov j hlt hdn)with hm|hm
   ·rcases fw.1 hm with rfl|hr
    ·exact absurd rfl hji
    ·have hp:i≠e/\xH l i j=true:=by
      rcases h6 j hr with h6|h6
      ·rw[SR,hnb]at h6;cases h6
      ·refine⟨fun he=>?_,h6.2⟩;have:=h6.1;rw[he,cg]at this;cases this
     obtain⟨a1,a2,a3⟩:=tV (bg hi) hj hp.2;exact⟨hp.1,hm,SP (_x:=l[i]) a1 (M0 hg hj),SP (_x:=oj) a3 (M0 hg (bg hi)),a2⟩
   ·have:=h5 j hm;rw[SR,hnb]at this;cases this
abbrev cM:=List (List Nat×Nat)
def OX(S:cM):List Nat:=S.flatMap fun p=>p.1
def xI(l:List fh):cM->Nat->Bool
 |[],_=>true
 |(R,e)::S,done=>R.all (bh · l.length)&&ZJ R&&ALH l (OX S) e R done&&HP (AFC done R) (xI l S)
def iW(N:Nat)(gs:List (Option (Tmp×Bool)))(S:cM)(l:List fh):Bool :=
 LP N l&&JW l gs l&&xI l S 0&&bn (OX S).length l.length&&bn (NR (OX S)) (2 ^ l.length-1)
def iX(P:fp)(l:List fh)(gs:List (Option (Tmp×Bool))):cM->Fr->St->(Fr->St->Prop)->Prop
 |[],fr,s,K=>K fr s
 |(R,e)::S,fr,s,K=>OW P l gs e R fr s fun fr s=>iX P l gs S fr s K
theorem I4.sameF(h:I4 n N G0 G fr s a w)(hs:K0 fr fr'):I4 n N G0 G fr' s a w:=h.same ⟨hs,fun _ _=>rfl,rfl⟩
theorem TA{K:Exit->Fr->St->Prop}(hN:LP N l=true)(hg:JW l gs l=true):∀(S:cM) (done:Nat) (listed:Array Bool),KQ l (OX S) done listed->xI l S done=true ->
  ∀(G:Gh) (fr:Fr) (s:St) (a:Act) (w:ft),I4 n N G0 G fr s a w->iX P l gs S fr s (K .normal)->wpAnyIn (wf ρ) 0 P .any l.toArray (K7 n N G0 K) (OX S).length listed a w
 |[],done,listed,hL,_,G,fr,s,a,w,hR,h=>by refine⟨cq.2 fun j hj=>?_,G,fr,s,hR,h⟩;obtain⟨h1,o,ho,_⟩:=mem_ready.1 hj;obtain⟨hlt,hdn⟩:=hL.un.1 h1;exact absurd (hL.cov j hlt hdn) (by simp[OX])
 |(R,e)::S,done,listed,hL,hM,G,fr,s,a,w,hR,h=>by
  unfold xI at hM;rw[E9]at hM;simp only[bj]at hM;obtain⟨⟨⟨h1,h2⟩,h3⟩,h4⟩:=hM;have hfl:OX ((R,e)::S)=R++OX S:=by simp[OX]
  rw[hfl]at hL;have hL1:=hL.fold (fun i hi=>by simpa [fq]using bz.1 h1 i hi);have hP:=eR hg hL h3;let T:Array Bool->Fr->St->Prop:=fun listed fr s=>∀G a w,I4 n N G0 G fr s a w->wpAnyIn (wf ρ) 0 P .any l.toArray (K7 n N G0 K) (OX S).length listed a w;have hw':OW P l gs e R fr s (T (R.foldl (fun L i=>L.setIfInBounds i true) listed)) :=
   aC R fr s _ _ (fun f1 s1 h' G a w hR=>TA hN hg S _ _ hL1 h4 G f1 s1 a w hR h') h
  have hA:=S9 (T:=T) (fun listed f1 f2 s hs hT G a w hR=>hT G a w (hR.sameF fun k=>(hs k).symm)) R _ fr s (OI h2) hP hw';have hB:=aD (ρ:=ρ) (K:=K) hN hg (T:=T) (t:=(OX S).length) (fun listed f1 s1 G a w hT hR=>hT G a w hR) R.length R _ G fr s a _ hR hA;rw[hfl];simpa using hB
theorem tW{id:Nat}{K:Exit->Fr->St->Prop}(hm:P.follows .mixedOrders=true)(gs:List (Option (Tmp×Bool)))(S:cM)(hB:iW N gs S l=true)
  (h:iX P l gs S fr s (K .normal)):BH P n N ρ (.region id l.toArray true) K fr s:=by
 simp only[iW,bj]at hB
 obtain⟨⟨⟨⟨h1,h2⟩,h4⟩,h5⟩,h6⟩:=hB
 intro G0 G a w hR
 refine wpIn_region_any hm ?_
 have hR':I4 n N G0 G fr s a { w with drawn:=w.drawn+1 }:=⟨hR.le,hR.inv.drawn _,hR.fr,hR.size,hR.lvl,hR.marks⟩
 have:=TA (ρ:=ρ) (K:=K) h1 h2 S 0 _ (KQ.start (l:=l) h6) h4 G fr s a _ hR' h
 rw[bq h5]at this
 simpa using this
def xJ(l:List fh):List Nat->List Nat->cM
 |[],left=>[(left,l.length)]
 |e::es,left=>(left.filter (fun i=>!(bn i e)&&!(es.any (bn i))&&!((e::es).any fun x=>T7 (KS x (afL l 0) 0) i))++[e],e)::xJ l es (left.filter fun i=>!(bn i e)&&(es.any (bn i)||(e::es).any fun x=>T7 (KS x (afL l 0) 0) i))
def AGV(l:List fh):cM:=xJ l ((fk l.length).filter fun i=>match l[i]? with
 |some o=>kC o
 | none=>false) (fk l.length)
def cY1(E:XE)(d:Option Tmp)(st:XS):Option V->Option (List V)->Option XS
 |some (.fn f first cap),some vs=>match E.cf f ((first++vs++cap).map weakV) st with
  |some (r,st')=>some ⟨st'.c,putD st'.fr d true r,st'.s⟩
  |none=>none
 |_,_=>none
def ATI(E:XE)(o:fh)(st:XS):Option XS:=match o.op with
 |.call c=>match c.callee with
  |.value f=>cY1 E o.dst st (B5 st.fr f) (EL (B5 st.fr) c.args.toList)
  |_=>none
 |_=>none
def AOZ(st:XS):Option XS->Option XS
 |some st1=>some ⟨st.c,st1.fr,st.s⟩
 |none=>none
def ATJ(P:fp)(o:fh)(st:XS):Option XS:=AOZ st (xVal P o ⟨st.c,st.fr,⟨[],[]⟩⟩)
def opY(P:fp)(E:XE)(l:List fh)(b:Bool)(o:fh)(st:XS):Option XS:=match gdX st.fr (LA l o)with
 |some true=>Bool.rec (ATJ P o st) (ATI E o st) b
 |_=>none
def phY(P:fp)(E:XE)(l:List fh)(e:Nat):List Nat->XS->Option XS
 |[],st=>some st
 |i::r,st=>match l[i]? with
  |some o=>match opY P E l (bn i e) o st with
   |some st'=>phY P E l e r st'
   |none=>none
  |none=>none
def ALI(P:fp)(E:XE)(l:List fh):cM->XS->Option XS
 |[],st=>some st
 |p::S,st=>match phY P E l p.2 p.1 st with
  |some st1=>ALI P E l S st1
  |none=>none
def xK(P:fp)(E:XE)(N:Nat)(l:List fh)(st:XS):Option XS:=Bool.rec none (ALI P E l (AGV l) st) (iW N (l.map (LA l)) (AGV l) l)
theorem AAU(n l k:Nat):(⟨dx n [],[]⟩:St).get l k=none:=by
 unfold St.get;split
 ·rfl
 ·split
  ·rename_i L hL;simp only[List.getElem?_replicate]at hL;split at hL
   ·cases hL;rfl
   ·cases hL
  ·rfl
theorem ATK{E:XE}(hEE:KD P E){b:Bool}{o:fh}{st st':XS}(h:Bd st)(hx:opY P E l b o st=some st'):IX st st'/\(∀σ δ,NW (st.fr.ren σ δ) (LA l o)=some true) /\
  (b=true->∀(σ:Nat->Nat) (pre:List AA) (K:Fr->St->Prop),(∀σ',AS st.c σ σ'->K (st'.fr.ren σ' pre.length) (st'.s.emb σ' pre))->∃f args,H6 true o (st.fr.ren σ pre.length)=some (f,args)/\EA P f args (st.s.emb σ pre) fun r s'=>K (putD (st.fr.ren σ pre.length) o.dst true r) s') /\
  (b=false->∀(σ:Nat->Nat) (pre:List AA) (K:Fr->St->Prop),(∀σ',AS st.c σ σ'->K (st'.fr.ren σ' pre.length) (st'.s.emb σ' pre))->∃v,(∀s,FP P true o (st.fr.ren σ pre.length) s=some v)/\K (putD (st.fr.ren σ pre.length) o.dst true v) (st.s.emb σ pre)):=by
 unfold opY at hx
 split at hx
 ·rename_i hg;rw[sW]at hg;have hgd:∀σ δ,NW (st.fr.ren σ δ) (LA l o)=some true:=fun σ δ=>M8 hg;cases b with
  |true=>
   have hx:ATI E o st=some st':=hx
   unfold ATI at hx
   split at hx
   ·rename_i c ho;split at hx
    ·rename_i f hc;unfold cY1 at hx;split at hx
     ·rename_i fid first cap vs hf hvs;split at hx
      ·rename_i r HB hcall;cases hx;have hbf:=AFK (h.rd hf);obtain⟨hE,hbr,hfr,hA⟩:=hEE.cf _ _ _ _ _ hcall h (fun v hv=>by
        obtain⟨u,hu,rfl⟩:=dk.1 hv;refine hQ ?_;rcases dt.1 hu with hu|hu
        ·rcases dt.1 hu with hu|hu
         ·exact hbf.1 u hu
         ·exact XB h hvs u hu
        ·exact hbf.2 u hu)
       refine⟨⟨hE.c,hE.bd.putF hbr,hE.n⟩,hgd,fun _ σ pre K hk=>?_,fun h=>(by cases h)⟩;refine⟨fid,(((first++vs++cap).map weakV).map (V.ren σ pre.length)),?_,?_⟩
       ·rw[DT]at hf;rw[KW,FI]at hvs;unfold H6;obtain⟨cal,args,Ts⟩:=c;have hc:cal=.value f:=hc;subst hc;have hvs':args.toList.mapM (DU true (st.fr.ren σ pre.length))=some (vs.map (V.ren σ pre.length)):=by rw[IW];exact HU hvs
        simp only[ho,C6,hf,hvs',dg,M4];rw[HV];simp only[List.map_append]
       ·refine hA σ pre _ fun σ' ha=>?_;have:=hk σ' ha;rw[E6,hfr,<-h.f σ σ' pre.length ha]at this;exact this
      ·cases hx
     ·cases hx
    ·cases hx
   ·cases hx
  |false=>
   have hx:ATJ P o st=some st':=hx
   unfold ATJ AOZ at hx
   split at hx
   ·rename_i st1 h1;cases hx;unfold xVal at h1;split at h1
    ·rename_i v hv;cases h1;have hv:=PN hv;have hb0:Bd (⟨st.c,st.fr,⟨[],[]⟩⟩:XS):=⟨h.f,fun σ σ' pre _=>rfl,fun l k γ fr ps asg body N ls hg=>by simp[St.get]at hg⟩;have hbv:TO st.c v:=hb0.val hv;refine⟨⟨bf _,h.putF hbv,rfl⟩,hgd,fun h=>(by cases h),fun _ σ pre K hk=>⟨v.ren σ pre.length,fun s=>?_,?_⟩⟩
     ·have q:=JA (σ:=σ) (pre:=dx pre.length []) hv;simp only[List.length_replicate]at q;refine mM (fun l k x hx=>?_) q;have e0:(⟨[],[]⟩:St).emb σ (dx pre.length [])=⟨dx pre.length [],[]⟩:=by simp[St.emb,AA.ren]
      rw[e0,AAU]at hx;cases hx
     ·have:=hk σ (AS.refl _ _);rw[E6]at this;exact this
    ·cases h1
   ·cases hx
 ·cases hx
theorem AGW{E:XE}(hEE:KD P E):∀{R:List Nat} {st st':XS},Bd st->phY P E l e R st=some st'->IX st st' /\
  ∀(σ:Nat->Nat) (pre:List AA) (K:Fr->St->Prop),(∀σ',AS st.c σ σ'->K (st'.fr.ren σ' pre.length) (st'.s.emb σ' pre))->OW P l (l.map (LA l)) e R (st.fr.ren σ pre.length) (st.s.emb σ pre) K
 |[],st,st',h,hx=>by cases hx;exact⟨⟨bf _,h,rfl⟩,fun σ pre K hk=>hk σ (AS.refl _ _)⟩
 |i::r,st,st',h,hx=>by
  simp only[phY]at hx;split at hx
  ·rename_i o ho;split at hx
   ·rename_i st1 h1;obtain⟨hE,hg,h2,h3⟩:=ATK hEE h h1;obtain⟨hE',hs'⟩:=AGW hEE hE.bd hx;refine⟨⟨dv hE.c hE'.c,hE'.bd,hE'.n.trans hE.n⟩,fun σ pre K hk=>?_⟩;have hk1:∀σ',AS st.c σ σ'->OW P l (l.map (LA l)) e r (st1.fr.ren σ' pre.length) (st1.s.emb σ' pre) K:=fun σ' ha=>hs' σ' pre K fun σ'' ha'=>hk σ'' (ha.trans ha' hE.c);simp only[OW,H9,ho,XC ho];by_cases hie:i=e
    ·rw[if_pos hie];obtain⟨f,args,q1,q2⟩:=h2 (by rw[hie];exact cg e) σ pre (fun fr s=>OW P l (l.map (LA l)) e r fr s K) hk1;exact⟨f,args,hg _ _,q1,q2⟩
    ·rw[if_neg hie];obtain⟨v,q1,q2⟩:=h3 (by
      cases hb:bn i e with
      |false=>rfl
      | true=>exact absurd (bq hb) hie) σ pre (fun fr s=>OW P l (l.map (LA l)) e r fr s K) hk1
     exact⟨v,hg _ _,q1,q2⟩
   ·cases hx
  ·cases hx
theorem xL{E:XE}(hEE:KD P E):∀{S:cM} {st st':XS},Bd st->ALI P E l S st=some st'->IX st st' /\
  ∀(σ:Nat->Nat) (pre:List AA) (K:Fr->St->Prop),(∀σ',AS st.c σ σ'->K (st'.fr.ren σ' pre.length) (st'.s.emb σ' pre))->iX P l (l.map (LA l)) S (st.fr.ren σ pre.length) (st.s.emb σ pre) K
 |[],st,st',h,hx=>by cases hx;exact⟨⟨bf _,h,rfl⟩,fun σ pre K hk=>hk σ (AS.refl _ _)⟩
 |p::S,st,st',h,hx=>by
  simp only[ALI]at hx;split at hx
  ·rename_i st1 h1;obtain⟨hE,hs⟩:=AGW hEE h h1;obtain⟨hE',hs'⟩:=xL hEE hE.bd hx;refine⟨⟨dv hE.c hE'.c,hE'.bd,hE'.n.trans hE.n⟩,fun σ pre K hk=>?_⟩;exact hs σ pre _ fun σ' ha=>hs' σ' pre K fun σ'' ha'=>hk σ'' (ha.trans ha' hE.c)
  ·cases hx
theorem AGX(hP:D8 P){E:XE}(hEE:KD P E){id:Nat}{st st':XS}(hx:xK P E N l st=some st')(hbd:Bd st):IX st st' /\
  ∀(n:Nat) (ρ:Option Nat) (σ:Nat->Nat) (pre:List AA) (K:Exit->Fr->St->Prop),(∀σ',AS st.c σ σ'->K .normal (st'.fr.ren σ' pre.length) (st'.s.emb σ' pre))->BH P n N ρ (.region id l.toArray true) K (st.fr.ren σ pre.length) (st.s.emb σ pre):=by
 unfold xK at hx
 obtain⟨hok,hx⟩:=EC hx
 obtain⟨hE,hs⟩:=xL hEE hbd hx
 exact⟨hE,fun n ρ σ pre K hk=>tW hP.mixed (l.map (LA l)) (AGV l) hok (hs σ pre _ hk)⟩
end Go.Pg
namespace Go.Pg
variable {P:fp}{n N:Nat}{ρ:Option Nat}{G0 G:Gh}{fr fr':Fr}{s s':St}{a:Act}{w:ft}
def ldC(o:fh):Option (gk×Tmp×Tmp):=match o.op with
 |.load T (.tmp a)=>match o.dst with
  |some d=>some (T,a,d)
  |none=>none
 |_=>none
def HY(l:List fh):List (gk×Tmp×Tmp):=l.filterMap ldC
def ATL(P:fp)(T:gk):Bool:=match P.underlying T with
 |some (.struct _)=>true
 |some (.array _ _)=>true
 |_=>bn (P.cellsOf T) 1
def A5W(all:List fh)(o:fh)(T:gk)(a d:Tmp):Bool:=o.after.toList.any fun e=>Region.binds .any e&&match all[e.on]? with
 |some p=>match ldC p with
  |some k=>bn k.1 T&&bn k.2.1 a&&bn k.2.2 d
  |none=>false
 |none=>false
def AGY(P:fp)(all:List fh)(ks:List (gk×Tmp×Tmp))(j:Nat)(o:fh):Bool :=
 (LA all o).isNone&&(o.after.toList.all fun e=>!(Region.binds .any e)||bh e.on j)&&match o.op with
 |.load _ (.tmp a)=>o.dst.isSome&&ks.all (fun k=>!(bn k.2.2 a))
 |.store T (.tmp a) (.tmp d)=>o.dst.isNone&&ks.all (fun k=>!(bn k.2.2 a))&&bh 0 (P.cellsOf T)&&ATL P T&&A5W all o T a d
 |_=>false
def tX(P:fp)(all:List fh)(ks:List (gk×Tmp×Tmp)):List fh->Nat->Bool
 |[],_=>true
 |o::r,j=>AGY P all ks j o&&tX P all ks r (j+1)
def ALK(l:List fh):Nat:=(l.filter kW).length
def QA(P:fp)(l:List fh):Bool:=bh 2 (ALK l)&&tX P l (HY l) l 0
theorem XH{all:List fh}{ks:List (gk×Tmp×Tmp)}:∀{l:List fh} {j:Nat},tX P all ks l j=true->∀{i:Nat} {o:fh},l[i]? = some o->AGY P all ks (j+i) o=true
 |[],_,_,i,o,h=>by simp at h
 |p::r,j,hB,i,o,h=>by
  simp only[tX,bj]at hB;cases i with
  |zero=>simp at h;subst h;exact hB.1
  |succ i=>
   have:=XH hB.2 (i:=i) (o:=o) (by simpa using h)
   rwa [show j+1+i=j+(i+1) by omega]at this
theorem OY{o:fh}{k:gk×Tmp×Tmp}(h:ldC o=some k):o.op=.load k.1 (.tmp k.2.1)/\o.dst=some k.2.2:=by
 unfold ldC at h;split at h
 ·rename_i T a ho;split at h
  ·rename_i d hd;cases h;exact⟨ho,hd⟩
  ·cases h
 ·cases h
theorem oH{g:Bool}{t:Tmp}(h:fr'.get t=fr.get t):DU g fr' (.tmp t)=DU g fr (.tmp t):=by
 show(match fr'.get t with
  |some (c,v)=>if (!g||c)=true then some v else none
  | none=>none)=_
 rw[h];rfl
def A5X (T : gk) (x : Operand) : fh := { dst := none, op := .load T x, type := 0, pos := "", after := #[], guard := none }
def tY:Option V->Bool
 |some (.ptr ..)=>true
 |_=>false
def ATM(P:fp)(k:gk×Tmp×Tmp):Option XS->Option XS
 | some st=>Bool.rec none (match ON P st.fr st.s k.1 (.tmp k.2.1)with
  |some v=>some ⟨st.c,putD st.fr (some k.2.2) true v,st.s⟩
  | none=>none) (tY (B5 st.fr (.tmp k.2.1)))
 |none=>none
def QB(P:fp):List (gk×Tmp×Tmp)->Option XS->Option XS
 |[],o=>o
 |k::r,o=>QB P r (ATM P k o)
theorem eS:∀(ks:List (gk×Tmp×Tmp)),QB P ks none=none
 |[]=>rfl
 |_::r=>eS r
def ATN(P:fp)(fr frF:Fr)(s:St)(k:gk×Tmp×Tmp):Prop :=
 ∃v l q γ off,frF.get k.2.2=some (true,v)/\DU true fr (.tmp k.2.1)=some (.ptr l q γ off)/\(BF s (.ptr l q γ off)).bind (BT P k.1)=some v
theorem eT:∀(ks:List (gk×Tmp×Tmp)) {st st':XS},(∀k∈ks,∀k'∈ks,k.2.2≠k'.2.1)->(ks.map (·.2.2)).Nodup->Bd st->QB P ks (some st)=some st' ->
  Bd st'/\st'.c=st.c/\st'.s=st.s/\(∀t,(∀k∈ks,k.2.2≠t)->st'.fr.get t=st.fr.get t)/\∀k∈ks,ATN P st.fr st'.fr st.s k
 |[],st,st',_,_,hb,h=>by cases h;exact⟨hb,rfl,rfl,fun _ _=>rfl,fun k hk=>by cases hk⟩
 |k::r,st,st',h1,h2,hb,h=>by
  simp only[QB]at h;cases hs:ATM P k (some st)with
  |none=>rw[hs,eS]at h;cases h
  |some st1=>
   rw[hs]at h
   unfold ATM at hs
   simp only at hs
   cases hp:tY (B5 st.fr (.tmp k.2.1))with
   |false=>rw[hp]at hs;cases hs
   |true=>
   rw[hp]at hs
   simp only at hs
   split at hs
   ·rename_i v hv;have hl:FP P true (A5X k.1 (.tmp k.2.1)) st.fr st.s=some v:=by
     unfold ON at hv;rw[DT]at hv;show((DU true st.fr (.tmp k.2.1)).bind fun v=>(BF st.s v).bind fun cs=>BT P k.1 cs)=some v;revert hv;cases DU true st.fr (.tmp k.2.1)with
     |none=>intro hv;cases hv
     |some p=>
      simp only[fc]
      cases BF st.s p with
      |none=>intro hv;cases hv
      |some cs=>exact fun hv=>hv
    have hbv:=hb.val hl;cases hs;have hb1:Bd ({ st with fr:=putD st.fr (some k.2.2) true v }:XS):=hb.putF hbv;simp only[bt,dr]at h2;obtain⟨b1,b2,b3,b4,b5⟩:=eT r (fun x hx y hy=>h1 x (by simp[hx]) y (by simp[hy])) h2.2 hb1 h;refine⟨b1,b2,b3,fun t ht=>?_,fun x hx=>?_⟩
    ·rw[b4 t fun x hx=>ht x (by simp[hx])];show(putD st.fr (some k.2.2) true v).get t=_;rw[GD,if_neg (fun e=>ht k (by simp) (by simpa using e))]
    ·rcases fw.1 hx with rfl|hx
     ·unfold tY at hp;rw[DT]at hp;split at hp
      ·rename_i l q γ off hr;refine⟨v,l,q,γ,off,?_,hr,?_⟩
       ·rw[b4 x.2.2 fun y hy e=>h2.1 (dk.2 ⟨y,hy,e⟩)];show(putD st.fr (some x.2.2) true v).get x.2.2=_;rw[GD,if_pos rfl]
       ·have hl:((DU true st.fr (.tmp x.2.1)).bind fun v=>(BF st.s v).bind fun cs=>BT P x.1 cs)=some v:=hl;rw[hr]at hl;exact hl
      ·cases hp
     ·obtain⟨v',l,q,γ,off,c1,c2,c3⟩:=b5 x hx;refine⟨v',l,q,γ,off,c1,?_,c3⟩;have:DU true (putD st.fr (some k.2.2) true v) (.tmp x.2.1)=DU true st.fr (.tmp x.2.1):=oH (by
       rw[GD,if_neg (fun e=>h1 k (by simp) x (by simp[hx]) (by simpa using e))])
      rw[<-this];exact c2
   ·cases hs
theorem oI{T:gk}{cs:List V}{v:V}(h:BT P T cs=some v)(h1:ATL P T=true)(hc:∀x∈cs,x.isCell=true):BD v=true/\BA v=cs.take (P.cellsOf T)/\P.cellsOf T<=cs.length:=by
 have one:P.cellsOf T=1->cs[0]? = some v->BD v=true/\BA v=cs.take (P.cellsOf T)/\P.cellsOf T<=cs.length:=fun e h=>by
  cases cs with
  |nil=>cases h
  |cons c cs=>
   simp only[List.getElem?_cons_zero,fx.injEq]at h
   subst h
   have hi:=hc c (by simp)
   rw[e]
   refine⟨?_,?_,by simp⟩
   ·cases c<;>first|rfl|cases hi
   ·cases c<;>first|rfl|cases hi
 unfold BT at h;unfold ATL at h1;split at h
 ·split at h
  ·rename_i hle;cases h;exact⟨rfl,rfl,hle⟩
  ·cases h
 ·split at h
  ·rename_i hle;cases h;exact⟨rfl,rfl,hle⟩
  ·cases h
 ·rename_i g1 g2 hu;split at h1
  ·rename_i fs e;rw[hu]at e;cases e;exact(g1 _ rfl).elim
  ·rename_i m x e;rw[hu]at e;cases e;exact(g2 _ _ rfl).elim
  ·exact one (bq h1) h
 ·cases h
theorem oJ{α:Type}(cs:List α)(off m:Nat):A8 cs off ((cs.drop off).take m)=cs:=by
 unfold A8;rw[List.length_take,cr,List.append_assoc];have:(cs.drop off).take m++cs.drop (off+min m (cs.length-off))=cs.drop off:=by
  rw[<-List.drop_drop];have e:min m (cs.length-off)=min m (cs.drop off).length:=by rw[cr]
  rw[e];generalize cs.drop off=ds;by_cases h:m<=ds.length
  ·rw[Nat.min_eq_left h,dl]
  ·rw[Nat.min_eq_right (by omega),List.drop_length,db (by omega),List.append_nil]
 rw[this,dl]
structure A5Y(l:List fh)(fr frF:Fr)(s:St)(listed:Array Bool)(fr':Fr)(s':St):Prop where
 o:∀t,(∀k∈HY l,k.2.2≠t)->fr'.get t=fr.get t
 d:∀j o k,l[j]? = some o->ldC o=some k->listed.getD j true=true->fr'.get k.2.2=frF.get k.2.2
 p:∀i k,s'.get i k=s.get i k
 n:s'.up.length=s.up.length
theorem AAV{listed:Array Bool}{i:Nat}:(listed.setIfInBounds i true).getD i true=true:=by
 rcases br i listed.size with h|h
 ·simp[h]
 ·simp
theorem ALL{l:List fh}{K:Exit->Fr->St->Prop}(hN:LP N l=true)(hg:JW l (l.map (LA l)) l=true)(hD:zU l)(hC:tX P l (HY l) l 0=true){frF:Fr}
  (h1:∀t,(∀k∈HY l,k.2.2≠t)->frF.get t=fr.get t) (h2:∀k∈HY l,ATN P fr frF s k) (hK:K .normal frF s) :
  ∀(R:List Nat) (listed:Array Bool) (G:Gh) (fr':Fr) (s':St) (a:Act) (w:ft),R.Nodup->(∀j,j∈R↔j<l.length/\listed.getD j true=false)->A5Y l fr frF s listed fr' s'->I4 n N G0 G fr' s' a w ->
   wpAnyIn (wf ρ) 0 P .any l.toArray (K7 n N G0 K) R.length listed a w:=by
 have mem:∀{j:Nat} {o:fh} {k:gk×Tmp×Tmp},l[j]? = some o->ldC o=some k->k∈HY l:=fun hj hk=>ck.2 ⟨_,List.mem_of_getElem? hj,hk⟩
 intro R
 induction hm:R.length generalizing R with
 |zero=>
  intro listed G fr' s' a w hnd hR hI hrel
  have e:R=[]:=List.eq_nil_of_length_eq_zero hm
  subst e
  refine⟨?_,G,frF,s,hrel.same ⟨fun t=>?_,hI.p,hI.n⟩,hK⟩
  ·refine cq.2 fun j hj=>?_;obtain⟨q1,o,ho,_⟩:=mem_ready.1 hj;have:=(hR j).2 ⟨by
    have:=(bw.1 ho).1;simpa using this,q1⟩
   cases this
  ·by_cases ht:∀k∈HY l,k.2.2≠t
   ·rw[hI.o t ht,h1 t ht]
   ·have⟨k,hk,e⟩:∃k∈HY l,k.2.2=t:=Classical.byContradiction fun hn=>ht fun k hk e=>hn ⟨k,hk,e⟩;obtain⟨o,ho,hk⟩:=ck.1 hk;obtain⟨j,hj⟩:=fj ho;rw[<-e];refine hI.d j o k hj hk ?_;cases hl:listed.getD j true with
    |true=>rfl
    |false=>exact absurd ((hR j).2 ⟨(bx.1 hj).1,hl⟩) (by simp)
 |succ m ih=>
  intro listed G fr' s' a w hnd hR hI hrel
  refine⟨fun h0=>?_,fun i hi=>?_⟩
  ·exfalso;have hex:∃j,j∈R:=by
    cases R with
    |nil=>simp at hm
    |cons x R=>exact⟨x,by simp⟩
   obtain⟨j0,hj0⟩:=hex;have least:∀d j,j<=d->j∈R->∃j∈R,∀i,i<j->i∉R:=by
    intro d;induction d with
    |zero=>intro j hj hm;exact⟨j,hm,fun i hi=>by omega⟩
    |succ d ihd=>
     intro j hj hm
     by_cases hx:∃i,i<j/\i∈R
     ·obtain⟨i,hi,hi2⟩:=hx;exact ihd i (by omega) hi2
     ·exact⟨j,hm,fun i hi hi2=>hx ⟨i,hi,hi2⟩⟩
   obtain⟨j,hj,hmin⟩:=least j0 j0 (bf _) hj0;obtain⟨q1,q2⟩:=(hR j).1 hj;have ho:l[j]? = some l[j]:=bg q1;have hc:=XH hC ho;rw[dh]at hc;simp only[AGY,bj,bz]at hc;have:j∈Region.ready .any l.toArray listed:=mem_ready.2 ⟨q2,l[j],by simp,fun e he hb=>by
    have hlt:=hc.1.2 e (by simpa using he);rw[hb]at hlt;have hlt:e.on<j:=by simpa [fq]using hlt
    have hni:=hmin e.on hlt;cases hd:listed.getD e.on false with
    |true=>rfl
    |false=>
     refine absurd ((hR e.on).2 ⟨by omega,?_⟩) hni
     rcases br e.on listed.size with h'|h'
     ·simp[h']at hd|-;exact hd
     ·exfalso;rcases br j listed.size with h''|h''
      ·omega
      ·simp[cd h'']at q2⟩
   rw[h0]at this;cases this
  ·obtain⟨q1,o,ho,hwait⟩:=mem_ready.1 hi;have ho:l[i]? = some o:=by simpa using ho
   have hil:i<l.length:=(bx.1 ho).1;have hiR:i∈R:=(hR i).2 ⟨hil,q1⟩;have hc:=XH hC ho;rw[dh]at hc;simp only[AGY,bj,bz]at hc;obtain⟨⟨c1,_⟩,c3⟩:=hc;have hgn:bS (l.map (LA l)) i=none:=by rw[XC ho];exact dz.1 c1
   have hgd:NW fr' (bS (l.map (LA l)) i)=some true:=by rw[hgn];rfl
   have hlen:(R.erase i).length=m:=by rw[dw hiR,hm];rfl
   have hR':∀j,j∈R.erase i↔j<l.length/\(listed.setIfInBounds i true).getD j true=false:=fun j=>by
    rw[List.Nodup.mem_erase_iff hnd,hR];by_cases e:j=i
    ·subst e;rw[AAV];simp
    ·rw[getD_set_ne true (Ne.symm e)];simp[e]
   have next:∀(fr2:Fr) (s2:St),A5Y l fr frF s (listed.setIfInBounds i true) fr2 s2->∀G' a' w',I4 n N G0 G' fr2 s2 a' w'->wpAnyIn (wf ρ) 0 P .any l.toArray (K7 n N G0 K) m (listed.setIfInBounds i true) a' w' :=
    fun fr2 s2 hI2 G' a' w' hr2=>ih (R.erase i) hlen (listed.setIfInBounds i true) G' fr2 s2 a' w' (hnd.erase i) hR' hI2 hr2
   have same:∀(t:Tmp),(∀k∈HY l,k.2.2≠t)->DU true fr' (.tmp t)=DU true fr (.tmp t):=fun t ht=>oH (hI.o t ht);have cel:∀v,BF s' v=BF s v:=fun v=>by unfold BF;cases v<;>first|rfl|simp only[hI.p]
   split at c3
   ·rename_i T t hop;simp only[bj]at c3;obtain⟨d,hd⟩:=Option.isSome_iff_exists.1 c3.1;have hk:ldC o=some (T,t,d):=by simp only[ldC,hop,hd]
    have hnt:∀k∈HY l,k.2.2≠t:=fun k hk e=>by have:=bz.1 c3.2 k hk;rw[e,cg]at this;cases this
    obtain⟨v,l1,q,γ,off,e1,e2,e3⟩:=h2 _ (mem ho hk);refine HQ hrel hN hg ho hgd (k:=fun f2 s2=>f2=putD fr' o.dst true v/\s2=s') ?_ fun G' a' w' fr2 s2 hr2 hk2=>?_
    ·refine .inl (DS (Ω:=HO.nothing P) (.inl ⟨v,?_,rfl,rfl⟩));have:FP P true o fr' s'=(DU true fr' (.tmp t)).bind fun v=>(BF s' v).bind fun cs=>BT P T cs:=by unfold FP;rw[hop];show JG P o s' (DU true fr')=_;unfold JG;rw[hop]
     rw[this,same t hnt,e2,fc,cel];exact e3
    ·obtain⟨rfl,rfl⟩:=hk2;refine next _ _ ⟨fun x hx=>?_,fun j p k hj hpk hl=>?_,hI.p,hI.n⟩ G' a' w' hr2
     ·rw[GD,hd,if_neg (fun e=>hx _ (mem ho hk) (by simpa using e))];exact hI.o x hx
     ·by_cases e:j=i
      ·subst e;rw[ho]at hj;cases hj;rw[hk]at hpk;cases hpk;rw[GD,hd,if_pos rfl];exact e1.symm
      ·rw[getD_set_ne true (Ne.symm e)]at hl;have hne:=hD i j o p d ho hj (Ne.symm e) hd;rw[GD,hd,if_neg (fun e=>hne (by rw[(OY hpk).2];simpa using e.symm))];exact hI.d j p k hj hpk hl
   ·rename_i T t d hop;simp only[bj]at c3;obtain⟨⟨⟨⟨d1,d2⟩,d3⟩,d4⟩,d5⟩:=c3;have hdn:o.dst=none:=dz.1 d1;have hnt:∀k∈HY l,k.2.2≠t:=fun k hk e=>by have:=bz.1 d2 k hk;rw[e,cg]at this;cases this
    obtain⟨e,he,hb⟩:=List.any_eq_true.1 d5;simp only[bj]at hb;obtain⟨hb,hp⟩:=hb;split at hp
    ·rename_i p hpl;split at hp
     ·rename_i k hk;simp only[bj]at hp;have k1:k.1=T:=bq hp.1.1;have k2:k.2.1=t:=bq hp.1.2;have k3:k.2.2=d:=bq hp.2;have hdone:listed.getD e.on true=true:=by
       have:=hwait e (by simpa using he) hb;rcases br e.on listed.size with h'|h'
       ·simp[h']at this|-;exact this
       ·simp[cd h']
      obtain⟨v,l1,q,γ,off,e1,e2,e3⟩:=h2 _ (mem hpl hk);have hfd:fr'.get d=some (true,v):=by rw[<-k3,hI.d e.on p k hpl hk hdone];exact e1
      rw[k2]at e2;rw[k1]at e3;cases hget:s.get l1 q with
      |none=>simp[BF,hget]at e3
      |some x=>
       obtain⟨γ',r⟩:=x
       cases r with
       |box cs=>
        by_cases hγ:γ'=γ
        ·subst hγ;have e3:BT P T (cs.drop off)=some v:=by simpa [BF,hget]using e3
         have hget':s'.get l1 q=some (γ',.box cs):=by rw[hI.p];exact hget
         have hcell:∀x∈cs.drop off,x.isCell=true:=fun x hx=>by obtain⟨b,arr,T',_,_,hr⟩:=hrel.inv.res _ _ _ _ hget';obtain⟨j,hj,rfl⟩:=List.getElem_of_mem (List.mem_of_mem_drop hx);exact(hr.2 j hj (by rw[<-hr.1];exact hj)).1
         have h0:0<P.cellsOf T:=by simpa [fq]using d3
         obtain⟨w1,w2,w3⟩:=oI e3 d4 hcell;have hst:DB P o fr' s'=some (l1,q,γ',.box cs):=by
          unfold DB;rw[hop];have r1:DU true fr' (.tmp t)=some (.ptr l1 q γ' off):=by rw[same t hnt];exact e2
          have r2:DU true fr' (.tmp d)=some v:=by
           show(match fr'.get d with
            |some (c,v)=>if (!true||c)=true then some v else none
            | none=>none)=_
           rw[hfd];rfl
          simp only[r1,r2,hget'];rw[cr]at w3;rw[if_pos ⟨trivial,w1,h0,by rw[w2,List.length_take,cr];omega,by omega,hdn⟩,w2,oJ]
         refine HQ hrel hN hg ho hgd (k:=fun f2 s2=>f2=fr'/\s2=s'.put l1 q γ' (.box cs)) (.inl ((DL hst).2.2.2 _ ⟨rfl,rfl⟩)) fun G' a' w' fr2 s2 hr2 hk2=>?_;obtain⟨rfl,rfl⟩:=hk2;refine next _ _ ⟨hI.o,fun j p2 k' hj hpk hl=>?_,fun i2 k2=>?_,by rw[St.put_len];exact hI.n⟩ G' a' w' hr2
         ·by_cases ej:j=i
          ·subst ej;rw[ho]at hj;cases hj;rw[(OY hpk).2]at hdn;cases hdn
          ·rw[getD_set_ne true (Ne.symm ej)]at hl;exact hI.d j p2 k' hj hpk hl
         ·rw[St.get_put s' hget'];split
          ·rename_i e;rw[e.1,e.2,hget]
          ·exact hI.p i2 k2
        ·simp[BF,hget,hγ]at e3
       |_=>simp[BF,hget]at e3
     ·cases hp
    ·cases hp
   ·cases c3
theorem AGZ{l:List fh}{id:Nat}{K:Exit->Fr->St->Prop}(hm:P.follows .mixedOrders=true)(hB:OJ (DH l) N (l.map (LA l)) (WD l) l=true)(hC:tX P l (HY l) l 0=true){frF:Fr}
  (h1:∀t,(∀k∈HY l,k.2.2≠t)->frF.get t=fr.get t) (h2:∀k∈HY l,ATN P fr frF s k) (hK:K .normal frF s):BH P n N ρ (.region id l.toArray true) K fr s:=by
 simp only[OJ,bj]at hB
 obtain⟨⟨⟨⟨⟨b1,b2⟩,b3⟩,b4⟩,b5⟩,b6⟩:=hB
 intro G0 G a w hR
 refine wpIn_region_any hm ?_
 have hR':I4 n N G0 G fr s a { w with drawn:=w.drawn+1 }:=⟨hR.le,hR.inv.drawn _,hR.fr,hR.size,hR.lvl,hR.marks⟩
 have:=ALL (ρ:=ρ) (K:=K) b1 b2 (RA b3) hC h1 h2 hK (fk l.length) (Array.replicate l.length false) G fr s a _ List.nodup_range (fun j=>by
  rw[List.mem_range];refine⟨fun h=>⟨h,by simp[h]⟩,fun h=>h.1⟩) ⟨fun _ _=>rfl,fun j o k hj _ hl=>by
   have:=(bx.1 hj).1;simp[this]at hl,fun _ _=>rfl,rfl⟩ hR'
 rw[List.length_range]at this
 simpa using this
theorem aE:∀{l:List fh},ZK l=true->((HY l).map (·.2.2)).Nodup
 |[],_=>by simp[HY]
 |o::r,h=>by
  simp only[ZK,bj]at h;have ih:=aE h.2;unfold HY at ih|-;rw[List.filterMap_cons];cases hk:ldC o with
  |none=>exact ih
  |some k=>
   simp only[bt,dr]
   refine⟨fun hm=>?_,ih⟩
   obtain⟨k',hk',e⟩:=dk.1 hm
   obtain⟨p,hp,hpk⟩:=ck.1 hk'
   have h1:=h.1
   rw[(OY hk).2]at h1
   have h2:=bz.1 h1 p hp
   rw[(OY hpk).2]at h2
   simp only[e,cg]at h2
   cases h2
theorem tZ{l:List fh}(hC:tX P l (HY l) l 0=true):∀k∈HY l,∀k'∈HY l,k.2.2≠k'.2.1:=fun k hk k' hk' e=>by obtain⟨o,ho,hko⟩:=ck.1 hk';obtain⟨j,hj⟩:=fj ho;have hc:=XH hC hj;simp only[AGY,bj,(OY hko).1]at hc;have:=bz.1 hc.2.2 k hk;rw[e,cg]at this;cases this
theorem ALM(hP:D8 P){id:Nat}{l:List fh}(hN:OJ (DH l) N (l.map (LA l)) (WD l) l=true)(hC:QA P l=true){st st':XS}(hx:QB P (HY l) (some st)=some st')(hbd:Bd st):IX st st' /\
  ∀(n:Nat) (ρ:Option Nat) (σ:Nat->Nat) (pre:List AA) (K:Exit->Fr->St->Prop),(∀σ',AS st.c σ σ'->K .normal (st'.fr.ren σ' pre.length) (st'.s.emb σ' pre))->BH P n N ρ (.region id l.toArray true) K (st.fr.ren σ pre.length) (st.s.emb σ pre):=by
 simp only[QA,bj]at hC
 have hdd:ZK l=true:=by have hB:=hN;simp only[OJ,bj]at hB;exact hB.1.1.1.2
 obtain⟨b1,b2,b3,b4,b5⟩:=eT _ (tZ hC.2) (aE hdd) hbd hx
 refine⟨⟨by omega,b1,by rw[b3]⟩,fun n ρ σ pre K hk=>AGZ hP.mixed hN hC.2 (frF:=st'.fr.ren σ pre.length) (fun t ht=>?_) (fun k hk=>?_) (by
  have:=hk σ (AS.refl _ _);rwa [b3]at this)⟩
 ·rw[Fr.get_ren,Fr.get_ren,b4 t ht]
 ·obtain⟨v,l1,q,γ,off,e1,e2,e3⟩:=b5 k hk;have hv:FP P true (A5X k.1 (.tmp k.2.1)) st.fr st.s=some v:=by show((DU true st.fr (.tmp k.2.1)).bind fun v=>(BF st.s v).bind fun cs=>BT P k.1 cs)=some v;rw[e2];exact e3
  have hv:=JA (σ:=σ) (pre:=pre) hv;have e2':DU true (st.fr.ren σ pre.length) (.tmp k.2.1)=some ((V.ptr l1 q γ off).ren σ pre.length):=by rw[C6,e2];rfl
  refine⟨v.ren σ pre.length,l1+pre.length,q,σ γ,off,by rw[Fr.get_ren,e1];rfl,by rw[e2'];simp,?_⟩;have hv:((DU true (st.fr.ren σ pre.length) (.tmp k.2.1)).bind fun v=>(BF (st.s.emb σ pre) v).bind fun cs=>BT P k.1 cs)=some (v.ren σ pre.length):=hv;rw[e2']at hv;simpa using hv
end Go.Pg
namespace Go.Pg
variable {P:fp}{s:St}{G G':Gh}{w:ft}
def TB(w:ft)(bm:Nat):Gh:={ sl:=fun b=>if b=bm then none else w.heap[b]?,be:=fun g=>if g=0 then some (bm,1,1) else none,env:=(w.os,w.output,w.heap.size),mm:=fun _=>none }
theorem AG0{bm:Nat}{D:List V}(hI:CE G s w)(hm:G.mm bm=some D):∃es:List (V×V),JS D es/\CE (TB w bm) ⟨[],[(0,0,.map es)]⟩ w:=by
 obtain⟨arr,clock,es,h1,h2,h3,h4⟩:=(hI.me.at' bm D hm).any (G':=TB w bm);have look:∀{l k g r},(⟨[],[(0,0,.map es)]⟩:St).get l k=some (g,r)->l=0/\k=0/\g=0/\r=.map es:=by
  intro l k g r h;unfold St.get at h;split at h
  ·rename_i e;simp only[AA.get]at h;split at h
   ·rename_i e2;cases h;exact⟨e,e2,rfl,rfl⟩
   ·cases h
  ·simp at h
 have hown:BG (TB w bm) 0 (.map es)=some bm:=rfl;refine⟨es,h4,⟨fun b o h=>?_,fun l k g r h=>?_,fun l k g r l' k' g' r' b e1 e2 _ _=>?_,fun l k g r b e1 e2=>?_,⟨1,fun g hg=>if_neg (by omega)⟩,⟨rfl,rfl,bf _,fun b c T fz e1 e2=>?_⟩,⟨fun _ _ h=>(by cases h),fun _ _ h=>(by cases h),fun _ _ _ _ _ _ _=>rfl,fun _ _ h=>by cases h⟩⟩⟩
 ·have h:(if b=bm then none else w.heap[b]?)=some o:=h;split at h
  ·cases h
  ·exact h
 ·obtain⟨_,_,rfl,rfl⟩:=look h;exact⟨bm,arr,clock,rfl,h1,h2,h3⟩
 ·obtain⟨rfl,rfl,_,_⟩:=look e1;obtain⟨rfl,rfl,_,_⟩:=look e2;exact⟨rfl,rfl⟩
 ·obtain⟨_,_,rfl,rfl⟩:=look e1;rw[hown]at e2;cases e2;exact⟨if_pos rfl,hI.me.lt bm D hm⟩
 ·have h3:=(bw.1 e2).1;have h4:w.heap.size<=b:=e1;omega
theorem AAW{bm:Nat}{D:List V}{G2:Gh}{s2:St}{w2:ft}{es:List (V×V)}(hI:CE G s w)(hm:G.mm bm=some D)(hle:(TB w bm).le G2)(hI2:CE G2 s2 w2)(hg:s2.get 0 0=some (0,.map es))(hes:JS D es):CE G s w2:=by
 have he:G2.env=(w.os,w.output,w.heap.size):=hle.e;obtain⟨h1,h2,h3,h4⟩:=hI2.env;rw[he]at h1 h2 h3 h4;have hold:∀i,i<w.heap.size->i≠bm->w2.heap[i]? = w.heap[i]?:=fun i hi hne=>by have:=hI2.sl i w.heap[i] (hle.1 i _ ((if_neg hne).trans (show w.heap[i]? = some w.heap[i] by simp[hi])));rw[this];simp[hi]
 have hb:MP G w2 bm D:=by
  obtain⟨b',arr,clock,q1,q2,q3,q4⟩:=hI2.res _ _ _ _ hg;have q5:=hle.2 0 _ (show(TB w bm).be 0=some (bm,1,1) from rfl);rw[q1]at q5;obtain rfl:b'=bm:=by simpa using q5
  exact MP.any ⟨arr,clock,es,q2,q3,q4,hes⟩
 have hne:∀{b},G.mm b=none->b≠bm:=fun h e=>by rw[e,hm]at h;cases h
 obtain⟨e1,e2,e3,e4⟩:=hI.env;refine⟨fun b o h=>?_,fun l k g r h=>(hI.res l k g r h).keep (Gh.le_refl _) fun b hb=>hold b (hI.out _ _ _ _ _ h hb).2 (hne (hI.me.ow _ _ _ _ _ h hb)),hI.sep,fun l k g r b h hb=>⟨(hI.out _ _ _ _ _ h hb).1,bp (hI.out _ _ _ _ _ h hb).2 h3⟩,hI.fresh,⟨h1.trans e1,h2.trans e2,dv e3 h3,fun b c T fz hb hc=>?_⟩,⟨fun b d hb'=>?_,fun b d hb=>bp (hI.me.lt b d hb) h3,hI.me.ow,hI.me.sl⟩⟩
 ·have hn:b≠bm:=fun e=>by rw[e,hI.me.sl bm D hm]at h;cases h
  have h:=hI.sl b o h;rw[hold b (bw.1 h).1 hn];exact h
 ·rename_i hb0;rcases br b w.heap.size with hl|hl
  ·by_cases e:b=bm
   ·subst e;obtain⟨arr,clock,_,q,_⟩:=hb0;rw[q]at hc;cases hc
   ·rw[hold b hl e]at hc;exact e4 b c T fz hb hc
  ·exact h4 b c T fz hl hc
 ·by_cases e:b=bm
  ·subst e;rw[hm]at hb';cases hb';exact hb
  ·exact(hI.me.at' b d hb').keep (fun _ _ h=>h) (hold b (hI.me.lt b d hb') e)
theorem AAX{f:gw}{c key:V}{b:Bool}(h1:FT 9 c=true)(h2:FT 9 key=true)
  (hcall:∀es:List (V×V),JS [c] es->EA P f [.ref [c,.mp 0 0 0],key] ⟨[],[(0,0,.map es)]⟩ fun r s'=>r=.bool b/\∃es',s'.get 0 0=some (0,.map es')/\JS [c] es') :
  ∀s,EA P f [.ref [c,.memo [c]],key] s fun r s'=>r=.bool b/\s'=s:=by
 intro s
 refine⟨(hcall [] (JS.nil _)).1,fun G vals w R hI hA hR=>?_⟩
 have hl:=hA.1
 match hv:vals.toList,hl with
 |[v0,v1],_=>
  rw[hv]at hA
  have a0:=hA.2 0 (by simp) (by simp)
  have a1:=hA.2 1 (by simp) (by simp)
  simp only[dc,df]at a0 a1
  cases a0 with
  |ref cs b0 off arr T fz vs ha hcell hr=>
   have r1:=hr 1 (by simp)
   simp only[df,dc]at r1
   generalize hy:vs 1=y at r1
   cases r1 with
   |memo _ bm hm=>
    obtain⟨es,hes,hI1⟩:=AG0 hI hm
    have hsl:∀b o,G.sl b=some o->(TB w bm).sl b=some o:=fun b o h=>by
     have hn:b≠bm:=fun e=>by rw[e,hI.me.sl bm _ hm]at h;cases h
     exact(if_neg hn).trans (hI.sl b o h)
    have q0:RepV (TB w bm) (.ref [c,.mp 0 0 0]) (.pointer (some ⟨b0,off,none⟩)):=by
     refine .ref _ b0 off arr T fz vs (hsl _ _ ha) (fun j hj=>?_) (fun j hj=>?_)
     ·match j,hj with
      |0,_=>exact hcell 0 (by simp)
      |1,_=>exact⟨(hcell 1 (by simp)).1,rfl⟩
     ·match j,hj with
      |0,_=>exact S8 hsl 9 _ _ h1 (hr 0 (by simp))
      |1,_=>
       show RepV _ (.mp 0 0 0) (vs 1)
       rw[hy]
       exact .mp 0 0 0 bm 1 1 rfl
    have q1:RepV (TB w bm) key v1:=S8 hsl 9 _ _ h2 a1
    refine(hcall es hes).2 (TB w bm) vals w R hI1 (by rw[hv];exact RepA.cons q0 (RepA.cons q1 (RepA.nil _))) fun G2 r v w2 s2 hle hI2 hrv _ hK=>?_
    obtain⟨rfl,es',hg,hes'⟩:=hK
    exact hR G _ v w2 s (Gh.le_refl G) (AAW hI hm hle hI2 hg hes') (R7 hrv) rfl ⟨rfl,rfl⟩
def xM:List V->Option V
 | [.ref [c,.memo [c']],key]=>cond (cN 9 c c'&&(FT 9 c&&FT 9 key)) (match isV [c] key with
  |some b=>some (.bool b)
  | none=>none) none
 |_=>none
def eU(fi:gw):CF0:=fun f args=>cond (bn f fi) (xM args) none
theorem oK{fi:gw} (hcall:∀(c key:V) (b:Bool),FT 9 c=true->FT 9 key=true->isV [c] key=some b->∀es:List (V×V),JS [c] es ->
   EA P fi [.ref [c,.mp 0 0 0],key] ⟨[],[(0,0,.map es)]⟩ fun r s'=>r=.bool b/\∃es',s'.get 0 0=some (0,.map es')/\JS [c] es'):EX P (eU fi):=by
 intro f args r h
 unfold eU at h
 cases h1:bn f fi with
 |false=>rw[h1]at h;cases h
 |true=>
  rw[h1]at h
  have h1:=bq h1
  subst h1
  replace h:xM args=some r:=h
  unfold xM at h
  split at h
  ·rename_i c c' key;cases hc:(cN 9 c c'&&(FT 9 c&&FT 9 key))with
   |false=>rw[hc]at h;cases h
   |true=>
    rw[hc]at h
    simp only[bj]at hc
    obtain⟨h2,h3,h4⟩:=hc
    have h2:=RH _ _ h2
    subst h2
    have h:(match isV [c] key with
     |some b=>some (V.bool b)
     | none=>none)=some r:=h
    split at h
    ·rename_i b hb;cases h;have e1:=fun σ δ=>B7 (σ:=σ) (δ:=δ) 9 _ (E1 9 _ h3);have e2:=fun σ δ=>B7 (σ:=σ) (δ:=δ) 9 _ (E1 9 _ h4);refine⟨AAX h3 h4 (hcall c key b h3 h4 hb),fun v hv σ δ=>?_,fun σ δ=>by simp⟩;simp only[fw,List.not_mem_nil,or_false]at hv;rcases hv with rfl|rfl
     ·simp[e1]
     ·exact e2 σ δ
    ·cases h
  ·cases h
def orC(a b:CF0):CF0:=fun f args=>match a f args with
 |some r=>some r
 |none=>b f args
theorem uB{a b:CF0}(ha:EX P a)(hb:EX P b):EX P (orC a b):=by
 intro f args r h;unfold orC at h;split at h
 ·rename_i r' hr;cases h;exact ha f args _ hr
 ·exact hb f args r h
end Go.Pg
namespace Go.Pg
variable {P:fp}
def ATO:List V->Option V
 |[.list false []]=>some (.list false [])
 |_=>none
def ATP(fi:gw):CF0:=fun f args=>cond (bn f fi) (ATO args) none
theorem ALN(hP:D8 P){rec:F6}(hrec:UJ P rec){fi:gw}(h:∀a c,∃r,ES P rec fi [.raw (.slice a 0 c)]=some r/\weakM r=.list false []):EX P (ATP fi):=by
 intro f args r hx;unfold ATP at hx;cases hf:bn f fi with
 |false=>rw[hf]at hx;cases hx
 |true=>
  rw[hf]at hx
  replace hx:ATO args=some r:=hx
  unfold ATO at hx
  split at hx
  ·cases hx;obtain rfl:=bq hf;refine⟨fun s=>?_,fun v hm σ δ=>by rw[List.mem_singleton.1 hm];rfl,fun σ δ=>rfl⟩;obtain⟨r0,h0,_⟩:=h none 0;refine⟨((LV hP hrec _ _ _ h0).1 s).1,fun G vals w R hI ha hR=>?_⟩;obtain⟨l⟩:=vals;match l,ha with
   |[v],ha=>
    have hv:RepV G (.list false []) v:=ha.2 0 (by simp) (by simp)
    cases hv with
    |list _ _ a cap b off sz arr T fz vs hcap hfull h1 hl hv hr=>
     obtain⟨r1,h1,hw⟩:=h a cap
     refine((LV hP hrec _ _ _ h1).1 s).2 G _ w R hI ⟨by simp,fun i h1 h2=>?_⟩ fun G' r v w' s' g1 g2 g3 g4 hk=>hR G' (weakM r) v w' s' g1 g2 g3.weakM g4 ⟨by rw[hk.1,hw],hk.2⟩
     obtain rfl:i=0:=by simp at h1;omega
     exact .raw _ rfl
   |[],ha=>exact absurd ha.1 (by simp)
   |_::_::_,ha=>exact absurd ha.1 (by simp)
  ·cases hx
end Go.Pg
