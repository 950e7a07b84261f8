/- A row that lies in a place is told as a list, once and for all: it is never written again. No program in sight. -/
import Derived.Test.YthhdhbalenanjaaGreatQa
noncomputable section
open Go renaming Oper->fw,Program->fx,TypeId->fc,World->fg,Value->fh
open Bool renaming and_eq_true->bj
open List renaming map_congr_left->bk,getElem?_eq_some_iff->bw,all_eq_true->bx,map_inj_left->bz,map_map->bb,getElem_map->bc,map_cons->bg,map_flatten->bh,getElem?_eq_getElem->bm,mem_map_of_mem->bn,mem_map->ck,mem_filterMap->cw,take_of_length_le->cx,eq_nil_iff_forall_not_mem->cz,replicate->cn,getElem?_modify->cp,length_drop->ct,append_cancel_left_eq->dj,length_erase_of_mem->dq,map->dv,length_replicate->dz,take_append_drop->df,mem_erase_of_ne->dl,nodup_cons->dm,mem_append->dn,getElem?_of_mem->dp,range->fj,cons->fk
open Nat renaming eq_of_beq_eq_true->bq,le_refl->bf,blt->bp,beq->cq,lt_or_ge->cd,beq_refl->cm,le_trans->dk,blt_eq->dw,zero_add->dc
open Array renaming getElem?_eq_some_iff->cj,getElem?_eq_none->cg
open Option renaming isNone_iff_eq_none->dx,map_some->db,map_eq_map->dg,map_eq_some_iff->dh,some->dr,bind_some->fq
open Prod renaming mk->dt
namespace Go.Pg
variable {P:fx}{σ σ':Nat->Nat}{δ:Nat}{pre:List AA}{s:St}{fr:Fr}{G G':Gh}{w:fg}
def BD(l k:Nat)(o:Option (Nat×AX)):Nat->V->V
 |0,v=>v
 |f+1,v=>match v with
  |.vec l' k' g m=>match o with
   |some (γ,.vec _ es)=>if l'=l/\k'=k/\g=γ/\m=es.length then .list false es else v
   |_=>v
  |.ptr l' k' g off=>match o with
   |some (γ,.box cs)=>if l'=l/\k'=k/\g=γ then .ref ((cs.map NG).drop off) else v
   |_=>v
  |.agg cs=>.agg (cs.map (BD l k o f))
  |.tup cs=>.tup (cs.map (BD l k o f))
  |v=>v
def J3(l k:Nat)(o:Option (Nat×AX)):AX->AX
 |.box cs=>.box (cs.map (BD l k o 3))
 |.vec T es=>.vec T (es.map (dv (BD l k o 3)))
 |r=>r
def M8(l k:Nat)(o:Option (Nat×AX))(fr:Fr):Fr:=fr.map fun x=>(x.1,x.2.1,BD l k o 3 x.2.2)
def FO(l k:Nat)(o:Option (Nat×AX)):AA->AA
 |[]=>[]
 |(j,g,r)::L=>if j=k then FO l k o L else(j,g,J3 l k o r)::FO l k o L
def HX(k:Nat)(st:XS):XS:=⟨st.c,M8 st.s.up.length k (st.s.loc.get k) st.fr,⟨st.s.up,FO st.s.up.length k (st.s.loc.get k) st.s.loc⟩⟩
def OJ(ks:List Nat)(st:XS):XS:=List.rec (motive:=fun _=>XS->XS) (fun st=>st) (fun k _ ih st=>ih (HX k st)) ks st
theorem U3(l k:Nat)(o:Option (Nat×AX)):∀(fr:Fr) (j:Nat),(M8 l k o fr).get j=(fr.get j).map fun x=>(x.1,BD l k o 3 x.2)
 |[],_=>rfl
 |(i,c,v)::fr,j=>by
  have ih:=U3 l k o fr j;simp only[M8,bg,Fr.get]at ih|-;split
  ·rfl
  ·exact ih
theorem LM(l k:Nat)(o:Option (Nat×AX)):∀(L:AA) (j:Nat),(FO l k o L).get j=if j=k then none else(L.get j).map fun x=>(x.1,J3 l k o x.2)
 |[],j=>by simp[FO]
 |(i,g,r)::L,j=>by
  have ih:=LM l k o L j;unfold FO;by_cases h:i=k
  ·rw[if_pos h,ih];by_cases hj:j=k
   ·simp[hj]
   ·rw[if_neg hj,if_neg hj,AA.get,if_neg (by rw[h];exact hj)]
  ·rw[if_neg h];simp only[AA.get];by_cases hj:j=i
   ·subst hj;rw[if_pos rfl,if_pos rfl,if_neg h];rfl
   ·rw[if_neg hj,if_neg hj,ih]
def QR(G G':Gh)(σ:Nat->Nat)(δ l k:Nat)(o:Option (Nat×AX)):Prop:=(∀γ T es,o=some (γ,.vec T es)->∀v,RepV G (.vec (l+δ) k (σ γ) es.length) v->RepV G' (.list false (es.map (dv (V.ren σ δ)))) v) /\
 ∀γ cs,o=some (γ,.box cs)->∀off v,RepV G (.ptr (l+δ) k (σ γ) off) v->RepV G' (.ref (((cs.map NG).drop off).map (V.ren σ δ))) v
theorem AC6(v:V):(NG v).ren σ δ=NG (v.ren σ δ):=by cases v<;>simp[NG]
theorem PC(cs:List V)(off:Nat):((cs.map NG).drop off).map (V.ren σ δ)=((cs.map (V.ren σ δ)).map NG).drop off:=by rw[List.map_drop,bb,bb];congr 1;exact bk fun v _=>AC6 v
theorem dE{l k:Nat}{o:Option (Nat×AX)}:∀(f:Nat) (v:V),(v.ren σ δ).isCell=true->((BD l k o f v).ren σ δ).isCell=true
 |0,v,h=>h
 |f+1,v,h=>by
  cases v with
  |agg cs=>simp only[HA]at h;cases h
  |tup cs=>simp only[KH]at h;cases h
  |vec l' k' g m=>
   simp only[BD]
   split
   ·split
    ·simp only[EL];rfl
    ·exact h
   ·exact h
  |ptr l' k' g off=>
   simp only[BD]
   split
   ·split
    ·simp only[MK];rfl
    ·exact h
   ·exact h
  |_=>exact h
theorem OK{l k:Nat}{o:Option (Nat×AX)}(hle:G.le G')(ho:QR G G' σ δ l k o):∀(f:Nat) (x:V) (v:fh),RepV G (x.ren σ δ) v->RepV G' ((BD l k o f x).ren σ δ) v
 |0,x,v,h=>h.mono hle
 |f+1,x,v,h=>by
  have ih:=OK hle ho f;cases x with
  |vec l' k' g m=>
   simp only[BD]
   split
   ·rename_i γ T es;split
    ·rename_i hc;obtain⟨rfl,rfl,rfl,rfl⟩:=hc;simp only[HC,EL]at h|-;exact ho.1 _ _ _ rfl v h
    ·exact h.mono hle
   ·exact h.mono hle
  |ptr l' k' g off=>
   simp only[BD]
   split
   ·rename_i γ cs;split
    ·rename_i hc;obtain⟨rfl,rfl,rfl⟩:=hc;simp only[HB,MK]at h|-;exact ho.2 _ _ rfl off v h
    ·exact h.mono hle
   ·exact h.mono hle
  |agg cs=>
   simp only[BD,HA]at h|-
   cases h with
   |agg _ arr hl hc hr=>
    refine .agg _ arr (by simpa using hl) (fun c hc'=>?_) (fun i h1 h2=>?_)
    ·simp only[ck]at hc';obtain⟨d,⟨e,he,rfl⟩,rfl⟩:=hc';exact dE f e (hc _ (bn he))
    ·have h1':i<cs.length:=by simpa using h1
     have q:=hr i (by simpa using h1) h2;simp only[bc]at q|-;exact ih _ _ q
  |tup cs=>
   simp only[BD,KH]at h|-
   cases h with
   |tup _ arr hl hr=>
    refine .tup _ arr (by simpa using hl) (fun i h1 h2=>?_)
    have q:=hr i (by simpa using h1) h2
    simp only[bc]at q|-
    exact ih _ _ q
  |_=>exact h.mono hle
theorem ZS{l k:Nat}{o:Option (Nat×AX)}(hle:G.le G')(ho:QR G G' σ δ l k o){cs:List V}{vs:List fh}(h:RepL G (cs.map (V.ren σ δ)) vs):RepL G' ((cs.map (BD l k o 3)).map (V.ren σ δ)) vs :=
 ⟨by simpa using h.1,fun i p q=>by
  have r:=h.2 i (by simpa using p) q;simp only[bc]at r |-;exact⟨dE 3 _ r.1,OK hle ho 3 _ _ r.2⟩⟩
theorem xC{l k:Nat}{o:Option (Nat×AX)}(hle:G.le G')(ho:QR G G' σ δ l k o){g:Nat}{r:AX}(h:IG G g w (r.ren σ δ)):IG G' g w ((J3 l k o r).ren σ δ):=by
 cases r with
 |box cs=>
  obtain⟨b,arr,T,h1,h2,h3⟩:=h
  exact⟨b,arr,T,by simpa using hle.2 _ _ h1,h2,ZS hle ho h3⟩
 |vec T es=>
  obtain⟨b,sz,C,h1,h2,h3,h4,h5⟩:=h
  refine⟨b,sz,C,hle.2 _ _ h1,by simpa using h2,fun e he=>?_,⟨h4.1,fun h=>h4.2 (by simpa using h)⟩,fun hC=>?_⟩
  ·simp only[ck]at he;obtain⟨e1,⟨e2,he2,rfl⟩,rfl⟩:=he;have:=h3 (e2.map (V.ren σ δ)) (bn he2);simpa using this
  ·obtain⟨arr,h6,h7,h8⟩:=h5 hC;refine⟨arr,h6,h7,?_⟩;have q:RepL G (es.flatten.map (V.ren σ δ)) (arr.toList.take (es.length*sz)):=by rw[bh];simpa using h8
   have q2:=ZS hle ho q;rw[bh,bh]at q2;simpa using q2
 |map es=>exact h.keep hle fun _ _=>rfl
 |loop fr ps asg body N st=>exact h.keep hle fun _ _=>rfl
 |dead=>trivial
theorem xD(G:Gh)(l k:Nat)(o:Option (Nat×AX))(g:Nat)(r:AX):BG G g ((J3 l k o r).ren σ δ)=BG G g (r.ren σ δ):=by cases r<;>rfl
theorem AC7{k:Nat}{st:XS}{l j:Nat}{x:Nat×AX}(h:((HX k st).s.emb σ pre).get l j=some x) :
  ¬(l=st.s.up.length+pre.length/\j=k)/\((st.s.emb σ pre).get l j=some x\/∃r,(st.s.emb σ pre).get l j=some (x.1,r.ren σ pre.length)/\x.2=(J3 st.s.up.length k (st.s.loc.get k) r).ren σ pre.length):=by
 have hlen:(st.s.emb σ pre).up.length=st.s.up.length+pre.length:=by rw[DB]
 have hup:((HX k st).s.emb σ pre).up=(st.s.emb σ pre).up:=rfl
 unfold St.get at h|-
 rw[hup]at h
 by_cases e:l=(st.s.emb σ pre).up.length
 ·rw[if_pos e]at h|-;have h':((FO st.s.up.length k (st.s.loc.get k) st.s.loc).ren σ pre.length).get j=some x:=h;rw[AA.get_ren,LM]at h';by_cases hj:j=k
  ·rw[if_pos hj]at h';cases h'
  ·rw[if_neg hj]at h';refine⟨fun hh=>hj hh.2,.inr ?_⟩;have hl:(st.s.emb σ pre).loc.get j=(st.s.loc.get j).map fun p=>(σ p.1,p.2.ren σ pre.length):=AA.get_ren _ _;rw[hl];cases hg:st.s.loc.get j with
   |none=>rw[hg]at h';cases h'
   |some y=>
    rw[hg]at h'
    obtain⟨g,r⟩:=y
    cases h'
    exact⟨r,rfl,rfl⟩
 ·rw[if_neg e]at h|-;exact⟨fun hh=>e (by rw[hlen];exact hh.1),.inl h⟩
theorem AC8{k:Nat}{st:XS}(hI:CR G (st.s.emb σ pre) w):∃G',G.le G'/\CR G' ((HX k st).s.emb σ pre) w/\QR G G' σ pre.length st.s.up.length k (st.s.loc.get k):=by
 have hget:(st.s.emb σ pre).get (st.s.up.length+pre.length) k=(st.s.loc.get k).map fun p=>(σ p.1,p.2.ren σ pre.length):=by rw[BW];unfold St.get;rw[if_pos rfl]
 have main:∃G' s0,G.le G'/\CR G' s0 w/\(∀l j,¬(l=st.s.up.length+pre.length/\j=k)->s0.get l j=(st.s.emb σ pre).get l j)/\QR G G' σ pre.length st.s.up.length k (st.s.loc.get k):=by
  cases ho:st.s.loc.get k with
  |none=>exact⟨G,_,⟨fun _ _ h=>h,fun _ _ h=>h,rfl⟩,hI,fun _ _ _=>rfl,⟨fun γ T es h=>(by cases h),fun γ cs h=>(by cases h)⟩⟩
  |some x=>
   obtain⟨γ,r⟩:=x
   rw[ho]at hget
   cases r with
   |vec T es=>
    have hget:(st.s.emb σ pre).get (st.s.up.length+pre.length) k=some (σ γ,.vec T (es.map (dv (V.ren σ pre.length)))):=hget
    obtain⟨G',hle,hI',hs⟩:=hI.lockRow hget
    refine⟨G',_,hle,hI',fun l j hne=>?_,⟨fun γ' T' es' h v hv=>?_,fun γ cs h=>by cases h⟩⟩
    ·rw[St.get_put _ hget,if_neg hne]
    ·cases h;have:=YN hI hle hget (m:=es.length) (by simp) hs hv;rwa [cx (by simp)]at this
   |box cs=>
    have hget:(st.s.emb σ pre).get (st.s.up.length+pre.length) k=some (σ γ,.box (cs.map (V.ren σ pre.length))):=hget
    obtain⟨G',hle,hI',hs⟩:=hI.lockBox hget
    refine⟨G',_,hle,hI',fun l j hne=>?_,⟨fun γ' T' es' h=>(by cases h),fun γ' cs' h off v hv=>?_⟩⟩
    ·rw[St.get_put _ hget,if_neg hne]
    ·cases h;rw[PC];exact jK hI hle hget hs hv
   |map cs=>exact⟨G,_,⟨fun _ _ h=>h,fun _ _ h=>h,rfl⟩,hI,fun _ _ _=>rfl,⟨fun γ T es h=>(by cases h),fun γ cs h=>(by cases h)⟩⟩
   |loop _ _ _ _ _ _=>exact⟨G,_,⟨fun _ _ h=>h,fun _ _ h=>h,rfl⟩,hI,fun _ _ _=>rfl,⟨fun γ T es h=>(by cases h),fun γ cs h=>(by cases h)⟩⟩
   |dead=>exact⟨G,_,⟨fun _ _ h=>h,fun _ _ h=>h,rfl⟩,hI,fun _ _ _=>rfl,⟨fun γ T es h=>(by cases h),fun γ cs h=>(by cases h)⟩⟩
 obtain⟨G',s0,hle,hI',hg,ht⟩:=main;refine⟨G',hle,?_,ht⟩;have look:∀{l j g r},((HX k st).s.emb σ pre).get l j=some (g,r)->∃r0,s0.get l j=some (g,r0)/\IG G' g w r/\BG G' g r=BG G' g r0:=by
  intro l j g r h;obtain⟨hne,h1⟩:=AC7 h;rw[hg _ _ hne];rcases h1 with h1|⟨r0,h1,h2⟩
  ·exact⟨r,h1,hI'.res l j g r (by rw[hg _ _ hne];exact h1),rfl⟩
  ·simp only at h1 h2;subst h2;exact⟨_,h1,xC hle ht (hI.res _ _ _ _ h1),xD _ _ _ _ _ _⟩
 refine⟨hI'.sl,fun l k g r h=>(by obtain⟨r0,_,h2,_⟩:=look h;exact h2),fun l k g r l' k' g' r' b h1 h2 h3 h4=>?_,fun l k g r b h1 h2=>?_,hI'.fresh,hI'.env⟩
 ·rcases look h1 with⟨r1,e1,_,o1⟩;rcases look h2 with⟨r2,e2,_,o2⟩;exact hI'.sep _ _ _ _ _ _ _ _ _ e1 e2 (o1▸h3) (o2▸h4)
 ·rcases look h1 with⟨r1,e1,_,o1⟩;exact hI'.out _ _ _ _ _ e1 (o1▸h2)
theorem ZT{n N:Nat}{ρ:Option Nat}{c:Code}{K:Exit->Fr->St->Prop}{k:Nat}{st:XS}(h:BE P n N ρ c K ((HX k st).fr.ren σ pre.length) ((HX k st).s.emb σ pre)):BE P n N ρ c K (st.fr.ren σ pre.length) (st.s.emb σ pre):=by
 intro G0 G a w hR;obtain⟨G',hle,hI',ht⟩:=AC8 (k:=k) hR.inv;refine h G0 G' a w ⟨⟨fun _ _ h=>hle.1 _ _ (hR.le.1 _ _ h),fun _ _ h=>hle.2 _ _ (hR.le.2 _ _ h),hle.3.trans hR.le.3⟩,hI',fun j c v hj=>?_,hR.size,hR.lvl,?_⟩
 ·rw[Fr.get_ren]at hj;have hj':((M8 st.s.up.length k (st.s.loc.get k) st.fr).get j).map (fun p=>(p.1,p.2.ren σ pre.length))=some (c,v):=hj;rw[U3]at hj';cases hg:st.fr.get j with
  |none=>rw[hg]at hj';cases hj'
  |some y=>
   rw[hg]at hj'
   obtain⟨c0,v0⟩:=y
   cases hj'
   obtain⟨x,q1,q2,q3⟩:=hR.fr j c0 (v0.ren σ pre.length) (by rw[Fr.get_ren,hg];rfl)
   exact⟨x,q1,fun hc=>OK hle ht 3 _ _ (q2 hc),q3⟩
 ·obtain⟨rs,m1,m2,m3⟩:=hR.marks;exact⟨rs,m1,m2,fun r hr=>⟨(m3 r hr).1,hle.1 _ _ (m3 r hr).2⟩⟩
def TBd(c:Nat)(o:Option (Nat×AX)):Prop:=(∀γ T es,o=some (γ,.vec T es)->∀σ σ' δ,AO c σ σ'->es.map (dv (V.ren σ δ))=es.map (dv (V.ren σ' δ)))/\∀γ cs,o=some (γ,.box cs)->∀σ σ' δ,AO c σ σ'->cs.map (V.ren σ δ)=cs.map (V.ren σ' δ)
theorem fL{l k c:Nat}{o:Option (Nat×AX)}(ho:TBd c o){σ σ':Nat->Nat}{δ:Nat}(ha:AO c σ σ'):∀(f:Nat) (v:V),v.ren σ δ=v.ren σ' δ->(BD l k o f v).ren σ δ=(BD l k o f v).ren σ' δ
 |0,v,h=>h
 |f+1,v,h=>by
  have ih:=fL (l:=l) (k:=k) ho ha (δ:=δ) f;have lst:∀cs:List V,cs.map (V.ren σ δ)=cs.map (V.ren σ' δ)->(cs.map (BD l k o f)).map (V.ren σ δ)=(cs.map (BD l k o f)).map (V.ren σ' δ):=by intro cs h;simp only[bb];refine bk fun x hx=>?_;exact ih x (bz.1 h x hx)
  cases v with
  |vec l' k' g m=>
   simp only[BD]
   split
   ·split
    ·simp only[EL];rw[ho.1 _ _ _ rfl σ σ' δ ha]
    ·exact h
   ·exact h
  |ptr l' k' g off=>
   simp only[BD]
   split
   ·split
    ·simp only[MK];rw[PC,PC,ho.2 _ _ rfl σ σ' δ ha]
    ·exact h
   ·exact h
  |agg cs=>
   simp only[BD,HA,V.agg.injEq]at h|-
   exact lst cs h
  |tup cs=>
   simp only[BD,KH,V.tup.injEq]at h|-
   exact lst cs h
  |_=>exact h
theorem APU{c k γ:Nat}{T:fc}{es:List (List V)}{L:AA}(hL:∀σ σ' δ,AO c σ σ'->L.ren σ δ=L.ren σ' δ)(h:L.get k=some (γ,.vec T es)):∀σ σ' δ,AO c σ σ'->es.map (dv (V.ren σ δ))=es.map (dv (V.ren σ' δ)):=by
 intro σ σ' δ ha;have e1:(L.ren σ δ).get k=some (σ γ,.vec T (es.map (dv (V.ren σ δ)))):=by rw[AA.get_ren,h];rfl
 have e2:(L.ren σ' δ).get k=some (σ' γ,.vec T (es.map (dv (V.ren σ' δ)))):=by rw[AA.get_ren,h];rfl
 rw[hL σ σ' δ ha,e2]at e1;simp only[dr.injEq,dt.injEq,AX.vec.injEq]at e1;exact e1.2.2.symm
theorem AC9{st:XS}(h:Bd st):∀σ σ' δ,AO st.c σ σ'->st.s.loc.ren σ δ=st.s.loc.ren σ' δ:=by intro σ σ' δ ha;have q:=h.s σ σ' (cn δ []) ha;simp only[St.emb,St.mk.injEq,dz]at q;exact q.2
theorem APV{c k γ:Nat}{cs:List V}{L:AA}(hL:∀σ σ' δ,AO c σ σ'->L.ren σ δ=L.ren σ' δ)(h:L.get k=some (γ,.box cs)):∀σ σ' δ,AO c σ σ'->cs.map (V.ren σ δ)=cs.map (V.ren σ' δ):=by
 intro σ σ' δ ha;have e1:(L.ren σ δ).get k=some (σ γ,.box (cs.map (V.ren σ δ))):=by rw[AA.get_ren,h];rfl
 have e2:(L.ren σ' δ).get k=some (σ' γ,.box (cs.map (V.ren σ' δ))):=by rw[AA.get_ren,h];rfl
 rw[hL σ σ' δ ha,e2]at e1;simp only[dr.injEq,dt.injEq,AX.box.injEq]at e1;exact e1.2.symm
theorem lG{l k c:Nat}{o:Option (Nat×AX)}(ho:TBd c o){σ σ':Nat->Nat}{δ:Nat}(ha:AO c σ σ'):∀(L:AA),L.ren σ δ=L.ren σ' δ->(FO l k o L).ren σ δ=(FO l k o L).ren σ' δ
 |[],_=>rfl
 |(j,g,r)::L,h=>by
  simp only[AA.ren,bg,fk.injEq,dt.injEq,true_and]at h;have ih:=lG (l:=l) (k:=k) ho ha L h.2;simp only[FO];split
  ·exact ih
  ·simp only[AA.ren,bg,fk.injEq,dt.injEq,true_and];refine⟨⟨h.1.1,?_⟩,ih⟩;have hr:=h.1.2;have lst:∀cs:List V,cs.map (V.ren σ δ)=cs.map (V.ren σ' δ)->(cs.map (BD l k o 3)).map (V.ren σ δ)=(cs.map (BD l k o 3)).map (V.ren σ' δ):=by intro cs h;simp only[bb];exact bk fun x hx=>fL ho ha 3 x (bz.1 h x hx)
   cases r with
   |box cs=>
    simp only[J3,AX.ren,AX.box.injEq]at hr|-
    exact lst cs hr
   |vec T es=>
    simp only[J3,AX.ren,AX.vec.injEq,true_and,bb]at hr|-
    refine bk fun e he=>?_
    exact lst e (bz.1 hr e he)
   |_=>exact hr
theorem dF{k:Nat}{st:XS}(h:Bd st):KA st (HX k st):=by
 have ho:TBd st.c (st.s.loc.get k):=⟨fun γ T es hg=>APU (AC9 h) hg,fun γ cs hg=>APV (AC9 h) hg⟩;refine⟨bf _,⟨fun σ σ' δ ha=>?_,fun σ σ' pre ha=>?_,fun l j γ fr ps asg body N ls hg=>?_⟩,rfl⟩
 ·have q:=h.f σ σ' δ ha;simp only[HX,M8,Fr.ren,bb]at q|-;refine bk fun x hx=>?_;have:=bz.1 q x hx;simp only[dt.injEq,true_and]at this;simp only[Function.comp,dt.injEq,true_and];exact fL ho ha 3 _ this
 ·have q:=h.s σ σ' pre ha;simp only[St.emb,St.mk.injEq]at q;simp only[HX,St.emb,St.mk.injEq];exact⟨q.1,lG ho ha _ q.2⟩
 ·have hg':(HX k st).s.get l j=some (γ,.loop fr ps asg body N ls):=hg;refine h.lp l j γ fr ps asg body N ls ?_;unfold St.get at hg'|-;have hup:(HX k st).s.up=st.s.up:=rfl;rw[hup]at hg';split
  ·rename_i e;rw[if_pos e]at hg';have hg':(FO st.s.up.length k (st.s.loc.get k) st.s.loc).get j=some (γ,.loop fr ps asg body N ls):=hg';rw[LM]at hg';split at hg'
   ·cases hg'
   ·cases hq:st.s.loc.get j with
    |none=>rw[hq]at hg';cases hg'
    |some y=>
     rw[hq]at hg'
     obtain⟨g,r⟩:=y
     cases r with
     |loop _ _ _ _ _ _=>exact hg'
     |_=>simp[J3]at hg'
  ·rename_i e;rw[if_neg e]at hg';exact hg'
theorem sZ:∀(ks:List Nat) (st:XS),(OJ ks st).c=st.c
 |[],_=>rfl
 |k::ks,st=>sZ ks (HX k st)
theorem dG:∀(ks:List Nat) {st:XS},Bd st->KA st (OJ ks st)
 |[],st,h=>⟨bf _,h,rfl⟩
 |k::ks,st,h=>by have h1:=dF (k:=k) h;have h2:=dG ks h1.bd;exact⟨dk h1.c h2.c,h2.bd,h2.n.trans h1.n⟩
theorem ZU{n N:Nat}{ρ:Option Nat}{c:Code}{K:Exit->Fr->St->Prop}:∀(ks:List Nat) {st:XS},BE P n N ρ c K ((OJ ks st).fr.ren σ pre.length) ((OJ ks st).s.emb σ pre)->BE P n N ρ c K (st.fr.ren σ pre.length) (st.s.emb σ pre)
 |[],_,h=>h
 |k::ks,st,h=>ZT (k:=k) (ZU ks (st:=HX k st) h)
end Go.Pg
namespace Go.Pg
variable {P:fx}{σ σ':Nat->Nat}{δ:Nat}{pre:List AA}{s:St}{fr:Fr}{G G':Gh}{w:fg}
def HY(st:XS):List Nat->V->V
 |[],v=>v
 |k::ks,v=>HY st ks (cond (bp k 10000) (BD st.s.up.length k (st.s.loc.get k) 3 v) (BD (k / 10000-1) (k % 10000) (st.s.get (k / 10000-1) (k % 10000)) 3 v))
def fM:V->Bool
 |.int ..=>true
 |.bool _=>true
 |_=>false
def ZV:V->Bool
 |.int ..=>true
 |.bool _=>true
 |.agg cs=>cs.all fM
 |_=>false
def lH(cf:CF)(c0:CF0)(ks:List Nat):CF:=fun f args st=>match c0 f (args.map (HY st ks))with
 |some r=>Bool.rec (cf f args st) (some (r,st)) (ZV r)
 |none=>cf f args st
def cfU(ks:List Nat)(E:XE):XE:=match ks with
 |[]=>E
 |_::_=>⟨lH E.cf E.c0 ks,E.cy,E.c0,E.co,E.lit⟩
def bK(G:Gh)(w:fg):Gh:={ sl:=fun b=>w.heap[b]?,be:=G.be,env:=G.env }
def AIL(G:Gh)(w:fg):Gh:={ sl:=fun b=>w.heap[b]?,be:=G.be,env:=(w.os,w.output,w.heap.size) }
theorem fN(hI:CR G s w):G.le (bK G w):=⟨hI.sl,fun _ _ h=>h,rfl⟩
theorem ADA:(bK G w).lec (AIL G w):=⟨fun _ _ _ _ h=>h,fun _ _ h=>h⟩
theorem ADB(hI:CR G s w):CR (AIL G w) ⟨[],[]⟩ w where
 sl _ _ h:=h
 res l k g r h:=by simp[St.get]at h
 sep l k g r l' k' g' r' b h:=by simp[St.get]at h
 out l k g r b h:=by simp[St.get]at h
 fresh:=hI.fresh
 env:=⟨rfl,rfl,bf _,fun b c T fz h1 h2=>by
  have h3:=(cj.1 h2).1;have h4:w.heap.size<=b:=h1;omega⟩
theorem ADC{l k g n:Nat}{v:fh}(h:RepV (bK G w) (.vec l k g n) v):RepV G (.vec l k g n) v:=by
 cases h with
 |vec _ _ _ _ b sz C a h1 h2 h3=>exact .vec _ _ _ _ b sz C a h1 h2 h3
theorem ADD{l k g n:Nat}{v:fh}(h:RepV (bK G w) (.ptr l k g n) v):RepV G (.ptr l k g n) v:=by
 cases h with
 |ptr _ _ _ _ b sz C h1=>exact .ptr _ _ _ _ b sz C h1
theorem K0{st:XS}(hI:CR G (st.s.emb σ pre) w)(l k:Nat):QR (bK G w) (bK G w) σ pre.length l k (st.s.get l k):=by
 refine⟨fun γ T es ho v hv=>?_,fun γ cs ho off v hv=>?_⟩
 ·have hget:(st.s.emb σ pre).get (l+pre.length) k=some (σ γ,.vec T (es.map (dv (V.ren σ pre.length)))):=by rw[BW,ho];rfl
  have:=YN hI (fN hI) hget (m:=es.length) (by simp) (fun _ _=>rfl) (ADC hv);rwa [cx (by simp)]at this
 ·have hget:(st.s.emb σ pre).get (l+pre.length) k=some (σ γ,.box (cs.map (V.ren σ pre.length))):=by rw[BW,ho];rfl
  rw[PC];exact jK hI (fN hI) hget (fun _ _=>rfl) (ADD hv)
theorem pF{st:XS}(hI:CR G (st.s.emb σ pre) w)(k:Nat):QR (bK G w) (bK G w) σ pre.length st.s.up.length k (st.s.loc.get k):=by have:=K0 hI st.s.up.length k;rwa [WS]at this
theorem U4{st:XS}(hI:CR G (st.s.emb σ pre) w):∀(ks:List Nat) (x:V) (v:fh),RepV (bK G w) (x.ren σ pre.length) v->RepV (bK G w) ((HY st ks x).ren σ pre.length) v
 |[],_,_,h=>h
 |k::ks,x,v,h=>by
  unfold HY;cases bp k 10000 with
  |true=>exact U4 hI ks _ v (OK (Gh.le_refl _) (pF hI k) 3 x v h)
  |false=>exact U4 hI ks _ v (OK (Gh.le_refl _) (K0 hI _ _) 3 x v h)
theorem ADE{s':St}{w':fg}(hI:CR G s w)(hle:(AIL G w).le G')(hI':CR G' s' w'):CR G s w':=by
 have he:G'.env=(w.os,w.output,w.heap.size):=hle.e;obtain⟨h1,h2,h3,h4⟩:=hI'.env;rw[he]at h1 h2 h3 h4;have hold:∀i,i<w.heap.size->w'.heap[i]? = w.heap[i]?:=fun i hi=>by have:=hI'.sl i w.heap[i] (hle.1 i _ (show w.heap[i]? = some w.heap[i] by simp[hi]));rw[this];simp[hi]
 obtain⟨e1,e2,e3,e4⟩:=hI.env;refine⟨fun b o h=>?_,fun l k g r h=>(hI.res l k g r h).keep (Gh.le_refl _) fun b hb=>hold b (hI.out _ _ _ _ _ h hb).2,hI.sep,fun l k g r b h hb=>⟨(hI.out _ _ _ _ _ h hb).1,Nat.lt_of_lt_of_le (hI.out _ _ _ _ _ h hb).2 h3⟩,hI.fresh,⟨h1.trans e1,h2.trans e2,dk e3 h3,fun b c T fz hb hc=>?_⟩⟩
 ·have h:=hI.sl b o h;rw[hold b (cj.1 h).1];exact h
 ·rcases cd b w.heap.size with hl|hl
  ·rw[hold b hl]at hc;exact e4 b c T fz hb hc
  ·exact h4 b c T fz hl hc
theorem ADF{r:V}{v:fh}(hf:ZV r=true)(h:RepV G' r v):RepV G r v:=by
 cases r with
 |int k n=>cases h;exact .int _ _
 |bool b=>cases h;exact .bool _
 |agg cs=>
  cases h with
  |agg _ arr hl hc hr=>
   refine .agg _ arr hl hc fun i h1 h2=>?_
   have q:=hr i h1 h2
   have f:=bx.1 (show cs.all fM=true from hf) _ (List.getElem_mem h1)
   generalize cs[i]=c at *
   generalize arr[i]=z at *
   cases c with
   |int k n=>cases q;exact .int _ _
   |bool b=>cases q;exact .bool _
   |_=>cases f
 |_=>cases hf
theorem ADG{cf:CF}(hcf:cW P cf){c0:CF0}(hc0:HE P c0)(ks:List Nat):cW P (lH cf c0 ks):=by
 intro f args st r st' hx hbd hargs;unfold lH at hx;split at hx
 ·rename_i r0 h0;cases hf:ZV r0 with
  |false=>
   rw[hf]at hx
   exact hcf f args st r st' hx hbd hargs
  |true=>
   rw[hf]at hx
   cases hx
   obtain⟨hA,h1,h2⟩:=hc0 _ _ _ h0
   refine⟨⟨bf _,hbd,rfl⟩,fun σ σ' δ _=>by rw[h2,h2],rfl,fun σ pre K hk=>⟨(hA ⟨[],[]⟩).1,fun G vals w R hI ha hR=>?_⟩⟩
   refine(hA ⟨[],[]⟩).2 (AIL G w) vals w R (ADB hI) ?_ fun G' r' v w' s' hle hI' hv hlen hk'=>?_
   ·refine⟨by simpa using ha.1,fun i p q=>?_⟩;have hr:=ha.2 i (by simpa using p) q;simp only[bc]at hr|-;have h3:=U4 hI ks _ _ (hr.mono (fN hI));rw[h1 _ (bn (List.getElem_mem _))]at h3;exact h3.monoC ADA
   ·obtain⟨rfl,rfl⟩:=hk';have:=hk σ (AO.refl _ _);rw[h2]at this;exact hR G r' v w' _ (Gh.le_refl _) (ADE hI hle hI') (ADF hf hv) rfl this
 ·exact hcf f args st r st' hx hbd hargs
theorem APW{E:XE}(h:J2 P E)(ks:List Nat):J2 P (cfU ks E):=by
 cases ks with
 |nil=>exact h
 |cons k ks=>exact⟨ADG h.cf h.c0 _,h.cy,h.c0,h.co⟩
end Go.Pg
namespace Go.Pg
variable {P:fx}{σ σ':Nat->Nat}{δ:Nat}{pre:List AA}{s:St}{fr:Fr}{G G':Gh}{w:fg}{n k l d:Nat}
def J4(n k l d:Nat):Nat->V->V
 |0,v=>v
 |f+1,v=>match v with
  |.vec l' k' γ m=>if l'=n/\k'=k then .vec l d γ m else v
  |.ptr l' k' γ o=>if l'=n/\k'=k then .ptr l d γ o else v
  |.mp l' k' γ=>if l'=n/\k'=k then .mp l d γ else v
  |.agg cs=>.agg (cs.map (J4 n k l d f))
  |.tup cs=>.tup (cs.map (J4 n k l d f))
  |v=>v
def QX(n k l d:Nat):AX->AX
 |.box cs=>.box (cs.map (J4 n k l d 3))
 |.vec T es=>.vec T (es.map (dv (J4 n k l d 3)))
 |r=>r
def tA(n k l d:Nat)(fr:Fr):Fr:=fr.map fun x=>(x.1,x.2.1,J4 n k l d 3 x.2.2)
def gS(n k l d:Nat):AA->AA
 |[]=>[]
 |(j,g,r)::L=>if j=k then gS n k l d L else(j,g,QX n k l d r)::gS n k l d L
def IU(u:Nat):AA->AA
 |[]=>[]
 |(j,x)::L=>if j=u then IU u L else(j,x)::IU u L
def xE(n k l d:Nat):List Nat->AA->AA
 |[],L=>L
 |u::us,L=>match L.get u with
  |some (g,r)=>(u,g,QX n k l d r)::xE n k l d us (IU u L)
  |none=>xE n k l d us L
def tB(k l d:Nat)(us:List Nat)(s:St)(o:Option (Nat×AX)):St:=match o with
 |some (γ,r)=>St.put ⟨s.up.modify l (xE s.up.length k l d us),gS s.up.length k l d s.loc⟩ l d γ (QX s.up.length k l d r)
 |none=>s
def QS(l n:Nat):Option (Nat×AX)->Bool
 |some (_,r)=>bp l n&&bI r
 |none=>false
def bL(k l d:Nat)(us:List Nat)(st:XS):XS:=Bool.rec st ⟨st.c,tA st.s.up.length k l d st.fr,tB k l d us st.s (st.s.loc.get k)⟩ (QS l st.s.up.length (st.s.loc.get k))
theorem lI:∀(f:Nat) (v:V),(v.ren σ δ).isCell=true->((J4 n k l d f v).ren σ δ).isCell=true
 |0,v,h=>h
 |f+1,v,h=>by
  cases v with
  |agg cs=>simp only[HA]at h;cases h
  |tup cs=>simp only[KH]at h;cases h
  |vec l' k' g m=>simp only[J4];split<;>(simp only[HC];rfl)
  |ptr l' k' g m=>simp only[J4];split<;>(simp only[HB];rfl)
  |mp l' k' g=>simp only[J4];split<;>(simp only[QJ];rfl)
  |_=>exact h
theorem fO:∀(f:Nat) (x:V) (v:fh),RepV G (x.ren σ δ) v->RepV G ((J4 n k l d f x).ren σ δ) v
 |0,x,v,h=>h
 |f+1,x,v,h=>by
  have ih:=fO f;cases x with
  |vec l' k' g m=>
   simp only[J4]
   split
   ·simp only[HC]at h|-;cases h with
    |vec _ _ _ _ b sz C a h1 h2 h3=>exact .vec _ _ _ _ b sz C a h1 h2 h3
   ·exact h
  |ptr l' k' g o=>
   simp only[J4]
   split
   ·simp only[HB]at h|-;cases h with
    |ptr _ _ _ _ b sz C h1=>exact .ptr _ _ _ _ b sz C h1
   ·exact h
  |mp l' k' g=>
   simp only[J4]
   split
   ·simp only[QJ]at h|-;cases h with
    |mp _ _ _ b sz C h1=>exact .mp _ _ _ b sz C h1
   ·exact h
  |agg cs=>
   simp only[J4,HA]at h|-
   cases h with
   |agg _ arr hl hc hr=>
    refine .agg _ arr (by simpa using hl) (fun c hc'=>?_) (fun i h1 h2=>?_)
    ·simp only[ck]at hc';obtain⟨d',⟨e,he,rfl⟩,rfl⟩:=hc';exact lI f e (hc _ (bn he))
    ·have q:=hr i (by simpa using h1) h2;simp only[bc]at q|-;exact ih _ _ q
  |tup cs=>
   simp only[J4,KH]at h|-
   cases h with
   |tup _ arr hl hr=>
    refine .tup _ arr (by simpa using hl) (fun i h1 h2=>?_)
    have q:=hr i (by simpa using h1) h2
    simp only[bc]at q|-
    exact ih _ _ q
  |_=>exact h
theorem lJ{cs:List V}{vs:List fh}(h:RepL G (cs.map (V.ren σ δ)) vs):RepL G ((cs.map (J4 n k l d 3)).map (V.ren σ δ)) vs :=
 ⟨by simpa using h.1,fun i p q=>by
  have r:=h.2 i (by simpa using p) q;simp only[bc]at r |-;exact⟨lI 3 _ r.1,fO 3 _ _ r.2⟩⟩
theorem tC{g:Nat}{r:AX}(h:IG G g w (r.ren σ δ)):IG G g w ((QX n k l d r).ren σ δ):=by
 cases r with
 |box cs=>
  obtain⟨b,arr,T,h1,h2,h3⟩:=h
  exact⟨b,arr,T,by simpa using h1,h2,lJ h3⟩
 |vec T es=>
  obtain⟨b,sz,C,h1,h2,h3,h4,h5⟩:=h
  refine⟨b,sz,C,h1,by simpa using h2,fun e he=>?_,⟨h4.1,fun h=>h4.2 (by simpa using h)⟩,fun hC=>?_⟩
  ·simp only[ck]at he;obtain⟨e1,⟨e2,he2,rfl⟩,rfl⟩:=he;have:=h3 (e2.map (V.ren σ δ)) (bn he2);simpa using this
  ·obtain⟨arr,h6,h7,h8⟩:=h5 hC;refine⟨arr,h6,h7,?_⟩;have q:RepL G (es.flatten.map (V.ren σ δ)) (arr.toList.take (es.length*sz)):=by rw[bh];simpa using h8
   have q2:=lJ (n:=n) (k:=k) (l:=l) (d:=d) q;rw[bh,bh]at q2;simpa using q2
 |map es=>exact h
 |loop fr ps asg body N st=>exact h
 |dead=>trivial
theorem tD(G:Gh)(g:Nat)(r:AX):BG G g ((QX n k l d r).ren σ δ)=BG G g (r.ren σ δ):=by cases r<;>rfl
theorem fP:∀(fr:Fr) (j:Nat),(tA n k l d fr).get j=(fr.get j).map fun x=>(x.1,J4 n k l d 3 x.2)
 |[],_=>rfl
 |(i,c,v)::fr,j=>by
  have ih:=fP fr j;simp only[tA,bg,Fr.get]at ih|-;split
  ·rfl
  ·exact ih
theorem tE:∀(L:AA) (j:Nat),(gS n k l d L).get j=if j=k then none else(L.get j).map fun x=>(x.1,QX n k l d x.2)
 |[],j=>by simp[gS]
 |(i,g,r)::L,j=>by
  have ih:=tE L j;unfold gS;by_cases h:i=k
  ·rw[if_pos h,ih];by_cases hj:j=k
   ·simp[hj]
   ·rw[if_neg hj,if_neg hj,AA.get,if_neg (by rw[h];exact hj)]
  ·rw[if_neg h];simp only[AA.get];by_cases hj:j=i
   ·subst hj;rw[if_pos rfl,if_pos rfl,if_neg h];rfl
   ·rw[if_neg hj,if_neg hj,ih]
theorem ZW(u:Nat):∀(L:AA) (j:Nat),(IU u L).get j=if j=u then none else L.get j
 |[],j=>by simp[IU,AA.get]
 |(q,x)::L,j=>by
  have ih:=ZW u L j;unfold IU;by_cases h:q=u
  ·rw[if_pos h,ih];subst h;by_cases hj:j=q
   ·rw[if_pos hj,if_pos hj]
   ·rw[if_neg hj,if_neg hj];simp only[AA.get];rw[if_neg hj]
  ·rw[if_neg h];simp only[AA.get];by_cases hj:j=q
   ·subst hj;rw[if_pos rfl,if_neg h,if_pos rfl]
   ·rw[if_neg hj,if_neg hj,ih]
theorem fQ:∀(us:List Nat) (L:AA) (j:Nat) (x:Nat×AX),(xE n k l d us L).get j=some x->L.get j=some x\/∃r,L.get j=some (x.1,r)/\x.2=QX n k l d r
 |[],L,j,x,h=>.inl h
 |u::us,L,j,x,h=>by
  unfold xE at h;split at h
  ·rename_i g r e;simp only[AA.get]at h;split at h
   ·rename_i e2;subst e2;cases h;exact .inr ⟨r,e,rfl⟩
   ·rename_i hne;have:=fQ us _ j x h;rw[ZW,if_neg hne]at this;exact this
  ·exact fQ us L j x h
theorem pG{s:St}{l k γ:Nat}{r:AX}{l' k':Nat}{x:Nat×AX}(h:(s.put l k γ r).get l' k'=some x):(l'=l/\k'=k/\x=(γ,r))\/(¬(l'=l/\k'=k)/\s.get l' k'=some x):=by
 unfold St.put at h;unfold St.get at h|-;by_cases e1:l=s.up.length
 ·rw[if_pos e1]at h;by_cases e2:l'=s.up.length
  ·rw[if_pos e2]at h|-;rw[AA.get_put]at h;split at h
   ·rename_i e;exact .inl ⟨e2.trans e1.symm,e,(dr.inj h).symm⟩
   ·rename_i e;exact .inr ⟨fun hh=>e hh.2,h⟩
  ·rw[if_neg e2]at h|-;exact .inr ⟨fun hh=>e2 (hh.1.trans e1),h⟩
 ·rw[if_neg e1]at h;have hl:({ s with up:=s.up.modify l (fun L=>L.put k γ r) }:St).up.length=s.up.length:=by simp
  rw[hl]at h;by_cases e2:l'=s.up.length
  ·rw[if_pos e2]at h|-;exact .inr ⟨fun hh=>e1 (hh.1.symm.trans e2),h⟩
  ·rw[if_neg e2]at h|-;rw[cp]at h;cases hu:s.up[l']? with
   |none=>simp[hu]at h
   |some L=>
    rw[hu]at h
    simp only[dg,db]at h
    by_cases e3:l=l'
    ·simp only[e3,if_true,AA.get_put]at h;split at h
     ·rename_i e;exact .inl ⟨e3.symm,e,(dr.inj h).symm⟩
     ·rename_i e;exact .inr ⟨fun hh=>e hh.2,h⟩
    ·simp only[e3,if_false]at h;exact .inr ⟨fun hh=>e3 hh.1.symm,h⟩
theorem tF{us:List Nat}{γ:Nat}{r:AX}{l1 k1:Nat}{x:Nat×AX}(h:(tB k l d us s (some (γ,r))).get l1 k1=some x) :
  (l1=l/\k1=d/\x=(γ,QX s.up.length k l d r))\/(¬(l1=l/\k1=d)/\¬(l1=s.up.length/\k1=k)/\(s.get l1 k1=some x\/∃r0,s.get l1 k1=some (x.1,r0)/\x.2=QX s.up.length k l d r0)):=by
 rcases pG h with⟨h1,h2,h3⟩|⟨h1,h2⟩
 ·exact .inl ⟨h1,h2,h3⟩
 ·refine .inr ⟨h1,?_⟩;have hlen:(s.up.modify l (xE s.up.length k l d us)).length=s.up.length:=by simp
  unfold St.get at h2|-;simp only[hlen]at h2;by_cases e:l1=s.up.length
  ·rw[if_pos e]at h2|-;rw[tE]at h2;split at h2
   ·cases h2
   ·rename_i hk;refine⟨fun hh=>hk hh.2,.inr ?_⟩;obtain⟨y,hy,rfl⟩:=dh.1 h2;exact⟨y.2,hy,rfl⟩
  ·rw[if_neg e]at h2|-;refine⟨fun hh=>e hh.1,?_⟩;rw[cp]at h2;cases hu:s.up[l1]? with
   |none=>simp[hu]at h2
   |some L=>
    rw[hu]at h2
    simp only[dg,db]at h2|-
    by_cases e3:l=l1
    ·simp only[e3,if_true]at h2;rw[<-e3]at h2;exact fQ us L k1 x h2
    ·simp only[e3,if_false]at h2;exact .inl h2
theorem AIM{s s':St}{l1 k1:Nat}(h:l1<pre.length):(s.emb σ pre).get l1 k1=(s'.emb σ pre).get l1 k1:=by unfold St.get;rw[DB,DB,if_neg (by omega),if_neg (by omega)];simp only[St.emb,List.getElem?_append_left h]
theorem tG{us:List Nat}{o:Option (Nat×AX)}:(tB k l d us s o).up.length=s.up.length:=by
 cases o with
 |none=>rfl
 |some x=>unfold tB;rw[St.put_len];simp
theorem APX{us:List Nat}{γ:Nat}{r:AX}(hr:s.loc.get k=some (γ,r))(hI:CR G (s.emb σ pre) w):CR G ((tB k l d us s (some (γ,r))).emb σ pre) w:=by
 have look:∀{l1 k1 g r1},((tB k l d us s (some (γ,r))).emb σ pre).get l1 k1=some (g,r1)->∃l0 k0 r0,(s.emb σ pre).get l0 k0=some (g,r0)/\IG G g w r1/\BG G g r1=BG G g r0 /\
   ((l1=l+pre.length/\k1=d/\l0=s.up.length+pre.length/\k0=k)\/(¬(l1=l+pre.length/\k1=d)/\¬(l1=s.up.length+pre.length/\k1=k)/\l0=l1/\k0=k1)):=by
  intro l1 k1 g r1 h
  by_cases hp:l1<pre.length
  ·rw[AIM (s':=s) hp]at h;exact⟨l1,k1,r1,h,hI.res _ _ _ _ h,rfl,.inr ⟨fun hh=>by omega,fun hh=>by omega,rfl,rfl⟩⟩
  ·obtain⟨l2,rfl⟩:∃l2,l1=l2+pre.length:=⟨l1-pre.length,by omega⟩;rw[BW]at h;obtain⟨⟨γ',r'⟩,h1,h2⟩:=dh.1 h;cases h2;rcases tF h1 with⟨rfl,rfl,e⟩|⟨e1,e2,e3⟩
   ·cases e;have h0:(s.emb σ pre).get (s.up.length+pre.length) k=some (σ γ,r.ren σ pre.length):=by rw[BW,WS,hr];rfl
    exact⟨_,_,_,h0,tC (hI.res _ _ _ _ h0),tD _ _ _,.inl ⟨rfl,rfl,rfl,rfl⟩⟩
   ·rcases e3 with e3|⟨r0,e3,rfl⟩
    ·have h0:(s.emb σ pre).get (l2+pre.length) k1=some (σ γ',r'.ren σ pre.length):=by rw[BW,e3];rfl
     exact⟨_,_,_,h0,hI.res _ _ _ _ h0,rfl,.inr ⟨fun hh=>e1 ⟨by omega,hh.2⟩,fun hh=>e2 ⟨by omega,hh.2⟩,rfl,rfl⟩⟩
    ·have h0:(s.emb σ pre).get (l2+pre.length) k1=some (σ γ',r0.ren σ pre.length):=by rw[BW,e3];rfl
     exact⟨_,_,_,h0,tC (hI.res _ _ _ _ h0),tD _ _ _,.inr ⟨fun hh=>e1 ⟨by omega,hh.2⟩,fun hh=>e2 ⟨by omega,hh.2⟩,rfl,rfl⟩⟩
 refine⟨hI.sl,fun l k g r h=>(by obtain⟨_,_,_,_,h2,_⟩:=look h;exact h2),fun l1 k1 g1 r1 l2 k2 g2 r2 b h1 h2 h3 h4=>?_,fun l1 k1 g1 r1 b h1 h2=>?_,hI.fresh,hI.env⟩
 ·obtain⟨a1,a2,a3,a4,_,a6,a7⟩:=look h1;obtain⟨b1,b2,b3,b4,_,b6,b7⟩:=look h2;have hs:=hI.sep _ _ _ _ _ _ _ _ _ a4 b4 (a6▸h3) (b6▸h4);rcases a7 with⟨c1,c2,c3,c4⟩|⟨c1,c2,c3,c4⟩<;>rcases b7 with⟨d1,d2,d3,d4⟩|⟨d1,d2,d3,d4⟩
  ·exact⟨c1.trans d1.symm,c2.trans d2.symm⟩
  ·exact(d2 ⟨d3.symm.trans (hs.1.symm.trans c3),d4.symm.trans (hs.2.symm.trans c4)⟩).elim
  ·exact(c2 ⟨c3.symm.trans (hs.1.trans d3),c4.symm.trans (hs.2.trans d4)⟩).elim
  ·exact⟨c3.symm.trans (hs.1.trans d3),c4.symm.trans (hs.2.trans d4)⟩
 ·obtain⟨a1,a2,a3,a4,_,a6,_⟩:=look h1;exact hI.out _ _ _ _ _ a4 (a6▸h2)
theorem ADH{N:Nat}{ρ:Option Nat}{c:Code}{K:Exit->Fr->St->Prop}{us:List Nat}{m:Nat}{st:XS}(h:BE P m N ρ c K ((bL k l d us st).fr.ren σ pre.length) ((bL k l d us st).s.emb σ pre)):BE P m N ρ c K (st.fr.ren σ pre.length) (st.s.emb σ pre):=by
 unfold bL at h;cases ho:QS l st.s.up.length (st.s.loc.get k)with
 |false=>rw[ho]at h;exact h
 |true=>
  rw[ho]at h
  cases hr:st.s.loc.get k with
  |none=>rw[hr]at ho;cases ho
  |some x=>
   obtain⟨γ,r⟩:=x
   rw[hr]at ho h
   simp only[QS,bj,dw]at ho
   intro G0 G a w hR
   refine h G0 G a w ⟨hR.le,APX hr hR.inv,fun j c v hj=>?_,hR.size,?_,hR.marks⟩
   ·rw[Fr.get_ren]at hj;have hj':((tA st.s.up.length k l d st.fr).get j).map (fun p=>(p.1,p.2.ren σ pre.length))=some (c,v):=hj;rw[fP]at hj';cases hg:st.fr.get j with
    |none=>rw[hg]at hj';cases hj'
    |some y=>
     rw[hg]at hj'
     obtain⟨c0,v0⟩:=y
     cases hj'
     obtain⟨x,q1,q2,q3⟩:=hR.fr j c0 (v0.ren σ pre.length) (by rw[Fr.get_ren,hg];rfl)
     exact⟨x,q1,fun hc=>fO 3 _ _ (q2 hc),q3⟩
   ·have:=hR.lvl;rw[DB]at this|-;show(tB k l d us st.s (some (γ,r))).up.length+_=_;rw[tG];exact this
theorem pH:∀(f:Nat) (v:V),v.ren σ δ=v.ren σ' δ->(J4 n k l d f v).ren σ δ=(J4 n k l d f v).ren σ' δ
 |0,v,h=>h
 |f+1,v,h=>by
  have ih:=pH f;have lst:∀cs:List V,cs.map (V.ren σ δ)=cs.map (V.ren σ' δ)->(cs.map (J4 n k l d f)).map (V.ren σ δ)=(cs.map (J4 n k l d f)).map (V.ren σ' δ):=by intro cs h;simp only[bb];refine bk fun x hx=>?_;exact ih x (bz.1 h x hx)
  cases v with
  |vec l' k' g m=>
   simp only[J4]
   split
   ·simp only[HC,V.vec.injEq,true_and,and_true]at h|-;exact h
   ·exact h
  |ptr l' k' g o=>
   simp only[J4]
   split
   ·simp only[HB,V.ptr.injEq,true_and,and_true]at h|-;exact h
   ·exact h
  |mp l' k' g=>
   simp only[J4]
   split
   ·simp only[QJ,V.mp.injEq,true_and]at h|-;exact h
   ·exact h
  |agg cs=>
   simp only[J4,HA,V.agg.injEq]at h|-
   exact lst cs h
  |tup cs=>
   simp only[J4,KH,V.tup.injEq]at h|-
   exact lst cs h
  |_=>exact h
theorem pI{r:AX}(h:r.ren σ δ=r.ren σ' δ):(QX n k l d r).ren σ δ=(QX n k l d r).ren σ' δ:=by
 have lst:∀cs:List V,cs.map (V.ren σ δ)=cs.map (V.ren σ' δ)->(cs.map (J4 n k l d 3)).map (V.ren σ δ)=(cs.map (J4 n k l d 3)).map (V.ren σ' δ):=by intro cs h;simp only[bb];exact bk fun x hx=>pH 3 x (bz.1 h x hx)
 cases r with
 |box cs=>
  simp only[QX,AX.ren,AX.box.injEq]at h|-
  exact lst cs h
 |vec T es=>
  simp only[QX,AX.ren,AX.vec.injEq,true_and,bb]at h|-
  refine bk fun e he=>?_
  exact lst e (bz.1 h e he)
 |_=>exact h
theorem ADI:∀(L:AA),L.ren σ δ=L.ren σ' δ->(gS n k l d L).ren σ δ=(gS n k l d L).ren σ' δ
 |[],_=>rfl
 |(j,g,r)::L,h=>by
  simp only[AA.ren,bg,fk.injEq,dt.injEq,true_and]at h;have ih:=ADI L h.2;simp only[gS];split
  ·exact ih
  ·simp only[AA.ren,bg,fk.injEq,dt.injEq,true_and];exact⟨⟨h.1.1,pI h.1.2⟩,ih⟩
theorem ADJ{L:AA}(h:L.ren σ δ=L.ren σ' δ){k γ:Nat}{r:AX}(hg:L.get k=some (γ,r)):σ γ=σ' γ/\r.ren σ δ=r.ren σ' δ:=by
 have e1:(L.ren σ δ).get k=some (σ γ,r.ren σ δ):=by rw[AA.get_ren,hg];rfl
 have e2:(L.ren σ' δ).get k=some (σ' γ,r.ren σ' δ):=by rw[AA.get_ren,hg];rfl
 rw[h,e2]at e1;simp only[dr.injEq,dt.injEq]at e1;exact⟨e1.1.symm,e1.2.symm⟩
theorem ZX(u:Nat):∀(L:AA),AA.ren σ δ (IU u L)=IU u (AA.ren σ δ L)
 |[]=>rfl
 |(q,g,r)::L=>by
  have ih:=ZX u L;show AA.ren σ δ (IU u ((q,g,r)::L))=IU u ((q,σ g,r.ren σ δ)::AA.ren σ δ L);unfold IU;by_cases h:q=u
  ·rw[if_pos h,if_pos h,ih]
  ·rw[if_neg h,if_neg h,<-ih];rfl
theorem pJ:∀(us:List Nat) (L:AA),L.ren σ δ=L.ren σ' δ->(xE n k l d us L).ren σ δ=(xE n k l d us L).ren σ' δ
 |[],_,h=>h
 |u::us,L,h=>by
  unfold xE;split
  ·rename_i g r e;obtain⟨h1,h2⟩:=ADJ h e;have ih:=pJ us (IU u L) (by rw[ZX,ZX,h]);simp only[AA.ren,bg,fk.injEq,dt.injEq,true_and];exact⟨⟨h1,pI h2⟩,ih⟩
  ·exact pJ us L h
theorem APY{us:List Nat}{γ:Nat}{r:AX}(hr:s.loc.get k=some (γ,r))(h:s.emb σ pre=s.emb σ' pre):(tB k l d us s (some (γ,r))).emb σ pre=(tB k l d us s (some (γ,r))).emb σ' pre:=by
 have h0:=h;simp only[St.emb,St.mk.injEq,dj]at h;obtain⟨h1,h2⟩:=ADJ h.2 hr;unfold tB;rw[CP,CP,h1,pI h2];congr 1;simp only[St.emb,St.mk.injEq,dj];refine⟨?_,ADI _ h.2⟩;apply List.ext_getElem?;intro i;have hi:=congrArg (·[i]?) h.1;simp only[List.getElem?_map,cp]at hi|-;cases hu:s.up[i]? with
 |none=>rfl
 |some L=>
  rw[hu]at hi
  simp only[db,dr.injEq,dg]at hi|-
  split
  ·exact pJ us L hi
  ·exact hi
theorem AIN{us:List Nat}{st:XS}(h:Bd st):KA st (bL k l d us st):=by
 unfold bL;cases ho:QS l st.s.up.length (st.s.loc.get k)with
 |false=>exact⟨bf _,h,rfl⟩
 |true=>
  cases hr:st.s.loc.get k with
  |none=>rw[hr]at ho;cases ho
  |some x=>
   obtain⟨γ,r⟩:=x
   rw[hr]at ho
   simp only[QS,bj,dw]at ho
   refine⟨bf _,⟨fun σ σ' δ ha=>?_,fun σ σ' pre ha=>APY hr (h.s σ σ' pre ha),fun l1 k1 γ' fr ps asg body N ls hg=>?_⟩,tG⟩
   ·have q:=h.f σ σ' δ ha;simp only[tA,Fr.ren,bb]at q|-;refine bk fun x hx=>?_;have:=bz.1 q x hx;simp only[dt.injEq,true_and]at this;simp only[Function.comp,dt.injEq,true_and];exact pH 3 _ this
   ·have nl:∀r0:AX,(AX.loop fr ps asg body N ls)=QX st.s.up.length k l d r0->r0=.loop fr ps asg body N ls:=by intro r0 e;cases r0<;>first|exact e.symm|cases e
    rcases tF hg with⟨_,_,e⟩|⟨_,_,e⟩
    ·have e2:AX.loop fr ps asg body N ls=QX st.s.up.length k l d r:=congrArg Prod.snd e;have:=nl r e2;subst this;exact absurd ho.2 (by simp[bI])
    ·rcases e with e|⟨r0,e,e2⟩
     ·exact h.lp l1 k1 γ' fr ps asg body N ls e
     ·have:=nl r0 e2;subst this;exact h.lp l1 k1 γ' fr ps asg body N ls e
def pK(n:Nat)(o:Option (Nat×AX)):List Nat:=match o with
 |some (_,.vec _ es)=>es.filterMap fun e=>match e with
  |[.vec l k _ _]=>if l=n then some k else none
  |_=>none
 |_=>[]
def ADK(k:Nat)(st:XS):XS:=OJ (pK st.s.up.length (st.s.loc.get k)) st
def LN(p:Nat)(st:XS):Nat:=match p with
 |0=>st.s.up.length-1
 |p+1=>match BS st.fr p with
  |some (true,.ptr l _ _ _)=>l
  |_=>0
def pL(B i:Nat)(st:XS):Nat:=match i with
 |0=>B
 |i+1=>match BS st.fr i with
  |some (true,.int _ n)=>B+n.toNat
  |_=>B
def mvX(k B i p u:Nat)(st:XS):XS:=bL k (LN p st) (pL B i st) (match u with|0=>[]|u+1=>[u]) st
def gT:V->V
 |.nil=>.list false []
 |v=>v
def yW:AX->AX
 |.vec T es=>.vec T (es.map (dv gT))
 |.box cs=>.box (cs.map gT)
 |r=>r
def bM(k:Nat):AA->AA
 |[]=>[]
 |(j,g,r)::L=>(j,g,if j=k then yW r else r)::bM k L
def wk1(k:Nat)(st:XS):XS:=⟨st.c,st.fr,⟨st.s.up,bM k st.s.loc⟩⟩
theorem AIO(v:V):(gT v).ren σ δ=gT (v.ren σ δ):=by cases v<;>simp[gT]
theorem lK(cs:List V):(cs.map gT).map (V.ren σ δ)=(cs.map (V.ren σ δ)).map gT:=by rw[bb,bb];exact bk fun v _=>AIO v
theorem AIP(r:AX):(yW r).ren σ δ=yW (r.ren σ δ):=by
 cases r with
 |box cs=>simp only[yW,AX.ren,lK]
 |vec T es=>
  simp only[yW,AX.ren,bb,AX.vec.injEq,true_and]
  exact bk fun e _=>lK e
 |_=>rfl
theorem tH(k:Nat):∀L:AA,(bM k L).ren σ δ=bM k (L.ren σ δ)
 |[]=>rfl
 |(j,g,r)::L=>by
  have ih:=tH k L;simp only[AA.ren]at ih;simp only[bM,AA.ren,bg,ih,fk.injEq,dt.injEq,true_and,and_true];split
  ·exact AIP r
  ·rfl
theorem tI(k:Nat):∀(L:AA) (j:Nat),(bM k L).get j=if j=k then(L.get j).map (fun x=>(x.1,yW x.2)) else L.get j
 |[],j=>by simp[bM]
 |(i,g,r)::L,j=>by
  have ih:=tI k L j;simp only[bM,AA.get];by_cases hj:j=i
  ·subst hj;rw[if_pos rfl,if_pos rfl];by_cases h:j=k
   ·rw[if_pos h,if_pos h];rfl
   ·rw[if_neg h,if_neg h]
  ·rw[if_neg hj,if_neg hj,ih]
theorem ADL{v:V}(h:v.isCell=true):(gT v).isCell=true:=by cases v<;>first|exact h|rfl
theorem AIQ{G:Gh}{x:V}{v:fh}(h:RepV G x v):RepV G (gT x) v:=by
 cases x with
 |nil=>exact h.empty
 |_=>exact h
theorem lL{G:Gh}{cs:List V}{vs:List fh}(h:RepL G cs vs):RepL G (cs.map gT) vs :=
 ⟨by simpa using h.1,fun i p q=>by
  have r:=h.2 i (by simpa using p) q;simp only[bc];exact⟨ADL r.1,AIQ r.2⟩⟩
theorem AIR{G:Gh}{w:fg}{g:Nat}{r:AX}(h:IG G g w r):IG G g w (yW r):=by
 cases r with
 |box cs=>
  obtain⟨b,arr,T,h1,h2,h3⟩:=h
  exact⟨b,arr,T,by simpa using h1,h2,lL h3⟩
 |vec T es=>
  obtain⟨b,sz,C,h1,h2,h3,h4,h5⟩:=h
  refine⟨b,sz,C,h1,by simpa using h2,fun e he=>?_,⟨h4.1,fun h=>h4.2 (by simpa using h)⟩,fun hC=>?_⟩
  ·obtain⟨e2,he2,rfl⟩:=ck.1 he;simpa using h3 e2 he2
  ·obtain⟨arr,h6,h7,h8⟩:=h5 hC;refine⟨arr,h6,h7,?_⟩;have q:=lL h8;rw[bh]at q;simpa using q
 |_=>exact h
theorem ADM(G:Gh)(g:Nat)(r:AX):BG G g (yW r)=BG G g r:=by cases r<;>rfl
theorem ADN{s:St}{k l j:Nat}{x:Nat×AX}(h:St.get ⟨s.up,bM k s.loc⟩ l j=some x):∃r,s.get l j=some (x.1,r)/\(x.2=r\/x.2=yW r):=by
 unfold St.get at h|-;split at h
 ·rename_i e;rw[if_pos e];have h:(bM k s.loc).get j=some x:=h;rw[tI]at h;split at h
  ·cases hg:s.loc.get j with
   |none=>rw[hg]at h;cases h
   |some y=>rw[hg]at h;cases h;exact⟨_,rfl,.inr rfl⟩
  ·exact⟨_,h,.inl rfl⟩
 ·rename_i e;rw[if_neg e];exact⟨_,h,.inl rfl⟩
theorem APZ{G:Gh}{s:St}{w:fg}{k:Nat}(hI:CR G s w):CR G ⟨s.up,bM k s.loc⟩ w:=by
 have look:∀{l j g r},St.get ⟨s.up,bM k s.loc⟩ l j=some (g,r)->∃r0,s.get l j=some (g,r0)/\IG G g w r/\BG G g r=BG G g r0:=by
  intro l j g r h;obtain⟨r0,h1,h2⟩:=ADN h;refine⟨r0,h1,?_⟩;have h3:=hI.res _ _ _ _ h1;rcases h2 with h2|h2
  ·simp only at h2;subst h2;exact⟨h3,rfl⟩
  ·simp only at h2;subst h2;exact⟨AIR h3,ADM _ _ _⟩
 refine⟨hI.sl,fun l k g r h=>(by obtain⟨r0,_,h2,_⟩:=look h;exact h2),fun l k g r l' k' g' r' b h1 h2 h3 h4=>?_,fun l k g r b h1 h2=>?_,hI.fresh,hI.env⟩
 ·rcases look h1 with⟨r1,e1,_,o1⟩;rcases look h2 with⟨r2,e2,_,o2⟩;exact hI.sep _ _ _ _ _ _ _ _ _ e1 e2 (o1▸h3) (o2▸h4)
 ·rcases look h1 with⟨r1,e1,_,o1⟩;exact hI.out _ _ _ _ _ e1 (o1▸h2)
theorem fR{k:Nat}{st:XS}:(wk1 k st).s.emb σ pre=⟨(st.s.emb σ pre).up,bM k (st.s.emb σ pre).loc⟩:=by simp only[wk1,St.emb,tH]
theorem ADO{m N:Nat}{ρ:Option Nat}{c:Code}{K:Exit->Fr->St->Prop}{k:Nat}{st:XS}(h:BE P m N ρ c K ((wk1 k st).fr.ren σ pre.length) ((wk1 k st).s.emb σ pre)):BE P m N ρ c K (st.fr.ren σ pre.length) (st.s.emb σ pre):=by intro G0 G a w hR;rw[fR]at h;exact h G0 G a w ⟨hR.le,APZ hR.inv,hR.fr,hR.size,hR.lvl,hR.marks⟩
theorem AIS{k:Nat}{st:XS}(h:Bd st):KA st (wk1 k st):=by
 refine⟨bf _,⟨h.f,fun σ σ' pre ha=>by rw[fR,fR,h.s σ σ' pre ha],fun l j γ fr ps asg body N ls hg=>?_⟩,rfl⟩;obtain⟨r,h1,h2⟩:=ADN (s:=st.s) hg;have e:r=.loop fr ps asg body N ls:=by
  rcases h2 with h2|h2
  ·exact h2.symm
  ·cases r<;>first|exact h2.symm|cases h2
 subst e;exact h.lp l j γ fr ps asg body N ls h1
def tJ(k:Nat)(st:XS):XS:=Bool.rec (Bool.rec (Bool.rec (wk1 (k % 1000) st) (ADK (k % 1000) st) (bp k 2000000000000000))
 (mvX ((k-1000) % 1000) ((k-1000) / 1000 % 1000) ((k-1000) / 1000000 % 1000) ((k-1000) / 1000000000 % 1000) ((k-1000) / 1000000000000) st) (bp k 1000000000000000)) (HX k st) (bp k 1000)
def MV(ks:List Nat)(st:XS):XS:=List.rec (motive:=fun _=>XS->XS) (fun st=>st) (fun k _ ih st=>ih (tJ k st)) ks st
theorem A1Z{us:List Nat}{st:XS}:(bL k l d us st).c=st.c:=by unfold bL;cases QS l st.s.up.length (st.s.loc.get k)<;>rfl
theorem A10{k:Nat}{st:XS}:(tJ k st).c=st.c:=by
 unfold tJ;cases bp k 1000 with
 |true=>rfl
 |false=>cases bp k 1000000000000000 with
  |true=>exact A1Z
  |false=>cases bp k 2000000000000000 with
   |true=>exact sZ _ _
   |false=>rfl
theorem AIT{k:Nat}{st:XS}(h:Bd st):KA st (tJ k st):=by
 unfold tJ;cases bp k 1000 with
 |true=>exact dF h
 |false=>cases bp k 1000000000000000 with
  |true=>exact AIN h
  |false=>cases bp k 2000000000000000 with
   |true=>exact dG _ h
   |false=>exact AIS h
theorem ADP{m N:Nat}{ρ:Option Nat}{c:Code}{K:Exit->Fr->St->Prop}{k:Nat}{st:XS}(h:BE P m N ρ c K ((tJ k st).fr.ren σ pre.length) ((tJ k st).s.emb σ pre)):BE P m N ρ c K (st.fr.ren σ pre.length) (st.s.emb σ pre):=by
 unfold tJ at h;cases h1:bp k 1000 with
 |true=>rw[h1]at h;exact ZT h
 |false=>
  rw[h1]at h
  cases h2:bp k 1000000000000000 with
  |true=>rw[h2]at h;exact ADH h
  |false=>
   rw[h2]at h
   cases h3:bp k 2000000000000000 with
   |true=>rw[h3]at h;exact ZU _ h
   |false=>rw[h3]at h;exact ADO h
theorem ALS:∀(ks:List Nat) (st:XS),(MV ks st).c=st.c
 |[],_=>rfl
 |k::ks,st=>(ALS ks (tJ k st)).trans A10
theorem tK:∀(ks:List Nat) {st:XS},Bd st->KA st (MV ks st)
 |[],st,h=>⟨bf _,h,rfl⟩
 |k::ks,st,h=>by have h1:=AIT (k:=k) h;have h2:=tK ks h1.bd;exact⟨dk h1.c h2.c,h2.bd,h2.n.trans h1.n⟩
theorem lM{m N:Nat}{ρ:Option Nat}{c:Code}{K:Exit->Fr->St->Prop}:∀(ks:List Nat) {st:XS},BE P m N ρ c K ((MV ks st).fr.ren σ pre.length) ((MV ks st).s.emb σ pre)->BE P m N ρ c K (st.fr.ren σ pre.length) (st.s.emb σ pre)
 |[],_,h=>h
 |k::ks,st,h=>ADP (k:=k) (lM ks (st:=tJ k st) h)
end Go.Pg
namespace Go.Pg
variable {P:fx}{n N:Nat}{ρ:Option Nat}{G0 G:Gh}{fr fr':Fr}{s s':St}{a:Act}{w:fg}{l:List fw}{gs:List (Option (Tmp×Bool))}{e:Nat}{σ σ':Nat->Nat}{δ:Nat}{pre:List AA}
def HZ(P:fx)(l:List fw)(gs:List (Option (Tmp×Bool)))(e i:Nat)(fr:Fr)(s:St)(k:Fr->St->Prop):Prop:=match l[i]? with
 |some o=>if i=e then ∃f args,PU fr (aN gs i)=some true/\IM true o fr=some (f,args)/\E6 P f args s fun r s'=>k (putD fr o.dst true r) s'
  else ∃v,PU fr (aN gs i)=some true/\(∀s,E9 P true o fr s=some v)/\k (putD fr o.dst true v) s
 |none=>False
def fS(P:fx)(l:List fw)(gs:List (Option (Tmp×Bool)))(e:Nat)(T:Array Bool->Fr->St->Prop):Nat->List Nat->Array Bool->Fr->St->Prop
 |0,_,listed,fr,s=>T listed fr s
 |m+1,R,listed,fr,s=>wG l listed≠[]/\∀j∈wG l listed,j∈R/\HZ P l gs e j fr s (fS P l gs e T m (R.erase j) (listed.setIfInBounds j true))
def KM(fr fr':Fr):Prop:=∀k,fr.get k=fr'.get k
theorem KM.same(h:KM fr fr'):F3 fr ⟨[],[]⟩ fr' ⟨[],[]⟩:=⟨h,fun _ _=>rfl,rfl⟩
theorem KM.putD(h:KM fr fr')(d:Option Tmp)(c:Bool)(v:V):KM (Pg.putD fr d c v) (Pg.putD fr' d c v):=(h.same.putD d c v).f
variable {T:Array Bool->Fr->St->Prop}
theorem lN{i:Nat}{k k':Fr->St->Prop}(h:HZ P l gs e i fr s k)(hf:KM fr fr')(hk:∀f1 f2 s1,KM f1 f2->k f1 s1->k' f2 s1):HZ P l gs e i fr' s k':=by
 unfold HZ at h|-;split
 ·rename_i o ho;simp only[ho]at h;split
  ·rename_i hi;rw[if_pos hi]at h;obtain⟨f,args,h1,h2,h3⟩:=h;exact⟨f,args,(hf.same.gd _).symm.trans h1,(GM fun x _=>(hf.same.rd x).symm).trans h2,h3.mono fun r s1=>hk _ _ _ (hf.putD _ _ _)⟩
  ·rename_i hi;rw[if_neg hi]at h;obtain⟨v,h1,h2,h3⟩:=h;exact⟨v,(hf.same.gd _).symm.trans h1,fun s1=>(GH fun x _=>(hf.same.rd x).symm).trans (h2 s1),hk _ _ _ (hf.putD _ _ _) h3⟩
 ·rename_i ho;simp only[ho]at h
theorem MW{i:Nat}{k k':Fr->St->Prop}(h:HZ P l gs e i fr s k)(hk:∀f1 s1,k f1 s1->k' f1 s1):HZ P l gs e i fr s k':=by
 unfold HZ at h|-;split
 ·rename_i o ho;simp only[ho]at h;split
  ·rename_i hi;rw[if_pos hi]at h;obtain⟨f,args,h1,h2,h3⟩:=h;exact⟨f,args,h1,h2,h3.mono fun r s1=>hk _ _⟩
  ·rename_i hi;rw[if_neg hi]at h;obtain⟨v,h1,h2,h3⟩:=h;exact⟨v,h1,h2,hk _ _ h3⟩
 ·rename_i ho;simp only[ho]at h
theorem ZY(hT:∀listed fr fr' s,KM fr fr'->T listed fr s->T listed fr' s):∀(m:Nat) (R:List Nat) (listed:Array Bool) (fr fr':Fr) (s:St),KM fr fr'->fS P l gs e T m R listed fr s->fS P l gs e T m R listed fr' s
 |0,_,_,_,_,_,hs,h=>hT _ _ _ _ hs h
 |m+1,_,_,_,_,_,hs,h=>⟨h.1,fun j hj=>⟨(h.2 j hj).1,lN (h.2 j hj).2 hs fun _ _ _ h12 h'=>ZY hT m _ _ _ _ _ h12 h'⟩⟩
theorem pM{i j:Nat}{oi oj:fw}{k k':Fr->St->Prop}(hi:l[i]? = some oi)(hj:l[j]? = some oj)(hie:i≠e)(hij:GN oj (aN gs j) oi.dst)(hji:GN oi (aN gs i) oj.dst)(hne:∀d,oi.dst=some d->oj.dst≠some d)
  (h:HZ P l gs e i fr s fun f1 s1=>HZ P l gs e j f1 s1 k) (hk:∀f1 f2 s1,KM f1 f2->k f1 s1->k' f2 s1):HZ P l gs e j fr s fun f2 s2=>HZ P l gs e i f2 s2 k':=by
 have hcomm:∀(v v':V),KM (putD (putD fr oi.dst true v) oj.dst true v') (putD (putD fr oj.dst true v') oi.dst true v):=by
  intro v v' t;simp only[F4];by_cases e1:oj.dst=some t
  ·have:oi.dst≠some t:=fun e2=>hne t e2 e1;simp[e1,this]
  ·simp[e1]
 unfold HZ at h|-
 simp only[hi,hj,if_neg hie]at h|-
 obtain⟨v,g1,hv,h⟩:=h
 by_cases hje:j=e
 ·rw[if_pos hje]at h|-;obtain⟨f,args,g2,hc,h⟩:=h;exact⟨f,args,(hij.gd true v).symm.trans g2,(GM (hij.rd true v)).symm.trans hc,h.mono fun r s1 hk'=>⟨v,(hji.gd true r).trans g1,fun s2=>(GH (hji.rd true r)).trans (hv s2),hk _ _ _ (hcomm v r) hk'⟩⟩
 ·rw[if_neg hje]at h|-;obtain⟨u,g2,hu,h⟩:=h;exact⟨u,(hij.gd true v).symm.trans g2,fun s2=>(GH (hij.rd true v)).symm.trans (hu s2),v,(hji.gd true u).trans g1,fun s2=>(GH (hji.rd true u)).trans (hv s2),hk _ _ _ (hcomm v u) h⟩
structure tL(l:List fw)(gs:List (Option (Tmp×Bool)))(e i:Nat)(oi:fw)(B:List Nat)(R:List Nat)(listed:Array Bool):Prop where
 ready:i∈wG l listed
 mem:i∈R
 wait:∀b∈B,∃o,l[b]? = some o/\∃x∈o.after,Region.binds .any x=true/\(x.on=i\/x.on∈B)
 un:∀b∈B,listed.getD b true=false
 free:∀j oj,l[j]? = some oj->j≠i->j∉B->listed.getD j true=false->i≠e/\j∈R/\GN oj (aN gs j) oi.dst/\GN oi (aN gs i) oj.dst/\(∀d,oi.dst=some d->oj.dst≠some d)
theorem tL.blocked{i:Nat}{oi:fw}{B R:List Nat}{listed:Array Bool}(h:tL l gs e i oi B R listed){j:Nat}(hj:j∈wG l listed):j∉B:=by
 intro hb;obtain⟨_,o,ho,hall⟩:=mem_ready.1 hj;obtain⟨o',ho',x,hx,hbi,hon⟩:=h.wait j hb;have:o=o':=by simpa [ho']using ho.symm
 subst this;have h1:=hall x hx hbi;rcases hon with hon|hon
 ·rw[hon,WU (mem_ready.1 h.ready).1]at h1;cases h1
 ·rw[WU (h.un _ hon)]at h1;cases h1
theorem pN(hT:∀listed fr fr' s,KM fr fr'->T listed fr s->T listed fr' s){i:Nat}{oi:fw}{B:List Nat}(hi:l[i]? = some oi):∀(m:Nat) (R:List Nat) (listed:Array Bool) (fr:Fr) (s:St),
  tL l gs e i oi B R listed->R.length=m+1->R.Nodup->HZ P l gs e i fr s (fS P l gs e T m (R.erase i) (listed.setIfInBounds i true))->fS P l gs e T (m+1) R listed fr s:=by
 intro m
 induction m with
 |zero=>
  intro R listed fr s hF hlen _ h
  refine⟨fun e=>?_,fun j hj=>?_⟩
  ·have:=hF.ready;rw[e]at this;cases this
  ·by_cases hji:j=i
   ·subst hji;exact⟨hF.mem,h⟩
   ·obtain⟨hun,oj,hoj,_⟩:=mem_ready.1 hj;have hR:=(hF.free j oj (by simpa using hoj) hji (hF.blocked hj) hun).2.1;exfalso;obtain⟨x,rfl⟩:=List.length_eq_one_iff.1 hlen;have e1:=hF.mem;simp at e1 hR;exact hji (hR.trans e1.symm)
 |succ m ih=>
  intro R listed fr s hF hlen hnd h
  refine⟨fun e=>?_,fun j hj=>?_⟩
  ·have:=hF.ready;rw[e]at this;cases this
  ·by_cases hji:j=i
   ·subst hji;exact⟨hF.mem,h⟩
   ·obtain⟨hun,oj,hoj,_⟩:=mem_ready.1 hj;have hoj':l[j]? = some oj:=by simpa using hoj
    have hjB:=hF.blocked hj;obtain⟨hie,hjR,b1,b2,hne⟩:=hF.free j oj hoj' hji hjB hun;refine⟨hjR,?_⟩;have h1:HZ P l gs e i fr s fun f1 s1=>HZ P l gs e j f1 s1 (fS P l gs e T m ((R.erase i).erase j) ((listed.setIfInBounds i true).setIfInBounds j true)) :=
     MW h fun f1 s1 h'=>(h'.2 j (ready_mono hj hji)).2
    have h2:=pM hi hoj' hie b1 b2 hne h1 fun f1 f2 s1 h12 h'=>ZY hT _ _ _ _ _ _ h12 h';refine MW h2 fun f1 s1 h'=>?_;have hlt:j<listed.size:=by
     rcases cd j listed.size with h'|h'
     ·exact h'
     ·simp[cg h']at hun
    refine ih (R.erase j) (listed.setIfInBounds j true) f1 s1 ⟨ready_mono hF.ready (Ne.symm hji),(dl (Ne.symm hji)).2 hF.mem,hF.wait,fun b hb=>?_,fun k ok hk hki hkB hku=>?_⟩ ?_ (hnd.erase j) ?_
    ·rw[getD_set_ne true (fun e=>hjB (by rw[e];exact hb))];exact hF.un b hb
    ·have hkj:k≠j:=by intro e;subst e;simp[hlt]at hku
     rw[getD_set_ne true (Ne.symm hkj)]at hku;obtain⟨q0,q1,q2⟩:=hF.free k ok hk hki hkB hku;exact⟨q0,(dl hkj).2 q1,q2⟩
    ·rw[dq hjR,hlen];rfl
    ·rw[List.erase_comm,Array.setIfInBounds_comm _ _ hji];exact h'
def OL(P:fx)(l:List fw)(gs:List (Option (Tmp×Bool)))(e:Nat):List Nat->Fr->St->(Fr->St->Prop)->Prop
 |[],fr,s,K=>K fr s
 |i::r,fr,s,K=>HZ P l gs e i fr s fun fr s=>OL P l gs e r fr s K
theorem ZZ:∀(R:List Nat) (fr:Fr) (s:St) (k k':Fr->St->Prop),(∀f1 s1,k f1 s1->k' f1 s1)->OL P l gs e R fr s k->OL P l gs e R fr s k'
 |[],_,_,_,_,hk,h=>hk _ _ h
 |_::r,_,_,k,k',hk,h=>MW h fun _ _ h'=>ZZ r _ _ k k' hk h'
def PhY(l:List fw)(gs:List (Option (Tmp×Bool)))(e:Nat):List Nat->Array Bool->Prop
 |[],_=>True
 |i::r,listed=>(∃oi B,l[i]? = some oi/\tL l gs e i oi B (i::r) listed)/\PhY l gs e r (listed.setIfInBounds i true)
theorem TE(hT:∀listed fr fr' s,KM fr fr'->T listed fr s->T listed fr' s):∀(R:List Nat) (listed:Array Bool) (fr:Fr) (s:St),R.Nodup->PhY l gs e R listed ->
  OL P l gs e R fr s (T (R.foldl (fun L i=>L.setIfInBounds i true) listed))->fS P l gs e T R.length R listed fr s
 |[],_,_,_,_,_,h=>h
 |i::r,listed,fr,s,hnd,hp,h=>by obtain⟨⟨oi,B,hi,hF⟩,hp⟩:=hp;refine pN hT hi r.length (i::r) listed fr s hF rfl hnd ?_;rw[List.erase_cons_head];exact MW h fun f1 s1 h'=>TE hT r _ _ _ (dm.1 hnd).2 hp h'
theorem pO{o:fw}{f:FuncId}{args:List V}{k:Fr->St->Prop}(hc:IM true o fr=some (f,args))(h:E6 P f args s fun r s'=>k (putD fr o.dst true r) s'):EA P true o fr s k:=by
 unfold IM at hc;unfold EA;split at hc
 ·rename_i f' args' argTypes' ho;simp only[ho];split at hc
  ·rename_i fid first cap vs e1 e2;cases hc;simp only[e1,e2];exact .inl ⟨rfl,h⟩
  ·cases hc
 ·cases hc
theorem Z0{K:Exit->Fr->St->Prop}(hN:LI N l=true)(hg:JE l gs l=true){t:Nat}(hT:∀listed fr s G a w,T listed fr s->I1 n N G0 G fr s a w->wpAnyIn (wf ρ) 0 P .any l.toArray (KR n N G0 K) t listed a w) :
  ∀(m:Nat) (R:List Nat) (listed:Array Bool) (G:Gh) (fr:Fr) (s:St) (a:Act) (w:fg),I1 n N G0 G fr s a w->fS P l gs e T m R listed fr s->wpAnyIn (wf ρ) 0 P .any l.toArray (KR n N G0 K) (m+t) listed a w
 |0,_,listed,G,fr,s,a,w,hR,h=>by rw[dc];exact hT _ _ _ _ _ _ h hR
 |m+1,R,listed,G,fr,s,a,w,hR,h=>by
  rw[Nat.add_right_comm];refine⟨fun h0=>absurd h0 h.1,fun j hj=>?_⟩;have h':=(h.2 j hj).2;unfold HZ at h';split at h'
  ·rename_i o ho;have main:PU fr (aN gs j)=some true->SO P true o fr s (fS P l gs e T m (R.erase j) (listed.setIfInBounds j true))->wpOpIn (wf ρ) 0 P l.toArray (KR n N G0 K) j (wpAnyIn (wf ρ) 0 P .any l.toArray (KR n N G0 K) (m+t) (listed.setIfInBounds j true)) a w:=fun hgd hst=>
    G9 hR hN hg ho hgd hst fun G' a' w' fr' s' hR' hk=>Z0 hN hg hT m _ _ G' fr' s' a' w' hR' hk
   split at h'
   ·obtain⟨f,args,h1,h2,h3⟩:=h';exact main h1 (.inl (pO h2 h3))
   ·obtain⟨v,h1,h2,h3⟩:=h';exact main h1 (.inl (DL (Ω:=G7.nothing P) (.inl ⟨v,h2 s,h3⟩)))
  ·cases h'
def tM(l:List fw)(i j:Nat):Bool:=cq (Nat.land (dsM l i) (Nat.lor (lkM l j) (dsM l j))) 0&&cq (Nat.land (dsM l j) (lkM l i)) 0
theorem pP{i j:Nat}{oi oj:fw}(hi:l[i]? = some oi)(hj:l[j]? = some oj)(h:tM l i j=true) :
  (∀d,oi.dst=some d->d∉oj.looksAt l.toArray)/\(∀d,oi.dst=some d->oj.dst≠some d)/\(∀d,oj.dst=some d->d∉oi.looksAt l.toArray):=by
 unfold tM dsM lkM at h
 simp only[hi,hj,bj]at h
 obtain⟨h1,h2⟩:=h
 refine⟨fun d hd hm=>?_,fun d hd he=>?_,fun d hd hm=>?_⟩
 ·rw[hd]at h1;refine FK h1 (j:=d) (by rw[CI];simp) ?_;rw[testBit_or,DH.2 hm];rfl
 ·rw[hd,he]at h1;refine FK h1 (j:=d) (by rw[CI];simp) ?_;rw[testBit_or,CI];simp
 ·rw[hd]at h2;exact FK h2 (j:=d) (by rw[CI];simp) (DH.2 hm)
def AIU(l:List fw)(tl:List Nat)(e:Nat):List Nat->Nat->Bool
 |[],_=>true
 |i::r,done=>G8 (KG i (yV l 0) 0) fun B=>
  bp i l.length&&!(UO done i)&&N7 l i done&&cq (Nat.land B done) 0&&tl.all (UO B)&&r.all (fun j=>UO B j||(!(cq i e)&&tM l i j))&&G8 (Nat.lor done (Nat.shiftLeft 1 i)) (AIU l tl e r)
theorem dH{tl:List Nat}(hg:JE l gs l=true):∀{R:List Nat} {done:Nat} {listed:Array Bool},J9 l (R++tl) done listed->AIU l tl e R done=true->PhY l gs e R listed
 |[],_,_,_,_=>trivial
 |i::r,done,listed,hL,h=>by
  unfold AIU at h;rw[EY,EY]at h;simp only[bj,Bool.not_eq_true',bx,Bool.or_eq_true]at h;obtain⟨⟨⟨⟨⟨⟨h1,h2⟩,h3⟩,h4⟩,h5⟩,h6⟩,h7⟩:=h;have hi:i<l.length:=by simpa [dw]using h1
  have hw:=MJ (l:=l) (i:=i) (js:=yV l 0) (B:=0) (fun p hp=>by
   obtain⟨k,o,e1,e2,e3⟩:=eX (j:=p.1) (m:=p.2) hp;exact⟨o,by rw[e1,dc]; exact e2,e3⟩) (fun b hb=>by simp at hb)
  generalize KG i (yV l 0) 0=B at *;have hb:∀b,b∈(fj l.length).filter (fun b=>B.testBit b)↔B.testBit b=true:=fun b=>by rw[List.mem_filter,List.mem_range];refine⟨fun h=>h.2,fun h=>⟨?_,h⟩⟩;obtain⟨o,ho,_⟩:=hw b h;exact(bw.1 ho).1
  refine⟨⟨l[i],(fj l.length).filter (fun b=>B.testBit b),bm hi,⟨hL.ready hi h2 h3,by simp,fun b hbm=>?_,fun b hbm=>?_,fun j oj hj hji hjB hun=>?_⟩⟩,dH hg (hL.next hi) h7⟩
  ·obtain⟨o,ho,x,he,hbi,hon⟩:=hw b ((hb b).1 hbm);exact⟨o,ho,x,he,hbi,hon.imp id fun h=>(hb _).2 h⟩
  ·have hbt:=(hb b).1 hbm;refine hL.un.2 ⟨?_,?_⟩
   ·obtain⟨o,ho,_⟩:=hw b hbt;exact(bw.1 ho).1
   ·cases hd:done.testBit b with
    |false=>rfl
    |true=>exact(FK h4 hbt hd).elim
  ·obtain⟨hlt,hdn⟩:=hL.un.1 hun;have hnb:B.testBit j=false:=by
    cases hd:B.testBit j with
    |false=>rfl
    |true=>exact absurd ((hb j).2 hd) hjB
   rcases dn.1 (hL.cov j hlt hdn)with hm|hm
   ·rcases List.mem_cons.1 hm with rfl|hr
    ·exact absurd rfl hji
    ·have hp:i≠e/\tM l i j=true:=by
      rcases h6 j hr with h6|h6
      ·rw[S5,hnb]at h6;cases h6
      ·refine⟨fun he=>?_,h6.2⟩;have:=h6.1;rw[he,cm]at this;cases this
     obtain⟨a1,a2,a3⟩:=pP (bm hi) hj hp.2;exact⟨hp.1,hm,S0 (_x:=l[i]) a1 (MH hg hj),S0 (_x:=oj) a3 (MH hg (bm hi)),a2⟩
   ·have:=h5 j hm;rw[S5,hnb]at this;cases this
abbrev bN:=List (List Nat×Nat)
def OM(S:bN):List Nat:=S.flatMap fun p=>p.1
def tN(l:List fw):bN->Nat->Bool
 |[],_=>true
 |(R,e)::S,done=>R.all (bp · l.length)&&Y3 R&&AIU l (OM S) e R done&&G8 (ACK done R) (tN l S)
def fT(N:Nat)(gs:List (Option (Tmp×Bool)))(S:bN)(l:List fw):Bool :=
 LI N l&&JE l gs l&&tN l S 0&&cq (OM S).length l.length&&cq (M5 (OM S)) (2 ^ l.length-1)
def fU(P:fx)(l:List fw)(gs:List (Option (Tmp×Bool))):bN->Fr->St->(Fr->St->Prop)->Prop
 |[],fr,s,K=>K fr s
 |(R,e)::S,fr,s,K=>OL P l gs e R fr s fun fr s=>fU P l gs S fr s K
theorem I1.sameF(h:I1 n N G0 G fr s a w)(hs:KM fr fr'):I1 n N G0 G fr' s a w:=h.same ⟨hs,fun _ _=>rfl,rfl⟩
theorem TF{K:Exit->Fr->St->Prop}(hN:LI N l=true)(hg:JE l gs l=true):∀(S:bN) (done:Nat) (listed:Array Bool),J9 l (OM S) done listed->tN l S done=true ->
  ∀(G:Gh) (fr:Fr) (s:St) (a:Act) (w:fg),I1 n N G0 G fr s a w->fU P l gs S fr s (K .normal)->wpAnyIn (wf ρ) 0 P .any l.toArray (KR n N G0 K) (OM S).length listed a w
 |[],done,listed,hL,_,G,fr,s,a,w,hR,h=>by refine⟨cz.2 fun j hj=>?_,G,fr,s,hR,h⟩;obtain⟨h1,o,ho,_⟩:=mem_ready.1 hj;obtain⟨hlt,hdn⟩:=hL.un.1 h1;exact absurd (hL.cov j hlt hdn) (by simp[OM])
 |(R,e)::S,done,listed,hL,hM,G,fr,s,a,w,hR,h=>by
  unfold tN at hM;rw[EY]at hM;simp only[bj]at hM;obtain⟨⟨⟨h1,h2⟩,h3⟩,h4⟩:=hM;have hfl:OM ((R,e)::S)=R++OM S:=by simp[OM]
  rw[hfl]at hL;have hL1:=hL.fold (fun i hi=>by simpa [dw]using bx.1 h1 i hi);have hP:=dH hg hL h3;let T:Array Bool->Fr->St->Prop:=fun listed fr s=>∀G a w,I1 n N G0 G fr s a w->wpAnyIn (wf ρ) 0 P .any l.toArray (KR n N G0 K) (OM S).length listed a w;have hw':OL P l gs e R fr s (T (R.foldl (fun L i=>L.setIfInBounds i true) listed)) :=
   ZZ R fr s _ _ (fun f1 s1 h' G a w hR=>TF hN hg S _ _ hL1 h4 G f1 s1 a w hR h') h
  have hA:=TE (T:=T) (fun listed f1 f2 s hs hT G a w hR=>hT G a w (hR.sameF fun k=>(hs k).symm)) R _ fr s (N8 h2) hP hw';have hB:=Z0 (ρ:=ρ) (K:=K) hN hg (T:=T) (t:=(OM S).length) (fun listed f1 s1 G a w hT hR=>hT G a w hR) R.length R _ G fr s a _ hR hA;rw[hfl];simpa using hB
theorem pQ{id:Nat}{K:Exit->Fr->St->Prop}(hm:P.follows .mixedOrders=true)(gs:List (Option (Tmp×Bool)))(S:bN)(hB:fT N gs S l=true)
  (h:fU P l gs S fr s (K .normal)):BE P n N ρ (.region id l.toArray true) K fr s:=by
 simp only[fT,bj]at hB
 obtain⟨⟨⟨⟨h1,h2⟩,h4⟩,h5⟩,h6⟩:=hB
 intro G0 G a w hR
 refine wpIn_region_any hm ?_
 have hR':I1 n N G0 G fr s a { w with drawn:=w.drawn+1 }:=⟨hR.le,hR.inv.drawn _,hR.fr,hR.size,hR.lvl,hR.marks⟩
 have:=TF (ρ:=ρ) (K:=K) h1 h2 S 0 _ (J9.start (l:=l) h6) h4 G fr s a _ hR' h
 rw[bq h5]at this
 simpa using this
def tO(l:List fw):List Nat->List Nat->bN
 |[],left=>[(left,l.length)]
 |e::es,left=>(left.filter (fun i=>!(cq i e)&&!(es.any (cq i))&&!((e::es).any fun x=>UO (KG x (yV l 0) 0) i))++[e],e)::tO l es (left.filter fun i=>!(cq i e)&&(es.any (cq i)||(e::es).any fun x=>UO (KG x (yV l 0) 0) i))
def ADQ(l:List fw):bN:=tO l ((fj l.length).filter fun i=>match l[i]? with
 |some o=>kC o
 | none=>false) (fj l.length)
def cY1(E:XE)(d:Option Tmp)(st:XS):Option V->Option (List V)->Option XS
 |some (.fn f first cap),some vs=>match E.cf f ((first++vs++cap).map weakV) st with
  |some (r,st')=>some ⟨st'.c,putD st'.fr d true r,st'.s⟩
  |none=>none
 |_,_=>none
def AP0(E:XE)(o:fw)(st:XS):Option XS:=match o.op with
 |.call c=>match c.callee with
  |.value f=>cY1 E o.dst st (CG st.fr f) (E5 (CG st.fr) c.args.toList)
  |_=>none
 |_=>none
def ALT(st:XS):Option XS->Option XS
 |some st1=>some ⟨st.c,st1.fr,st.s⟩
 |none=>none
def AP1(P:fx)(o:fw)(st:XS):Option XS:=ALT st (bJ P o ⟨st.c,st.fr,⟨[],[]⟩⟩)
def opY(P:fx)(E:XE)(l:List fw)(b:Bool)(o:fw)(st:XS):Option XS:=match gdX st.fr (KU l o)with
 |some true=>Bool.rec (AP1 P o st) (AP0 E o st) b
 |_=>none
def phY(P:fx)(E:XE)(l:List fw)(e:Nat):List Nat->XS->Option XS
 |[],st=>some st
 |i::r,st=>match l[i]? with
  |some o=>match opY P E l (cq i e) o st with
   |some st'=>phY P E l e r st'
   |none=>none
  |none=>none
def AIV(P:fx)(E:XE)(l:List fw):bN->XS->Option XS
 |[],st=>some st
 |p::S,st=>match phY P E l p.2 p.1 st with
  |some st1=>AIV P E l S st1
  |none=>none
def tP(P:fx)(E:XE)(N:Nat)(l:List fw)(st:XS):Option XS:=Bool.rec none (AIV P E l (ADQ l) st) (fT N (l.map (KU l)) (ADQ l) l)
theorem xF(n l k:Nat):(⟨cn n [],[]⟩:St).get l k=none:=by
 unfold St.get;split
 ·rfl
 ·split
  ·rename_i L hL;simp only[List.getElem?_replicate]at hL;split at hL
   ·cases hL;rfl
   ·cases hL
  ·rfl
theorem AP2{E:XE}(hEE:J2 P E){b:Bool}{o:fw}{st st':XS}(h:Bd st)(hx:opY P E l b o st=some st'):KA st st'/\(∀σ δ,PU (st.fr.ren σ δ) (KU l o)=some true) /\
  (b=true->∀(σ:Nat->Nat) (pre:List AA) (K:Fr->St->Prop),(∀σ',AO st.c σ σ'->K (st'.fr.ren σ' pre.length) (st'.s.emb σ' pre))->∃f args,IM true o (st.fr.ren σ pre.length)=some (f,args)/\E6 P f args (st.s.emb σ pre) fun r s'=>K (putD (st.fr.ren σ pre.length) o.dst true r) s') /\
  (b=false->∀(σ:Nat->Nat) (pre:List AA) (K:Fr->St->Prop),(∀σ',AO st.c σ σ'->K (st'.fr.ren σ' pre.length) (st'.s.emb σ' pre))->∃v,(∀s,E9 P true o (st.fr.ren σ pre.length) s=some v)/\K (putD (st.fr.ren σ pre.length) o.dst true v) (st.s.emb σ pre)):=by
 unfold opY at hx
 split at hx
 ·rename_i hg;rw[pA]at hg;have hgd:∀σ δ,PU (st.fr.ren σ δ) (KU l o)=some true:=fun σ δ=>MR hg;cases b with
  |true=>
   have hx:AP0 E o st=some st':=hx
   unfold AP0 at hx
   split at hx
   ·rename_i c ho;split at hx
    ·rename_i f hc;unfold cY1 at hx;split at hx
     ·rename_i fid first cap vs hf hvs;split at hx
      ·rename_i r GV hcall;cases hx;have hbf:=ACU (h.rd hf);obtain⟨hE,hbr,hfr,hA⟩:=hEE.cf _ _ _ _ _ hcall h (fun v hv=>by
        obtain⟨u,hu,rfl⟩:=ck.1 hv;refine fE ?_;rcases dn.1 hu with hu|hu
        ·rcases dn.1 hu with hu|hu
         ·exact hbf.1 u hu
         ·exact WW h hvs u hu
        ·exact hbf.2 u hu)
       refine⟨⟨hE.c,hE.bd.putF hbr,hE.n⟩,hgd,fun _ σ pre K hk=>?_,fun h=>(by cases h)⟩;refine⟨fid,(((first++vs++cap).map weakV).map (V.ren σ pre.length)),?_,?_⟩
       ·rw[DS]at hf;rw[KL,E3]at hvs;unfold IM;obtain⟨cal,args,Ts⟩:=c;have hc:cal=.value f:=hc;subst hc;have hvs':args.toList.mapM (DQ true (st.fr.ren σ pre.length))=some (vs.map (V.ren σ pre.length)):=by rw[JF];exact IP hvs
        simp only[ho,DI,hf,hvs',db,OB];rw[HG];simp only[List.map_append]
       ·refine hA σ pre _ fun σ' ha=>?_;have:=hk σ' ha;rw[FA,hfr,<-h.f σ σ' pre.length ha]at this;exact this
      ·cases hx
     ·cases hx
    ·cases hx
   ·cases hx
  |false=>
   have hx:AP1 P o st=some st':=hx
   unfold AP1 ALT at hx
   split at hx
   ·rename_i st1 h1;cases hx;unfold bJ at h1;split at h1
    ·rename_i v hv;cases h1;have hv:=PB hv;have hb0:Bd (⟨st.c,st.fr,⟨[],[]⟩⟩:XS):=⟨h.f,fun σ σ' pre _=>rfl,fun l k γ fr ps asg body N ls hg=>by simp[St.get]at hg⟩;have hbv:TX st.c v:=hb0.val hv;refine⟨⟨bf _,h.putF hbv,rfl⟩,hgd,fun h=>(by cases h),fun _ σ pre K hk=>⟨v.ren σ pre.length,fun s=>?_,?_⟩⟩
     ·have q:=IQ (σ:=σ) (pre:=cn pre.length []) hv;simp only[dz]at q;refine jV (fun l k x hx=>?_) q;have e0:(⟨[],[]⟩:St).emb σ (cn pre.length [])=⟨cn pre.length [],[]⟩:=by simp[St.emb,AA.ren]
      rw[e0,xF]at hx;cases hx
     ·have:=hk σ (AO.refl _ _);rw[FA]at this;exact this
    ·cases h1
   ·cases hx
 ·cases hx
theorem ADR{E:XE}(hEE:J2 P E):∀{R:List Nat} {st st':XS},Bd st->phY P E l e R st=some st'->KA st st' /\
  ∀(σ:Nat->Nat) (pre:List AA) (K:Fr->St->Prop),(∀σ',AO st.c σ σ'->K (st'.fr.ren σ' pre.length) (st'.s.emb σ' pre))->OL P l (l.map (KU l)) e R (st.fr.ren σ pre.length) (st.s.emb σ pre) K
 |[],st,st',h,hx=>by cases hx;exact⟨⟨bf _,h,rfl⟩,fun σ pre K hk=>hk σ (AO.refl _ _)⟩
 |i::r,st,st',h,hx=>by
  simp only[phY]at hx;split at hx
  ·rename_i o ho;split at hx
   ·rename_i st1 h1;obtain⟨hE,hg,h2,h3⟩:=AP2 hEE h h1;obtain⟨hE',hs'⟩:=ADR hEE hE.bd hx;refine⟨⟨dk hE.c hE'.c,hE'.bd,hE'.n.trans hE.n⟩,fun σ pre K hk=>?_⟩;have hk1:∀σ',AO st.c σ σ'->OL P l (l.map (KU l)) e r (st1.fr.ren σ' pre.length) (st1.s.emb σ' pre) K:=fun σ' ha=>hs' σ' pre K fun σ'' ha'=>hk σ'' (ha.trans ha' hE.c);simp only[OL,HZ,ho,WX ho];by_cases hie:i=e
    ·rw[if_pos hie];obtain⟨f,args,q1,q2⟩:=h2 (by rw[hie];exact cm e) σ pre (fun fr s=>OL P l (l.map (KU l)) e r fr s K) hk1;exact⟨f,args,hg _ _,q1,q2⟩
    ·rw[if_neg hie];obtain⟨v,q1,q2⟩:=h3 (by
      cases hb:cq i e with
      |false=>rfl
      | true=>exact absurd (bq hb) hie) σ pre (fun fr s=>OL P l (l.map (KU l)) e r fr s K) hk1
     exact⟨v,hg _ _,q1,q2⟩
   ·cases hx
  ·cases hx
theorem tQ{E:XE}(hEE:J2 P E):∀{S:bN} {st st':XS},Bd st->AIV P E l S st=some st'->KA st st' /\
  ∀(σ:Nat->Nat) (pre:List AA) (K:Fr->St->Prop),(∀σ',AO st.c σ σ'->K (st'.fr.ren σ' pre.length) (st'.s.emb σ' pre))->fU P l (l.map (KU l)) S (st.fr.ren σ pre.length) (st.s.emb σ pre) K
 |[],st,st',h,hx=>by cases hx;exact⟨⟨bf _,h,rfl⟩,fun σ pre K hk=>hk σ (AO.refl _ _)⟩
 |p::S,st,st',h,hx=>by
  simp only[AIV]at hx;split at hx
  ·rename_i st1 h1;obtain⟨hE,hs⟩:=ADR hEE h h1;obtain⟨hE',hs'⟩:=tQ hEE hE.bd hx;refine⟨⟨dk hE.c hE'.c,hE'.bd,hE'.n.trans hE.n⟩,fun σ pre K hk=>?_⟩;exact hs σ pre _ fun σ' ha=>hs' σ' pre K fun σ'' ha'=>hk σ'' (ha.trans ha' hE.c)
  ·cases hx
theorem ADS(hP:D8 P){E:XE}(hEE:J2 P E){id:Nat}{st st':XS}(hx:tP P E N l st=some st')(hbd:Bd st):KA st st' /\
  ∀(n:Nat) (ρ:Option Nat) (σ:Nat->Nat) (pre:List AA) (K:Exit->Fr->St->Prop),(∀σ',AO st.c σ σ'->K .normal (st'.fr.ren σ' pre.length) (st'.s.emb σ' pre))->BE P n N ρ (.region id l.toArray true) K (st.fr.ren σ pre.length) (st.s.emb σ pre):=by
 unfold tP at hx
 obtain⟨hok,hx⟩:=EC hx
 obtain⟨hE,hs⟩:=tQ hEE hbd hx
 exact⟨hE,fun n ρ σ pre K hk=>pQ hP.mixed (l.map (KU l)) (ADQ l) hok (hs σ pre _ hk)⟩
end Go.Pg
namespace Go.Pg
variable {P:fx}{n N:Nat}{ρ:Option Nat}{G0 G:Gh}{fr fr':Fr}{s s':St}{a:Act}{w:fg}
def ldC(o:fw):Option (fc×Tmp×Tmp):=match o.op with
 |.load T (.tmp a)=>match o.dst with
  |some d=>some (T,a,d)
  |none=>none
 |_=>none
def H4(l:List fw):List (fc×Tmp×Tmp):=l.filterMap ldC
def AP3(P:fx)(T:fc):Bool:=match P.underlying T with
 |some (.struct _)=>true
 |some (.array _ _)=>true
 |_=>cq (P.cellsOf T) 1
def A11(all:List fw)(o:fw)(T:fc)(a d:Tmp):Bool:=o.after.toList.any fun e=>Region.binds .any e&&match all[e.on]? with
 |some p=>match ldC p with
  |some k=>cq k.1 T&&cq k.2.1 a&&cq k.2.2 d
  |none=>false
 |none=>false
def ADT(P:fx)(all:List fw)(ks:List (fc×Tmp×Tmp))(j:Nat)(o:fw):Bool :=
 (KU all o).isNone&&(o.after.toList.all fun e=>!(Region.binds .any e)||bp e.on j)&&match o.op with
 |.load _ (.tmp a)=>o.dst.isSome&&ks.all (fun k=>!(cq k.2.2 a))
 |.store T (.tmp a) (.tmp d)=>o.dst.isNone&&ks.all (fun k=>!(cq k.2.2 a))&&bp 0 (P.cellsOf T)&&AP3 P T&&A11 all o T a d
 |_=>false
def pR(P:fx)(all:List fw)(ks:List (fc×Tmp×Tmp)):List fw->Nat->Bool
 |[],_=>true
 |o::r,j=>ADT P all ks j o&&pR P all ks r (j+1)
def AIX(l:List fw):Nat:=(l.filter kW).length
def WK(P:fx)(l:List fw):Bool:=bp 2 (AIX l)&&pR P l (H4 l) l 0
theorem WY{all:List fw}{ks:List (fc×Tmp×Tmp)}:∀{l:List fw} {j:Nat},pR P all ks l j=true->∀{i:Nat} {o:fw},l[i]? = some o->ADT P all ks (j+i) o=true
 |[],_,_,i,o,h=>by simp at h
 |p::r,j,hB,i,o,h=>by
  simp only[pR,bj]at hB;cases i with
  |zero=>simp at h;subst h;exact hB.1
  |succ i=>
   have:=WY hB.2 (i:=i) (o:=o) (by simpa using h)
   rwa [show j+1+i=j+(i+1) by omega]at this
theorem ON{o:fw}{k:fc×Tmp×Tmp}(h:ldC o=some k):o.op=.load k.1 (.tmp k.2.1)/\o.dst=some k.2.2:=by
 unfold ldC at h;split at h
 ·rename_i T a ho;split at h
  ·rename_i d hd;cases h;exact⟨ho,hd⟩
  ·cases h
 ·cases h
theorem lO{g:Bool}{t:Tmp}(h:fr'.get t=fr.get t):DQ g fr' (.tmp t)=DQ g fr (.tmp t):=by
 show(match fr'.get t with
  |some (c,v)=>if (!g||c)=true then some v else none
  | none=>none)=_
 rw[h];rfl
def A12 (T : fc) (x : Operand) : fw := { dst := none, op := .load T x, type := 0, pos := "", after := #[], guard := none }
def pS:Option V->Bool
 |some (.ptr ..)=>true
 |_=>false
def AP4(P:fx)(k:fc×Tmp×Tmp):Option XS->Option XS
 | some st=>Bool.rec none (match M7 P st.fr st.s k.1 (.tmp k.2.1)with
  |some v=>some ⟨st.c,putD st.fr (some k.2.2) true v,st.s⟩
  | none=>none) (pS (CG st.fr (.tmp k.2.1)))
 |none=>none
def QT(P:fx):List (fc×Tmp×Tmp)->Option XS->Option XS
 |[],o=>o
 |k::r,o=>QT P r (AP4 P k o)
theorem dI:∀(ks:List (fc×Tmp×Tmp)),QT P ks none=none
 |[]=>rfl
 |_::r=>dI r
def AP5(P:fx)(fr frF:Fr)(s:St)(k:fc×Tmp×Tmp):Prop :=
 ∃v l q γ off,frF.get k.2.2=some (true,v)/\DQ true fr (.tmp k.2.1)=some (.ptr l q γ off)/\(A5 s (.ptr l q γ off)).bind (BJ P k.1)=some v
theorem dJ:∀(ks:List (fc×Tmp×Tmp)) {st st':XS},(∀k∈ks,∀k'∈ks,k.2.2≠k'.2.1)->(ks.map (·.2.2)).Nodup->Bd st->QT P ks (some st)=some st' ->
  Bd st'/\st'.c=st.c/\st'.s=st.s/\(∀t,(∀k∈ks,k.2.2≠t)->st'.fr.get t=st.fr.get t)/\∀k∈ks,AP5 P st.fr st'.fr st.s k
 |[],st,st',_,_,hb,h=>by cases h;exact⟨hb,rfl,rfl,fun _ _=>rfl,fun k hk=>by cases hk⟩
 |k::r,st,st',h1,h2,hb,h=>by
  simp only[QT]at h;cases hs:AP4 P k (some st)with
  |none=>rw[hs,dI]at h;cases h
  |some st1=>
   rw[hs]at h
   unfold AP4 at hs
   simp only at hs
   cases hp:pS (CG st.fr (.tmp k.2.1))with
   |false=>rw[hp]at hs;cases hs
   |true=>
   rw[hp]at hs
   simp only at hs
   split at hs
   ·rename_i v hv;have hl:E9 P true (A12 k.1 (.tmp k.2.1)) st.fr st.s=some v:=by
     unfold M7 at hv;rw[DS]at hv;show((DQ true st.fr (.tmp k.2.1)).bind fun v=>(A5 st.s v).bind fun cs=>BJ P k.1 cs)=some v;revert hv;cases DQ true st.fr (.tmp k.2.1)with
     |none=>intro hv;cases hv
     |some p=>
      simp only[fq]
      cases A5 st.s p with
      |none=>intro hv;cases hv
      |some cs=>exact fun hv=>hv
    have hbv:=hb.val hl;cases hs;have hb1:Bd ({ st with fr:=putD st.fr (some k.2.2) true v }:XS):=hb.putF hbv;simp only[bg,dm]at h2;obtain⟨b1,b2,b3,b4,b5⟩:=dJ r (fun x hx y hy=>h1 x (by simp[hx]) y (by simp[hy])) h2.2 hb1 h;refine⟨b1,b2,b3,fun t ht=>?_,fun x hx=>?_⟩
    ·rw[b4 t fun x hx=>ht x (by simp[hx])];show(putD st.fr (some k.2.2) true v).get t=_;rw[F4,if_neg (fun e=>ht k (by simp) (by simpa using e))]
    ·rcases List.mem_cons.1 hx with rfl|hx
     ·unfold pS at hp;rw[DS]at hp;split at hp
      ·rename_i l q γ off hr;refine⟨v,l,q,γ,off,?_,hr,?_⟩
       ·rw[b4 x.2.2 fun y hy e=>h2.1 (ck.2 ⟨y,hy,e⟩)];show(putD st.fr (some x.2.2) true v).get x.2.2=_;rw[F4,if_pos rfl]
       ·have hl:((DQ true st.fr (.tmp x.2.1)).bind fun v=>(A5 st.s v).bind fun cs=>BJ P x.1 cs)=some v:=hl;rw[hr]at hl;exact hl
      ·cases hp
     ·obtain⟨v',l,q,γ,off,c1,c2,c3⟩:=b5 x hx;refine⟨v',l,q,γ,off,c1,?_,c3⟩;have:DQ true (putD st.fr (some k.2.2) true v) (.tmp x.2.1)=DQ true st.fr (.tmp x.2.1):=lO (by
       rw[F4,if_neg (fun e=>h1 k (by simp) x (by simp[hx]) (by simpa using e))])
      rw[<-this];exact c2
   ·cases hs
theorem lP{T:fc}{cs:List V}{v:V}(h:BJ P T cs=some v)(h1:AP3 P T=true)(hc:∀x∈cs,x.isCell=true):BC v=true/\A7 v=cs.take (P.cellsOf T)/\P.cellsOf T<=cs.length:=by
 have one:P.cellsOf T=1->cs[0]? = some v->BC v=true/\A7 v=cs.take (P.cellsOf T)/\P.cellsOf T<=cs.length:=fun e h=>by
  cases cs with
  |nil=>cases h
  |cons c cs=>
   simp only[List.getElem?_cons_zero,dr.injEq]at h
   subst h
   have hi:=hc c (by simp)
   rw[e]
   refine⟨?_,?_,by simp⟩
   ·cases c<;>first|rfl|cases hi
   ·cases c<;>first|rfl|cases hi
 unfold BJ at h;unfold AP3 at h1;split at h
 ·split at h
  ·rename_i hle;cases h;exact⟨rfl,rfl,hle⟩
  ·cases h
 ·split at h
  ·rename_i hle;cases h;exact⟨rfl,rfl,hle⟩
  ·cases h
 ·rename_i g1 g2 hu;split at h1
  ·rename_i fs e;rw[hu]at e;cases e;exact(g1 _ rfl).elim
  ·rename_i m x e;rw[hu]at e;cases e;exact(g2 _ _ rfl).elim
  ·exact one (bq h1) h
 ·cases h
theorem lQ{α:Type}(cs:List α)(off m:Nat):A0 cs off ((cs.drop off).take m)=cs:=by
 unfold A0;rw[List.length_take,ct,List.append_assoc];have:(cs.drop off).take m++cs.drop (off+min m (cs.length-off))=cs.drop off:=by
  rw[<-List.drop_drop];have e:min m (cs.length-off)=min m (cs.drop off).length:=by rw[ct]
  rw[e];generalize cs.drop off=ds;by_cases h:m<=ds.length
  ·rw[Nat.min_eq_left h,df]
  ·rw[Nat.min_eq_right (by omega),List.drop_length,cx (by omega),List.append_nil]
 rw[this,df]
structure A13(l:List fw)(fr frF:Fr)(s:St)(listed:Array Bool)(fr':Fr)(s':St):Prop where
 o:∀t,(∀k∈H4 l,k.2.2≠t)->fr'.get t=fr.get t
 d:∀j o k,l[j]? = some o->ldC o=some k->listed.getD j true=true->fr'.get k.2.2=frF.get k.2.2
 p:∀i k,s'.get i k=s.get i k
 n:s'.up.length=s.up.length
theorem xG{listed:Array Bool}{i:Nat}:(listed.setIfInBounds i true).getD i true=true:=by
 rcases cd i listed.size with h|h
 ·simp[h]
 ·simp
theorem AIY{l:List fw}{K:Exit->Fr->St->Prop}(hN:LI N l=true)(hg:JE l (l.map (KU l)) l=true)(hD:wH l)(hC:pR P l (H4 l) l 0=true){frF:Fr}
  (h1:∀t,(∀k∈H4 l,k.2.2≠t)->frF.get t=fr.get t) (h2:∀k∈H4 l,AP5 P fr frF s k) (hK:K .normal frF s) :
  ∀(R:List Nat) (listed:Array Bool) (G:Gh) (fr':Fr) (s':St) (a:Act) (w:fg),R.Nodup->(∀j,j∈R↔j<l.length/\listed.getD j true=false)->A13 l fr frF s listed fr' s'->I1 n N G0 G fr' s' a w ->
   wpAnyIn (wf ρ) 0 P .any l.toArray (KR n N G0 K) R.length listed a w:=by
 have mem:∀{j:Nat} {o:fw} {k:fc×Tmp×Tmp},l[j]? = some o->ldC o=some k->k∈H4 l:=fun hj hk=>cw.2 ⟨_,List.mem_of_getElem? hj,hk⟩
 intro R
 induction hm:R.length generalizing R with
 |zero=>
  intro listed G fr' s' a w hnd hR hI hrel
  have e:R=[]:=List.eq_nil_of_length_eq_zero hm
  subst e
  refine⟨?_,G,frF,s,hrel.same ⟨fun t=>?_,hI.p,hI.n⟩,hK⟩
  ·refine cz.2 fun j hj=>?_;obtain⟨q1,o,ho,_⟩:=mem_ready.1 hj;have:=(hR j).2 ⟨by
    have:=(cj.1 ho).1;simpa using this,q1⟩
   cases this
  ·by_cases ht:∀k∈H4 l,k.2.2≠t
   ·rw[hI.o t ht,h1 t ht]
   ·have⟨k,hk,e⟩:∃k∈H4 l,k.2.2=t:=Classical.byContradiction fun hn=>ht fun k hk e=>hn ⟨k,hk,e⟩;obtain⟨o,ho,hk⟩:=cw.1 hk;obtain⟨j,hj⟩:=dp ho;rw[<-e];refine hI.d j o k hj hk ?_;cases hl:listed.getD j true with
    |true=>rfl
    |false=>exact absurd ((hR j).2 ⟨(bw.1 hj).1,hl⟩) (by simp)
 |succ m ih=>
  intro listed G fr' s' a w hnd hR hI hrel
  refine⟨fun h0=>?_,fun i hi=>?_⟩
  ·exfalso;have hex:∃j,j∈R:=by
    cases R with
    |nil=>simp at hm
    |cons x R=>exact⟨x,by simp⟩
   obtain⟨j0,hj0⟩:=hex;have least:∀d j,j<=d->j∈R->∃j∈R,∀i,i<j->i∉R:=by
    intro d;induction d with
    |zero=>intro j hj hm;exact⟨j,hm,fun i hi=>by omega⟩
    |succ d ihd=>
     intro j hj hm
     by_cases hx:∃i,i<j/\i∈R
     ·obtain⟨i,hi,hi2⟩:=hx;exact ihd i (by omega) hi2
     ·exact⟨j,hm,fun i hi hi2=>hx ⟨i,hi,hi2⟩⟩
   obtain⟨j,hj,hmin⟩:=least j0 j0 (bf _) hj0;obtain⟨q1,q2⟩:=(hR j).1 hj;have ho:l[j]? = some l[j]:=bm q1;have hc:=WY hC ho;rw[dc]at hc;simp only[ADT,bj,bx]at hc;have:j∈Region.ready .any l.toArray listed:=mem_ready.2 ⟨q2,l[j],by simp,fun e he hb=>by
    have hlt:=hc.1.2 e (by simpa using he);rw[hb]at hlt;have hlt:e.on<j:=by simpa [dw]using hlt
    have hni:=hmin e.on hlt;cases hd:listed.getD e.on false with
    |true=>rfl
    |false=>
     refine absurd ((hR e.on).2 ⟨by omega,?_⟩) hni
     rcases cd e.on listed.size with h'|h'
     ·simp[h']at hd|-;exact hd
     ·exfalso;rcases cd j listed.size with h''|h''
      ·omega
      ·simp[cg h'']at q2⟩
   rw[h0]at this;cases this
  ·obtain⟨q1,o,ho,hwait⟩:=mem_ready.1 hi;have ho:l[i]? = some o:=by simpa using ho
   have hil:i<l.length:=(bw.1 ho).1;have hiR:i∈R:=(hR i).2 ⟨hil,q1⟩;have hc:=WY hC ho;rw[dc]at hc;simp only[ADT,bj,bx]at hc;obtain⟨⟨c1,_⟩,c3⟩:=hc;have hgn:aN (l.map (KU l)) i=none:=by rw[WX ho];exact dx.1 c1
   have hgd:PU fr' (aN (l.map (KU l)) i)=some true:=by rw[hgn];rfl
   have hlen:(R.erase i).length=m:=by rw[dq hiR,hm];rfl
   have hR':∀j,j∈R.erase i↔j<l.length/\(listed.setIfInBounds i true).getD j true=false:=fun j=>by
    rw[List.Nodup.mem_erase_iff hnd,hR];by_cases e:j=i
    ·subst e;rw[xG];simp
    ·rw[getD_set_ne true (Ne.symm e)];simp[e]
   have next:∀(fr2:Fr) (s2:St),A13 l fr frF s (listed.setIfInBounds i true) fr2 s2->∀G' a' w',I1 n N G0 G' fr2 s2 a' w'->wpAnyIn (wf ρ) 0 P .any l.toArray (KR n N G0 K) m (listed.setIfInBounds i true) a' w' :=
    fun fr2 s2 hI2 G' a' w' hr2=>ih (R.erase i) hlen (listed.setIfInBounds i true) G' fr2 s2 a' w' (hnd.erase i) hR' hI2 hr2
   have same:∀(t:Tmp),(∀k∈H4 l,k.2.2≠t)->DQ true fr' (.tmp t)=DQ true fr (.tmp t):=fun t ht=>lO (hI.o t ht);have cel:∀v,A5 s' v=A5 s v:=fun v=>by unfold A5;cases v<;>first|rfl|simp only[hI.p]
   split at c3
   ·rename_i T t hop;simp only[bj]at c3;obtain⟨d,hd⟩:=Option.isSome_iff_exists.1 c3.1;have hk:ldC o=some (T,t,d):=by simp only[ldC,hop,hd]
    have hnt:∀k∈H4 l,k.2.2≠t:=fun k hk e=>by have:=bx.1 c3.2 k hk;rw[e,cm]at this;cases this
    obtain⟨v,l1,q,γ,off,e1,e2,e3⟩:=h2 _ (mem ho hk);refine G9 hrel hN hg ho hgd (k:=fun f2 s2=>f2=putD fr' o.dst true v/\s2=s') ?_ fun G' a' w' fr2 s2 hr2 hk2=>?_
    ·refine .inl (DL (Ω:=G7.nothing P) (.inl ⟨v,?_,rfl,rfl⟩));have:E9 P true o fr' s'=(DQ true fr' (.tmp t)).bind fun v=>(A5 s' v).bind fun cs=>BJ P T cs:=by unfold E9;rw[hop];show I9 P o s' (DQ true fr')=_;unfold I9;rw[hop]
     rw[this,same t hnt,e2,fq,cel];exact e3
    ·obtain⟨rfl,rfl⟩:=hk2;refine next _ _ ⟨fun x hx=>?_,fun j p k hj hpk hl=>?_,hI.p,hI.n⟩ G' a' w' hr2
     ·rw[F4,hd,if_neg (fun e=>hx _ (mem ho hk) (by simpa using e))];exact hI.o x hx
     ·by_cases e:j=i
      ·subst e;rw[ho]at hj;cases hj;rw[hk]at hpk;cases hpk;rw[F4,hd,if_pos rfl];exact e1.symm
      ·rw[getD_set_ne true (Ne.symm e)]at hl;have hne:=hD i j o p d ho hj (Ne.symm e) hd;rw[F4,hd,if_neg (fun e=>hne (by rw[(ON hpk).2];simpa using e.symm))];exact hI.d j p k hj hpk hl
   ·rename_i T t d hop;simp only[bj]at c3;obtain⟨⟨⟨⟨d1,d2⟩,d3⟩,d4⟩,d5⟩:=c3;have hdn:o.dst=none:=dx.1 d1;have hnt:∀k∈H4 l,k.2.2≠t:=fun k hk e=>by have:=bx.1 d2 k hk;rw[e,cm]at this;cases this
    obtain⟨e,he,hb⟩:=List.any_eq_true.1 d5;simp only[bj]at hb;obtain⟨hb,hp⟩:=hb;split at hp
    ·rename_i p hpl;split at hp
     ·rename_i k hk;simp only[bj]at hp;have k1:k.1=T:=bq hp.1.1;have k2:k.2.1=t:=bq hp.1.2;have k3:k.2.2=d:=bq hp.2;have hdone:listed.getD e.on true=true:=by
       have:=hwait e (by simpa using he) hb;rcases cd e.on listed.size with h'|h'
       ·simp[h']at this|-;exact this
       ·simp[cg h']
      obtain⟨v,l1,q,γ,off,e1,e2,e3⟩:=h2 _ (mem hpl hk);have hfd:fr'.get d=some (true,v):=by rw[<-k3,hI.d e.on p k hpl hk hdone];exact e1
      rw[k2]at e2;rw[k1]at e3;cases hget:s.get l1 q with
      |none=>simp[A5,hget]at e3
      |some x=>
       obtain⟨γ',r⟩:=x
       cases r with
       |box cs=>
        by_cases hγ:γ'=γ
        ·subst hγ;have e3:BJ P T (cs.drop off)=some v:=by simpa [A5,hget]using e3
         have hget':s'.get l1 q=some (γ',.box cs):=by rw[hI.p];exact hget
         have hcell:∀x∈cs.drop off,x.isCell=true:=fun x hx=>by obtain⟨b,arr,T',_,_,hr⟩:=hrel.inv.res _ _ _ _ hget';obtain⟨j,hj,rfl⟩:=List.getElem_of_mem (List.mem_of_mem_drop hx);exact(hr.2 j hj (by rw[<-hr.1];exact hj)).1
         have h0:0<P.cellsOf T:=by simpa [dw]using d3
         obtain⟨w1,w2,w3⟩:=lP e3 d4 hcell;have hst:DA P o fr' s'=some (l1,q,γ',.box cs):=by
          unfold DA;rw[hop];have r1:DQ true fr' (.tmp t)=some (.ptr l1 q γ' off):=by rw[same t hnt];exact e2
          have r2:DQ true fr' (.tmp d)=some v:=by
           show(match fr'.get d with
            |some (c,v)=>if (!true||c)=true then some v else none
            | none=>none)=_
           rw[hfd];rfl
          simp only[r1,r2,hget'];rw[ct]at w3;rw[if_pos ⟨trivial,w1,h0,by rw[w2,List.length_take,ct];omega,by omega,hdn⟩,w2,lQ]
         refine G9 hrel hN hg ho hgd (k:=fun f2 s2=>f2=fr'/\s2=s'.put l1 q γ' (.box cs)) (.inl ((DP hst).2.2.2 _ ⟨rfl,rfl⟩)) fun G' a' w' fr2 s2 hr2 hk2=>?_;obtain⟨rfl,rfl⟩:=hk2;refine next _ _ ⟨hI.o,fun j p2 k' hj hpk hl=>?_,fun i2 k2=>?_,by rw[St.put_len];exact hI.n⟩ G' a' w' hr2
         ·by_cases ej:j=i
          ·subst ej;rw[ho]at hj;cases hj;rw[(ON hpk).2]at hdn;cases hdn
          ·rw[getD_set_ne true (Ne.symm ej)]at hl;exact hI.d j p2 k' hj hpk hl
         ·rw[St.get_put s' hget'];split
          ·rename_i e;rw[e.1,e.2,hget]
          ·exact hI.p i2 k2
        ·simp[A5,hget,hγ]at e3
       |_=>simp[A5,hget]at e3
     ·cases hp
    ·cases hp
   ·cases c3
theorem ADU{l:List fw}{id:Nat}{K:Exit->Fr->St->Prop}(hm:P.follows .mixedOrders=true)(hB:N9 (DM l) N (l.map (KU l)) (bH l) l=true)(hC:pR P l (H4 l) l 0=true){frF:Fr}
  (h1:∀t,(∀k∈H4 l,k.2.2≠t)->frF.get t=fr.get t) (h2:∀k∈H4 l,AP5 P fr frF s k) (hK:K .normal frF s):BE P n N ρ (.region id l.toArray true) K fr s:=by
 simp only[N9,bj]at hB
 obtain⟨⟨⟨⟨⟨b1,b2⟩,b3⟩,b4⟩,b5⟩,b6⟩:=hB
 intro G0 G a w hR
 refine wpIn_region_any hm ?_
 have hR':I1 n N G0 G fr s a { w with drawn:=w.drawn+1 }:=⟨hR.le,hR.inv.drawn _,hR.fr,hR.size,hR.lvl,hR.marks⟩
 have:=AIY (ρ:=ρ) (K:=K) b1 b2 (QI b3) hC h1 h2 hK (fj l.length) (Array.replicate l.length false) G fr s a _ List.nodup_range (fun j=>by
  rw[List.mem_range];refine⟨fun h=>⟨h,by simp[h]⟩,fun h=>h.1⟩) ⟨fun _ _=>rfl,fun j o k hj _ hl=>by
   have:=(bw.1 hj).1;simp[this]at hl,fun _ _=>rfl,rfl⟩ hR'
 rw[List.length_range]at this
 simpa using this
theorem Z1:∀{l:List fw},Y4 l=true->((H4 l).map (·.2.2)).Nodup
 |[],_=>by simp[H4]
 |o::r,h=>by
  simp only[Y4,bj]at h;have ih:=Z1 h.2;unfold H4 at ih|-;rw[List.filterMap_cons];cases hk:ldC o with
  |none=>exact ih
  |some k=>
   simp only[bg,dm]
   refine⟨fun hm=>?_,ih⟩
   obtain⟨k',hk',e⟩:=ck.1 hm
   obtain⟨p,hp,hpk⟩:=cw.1 hk'
   have h1:=h.1
   rw[(ON hk).2]at h1
   have h2:=bx.1 h1 p hp
   rw[(ON hpk).2]at h2
   simp only[e,cm]at h2
   cases h2
theorem pT{l:List fw}(hC:pR P l (H4 l) l 0=true):∀k∈H4 l,∀k'∈H4 l,k.2.2≠k'.2.1:=fun k hk k' hk' e=>by obtain⟨o,ho,hko⟩:=cw.1 hk';obtain⟨j,hj⟩:=dp ho;have hc:=WY hC hj;simp only[ADT,bj,(ON hko).1]at hc;have:=bx.1 hc.2.2 k hk;rw[e,cm]at this;cases this
theorem AIZ(hP:D8 P){id:Nat}{l:List fw}(hN:N9 (DM l) N (l.map (KU l)) (bH l) l=true)(hC:WK P l=true){st st':XS}(hx:QT P (H4 l) (some st)=some st')(hbd:Bd st):KA st st' /\
  ∀(n:Nat) (ρ:Option Nat) (σ:Nat->Nat) (pre:List AA) (K:Exit->Fr->St->Prop),(∀σ',AO st.c σ σ'->K .normal (st'.fr.ren σ' pre.length) (st'.s.emb σ' pre))->BE P n N ρ (.region id l.toArray true) K (st.fr.ren σ pre.length) (st.s.emb σ pre):=by
 simp only[WK,bj]at hC
 have hdd:Y4 l=true:=by have hB:=hN;simp only[N9,bj]at hB;exact hB.1.1.1.2
 obtain⟨b1,b2,b3,b4,b5⟩:=dJ _ (pT hC.2) (Z1 hdd) hbd hx
 refine⟨⟨by omega,b1,by rw[b3]⟩,fun n ρ σ pre K hk=>ADU hP.mixed hN hC.2 (frF:=st'.fr.ren σ pre.length) (fun t ht=>?_) (fun k hk=>?_) (by
  have:=hk σ (AO.refl _ _);rwa [b3]at this)⟩
 ·rw[Fr.get_ren,Fr.get_ren,b4 t ht]
 ·obtain⟨v,l1,q,γ,off,e1,e2,e3⟩:=b5 k hk;have hv:E9 P true (A12 k.1 (.tmp k.2.1)) st.fr st.s=some v:=by show((DQ true st.fr (.tmp k.2.1)).bind fun v=>(A5 st.s v).bind fun cs=>BJ P k.1 cs)=some v;rw[e2];exact e3
  have hv:=IQ (σ:=σ) (pre:=pre) hv;have e2':DQ true (st.fr.ren σ pre.length) (.tmp k.2.1)=some ((V.ptr l1 q γ off).ren σ pre.length):=by rw[DI,e2];rfl
  refine⟨v.ren σ pre.length,l1+pre.length,q,σ γ,off,by rw[Fr.get_ren,e1];rfl,by rw[e2'];simp,?_⟩;have hv:((DQ true (st.fr.ren σ pre.length) (.tmp k.2.1)).bind fun v=>(A5 (st.s.emb σ pre) v).bind fun cs=>BJ P k.1 cs)=some (v.ren σ pre.length):=hv;rw[e2']at hv;simpa using hv
end Go.Pg
