/- A row that lies in a place is told as a list, once and for all: it is never written again. No program in sight. -/
import Derived.Test.YthhdhbalenanjaaGreatQa
noncomputable section
open Go renaming Oper->fw,Program->fx,TypeId->fc,World->fg,Value->fh
open Bool renaming and_eq_true->bj
open List renaming map_congr_left->bk,getElem?_eq_some_iff->bw,all_eq_true->bx,map_inj_left->bz,map_map->bb,getElem_map->bc,map_cons->bg,map_flatten->bh,getElem?_eq_getElem->bm,mem_map_of_mem->bn,mem_map->ck,mem_filterMap->cw,take_of_length_le->cx,eq_nil_iff_forall_not_mem->cz,replicate->cn,getElem?_modify->cp,length_drop->ct,append_cancel_left_eq->dj,length_erase_of_mem->dq,map->dv,length_replicate->dz,take_append_drop->df,mem_erase_of_ne->dl,nodup_cons->dm,mem_append->dn,getElem?_of_mem->dp,range->fj,cons->fk
open Nat renaming eq_of_beq_eq_true->bq,le_refl->bf,blt->bp,beq->cq,lt_or_ge->cd,beq_refl->cm,le_trans->dk,blt_eq->dw,zero_add->dc
open Array renaming getElem?_eq_some_iff->cj,getElem?_eq_none->cg
open Option renaming isNone_iff_eq_none->dx,map_some->db,map_eq_map->dg,map_eq_some_iff->dh,some->dr,bind_some->fq
open Prod renaming mk->dt
namespace Go.Pg
variable {P:fx}{σ σ':Nat->Nat}{δ:Nat}{pre:List AA}{s:St}{fr:Fr}{G G':Gh}{w:fg}
def BG(l k:Nat)(o:Option (Nat×AV)):Nat->V->V
 |0,v=>v
 |f+1,v=>match v with
  |.vec l' k' g m=>match o with
   |some (γ,.vec _ es)=>if l'=l/\k'=k/\g=γ/\m=es.length then .list false es else v
   |_=>v
  |.ptr l' k' g off=>match o with
   |some (γ,.box cs)=>if l'=l/\k'=k/\g=γ then .ref ((cs.map TA).drop off) else v
   |_=>v
  |.agg cs=>.agg (cs.map (BG l k o f))
  |.tup cs=>.tup (cs.map (BG l k o f))
  |v=>v
def KU(l k:Nat)(o:Option (Nat×AV)):AV->AV
 |.box cs=>.box (cs.map (BG l k o 3))
 |.vec T es=>.vec T (es.map (dv (BG l k o 3)))
 |r=>r
def QE(l k:Nat)(o:Option (Nat×AV))(fr:Fr):Fr:=fr.map fun x=>(x.1,x.2.1,BG l k o 3 x.2.2)
def F9(l k:Nat)(o:Option (Nat×AV)):AA->AA
 |[]=>[]
 |(j,g,r)::L=>if j=k then F9 l k o L else(j,g,KU l k o r)::F9 l k o L
def H2(k:Nat)(st:XS):XS:=⟨st.c,QE st.s.up.length k (st.s.loc.get k) st.fr,⟨st.s.up,F9 st.s.up.length k (st.s.loc.get k) st.s.loc⟩⟩
def TV(ks:List Nat)(st:XS):XS:=List.rec (motive:=fun _=>XS->XS) (fun st=>st) (fun k _ ih st=>ih (H2 k st)) ks st
theorem eL(l k:Nat)(o:Option (Nat×AV)):∀(fr:Fr) (j:Nat),(QE l k o fr).get j=(fr.get j).map fun x=>(x.1,BG l k o 3 x.2)
 |[],_=>rfl
 |(i,c,v)::fr,j=>by
  have ih:=eL l k o fr j;simp only[QE,bg,Fr.get]at ih|-;split
  ·rfl
  ·exact ih
theorem LQ(l k:Nat)(o:Option (Nat×AV)):∀(L:AA) (j:Nat),(F9 l k o L).get j=if j=k then none else(L.get j).map fun x=>(x.1,KU l k o x.2)
 |[],j=>by simp[F9]
 |(i,g,r)::L,j=>by
  have ih:=LQ l k o L j;unfold F9;by_cases h:i=k
  ·rw[if_pos h,ih];by_cases hj:j=k
   ·simp[hj]
   ·rw[if_neg hj,if_neg hj,AA.get,if_neg (by rw[h];exact hj)]
  ·rw[if_neg h];simp only[AA.get];by_cases hj:j=i
   ·subst hj;rw[if_pos rfl,if_pos rfl,if_neg h];rfl
   ·rw[if_neg hj,if_neg hj,ih]
def Q4(G G':Gh)(σ:Nat->Nat)(δ l k:Nat)(o:Option (Nat×AV)):Prop:=(∀γ T es,o=some (γ,.vec T es)->∀v,RepV G (.vec (l+δ) k (σ γ) es.length) v->RepV G' (.list false (es.map (dv (V.ren σ δ)))) v) /\
 ∀γ cs,o=some (γ,.box cs)->∀off v,RepV G (.ptr (l+δ) k (σ γ) off) v->RepV G' (.ref (((cs.map TA).drop off).map (V.ren σ δ))) v
theorem AEF(v:V):(TA v).ren σ δ=TA (v.ren σ δ):=by cases v<;>simp[TA]
theorem PH(cs:List V)(off:Nat):((cs.map TA).drop off).map (V.ren σ δ)=((cs.map (V.ren σ δ)).map TA).drop off:=by rw[List.map_drop,bb,bb];congr 1;exact bk fun v _=>AEF v
theorem eM{l k:Nat}{o:Option (Nat×AV)}:∀(f:Nat) (v:V),(v.ren σ δ).isCell=true->((BG l k o f v).ren σ δ).isCell=true
 |0,v,h=>h
 |f+1,v,h=>by
  cases v with
  |agg cs=>simp only[HJ]at h;cases h
  |tup cs=>simp only[KP]at h;cases h
  |vec l' k' g m=>
   simp only[BG]
   split
   ·split
    ·simp only[ES];rfl
    ·exact h
   ·exact h
  |ptr l' k' g off=>
   simp only[BG]
   split
   ·split
    ·simp only[MP];rfl
    ·exact h
   ·exact h
  |_=>exact h
theorem OQ{l k:Nat}{o:Option (Nat×AV)}(hle:G.le G')(ho:Q4 G G' σ δ l k o):∀(f:Nat) (x:V) (v:fh),RepV G (x.ren σ δ) v->RepV G' ((BG l k o f x).ren σ δ) v
 |0,x,v,h=>h.mono hle
 |f+1,x,v,h=>by
  have ih:=OQ hle ho f;cases x with
  |vec l' k' g m=>
   simp only[BG]
   split
   ·rename_i γ T es;split
    ·rename_i hc;obtain⟨rfl,rfl,rfl,rfl⟩:=hc;simp only[HL,ES]at h|-;exact ho.1 _ _ _ rfl v h
    ·exact h.mono hle
   ·exact h.mono hle
  |ptr l' k' g off=>
   simp only[BG]
   split
   ·rename_i γ cs;split
    ·rename_i hc;obtain⟨rfl,rfl,rfl⟩:=hc;simp only[HK,MP]at h|-;exact ho.2 _ _ rfl off v h
    ·exact h.mono hle
   ·exact h.mono hle
  |agg cs=>
   simp only[BG,HJ]at h|-
   cases h with
   |agg _ arr hl hc hr=>
    refine .agg _ arr (by simpa using hl) (fun c hc'=>?_) (fun i h1 h2=>?_)
    ·simp only[ck]at hc';obtain⟨d,⟨e,he,rfl⟩,rfl⟩:=hc';exact eM f e (hc _ (bn he))
    ·have h1':i<cs.length:=by simpa using h1
     have q:=hr i (by simpa using h1) h2;simp only[bc]at q|-;exact ih _ _ q
  |tup cs=>
   simp only[BG,KP]at h|-
   cases h with
   |tup _ arr hl hr=>
    refine .tup _ arr (by simpa using hl) (fun i h1 h2=>?_)
    have q:=hr i (by simpa using h1) h2
    simp only[bc]at q|-
    exact ih _ _ q
  |_=>exact h.mono hle
theorem aP{l k:Nat}{o:Option (Nat×AV)}(hle:G.le G')(ho:Q4 G G' σ δ l k o){cs:List V}{vs:List fh}(h:RepL G (cs.map (V.ren σ δ)) vs):RepL G' ((cs.map (BG l k o 3)).map (V.ren σ δ)) vs :=
 ⟨by simpa using h.1,fun i p q=>by
  have r:=h.2 i (by simpa using p) q;simp only[bc]at r |-;exact⟨eM 3 _ r.1,OQ hle ho 3 _ _ r.2⟩⟩
theorem yR{l k:Nat}{o:Option (Nat×AV)}(hle:G.le G')(ho:Q4 G G' σ δ l k o){g:Nat}{r:AV}(h:IP G g w (r.ren σ δ)):IP G' g w ((KU l k o r).ren σ δ):=by
 cases r with
 |box cs=>
  obtain⟨b,arr,T,h1,h2,h3⟩:=h
  exact⟨b,arr,T,by simpa using hle.2 _ _ h1,h2,aP hle ho h3⟩
 |vec T es=>
  obtain⟨b,sz,C,h1,h2,h3,h4,h5⟩:=h
  refine⟨b,sz,C,hle.2 _ _ h1,by simpa using h2,fun e he=>?_,⟨h4.1,fun h=>h4.2 (by simpa using h)⟩,fun hC=>?_⟩
  ·simp only[ck]at he;obtain⟨e1,⟨e2,he2,rfl⟩,rfl⟩:=he;have:=h3 (e2.map (V.ren σ δ)) (bn he2);simpa using this
  ·obtain⟨arr,h6,h7,h8⟩:=h5 hC;refine⟨arr,h6,h7,?_⟩;have q:RepL G (es.flatten.map (V.ren σ δ)) (arr.toList.take (es.length*sz)):=by rw[bh];simpa using h8
   have q2:=aP hle ho q;rw[bh,bh]at q2;simpa using q2
 |map es=>exact h.keep hle fun _ _=>rfl
 |loop fr ps asg body N st=>exact h.keep hle fun _ _=>rfl
 |dead=>trivial
theorem yS(G:Gh)(l k:Nat)(o:Option (Nat×AV))(g:Nat)(r:AV):BE G g ((KU l k o r).ren σ δ)=BE G g (r.ren σ δ):=by cases r<;>rfl
theorem AEG{k:Nat}{st:XS}{l j:Nat}{x:Nat×AV}(h:((H2 k st).s.emb σ pre).get l j=some x) :
  ¬(l=st.s.up.length+pre.length/\j=k)/\((st.s.emb σ pre).get l j=some x\/∃r,(st.s.emb σ pre).get l j=some (x.1,r.ren σ pre.length)/\x.2=(KU st.s.up.length k (st.s.loc.get k) r).ren σ pre.length):=by
 have hlen:(st.s.emb σ pre).up.length=st.s.up.length+pre.length:=by rw[DB]
 have hup:((H2 k st).s.emb σ pre).up=(st.s.emb σ pre).up:=rfl
 unfold St.get at h|-
 rw[hup]at h
 by_cases e:l=(st.s.emb σ pre).up.length
 ·rw[if_pos e]at h|-;have h':((F9 st.s.up.length k (st.s.loc.get k) st.s.loc).ren σ pre.length).get j=some x:=h;rw[AA.get_ren,LQ]at h';by_cases hj:j=k
  ·rw[if_pos hj]at h';cases h'
  ·rw[if_neg hj]at h';refine⟨fun hh=>hj hh.2,.inr ?_⟩;have hl:(st.s.emb σ pre).loc.get j=(st.s.loc.get j).map fun p=>(σ p.1,p.2.ren σ pre.length):=AA.get_ren _ _;rw[hl];cases hg:st.s.loc.get j with
   |none=>rw[hg]at h';cases h'
   |some y=>
    rw[hg]at h'
    obtain⟨g,r⟩:=y
    cases h'
    exact⟨r,rfl,rfl⟩
 ·rw[if_neg e]at h|-;exact⟨fun hh=>e (by rw[hlen];exact hh.1),.inl h⟩
theorem AEH{k:Nat}{st:XS}(hI:CR G (st.s.emb σ pre) w):∃G',G.le G'/\CR G' ((H2 k st).s.emb σ pre) w/\Q4 G G' σ pre.length st.s.up.length k (st.s.loc.get k):=by
 have hget:(st.s.emb σ pre).get (st.s.up.length+pre.length) k=(st.s.loc.get k).map fun p=>(σ p.1,p.2.ren σ pre.length):=by rw[B5];unfold St.get;rw[if_pos rfl]
 have main:∃G' s0,G.le G'/\CR G' s0 w/\(∀l j,¬(l=st.s.up.length+pre.length/\j=k)->s0.get l j=(st.s.emb σ pre).get l j)/\Q4 G G' σ pre.length st.s.up.length k (st.s.loc.get k):=by
  cases ho:st.s.loc.get k with
  |none=>exact⟨G,_,⟨fun _ _ h=>h,fun _ _ h=>h,rfl⟩,hI,fun _ _ _=>rfl,⟨fun γ T es h=>(by cases h),fun γ cs h=>(by cases h)⟩⟩
  |some x=>
   obtain⟨γ,r⟩:=x
   rw[ho]at hget
   cases r with
   |vec T es=>
    have hget:(st.s.emb σ pre).get (st.s.up.length+pre.length) k=some (σ γ,.vec T (es.map (dv (V.ren σ pre.length)))):=hget
    obtain⟨G',hle,hI',hs⟩:=hI.lockRow hget
    refine⟨G',_,hle,hI',fun l j hne=>?_,⟨fun γ' T' es' h v hv=>?_,fun γ cs h=>by cases h⟩⟩
    ·rw[St.get_put _ hget,if_neg hne]
    ·cases h;have:=ZM hI hle hget (m:=es.length) (by simp) hs hv;rwa [cx (by simp)]at this
   |box cs=>
    have hget:(st.s.emb σ pre).get (st.s.up.length+pre.length) k=some (σ γ,.box (cs.map (V.ren σ pre.length))):=hget
    obtain⟨G',hle,hI',hs⟩:=hI.lockBox hget
    refine⟨G',_,hle,hI',fun l j hne=>?_,⟨fun γ' T' es' h=>(by cases h),fun γ' cs' h off v hv=>?_⟩⟩
    ·rw[St.get_put _ hget,if_neg hne]
    ·cases h;rw[PH];exact kU hI hle hget hs hv
   |map cs=>exact⟨G,_,⟨fun _ _ h=>h,fun _ _ h=>h,rfl⟩,hI,fun _ _ _=>rfl,⟨fun γ T es h=>(by cases h),fun γ cs h=>(by cases h)⟩⟩
   |loop _ _ _ _ _ _=>exact⟨G,_,⟨fun _ _ h=>h,fun _ _ h=>h,rfl⟩,hI,fun _ _ _=>rfl,⟨fun γ T es h=>(by cases h),fun γ cs h=>(by cases h)⟩⟩
   |dead=>exact⟨G,_,⟨fun _ _ h=>h,fun _ _ h=>h,rfl⟩,hI,fun _ _ _=>rfl,⟨fun γ T es h=>(by cases h),fun γ cs h=>(by cases h)⟩⟩
 obtain⟨G',s0,hle,hI',hg,ht⟩:=main;refine⟨G',hle,?_,ht⟩;have look:∀{l j g r},((H2 k st).s.emb σ pre).get l j=some (g,r)->∃r0,s0.get l j=some (g,r0)/\IP G' g w r/\BE G' g r=BE G' g r0:=by
  intro l j g r h;obtain⟨hne,h1⟩:=AEG h;rw[hg _ _ hne];rcases h1 with h1|⟨r0,h1,h2⟩
  ·exact⟨r,h1,hI'.res l j g r (by rw[hg _ _ hne];exact h1),rfl⟩
  ·simp only at h1 h2;subst h2;exact⟨_,h1,yR hle ht (hI.res _ _ _ _ h1),yS _ _ _ _ _ _⟩
 refine⟨hI'.sl,fun l k g r h=>(by obtain⟨r0,_,h2,_⟩:=look h;exact h2),fun l k g r l' k' g' r' b h1 h2 h3 h4=>?_,fun l k g r b h1 h2=>?_,hI'.fresh,hI'.env⟩
 ·rcases look h1 with⟨r1,e1,_,o1⟩;rcases look h2 with⟨r2,e2,_,o2⟩;exact hI'.sep _ _ _ _ _ _ _ _ _ e1 e2 (o1▸h3) (o2▸h4)
 ·rcases look h1 with⟨r1,e1,_,o1⟩;exact hI'.out _ _ _ _ _ e1 (o1▸h2)
theorem aQ{n N:Nat}{ρ:Option Nat}{c:Code}{K:Exit->Fr->St->Prop}{k:Nat}{st:XS}(h:BC P n N ρ c K ((H2 k st).fr.ren σ pre.length) ((H2 k st).s.emb σ pre)):BC P n N ρ c K (st.fr.ren σ pre.length) (st.s.emb σ pre):=by
 intro G0 G a w hR;obtain⟨G',hle,hI',ht⟩:=AEH (k:=k) hR.inv;refine h G0 G' a w ⟨⟨fun _ _ h=>hle.1 _ _ (hR.le.1 _ _ h),fun _ _ h=>hle.2 _ _ (hR.le.2 _ _ h),hle.3.trans hR.le.3⟩,hI',fun j c v hj=>?_,hR.size,hR.lvl,?_⟩
 ·rw[Fr.get_ren]at hj;have hj':((QE st.s.up.length k (st.s.loc.get k) st.fr).get j).map (fun p=>(p.1,p.2.ren σ pre.length))=some (c,v):=hj;rw[eL]at hj';cases hg:st.fr.get j with
  |none=>rw[hg]at hj';cases hj'
  |some y=>
   rw[hg]at hj'
   obtain⟨c0,v0⟩:=y
   cases hj'
   obtain⟨x,q1,q2,q3⟩:=hR.fr j c0 (v0.ren σ pre.length) (by rw[Fr.get_ren,hg];rfl)
   exact⟨x,q1,fun hc=>OQ hle ht 3 _ _ (q2 hc),q3⟩
 ·obtain⟨rs,m1,m2,m3⟩:=hR.marks;exact⟨rs,m1,m2,fun r hr=>⟨(m3 r hr).1,hle.1 _ _ (m3 r hr).2⟩⟩
def TBd(c:Nat)(o:Option (Nat×AV)):Prop:=(∀γ T es,o=some (γ,.vec T es)->∀σ σ' δ,AO c σ σ'->es.map (dv (V.ren σ δ))=es.map (dv (V.ren σ' δ)))/\∀γ cs,o=some (γ,.box cs)->∀σ σ' δ,AO c σ σ'->cs.map (V.ren σ δ)=cs.map (V.ren σ' δ)
theorem gY{l k c:Nat}{o:Option (Nat×AV)}(ho:TBd c o){σ σ':Nat->Nat}{δ:Nat}(ha:AO c σ σ'):∀(f:Nat) (v:V),v.ren σ δ=v.ren σ' δ->(BG l k o f v).ren σ δ=(BG l k o f v).ren σ' δ
 |0,v,h=>h
 |f+1,v,h=>by
  have ih:=gY (l:=l) (k:=k) ho ha (δ:=δ) f;have lst:∀cs:List V,cs.map (V.ren σ δ)=cs.map (V.ren σ' δ)->(cs.map (BG l k o f)).map (V.ren σ δ)=(cs.map (BG l k o f)).map (V.ren σ' δ):=by intro cs h;simp only[bb];refine bk fun x hx=>?_;exact ih x (bz.1 h x hx)
  cases v with
  |vec l' k' g m=>
   simp only[BG]
   split
   ·split
    ·simp only[ES];rw[ho.1 _ _ _ rfl σ σ' δ ha]
    ·exact h
   ·exact h
  |ptr l' k' g off=>
   simp only[BG]
   split
   ·split
    ·simp only[MP];rw[PH,PH,ho.2 _ _ rfl σ σ' δ ha]
    ·exact h
   ·exact h
  |agg cs=>
   simp only[BG,HJ,V.agg.injEq]at h|-
   exact lst cs h
  |tup cs=>
   simp only[BG,KP,V.tup.injEq]at h|-
   exact lst cs h
  |_=>exact h
theorem AQU{c k γ:Nat}{T:fc}{es:List (List V)}{L:AA}(hL:∀σ σ' δ,AO c σ σ'->L.ren σ δ=L.ren σ' δ)(h:L.get k=some (γ,.vec T es)):∀σ σ' δ,AO c σ σ'->es.map (dv (V.ren σ δ))=es.map (dv (V.ren σ' δ)):=by
 intro σ σ' δ ha;have e1:(L.ren σ δ).get k=some (σ γ,.vec T (es.map (dv (V.ren σ δ)))):=by rw[AA.get_ren,h];rfl
 have e2:(L.ren σ' δ).get k=some (σ' γ,.vec T (es.map (dv (V.ren σ' δ)))):=by rw[AA.get_ren,h];rfl
 rw[hL σ σ' δ ha,e2]at e1;simp only[dr.injEq,dt.injEq,AV.vec.injEq]at e1;exact e1.2.2.symm
theorem AEI{st:XS}(h:Bd st):∀σ σ' δ,AO st.c σ σ'->st.s.loc.ren σ δ=st.s.loc.ren σ' δ:=by intro σ σ' δ ha;have q:=h.s σ σ' (cn δ []) ha;simp only[St.emb,St.mk.injEq,dz]at q;exact q.2
theorem AQV{c k γ:Nat}{cs:List V}{L:AA}(hL:∀σ σ' δ,AO c σ σ'->L.ren σ δ=L.ren σ' δ)(h:L.get k=some (γ,.box cs)):∀σ σ' δ,AO c σ σ'->cs.map (V.ren σ δ)=cs.map (V.ren σ' δ):=by
 intro σ σ' δ ha;have e1:(L.ren σ δ).get k=some (σ γ,.box (cs.map (V.ren σ δ))):=by rw[AA.get_ren,h];rfl
 have e2:(L.ren σ' δ).get k=some (σ' γ,.box (cs.map (V.ren σ' δ))):=by rw[AA.get_ren,h];rfl
 rw[hL σ σ' δ ha,e2]at e1;simp only[dr.injEq,dt.injEq,AV.box.injEq]at e1;exact e1.2.symm
theorem mM{l k c:Nat}{o:Option (Nat×AV)}(ho:TBd c o){σ σ':Nat->Nat}{δ:Nat}(ha:AO c σ σ'):∀(L:AA),L.ren σ δ=L.ren σ' δ->(F9 l k o L).ren σ δ=(F9 l k o L).ren σ' δ
 |[],_=>rfl
 |(j,g,r)::L,h=>by
  simp only[AA.ren,bg,fk.injEq,dt.injEq,true_and]at h;have ih:=mM (l:=l) (k:=k) ho ha L h.2;simp only[F9];split
  ·exact ih
  ·simp only[AA.ren,bg,fk.injEq,dt.injEq,true_and];refine⟨⟨h.1.1,?_⟩,ih⟩;have hr:=h.1.2;have lst:∀cs:List V,cs.map (V.ren σ δ)=cs.map (V.ren σ' δ)->(cs.map (BG l k o 3)).map (V.ren σ δ)=(cs.map (BG l k o 3)).map (V.ren σ' δ):=by intro cs h;simp only[bb];exact bk fun x hx=>gY ho ha 3 x (bz.1 h x hx)
   cases r with
   |box cs=>
    simp only[KU,AV.ren,AV.box.injEq]at hr|-
    exact lst cs hr
   |vec T es=>
    simp only[KU,AV.ren,AV.vec.injEq,true_and,bb]at hr|-
    refine bk fun e he=>?_
    exact lst e (bz.1 hr e he)
   |_=>exact hr
theorem eN{k:Nat}{st:XS}(h:Bd st):KI st (H2 k st):=by
 have ho:TBd st.c (st.s.loc.get k):=⟨fun γ T es hg=>AQU (AEI h) hg,fun γ cs hg=>AQV (AEI h) hg⟩;refine⟨bf _,⟨fun σ σ' δ ha=>?_,fun σ σ' pre ha=>?_,fun l j γ fr ps asg body N ls hg=>?_⟩,rfl⟩
 ·have q:=h.f σ σ' δ ha;simp only[H2,QE,Fr.ren,bb]at q|-;refine bk fun x hx=>?_;have:=bz.1 q x hx;simp only[dt.injEq,true_and]at this;simp only[Function.comp,dt.injEq,true_and];exact gY ho ha 3 _ this
 ·have q:=h.s σ σ' pre ha;simp only[St.emb,St.mk.injEq]at q;simp only[H2,St.emb,St.mk.injEq];exact⟨q.1,mM ho ha _ q.2⟩
 ·have hg':(H2 k st).s.get l j=some (γ,.loop fr ps asg body N ls):=hg;refine h.lp l j γ fr ps asg body N ls ?_;unfold St.get at hg'|-;have hup:(H2 k st).s.up=st.s.up:=rfl;rw[hup]at hg';split
  ·rename_i e;rw[if_pos e]at hg';have hg':(F9 st.s.up.length k (st.s.loc.get k) st.s.loc).get j=some (γ,.loop fr ps asg body N ls):=hg';rw[LQ]at hg';split at hg'
   ·cases hg'
   ·cases hq:st.s.loc.get j with
    |none=>rw[hq]at hg';cases hg'
    |some y=>
     rw[hq]at hg'
     obtain⟨g,r⟩:=y
     cases r with
     |loop _ _ _ _ _ _=>exact hg'
     |_=>simp[KU]at hg'
  ·rename_i e;rw[if_neg e]at hg';exact hg'
theorem uJ:∀(ks:List Nat) (st:XS),(TV ks st).c=st.c
 |[],_=>rfl
 |k::ks,st=>uJ ks (H2 k st)
theorem eO:∀(ks:List Nat) {st:XS},Bd st->KI st (TV ks st)
 |[],st,h=>⟨bf _,h,rfl⟩
 |k::ks,st,h=>by have h1:=eN (k:=k) h;have h2:=eO ks h1.bd;exact⟨dk h1.c h2.c,h2.bd,h2.n.trans h1.n⟩
theorem aR{n N:Nat}{ρ:Option Nat}{c:Code}{K:Exit->Fr->St->Prop}:∀(ks:List Nat) {st:XS},BC P n N ρ c K ((TV ks st).fr.ren σ pre.length) ((TV ks st).s.emb σ pre)->BC P n N ρ c K (st.fr.ren σ pre.length) (st.s.emb σ pre)
 |[],_,h=>h
 |k::ks,st,h=>aQ (k:=k) (aR ks (st:=H2 k st) h)
end Go.Pg
namespace Go.Pg
variable {P:fx}{σ σ':Nat->Nat}{δ:Nat}{pre:List AA}{s:St}{fr:Fr}{G G':Gh}{w:fg}
def H3(st:XS):List Nat->V->V
 |[],v=>v
 |k::ks,v=>H3 st ks (cond (bp k 10000) (BG st.s.up.length k (st.s.loc.get k) 3 v) (BG (k / 10000-1) (k % 10000) (st.s.get (k / 10000-1) (k % 10000)) 3 v))
def AEJ:V->Bool
 |.int ..=>true
 |.bool _=>true
 |_=>false
def aS:V->Bool
 |.int ..=>true
 |.bool _=>true
 |.agg cs=>cs.all AEJ
 |_=>false
def mN(cf:CF)(c0:CF0)(ks:List Nat):CF:=fun f args st=>match c0 f (args.map (H3 st ks))with
 |some r=>Bool.rec (cf f args st) (some (r,st)) (aS r)
 |none=>cf f args st
def cfU(ks:List Nat)(E:XE):XE:=match ks with
 |[]=>E
 |_::_=>⟨mN E.cf E.c0 ks,E.cy,E.c0,E.co,E.lit⟩
def cN(G:Gh)(w:fg):Gh:={ sl:=fun b=>w.heap[b]?,be:=G.be,env:=G.env }
def AJY(G:Gh)(w:fg):Gh:={ sl:=fun b=>w.heap[b]?,be:=G.be,env:=(w.os,w.output,w.heap.size) }
theorem gZ(hI:CR G s w):G.le (cN G w):=⟨hI.sl,fun _ _ h=>h,rfl⟩
theorem AEK:(cN G w).lec (AJY G w):=⟨fun _ _ _ _ h=>h,fun _ _ h=>h⟩
theorem AEL(hI:CR G s w):CR (AJY G w) ⟨[],[]⟩ w where
 sl _ _ h:=h
 res l k g r h:=by simp[St.get]at h
 sep l k g r l' k' g' r' b h:=by simp[St.get]at h
 out l k g r b h:=by simp[St.get]at h
 fresh:=hI.fresh
 env:=⟨rfl,rfl,bf _,fun b c T fz h1 h2=>by
  have h3:=(cj.1 h2).1;have h4:w.heap.size<=b:=h1;omega⟩
theorem AEM{l k g n:Nat}{v:fh}(h:RepV (cN G w) (.vec l k g n) v):RepV G (.vec l k g n) v:=by
 cases h with
 |vec _ _ _ _ b sz C a h1 h2 h3=>exact .vec _ _ _ _ b sz C a h1 h2 h3
theorem AEN{l k g n:Nat}{v:fh}(h:RepV (cN G w) (.ptr l k g n) v):RepV G (.ptr l k g n) v:=by
 cases h with
 |ptr _ _ _ _ b sz C h1=>exact .ptr _ _ _ _ b sz C h1
theorem K7{st:XS}(hI:CR G (st.s.emb σ pre) w)(l k:Nat):Q4 (cN G w) (cN G w) σ pre.length l k (st.s.get l k):=by
 refine⟨fun γ T es ho v hv=>?_,fun γ cs ho off v hv=>?_⟩
 ·have hget:(st.s.emb σ pre).get (l+pre.length) k=some (σ γ,.vec T (es.map (dv (V.ren σ pre.length)))):=by rw[B5,ho];rfl
  have:=ZM hI (gZ hI) hget (m:=es.length) (by simp) (fun _ _=>rfl) (AEM hv);rwa [cx (by simp)]at this
 ·have hget:(st.s.emb σ pre).get (l+pre.length) k=some (σ γ,.box (cs.map (V.ren σ pre.length))):=by rw[B5,ho];rfl
  rw[PH];exact kU hI (gZ hI) hget (fun _ _=>rfl) (AEN hv)
theorem qQ{st:XS}(hI:CR G (st.s.emb σ pre) w)(k:Nat):Q4 (cN G w) (cN G w) σ pre.length st.s.up.length k (st.s.loc.get k):=by have:=K7 hI st.s.up.length k;rwa [XI]at this
theorem VL{st:XS}(hI:CR G (st.s.emb σ pre) w):∀(ks:List Nat) (x:V) (v:fh),RepV (cN G w) (x.ren σ pre.length) v->RepV (cN G w) ((H3 st ks x).ren σ pre.length) v
 |[],_,_,h=>h
 |k::ks,x,v,h=>by
  unfold H3;cases bp k 10000 with
  |true=>exact VL hI ks _ v (OQ (Gh.le_refl _) (qQ hI k) 3 x v h)
  |false=>exact VL hI ks _ v (OQ (Gh.le_refl _) (K7 hI _ _) 3 x v h)
theorem AEO{s':St}{w':fg}(hI:CR G s w)(hle:(AJY G w).le G')(hI':CR G' s' w'):CR G s w':=by
 have he:G'.env=(w.os,w.output,w.heap.size):=hle.e;obtain⟨h1,h2,h3,h4⟩:=hI'.env;rw[he]at h1 h2 h3 h4;have hold:∀i,i<w.heap.size->w'.heap[i]? = w.heap[i]?:=fun i hi=>by have:=hI'.sl i w.heap[i] (hle.1 i _ (show w.heap[i]? = some w.heap[i] by simp[hi]));rw[this];simp[hi]
 obtain⟨e1,e2,e3,e4⟩:=hI.env;refine⟨fun b o h=>?_,fun l k g r h=>(hI.res l k g r h).keep (Gh.le_refl _) fun b hb=>hold b (hI.out _ _ _ _ _ h hb).2,hI.sep,fun l k g r b h hb=>⟨(hI.out _ _ _ _ _ h hb).1,Nat.lt_of_lt_of_le (hI.out _ _ _ _ _ h hb).2 h3⟩,hI.fresh,⟨h1.trans e1,h2.trans e2,dk e3 h3,fun b c T fz hb hc=>?_⟩⟩
 ·have h:=hI.sl b o h;rw[hold b (cj.1 h).1];exact h
 ·rcases cd b w.heap.size with hl|hl
  ·rw[hold b hl]at hc;exact e4 b c T fz hb hc
  ·exact h4 b c T fz hl hc
theorem AEP{r:V}{v:fh}(hf:aS r=true)(h:RepV G' r v):RepV G r v:=by
 cases r with
 |int k n=>cases h;exact .int _ _
 |bool b=>cases h;exact .bool _
 |agg cs=>
  cases h with
  |agg _ arr hl hc hr=>
   refine .agg _ arr hl hc fun i h1 h2=>?_
   have q:=hr i h1 h2
   have f:=bx.1 (show cs.all AEJ=true from hf) _ (List.getElem_mem h1)
   generalize cs[i]=c at *
   generalize arr[i]=z at *
   cases c with
   |int k n=>cases q;exact .int _ _
   |bool b=>cases q;exact .bool _
   |_=>cases f
 |_=>cases hf
theorem AEQ{cf:CF}(hcf:eC P cf){c0:CF0}(hc0:HN P c0)(ks:List Nat):eC P (mN cf c0 ks):=by
 intro f args st r st' hx hbd hargs;unfold mN at hx;split at hx
 ·rename_i r0 h0;cases hf:aS r0 with
  |false=>
   rw[hf]at hx
   exact hcf f args st r st' hx hbd hargs
  |true=>
   rw[hf]at hx
   cases hx
   obtain⟨hA,h1,h2⟩:=hc0 _ _ _ h0
   refine⟨⟨bf _,hbd,rfl⟩,fun σ σ' δ _=>by rw[h2,h2],rfl,fun σ pre K hk=>⟨(hA ⟨[],[]⟩).1,fun G vals w R hI ha hR=>?_⟩⟩
   refine(hA ⟨[],[]⟩).2 (AJY G w) vals w R (AEL hI) ?_ fun G' r' v w' s' hle hI' hv hlen hk'=>?_
   ·refine⟨by simpa using ha.1,fun i p q=>?_⟩;have hr:=ha.2 i (by simpa using p) q;simp only[bc]at hr|-;have h3:=VL hI ks _ _ (hr.mono (gZ hI));rw[h1 _ (bn (List.getElem_mem _))]at h3;exact h3.monoC AEK
   ·obtain⟨rfl,rfl⟩:=hk';have:=hk σ (AO.refl _ _);rw[h2]at this;exact hR G r' v w' _ (Gh.le_refl _) (AEO hI hle hI') (AEP hf hv) rfl this
 ·exact hcf f args st r st' hx hbd hargs
theorem AQW{E:XE}(h:J6 P E)(ks:List Nat):J6 P (cfU ks E):=by
 cases ks with
 |nil=>exact h
 |cons k ks=>exact⟨AEQ h.cf h.c0 _,h.cy,h.c0,h.co⟩
end Go.Pg
namespace Go.Pg
variable {P:fx}{σ σ':Nat->Nat}{δ:Nat}{pre:List AA}{s:St}{fr:Fr}{G G':Gh}{w:fg}{n k l d:Nat}
def J7(n k l d:Nat):Nat->V->V
 |0,v=>v
 |f+1,v=>match v with
  |.vec l' k' γ m=>if l'=n/\k'=k then .vec l d γ m else v
  |.ptr l' k' γ o=>if l'=n/\k'=k then .ptr l d γ o else v
  |.mp l' k' γ=>if l'=n/\k'=k then .mp l d γ else v
  |.agg cs=>.agg (cs.map (J7 n k l d f))
  |.tup cs=>.tup (cs.map (J7 n k l d f))
  |v=>v
def Q9(n k l d:Nat):AV->AV
 |.box cs=>.box (cs.map (J7 n k l d 3))
 |.vec T es=>.vec T (es.map (dv (J7 n k l d 3)))
 |r=>r
def uK(n k l d:Nat)(fr:Fr):Fr:=fr.map fun x=>(x.1,x.2.1,J7 n k l d 3 x.2.2)
def iY(n k l d:Nat):AA->AA
 |[]=>[]
 |(j,g,r)::L=>if j=k then iY n k l d L else(j,g,Q9 n k l d r)::iY n k l d L
def I0(u:Nat):AA->AA
 |[]=>[]
 |(j,x)::L=>if j=u then I0 u L else(j,x)::I0 u L
def yT(n k l d:Nat):List Nat->AA->AA
 |[],L=>L
 |u::us,L=>match L.get u with
  |some (g,r)=>(u,g,Q9 n k l d r)::yT n k l d us (I0 u L)
  |none=>yT n k l d us L
def uL(k l d:Nat)(us:List Nat)(s:St)(o:Option (Nat×AV)):St:=match o with
 |some (γ,r)=>St.put ⟨s.up.modify l (yT s.up.length k l d us),iY s.up.length k l d s.loc⟩ l d γ (Q9 s.up.length k l d r)
 |none=>s
def Q5(l n:Nat):Option (Nat×AV)->Bool
 |some (_,r)=>bp l n&&bQ r
 |none=>false
def cO(k l d:Nat)(us:List Nat)(st:XS):XS:=Bool.rec st ⟨st.c,uK st.s.up.length k l d st.fr,uL k l d us st.s (st.s.loc.get k)⟩ (Q5 l st.s.up.length (st.s.loc.get k))
theorem mO:∀(f:Nat) (v:V),(v.ren σ δ).isCell=true->((J7 n k l d f v).ren σ δ).isCell=true
 |0,v,h=>h
 |f+1,v,h=>by
  cases v with
  |agg cs=>simp only[HJ]at h;cases h
  |tup cs=>simp only[KP]at h;cases h
  |vec l' k' g m=>simp only[J7];split<;>(simp only[HL];rfl)
  |ptr l' k' g m=>simp only[J7];split<;>(simp only[HK];rfl)
  |mp l' k' g=>simp only[J7];split<;>(simp only[QY];rfl)
  |_=>exact h
theorem hH:∀(f:Nat) (x:V) (v:fh),RepV G (x.ren σ δ) v->RepV G ((J7 n k l d f x).ren σ δ) v
 |0,x,v,h=>h
 |f+1,x,v,h=>by
  have ih:=hH f;cases x with
  |vec l' k' g m=>
   simp only[J7]
   split
   ·simp only[HL]at h|-;cases h with
    |vec _ _ _ _ b sz C a h1 h2 h3=>exact .vec _ _ _ _ b sz C a h1 h2 h3
   ·exact h
  |ptr l' k' g o=>
   simp only[J7]
   split
   ·simp only[HK]at h|-;cases h with
    |ptr _ _ _ _ b sz C h1=>exact .ptr _ _ _ _ b sz C h1
   ·exact h
  |mp l' k' g=>
   simp only[J7]
   split
   ·simp only[QY]at h|-;cases h with
    |mp _ _ _ b sz C h1=>exact .mp _ _ _ b sz C h1
   ·exact h
  |agg cs=>
   simp only[J7,HJ]at h|-
   cases h with
   |agg _ arr hl hc hr=>
    refine .agg _ arr (by simpa using hl) (fun c hc'=>?_) (fun i h1 h2=>?_)
    ·simp only[ck]at hc';obtain⟨d',⟨e,he,rfl⟩,rfl⟩:=hc';exact mO f e (hc _ (bn he))
    ·have q:=hr i (by simpa using h1) h2;simp only[bc]at q|-;exact ih _ _ q
  |tup cs=>
   simp only[J7,KP]at h|-
   cases h with
   |tup _ arr hl hr=>
    refine .tup _ arr (by simpa using hl) (fun i h1 h2=>?_)
    have q:=hr i (by simpa using h1) h2
    simp only[bc]at q|-
    exact ih _ _ q
  |_=>exact h
theorem mP{cs:List V}{vs:List fh}(h:RepL G (cs.map (V.ren σ δ)) vs):RepL G ((cs.map (J7 n k l d 3)).map (V.ren σ δ)) vs :=
 ⟨by simpa using h.1,fun i p q=>by
  have r:=h.2 i (by simpa using p) q;simp only[bc]at r |-;exact⟨mO 3 _ r.1,hH 3 _ _ r.2⟩⟩
theorem uM{g:Nat}{r:AV}(h:IP G g w (r.ren σ δ)):IP G g w ((Q9 n k l d r).ren σ δ):=by
 cases r with
 |box cs=>
  obtain⟨b,arr,T,h1,h2,h3⟩:=h
  exact⟨b,arr,T,by simpa using h1,h2,mP h3⟩
 |vec T es=>
  obtain⟨b,sz,C,h1,h2,h3,h4,h5⟩:=h
  refine⟨b,sz,C,h1,by simpa using h2,fun e he=>?_,⟨h4.1,fun h=>h4.2 (by simpa using h)⟩,fun hC=>?_⟩
  ·simp only[ck]at he;obtain⟨e1,⟨e2,he2,rfl⟩,rfl⟩:=he;have:=h3 (e2.map (V.ren σ δ)) (bn he2);simpa using this
  ·obtain⟨arr,h6,h7,h8⟩:=h5 hC;refine⟨arr,h6,h7,?_⟩;have q:RepL G (es.flatten.map (V.ren σ δ)) (arr.toList.take (es.length*sz)):=by rw[bh];simpa using h8
   have q2:=mP (n:=n) (k:=k) (l:=l) (d:=d) q;rw[bh,bh]at q2;simpa using q2
 |map es=>exact h
 |loop fr ps asg body N st=>exact h
 |dead=>trivial
theorem uN(G:Gh)(g:Nat)(r:AV):BE G g ((Q9 n k l d r).ren σ δ)=BE G g (r.ren σ δ):=by cases r<;>rfl
theorem hJ:∀(fr:Fr) (j:Nat),(uK n k l d fr).get j=(fr.get j).map fun x=>(x.1,J7 n k l d 3 x.2)
 |[],_=>rfl
 |(i,c,v)::fr,j=>by
  have ih:=hJ fr j;simp only[uK,bg,Fr.get]at ih|-;split
  ·rfl
  ·exact ih
theorem uO:∀(L:AA) (j:Nat),(iY n k l d L).get j=if j=k then none else(L.get j).map fun x=>(x.1,Q9 n k l d x.2)
 |[],j=>by simp[iY]
 |(i,g,r)::L,j=>by
  have ih:=uO L j;unfold iY;by_cases h:i=k
  ·rw[if_pos h,ih];by_cases hj:j=k
   ·simp[hj]
   ·rw[if_neg hj,if_neg hj,AA.get,if_neg (by rw[h];exact hj)]
  ·rw[if_neg h];simp only[AA.get];by_cases hj:j=i
   ·subst hj;rw[if_pos rfl,if_pos rfl,if_neg h];rfl
   ·rw[if_neg hj,if_neg hj,ih]
theorem aT(u:Nat):∀(L:AA) (j:Nat),(I0 u L).get j=if j=u then none else L.get j
 |[],j=>by simp[I0,AA.get]
 |(q,x)::L,j=>by
  have ih:=aT u L j;unfold I0;by_cases h:q=u
  ·rw[if_pos h,ih];subst h;by_cases hj:j=q
   ·rw[if_pos hj,if_pos hj]
   ·rw[if_neg hj,if_neg hj];simp only[AA.get];rw[if_neg hj]
  ·rw[if_neg h];simp only[AA.get];by_cases hj:j=q
   ·subst hj;rw[if_pos rfl,if_neg h,if_pos rfl]
   ·rw[if_neg hj,if_neg hj,ih]
theorem iA:∀(us:List Nat) (L:AA) (j:Nat) (x:Nat×AV),(yT n k l d us L).get j=some x->L.get j=some x\/∃r,L.get j=some (x.1,r)/\x.2=Q9 n k l d r
 |[],L,j,x,h=>.inl h
 |u::us,L,j,x,h=>by
  unfold yT at h;split at h
  ·rename_i g r e;simp only[AA.get]at h;split at h
   ·rename_i e2;subst e2;cases h;exact .inr ⟨r,e,rfl⟩
   ·rename_i hne;have:=iA us _ j x h;rw[aT,if_neg hne]at this;exact this
  ·exact iA us L j x h
theorem qR{s:St}{l k γ:Nat}{r:AV}{l' k':Nat}{x:Nat×AV}(h:(s.put l k γ r).get l' k'=some x):(l'=l/\k'=k/\x=(γ,r))\/(¬(l'=l/\k'=k)/\s.get l' k'=some x):=by
 unfold St.put at h;unfold St.get at h|-;by_cases e1:l=s.up.length
 ·rw[if_pos e1]at h;by_cases e2:l'=s.up.length
  ·rw[if_pos e2]at h|-;rw[AA.get_put]at h;split at h
   ·rename_i e;exact .inl ⟨e2.trans e1.symm,e,(dr.inj h).symm⟩
   ·rename_i e;exact .inr ⟨fun hh=>e hh.2,h⟩
  ·rw[if_neg e2]at h|-;exact .inr ⟨fun hh=>e2 (hh.1.trans e1),h⟩
 ·rw[if_neg e1]at h;have hl:({ s with up:=s.up.modify l (fun L=>L.put k γ r) }:St).up.length=s.up.length:=by simp
  rw[hl]at h;by_cases e2:l'=s.up.length
  ·rw[if_pos e2]at h|-;exact .inr ⟨fun hh=>e1 (hh.1.symm.trans e2),h⟩
  ·rw[if_neg e2]at h|-;rw[cp]at h;cases hu:s.up[l']? with
   |none=>simp[hu]at h
   |some L=>
    rw[hu]at h
    simp only[dg,db]at h
    by_cases e3:l=l'
    ·simp only[e3,if_true,AA.get_put]at h;split at h
     ·rename_i e;exact .inl ⟨e3.symm,e,(dr.inj h).symm⟩
     ·rename_i e;exact .inr ⟨fun hh=>e hh.2,h⟩
    ·simp only[e3,if_false]at h;exact .inr ⟨fun hh=>e3 hh.1.symm,h⟩
theorem uP{us:List Nat}{γ:Nat}{r:AV}{l1 k1:Nat}{x:Nat×AV}(h:(uL k l d us s (some (γ,r))).get l1 k1=some x) :
  (l1=l/\k1=d/\x=(γ,Q9 s.up.length k l d r))\/(¬(l1=l/\k1=d)/\¬(l1=s.up.length/\k1=k)/\(s.get l1 k1=some x\/∃r0,s.get l1 k1=some (x.1,r0)/\x.2=Q9 s.up.length k l d r0)):=by
 rcases qR h with⟨h1,h2,h3⟩|⟨h1,h2⟩
 ·exact .inl ⟨h1,h2,h3⟩
 ·refine .inr ⟨h1,?_⟩;have hlen:(s.up.modify l (yT s.up.length k l d us)).length=s.up.length:=by simp
  unfold St.get at h2|-;simp only[hlen]at h2;by_cases e:l1=s.up.length
  ·rw[if_pos e]at h2|-;rw[uO]at h2;split at h2
   ·cases h2
   ·rename_i hk;refine⟨fun hh=>hk hh.2,.inr ?_⟩;obtain⟨y,hy,rfl⟩:=dh.1 h2;exact⟨y.2,hy,rfl⟩
  ·rw[if_neg e]at h2|-;refine⟨fun hh=>e hh.1,?_⟩;rw[cp]at h2;cases hu:s.up[l1]? with
   |none=>simp[hu]at h2
   |some L=>
    rw[hu]at h2
    simp only[dg,db]at h2|-
    by_cases e3:l=l1
    ·simp only[e3,if_true]at h2;rw[<-e3]at h2;exact iA us L k1 x h2
    ·simp only[e3,if_false]at h2;exact .inl h2
theorem AJZ{s s':St}{l1 k1:Nat}(h:l1<pre.length):(s.emb σ pre).get l1 k1=(s'.emb σ pre).get l1 k1:=by unfold St.get;rw[DB,DB,if_neg (by omega),if_neg (by omega)];simp only[St.emb,List.getElem?_append_left h]
theorem uQ{us:List Nat}{o:Option (Nat×AV)}:(uL k l d us s o).up.length=s.up.length:=by
 cases o with
 |none=>rfl
 |some x=>unfold uL;rw[St.put_len];simp
theorem AQX{us:List Nat}{γ:Nat}{r:AV}(hr:s.loc.get k=some (γ,r))(hI:CR G (s.emb σ pre) w):CR G ((uL k l d us s (some (γ,r))).emb σ pre) w:=by
 have look:∀{l1 k1 g r1},((uL k l d us s (some (γ,r))).emb σ pre).get l1 k1=some (g,r1)->∃l0 k0 r0,(s.emb σ pre).get l0 k0=some (g,r0)/\IP G g w r1/\BE G g r1=BE G g r0 /\
   ((l1=l+pre.length/\k1=d/\l0=s.up.length+pre.length/\k0=k)\/(¬(l1=l+pre.length/\k1=d)/\¬(l1=s.up.length+pre.length/\k1=k)/\l0=l1/\k0=k1)):=by
  intro l1 k1 g r1 h
  by_cases hp:l1<pre.length
  ·rw[AJZ (s':=s) hp]at h;exact⟨l1,k1,r1,h,hI.res _ _ _ _ h,rfl,.inr ⟨fun hh=>by omega,fun hh=>by omega,rfl,rfl⟩⟩
  ·obtain⟨l2,rfl⟩:∃l2,l1=l2+pre.length:=⟨l1-pre.length,by omega⟩;rw[B5]at h;obtain⟨⟨γ',r'⟩,h1,h2⟩:=dh.1 h;cases h2;rcases uP h1 with⟨rfl,rfl,e⟩|⟨e1,e2,e3⟩
   ·cases e;have h0:(s.emb σ pre).get (s.up.length+pre.length) k=some (σ γ,r.ren σ pre.length):=by rw[B5,XI,hr];rfl
    exact⟨_,_,_,h0,uM (hI.res _ _ _ _ h0),uN _ _ _,.inl ⟨rfl,rfl,rfl,rfl⟩⟩
   ·rcases e3 with e3|⟨r0,e3,rfl⟩
    ·have h0:(s.emb σ pre).get (l2+pre.length) k1=some (σ γ',r'.ren σ pre.length):=by rw[B5,e3];rfl
     exact⟨_,_,_,h0,hI.res _ _ _ _ h0,rfl,.inr ⟨fun hh=>e1 ⟨by omega,hh.2⟩,fun hh=>e2 ⟨by omega,hh.2⟩,rfl,rfl⟩⟩
    ·have h0:(s.emb σ pre).get (l2+pre.length) k1=some (σ γ',r0.ren σ pre.length):=by rw[B5,e3];rfl
     exact⟨_,_,_,h0,uM (hI.res _ _ _ _ h0),uN _ _ _,.inr ⟨fun hh=>e1 ⟨by omega,hh.2⟩,fun hh=>e2 ⟨by omega,hh.2⟩,rfl,rfl⟩⟩
 refine⟨hI.sl,fun l k g r h=>(by obtain⟨_,_,_,_,h2,_⟩:=look h;exact h2),fun l1 k1 g1 r1 l2 k2 g2 r2 b h1 h2 h3 h4=>?_,fun l1 k1 g1 r1 b h1 h2=>?_,hI.fresh,hI.env⟩
 ·obtain⟨a1,a2,a3,a4,_,a6,a7⟩:=look h1;obtain⟨b1,b2,b3,b4,_,b6,b7⟩:=look h2;have hs:=hI.sep _ _ _ _ _ _ _ _ _ a4 b4 (a6▸h3) (b6▸h4);rcases a7 with⟨c1,c2,c3,c4⟩|⟨c1,c2,c3,c4⟩<;>rcases b7 with⟨d1,d2,d3,d4⟩|⟨d1,d2,d3,d4⟩
  ·exact⟨c1.trans d1.symm,c2.trans d2.symm⟩
  ·exact(d2 ⟨d3.symm.trans (hs.1.symm.trans c3),d4.symm.trans (hs.2.symm.trans c4)⟩).elim
  ·exact(c2 ⟨c3.symm.trans (hs.1.trans d3),c4.symm.trans (hs.2.trans d4)⟩).elim
  ·exact⟨c3.symm.trans (hs.1.trans d3),c4.symm.trans (hs.2.trans d4)⟩
 ·obtain⟨a1,a2,a3,a4,_,a6,_⟩:=look h1;exact hI.out _ _ _ _ _ a4 (a6▸h2)
theorem AER{N:Nat}{ρ:Option Nat}{c:Code}{K:Exit->Fr->St->Prop}{us:List Nat}{m:Nat}{st:XS}(h:BC P m N ρ c K ((cO k l d us st).fr.ren σ pre.length) ((cO k l d us st).s.emb σ pre)):BC P m N ρ c K (st.fr.ren σ pre.length) (st.s.emb σ pre):=by
 unfold cO at h;cases ho:Q5 l st.s.up.length (st.s.loc.get k)with
 |false=>rw[ho]at h;exact h
 |true=>
  rw[ho]at h
  cases hr:st.s.loc.get k with
  |none=>rw[hr]at ho;cases ho
  |some x=>
   obtain⟨γ,r⟩:=x
   rw[hr]at ho h
   simp only[Q5,bj,dw]at ho
   intro G0 G a w hR
   refine h G0 G a w ⟨hR.le,AQX hr hR.inv,fun j c v hj=>?_,hR.size,?_,hR.marks⟩
   ·rw[Fr.get_ren]at hj;have hj':((uK st.s.up.length k l d st.fr).get j).map (fun p=>(p.1,p.2.ren σ pre.length))=some (c,v):=hj;rw[hJ]at hj';cases hg:st.fr.get j with
    |none=>rw[hg]at hj';cases hj'
    |some y=>
     rw[hg]at hj'
     obtain⟨c0,v0⟩:=y
     cases hj'
     obtain⟨x,q1,q2,q3⟩:=hR.fr j c0 (v0.ren σ pre.length) (by rw[Fr.get_ren,hg];rfl)
     exact⟨x,q1,fun hc=>hH 3 _ _ (q2 hc),q3⟩
   ·have:=hR.lvl;rw[DB]at this|-;show(uL k l d us st.s (some (γ,r))).up.length+_=_;rw[uQ];exact this
theorem qS:∀(f:Nat) (v:V),v.ren σ δ=v.ren σ' δ->(J7 n k l d f v).ren σ δ=(J7 n k l d f v).ren σ' δ
 |0,v,h=>h
 |f+1,v,h=>by
  have ih:=qS f;have lst:∀cs:List V,cs.map (V.ren σ δ)=cs.map (V.ren σ' δ)->(cs.map (J7 n k l d f)).map (V.ren σ δ)=(cs.map (J7 n k l d f)).map (V.ren σ' δ):=by intro cs h;simp only[bb];refine bk fun x hx=>?_;exact ih x (bz.1 h x hx)
  cases v with
  |vec l' k' g m=>
   simp only[J7]
   split
   ·simp only[HL,V.vec.injEq,true_and,and_true]at h|-;exact h
   ·exact h
  |ptr l' k' g o=>
   simp only[J7]
   split
   ·simp only[HK,V.ptr.injEq,true_and,and_true]at h|-;exact h
   ·exact h
  |mp l' k' g=>
   simp only[J7]
   split
   ·simp only[QY,V.mp.injEq,true_and]at h|-;exact h
   ·exact h
  |agg cs=>
   simp only[J7,HJ,V.agg.injEq]at h|-
   exact lst cs h
  |tup cs=>
   simp only[J7,KP,V.tup.injEq]at h|-
   exact lst cs h
  |_=>exact h
theorem qU{r:AV}(h:r.ren σ δ=r.ren σ' δ):(Q9 n k l d r).ren σ δ=(Q9 n k l d r).ren σ' δ:=by
 have lst:∀cs:List V,cs.map (V.ren σ δ)=cs.map (V.ren σ' δ)->(cs.map (J7 n k l d 3)).map (V.ren σ δ)=(cs.map (J7 n k l d 3)).map (V.ren σ' δ):=by intro cs h;simp only[bb];exact bk fun x hx=>qS 3 x (bz.1 h x hx)
 cases r with
 |box cs=>
  simp only[Q9,AV.ren,AV.box.injEq]at h|-
  exact lst cs h
 |vec T es=>
  simp only[Q9,AV.ren,AV.vec.injEq,true_and,bb]at h|-
  refine bk fun e he=>?_
  exact lst e (bz.1 h e he)
 |_=>exact h
theorem AES:∀(L:AA),L.ren σ δ=L.ren σ' δ->(iY n k l d L).ren σ δ=(iY n k l d L).ren σ' δ
 |[],_=>rfl
 |(j,g,r)::L,h=>by
  simp only[AA.ren,bg,fk.injEq,dt.injEq,true_and]at h;have ih:=AES L h.2;simp only[iY];split
  ·exact ih
  ·simp only[AA.ren,bg,fk.injEq,dt.injEq,true_and];exact⟨⟨h.1.1,qU h.1.2⟩,ih⟩
theorem AET{L:AA}(h:L.ren σ δ=L.ren σ' δ){k γ:Nat}{r:AV}(hg:L.get k=some (γ,r)):σ γ=σ' γ/\r.ren σ δ=r.ren σ' δ:=by
 have e1:(L.ren σ δ).get k=some (σ γ,r.ren σ δ):=by rw[AA.get_ren,hg];rfl
 have e2:(L.ren σ' δ).get k=some (σ' γ,r.ren σ' δ):=by rw[AA.get_ren,hg];rfl
 rw[h,e2]at e1;simp only[dr.injEq,dt.injEq]at e1;exact⟨e1.1.symm,e1.2.symm⟩
theorem aU(u:Nat):∀(L:AA),AA.ren σ δ (I0 u L)=I0 u (AA.ren σ δ L)
 |[]=>rfl
 |(q,g,r)::L=>by
  have ih:=aU u L;show AA.ren σ δ (I0 u ((q,g,r)::L))=I0 u ((q,σ g,r.ren σ δ)::AA.ren σ δ L);unfold I0;by_cases h:q=u
  ·rw[if_pos h,if_pos h,ih]
  ·rw[if_neg h,if_neg h,<-ih];rfl
theorem qV:∀(us:List Nat) (L:AA),L.ren σ δ=L.ren σ' δ->(yT n k l d us L).ren σ δ=(yT n k l d us L).ren σ' δ
 |[],_,h=>h
 |u::us,L,h=>by
  unfold yT;split
  ·rename_i g r e;obtain⟨h1,h2⟩:=AET h e;have ih:=qV us (I0 u L) (by rw[aU,aU,h]);simp only[AA.ren,bg,fk.injEq,dt.injEq,true_and];exact⟨⟨h1,qU h2⟩,ih⟩
  ·exact qV us L h
theorem AQY{us:List Nat}{γ:Nat}{r:AV}(hr:s.loc.get k=some (γ,r))(h:s.emb σ pre=s.emb σ' pre):(uL k l d us s (some (γ,r))).emb σ pre=(uL k l d us s (some (γ,r))).emb σ' pre:=by
 have h0:=h;simp only[St.emb,St.mk.injEq,dj]at h;obtain⟨h1,h2⟩:=AET h.2 hr;unfold uL;rw[CQ,CQ,h1,qU h2];congr 1;simp only[St.emb,St.mk.injEq,dj];refine⟨?_,AES _ h.2⟩;apply List.ext_getElem?;intro i;have hi:=congrArg (·[i]?) h.1;simp only[List.getElem?_map,cp]at hi|-;cases hu:s.up[i]? with
 |none=>rfl
 |some L=>
  rw[hu]at hi
  simp only[db,dr.injEq,dg]at hi|-
  split
  ·exact qV us L hi
  ·exact hi
theorem AJ0{us:List Nat}{st:XS}(h:Bd st):KI st (cO k l d us st):=by
 unfold cO;cases ho:Q5 l st.s.up.length (st.s.loc.get k)with
 |false=>exact⟨bf _,h,rfl⟩
 |true=>
  cases hr:st.s.loc.get k with
  |none=>rw[hr]at ho;cases ho
  |some x=>
   obtain⟨γ,r⟩:=x
   rw[hr]at ho
   simp only[Q5,bj,dw]at ho
   refine⟨bf _,⟨fun σ σ' δ ha=>?_,fun σ σ' pre ha=>AQY hr (h.s σ σ' pre ha),fun l1 k1 γ' fr ps asg body N ls hg=>?_⟩,uQ⟩
   ·have q:=h.f σ σ' δ ha;simp only[uK,Fr.ren,bb]at q|-;refine bk fun x hx=>?_;have:=bz.1 q x hx;simp only[dt.injEq,true_and]at this;simp only[Function.comp,dt.injEq,true_and];exact qS 3 _ this
   ·have nl:∀r0:AV,(AV.loop fr ps asg body N ls)=Q9 st.s.up.length k l d r0->r0=.loop fr ps asg body N ls:=by intro r0 e;cases r0<;>first|exact e.symm|cases e
    rcases uP hg with⟨_,_,e⟩|⟨_,_,e⟩
    ·have e2:AV.loop fr ps asg body N ls=Q9 st.s.up.length k l d r:=congrArg Prod.snd e;have:=nl r e2;subst this;exact absurd ho.2 (by simp[bQ])
    ·rcases e with e|⟨r0,e,e2⟩
     ·exact h.lp l1 k1 γ' fr ps asg body N ls e
     ·have:=nl r0 e2;subst this;exact h.lp l1 k1 γ' fr ps asg body N ls e
def qX(n:Nat)(o:Option (Nat×AV)):List Nat:=match o with
 |some (_,.vec _ es)=>es.filterMap fun e=>match e with
  |[.vec l k _ _]=>if l=n then some k else none
  |_=>none
 |_=>[]
def AEU(k:Nat)(st:XS):XS:=TV (qX st.s.up.length (st.s.loc.get k)) st
def LR(p:Nat)(st:XS):Nat:=match p with
 |0=>st.s.up.length-1
 |p+1=>match BL st.fr p with
  |some (true,.ptr l _ _ _)=>l
  |_=>0
def qY(B i:Nat)(st:XS):Nat:=match i with
 |0=>B
 |i+1=>match BL st.fr i with
  |some (true,.int _ n)=>B+n.toNat
  |_=>B
def mvX(k B i p u:Nat)(st:XS):XS:=cO k (LR p st) (qY B i st) (match u with|0=>[]|u+1=>[u]) st
def uR:V->V
 |.nil=>.list false []
 |v=>v
def wkR:AV->AV
 |.vec T es=>.vec T (es.map (dv uR))
 |.box cs=>.box (cs.map uR)
 |r=>r
def mQ(k:Nat):AA->AA
 |[]=>[]
 |(j,g,r)::L=>(j,g,if j=k then wkR r else r)::mQ k L
def wk1(k:Nat)(st:XS):XS:=⟨st.c,st.fr,⟨st.s.up,mQ k st.s.loc⟩⟩
theorem AJ1(v:V):(uR v).ren σ δ=uR (v.ren σ δ):=by cases v<;>simp[uR]
theorem mR(cs:List V):(cs.map uR).map (V.ren σ δ)=(cs.map (V.ren σ δ)).map uR:=by rw[bb,bb];exact bk fun v _=>AJ1 v
theorem AJ2(r:AV):(wkR r).ren σ δ=wkR (r.ren σ δ):=by
 cases r with
 |box cs=>simp only[wkR,AV.ren,mR]
 |vec T es=>
  simp only[wkR,AV.ren,bb,AV.vec.injEq,true_and]
  exact bk fun e _=>mR e
 |_=>rfl
theorem uS(k:Nat):∀L:AA,(mQ k L).ren σ δ=mQ k (L.ren σ δ)
 |[]=>rfl
 |(j,g,r)::L=>by
  have ih:=uS k L;simp only[AA.ren]at ih;simp only[mQ,AA.ren,bg,ih,fk.injEq,dt.injEq,true_and,and_true];split
  ·exact AJ2 r
  ·rfl
theorem uT(k:Nat):∀(L:AA) (j:Nat),(mQ k L).get j=if j=k then(L.get j).map (fun x=>(x.1,wkR x.2)) else L.get j
 |[],j=>by simp[mQ]
 |(i,g,r)::L,j=>by
  have ih:=uT k L j;simp only[mQ,AA.get];by_cases hj:j=i
  ·subst hj;rw[if_pos rfl,if_pos rfl];by_cases h:j=k
   ·rw[if_pos h,if_pos h];rfl
   ·rw[if_neg h,if_neg h]
  ·rw[if_neg hj,if_neg hj,ih]
theorem AEW{v:V}(h:v.isCell=true):(uR v).isCell=true:=by cases v<;>first|exact h|rfl
theorem AJ3{G:Gh}{x:V}{v:fh}(h:RepV G x v):RepV G (uR x) v:=by
 cases x with
 |nil=>exact h.empty
 |_=>exact h
theorem mS{G:Gh}{cs:List V}{vs:List fh}(h:RepL G cs vs):RepL G (cs.map uR) vs :=
 ⟨by simpa using h.1,fun i p q=>by
  have r:=h.2 i (by simpa using p) q;simp only[bc];exact⟨AEW r.1,AJ3 r.2⟩⟩
theorem AJ4{G:Gh}{w:fg}{g:Nat}{r:AV}(h:IP G g w r):IP G g w (wkR r):=by
 cases r with
 |box cs=>
  obtain⟨b,arr,T,h1,h2,h3⟩:=h
  exact⟨b,arr,T,by simpa using h1,h2,mS h3⟩
 |vec T es=>
  obtain⟨b,sz,C,h1,h2,h3,h4,h5⟩:=h
  refine⟨b,sz,C,h1,by simpa using h2,fun e he=>?_,⟨h4.1,fun h=>h4.2 (by simpa using h)⟩,fun hC=>?_⟩
  ·obtain⟨e2,he2,rfl⟩:=ck.1 he;simpa using h3 e2 he2
  ·obtain⟨arr,h6,h7,h8⟩:=h5 hC;refine⟨arr,h6,h7,?_⟩;have q:=mS h8;rw[bh]at q;simpa using q
 |_=>exact h
theorem AEX(G:Gh)(g:Nat)(r:AV):BE G g (wkR r)=BE G g r:=by cases r<;>rfl
theorem AEY{s:St}{k l j:Nat}{x:Nat×AV}(h:St.get ⟨s.up,mQ k s.loc⟩ l j=some x):∃r,s.get l j=some (x.1,r)/\(x.2=r\/x.2=wkR r):=by
 unfold St.get at h|-;split at h
 ·rename_i e;rw[if_pos e];have h:(mQ k s.loc).get j=some x:=h;rw[uT]at h;split at h
  ·cases hg:s.loc.get j with
   |none=>rw[hg]at h;cases h
   |some y=>rw[hg]at h;cases h;exact⟨_,rfl,.inr rfl⟩
  ·exact⟨_,h,.inl rfl⟩
 ·rename_i e;rw[if_neg e];exact⟨_,h,.inl rfl⟩
theorem AQZ{G:Gh}{s:St}{w:fg}{k:Nat}(hI:CR G s w):CR G ⟨s.up,mQ k s.loc⟩ w:=by
 have look:∀{l j g r},St.get ⟨s.up,mQ k s.loc⟩ l j=some (g,r)->∃r0,s.get l j=some (g,r0)/\IP G g w r/\BE G g r=BE G g r0:=by
  intro l j g r h;obtain⟨r0,h1,h2⟩:=AEY h;refine⟨r0,h1,?_⟩;have h3:=hI.res _ _ _ _ h1;rcases h2 with h2|h2
  ·simp only at h2;subst h2;exact⟨h3,rfl⟩
  ·simp only at h2;subst h2;exact⟨AJ4 h3,AEX _ _ _⟩
 refine⟨hI.sl,fun l k g r h=>(by obtain⟨r0,_,h2,_⟩:=look h;exact h2),fun l k g r l' k' g' r' b h1 h2 h3 h4=>?_,fun l k g r b h1 h2=>?_,hI.fresh,hI.env⟩
 ·rcases look h1 with⟨r1,e1,_,o1⟩;rcases look h2 with⟨r2,e2,_,o2⟩;exact hI.sep _ _ _ _ _ _ _ _ _ e1 e2 (o1▸h3) (o2▸h4)
 ·rcases look h1 with⟨r1,e1,_,o1⟩;exact hI.out _ _ _ _ _ e1 (o1▸h2)
theorem iB{k:Nat}{st:XS}:(wk1 k st).s.emb σ pre=⟨(st.s.emb σ pre).up,mQ k (st.s.emb σ pre).loc⟩:=by simp only[wk1,St.emb,uS]
theorem AEZ{m N:Nat}{ρ:Option Nat}{c:Code}{K:Exit->Fr->St->Prop}{k:Nat}{st:XS}(h:BC P m N ρ c K ((wk1 k st).fr.ren σ pre.length) ((wk1 k st).s.emb σ pre)):BC P m N ρ c K (st.fr.ren σ pre.length) (st.s.emb σ pre):=by intro G0 G a w hR;rw[iB]at h;exact h G0 G a w ⟨hR.le,AQZ hR.inv,hR.fr,hR.size,hR.lvl,hR.marks⟩
theorem AJ5{k:Nat}{st:XS}(h:Bd st):KI st (wk1 k st):=by
 refine⟨bf _,⟨h.f,fun σ σ' pre ha=>by rw[iB,iB,h.s σ σ' pre ha],fun l j γ fr ps asg body N ls hg=>?_⟩,rfl⟩;obtain⟨r,h1,h2⟩:=AEY (s:=st.s) hg;have e:r=.loop fr ps asg body N ls:=by
  rcases h2 with h2|h2
  ·exact h2.symm
  ·cases r<;>first|exact h2.symm|cases h2
 subst e;exact h.lp l j γ fr ps asg body N ls h1
def uU(k:Nat)(st:XS):XS:=Bool.rec (Bool.rec (Bool.rec (wk1 (k % 1000) st) (AEU (k % 1000) st) (bp k 2000000000000000))
 (mvX ((k-1000) % 1000) ((k-1000) / 1000 % 1000) ((k-1000) / 1000000 % 1000) ((k-1000) / 1000000000 % 1000) ((k-1000) / 1000000000000) st) (bp k 1000000000000000)) (H2 k st) (bp k 1000)
def LU(ks:List Nat)(st:XS):XS:=List.rec (motive:=fun _=>XS->XS) (fun st=>st) (fun k _ ih st=>ih (uU k st)) ks st
theorem A1S{us:List Nat}{st:XS}:(cO k l d us st).c=st.c:=by unfold cO;cases Q5 l st.s.up.length (st.s.loc.get k)<;>rfl
theorem A1T{k:Nat}{st:XS}:(uU k st).c=st.c:=by
 unfold uU;cases bp k 1000 with
 |true=>rfl
 |false=>cases bp k 1000000000000000 with
  |true=>exact A1S
  |false=>cases bp k 2000000000000000 with
   |true=>exact uJ _ _
   |false=>rfl
theorem AJ6{k:Nat}{st:XS}(h:Bd st):KI st (uU k st):=by
 unfold uU;cases bp k 1000 with
 |true=>exact eN h
 |false=>cases bp k 1000000000000000 with
  |true=>exact AJ0 h
  |false=>cases bp k 2000000000000000 with
   |true=>exact eO _ h
   |false=>exact AJ5 h
theorem AE0{m N:Nat}{ρ:Option Nat}{c:Code}{K:Exit->Fr->St->Prop}{k:Nat}{st:XS}(h:BC P m N ρ c K ((uU k st).fr.ren σ pre.length) ((uU k st).s.emb σ pre)):BC P m N ρ c K (st.fr.ren σ pre.length) (st.s.emb σ pre):=by
 unfold uU at h;cases h1:bp k 1000 with
 |true=>rw[h1]at h;exact aQ h
 |false=>
  rw[h1]at h
  cases h2:bp k 1000000000000000 with
  |true=>rw[h2]at h;exact AER h
  |false=>
   rw[h2]at h
   cases h3:bp k 2000000000000000 with
   |true=>rw[h3]at h;exact aR _ h
   |false=>rw[h3]at h;exact AEZ h
theorem AM2:∀(ks:List Nat) (st:XS),(LU ks st).c=st.c
 |[],_=>rfl
 |k::ks,st=>(AM2 ks (uU k st)).trans A1T
theorem uV:∀(ks:List Nat) {st:XS},Bd st->KI st (LU ks st)
 |[],st,h=>⟨bf _,h,rfl⟩
 |k::ks,st,h=>by have h1:=AJ6 (k:=k) h;have h2:=uV ks h1.bd;exact⟨dk h1.c h2.c,h2.bd,h2.n.trans h1.n⟩
theorem mT{m N:Nat}{ρ:Option Nat}{c:Code}{K:Exit->Fr->St->Prop}:∀(ks:List Nat) {st:XS},BC P m N ρ c K ((LU ks st).fr.ren σ pre.length) ((LU ks st).s.emb σ pre)->BC P m N ρ c K (st.fr.ren σ pre.length) (st.s.emb σ pre)
 |[],_,h=>h
 |k::ks,st,h=>AE0 (k:=k) (mT ks (st:=uU k st) h)
end Go.Pg
namespace Go.Pg
variable {P:fx}{n N:Nat}{ρ:Option Nat}{G0 G:Gh}{fr fr':Fr}{s s':St}{a:Act}{w:fg}{l:List fw}{gs:List (Option (Tmp×Bool))}{e:Nat}{σ σ':Nat->Nat}{δ:Nat}{pre:List AA}
def H4(P:fx)(l:List fw)(gs:List (Option (Tmp×Bool)))(e i:Nat)(fr:Fr)(s:St)(k:Fr->St->Prop):Prop:=match l[i]? with
 |some o=>if i=e then ∃f args,P0 fr (bP gs i)=some true/\IW true o fr=some (f,args)/\E3 P f args s fun r s'=>k (putD fr o.dst true r) s'
  else ∃v,P0 fr (bP gs i)=some true/\(∀s,FE P true o fr s=some v)/\k (putD fr o.dst true v) s
 |none=>False
def iC(P:fx)(l:List fw)(gs:List (Option (Tmp×Bool)))(e:Nat)(T:Array Bool->Fr->St->Prop):Nat->List Nat->Array Bool->Fr->St->Prop
 |0,_,listed,fr,s=>T listed fr s
 |m+1,R,listed,fr,s=>xV l listed≠[]/\∀j∈xV l listed,j∈R/\H4 P l gs e j fr s (iC P l gs e T m (R.erase j) (listed.setIfInBounds j true))
def KV(fr fr':Fr):Prop:=∀k,fr.get k=fr'.get k
theorem KV.same(h:KV fr fr'):F5 fr ⟨[],[]⟩ fr' ⟨[],[]⟩:=⟨h,fun _ _=>rfl,rfl⟩
theorem KV.putD(h:KV fr fr')(d:Option Tmp)(c:Bool)(v:V):KV (Pg.putD fr d c v) (Pg.putD fr' d c v):=(h.same.putD d c v).f
variable {T:Array Bool->Fr->St->Prop}
theorem mU{i:Nat}{k k':Fr->St->Prop}(h:H4 P l gs e i fr s k)(hf:KV fr fr')(hk:∀f1 f2 s1,KV f1 f2->k f1 s1->k' f2 s1):H4 P l gs e i fr' s k':=by
 unfold H4 at h|-;split
 ·rename_i o ho;simp only[ho]at h;split
  ·rename_i hi;rw[if_pos hi]at h;obtain⟨f,args,h1,h2,h3⟩:=h;exact⟨f,args,(hf.same.gd _).symm.trans h1,(GU fun x _=>(hf.same.rd x).symm).trans h2,h3.mono fun r s1=>hk _ _ _ (hf.putD _ _ _)⟩
  ·rename_i hi;rw[if_neg hi]at h;obtain⟨v,h1,h2,h3⟩:=h;exact⟨v,(hf.same.gd _).symm.trans h1,fun s1=>(GM fun x _=>(hf.same.rd x).symm).trans (h2 s1),hk _ _ _ (hf.putD _ _ _) h3⟩
 ·rename_i ho;simp only[ho]at h
theorem M0{i:Nat}{k k':Fr->St->Prop}(h:H4 P l gs e i fr s k)(hk:∀f1 s1,k f1 s1->k' f1 s1):H4 P l gs e i fr s k':=by
 unfold H4 at h|-;split
 ·rename_i o ho;simp only[ho]at h;split
  ·rename_i hi;rw[if_pos hi]at h;obtain⟨f,args,h1,h2,h3⟩:=h;exact⟨f,args,h1,h2,h3.mono fun r s1=>hk _ _⟩
  ·rename_i hi;rw[if_neg hi]at h;obtain⟨v,h1,h2,h3⟩:=h;exact⟨v,h1,h2,hk _ _ h3⟩
 ·rename_i ho;simp only[ho]at h
theorem aV(hT:∀listed fr fr' s,KV fr fr'->T listed fr s->T listed fr' s):∀(m:Nat) (R:List Nat) (listed:Array Bool) (fr fr':Fr) (s:St),KV fr fr'->iC P l gs e T m R listed fr s->iC P l gs e T m R listed fr' s
 |0,_,_,_,_,_,hs,h=>hT _ _ _ _ hs h
 |m+1,_,_,_,_,_,hs,h=>⟨h.1,fun j hj=>⟨(h.2 j hj).1,mU (h.2 j hj).2 hs fun _ _ _ h12 h'=>aV hT m _ _ _ _ _ h12 h'⟩⟩
theorem qZ{i j:Nat}{oi oj:fw}{k k':Fr->St->Prop}(hi:l[i]? = some oi)(hj:l[j]? = some oj)(hie:i≠e)(hij:GV oj (bP gs j) oi.dst)(hji:GV oi (bP gs i) oj.dst)(hne:∀d,oi.dst=some d->oj.dst≠some d)
  (h:H4 P l gs e i fr s fun f1 s1=>H4 P l gs e j f1 s1 k) (hk:∀f1 f2 s1,KV f1 f2->k f1 s1->k' f2 s1):H4 P l gs e j fr s fun f2 s2=>H4 P l gs e i f2 s2 k':=by
 have hcomm:∀(v v':V),KV (putD (putD fr oi.dst true v) oj.dst true v') (putD (putD fr oj.dst true v') oi.dst true v):=by
  intro v v' t;simp only[F6];by_cases e1:oj.dst=some t
  ·have:oi.dst≠some t:=fun e2=>hne t e2 e1;simp[e1,this]
  ·simp[e1]
 unfold H4 at h|-
 simp only[hi,hj,if_neg hie]at h|-
 obtain⟨v,g1,hv,h⟩:=h
 by_cases hje:j=e
 ·rw[if_pos hje]at h|-;obtain⟨f,args,g2,hc,h⟩:=h;exact⟨f,args,(hij.gd true v).symm.trans g2,(GU (hij.rd true v)).symm.trans hc,h.mono fun r s1 hk'=>⟨v,(hji.gd true r).trans g1,fun s2=>(GM (hji.rd true r)).trans (hv s2),hk _ _ _ (hcomm v r) hk'⟩⟩
 ·rw[if_neg hje]at h|-;obtain⟨u,g2,hu,h⟩:=h;exact⟨u,(hij.gd true v).symm.trans g2,fun s2=>(GM (hij.rd true v)).symm.trans (hu s2),v,(hji.gd true u).trans g1,fun s2=>(GM (hji.rd true u)).trans (hv s2),hk _ _ _ (hcomm v u) h⟩
structure uW(l:List fw)(gs:List (Option (Tmp×Bool)))(e i:Nat)(oi:fw)(B:List Nat)(R:List Nat)(listed:Array Bool):Prop where
 ready:i∈xV l listed
 mem:i∈R
 wait:∀b∈B,∃o,l[b]? = some o/\∃x∈o.after,Region.binds .any x=true/\(x.on=i\/x.on∈B)
 un:∀b∈B,listed.getD b true=false
 free:∀j oj,l[j]? = some oj->j≠i->j∉B->listed.getD j true=false->i≠e/\j∈R/\GV oj (bP gs j) oi.dst/\GV oi (bP gs i) oj.dst/\(∀d,oi.dst=some d->oj.dst≠some d)
theorem uW.blocked{i:Nat}{oi:fw}{B R:List Nat}{listed:Array Bool}(h:uW l gs e i oi B R listed){j:Nat}(hj:j∈xV l listed):j∉B:=by
 intro hb;obtain⟨_,o,ho,hall⟩:=mem_ready.1 hj;obtain⟨o',ho',x,hx,hbi,hon⟩:=h.wait j hb;have:o=o':=by simpa [ho']using ho.symm
 subst this;have h1:=hall x hx hbi;rcases hon with hon|hon
 ·rw[hon,XK (mem_ready.1 h.ready).1]at h1;cases h1
 ·rw[XK (h.un _ hon)]at h1;cases h1
theorem rA(hT:∀listed fr fr' s,KV fr fr'->T listed fr s->T listed fr' s){i:Nat}{oi:fw}{B:List Nat}(hi:l[i]? = some oi):∀(m:Nat) (R:List Nat) (listed:Array Bool) (fr:Fr) (s:St),
  uW l gs e i oi B R listed->R.length=m+1->R.Nodup->H4 P l gs e i fr s (iC P l gs e T m (R.erase i) (listed.setIfInBounds i true))->iC P l gs e T (m+1) R listed fr s:=by
 intro m
 induction m with
 |zero=>
  intro R listed fr s hF hlen _ h
  refine⟨fun e=>?_,fun j hj=>?_⟩
  ·have:=hF.ready;rw[e]at this;cases this
  ·by_cases hji:j=i
   ·subst hji;exact⟨hF.mem,h⟩
   ·obtain⟨hun,oj,hoj,_⟩:=mem_ready.1 hj;have hR:=(hF.free j oj (by simpa using hoj) hji (hF.blocked hj) hun).2.1;exfalso;obtain⟨x,rfl⟩:=List.length_eq_one_iff.1 hlen;have e1:=hF.mem;simp at e1 hR;exact hji (hR.trans e1.symm)
 |succ m ih=>
  intro R listed fr s hF hlen hnd h
  refine⟨fun e=>?_,fun j hj=>?_⟩
  ·have:=hF.ready;rw[e]at this;cases this
  ·by_cases hji:j=i
   ·subst hji;exact⟨hF.mem,h⟩
   ·obtain⟨hun,oj,hoj,_⟩:=mem_ready.1 hj;have hoj':l[j]? = some oj:=by simpa using hoj
    have hjB:=hF.blocked hj;obtain⟨hie,hjR,b1,b2,hne⟩:=hF.free j oj hoj' hji hjB hun;refine⟨hjR,?_⟩;have h1:H4 P l gs e i fr s fun f1 s1=>H4 P l gs e j f1 s1 (iC P l gs e T m ((R.erase i).erase j) ((listed.setIfInBounds i true).setIfInBounds j true)) :=
     M0 h fun f1 s1 h'=>(h'.2 j (ready_mono hj hji)).2
    have h2:=qZ hi hoj' hie b1 b2 hne h1 fun f1 f2 s1 h12 h'=>aV hT _ _ _ _ _ _ h12 h';refine M0 h2 fun f1 s1 h'=>?_;have hlt:j<listed.size:=by
     rcases cd j listed.size with h'|h'
     ·exact h'
     ·simp[cg h']at hun
    refine ih (R.erase j) (listed.setIfInBounds j true) f1 s1 ⟨ready_mono hF.ready (Ne.symm hji),(dl (Ne.symm hji)).2 hF.mem,hF.wait,fun b hb=>?_,fun k ok hk hki hkB hku=>?_⟩ ?_ (hnd.erase j) ?_
    ·rw[getD_set_ne true (fun e=>hjB (by rw[e];exact hb))];exact hF.un b hb
    ·have hkj:k≠j:=by intro e;subst e;simp[hlt]at hku
     rw[getD_set_ne true (Ne.symm hkj)]at hku;obtain⟨q0,q1,q2⟩:=hF.free k ok hk hki hkB hku;exact⟨q0,(dl hkj).2 q1,q2⟩
    ·rw[dq hjR,hlen];rfl
    ·rw[List.erase_comm,Array.setIfInBounds_comm _ _ hji];exact h'
def OR(P:fx)(l:List fw)(gs:List (Option (Tmp×Bool)))(e:Nat):List Nat->Fr->St->(Fr->St->Prop)->Prop
 |[],fr,s,K=>K fr s
 |i::r,fr,s,K=>H4 P l gs e i fr s fun fr s=>OR P l gs e r fr s K
theorem aW:∀(R:List Nat) (fr:Fr) (s:St) (k k':Fr->St->Prop),(∀f1 s1,k f1 s1->k' f1 s1)->OR P l gs e R fr s k->OR P l gs e R fr s k'
 |[],_,_,_,_,hk,h=>hk _ _ h
 |_::r,_,_,k,k',hk,h=>M0 h fun _ _ h'=>aW r _ _ k k' hk h'
def PhY(l:List fw)(gs:List (Option (Tmp×Bool)))(e:Nat):List Nat->Array Bool->Prop
 |[],_=>True
 |i::r,listed=>(∃oi B,l[i]? = some oi/\uW l gs e i oi B (i::r) listed)/\PhY l gs e r (listed.setIfInBounds i true)
theorem TW(hT:∀listed fr fr' s,KV fr fr'->T listed fr s->T listed fr' s):∀(R:List Nat) (listed:Array Bool) (fr:Fr) (s:St),R.Nodup->PhY l gs e R listed ->
  OR P l gs e R fr s (T (R.foldl (fun L i=>L.setIfInBounds i true) listed))->iC P l gs e T R.length R listed fr s
 |[],_,_,_,_,_,h=>h
 |i::r,listed,fr,s,hnd,hp,h=>by obtain⟨⟨oi,B,hi,hF⟩,hp⟩:=hp;refine rA hT hi r.length (i::r) listed fr s hF rfl hnd ?_;rw[List.erase_cons_head];exact M0 h fun f1 s1 h'=>TW hT r _ _ _ (dm.1 hnd).2 hp h'
theorem rC{o:fw}{f:FuncId}{args:List V}{k:Fr->St->Prop}(hc:IW true o fr=some (f,args))(h:E3 P f args s fun r s'=>k (putD fr o.dst true r) s'):EF P true o fr s k:=by
 unfold IW at hc;unfold EF;split at hc
 ·rename_i f' args' argTypes' ho;simp only[ho];split at hc
  ·rename_i fid first cap vs e1 e2;cases hc;simp only[e1,e2];exact .inl ⟨rfl,h⟩
  ·cases hc
 ·cases hc
theorem aX{K:Exit->Fr->St->Prop}(hN:LM N l=true)(hg:JI l gs l=true){t:Nat}(hT:∀listed fr s G a w,T listed fr s->I4 n N G0 G fr s a w->wpAnyIn (wf ρ) 0 P .any l.toArray (K1 n N G0 K) t listed a w) :
  ∀(m:Nat) (R:List Nat) (listed:Array Bool) (G:Gh) (fr:Fr) (s:St) (a:Act) (w:fg),I4 n N G0 G fr s a w->iC P l gs e T m R listed fr s->wpAnyIn (wf ρ) 0 P .any l.toArray (K1 n N G0 K) (m+t) listed a w
 |0,_,listed,G,fr,s,a,w,hR,h=>by rw[dc];exact hT _ _ _ _ _ _ h hR
 |m+1,R,listed,G,fr,s,a,w,hR,h=>by
  rw[Nat.add_right_comm];refine⟨fun h0=>absurd h0 h.1,fun j hj=>?_⟩;have h':=(h.2 j hj).2;unfold H4 at h';split at h'
  ·rename_i o ho;have main:P0 fr (bP gs j)=some true->P5 P true o fr s (iC P l gs e T m (R.erase j) (listed.setIfInBounds j true))->wpOpIn (wf ρ) 0 P l.toArray (K1 n N G0 K) j (wpAnyIn (wf ρ) 0 P .any l.toArray (K1 n N G0 K) (m+t) (listed.setIfInBounds j true)) a w:=fun hgd hst=>
    HI hR hN hg ho hgd hst fun G' a' w' fr' s' hR' hk=>aX hN hg hT m _ _ G' fr' s' a' w' hR' hk
   split at h'
   ·obtain⟨f,args,h1,h2,h3⟩:=h';exact main h1 (.inl (rC h2 h3))
   ·obtain⟨v,h1,h2,h3⟩:=h';exact main h1 (.inl (DL (Ω:=HG.nothing P) (.inl ⟨v,h2 s,h3⟩)))
  ·cases h'
def uX(l:List fw)(i j:Nat):Bool:=cq (Nat.land (dsM l i) (Nat.lor (lkM l j) (dsM l j))) 0&&cq (Nat.land (dsM l j) (lkM l i)) 0
theorem rD{i j:Nat}{oi oj:fw}(hi:l[i]? = some oi)(hj:l[j]? = some oj)(h:uX l i j=true) :
  (∀d,oi.dst=some d->d∉oj.looksAt l.toArray)/\(∀d,oi.dst=some d->oj.dst≠some d)/\(∀d,oj.dst=some d->d∉oi.looksAt l.toArray):=by
 unfold uX dsM lkM at h
 simp only[hi,hj,bj]at h
 obtain⟨h1,h2⟩:=h
 refine⟨fun d hd hm=>?_,fun d hd he=>?_,fun d hd hm=>?_⟩
 ·rw[hd]at h1;refine FO h1 (j:=d) (by rw[CJ];simp) ?_;rw[testBit_or,DH.2 hm];rfl
 ·rw[hd,he]at h1;refine FO h1 (j:=d) (by rw[CJ];simp) ?_;rw[testBit_or,CJ];simp
 ·rw[hd]at h2;exact FO h2 (j:=d) (by rw[CJ];simp) (DH.2 hm)
def AJ7(l:List fw)(tl:List Nat)(e:Nat):List Nat->Nat->Bool
 |[],_=>true
 |i::r,done=>HH (KO i (afL l 0) 0) fun B=>
  bp i l.length&&!(U6 done i)&&OE l i done&&cq (Nat.land B done) 0&&tl.all (U6 B)&&r.all (fun j=>U6 B j||(!(cq i e)&&uX l i j))&&HH (Nat.lor done (Nat.shiftLeft 1 i)) (AJ7 l tl e r)
theorem eP{tl:List Nat}(hg:JI l gs l=true):∀{R:List Nat} {done:Nat} {listed:Array Bool},KH l (R++tl) done listed->AJ7 l tl e R done=true->PhY l gs e R listed
 |[],_,_,_,_=>trivial
 |i::r,done,listed,hL,h=>by
  unfold AJ7 at h;rw[E4,E4]at h;simp only[bj,Bool.not_eq_true',bx,Bool.or_eq_true]at h;obtain⟨⟨⟨⟨⟨⟨h1,h2⟩,h3⟩,h4⟩,h5⟩,h6⟩,h7⟩:=h;have hi:i<l.length:=by simpa [dw]using h1
  have hw:=MO (l:=l) (i:=i) (js:=afL l 0) (B:=0) (fun p hp=>by
   obtain⟨k,o,e1,e2,e3⟩:=gK (j:=p.1) (m:=p.2) hp;exact⟨o,by rw[e1,dc]; exact e2,e3⟩) (fun b hb=>by simp at hb)
  generalize KO i (afL l 0) 0=B at *;have hb:∀b,b∈(fj l.length).filter (fun b=>B.testBit b)↔B.testBit b=true:=fun b=>by rw[List.mem_filter,List.mem_range];refine⟨fun h=>h.2,fun h=>⟨?_,h⟩⟩;obtain⟨o,ho,_⟩:=hw b h;exact(bw.1 ho).1
  refine⟨⟨l[i],(fj l.length).filter (fun b=>B.testBit b),bm hi,⟨hL.ready hi h2 h3,by simp,fun b hbm=>?_,fun b hbm=>?_,fun j oj hj hji hjB hun=>?_⟩⟩,eP hg (hL.next hi) h7⟩
  ·obtain⟨o,ho,x,he,hbi,hon⟩:=hw b ((hb b).1 hbm);exact⟨o,ho,x,he,hbi,hon.imp id fun h=>(hb _).2 h⟩
  ·have hbt:=(hb b).1 hbm;refine hL.un.2 ⟨?_,?_⟩
   ·obtain⟨o,ho,_⟩:=hw b hbt;exact(bw.1 ho).1
   ·cases hd:done.testBit b with
    |false=>rfl
    |true=>exact(FO h4 hbt hd).elim
  ·obtain⟨hlt,hdn⟩:=hL.un.1 hun;have hnb:B.testBit j=false:=by
    cases hd:B.testBit j with
    |false=>rfl
    |true=>exact absurd ((hb j).2 hd) hjB
   rcases dn.1 (hL.cov j hlt hdn)with hm|hm
   ·rcases List.mem_cons.1 hm with rfl|hr
    ·exact absurd rfl hji
    ·have hp:i≠e/\uX l i j=true:=by
      rcases h6 j hr with h6|h6
      ·rw[TI,hnb]at h6;cases h6
      ·refine⟨fun he=>?_,h6.2⟩;have:=h6.1;rw[he,cm]at this;cases this
     obtain⟨a1,a2,a3⟩:=rD (bm hi) hj hp.2;exact⟨hp.1,hm,TG (_x:=l[i]) a1 (MM hg hj),TG (_x:=oj) a3 (MM hg (bm hi)),a2⟩
   ·have:=h5 j hm;rw[TI,hnb]at this;cases this
abbrev cP:=List (List Nat×Nat)
def OS(S:cP):List Nat:=S.flatMap fun p=>p.1
def uY(l:List fw):cP->Nat->Bool
 |[],_=>true
 |(R,e)::S,done=>R.all (bp · l.length)&&Z2 R&&AJ7 l (OS S) e R done&&HH (ADS done R) (uY l S)
def iD(N:Nat)(gs:List (Option (Tmp×Bool)))(S:cP)(l:List fw):Bool :=
 LM N l&&JI l gs l&&uY l S 0&&cq (OS S).length l.length&&cq (M9 (OS S)) (2 ^ l.length-1)
def iE(P:fx)(l:List fw)(gs:List (Option (Tmp×Bool))):cP->Fr->St->(Fr->St->Prop)->Prop
 |[],fr,s,K=>K fr s
 |(R,e)::S,fr,s,K=>OR P l gs e R fr s fun fr s=>iE P l gs S fr s K
theorem I4.sameF(h:I4 n N G0 G fr s a w)(hs:KV fr fr'):I4 n N G0 G fr' s a w:=h.same ⟨hs,fun _ _=>rfl,rfl⟩
theorem TX{K:Exit->Fr->St->Prop}(hN:LM N l=true)(hg:JI l gs l=true):∀(S:cP) (done:Nat) (listed:Array Bool),KH l (OS S) done listed->uY l S done=true ->
  ∀(G:Gh) (fr:Fr) (s:St) (a:Act) (w:fg),I4 n N G0 G fr s a w->iE P l gs S fr s (K .normal)->wpAnyIn (wf ρ) 0 P .any l.toArray (K1 n N G0 K) (OS S).length listed a w
 |[],done,listed,hL,_,G,fr,s,a,w,hR,h=>by refine⟨cz.2 fun j hj=>?_,G,fr,s,hR,h⟩;obtain⟨h1,o,ho,_⟩:=mem_ready.1 hj;obtain⟨hlt,hdn⟩:=hL.un.1 h1;exact absurd (hL.cov j hlt hdn) (by simp[OS])
 |(R,e)::S,done,listed,hL,hM,G,fr,s,a,w,hR,h=>by
  unfold uY at hM;rw[E4]at hM;simp only[bj]at hM;obtain⟨⟨⟨h1,h2⟩,h3⟩,h4⟩:=hM;have hfl:OS ((R,e)::S)=R++OS S:=by simp[OS]
  rw[hfl]at hL;have hL1:=hL.fold (fun i hi=>by simpa [dw]using bx.1 h1 i hi);have hP:=eP hg hL h3;let T:Array Bool->Fr->St->Prop:=fun listed fr s=>∀G a w,I4 n N G0 G fr s a w->wpAnyIn (wf ρ) 0 P .any l.toArray (K1 n N G0 K) (OS S).length listed a w;have hw':OR P l gs e R fr s (T (R.foldl (fun L i=>L.setIfInBounds i true) listed)) :=
   aW R fr s _ _ (fun f1 s1 h' G a w hR=>TX hN hg S _ _ hL1 h4 G f1 s1 a w hR h') h
  have hA:=TW (T:=T) (fun listed f1 f2 s hs hT G a w hR=>hT G a w (hR.sameF fun k=>(hs k).symm)) R _ fr s (OG h2) hP hw';have hB:=aX (ρ:=ρ) (K:=K) hN hg (T:=T) (t:=(OS S).length) (fun listed f1 s1 G a w hT hR=>hT G a w hR) R.length R _ G fr s a _ hR hA;rw[hfl];simpa using hB
theorem rF{id:Nat}{K:Exit->Fr->St->Prop}(hm:P.follows .mixedOrders=true)(gs:List (Option (Tmp×Bool)))(S:cP)(hB:iD N gs S l=true)
  (h:iE P l gs S fr s (K .normal)):BC P n N ρ (.region id l.toArray true) K fr s:=by
 simp only[iD,bj]at hB
 obtain⟨⟨⟨⟨h1,h2⟩,h4⟩,h5⟩,h6⟩:=hB
 intro G0 G a w hR
 refine wpIn_region_any hm ?_
 have hR':I4 n N G0 G fr s a { w with drawn:=w.drawn+1 }:=⟨hR.le,hR.inv.drawn _,hR.fr,hR.size,hR.lvl,hR.marks⟩
 have:=TX (ρ:=ρ) (K:=K) h1 h2 S 0 _ (KH.start (l:=l) h6) h4 G fr s a _ hR' h
 rw[bq h5]at this
 simpa using this
def uZ(l:List fw):List Nat->List Nat->cP
 |[],left=>[(left,l.length)]
 |e::es,left=>(left.filter (fun i=>!(cq i e)&&!(es.any (cq i))&&!((e::es).any fun x=>U6 (KO x (afL l 0) 0) i))++[e],e)::uZ l es (left.filter fun i=>!(cq i e)&&(es.any (cq i)||(e::es).any fun x=>U6 (KO x (afL l 0) 0) i))
def AE1(l:List fw):cP:=uZ l ((fj l.length).filter fun i=>match l[i]? with
 |some o=>kC o
 | none=>false) (fj l.length)
def cY1(E:XE)(d:Option Tmp)(st:XS):Option V->Option (List V)->Option XS
 |some (.fn f first cap),some vs=>match E.cf f ((first++vs++cap).map weakV) st with
  |some (r,st')=>some ⟨st'.c,putD st'.fr d true r,st'.s⟩
  |none=>none
 |_,_=>none
def AQ0(E:XE)(o:fw)(st:XS):Option XS:=match o.op with
 |.call c=>match c.callee with
  |.value f=>cY1 E o.dst st (CK st.fr f) (FQ (CK st.fr) c.args.toList)
  |_=>none
 |_=>none
def AM3(st:XS):Option XS->Option XS
 |some st1=>some ⟨st.c,st1.fr,st.s⟩
 |none=>none
def AQ1(P:fx)(o:fw)(st:XS):Option XS:=AM3 st (cL P o ⟨st.c,st.fr,⟨[],[]⟩⟩)
def opY(P:fx)(E:XE)(l:List fw)(b:Bool)(o:fw)(st:XS):Option XS:=match gdX st.fr (K3 l o)with
 |some true=>Bool.rec (AQ1 P o st) (AQ0 E o st) b
 |_=>none
def phY(P:fx)(E:XE)(l:List fw)(e:Nat):List Nat->XS->Option XS
 |[],st=>some st
 |i::r,st=>match l[i]? with
  |some o=>match opY P E l (cq i e) o st with
   |some st'=>phY P E l e r st'
   |none=>none
  |none=>none
def AJ8(P:fx)(E:XE)(l:List fw):cP->XS->Option XS
 |[],st=>some st
 |p::S,st=>match phY P E l p.2 p.1 st with
  |some st1=>AJ8 P E l S st1
  |none=>none
def vA(P:fx)(E:XE)(N:Nat)(l:List fw)(st:XS):Option XS:=Bool.rec none (AJ8 P E l (AE1 l) st) (iD N (l.map (K3 l)) (AE1 l) l)
theorem yU(n l k:Nat):(⟨cn n [],[]⟩:St).get l k=none:=by
 unfold St.get;split
 ·rfl
 ·split
  ·rename_i L hL;simp only[List.getElem?_replicate]at hL;split at hL
   ·cases hL;rfl
   ·cases hL
  ·rfl
theorem AQ2{E:XE}(hEE:J6 P E){b:Bool}{o:fw}{st st':XS}(h:Bd st)(hx:opY P E l b o st=some st'):KI st st'/\(∀σ δ,P0 (st.fr.ren σ δ) (K3 l o)=some true) /\
  (b=true->∀(σ:Nat->Nat) (pre:List AA) (K:Fr->St->Prop),(∀σ',AO st.c σ σ'->K (st'.fr.ren σ' pre.length) (st'.s.emb σ' pre))->∃f args,IW true o (st.fr.ren σ pre.length)=some (f,args)/\E3 P f args (st.s.emb σ pre) fun r s'=>K (putD (st.fr.ren σ pre.length) o.dst true r) s') /\
  (b=false->∀(σ:Nat->Nat) (pre:List AA) (K:Fr->St->Prop),(∀σ',AO st.c σ σ'->K (st'.fr.ren σ' pre.length) (st'.s.emb σ' pre))->∃v,(∀s,FE P true o (st.fr.ren σ pre.length) s=some v)/\K (putD (st.fr.ren σ pre.length) o.dst true v) (st.s.emb σ pre)):=by
 unfold opY at hx
 split at hx
 ·rename_i hg;rw[qI]at hg;have hgd:∀σ δ,P0 (st.fr.ren σ δ) (K3 l o)=some true:=fun σ δ=>MX hg;cases b with
  |true=>
   have hx:AQ0 E o st=some st':=hx
   unfold AQ0 at hx
   split at hx
   ·rename_i c ho;split at hx
    ·rename_i f hc;unfold cY1 at hx;split at hx
     ·rename_i fid first cap vs hf hvs;split at hx
      ·rename_i r G6 hcall;cases hx;have hbf:=AD2 (h.rd hf);obtain⟨hE,hbr,hfr,hA⟩:=hEE.cf _ _ _ _ _ hcall h (fun v hv=>by
        obtain⟨u,hu,rfl⟩:=ck.1 hv;refine gR ?_;rcases dn.1 hu with hu|hu
        ·rcases dn.1 hu with hu|hu
         ·exact hbf.1 u hu
         ·exact XM h hvs u hu
        ·exact hbf.2 u hu)
       refine⟨⟨hE.c,hE.bd.putF hbr,hE.n⟩,hgd,fun _ σ pre K hk=>?_,fun h=>(by cases h)⟩;refine⟨fid,(((first++vs++cap).map weakV).map (V.ren σ pre.length)),?_,?_⟩
       ·rw[DY]at hf;rw[KT,E8]at hvs;unfold IW;obtain⟨cal,args,Ts⟩:=c;have hc:cal=.value f:=hc;subst hc;have hvs':args.toList.mapM (DQ true (st.fr.ren σ pre.length))=some (vs.map (V.ren σ pre.length)):=by rw[JJ];exact IX hvs
        simp only[ho,DI,hf,hvs',db,OJ];rw[HO];simp only[List.map_append]
       ·refine hA σ pre _ fun σ' ha=>?_;have:=hk σ' ha;rw[FG,hfr,<-h.f σ σ' pre.length ha]at this;exact this
      ·cases hx
     ·cases hx
    ·cases hx
   ·cases hx
  |false=>
   have hx:AQ1 P o st=some st':=hx
   unfold AQ1 AM3 at hx
   split at hx
   ·rename_i st1 h1;cases hx;unfold cL at h1;split at h1
    ·rename_i v hv;cases h1;have hv:=PG hv;have hb0:Bd (⟨st.c,st.fr,⟨[],[]⟩⟩:XS):=⟨h.f,fun σ σ' pre _=>rfl,fun l k γ fr ps asg body N ls hg=>by simp[St.get]at hg⟩;have hbv:UH st.c v:=hb0.val hv;refine⟨⟨bf _,h.putF hbv,rfl⟩,hgd,fun h=>(by cases h),fun _ σ pre K hk=>⟨v.ren σ pre.length,fun s=>?_,?_⟩⟩
     ·have q:=IY (σ:=σ) (pre:=cn pre.length []) hv;simp only[dz]at q;refine lG (fun l k x hx=>?_) q;have e0:(⟨[],[]⟩:St).emb σ (cn pre.length [])=⟨cn pre.length [],[]⟩:=by simp[St.emb,AA.ren]
      rw[e0,yU]at hx;cases hx
     ·have:=hk σ (AO.refl _ _);rw[FG]at this;exact this
    ·cases h1
   ·cases hx
 ·cases hx
theorem AE2{E:XE}(hEE:J6 P E):∀{R:List Nat} {st st':XS},Bd st->phY P E l e R st=some st'->KI st st' /\
  ∀(σ:Nat->Nat) (pre:List AA) (K:Fr->St->Prop),(∀σ',AO st.c σ σ'->K (st'.fr.ren σ' pre.length) (st'.s.emb σ' pre))->OR P l (l.map (K3 l)) e R (st.fr.ren σ pre.length) (st.s.emb σ pre) K
 |[],st,st',h,hx=>by cases hx;exact⟨⟨bf _,h,rfl⟩,fun σ pre K hk=>hk σ (AO.refl _ _)⟩
 |i::r,st,st',h,hx=>by
  simp only[phY]at hx;split at hx
  ·rename_i o ho;split at hx
   ·rename_i st1 h1;obtain⟨hE,hg,h2,h3⟩:=AQ2 hEE h h1;obtain⟨hE',hs'⟩:=AE2 hEE hE.bd hx;refine⟨⟨dk hE.c hE'.c,hE'.bd,hE'.n.trans hE.n⟩,fun σ pre K hk=>?_⟩;have hk1:∀σ',AO st.c σ σ'->OR P l (l.map (K3 l)) e r (st1.fr.ren σ' pre.length) (st1.s.emb σ' pre) K:=fun σ' ha=>hs' σ' pre K fun σ'' ha'=>hk σ'' (ha.trans ha' hE.c);simp only[OR,H4,ho,XN ho];by_cases hie:i=e
    ·rw[if_pos hie];obtain⟨f,args,q1,q2⟩:=h2 (by rw[hie];exact cm e) σ pre (fun fr s=>OR P l (l.map (K3 l)) e r fr s K) hk1;exact⟨f,args,hg _ _,q1,q2⟩
    ·rw[if_neg hie];obtain⟨v,q1,q2⟩:=h3 (by
      cases hb:cq i e with
      |false=>rfl
      | true=>exact absurd (bq hb) hie) σ pre (fun fr s=>OR P l (l.map (K3 l)) e r fr s K) hk1
     exact⟨v,hg _ _,q1,q2⟩
   ·cases hx
  ·cases hx
theorem vB{E:XE}(hEE:J6 P E):∀{S:cP} {st st':XS},Bd st->AJ8 P E l S st=some st'->KI st st' /\
  ∀(σ:Nat->Nat) (pre:List AA) (K:Fr->St->Prop),(∀σ',AO st.c σ σ'->K (st'.fr.ren σ' pre.length) (st'.s.emb σ' pre))->iE P l (l.map (K3 l)) S (st.fr.ren σ pre.length) (st.s.emb σ pre) K
 |[],st,st',h,hx=>by cases hx;exact⟨⟨bf _,h,rfl⟩,fun σ pre K hk=>hk σ (AO.refl _ _)⟩
 |p::S,st,st',h,hx=>by
  simp only[AJ8]at hx;split at hx
  ·rename_i st1 h1;obtain⟨hE,hs⟩:=AE2 hEE h h1;obtain⟨hE',hs'⟩:=vB hEE hE.bd hx;refine⟨⟨dk hE.c hE'.c,hE'.bd,hE'.n.trans hE.n⟩,fun σ pre K hk=>?_⟩;exact hs σ pre _ fun σ' ha=>hs' σ' pre K fun σ'' ha'=>hk σ'' (ha.trans ha' hE.c)
  ·cases hx
theorem AE3(hP:D6 P){E:XE}(hEE:J6 P E){id:Nat}{st st':XS}(hx:vA P E N l st=some st')(hbd:Bd st):KI st st' /\
  ∀(n:Nat) (ρ:Option Nat) (σ:Nat->Nat) (pre:List AA) (K:Exit->Fr->St->Prop),(∀σ',AO st.c σ σ'->K .normal (st'.fr.ren σ' pre.length) (st'.s.emb σ' pre))->BC P n N ρ (.region id l.toArray true) K (st.fr.ren σ pre.length) (st.s.emb σ pre):=by
 unfold vA at hx
 obtain⟨hok,hx⟩:=EH hx
 obtain⟨hE,hs⟩:=vB hEE hbd hx
 exact⟨hE,fun n ρ σ pre K hk=>rF hP.mixed (l.map (K3 l)) (AE1 l) hok (hs σ pre _ hk)⟩
end Go.Pg
namespace Go.Pg
variable {P:fx}{n N:Nat}{ρ:Option Nat}{G0 G:Gh}{fr fr':Fr}{s s':St}{a:Act}{w:fg}
def ldC(o:fw):Option (fc×Tmp×Tmp):=match o.op with
 |.load T (.tmp a)=>match o.dst with
  |some d=>some (T,a,d)
  |none=>none
 |_=>none
def IA(l:List fw):List (fc×Tmp×Tmp):=l.filterMap ldC
def AQ3(P:fx)(T:fc):Bool:=match P.underlying T with
 |some (.struct _)=>true
 |some (.array _ _)=>true
 |_=>cq (P.cellsOf T) 1
def A1U(all:List fw)(o:fw)(T:fc)(a d:Tmp):Bool:=o.after.toList.any fun e=>Region.binds .any e&&match all[e.on]? with
 |some p=>match ldC p with
  |some k=>cq k.1 T&&cq k.2.1 a&&cq k.2.2 d
  |none=>false
 |none=>false
def AE4(P:fx)(all:List fw)(ks:List (fc×Tmp×Tmp))(j:Nat)(o:fw):Bool :=
 (K3 all o).isNone&&(o.after.toList.all fun e=>!(Region.binds .any e)||bp e.on j)&&match o.op with
 |.load _ (.tmp a)=>o.dst.isSome&&ks.all (fun k=>!(cq k.2.2 a))
 |.store T (.tmp a) (.tmp d)=>o.dst.isNone&&ks.all (fun k=>!(cq k.2.2 a))&&bp 0 (P.cellsOf T)&&AQ3 P T&&A1U all o T a d
 |_=>false
def rG(P:fx)(all:List fw)(ks:List (fc×Tmp×Tmp)):List fw->Nat->Bool
 |[],_=>true
 |o::r,j=>AE4 P all ks j o&&rG P all ks r (j+1)
def AKA(l:List fw):Nat:=(l.filter kW).length
def W6(P:fx)(l:List fw):Bool:=bp 2 (AKA l)&&rG P l (IA l) l 0
theorem XO{all:List fw}{ks:List (fc×Tmp×Tmp)}:∀{l:List fw} {j:Nat},rG P all ks l j=true->∀{i:Nat} {o:fw},l[i]? = some o->AE4 P all ks (j+i) o=true
 |[],_,_,i,o,h=>by simp at h
 |p::r,j,hB,i,o,h=>by
  simp only[rG,bj]at hB;cases i with
  |zero=>simp at h;subst h;exact hB.1
  |succ i=>
   have:=XO hB.2 (i:=i) (o:=o) (by simpa using h)
   rwa [show j+1+i=j+(i+1) by omega]at this
theorem OT{o:fw}{k:fc×Tmp×Tmp}(h:ldC o=some k):o.op=.load k.1 (.tmp k.2.1)/\o.dst=some k.2.2:=by
 unfold ldC at h;split at h
 ·rename_i T a ho;split at h
  ·rename_i d hd;cases h;exact⟨ho,hd⟩
  ·cases h
 ·cases h
theorem mV{g:Bool}{t:Tmp}(h:fr'.get t=fr.get t):DQ g fr' (.tmp t)=DQ g fr (.tmp t):=by
 show(match fr'.get t with
  |some (c,v)=>if (!g||c)=true then some v else none
  | none=>none)=_
 rw[h];rfl
def A1V (T : fc) (x : Operand) : fw := { dst := none, op := .load T x, type := 0, pos := "", after := #[], guard := none }
def rH:Option V->Bool
 |some (.ptr ..)=>true
 |_=>false
def AQ4(P:fx)(k:fc×Tmp×Tmp):Option XS->Option XS
 | some st=>Bool.rec none (match NB P st.fr st.s k.1 (.tmp k.2.1)with
  |some v=>some ⟨st.c,putD st.fr (some k.2.2) true v,st.s⟩
  | none=>none) (rH (CK st.fr (.tmp k.2.1)))
 |none=>none
def Q6(P:fx):List (fc×Tmp×Tmp)->Option XS->Option XS
 |[],o=>o
 |k::r,o=>Q6 P r (AQ4 P k o)
theorem eQ:∀(ks:List (fc×Tmp×Tmp)),Q6 P ks none=none
 |[]=>rfl
 |_::r=>eQ r
def AQ5(P:fx)(fr frF:Fr)(s:St)(k:fc×Tmp×Tmp):Prop :=
 ∃v l q γ off,frF.get k.2.2=some (true,v)/\DQ true fr (.tmp k.2.1)=some (.ptr l q γ off)/\(A4 s (.ptr l q γ off)).bind (BF P k.1)=some v
theorem eR:∀(ks:List (fc×Tmp×Tmp)) {st st':XS},(∀k∈ks,∀k'∈ks,k.2.2≠k'.2.1)->(ks.map (·.2.2)).Nodup->Bd st->Q6 P ks (some st)=some st' ->
  Bd st'/\st'.c=st.c/\st'.s=st.s/\(∀t,(∀k∈ks,k.2.2≠t)->st'.fr.get t=st.fr.get t)/\∀k∈ks,AQ5 P st.fr st'.fr st.s k
 |[],st,st',_,_,hb,h=>by cases h;exact⟨hb,rfl,rfl,fun _ _=>rfl,fun k hk=>by cases hk⟩
 |k::r,st,st',h1,h2,hb,h=>by
  simp only[Q6]at h;cases hs:AQ4 P k (some st)with
  |none=>rw[hs,eQ]at h;cases h
  |some st1=>
   rw[hs]at h
   unfold AQ4 at hs
   simp only at hs
   cases hp:rH (CK st.fr (.tmp k.2.1))with
   |false=>rw[hp]at hs;cases hs
   |true=>
   rw[hp]at hs
   simp only at hs
   split at hs
   ·rename_i v hv;have hl:FE P true (A1V k.1 (.tmp k.2.1)) st.fr st.s=some v:=by
     unfold NB at hv;rw[DY]at hv;show((DQ true st.fr (.tmp k.2.1)).bind fun v=>(A4 st.s v).bind fun cs=>BF P k.1 cs)=some v;revert hv;cases DQ true st.fr (.tmp k.2.1)with
     |none=>intro hv;cases hv
     |some p=>
      simp only[fq]
      cases A4 st.s p with
      |none=>intro hv;cases hv
      |some cs=>exact fun hv=>hv
    have hbv:=hb.val hl;cases hs;have hb1:Bd ({ st with fr:=putD st.fr (some k.2.2) true v }:XS):=hb.putF hbv;simp only[bg,dm]at h2;obtain⟨b1,b2,b3,b4,b5⟩:=eR r (fun x hx y hy=>h1 x (by simp[hx]) y (by simp[hy])) h2.2 hb1 h;refine⟨b1,b2,b3,fun t ht=>?_,fun x hx=>?_⟩
    ·rw[b4 t fun x hx=>ht x (by simp[hx])];show(putD st.fr (some k.2.2) true v).get t=_;rw[F6,if_neg (fun e=>ht k (by simp) (by simpa using e))]
    ·rcases List.mem_cons.1 hx with rfl|hx
     ·unfold rH at hp;rw[DY]at hp;split at hp
      ·rename_i l q γ off hr;refine⟨v,l,q,γ,off,?_,hr,?_⟩
       ·rw[b4 x.2.2 fun y hy e=>h2.1 (ck.2 ⟨y,hy,e⟩)];show(putD st.fr (some x.2.2) true v).get x.2.2=_;rw[F6,if_pos rfl]
       ·have hl:((DQ true st.fr (.tmp x.2.1)).bind fun v=>(A4 st.s v).bind fun cs=>BF P x.1 cs)=some v:=hl;rw[hr]at hl;exact hl
      ·cases hp
     ·obtain⟨v',l,q,γ,off,c1,c2,c3⟩:=b5 x hx;refine⟨v',l,q,γ,off,c1,?_,c3⟩;have:DQ true (putD st.fr (some k.2.2) true v) (.tmp x.2.1)=DQ true st.fr (.tmp x.2.1):=mV (by
       rw[F6,if_neg (fun e=>h1 k (by simp) x (by simp[hx]) (by simpa using e))])
      rw[<-this];exact c2
   ·cases hs
theorem mW{T:fc}{cs:List V}{v:V}(h:BF P T cs=some v)(h1:AQ3 P T=true)(hc:∀x∈cs,x.isCell=true):A9 v=true/\A7 v=cs.take (P.cellsOf T)/\P.cellsOf T<=cs.length:=by
 have one:P.cellsOf T=1->cs[0]? = some v->A9 v=true/\A7 v=cs.take (P.cellsOf T)/\P.cellsOf T<=cs.length:=fun e h=>by
  cases cs with
  |nil=>cases h
  |cons c cs=>
   simp only[List.getElem?_cons_zero,dr.injEq]at h
   subst h
   have hi:=hc c (by simp)
   rw[e]
   refine⟨?_,?_,by simp⟩
   ·cases c<;>first|rfl|cases hi
   ·cases c<;>first|rfl|cases hi
 unfold BF at h;unfold AQ3 at h1;split at h
 ·split at h
  ·rename_i hle;cases h;exact⟨rfl,rfl,hle⟩
  ·cases h
 ·split at h
  ·rename_i hle;cases h;exact⟨rfl,rfl,hle⟩
  ·cases h
 ·rename_i g1 g2 hu;split at h1
  ·rename_i fs e;rw[hu]at e;cases e;exact(g1 _ rfl).elim
  ·rename_i m x e;rw[hu]at e;cases e;exact(g2 _ _ rfl).elim
  ·exact one (bq h1) h
 ·cases h
theorem mX{α:Type}(cs:List α)(off m:Nat):AZ cs off ((cs.drop off).take m)=cs:=by
 unfold AZ;rw[List.length_take,ct,List.append_assoc];have:(cs.drop off).take m++cs.drop (off+min m (cs.length-off))=cs.drop off:=by
  rw[<-List.drop_drop];have e:min m (cs.length-off)=min m (cs.drop off).length:=by rw[ct]
  rw[e];generalize cs.drop off=ds;by_cases h:m<=ds.length
  ·rw[Nat.min_eq_left h,df]
  ·rw[Nat.min_eq_right (by omega),List.drop_length,cx (by omega),List.append_nil]
 rw[this,df]
structure A1W(l:List fw)(fr frF:Fr)(s:St)(listed:Array Bool)(fr':Fr)(s':St):Prop where
 o:∀t,(∀k∈IA l,k.2.2≠t)->fr'.get t=fr.get t
 d:∀j o k,l[j]? = some o->ldC o=some k->listed.getD j true=true->fr'.get k.2.2=frF.get k.2.2
 p:∀i k,s'.get i k=s.get i k
 n:s'.up.length=s.up.length
theorem yV{listed:Array Bool}{i:Nat}:(listed.setIfInBounds i true).getD i true=true:=by
 rcases cd i listed.size with h|h
 ·simp[h]
 ·simp
theorem AKB{l:List fw}{K:Exit->Fr->St->Prop}(hN:LM N l=true)(hg:JI l (l.map (K3 l)) l=true)(hD:xW l)(hC:rG P l (IA l) l 0=true){frF:Fr}
  (h1:∀t,(∀k∈IA l,k.2.2≠t)->frF.get t=fr.get t) (h2:∀k∈IA l,AQ5 P fr frF s k) (hK:K .normal frF s) :
  ∀(R:List Nat) (listed:Array Bool) (G:Gh) (fr':Fr) (s':St) (a:Act) (w:fg),R.Nodup->(∀j,j∈R↔j<l.length/\listed.getD j true=false)->A1W l fr frF s listed fr' s'->I4 n N G0 G fr' s' a w ->
   wpAnyIn (wf ρ) 0 P .any l.toArray (K1 n N G0 K) R.length listed a w:=by
 have mem:∀{j:Nat} {o:fw} {k:fc×Tmp×Tmp},l[j]? = some o->ldC o=some k->k∈IA l:=fun hj hk=>cw.2 ⟨_,List.mem_of_getElem? hj,hk⟩
 intro R
 induction hm:R.length generalizing R with
 |zero=>
  intro listed G fr' s' a w hnd hR hI hrel
  have e:R=[]:=List.eq_nil_of_length_eq_zero hm
  subst e
  refine⟨?_,G,frF,s,hrel.same ⟨fun t=>?_,hI.p,hI.n⟩,hK⟩
  ·refine cz.2 fun j hj=>?_;obtain⟨q1,o,ho,_⟩:=mem_ready.1 hj;have:=(hR j).2 ⟨by
    have:=(cj.1 ho).1;simpa using this,q1⟩
   cases this
  ·by_cases ht:∀k∈IA l,k.2.2≠t
   ·rw[hI.o t ht,h1 t ht]
   ·have⟨k,hk,e⟩:∃k∈IA l,k.2.2=t:=Classical.byContradiction fun hn=>ht fun k hk e=>hn ⟨k,hk,e⟩;obtain⟨o,ho,hk⟩:=cw.1 hk;obtain⟨j,hj⟩:=dp ho;rw[<-e];refine hI.d j o k hj hk ?_;cases hl:listed.getD j true with
    |true=>rfl
    |false=>exact absurd ((hR j).2 ⟨(bw.1 hj).1,hl⟩) (by simp)
 |succ m ih=>
  intro listed G fr' s' a w hnd hR hI hrel
  refine⟨fun h0=>?_,fun i hi=>?_⟩
  ·exfalso;have hex:∃j,j∈R:=by
    cases R with
    |nil=>simp at hm
    |cons x R=>exact⟨x,by simp⟩
   obtain⟨j0,hj0⟩:=hex;have least:∀d j,j<=d->j∈R->∃j∈R,∀i,i<j->i∉R:=by
    intro d;induction d with
    |zero=>intro j hj hm;exact⟨j,hm,fun i hi=>by omega⟩
    |succ d ihd=>
     intro j hj hm
     by_cases hx:∃i,i<j/\i∈R
     ·obtain⟨i,hi,hi2⟩:=hx;exact ihd i (by omega) hi2
     ·exact⟨j,hm,fun i hi hi2=>hx ⟨i,hi,hi2⟩⟩
   obtain⟨j,hj,hmin⟩:=least j0 j0 (bf _) hj0;obtain⟨q1,q2⟩:=(hR j).1 hj;have ho:l[j]? = some l[j]:=bm q1;have hc:=XO hC ho;rw[dc]at hc;simp only[AE4,bj,bx]at hc;have:j∈Region.ready .any l.toArray listed:=mem_ready.2 ⟨q2,l[j],by simp,fun e he hb=>by
    have hlt:=hc.1.2 e (by simpa using he);rw[hb]at hlt;have hlt:e.on<j:=by simpa [dw]using hlt
    have hni:=hmin e.on hlt;cases hd:listed.getD e.on false with
    |true=>rfl
    |false=>
     refine absurd ((hR e.on).2 ⟨by omega,?_⟩) hni
     rcases cd e.on listed.size with h'|h'
     ·simp[h']at hd|-;exact hd
     ·exfalso;rcases cd j listed.size with h''|h''
      ·omega
      ·simp[cg h'']at q2⟩
   rw[h0]at this;cases this
  ·obtain⟨q1,o,ho,hwait⟩:=mem_ready.1 hi;have ho:l[i]? = some o:=by simpa using ho
   have hil:i<l.length:=(bw.1 ho).1;have hiR:i∈R:=(hR i).2 ⟨hil,q1⟩;have hc:=XO hC ho;rw[dc]at hc;simp only[AE4,bj,bx]at hc;obtain⟨⟨c1,_⟩,c3⟩:=hc;have hgn:bP (l.map (K3 l)) i=none:=by rw[XN ho];exact dx.1 c1
   have hgd:P0 fr' (bP (l.map (K3 l)) i)=some true:=by rw[hgn];rfl
   have hlen:(R.erase i).length=m:=by rw[dq hiR,hm];rfl
   have hR':∀j,j∈R.erase i↔j<l.length/\(listed.setIfInBounds i true).getD j true=false:=fun j=>by
    rw[List.Nodup.mem_erase_iff hnd,hR];by_cases e:j=i
    ·subst e;rw[yV];simp
    ·rw[getD_set_ne true (Ne.symm e)];simp[e]
   have next:∀(fr2:Fr) (s2:St),A1W l fr frF s (listed.setIfInBounds i true) fr2 s2->∀G' a' w',I4 n N G0 G' fr2 s2 a' w'->wpAnyIn (wf ρ) 0 P .any l.toArray (K1 n N G0 K) m (listed.setIfInBounds i true) a' w' :=
    fun fr2 s2 hI2 G' a' w' hr2=>ih (R.erase i) hlen (listed.setIfInBounds i true) G' fr2 s2 a' w' (hnd.erase i) hR' hI2 hr2
   have same:∀(t:Tmp),(∀k∈IA l,k.2.2≠t)->DQ true fr' (.tmp t)=DQ true fr (.tmp t):=fun t ht=>mV (hI.o t ht);have cel:∀v,A4 s' v=A4 s v:=fun v=>by unfold A4;cases v<;>first|rfl|simp only[hI.p]
   split at c3
   ·rename_i T t hop;simp only[bj]at c3;obtain⟨d,hd⟩:=Option.isSome_iff_exists.1 c3.1;have hk:ldC o=some (T,t,d):=by simp only[ldC,hop,hd]
    have hnt:∀k∈IA l,k.2.2≠t:=fun k hk e=>by have:=bx.1 c3.2 k hk;rw[e,cm]at this;cases this
    obtain⟨v,l1,q,γ,off,e1,e2,e3⟩:=h2 _ (mem ho hk);refine HI hrel hN hg ho hgd (k:=fun f2 s2=>f2=putD fr' o.dst true v/\s2=s') ?_ fun G' a' w' fr2 s2 hr2 hk2=>?_
    ·refine .inl (DL (Ω:=HG.nothing P) (.inl ⟨v,?_,rfl,rfl⟩));have:FE P true o fr' s'=(DQ true fr' (.tmp t)).bind fun v=>(A4 s' v).bind fun cs=>BF P T cs:=by unfold FE;rw[hop];show JH P o s' (DQ true fr')=_;unfold JH;rw[hop]
     rw[this,same t hnt,e2,fq,cel];exact e3
    ·obtain⟨rfl,rfl⟩:=hk2;refine next _ _ ⟨fun x hx=>?_,fun j p k hj hpk hl=>?_,hI.p,hI.n⟩ G' a' w' hr2
     ·rw[F6,hd,if_neg (fun e=>hx _ (mem ho hk) (by simpa using e))];exact hI.o x hx
     ·by_cases e:j=i
      ·subst e;rw[ho]at hj;cases hj;rw[hk]at hpk;cases hpk;rw[F6,hd,if_pos rfl];exact e1.symm
      ·rw[getD_set_ne true (Ne.symm e)]at hl;have hne:=hD i j o p d ho hj (Ne.symm e) hd;rw[F6,hd,if_neg (fun e=>hne (by rw[(OT hpk).2];simpa using e.symm))];exact hI.d j p k hj hpk hl
   ·rename_i T t d hop;simp only[bj]at c3;obtain⟨⟨⟨⟨d1,d2⟩,d3⟩,d4⟩,d5⟩:=c3;have hdn:o.dst=none:=dx.1 d1;have hnt:∀k∈IA l,k.2.2≠t:=fun k hk e=>by have:=bx.1 d2 k hk;rw[e,cm]at this;cases this
    obtain⟨e,he,hb⟩:=List.any_eq_true.1 d5;simp only[bj]at hb;obtain⟨hb,hp⟩:=hb;split at hp
    ·rename_i p hpl;split at hp
     ·rename_i k hk;simp only[bj]at hp;have k1:k.1=T:=bq hp.1.1;have k2:k.2.1=t:=bq hp.1.2;have k3:k.2.2=d:=bq hp.2;have hdone:listed.getD e.on true=true:=by
       have:=hwait e (by simpa using he) hb;rcases cd e.on listed.size with h'|h'
       ·simp[h']at this|-;exact this
       ·simp[cg h']
      obtain⟨v,l1,q,γ,off,e1,e2,e3⟩:=h2 _ (mem hpl hk);have hfd:fr'.get d=some (true,v):=by rw[<-k3,hI.d e.on p k hpl hk hdone];exact e1
      rw[k2]at e2;rw[k1]at e3;cases hget:s.get l1 q with
      |none=>simp[A4,hget]at e3
      |some x=>
       obtain⟨γ',r⟩:=x
       cases r with
       |box cs=>
        by_cases hγ:γ'=γ
        ·subst hγ;have e3:BF P T (cs.drop off)=some v:=by simpa [A4,hget]using e3
         have hget':s'.get l1 q=some (γ',.box cs):=by rw[hI.p];exact hget
         have hcell:∀x∈cs.drop off,x.isCell=true:=fun x hx=>by obtain⟨b,arr,T',_,_,hr⟩:=hrel.inv.res _ _ _ _ hget';obtain⟨j,hj,rfl⟩:=List.getElem_of_mem (List.mem_of_mem_drop hx);exact(hr.2 j hj (by rw[<-hr.1];exact hj)).1
         have h0:0<P.cellsOf T:=by simpa [dw]using d3
         obtain⟨w1,w2,w3⟩:=mW e3 d4 hcell;have hst:DA P o fr' s'=some (l1,q,γ',.box cs):=by
          unfold DA;rw[hop];have r1:DQ true fr' (.tmp t)=some (.ptr l1 q γ' off):=by rw[same t hnt];exact e2
          have r2:DQ true fr' (.tmp d)=some v:=by
           show(match fr'.get d with
            |some (c,v)=>if (!true||c)=true then some v else none
            | none=>none)=_
           rw[hfd];rfl
          simp only[r1,r2,hget'];rw[ct]at w3;rw[if_pos ⟨trivial,w1,h0,by rw[w2,List.length_take,ct];omega,by omega,hdn⟩,w2,mX]
         refine HI hrel hN hg ho hgd (k:=fun f2 s2=>f2=fr'/\s2=s'.put l1 q γ' (.box cs)) (.inl ((DP hst).2.2.2 _ ⟨rfl,rfl⟩)) fun G' a' w' fr2 s2 hr2 hk2=>?_;obtain⟨rfl,rfl⟩:=hk2;refine next _ _ ⟨hI.o,fun j p2 k' hj hpk hl=>?_,fun i2 k2=>?_,by rw[St.put_len];exact hI.n⟩ G' a' w' hr2
         ·by_cases ej:j=i
          ·subst ej;rw[ho]at hj;cases hj;rw[(OT hpk).2]at hdn;cases hdn
          ·rw[getD_set_ne true (Ne.symm ej)]at hl;exact hI.d j p2 k' hj hpk hl
         ·rw[St.get_put s' hget'];split
          ·rename_i e;rw[e.1,e.2,hget]
          ·exact hI.p i2 k2
        ·simp[A4,hget,hγ]at e3
       |_=>simp[A4,hget]at e3
     ·cases hp
    ·cases hp
   ·cases c3
theorem AE5{l:List fw}{id:Nat}{K:Exit->Fr->St->Prop}(hm:P.follows .mixedOrders=true)(hB:OH (DM l) N (l.map (K3 l)) (cK l) l=true)(hC:rG P l (IA l) l 0=true){frF:Fr}
  (h1:∀t,(∀k∈IA l,k.2.2≠t)->frF.get t=fr.get t) (h2:∀k∈IA l,AQ5 P fr frF s k) (hK:K .normal frF s):BC P n N ρ (.region id l.toArray true) K fr s:=by
 simp only[OH,bj]at hB
 obtain⟨⟨⟨⟨⟨b1,b2⟩,b3⟩,b4⟩,b5⟩,b6⟩:=hB
 intro G0 G a w hR
 refine wpIn_region_any hm ?_
 have hR':I4 n N G0 G fr s a { w with drawn:=w.drawn+1 }:=⟨hR.le,hR.inv.drawn _,hR.fr,hR.size,hR.lvl,hR.marks⟩
 have:=AKB (ρ:=ρ) (K:=K) b1 b2 (QX b3) hC h1 h2 hK (fj l.length) (Array.replicate l.length false) G fr s a _ List.nodup_range (fun j=>by
  rw[List.mem_range];refine⟨fun h=>⟨h,by simp[h]⟩,fun h=>h.1⟩) ⟨fun _ _=>rfl,fun j o k hj _ hl=>by
   have:=(bw.1 hj).1;simp[this]at hl,fun _ _=>rfl,rfl⟩ hR'
 rw[List.length_range]at this
 simpa using this
theorem aY:∀{l:List fw},Z3 l=true->((IA l).map (·.2.2)).Nodup
 |[],_=>by simp[IA]
 |o::r,h=>by
  simp only[Z3,bj]at h;have ih:=aY h.2;unfold IA at ih|-;rw[List.filterMap_cons];cases hk:ldC o with
  |none=>exact ih
  |some k=>
   simp only[bg,dm]
   refine⟨fun hm=>?_,ih⟩
   obtain⟨k',hk',e⟩:=ck.1 hm
   obtain⟨p,hp,hpk⟩:=cw.1 hk'
   have h1:=h.1
   rw[(OT hk).2]at h1
   have h2:=bx.1 h1 p hp
   rw[(OT hpk).2]at h2
   simp only[e,cm]at h2
   cases h2
theorem rI{l:List fw}(hC:rG P l (IA l) l 0=true):∀k∈IA l,∀k'∈IA l,k.2.2≠k'.2.1:=fun k hk k' hk' e=>by obtain⟨o,ho,hko⟩:=cw.1 hk';obtain⟨j,hj⟩:=dp ho;have hc:=XO hC hj;simp only[AE4,bj,(OT hko).1]at hc;have:=bx.1 hc.2.2 k hk;rw[e,cm]at this;cases this
theorem AKC(hP:D6 P){id:Nat}{l:List fw}(hN:OH (DM l) N (l.map (K3 l)) (cK l) l=true)(hC:W6 P l=true){st st':XS}(hx:Q6 P (IA l) (some st)=some st')(hbd:Bd st):KI st st' /\
  ∀(n:Nat) (ρ:Option Nat) (σ:Nat->Nat) (pre:List AA) (K:Exit->Fr->St->Prop),(∀σ',AO st.c σ σ'->K .normal (st'.fr.ren σ' pre.length) (st'.s.emb σ' pre))->BC P n N ρ (.region id l.toArray true) K (st.fr.ren σ pre.length) (st.s.emb σ pre):=by
 simp only[W6,bj]at hC
 have hdd:Z3 l=true:=by have hB:=hN;simp only[OH,bj]at hB;exact hB.1.1.1.2
 obtain⟨b1,b2,b3,b4,b5⟩:=eR _ (rI hC.2) (aY hdd) hbd hx
 refine⟨⟨by omega,b1,by rw[b3]⟩,fun n ρ σ pre K hk=>AE5 hP.mixed hN hC.2 (frF:=st'.fr.ren σ pre.length) (fun t ht=>?_) (fun k hk=>?_) (by
  have:=hk σ (AO.refl _ _);rwa [b3]at this)⟩
 ·rw[Fr.get_ren,Fr.get_ren,b4 t ht]
 ·obtain⟨v,l1,q,γ,off,e1,e2,e3⟩:=b5 k hk;have hv:FE P true (A1V k.1 (.tmp k.2.1)) st.fr st.s=some v:=by show((DQ true st.fr (.tmp k.2.1)).bind fun v=>(A4 st.s v).bind fun cs=>BF P k.1 cs)=some v;rw[e2];exact e3
  have hv:=IY (σ:=σ) (pre:=pre) hv;have e2':DQ true (st.fr.ren σ pre.length) (.tmp k.2.1)=some ((V.ptr l1 q γ off).ren σ pre.length):=by rw[DI,e2];rfl
  refine⟨v.ren σ pre.length,l1+pre.length,q,σ γ,off,by rw[Fr.get_ren,e1];rfl,by rw[e2'];simp,?_⟩;have hv:((DQ true (st.fr.ren σ pre.length) (.tmp k.2.1)).bind fun v=>(A4 (st.s.emb σ pre) v).bind fun cs=>BF P k.1 cs)=some (v.ren σ pre.length):=hv;rw[e2']at hv;simpa using hv
end Go.Pg
