/- A row that lies in a place is told as a list, once and for all: it is never written again. No program in sight. -/
import Derived.Test.YthhdhbalenanjaaGreatQa
noncomputable section
open Go renaming Oper->fx,Program->fc,TypeId->fg,World->fh,Value->fp
open Bool renaming and_eq_true->bj
open List renaming map_congr_left->bk,getElem?_eq_some_iff->bw,all_eq_true->bx,map_inj_left->bz,map_map->bc,getElem_map->bf,map_cons->bh,map_flatten->bm,getElem?_eq_getElem->bn,mem_map_of_mem->bp,mem_map->cq,mem_filterMap->cx,take_of_length_le->cz,eq_nil_iff_forall_not_mem->cd,replicate->cp,getElem?_modify->ct,length_drop->dj,append_cancel_left_eq->dk,length_erase_of_mem->dv,map->dw,length_replicate->dz,take_append_drop->df,mem_erase_of_ne->dl,nodup_cons->dm,mem_append->dn,getElem?_of_mem->dp,range->fj,cons->fk
open Nat renaming eq_of_beq_eq_true->bq,le_refl->bg,blt->ck,beq->cw,lt_or_ge->cg,beq_refl->cn,le_trans->dq,zero_add->dc,blt_eq->fq
open Array renaming getElem?_eq_some_iff->cj,getElem?_eq_none->cm
open Option renaming isNone_iff_eq_none->dx,map_some->db,map_eq_map->dg,map_eq_some_iff->dh,some->dr,bind_some->fw
open Prod renaming mk->dt
namespace Go.Pg
variable {P:fc}{σ σ':Nat->Nat}{δ:Nat}{pre:List AA}{s:St}{fr:Fr}{G G':Gh}{w:fh}
def BF(l k:Nat)(o:Option (Nat×AX)):Nat->V->V
 |0,v=>v
 |f+1,v=>match v with
  |.vec l' k' g m=>match o with
   |some (γ,.vec _ es)=>if l'=l/\k'=k/\g=γ/\m=es.length then .list false es else v
   |_=>v
  |.ptr l' k' g off=>match o with
   |some (γ,.box cs)=>if l'=l/\k'=k/\g=γ then .ref ((cs.map N7).drop off) else v
   |_=>v
  |.agg cs=>.agg (cs.map (BF l k o f))
  |.tup cs=>.tup (cs.map (BF l k o f))
  |v=>v
def KX(l k:Nat)(o:Option (Nat×AX)):AX->AX
 |.box cs=>.box (cs.map (BF l k o 3))
 |.vec T es=>.vec T (es.map (dw (BF l k o 3)))
 |r=>r
def NU(l k:Nat)(o:Option (Nat×AX))(fr:Fr):Fr:=fr.map fun x=>(x.1,x.2.1,BF l k o 3 x.2.2)
def GH(l k:Nat)(o:Option (Nat×AX)):AA->AA
 |[]=>[]
 |(j,g,r)::L=>if j=k then GH l k o L else(j,g,KX l k o r)::GH l k o L
def IV(k:Nat)(st:XS):XS:=⟨st.c,NU st.s.up.length k (st.s.loc.get k) st.fr,⟨st.s.up,GH st.s.up.length k (st.s.loc.get k) st.s.loc⟩⟩
def O6(ks:List Nat)(st:XS):XS:=List.rec (motive:=fun _=>XS->XS) (fun st=>st) (fun k _ ih st=>ih (IV k st)) ks st
theorem VQ(l k:Nat)(o:Option (Nat×AX)):∀(fr:Fr) (j:Nat),(NU l k o fr).get j=(fr.get j).map fun x=>(x.1,BF l k o 3 x.2)
 |[],_=>rfl
 |(i,c,v)::fr,j=>by
  have ih:=VQ l k o fr j;simp only[NU,bh,Fr.get]at ih|-;split
  ·rfl
  ·exact ih
theorem MK(l k:Nat)(o:Option (Nat×AX)):∀(L:AA) (j:Nat),(GH l k o L).get j=if j=k then none else(L.get j).map fun x=>(x.1,KX l k o x.2)
 |[],j=>by simp[GH]
 |(i,g,r)::L,j=>by
  have ih:=MK l k o L j;unfold GH;by_cases h:i=k
  ·rw[if_pos h,ih];by_cases hj:j=k
   ·simp[hj]
   ·rw[if_neg hj,if_neg hj,AA.get,if_neg (by rw[h];exact hj)]
  ·rw[if_neg h];simp only[AA.get];by_cases hj:j=i
   ·subst hj;rw[if_pos rfl,if_pos rfl,if_neg h];rfl
   ·rw[if_neg hj,if_neg hj,ih]
def RL(G G':Gh)(σ:Nat->Nat)(δ l k:Nat)(o:Option (Nat×AX)):Prop:=(∀γ T es,o=some (γ,.vec T es)->∀v,RepV G (.vec (l+δ) k (σ γ) es.length) v->RepV G' (.list false (es.map (dw (V.ren σ δ)))) v) /\
 ∀γ cs,o=some (γ,.box cs)->∀off v,RepV G (.ptr (l+δ) k (σ γ) off) v->RepV G' (.ref (((cs.map N7).drop off).map (V.ren σ δ))) v
theorem AET(v:V):(N7 v).ren σ δ=N7 (v.ren σ δ):=by cases v<;>simp[N7]
theorem PY(cs:List V)(off:Nat):((cs.map N7).drop off).map (V.ren σ δ)=((cs.map (V.ren σ δ)).map N7).drop off:=by rw[List.map_drop,bc,bc];congr 1;exact bk fun v _=>AET v
theorem eU{l k:Nat}{o:Option (Nat×AX)}:∀(f:Nat) (v:V),(v.ren σ δ).isCell=true->((BF l k o f v).ren σ δ).isCell=true
 |0,v,h=>h
 |f+1,v,h=>by
  cases v with
  |agg cs=>simp only[H0]at h;cases h
  |tup cs=>simp only[LD]at h;cases h
  |vec l' k' g m=>
   simp only[BF]
   split
   ·split
    ·simp only[E3];rfl
    ·exact h
   ·exact h
  |ptr l' k' g off=>
   simp only[BF]
   split
   ·split
    ·simp only[M6];rfl
    ·exact h
   ·exact h
  |_=>exact h
theorem O7{l k:Nat}{o:Option (Nat×AX)}(hle:G.le G')(ho:RL G G' σ δ l k o):∀(f:Nat) (x:V) (v:fp),RepV G (x.ren σ δ) v->RepV G' ((BF l k o f x).ren σ δ) v
 |0,x,v,h=>h.mono hle
 |f+1,x,v,h=>by
  have ih:=O7 hle ho f;cases x with
  |vec l' k' g m=>
   simp only[BF]
   split
   ·rename_i γ T es;split
    ·rename_i hc;obtain⟨rfl,rfl,rfl,rfl⟩:=hc;simp only[H2,E3]at h|-;exact ho.1 _ _ _ rfl v h
    ·exact h.mono hle
   ·exact h.mono hle
  |ptr l' k' g off=>
   simp only[BF]
   split
   ·rename_i γ cs;split
    ·rename_i hc;obtain⟨rfl,rfl,rfl⟩:=hc;simp only[H1,M6]at h|-;exact ho.2 _ _ rfl off v h
    ·exact h.mono hle
   ·exact h.mono hle
  |agg cs=>
   simp only[BF,H0]at h|-
   cases h with
   |agg _ arr hl hc hr=>
    refine .agg _ arr (by simpa using hl) (fun c hc'=>?_) (fun i h1 h2=>?_)
    ·simp only[cq]at hc';obtain⟨d,⟨e,he,rfl⟩,rfl⟩:=hc';exact eU f e (hc _ (bp he))
    ·have h1':i<cs.length:=by simpa using h1
     have q:=hr i (by simpa using h1) h2;simp only[bf]at q|-;exact ih _ _ q
  |tup cs=>
   simp only[BF,LD]at h|-
   cases h with
   |tup _ arr hl hr=>
    refine .tup _ arr (by simpa using hl) (fun i h1 h2=>?_)
    have q:=hr i (by simpa using h1) h2
    simp only[bf]at q|-
    exact ih _ _ q
  |_=>exact h.mono hle
theorem aR{l k:Nat}{o:Option (Nat×AX)}(hle:G.le G')(ho:RL G G' σ δ l k o){cs:List V}{vs:List fp}(h:RepL G (cs.map (V.ren σ δ)) vs):RepL G' ((cs.map (BF l k o 3)).map (V.ren σ δ)) vs :=
 ⟨by simpa using h.1,fun i p q=>by
  have r:=h.2 i (by simpa using p) q;simp only[bf]at r |-;exact⟨eU 3 _ r.1,O7 hle ho 3 _ _ r.2⟩⟩
theorem zE{l k:Nat}{o:Option (Nat×AX)}(hle:G.le G')(ho:RL G G' σ δ l k o){g:Nat}{r:AX}(h:JI G g w (r.ren σ δ)):JI G' g w ((KX l k o r).ren σ δ):=by
 cases r with
 |box cs=>
  obtain⟨b,arr,T,h1,h2,h3⟩:=h
  exact⟨b,arr,T,by simpa using hle.2 _ _ h1,h2,aR hle ho h3⟩
 |vec T es=>
  obtain⟨b,sz,C,h1,h2,h3,h4,h5⟩:=h
  refine⟨b,sz,C,hle.2 _ _ h1,by simpa using h2,fun e he=>?_,⟨h4.1,fun h=>h4.2 (by simpa using h)⟩,fun hC=>?_⟩
  ·simp only[cq]at he;obtain⟨e1,⟨e2,he2,rfl⟩,rfl⟩:=he;have:=h3 (e2.map (V.ren σ δ)) (bp he2);simpa using this
  ·obtain⟨arr,h6,h7,h8⟩:=h5 hC;refine⟨arr,h6,h7,?_⟩;have q:RepL G (es.flatten.map (V.ren σ δ)) (arr.toList.take (es.length*sz)):=by rw[bm];simpa using h8
   have q2:=aR hle ho q;rw[bm,bm]at q2;simpa using q2
 |map es=>exact h.keep hle fun _ _=>rfl
 |loop fr ps asg body N st=>exact h.keep hle fun _ _=>rfl
 |dead=>trivial
theorem zF(G:Gh)(l k:Nat)(o:Option (Nat×AX))(g:Nat)(r:AX):BK G g ((KX l k o r).ren σ δ)=BK G g (r.ren σ δ):=by cases r<;>rfl
theorem AEU{k:Nat}{st:XS}{l j:Nat}{x:Nat×AX}(h:((IV k st).s.emb σ pre).get l j=some x) :
  ¬(l=st.s.up.length+pre.length/\j=k)/\((st.s.emb σ pre).get l j=some x\/∃r,(st.s.emb σ pre).get l j=some (x.1,r.ren σ pre.length)/\x.2=(KX st.s.up.length k (st.s.loc.get k) r).ren σ pre.length):=by
 have hlen:(st.s.emb σ pre).up.length=st.s.up.length+pre.length:=by rw[DI]
 have hup:((IV k st).s.emb σ pre).up=(st.s.emb σ pre).up:=rfl
 unfold St.get at h|-
 rw[hup]at h
 by_cases e:l=(st.s.emb σ pre).up.length
 ·rw[if_pos e]at h|-;have h':((GH st.s.up.length k (st.s.loc.get k) st.s.loc).ren σ pre.length).get j=some x:=h;rw[AA.get_ren,MK]at h';by_cases hj:j=k
  ·rw[if_pos hj]at h';cases h'
  ·rw[if_neg hj]at h';refine⟨fun hh=>hj hh.2,.inr ?_⟩;have hl:(st.s.emb σ pre).loc.get j=(st.s.loc.get j).map fun p=>(σ p.1,p.2.ren σ pre.length):=AA.get_ren _ _;rw[hl];cases hg:st.s.loc.get j with
   |none=>rw[hg]at h';cases h'
   |some y=>
    rw[hg]at h'
    obtain⟨g,r⟩:=y
    cases h'
    exact⟨r,rfl,rfl⟩
 ·rw[if_neg e]at h|-;exact⟨fun hh=>e (by rw[hlen];exact hh.1),.inl h⟩
theorem AEV{k:Nat}{st:XS}(hI:CU G (st.s.emb σ pre) w):∃G',G.le G'/\CU G' ((IV k st).s.emb σ pre) w/\RL G G' σ pre.length st.s.up.length k (st.s.loc.get k):=by
 have hget:(st.s.emb σ pre).get (st.s.up.length+pre.length) k=(st.s.loc.get k).map fun p=>(σ p.1,p.2.ren σ pre.length):=by rw[B0];unfold St.get;rw[if_pos rfl]
 have main:∃G' s0,G.le G'/\CU G' s0 w/\(∀l j,¬(l=st.s.up.length+pre.length/\j=k)->s0.get l j=(st.s.emb σ pre).get l j)/\RL G G' σ pre.length st.s.up.length k (st.s.loc.get k):=by
  cases ho:st.s.loc.get k with
  |none=>exact⟨G,_,⟨fun _ _ h=>h,fun _ _ h=>h,rfl⟩,hI,fun _ _ _=>rfl,⟨fun γ T es h=>(by cases h),fun γ cs h=>(by cases h)⟩⟩
  |some x=>
   obtain⟨γ,r⟩:=x
   rw[ho]at hget
   cases r with
   |vec T es=>
    have hget:(st.s.emb σ pre).get (st.s.up.length+pre.length) k=some (σ γ,.vec T (es.map (dw (V.ren σ pre.length)))):=hget
    obtain⟨G',hle,hI',hs⟩:=hI.lockRow hget
    refine⟨G',_,hle,hI',fun l j hne=>?_,⟨fun γ' T' es' h v hv=>?_,fun γ cs h=>by cases h⟩⟩
    ·rw[St.get_put _ hget,if_neg hne]
    ·cases h;have:=ZM hI hle hget (m:=es.length) (by simp) hs hv;rwa [cz (by simp)]at this
   |box cs=>
    have hget:(st.s.emb σ pre).get (st.s.up.length+pre.length) k=some (σ γ,.box (cs.map (V.ren σ pre.length))):=hget
    obtain⟨G',hle,hI',hs⟩:=hI.lockBox hget
    refine⟨G',_,hle,hI',fun l j hne=>?_,⟨fun γ' T' es' h=>(by cases h),fun γ' cs' h off v hv=>?_⟩⟩
    ·rw[St.get_put _ hget,if_neg hne]
    ·cases h;rw[PY];exact lF hI hle hget hs hv
   |map cs=>exact⟨G,_,⟨fun _ _ h=>h,fun _ _ h=>h,rfl⟩,hI,fun _ _ _=>rfl,⟨fun γ T es h=>(by cases h),fun γ cs h=>(by cases h)⟩⟩
   |loop _ _ _ _ _ _=>exact⟨G,_,⟨fun _ _ h=>h,fun _ _ h=>h,rfl⟩,hI,fun _ _ _=>rfl,⟨fun γ T es h=>(by cases h),fun γ cs h=>(by cases h)⟩⟩
   |dead=>exact⟨G,_,⟨fun _ _ h=>h,fun _ _ h=>h,rfl⟩,hI,fun _ _ _=>rfl,⟨fun γ T es h=>(by cases h),fun γ cs h=>(by cases h)⟩⟩
 obtain⟨G',s0,hle,hI',hg,ht⟩:=main;refine⟨G',hle,?_,ht⟩;have look:∀{l j g r},((IV k st).s.emb σ pre).get l j=some (g,r)->∃r0,s0.get l j=some (g,r0)/\JI G' g w r/\BK G' g r=BK G' g r0:=by
  intro l j g r h;obtain⟨hne,h1⟩:=AEU h;rw[hg _ _ hne];rcases h1 with h1|⟨r0,h1,h2⟩
  ·exact⟨r,h1,hI'.res l j g r (by rw[hg _ _ hne];exact h1),rfl⟩
  ·simp only at h1 h2;subst h2;exact⟨_,h1,zE hle ht (hI.res _ _ _ _ h1),zF _ _ _ _ _ _⟩
 refine⟨hI'.sl,fun l k g r h=>(by obtain⟨r0,_,h2,_⟩:=look h;exact h2),fun l k g r l' k' g' r' b h1 h2 h3 h4=>?_,fun l k g r b h1 h2=>?_,hI'.fresh,hI'.env⟩
 ·rcases look h1 with⟨r1,e1,_,o1⟩;rcases look h2 with⟨r2,e2,_,o2⟩;exact hI'.sep _ _ _ _ _ _ _ _ _ e1 e2 (o1▸h3) (o2▸h4)
 ·rcases look h1 with⟨r1,e1,_,o1⟩;exact hI'.out _ _ _ _ _ e1 (o1▸h2)
theorem aS{n N:Nat}{ρ:Option Nat}{c:Code}{K:Exit->Fr->St->Prop}{k:Nat}{st:XS}(h:BI P n N ρ c K ((IV k st).fr.ren σ pre.length) ((IV k st).s.emb σ pre)):BI P n N ρ c K (st.fr.ren σ pre.length) (st.s.emb σ pre):=by
 intro G0 G a w hR;obtain⟨G',hle,hI',ht⟩:=AEV (k:=k) hR.inv;refine h G0 G' a w ⟨⟨fun _ _ h=>hle.1 _ _ (hR.le.1 _ _ h),fun _ _ h=>hle.2 _ _ (hR.le.2 _ _ h),hle.3.trans hR.le.3⟩,hI',fun j c v hj=>?_,hR.size,hR.lvl,?_⟩
 ·rw[Fr.get_ren]at hj;have hj':((NU st.s.up.length k (st.s.loc.get k) st.fr).get j).map (fun p=>(p.1,p.2.ren σ pre.length))=some (c,v):=hj;rw[VQ]at hj';cases hg:st.fr.get j with
  |none=>rw[hg]at hj';cases hj'
  |some y=>
   rw[hg]at hj'
   obtain⟨c0,v0⟩:=y
   cases hj'
   obtain⟨x,q1,q2,q3⟩:=hR.fr j c0 (v0.ren σ pre.length) (by rw[Fr.get_ren,hg];rfl)
   exact⟨x,q1,fun hc=>O7 hle ht 3 _ _ (q2 hc),q3⟩
 ·obtain⟨rs,m1,m2,m3⟩:=hR.marks;exact⟨rs,m1,m2,fun r hr=>⟨(m3 r hr).1,hle.1 _ _ (m3 r hr).2⟩⟩
def TBd(c:Nat)(o:Option (Nat×AX)):Prop:=(∀γ T es,o=some (γ,.vec T es)->∀σ σ' δ,AQ c σ σ'->es.map (dw (V.ren σ δ))=es.map (dw (V.ren σ' δ)))/\∀γ cs,o=some (γ,.box cs)->∀σ σ' δ,AQ c σ σ'->cs.map (V.ren σ δ)=cs.map (V.ren σ' δ)
theorem iF{l k c:Nat}{o:Option (Nat×AX)}(ho:TBd c o){σ σ':Nat->Nat}{δ:Nat}(ha:AQ c σ σ'):∀(f:Nat) (v:V),v.ren σ δ=v.ren σ' δ->(BF l k o f v).ren σ δ=(BF l k o f v).ren σ' δ
 |0,v,h=>h
 |f+1,v,h=>by
  have ih:=iF (l:=l) (k:=k) ho ha (δ:=δ) f;have lst:∀cs:List V,cs.map (V.ren σ δ)=cs.map (V.ren σ' δ)->(cs.map (BF l k o f)).map (V.ren σ δ)=(cs.map (BF l k o f)).map (V.ren σ' δ):=by intro cs h;simp only[bc];refine bk fun x hx=>?_;exact ih x (bz.1 h x hx)
  cases v with
  |vec l' k' g m=>
   simp only[BF]
   split
   ·split
    ·simp only[E3];rw[ho.1 _ _ _ rfl σ σ' δ ha]
    ·exact h
   ·exact h
  |ptr l' k' g off=>
   simp only[BF]
   split
   ·split
    ·simp only[M6];rw[PY,PY,ho.2 _ _ rfl σ σ' δ ha]
    ·exact h
   ·exact h
  |agg cs=>
   simp only[BF,H0,V.agg.injEq]at h|-
   exact lst cs h
  |tup cs=>
   simp only[BF,LD,V.tup.injEq]at h|-
   exact lst cs h
  |_=>exact h
theorem ARH{c k γ:Nat}{T:fg}{es:List (List V)}{L:AA}(hL:∀σ σ' δ,AQ c σ σ'->L.ren σ δ=L.ren σ' δ)(h:L.get k=some (γ,.vec T es)):∀σ σ' δ,AQ c σ σ'->es.map (dw (V.ren σ δ))=es.map (dw (V.ren σ' δ)):=by
 intro σ σ' δ ha;have e1:(L.ren σ δ).get k=some (σ γ,.vec T (es.map (dw (V.ren σ δ)))):=by rw[AA.get_ren,h];rfl
 have e2:(L.ren σ' δ).get k=some (σ' γ,.vec T (es.map (dw (V.ren σ' δ)))):=by rw[AA.get_ren,h];rfl
 rw[hL σ σ' δ ha,e2]at e1;simp only[dr.injEq,dt.injEq,AX.vec.injEq]at e1;exact e1.2.2.symm
theorem AEW{st:XS}(h:Bd st):∀σ σ' δ,AQ st.c σ σ'->st.s.loc.ren σ δ=st.s.loc.ren σ' δ:=by intro σ σ' δ ha;have q:=h.s σ σ' (cp δ []) ha;simp only[St.emb,St.mk.injEq,dz]at q;exact q.2
theorem ARI{c k γ:Nat}{cs:List V}{L:AA}(hL:∀σ σ' δ,AQ c σ σ'->L.ren σ δ=L.ren σ' δ)(h:L.get k=some (γ,.box cs)):∀σ σ' δ,AQ c σ σ'->cs.map (V.ren σ δ)=cs.map (V.ren σ' δ):=by
 intro σ σ' δ ha;have e1:(L.ren σ δ).get k=some (σ γ,.box (cs.map (V.ren σ δ))):=by rw[AA.get_ren,h];rfl
 have e2:(L.ren σ' δ).get k=some (σ' γ,.box (cs.map (V.ren σ' δ))):=by rw[AA.get_ren,h];rfl
 rw[hL σ σ' δ ha,e2]at e1;simp only[dr.injEq,dt.injEq,AX.box.injEq]at e1;exact e1.2.symm
theorem mW{l k c:Nat}{o:Option (Nat×AX)}(ho:TBd c o){σ σ':Nat->Nat}{δ:Nat}(ha:AQ c σ σ'):∀(L:AA),L.ren σ δ=L.ren σ' δ->(GH l k o L).ren σ δ=(GH l k o L).ren σ' δ
 |[],_=>rfl
 |(j,g,r)::L,h=>by
  simp only[AA.ren,bh,fk.injEq,dt.injEq,true_and]at h;have ih:=mW (l:=l) (k:=k) ho ha L h.2;simp only[GH];split
  ·exact ih
  ·simp only[AA.ren,bh,fk.injEq,dt.injEq,true_and];refine⟨⟨h.1.1,?_⟩,ih⟩;have hr:=h.1.2;have lst:∀cs:List V,cs.map (V.ren σ δ)=cs.map (V.ren σ' δ)->(cs.map (BF l k o 3)).map (V.ren σ δ)=(cs.map (BF l k o 3)).map (V.ren σ' δ):=by intro cs h;simp only[bc];exact bk fun x hx=>iF ho ha 3 x (bz.1 h x hx)
   cases r with
   |box cs=>
    simp only[KX,AX.ren,AX.box.injEq]at hr|-
    exact lst cs hr
   |vec T es=>
    simp only[KX,AX.ren,AX.vec.injEq,true_and,bc]at hr|-
    refine bk fun e he=>?_
    exact lst e (bz.1 hr e he)
   |_=>exact hr
theorem eV{k:Nat}{st:XS}(h:Bd st):K6 st (IV k st):=by
 have ho:TBd st.c (st.s.loc.get k):=⟨fun γ T es hg=>ARH (AEW h) hg,fun γ cs hg=>ARI (AEW h) hg⟩;refine⟨bg _,⟨fun σ σ' δ ha=>?_,fun σ σ' pre ha=>?_,fun l j γ fr ps asg body N ls hg=>?_⟩,rfl⟩
 ·have q:=h.f σ σ' δ ha;simp only[IV,NU,Fr.ren,bc]at q|-;refine bk fun x hx=>?_;have:=bz.1 q x hx;simp only[dt.injEq,true_and]at this;simp only[Function.comp,dt.injEq,true_and];exact iF ho ha 3 _ this
 ·have q:=h.s σ σ' pre ha;simp only[St.emb,St.mk.injEq]at q;simp only[IV,St.emb,St.mk.injEq];exact⟨q.1,mW ho ha _ q.2⟩
 ·have hg':(IV k st).s.get l j=some (γ,.loop fr ps asg body N ls):=hg;refine h.lp l j γ fr ps asg body N ls ?_;unfold St.get at hg'|-;have hup:(IV k st).s.up=st.s.up:=rfl;rw[hup]at hg';split
  ·rename_i e;rw[if_pos e]at hg';have hg':(GH st.s.up.length k (st.s.loc.get k) st.s.loc).get j=some (γ,.loop fr ps asg body N ls):=hg';rw[MK]at hg';split at hg'
   ·cases hg'
   ·cases hq:st.s.loc.get j with
    |none=>rw[hq]at hg';cases hg'
    |some y=>
     rw[hq]at hg'
     obtain⟨g,r⟩:=y
     cases r with
     |loop _ _ _ _ _ _=>exact hg'
     |_=>simp[KX]at hg'
  ·rename_i e;rw[if_neg e]at hg';exact hg'
theorem uW:∀(ks:List Nat) (st:XS),(O6 ks st).c=st.c
 |[],_=>rfl
 |k::ks,st=>uW ks (IV k st)
theorem eW:∀(ks:List Nat) {st:XS},Bd st->K6 st (O6 ks st)
 |[],st,h=>⟨bg _,h,rfl⟩
 |k::ks,st,h=>by have h1:=eV (k:=k) h;have h2:=eW ks h1.bd;exact⟨dq h1.c h2.c,h2.bd,h2.n.trans h1.n⟩
theorem aT{n N:Nat}{ρ:Option Nat}{c:Code}{K:Exit->Fr->St->Prop}:∀(ks:List Nat) {st:XS},BI P n N ρ c K ((O6 ks st).fr.ren σ pre.length) ((O6 ks st).s.emb σ pre)->BI P n N ρ c K (st.fr.ren σ pre.length) (st.s.emb σ pre)
 |[],_,h=>h
 |k::ks,st,h=>aS (k:=k) (aT ks (st:=IV k st) h)
end Go.Pg
namespace Go.Pg
variable {P:fc}{σ σ':Nat->Nat}{δ:Nat}{pre:List AA}{s:St}{fr:Fr}{G G':Gh}{w:fh}
def IW(st:XS):List Nat->V->V
 |[],v=>v
 |k::ks,v=>IW st ks (cond (ck k 10000) (BF st.s.up.length k (st.s.loc.get k) 3 v) (BF (k / 10000-1) (k % 10000) (st.s.get (k / 10000-1) (k % 10000)) 3 v))
def iG:V->Bool
 |.int ..=>true
 |.bool _=>true
 |_=>false
def aU:V->Bool
 |.int ..=>true
 |.bool _=>true
 |.agg cs=>cs.all iG
 |_=>false
def mX(cf:CF)(c0:CF0)(ks:List Nat):CF:=fun f args st=>match c0 f (args.map (IW st ks))with
 |some r=>Bool.rec (cf f args st) (some (r,st)) (aU r)
 |none=>cf f args st
def cfU(ks:List Nat)(E:XE):XE:=match ks with
 |[]=>E
 |_::_=>⟨mX E.cf E.c0 ks,E.cy,E.c0,E.co,E.lit⟩
def dA(G:Gh)(w:fh):Gh:={ sl:=fun b=>w.heap[b]?,be:=G.be,env:=G.env }
def AKC(G:Gh)(w:fh):Gh:={ sl:=fun b=>w.heap[b]?,be:=G.be,env:=(w.os,w.output,w.heap.size) }
theorem iH(hI:CU G s w):G.le (dA G w):=⟨hI.sl,fun _ _ h=>h,rfl⟩
theorem AEX:(dA G w).lec (AKC G w):=⟨fun _ _ _ _ h=>h,fun _ _ h=>h⟩
theorem AEY(hI:CU G s w):CU (AKC G w) ⟨[],[]⟩ w where
 sl _ _ h:=h
 res l k g r h:=by simp[St.get]at h
 sep l k g r l' k' g' r' b h:=by simp[St.get]at h
 out l k g r b h:=by simp[St.get]at h
 fresh:=hI.fresh
 env:=⟨rfl,rfl,bg _,fun b c T fz h1 h2=>by
  have h3:=(cj.1 h2).1;have h4:w.heap.size<=b:=h1;omega⟩
theorem AEZ{l k g n:Nat}{v:fp}(h:RepV (dA G w) (.vec l k g n) v):RepV G (.vec l k g n) v:=by
 cases h with
 |vec _ _ _ _ b sz C a h1 h2 h3=>exact .vec _ _ _ _ b sz C a h1 h2 h3
theorem AE0{l k g n:Nat}{v:fp}(h:RepV (dA G w) (.ptr l k g n) v):RepV G (.ptr l k g n) v:=by
 cases h with
 |ptr _ _ _ _ b sz C h1=>exact .ptr _ _ _ _ b sz C h1
theorem LV{st:XS}(hI:CU G (st.s.emb σ pre) w)(l k:Nat):RL (dA G w) (dA G w) σ pre.length l k (st.s.get l k):=by
 refine⟨fun γ T es ho v hv=>?_,fun γ cs ho off v hv=>?_⟩
 ·have hget:(st.s.emb σ pre).get (l+pre.length) k=some (σ γ,.vec T (es.map (dw (V.ren σ pre.length)))):=by rw[B0,ho];rfl
  have:=ZM hI (iH hI) hget (m:=es.length) (by simp) (fun _ _=>rfl) (AEZ hv);rwa [cz (by simp)]at this
 ·have hget:(st.s.emb σ pre).get (l+pre.length) k=some (σ γ,.box (cs.map (V.ren σ pre.length))):=by rw[B0,ho];rfl
  rw[PY];exact lF hI (iH hI) hget (fun _ _=>rfl) (AE0 hv)
theorem qX{st:XS}(hI:CU G (st.s.emb σ pre) w)(k:Nat):RL (dA G w) (dA G w) σ pre.length st.s.up.length k (st.s.loc.get k):=by have:=LV hI st.s.up.length k;rwa [XN]at this
theorem VR{st:XS}(hI:CU G (st.s.emb σ pre) w):∀(ks:List Nat) (x:V) (v:fp),RepV (dA G w) (x.ren σ pre.length) v->RepV (dA G w) ((IW st ks x).ren σ pre.length) v
 |[],_,_,h=>h
 |k::ks,x,v,h=>by
  unfold IW;cases ck k 10000 with
  |true=>exact VR hI ks _ v (O7 (Gh.le_refl _) (qX hI k) 3 x v h)
  |false=>exact VR hI ks _ v (O7 (Gh.le_refl _) (LV hI _ _) 3 x v h)
theorem AE1{s':St}{w':fh}(hI:CU G s w)(hle:(AKC G w).le G')(hI':CU G' s' w'):CU G s w':=by
 have he:G'.env=(w.os,w.output,w.heap.size):=hle.e;obtain⟨h1,h2,h3,h4⟩:=hI'.env;rw[he]at h1 h2 h3 h4;have hold:∀i,i<w.heap.size->w'.heap[i]? = w.heap[i]?:=fun i hi=>by have:=hI'.sl i w.heap[i] (hle.1 i _ (show w.heap[i]? = some w.heap[i] by simp[hi]));rw[this];simp[hi]
 obtain⟨e1,e2,e3,e4⟩:=hI.env;refine⟨fun b o h=>?_,fun l k g r h=>(hI.res l k g r h).keep (Gh.le_refl _) fun b hb=>hold b (hI.out _ _ _ _ _ h hb).2,hI.sep,fun l k g r b h hb=>⟨(hI.out _ _ _ _ _ h hb).1,Nat.lt_of_lt_of_le (hI.out _ _ _ _ _ h hb).2 h3⟩,hI.fresh,⟨h1.trans e1,h2.trans e2,dq e3 h3,fun b c T fz hb hc=>?_⟩⟩
 ·have h:=hI.sl b o h;rw[hold b (cj.1 h).1];exact h
 ·rcases cg b w.heap.size with hl|hl
  ·rw[hold b hl]at hc;exact e4 b c T fz hb hc
  ·exact h4 b c T fz hl hc
theorem AE2{r:V}{v:fp}(hf:aU r=true)(h:RepV G' r v):RepV G r v:=by
 cases r with
 |int k n=>cases h;exact .int _ _
 |bool b=>cases h;exact .bool _
 |agg cs=>
  cases h with
  |agg _ arr hl hc hr=>
   refine .agg _ arr hl hc fun i h1 h2=>?_
   have q:=hr i h1 h2
   have f:=bx.1 (show cs.all iG=true from hf) _ (List.getElem_mem h1)
   generalize cs[i]=c at *
   generalize arr[i]=z at *
   cases c with
   |int k n=>cases q;exact .int _ _
   |bool b=>cases q;exact .bool _
   |_=>cases f
 |_=>cases hf
theorem AE3{cf:CF}(hcf:eM P cf){c0:CF0}(hc0:H4 P c0)(ks:List Nat):eM P (mX cf c0 ks):=by
 intro f args st r st' hx hbd hargs;unfold mX at hx;split at hx
 ·rename_i r0 h0;cases hf:aU r0 with
  |false=>
   rw[hf]at hx
   exact hcf f args st r st' hx hbd hargs
  |true=>
   rw[hf]at hx
   cases hx
   obtain⟨hA,h1,h2⟩:=hc0 _ _ _ h0
   refine⟨⟨bg _,hbd,rfl⟩,fun σ σ' δ _=>by rw[h2,h2],rfl,fun σ pre K hk=>⟨(hA ⟨[],[]⟩).1,fun G vals w R hI ha hR=>?_⟩⟩
   refine(hA ⟨[],[]⟩).2 (AKC G w) vals w R (AEY hI) ?_ fun G' r' v w' s' hle hI' hv hlen hk'=>?_
   ·refine⟨by simpa using ha.1,fun i p q=>?_⟩;have hr:=ha.2 i (by simpa using p) q;simp only[bf]at hr|-;have h3:=VR hI ks _ _ (hr.mono (iH hI));rw[h1 _ (bp (List.getElem_mem _))]at h3;exact h3.monoC AEX
   ·obtain⟨rfl,rfl⟩:=hk';have:=hk σ (AQ.refl _ _);rw[h2]at this;exact hR G r' v w' _ (Gh.le_refl _) (AE1 hI hle hI') (AE2 hf hv) rfl this
 ·exact hcf f args st r st' hx hbd hargs
theorem ARJ{E:XE}(h:KW P E)(ks:List Nat):KW P (cfU ks E):=by
 cases ks with
 |nil=>exact h
 |cons k ks=>exact⟨AE3 h.cf h.c0 _,h.cy,h.c0,h.co⟩
end Go.Pg
namespace Go.Pg
variable {P:fc}{σ σ':Nat->Nat}{δ:Nat}{pre:List AA}{s:St}{fr:Fr}{G G':Gh}{w:fh}{n k l d:Nat}
def JX(n k l d:Nat):Nat->V->V
 |0,v=>v
 |f+1,v=>match v with
  |.vec l' k' γ m=>if l'=n/\k'=k then .vec l d γ m else v
  |.ptr l' k' γ o=>if l'=n/\k'=k then .ptr l d γ o else v
  |.mp l' k' γ=>if l'=n/\k'=k then .mp l d γ else v
  |.agg cs=>.agg (cs.map (JX n k l d f))
  |.tup cs=>.tup (cs.map (JX n k l d f))
  |v=>v
def QX(n k l d:Nat):AX->AX
 |.box cs=>.box (cs.map (JX n k l d 3))
 |.vec T es=>.vec T (es.map (dw (JX n k l d 3)))
 |r=>r
def jH(n k l d:Nat)(fr:Fr):Fr:=fr.map fun x=>(x.1,x.2.1,JX n k l d 3 x.2.2)
def aV(n k l d:Nat):AA->AA
 |[]=>[]
 |(j,g,r)::L=>if j=k then aV n k l d L else(j,g,QX n k l d r)::aV n k l d L
def JP(u:Nat):AA->AA
 |[]=>[]
 |(j,x)::L=>if j=u then JP u L else(j,x)::JP u L
def zG(n k l d:Nat):List Nat->AA->AA
 |[],L=>L
 |u::us,L=>match L.get u with
  |some (g,r)=>(u,g,QX n k l d r)::zG n k l d us (JP u L)
  |none=>zG n k l d us L
def qY(k l d:Nat)(us:List Nat)(s:St)(o:Option (Nat×AX)):St:=match o with
 |some (γ,r)=>St.put ⟨s.up.modify l (zG s.up.length k l d us),aV s.up.length k l d s.loc⟩ l d γ (QX s.up.length k l d r)
 |none=>s
def QK(l n:Nat):Option (Nat×AX)->Bool
 |some (_,r)=>Nat.ble l n&&cA r
 |none=>false
def aW(k l d:Nat)(us:List Nat)(st:XS):XS:=Bool.rec st ⟨st.c,jH st.s.up.length k l d st.fr,qY k l d us st.s (st.s.loc.get k)⟩ (QK l st.s.up.length (st.s.loc.get k))
theorem mY:∀(f:Nat) (v:V),(v.ren σ δ).isCell=true->((JX n k l d f v).ren σ δ).isCell=true
 |0,v,h=>h
 |f+1,v,h=>by
  cases v with
  |agg cs=>simp only[H0]at h;cases h
  |tup cs=>simp only[LD]at h;cases h
  |vec l' k' g m=>simp only[JX];split<;>(simp only[H2];rfl)
  |ptr l' k' g m=>simp only[JX];split<;>(simp only[H1];rfl)
  |mp l' k' g=>simp only[JX];split<;>(simp only[RF];rfl)
  |_=>exact h
theorem iI:∀(f:Nat) (x:V) (v:fp),RepV G (x.ren σ δ) v->RepV G ((JX n k l d f x).ren σ δ) v
 |0,x,v,h=>h
 |f+1,x,v,h=>by
  have ih:=iI f;cases x with
  |vec l' k' g m=>
   simp only[JX]
   split
   ·simp only[H2]at h|-;cases h with
    |vec _ _ _ _ b sz C a h1 h2 h3=>exact .vec _ _ _ _ b sz C a h1 h2 h3
   ·exact h
  |ptr l' k' g o=>
   simp only[JX]
   split
   ·simp only[H1]at h|-;cases h with
    |ptr _ _ _ _ b sz C h1=>exact .ptr _ _ _ _ b sz C h1
   ·exact h
  |mp l' k' g=>
   simp only[JX]
   split
   ·simp only[RF]at h|-;cases h with
    |mp _ _ _ b sz C h1=>exact .mp _ _ _ b sz C h1
   ·exact h
  |agg cs=>
   simp only[JX,H0]at h|-
   cases h with
   |agg _ arr hl hc hr=>
    refine .agg _ arr (by simpa using hl) (fun c hc'=>?_) (fun i h1 h2=>?_)
    ·simp only[cq]at hc';obtain⟨d',⟨e,he,rfl⟩,rfl⟩:=hc';exact mY f e (hc _ (bp he))
    ·have q:=hr i (by simpa using h1) h2;simp only[bf]at q|-;exact ih _ _ q
  |tup cs=>
   simp only[JX,LD]at h|-
   cases h with
   |tup _ arr hl hr=>
    refine .tup _ arr (by simpa using hl) (fun i h1 h2=>?_)
    have q:=hr i (by simpa using h1) h2
    simp only[bf]at q|-
    exact ih _ _ q
  |_=>exact h
theorem mZ{cs:List V}{vs:List fp}(h:RepL G (cs.map (V.ren σ δ)) vs):RepL G ((cs.map (JX n k l d 3)).map (V.ren σ δ)) vs :=
 ⟨by simpa using h.1,fun i p q=>by
  have r:=h.2 i (by simpa using p) q;simp only[bf]at r |-;exact⟨mY 3 _ r.1,iI 3 _ _ r.2⟩⟩
theorem uX{g:Nat}{r:AX}(h:JI G g w (r.ren σ δ)):JI G g w ((QX n k l d r).ren σ δ):=by
 cases r with
 |box cs=>
  obtain⟨b,arr,T,h1,h2,h3⟩:=h
  exact⟨b,arr,T,by simpa using h1,h2,mZ h3⟩
 |vec T es=>
  obtain⟨b,sz,C,h1,h2,h3,h4,h5⟩:=h
  refine⟨b,sz,C,h1,by simpa using h2,fun e he=>?_,⟨h4.1,fun h=>h4.2 (by simpa using h)⟩,fun hC=>?_⟩
  ·simp only[cq]at he;obtain⟨e1,⟨e2,he2,rfl⟩,rfl⟩:=he;have:=h3 (e2.map (V.ren σ δ)) (bp he2);simpa using this
  ·obtain⟨arr,h6,h7,h8⟩:=h5 hC;refine⟨arr,h6,h7,?_⟩;have q:RepL G (es.flatten.map (V.ren σ δ)) (arr.toList.take (es.length*sz)):=by rw[bm];simpa using h8
   have q2:=mZ (n:=n) (k:=k) (l:=l) (d:=d) q;rw[bm,bm]at q2;simpa using q2
 |map es=>exact h
 |loop fr ps asg body N st=>exact h
 |dead=>trivial
theorem uY(G:Gh)(g:Nat)(r:AX):BK G g ((QX n k l d r).ren σ δ)=BK G g (r.ren σ δ):=by cases r<;>rfl
theorem iJ:∀(fr:Fr) (j:Nat),(jH n k l d fr).get j=(fr.get j).map fun x=>(x.1,JX n k l d 3 x.2)
 |[],_=>rfl
 |(i,c,v)::fr,j=>by
  have ih:=iJ fr j;simp only[jH,bh,Fr.get]at ih|-;split
  ·rfl
  ·exact ih
theorem uZ:∀(L:AA) (j:Nat),(aV n k l d L).get j=if j=k then none else(L.get j).map fun x=>(x.1,QX n k l d x.2)
 |[],j=>by simp[aV]
 |(i,g,r)::L,j=>by
  have ih:=uZ L j;unfold aV;by_cases h:i=k
  ·rw[if_pos h,ih];by_cases hj:j=k
   ·simp[hj]
   ·rw[if_neg hj,if_neg hj,AA.get,if_neg (by rw[h];exact hj)]
  ·rw[if_neg h];simp only[AA.get];by_cases hj:j=i
   ·subst hj;rw[if_pos rfl,if_pos rfl,if_neg h];rfl
   ·rw[if_neg hj,if_neg hj,ih]
theorem aX(u:Nat):∀(L:AA) (j:Nat),(JP u L).get j=if j=u then none else L.get j
 |[],j=>by simp[JP,AA.get]
 |(q,x)::L,j=>by
  have ih:=aX u L j;unfold JP;by_cases h:q=u
  ·rw[if_pos h,ih];subst h;by_cases hj:j=q
   ·rw[if_pos hj,if_pos hj]
   ·rw[if_neg hj,if_neg hj];simp only[AA.get];rw[if_neg hj]
  ·rw[if_neg h];simp only[AA.get];by_cases hj:j=q
   ·subst hj;rw[if_pos rfl,if_neg h,if_pos rfl]
   ·rw[if_neg hj,if_neg hj,ih]
theorem iK:∀(us:List Nat) (L:AA) (j:Nat) (x:Nat×AX),(zG n k l d us L).get j=some x->L.get j=some x\/∃r,L.get j=some (x.1,r)/\x.2=QX n k l d r
 |[],L,j,x,h=>.inl h
 |u::us,L,j,x,h=>by
  unfold zG at h;split at h
  ·rename_i g r e;simp only[AA.get]at h;split at h
   ·rename_i e2;subst e2;cases h;exact .inr ⟨r,e,rfl⟩
   ·rename_i hne;have:=iK us _ j x h;rw[aX,if_neg hne]at this;exact this
  ·exact iK us L j x h
theorem qZ{s:St}{l k γ:Nat}{r:AX}{l' k':Nat}{x:Nat×AX}(h:(s.put l k γ r).get l' k'=some x):(l'=l/\k'=k/\x=(γ,r))\/(¬(l'=l/\k'=k)/\s.get l' k'=some x):=by
 unfold St.put at h;unfold St.get at h|-;by_cases e1:l=s.up.length
 ·rw[if_pos e1]at h;by_cases e2:l'=s.up.length
  ·rw[if_pos e2]at h|-;rw[AA.get_put]at h;split at h
   ·rename_i e;exact .inl ⟨e2.trans e1.symm,e,(dr.inj h).symm⟩
   ·rename_i e;exact .inr ⟨fun hh=>e hh.2,h⟩
  ·rw[if_neg e2]at h|-;exact .inr ⟨fun hh=>e2 (hh.1.trans e1),h⟩
 ·rw[if_neg e1]at h;have hl:({ s with up:=s.up.modify l (fun L=>L.put k γ r) }:St).up.length=s.up.length:=by simp
  rw[hl]at h;by_cases e2:l'=s.up.length
  ·rw[if_pos e2]at h|-;exact .inr ⟨fun hh=>e1 (hh.1.symm.trans e2),h⟩
  ·rw[if_neg e2]at h|-;rw[ct]at h;cases hu:s.up[l']? with
   |none=>simp[hu]at h
   |some L=>
    rw[hu]at h
    simp only[dg,db]at h
    by_cases e3:l=l'
    ·simp only[e3,if_true,AA.get_put]at h;split at h
     ·rename_i e;exact .inl ⟨e3.symm,e,(dr.inj h).symm⟩
     ·rename_i e;exact .inr ⟨fun hh=>e hh.2,h⟩
    ·simp only[e3,if_false]at h;exact .inr ⟨fun hh=>e3 hh.1.symm,h⟩
theorem vA{us:List Nat}{γ:Nat}{r:AX}{l1 k1:Nat}{x:Nat×AX}(h:(qY k l d us s (some (γ,r))).get l1 k1=some x) :
  (l1=l/\k1=d/\x=(γ,QX s.up.length k l d r))\/(¬(l1=l/\k1=d)/\¬(l1=s.up.length/\k1=k)/\(s.get l1 k1=some x\/∃r0,s.get l1 k1=some (x.1,r0)/\x.2=QX s.up.length k l d r0)):=by
 rcases qZ h with⟨h1,h2,h3⟩|⟨h1,h2⟩
 ·exact .inl ⟨h1,h2,h3⟩
 ·refine .inr ⟨h1,?_⟩;have hlen:(s.up.modify l (zG s.up.length k l d us)).length=s.up.length:=by simp
  unfold St.get at h2|-;simp only[hlen]at h2;by_cases e:l1=s.up.length
  ·rw[if_pos e]at h2|-;rw[uZ]at h2;split at h2
   ·cases h2
   ·rename_i hk;refine⟨fun hh=>hk hh.2,.inr ?_⟩;obtain⟨y,hy,rfl⟩:=dh.1 h2;exact⟨y.2,hy,rfl⟩
  ·rw[if_neg e]at h2|-;refine⟨fun hh=>e hh.1,?_⟩;rw[ct]at h2;cases hu:s.up[l1]? with
   |none=>simp[hu]at h2
   |some L=>
    rw[hu]at h2
    simp only[dg,db]at h2|-
    by_cases e3:l=l1
    ·simp only[e3,if_true]at h2;rw[<-e3]at h2;exact iK us L k1 x h2
    ·simp only[e3,if_false]at h2;exact .inl h2
theorem AKD{s s':St}{l1 k1:Nat}(h:l1<pre.length):(s.emb σ pre).get l1 k1=(s'.emb σ pre).get l1 k1:=by unfold St.get;rw[DI,DI,if_neg (by omega),if_neg (by omega)];simp only[St.emb,List.getElem?_append_left h]
theorem vB{us:List Nat}{o:Option (Nat×AX)}:(qY k l d us s o).up.length=s.up.length:=by
 cases o with
 |none=>rfl
 |some x=>unfold qY;rw[St.put_len];simp
theorem ARK{us:List Nat}{γ:Nat}{r:AX}(hr:s.loc.get k=some (γ,r))(hI:CU G (s.emb σ pre) w):CU G ((qY k l d us s (some (γ,r))).emb σ pre) w:=by
 have look:∀{l1 k1 g r1},((qY k l d us s (some (γ,r))).emb σ pre).get l1 k1=some (g,r1)->∃l0 k0 r0,(s.emb σ pre).get l0 k0=some (g,r0)/\JI G g w r1/\BK G g r1=BK G g r0 /\
   ((l1=l+pre.length/\k1=d/\l0=s.up.length+pre.length/\k0=k)\/(¬(l1=l+pre.length/\k1=d)/\¬(l1=s.up.length+pre.length/\k1=k)/\l0=l1/\k0=k1)):=by
  intro l1 k1 g r1 h
  by_cases hp:l1<pre.length
  ·rw[AKD (s':=s) hp]at h;exact⟨l1,k1,r1,h,hI.res _ _ _ _ h,rfl,.inr ⟨fun hh=>by omega,fun hh=>by omega,rfl,rfl⟩⟩
  ·obtain⟨l2,rfl⟩:∃l2,l1=l2+pre.length:=⟨l1-pre.length,by omega⟩;rw[B0]at h;obtain⟨⟨γ',r'⟩,h1,h2⟩:=dh.1 h;cases h2;rcases vA h1 with⟨rfl,rfl,e⟩|⟨e1,e2,e3⟩
   ·cases e;have h0:(s.emb σ pre).get (s.up.length+pre.length) k=some (σ γ,r.ren σ pre.length):=by rw[B0,XN,hr];rfl
    exact⟨_,_,_,h0,uX (hI.res _ _ _ _ h0),uY _ _ _,.inl ⟨rfl,rfl,rfl,rfl⟩⟩
   ·rcases e3 with e3|⟨r0,e3,rfl⟩
    ·have h0:(s.emb σ pre).get (l2+pre.length) k1=some (σ γ',r'.ren σ pre.length):=by rw[B0,e3];rfl
     exact⟨_,_,_,h0,hI.res _ _ _ _ h0,rfl,.inr ⟨fun hh=>e1 ⟨by omega,hh.2⟩,fun hh=>e2 ⟨by omega,hh.2⟩,rfl,rfl⟩⟩
    ·have h0:(s.emb σ pre).get (l2+pre.length) k1=some (σ γ',r0.ren σ pre.length):=by rw[B0,e3];rfl
     exact⟨_,_,_,h0,uX (hI.res _ _ _ _ h0),uY _ _ _,.inr ⟨fun hh=>e1 ⟨by omega,hh.2⟩,fun hh=>e2 ⟨by omega,hh.2⟩,rfl,rfl⟩⟩
 refine⟨hI.sl,fun l k g r h=>(by obtain⟨_,_,_,_,h2,_⟩:=look h;exact h2),fun l1 k1 g1 r1 l2 k2 g2 r2 b h1 h2 h3 h4=>?_,fun l1 k1 g1 r1 b h1 h2=>?_,hI.fresh,hI.env⟩
 ·obtain⟨a1,a2,a3,a4,_,a6,a7⟩:=look h1;obtain⟨b1,b2,b3,b4,_,b6,b7⟩:=look h2;have hs:=hI.sep _ _ _ _ _ _ _ _ _ a4 b4 (a6▸h3) (b6▸h4);rcases a7 with⟨c1,c2,c3,c4⟩|⟨c1,c2,c3,c4⟩<;>rcases b7 with⟨d1,d2,d3,d4⟩|⟨d1,d2,d3,d4⟩
  ·exact⟨c1.trans d1.symm,c2.trans d2.symm⟩
  ·exact(d2 ⟨d3.symm.trans (hs.1.symm.trans c3),d4.symm.trans (hs.2.symm.trans c4)⟩).elim
  ·exact(c2 ⟨c3.symm.trans (hs.1.trans d3),c4.symm.trans (hs.2.trans d4)⟩).elim
  ·exact⟨c3.symm.trans (hs.1.trans d3),c4.symm.trans (hs.2.trans d4)⟩
 ·obtain⟨a1,a2,a3,a4,_,a6,_⟩:=look h1;exact hI.out _ _ _ _ _ a4 (a6▸h2)
theorem AE4{N:Nat}{ρ:Option Nat}{c:Code}{K:Exit->Fr->St->Prop}{us:List Nat}{m:Nat}{st:XS}(h:BI P m N ρ c K ((aW k l d us st).fr.ren σ pre.length) ((aW k l d us st).s.emb σ pre)):BI P m N ρ c K (st.fr.ren σ pre.length) (st.s.emb σ pre):=by
 unfold aW at h;cases ho:QK l st.s.up.length (st.s.loc.get k)with
 |false=>rw[ho]at h;exact h
 |true=>
  rw[ho]at h
  cases hr:st.s.loc.get k with
  |none=>rw[hr]at ho;cases ho
  |some x=>
   obtain⟨γ,r⟩:=x
   rw[hr]at ho h
   simp only[QK,bj,Nat.ble_eq]at ho
   intro G0 G a w hR
   refine h G0 G a w ⟨hR.le,ARK hr hR.inv,fun j c v hj=>?_,hR.size,?_,hR.marks⟩
   ·rw[Fr.get_ren]at hj;have hj':((jH st.s.up.length k l d st.fr).get j).map (fun p=>(p.1,p.2.ren σ pre.length))=some (c,v):=hj;rw[iJ]at hj';cases hg:st.fr.get j with
    |none=>rw[hg]at hj';cases hj'
    |some y=>
     rw[hg]at hj'
     obtain⟨c0,v0⟩:=y
     cases hj'
     obtain⟨x,q1,q2,q3⟩:=hR.fr j c0 (v0.ren σ pre.length) (by rw[Fr.get_ren,hg];rfl)
     exact⟨x,q1,fun hc=>iI 3 _ _ (q2 hc),q3⟩
   ·have:=hR.lvl;rw[DI]at this|-;show(qY k l d us st.s (some (γ,r))).up.length+_=_;rw[vB];exact this
theorem rA:∀(f:Nat) (v:V),v.ren σ δ=v.ren σ' δ->(JX n k l d f v).ren σ δ=(JX n k l d f v).ren σ' δ
 |0,v,h=>h
 |f+1,v,h=>by
  have ih:=rA f;have lst:∀cs:List V,cs.map (V.ren σ δ)=cs.map (V.ren σ' δ)->(cs.map (JX n k l d f)).map (V.ren σ δ)=(cs.map (JX n k l d f)).map (V.ren σ' δ):=by intro cs h;simp only[bc];refine bk fun x hx=>?_;exact ih x (bz.1 h x hx)
  cases v with
  |vec l' k' g m=>
   simp only[JX]
   split
   ·simp only[H2,V.vec.injEq,true_and,and_true]at h|-;exact h
   ·exact h
  |ptr l' k' g o=>
   simp only[JX]
   split
   ·simp only[H1,V.ptr.injEq,true_and,and_true]at h|-;exact h
   ·exact h
  |mp l' k' g=>
   simp only[JX]
   split
   ·simp only[RF,V.mp.injEq,true_and]at h|-;exact h
   ·exact h
  |agg cs=>
   simp only[JX,H0,V.agg.injEq]at h|-
   exact lst cs h
  |tup cs=>
   simp only[JX,LD,V.tup.injEq]at h|-
   exact lst cs h
  |_=>exact h
theorem rC{r:AX}(h:r.ren σ δ=r.ren σ' δ):(QX n k l d r).ren σ δ=(QX n k l d r).ren σ' δ:=by
 have lst:∀cs:List V,cs.map (V.ren σ δ)=cs.map (V.ren σ' δ)->(cs.map (JX n k l d 3)).map (V.ren σ δ)=(cs.map (JX n k l d 3)).map (V.ren σ' δ):=by intro cs h;simp only[bc];exact bk fun x hx=>rA 3 x (bz.1 h x hx)
 cases r with
 |box cs=>
  simp only[QX,AX.ren,AX.box.injEq]at h|-
  exact lst cs h
 |vec T es=>
  simp only[QX,AX.ren,AX.vec.injEq,true_and,bc]at h|-
  refine bk fun e he=>?_
  exact lst e (bz.1 h e he)
 |_=>exact h
theorem AE5:∀(L:AA),L.ren σ δ=L.ren σ' δ->(aV n k l d L).ren σ δ=(aV n k l d L).ren σ' δ
 |[],_=>rfl
 |(j,g,r)::L,h=>by
  simp only[AA.ren,bh,fk.injEq,dt.injEq,true_and]at h;have ih:=AE5 L h.2;simp only[aV];split
  ·exact ih
  ·simp only[AA.ren,bh,fk.injEq,dt.injEq,true_and];exact⟨⟨h.1.1,rC h.1.2⟩,ih⟩
theorem AE6{L:AA}(h:L.ren σ δ=L.ren σ' δ){k γ:Nat}{r:AX}(hg:L.get k=some (γ,r)):σ γ=σ' γ/\r.ren σ δ=r.ren σ' δ:=by
 have e1:(L.ren σ δ).get k=some (σ γ,r.ren σ δ):=by rw[AA.get_ren,hg];rfl
 have e2:(L.ren σ' δ).get k=some (σ' γ,r.ren σ' δ):=by rw[AA.get_ren,hg];rfl
 rw[h,e2]at e1;simp only[dr.injEq,dt.injEq]at e1;exact⟨e1.1.symm,e1.2.symm⟩
theorem aY(u:Nat):∀(L:AA),AA.ren σ δ (JP u L)=JP u (AA.ren σ δ L)
 |[]=>rfl
 |(q,g,r)::L=>by
  have ih:=aY u L;show AA.ren σ δ (JP u ((q,g,r)::L))=JP u ((q,σ g,r.ren σ δ)::AA.ren σ δ L);unfold JP;by_cases h:q=u
  ·rw[if_pos h,if_pos h,ih]
  ·rw[if_neg h,if_neg h,<-ih];rfl
theorem rD:∀(us:List Nat) (L:AA),L.ren σ δ=L.ren σ' δ->(zG n k l d us L).ren σ δ=(zG n k l d us L).ren σ' δ
 |[],_,h=>h
 |u::us,L,h=>by
  unfold zG;split
  ·rename_i g r e;obtain⟨h1,h2⟩:=AE6 h e;have ih:=rD us (JP u L) (by rw[aY,aY,h]);simp only[AA.ren,bh,fk.injEq,dt.injEq,true_and];exact⟨⟨h1,rC h2⟩,ih⟩
  ·exact rD us L h
theorem ARL{us:List Nat}{γ:Nat}{r:AX}(hr:s.loc.get k=some (γ,r))(h:s.emb σ pre=s.emb σ' pre):(qY k l d us s (some (γ,r))).emb σ pre=(qY k l d us s (some (γ,r))).emb σ' pre:=by
 have h0:=h;simp only[St.emb,St.mk.injEq,dk]at h;obtain⟨h1,h2⟩:=AE6 h.2 hr;unfold qY;rw[CS,CS,h1,rC h2];congr 1;simp only[St.emb,St.mk.injEq,dk];refine⟨?_,AE5 _ h.2⟩;apply List.ext_getElem?;intro i;have hi:=congrArg (·[i]?) h.1;simp only[List.getElem?_map,ct]at hi|-;cases hu:s.up[i]? with
 |none=>rfl
 |some L=>
  rw[hu]at hi
  simp only[db,dr.injEq,dg]at hi|-
  split
  ·exact rD us L hi
  ·exact hi
theorem AKE{us:List Nat}{st:XS}(h:Bd st):K6 st (aW k l d us st):=by
 unfold aW;cases ho:QK l st.s.up.length (st.s.loc.get k)with
 |false=>exact⟨bg _,h,rfl⟩
 |true=>
  cases hr:st.s.loc.get k with
  |none=>rw[hr]at ho;cases ho
  |some x=>
   obtain⟨γ,r⟩:=x
   rw[hr]at ho
   simp only[QK,bj,Nat.ble_eq]at ho
   refine⟨bg _,⟨fun σ σ' δ ha=>?_,fun σ σ' pre ha=>ARL hr (h.s σ σ' pre ha),fun l1 k1 γ' fr ps asg body N ls hg=>?_⟩,vB⟩
   ·have q:=h.f σ σ' δ ha;simp only[jH,Fr.ren,bc]at q|-;refine bk fun x hx=>?_;have:=bz.1 q x hx;simp only[dt.injEq,true_and]at this;simp only[Function.comp,dt.injEq,true_and];exact rA 3 _ this
   ·have nl:∀r0:AX,(AX.loop fr ps asg body N ls)=QX st.s.up.length k l d r0->r0=.loop fr ps asg body N ls:=by intro r0 e;cases r0<;>first|exact e.symm|cases e
    rcases vA hg with⟨_,_,e⟩|⟨_,_,e⟩
    ·have e2:AX.loop fr ps asg body N ls=QX st.s.up.length k l d r:=congrArg Prod.snd e;have:=nl r e2;subst this;exact absurd ho.2 (by simp[cA])
    ·rcases e with e|⟨r0,e,e2⟩
     ·exact h.lp l1 k1 γ' fr ps asg body N ls e
     ·have:=nl r0 e2;subst this;exact h.lp l1 k1 γ' fr ps asg body N ls e
def rF(n:Nat)(o:Option (Nat×AX)):List Nat:=match o with
 |some (_,.vec _ es)=>es.filterMap fun e=>match e with
  |[.vec l k _ _]=>if l=n then some k else none
  |_=>none
 |_=>[]
def AE7(k:Nat)(st:XS):XS:=O6 (rF st.s.up.length (st.s.loc.get k)) st
def KY(p:Nat)(st:XS):Nat:=match p with
 |0=>st.s.up.length-1
 |p+1=>match BS st.fr p with
  |some (true,.ptr l _ _ _)=>l
  |_=>0
def aZ(B i:Nat)(st:XS):Nat:=match i with
 |0=>B
 |i+1=>match BS st.fr i with
  |some (true,.int _ n)=>B+n.toNat
  |_=>B
def mvX(k B i p u:Nat)(st:XS):XS:=aW k (KY p st) (aZ B i st) (match u with|0=>[]|u+1=>[u]) st
def jI:V->V
 |.nil=>.list false []
 |v=>v
def wkR:AX->AX
 |.vec T es=>.vec T (es.map (dw jI))
 |.box cs=>.box (cs.map jI)
 |r=>r
def dB(k:Nat):AA->AA
 |[]=>[]
 |(j,g,r)::L=>(j,g,if j=k then wkR r else r)::dB k L
def wk1(k:Nat)(st:XS):XS:=⟨st.c,st.fr,⟨st.s.up,dB k st.s.loc⟩⟩
theorem AKF(v:V):(jI v).ren σ δ=jI (v.ren σ δ):=by cases v<;>simp[jI]
theorem nA(cs:List V):(cs.map jI).map (V.ren σ δ)=(cs.map (V.ren σ δ)).map jI:=by rw[bc,bc];exact bk fun v _=>AKF v
theorem AKG(r:AX):(wkR r).ren σ δ=wkR (r.ren σ δ):=by
 cases r with
 |box cs=>simp only[wkR,AX.ren,nA]
 |vec T es=>
  simp only[wkR,AX.ren,bc,AX.vec.injEq,true_and]
  exact bk fun e _=>nA e
 |_=>rfl
theorem vC(k:Nat):∀L:AA,(dB k L).ren σ δ=dB k (L.ren σ δ)
 |[]=>rfl
 |(j,g,r)::L=>by
  have ih:=vC k L;simp only[AA.ren]at ih;simp only[dB,AA.ren,bh,ih,fk.injEq,dt.injEq,true_and,and_true];split
  ·exact AKG r
  ·rfl
theorem vD(k:Nat):∀(L:AA) (j:Nat),(dB k L).get j=if j=k then(L.get j).map (fun x=>(x.1,wkR x.2)) else L.get j
 |[],j=>by simp[dB]
 |(i,g,r)::L,j=>by
  have ih:=vD k L j;simp only[dB,AA.get];by_cases hj:j=i
  ·subst hj;rw[if_pos rfl,if_pos rfl];by_cases h:j=k
   ·rw[if_pos h,if_pos h];rfl
   ·rw[if_neg h,if_neg h]
  ·rw[if_neg hj,if_neg hj,ih]
theorem AE8{v:V}(h:v.isCell=true):(jI v).isCell=true:=by cases v<;>first|exact h|rfl
theorem AKH{G:Gh}{x:V}{v:fp}(h:RepV G x v):RepV G (jI x) v:=by
 cases x with
 |nil=>exact h.empty
 |_=>exact h
theorem nB{G:Gh}{cs:List V}{vs:List fp}(h:RepL G cs vs):RepL G (cs.map jI) vs :=
 ⟨by simpa using h.1,fun i p q=>by
  have r:=h.2 i (by simpa using p) q;simp only[bf];exact⟨AE8 r.1,AKH r.2⟩⟩
theorem AKI{G:Gh}{w:fh}{g:Nat}{r:AX}(h:JI G g w r):JI G g w (wkR r):=by
 cases r with
 |box cs=>
  obtain⟨b,arr,T,h1,h2,h3⟩:=h
  exact⟨b,arr,T,by simpa using h1,h2,nB h3⟩
 |vec T es=>
  obtain⟨b,sz,C,h1,h2,h3,h4,h5⟩:=h
  refine⟨b,sz,C,h1,by simpa using h2,fun e he=>?_,⟨h4.1,fun h=>h4.2 (by simpa using h)⟩,fun hC=>?_⟩
  ·obtain⟨e2,he2,rfl⟩:=cq.1 he;simpa using h3 e2 he2
  ·obtain⟨arr,h6,h7,h8⟩:=h5 hC;refine⟨arr,h6,h7,?_⟩;have q:=nB h8;rw[bm]at q;simpa using q
 |_=>exact h
theorem AE9(G:Gh)(g:Nat)(r:AX):BK G g (wkR r)=BK G g r:=by cases r<;>rfl
theorem AFA{s:St}{k l j:Nat}{x:Nat×AX}(h:St.get ⟨s.up,dB k s.loc⟩ l j=some x):∃r,s.get l j=some (x.1,r)/\(x.2=r\/x.2=wkR r):=by
 unfold St.get at h|-;split at h
 ·rename_i e;rw[if_pos e];have h:(dB k s.loc).get j=some x:=h;rw[vD]at h;split at h
  ·cases hg:s.loc.get j with
   |none=>rw[hg]at h;cases h
   |some y=>rw[hg]at h;cases h;exact⟨_,rfl,.inr rfl⟩
  ·exact⟨_,h,.inl rfl⟩
 ·rename_i e;rw[if_neg e];exact⟨_,h,.inl rfl⟩
theorem ARM{G:Gh}{s:St}{w:fh}{k:Nat}(hI:CU G s w):CU G ⟨s.up,dB k s.loc⟩ w:=by
 have look:∀{l j g r},St.get ⟨s.up,dB k s.loc⟩ l j=some (g,r)->∃r0,s.get l j=some (g,r0)/\JI G g w r/\BK G g r=BK G g r0:=by
  intro l j g r h;obtain⟨r0,h1,h2⟩:=AFA h;refine⟨r0,h1,?_⟩;have h3:=hI.res _ _ _ _ h1;rcases h2 with h2|h2
  ·simp only at h2;subst h2;exact⟨h3,rfl⟩
  ·simp only at h2;subst h2;exact⟨AKI h3,AE9 _ _ _⟩
 refine⟨hI.sl,fun l k g r h=>(by obtain⟨r0,_,h2,_⟩:=look h;exact h2),fun l k g r l' k' g' r' b h1 h2 h3 h4=>?_,fun l k g r b h1 h2=>?_,hI.fresh,hI.env⟩
 ·rcases look h1 with⟨r1,e1,_,o1⟩;rcases look h2 with⟨r2,e2,_,o2⟩;exact hI.sep _ _ _ _ _ _ _ _ _ e1 e2 (o1▸h3) (o2▸h4)
 ·rcases look h1 with⟨r1,e1,_,o1⟩;exact hI.out _ _ _ _ _ e1 (o1▸h2)
theorem iL{k:Nat}{st:XS}:(wk1 k st).s.emb σ pre=⟨(st.s.emb σ pre).up,dB k (st.s.emb σ pre).loc⟩:=by simp only[wk1,St.emb,vC]
theorem AFB{m N:Nat}{ρ:Option Nat}{c:Code}{K:Exit->Fr->St->Prop}{k:Nat}{st:XS}(h:BI P m N ρ c K ((wk1 k st).fr.ren σ pre.length) ((wk1 k st).s.emb σ pre)):BI P m N ρ c K (st.fr.ren σ pre.length) (st.s.emb σ pre):=by intro G0 G a w hR;rw[iL]at h;exact h G0 G a w ⟨hR.le,ARM hR.inv,hR.fr,hR.size,hR.lvl,hR.marks⟩
theorem AKJ{k:Nat}{st:XS}(h:Bd st):K6 st (wk1 k st):=by
 refine⟨bg _,⟨h.f,fun σ σ' pre ha=>by rw[iL,iL,h.s σ σ' pre ha],fun l j γ fr ps asg body N ls hg=>?_⟩,rfl⟩;obtain⟨r,h1,h2⟩:=AFA (s:=st.s) hg;have e:r=.loop fr ps asg body N ls:=by
  rcases h2 with h2|h2
  ·exact h2.symm
  ·cases r<;>first|exact h2.symm|cases h2
 subst e;exact h.lp l j γ fr ps asg body N ls h1
def vE(k:Nat)(st:XS):XS:=Bool.rec (Bool.rec (Bool.rec (wk1 (k % 1000) st) (AE7 (k % 1000) st) (ck k 2000000000000000))
 (mvX ((k-1000) % 1000) ((k-1000) / 1000 % 1000) ((k-1000) / 1000000 % 1000) ((k-1000) / 1000000000 % 1000) ((k-1000) / 1000000000000) st) (ck k 1000000000000000)) (IV k st) (ck k 1000)
def LR(ks:List Nat)(st:XS):XS:=List.rec (motive:=fun _=>XS->XS) (fun st=>st) (fun k _ ih st=>ih (vE k st)) ks st
theorem A3S{us:List Nat}{st:XS}:(aW k l d us st).c=st.c:=by unfold aW;cases QK l st.s.up.length (st.s.loc.get k)<;>rfl
theorem A3T{k:Nat}{st:XS}:(vE k st).c=st.c:=by
 unfold vE;cases ck k 1000 with
 |true=>rfl
 |false=>cases ck k 1000000000000000 with
  |true=>exact A3S
  |false=>cases ck k 2000000000000000 with
   |true=>exact uW _ _
   |false=>rfl
theorem AKK{k:Nat}{st:XS}(h:Bd st):K6 st (vE k st):=by
 unfold vE;cases ck k 1000 with
 |true=>exact eV h
 |false=>cases ck k 1000000000000000 with
  |true=>exact AKE h
  |false=>cases ck k 2000000000000000 with
   |true=>exact eW _ h
   |false=>exact AKJ h
theorem AFC{m N:Nat}{ρ:Option Nat}{c:Code}{K:Exit->Fr->St->Prop}{k:Nat}{st:XS}(h:BI P m N ρ c K ((vE k st).fr.ren σ pre.length) ((vE k st).s.emb σ pre)):BI P m N ρ c K (st.fr.ren σ pre.length) (st.s.emb σ pre):=by
 unfold vE at h;cases h1:ck k 1000 with
 |true=>rw[h1]at h;exact aS h
 |false=>
  rw[h1]at h
  cases h2:ck k 1000000000000000 with
  |true=>rw[h2]at h;exact AE4 h
  |false=>
   rw[h2]at h
   cases h3:ck k 2000000000000000 with
   |true=>rw[h3]at h;exact aT _ h
   |false=>rw[h3]at h;exact AFB h
theorem ANG:∀(ks:List Nat) (st:XS),(LR ks st).c=st.c
 |[],_=>rfl
 |k::ks,st=>(ANG ks (vE k st)).trans A3T
theorem vF:∀(ks:List Nat) {st:XS},Bd st->K6 st (LR ks st)
 |[],st,h=>⟨bg _,h,rfl⟩
 |k::ks,st,h=>by have h1:=AKK (k:=k) h;have h2:=vF ks h1.bd;exact⟨dq h1.c h2.c,h2.bd,h2.n.trans h1.n⟩
theorem nC{m N:Nat}{ρ:Option Nat}{c:Code}{K:Exit->Fr->St->Prop}:∀(ks:List Nat) {st:XS},BI P m N ρ c K ((LR ks st).fr.ren σ pre.length) ((LR ks st).s.emb σ pre)->BI P m N ρ c K (st.fr.ren σ pre.length) (st.s.emb σ pre)
 |[],_,h=>h
 |k::ks,st,h=>AFC (k:=k) (nC ks (st:=vE k st) h)
end Go.Pg
namespace Go.Pg
variable {P:fc}{n N:Nat}{ρ:Option Nat}{G0 G:Gh}{fr fr':Fr}{s s':St}{a:Act}{w:fh}{l:List fx}{gs:List (Option (Tmp×Bool))}{e:Nat}{σ σ':Nat->Nat}{δ:Nat}{pre:List AA}
def IX(P:fc)(l:List fx)(gs:List (Option (Tmp×Bool)))(e i:Nat)(fr:Fr)(s:St)(k:Fr->St->Prop):Prop:=match l[i]? with
 |some o=>if i=e then ∃f args,QH fr (bZ gs i)=some true/\JM true o fr=some (f,args)/\FD P f args s fun r s'=>k (putD fr o.dst true r) s'
  else ∃v,QH fr (bZ gs i)=some true/\(∀s,F1 P true o fr s=some v)/\k (putD fr o.dst true v) s
 |none=>False
def iM(P:fc)(l:List fx)(gs:List (Option (Tmp×Bool)))(e:Nat)(T:Array Bool->Fr->St->Prop):Nat->List Nat->Array Bool->Fr->St->Prop
 |0,_,listed,fr,s=>T listed fr s
 |m+1,R,listed,fr,s=>yH l listed≠[]/\∀j∈yH l listed,j∈R/\IX P l gs e j fr s (iM P l gs e T m (R.erase j) (listed.setIfInBounds j true))
def LJ(fr fr':Fr):Prop:=∀k,fr.get k=fr'.get k
theorem LJ.same(h:LJ fr fr'):GV fr ⟨[],[]⟩ fr' ⟨[],[]⟩:=⟨h,fun _ _=>rfl,rfl⟩
theorem LJ.putD(h:LJ fr fr')(d:Option Tmp)(c:Bool)(v:V):LJ (Pg.putD fr d c v) (Pg.putD fr' d c v):=(h.same.putD d c v).f
variable {T:Array Bool->Fr->St->Prop}
theorem nD{i:Nat}{k k':Fr->St->Prop}(h:IX P l gs e i fr s k)(hf:LJ fr fr')(hk:∀f1 f2 s1,LJ f1 f2->k f1 s1->k' f2 s1):IX P l gs e i fr' s k':=by
 unfold IX at h|-;split
 ·rename_i o ho;simp only[ho]at h;split
  ·rename_i hi;rw[if_pos hi]at h;obtain⟨f,args,h1,h2,h3⟩:=h;exact⟨f,args,(hf.same.gd _).symm.trans h1,(HH fun x _=>(hf.same.rd x).symm).trans h2,h3.mono fun r s1=>hk _ _ _ (hf.putD _ _ _)⟩
  ·rename_i hi;rw[if_neg hi]at h;obtain⟨v,h1,h2,h3⟩:=h;exact⟨v,(hf.same.gd _).symm.trans h1,fun s1=>(HB fun x _=>(hf.same.rd x).symm).trans (h2 s1),hk _ _ _ (hf.putD _ _ _) h3⟩
 ·rename_i ho;simp only[ho]at h
theorem NG{i:Nat}{k k':Fr->St->Prop}(h:IX P l gs e i fr s k)(hk:∀f1 s1,k f1 s1->k' f1 s1):IX P l gs e i fr s k':=by
 unfold IX at h|-;split
 ·rename_i o ho;simp only[ho]at h;split
  ·rename_i hi;rw[if_pos hi]at h;obtain⟨f,args,h1,h2,h3⟩:=h;exact⟨f,args,h1,h2,h3.mono fun r s1=>hk _ _⟩
  ·rename_i hi;rw[if_neg hi]at h;obtain⟨v,h1,h2,h3⟩:=h;exact⟨v,h1,h2,hk _ _ h3⟩
 ·rename_i ho;simp only[ho]at h
theorem bA(hT:∀listed fr fr' s,LJ fr fr'->T listed fr s->T listed fr' s):∀(m:Nat) (R:List Nat) (listed:Array Bool) (fr fr':Fr) (s:St),LJ fr fr'->iM P l gs e T m R listed fr s->iM P l gs e T m R listed fr' s
 |0,_,_,_,_,_,hs,h=>hT _ _ _ _ hs h
 |m+1,_,_,_,_,_,hs,h=>⟨h.1,fun j hj=>⟨(h.2 j hj).1,nD (h.2 j hj).2 hs fun _ _ _ h12 h'=>bA hT m _ _ _ _ _ h12 h'⟩⟩
theorem rG{i j:Nat}{oi oj:fx}{k k':Fr->St->Prop}(hi:l[i]? = some oi)(hj:l[j]? = some oj)(hie:i≠e)(hij:HI oj (bZ gs j) oi.dst)(hji:HI oi (bZ gs i) oj.dst)(hne:∀d,oi.dst=some d->oj.dst≠some d)
  (h:IX P l gs e i fr s fun f1 s1=>IX P l gs e j f1 s1 k) (hk:∀f1 f2 s1,LJ f1 f2->k f1 s1->k' f2 s1):IX P l gs e j fr s fun f2 s2=>IX P l gs e i f2 s2 k':=by
 have hcomm:∀(v v':V),LJ (putD (putD fr oi.dst true v) oj.dst true v') (putD (putD fr oj.dst true v') oi.dst true v):=by
  intro v v' t;simp only[GW];by_cases e1:oj.dst=some t
  ·have:oi.dst≠some t:=fun e2=>hne t e2 e1;simp[e1,this]
  ·simp[e1]
 unfold IX at h|-
 simp only[hi,hj,if_neg hie]at h|-
 obtain⟨v,g1,hv,h⟩:=h
 by_cases hje:j=e
 ·rw[if_pos hje]at h|-;obtain⟨f,args,g2,hc,h⟩:=h;exact⟨f,args,(hij.gd true v).symm.trans g2,(HH (hij.rd true v)).symm.trans hc,h.mono fun r s1 hk'=>⟨v,(hji.gd true r).trans g1,fun s2=>(HB (hji.rd true r)).trans (hv s2),hk _ _ _ (hcomm v r) hk'⟩⟩
 ·rw[if_neg hje]at h|-;obtain⟨u,g2,hu,h⟩:=h;exact⟨u,(hij.gd true v).symm.trans g2,fun s2=>(HB (hij.rd true v)).symm.trans (hu s2),v,(hji.gd true u).trans g1,fun s2=>(HB (hji.rd true u)).trans (hv s2),hk _ _ _ (hcomm v u) h⟩
structure vG(l:List fx)(gs:List (Option (Tmp×Bool)))(e i:Nat)(oi:fx)(B:List Nat)(R:List Nat)(listed:Array Bool):Prop where
 ready:i∈yH l listed
 mem:i∈R
 wait:∀b∈B,∃o,l[b]? = some o/\∃x∈o.after,Region.binds .any x=true/\(x.on=i\/x.on∈B)
 un:∀b∈B,listed.getD b true=false
 free:∀j oj,l[j]? = some oj->j≠i->j∉B->listed.getD j true=false->i≠e/\j∈R/\HI oj (bZ gs j) oi.dst/\HI oi (bZ gs i) oj.dst/\(∀d,oi.dst=some d->oj.dst≠some d)
theorem vG.blocked{i:Nat}{oi:fx}{B R:List Nat}{listed:Array Bool}(h:vG l gs e i oi B R listed){j:Nat}(hj:j∈yH l listed):j∉B:=by
 intro hb;obtain⟨_,o,ho,hall⟩:=mem_ready.1 hj;obtain⟨o',ho',x,hx,hbi,hon⟩:=h.wait j hb;have:o=o':=by simpa [ho']using ho.symm
 subst this;have h1:=hall x hx hbi;rcases hon with hon|hon
 ·rw[hon,XP (mem_ready.1 h.ready).1]at h1;cases h1
 ·rw[XP (h.un _ hon)]at h1;cases h1
theorem rH(hT:∀listed fr fr' s,LJ fr fr'->T listed fr s->T listed fr' s){i:Nat}{oi:fx}{B:List Nat}(hi:l[i]? = some oi):∀(m:Nat) (R:List Nat) (listed:Array Bool) (fr:Fr) (s:St),
  vG l gs e i oi B R listed->R.length=m+1->R.Nodup->IX P l gs e i fr s (iM P l gs e T m (R.erase i) (listed.setIfInBounds i true))->iM P l gs e T (m+1) R listed fr s:=by
 intro m
 induction m with
 |zero=>
  intro R listed fr s hF hlen _ h
  refine⟨fun e=>?_,fun j hj=>?_⟩
  ·have:=hF.ready;rw[e]at this;cases this
  ·by_cases hji:j=i
   ·subst hji;exact⟨hF.mem,h⟩
   ·obtain⟨hun,oj,hoj,_⟩:=mem_ready.1 hj;have hR:=(hF.free j oj (by simpa using hoj) hji (hF.blocked hj) hun).2.1;exfalso;obtain⟨x,rfl⟩:=List.length_eq_one_iff.1 hlen;have e1:=hF.mem;simp at e1 hR;exact hji (hR.trans e1.symm)
 |succ m ih=>
  intro R listed fr s hF hlen hnd h
  refine⟨fun e=>?_,fun j hj=>?_⟩
  ·have:=hF.ready;rw[e]at this;cases this
  ·by_cases hji:j=i
   ·subst hji;exact⟨hF.mem,h⟩
   ·obtain⟨hun,oj,hoj,_⟩:=mem_ready.1 hj;have hoj':l[j]? = some oj:=by simpa using hoj
    have hjB:=hF.blocked hj;obtain⟨hie,hjR,b1,b2,hne⟩:=hF.free j oj hoj' hji hjB hun;refine⟨hjR,?_⟩;have h1:IX P l gs e i fr s fun f1 s1=>IX P l gs e j f1 s1 (iM P l gs e T m ((R.erase i).erase j) ((listed.setIfInBounds i true).setIfInBounds j true)) :=
     NG h fun f1 s1 h'=>(h'.2 j (ready_mono hj hji)).2
    have h2:=rG hi hoj' hie b1 b2 hne h1 fun f1 f2 s1 h12 h'=>bA hT _ _ _ _ _ _ h12 h';refine NG h2 fun f1 s1 h'=>?_;have hlt:j<listed.size:=by
     rcases cg j listed.size with h'|h'
     ·exact h'
     ·simp[cm h']at hun
    refine ih (R.erase j) (listed.setIfInBounds j true) f1 s1 ⟨ready_mono hF.ready (Ne.symm hji),(dl (Ne.symm hji)).2 hF.mem,hF.wait,fun b hb=>?_,fun k ok hk hki hkB hku=>?_⟩ ?_ (hnd.erase j) ?_
    ·rw[getD_set_ne true (fun e=>hjB (by rw[e];exact hb))];exact hF.un b hb
    ·have hkj:k≠j:=by intro e;subst e;simp[hlt]at hku
     rw[getD_set_ne true (Ne.symm hkj)]at hku;obtain⟨q0,q1,q2⟩:=hF.free k ok hk hki hkB hku;exact⟨q0,(dl hkj).2 q1,q2⟩
    ·rw[dv hjR,hlen];rfl
    ·rw[List.erase_comm,Array.setIfInBounds_comm _ _ hji];exact h'
def O8(P:fc)(l:List fx)(gs:List (Option (Tmp×Bool)))(e:Nat):List Nat->Fr->St->(Fr->St->Prop)->Prop
 |[],fr,s,K=>K fr s
 |i::r,fr,s,K=>IX P l gs e i fr s fun fr s=>O8 P l gs e r fr s K
theorem bB:∀(R:List Nat) (fr:Fr) (s:St) (k k':Fr->St->Prop),(∀f1 s1,k f1 s1->k' f1 s1)->O8 P l gs e R fr s k->O8 P l gs e R fr s k'
 |[],_,_,_,_,hk,h=>hk _ _ h
 |_::r,_,_,k,k',hk,h=>NG h fun _ _ h'=>bB r _ _ k k' hk h'
def PhY(l:List fx)(gs:List (Option (Tmp×Bool)))(e:Nat):List Nat->Array Bool->Prop
 |[],_=>True
 |i::r,listed=>(∃oi B,l[i]? = some oi/\vG l gs e i oi B (i::r) listed)/\PhY l gs e r (listed.setIfInBounds i true)
theorem T6(hT:∀listed fr fr' s,LJ fr fr'->T listed fr s->T listed fr' s):∀(R:List Nat) (listed:Array Bool) (fr:Fr) (s:St),R.Nodup->PhY l gs e R listed ->
  O8 P l gs e R fr s (T (R.foldl (fun L i=>L.setIfInBounds i true) listed))->iM P l gs e T R.length R listed fr s
 |[],_,_,_,_,_,h=>h
 |i::r,listed,fr,s,hnd,hp,h=>by obtain⟨⟨oi,B,hi,hF⟩,hp⟩:=hp;refine rH hT hi r.length (i::r) listed fr s hF rfl hnd ?_;rw[List.erase_cons_head];exact NG h fun f1 s1 h'=>T6 hT r _ _ _ (dm.1 hnd).2 hp h'
theorem rI{o:fx}{f:FuncId}{args:List V}{k:Fr->St->Prop}(hc:JM true o fr=some (f,args))(h:FD P f args s fun r s'=>k (putD fr o.dst true r) s'):EQ P true o fr s k:=by
 unfold JM at hc;unfold EQ;split at hc
 ·rename_i f' args' argTypes' ho;simp only[ho];split at hc
  ·rename_i fid first cap vs e1 e2;cases hc;simp only[e1,e2];exact .inl ⟨rfl,h⟩
  ·cases hc
 ·cases hc
theorem bC{K:Exit->Fr->St->Prop}(hN:MG N l=true)(hg:J5 l gs l=true){t:Nat}(hT:∀listed fr s G a w,T listed fr s->JT n N G0 G fr s a w->wpAnyIn (wf ρ) 0 P .any l.toArray (LN n N G0 K) t listed a w) :
  ∀(m:Nat) (R:List Nat) (listed:Array Bool) (G:Gh) (fr:Fr) (s:St) (a:Act) (w:fh),JT n N G0 G fr s a w->iM P l gs e T m R listed fr s->wpAnyIn (wf ρ) 0 P .any l.toArray (LN n N G0 K) (m+t) listed a w
 |0,_,listed,G,fr,s,a,w,hR,h=>by rw[dc];exact hT _ _ _ _ _ _ h hR
 |m+1,R,listed,G,fr,s,a,w,hR,h=>by
  rw[Nat.add_right_comm];refine⟨fun h0=>absurd h0 h.1,fun j hj=>?_⟩;have h':=(h.2 j hj).2;unfold IX at h';split at h'
  ·rename_i o ho;have main:QH fr (bZ gs j)=some true->TI P true o fr s (iM P l gs e T m (R.erase j) (listed.setIfInBounds j true))->wpOpIn (wf ρ) 0 P l.toArray (LN n N G0 K) j (wpAnyIn (wf ρ) 0 P .any l.toArray (LN n N G0 K) (m+t) (listed.setIfInBounds j true)) a w:=fun hgd hst=>
    HZ hR hN hg ho hgd hst fun G' a' w' fr' s' hR' hk=>bC hN hg hT m _ _ G' fr' s' a' w' hR' hk
   split at h'
   ·obtain⟨f,args,h1,h2,h3⟩:=h';exact main h1 (.inl (rI h2 h3))
   ·obtain⟨v,h1,h2,h3⟩:=h';exact main h1 (.inl (DU (Ω:=HX.nothing P) (.inl ⟨v,h2 s,h3⟩)))
  ·cases h'
def vH(l:List fx)(i j:Nat):Bool:=cw (Nat.land (dsM l i) (Nat.lor (lkM l j) (dsM l j))) 0&&cw (Nat.land (dsM l j) (lkM l i)) 0
theorem rJ{i j:Nat}{oi oj:fx}(hi:l[i]? = some oi)(hj:l[j]? = some oj)(h:vH l i j=true) :
  (∀d,oi.dst=some d->d∉oj.looksAt l.toArray)/\(∀d,oi.dst=some d->oj.dst≠some d)/\(∀d,oj.dst=some d->d∉oi.looksAt l.toArray):=by
 unfold vH dsM lkM at h
 simp only[hi,hj,bj]at h
 obtain⟨h1,h2⟩:=h
 refine⟨fun d hd hm=>?_,fun d hd he=>?_,fun d hd hm=>?_⟩
 ·rw[hd]at h1;refine GB h1 (j:=d) (by rw[CL];simp) ?_;rw[testBit_or,DQ.2 hm];rfl
 ·rw[hd,he]at h1;refine GB h1 (j:=d) (by rw[CL];simp) ?_;rw[testBit_or,CL];simp
 ·rw[hd]at h2;exact GB h2 (j:=d) (by rw[CL];simp) (DQ.2 hm)
def AKL(l:List fx)(tl:List Nat)(e:Nat):List Nat->Nat->Bool
 |[],_=>true
 |i::r,done=>HY (LC i (afL l 0) 0) fun B=>
  ck i l.length&&!(VC done i)&&OV l i done&&cw (Nat.land B done) 0&&tl.all (VC B)&&r.all (fun j=>VC B j||(!(cw i e)&&vH l i j))&&HY (Nat.lor done (Nat.shiftLeft 1 i)) (AKL l tl e r)
theorem eX{tl:List Nat}(hg:J5 l gs l=true):∀{R:List Nat} {done:Nat} {listed:Array Bool},K5 l (R++tl) done listed->AKL l tl e R done=true->PhY l gs e R listed
 |[],_,_,_,_=>trivial
 |i::r,done,listed,hL,h=>by
  unfold AKL at h;rw[FH,FH]at h;simp only[bj,Bool.not_eq_true',bx,Bool.or_eq_true]at h;obtain⟨⟨⟨⟨⟨⟨h1,h2⟩,h3⟩,h4⟩,h5⟩,h6⟩,h7⟩:=h;have hi:i<l.length:=by simpa [fq]using h1
  have hw:=M5 (l:=l) (i:=i) (js:=afL l 0) (B:=0) (fun p hp=>by
   obtain⟨k,o,e1,e2,e3⟩:=gU (j:=p.1) (m:=p.2) hp;exact⟨o,by rw[e1,dc]; exact e2,e3⟩) (fun b hb=>by simp at hb)
  generalize LC i (afL l 0) 0=B at *;have hb:∀b,b∈(fj l.length).filter (fun b=>B.testBit b)↔B.testBit b=true:=fun b=>by rw[List.mem_filter,List.mem_range];refine⟨fun h=>h.2,fun h=>⟨?_,h⟩⟩;obtain⟨o,ho,_⟩:=hw b h;exact(bw.1 ho).1
  refine⟨⟨l[i],(fj l.length).filter (fun b=>B.testBit b),bn hi,⟨hL.ready hi h2 h3,by simp,fun b hbm=>?_,fun b hbm=>?_,fun j oj hj hji hjB hun=>?_⟩⟩,eX hg (hL.next hi) h7⟩
  ·obtain⟨o,ho,x,he,hbi,hon⟩:=hw b ((hb b).1 hbm);exact⟨o,ho,x,he,hbi,hon.imp id fun h=>(hb _).2 h⟩
  ·have hbt:=(hb b).1 hbm;refine hL.un.2 ⟨?_,?_⟩
   ·obtain⟨o,ho,_⟩:=hw b hbt;exact(bw.1 ho).1
   ·cases hd:done.testBit b with
    |false=>rfl
    |true=>exact(GB h4 hbt hd).elim
  ·obtain⟨hlt,hdn⟩:=hL.un.1 hun;have hnb:B.testBit j=false:=by
    cases hd:B.testBit j with
    |false=>rfl
    |true=>exact absurd ((hb j).2 hd) hjB
   rcases dn.1 (hL.cov j hlt hdn)with hm|hm
   ·rcases List.mem_cons.1 hm with rfl|hr
    ·exact absurd rfl hji
    ·have hp:i≠e/\vH l i j=true:=by
      rcases h6 j hr with h6|h6
      ·rw[TU,hnb]at h6;cases h6
      ·refine⟨fun he=>?_,h6.2⟩;have:=h6.1;rw[he,cn]at this;cases this
     obtain⟨a1,a2,a3⟩:=rJ (bn hi) hj hp.2;exact⟨hp.1,hm,TR (_x:=l[i]) a1 (M3 hg hj),TR (_x:=oj) a3 (M3 hg (bn hi)),a2⟩
   ·have:=h5 j hm;rw[TU,hnb]at this;cases this
abbrev dC:=List (List Nat×Nat)
def O9(S:dC):List Nat:=S.flatMap fun p=>p.1
def vI(l:List fx):dC->Nat->Bool
 |[],_=>true
 |(R,e)::S,done=>R.all (ck · l.length)&&Z2 R&&AKL l (O9 S) e R done&&HY (AD7 done R) (vI l S)
def iN(N:Nat)(gs:List (Option (Tmp×Bool)))(S:dC)(l:List fx):Bool :=
 MG N l&&J5 l gs l&&vI l S 0&&cw (O9 S).length l.length&&cw (NR (O9 S)) (2 ^ l.length-1)
def iO(P:fc)(l:List fx)(gs:List (Option (Tmp×Bool))):dC->Fr->St->(Fr->St->Prop)->Prop
 |[],fr,s,K=>K fr s
 |(R,e)::S,fr,s,K=>O8 P l gs e R fr s fun fr s=>iO P l gs S fr s K
theorem JT.sameF(h:JT n N G0 G fr s a w)(hs:LJ fr fr'):JT n N G0 G fr' s a w:=h.same ⟨hs,fun _ _=>rfl,rfl⟩
theorem T7{K:Exit->Fr->St->Prop}(hN:MG N l=true)(hg:J5 l gs l=true):∀(S:dC) (done:Nat) (listed:Array Bool),K5 l (O9 S) done listed->vI l S done=true ->
  ∀(G:Gh) (fr:Fr) (s:St) (a:Act) (w:fh),JT n N G0 G fr s a w->iO P l gs S fr s (K .normal)->wpAnyIn (wf ρ) 0 P .any l.toArray (LN n N G0 K) (O9 S).length listed a w
 |[],done,listed,hL,_,G,fr,s,a,w,hR,h=>by refine⟨cd.2 fun j hj=>?_,G,fr,s,hR,h⟩;obtain⟨h1,o,ho,_⟩:=mem_ready.1 hj;obtain⟨hlt,hdn⟩:=hL.un.1 h1;exact absurd (hL.cov j hlt hdn) (by simp[O9])
 |(R,e)::S,done,listed,hL,hM,G,fr,s,a,w,hR,h=>by
  unfold vI at hM;rw[FH]at hM;simp only[bj]at hM;obtain⟨⟨⟨h1,h2⟩,h3⟩,h4⟩:=hM;have hfl:O9 ((R,e)::S)=R++O9 S:=by simp[O9]
  rw[hfl]at hL;have hL1:=hL.fold (fun i hi=>by simpa [fq]using bx.1 h1 i hi);have hP:=eX hg hL h3;let T:Array Bool->Fr->St->Prop:=fun listed fr s=>∀G a w,JT n N G0 G fr s a w->wpAnyIn (wf ρ) 0 P .any l.toArray (LN n N G0 K) (O9 S).length listed a w;have hw':O8 P l gs e R fr s (T (R.foldl (fun L i=>L.setIfInBounds i true) listed)) :=
   bB R fr s _ _ (fun f1 s1 h' G a w hR=>T7 hN hg S _ _ hL1 h4 G f1 s1 a w hR h') h
  have hA:=T6 (T:=T) (fun listed f1 f2 s hs hT G a w hR=>hT G a w (hR.sameF fun k=>(hs k).symm)) R _ fr s (OW h2) hP hw';have hB:=bC (ρ:=ρ) (K:=K) hN hg (T:=T) (t:=(O9 S).length) (fun listed f1 s1 G a w hT hR=>hT G a w hR) R.length R _ G fr s a _ hR hA;rw[hfl];simpa using hB
theorem rK{id:Nat}{K:Exit->Fr->St->Prop}(hm:P.follows .mixedOrders=true)(gs:List (Option (Tmp×Bool)))(S:dC)(hB:iN N gs S l=true)
  (h:iO P l gs S fr s (K .normal)):BI P n N ρ (.region id l.toArray true) K fr s:=by
 simp only[iN,bj]at hB
 obtain⟨⟨⟨⟨h1,h2⟩,h4⟩,h5⟩,h6⟩:=hB
 intro G0 G a w hR
 refine wpIn_region_any hm ?_
 have hR':JT n N G0 G fr s a { w with drawn:=w.drawn+1 }:=⟨hR.le,hR.inv.drawn _,hR.fr,hR.size,hR.lvl,hR.marks⟩
 have:=T7 (ρ:=ρ) (K:=K) h1 h2 S 0 _ (K5.start (l:=l) h6) h4 G fr s a _ hR' h
 rw[bq h5]at this
 simpa using this
def vJ(l:List fx):List Nat->List Nat->dC
 |[],left=>[(left,l.length)]
 |e::es,left=>(left.filter (fun i=>!(cw i e)&&!(es.any (cw i))&&!((e::es).any fun x=>VC (LC x (afL l 0) 0) i))++[e],e)::vJ l es (left.filter fun i=>!(cw i e)&&(es.any (cw i)||(e::es).any fun x=>VC (LC x (afL l 0) 0) i))
def AFD(l:List fx):dC:=vJ l ((fj l.length).filter fun i=>match l[i]? with
 |some o=>kC o
 | none=>false) (fj l.length)
def cY1(E:XE)(d:Option Tmp)(st:XS):Option V->Option (List V)->Option XS
 |some (.fn f first cap),some vs=>match E.cf f ((first++vs++cap).map weakV) st with
  |some (r,st')=>some ⟨st'.c,putD st'.fr d true r,st'.s⟩
  |none=>none
 |_,_=>none
def ARN(E:XE)(o:fx)(st:XS):Option XS:=match o.op with
 |.call c=>match c.callee with
  |.value f=>cY1 E o.dst st (CI st.fr f) (FT (CI st.fr) c.args.toList)
  |_=>none
 |_=>none
def ANH(st:XS):Option XS->Option XS
 |some st1=>some ⟨st.c,st1.fr,st.s⟩
 |none=>none
def ARO(P:fc)(o:fx)(st:XS):Option XS:=ANH st (cY P o ⟨st.c,st.fr,⟨[],[]⟩⟩)
def opY(P:fc)(E:XE)(l:List fx)(b:Bool)(o:fx)(st:XS):Option XS:=match gdX st.fr (LP l o)with
 |some true=>Bool.rec (ARO P o st) (ARN E o st) b
 |_=>none
def phY(P:fc)(E:XE)(l:List fx)(e:Nat):List Nat->XS->Option XS
 |[],st=>some st
 |i::r,st=>match l[i]? with
  |some o=>match opY P E l (cw i e) o st with
   |some st'=>phY P E l e r st'
   |none=>none
  |none=>none
def AKM(P:fc)(E:XE)(l:List fx):dC->XS->Option XS
 |[],st=>some st
 |p::S,st=>match phY P E l p.2 p.1 st with
  |some st1=>AKM P E l S st1
  |none=>none
def vK(P:fc)(E:XE)(N:Nat)(l:List fx)(st:XS):Option XS:=Bool.rec none (AKM P E l (AFD l) st) (iN N (l.map (LP l)) (AFD l) l)
theorem zH(n l k:Nat):(⟨cp n [],[]⟩:St).get l k=none:=by
 unfold St.get;split
 ·rfl
 ·split
  ·rename_i L hL;simp only[List.getElem?_replicate]at hL;split at hL
   ·cases hL;rfl
   ·cases hL
  ·rfl
theorem ARP{E:XE}(hEE:KW P E){b:Bool}{o:fx}{st st':XS}(h:Bd st)(hx:opY P E l b o st=some st'):K6 st st'/\(∀σ δ,QH (st.fr.ren σ δ) (LP l o)=some true) /\
  (b=true->∀(σ:Nat->Nat) (pre:List AA) (K:Fr->St->Prop),(∀σ',AQ st.c σ σ'->K (st'.fr.ren σ' pre.length) (st'.s.emb σ' pre))->∃f args,JM true o (st.fr.ren σ pre.length)=some (f,args)/\FD P f args (st.s.emb σ pre) fun r s'=>K (putD (st.fr.ren σ pre.length) o.dst true r) s') /\
  (b=false->∀(σ:Nat->Nat) (pre:List AA) (K:Fr->St->Prop),(∀σ',AQ st.c σ σ'->K (st'.fr.ren σ' pre.length) (st'.s.emb σ' pre))->∃v,(∀s,F1 P true o (st.fr.ren σ pre.length) s=some v)/\K (putD (st.fr.ren σ pre.length) o.dst true v) (st.s.emb σ pre)):=by
 unfold opY at hx
 split at hx
 ·rename_i hg;rw[qR]at hg;have hgd:∀σ δ,QH (st.fr.ren σ δ) (LP l o)=some true:=fun σ δ=>ND hg;cases b with
  |true=>
   have hx:ARN E o st=some st':=hx
   unfold ARN at hx
   split at hx
   ·rename_i c ho;split at hx
    ·rename_i f hc;unfold cY1 at hx;split at hx
     ·rename_i fid first cap vs hf hvs;split at hx
      ·rename_i r HP hcall;cases hx;have hbf:=AEH (h.rd hf);obtain⟨hE,hbr,hfr,hA⟩:=hEE.cf _ _ _ _ _ hcall h (fun v hv=>by
        obtain⟨u,hu,rfl⟩:=cq.1 hv;refine hJ ?_;rcases dn.1 hu with hu|hu
        ·rcases dn.1 hu with hu|hu
         ·exact hbf.1 u hu
         ·exact XR h hvs u hu
        ·exact hbf.2 u hu)
       refine⟨⟨hE.c,hE.bd.putF hbr,hE.n⟩,hgd,fun _ σ pre K hk=>?_,fun h=>(by cases h)⟩;refine⟨fid,(((first++vs++cap).map weakV).map (V.ren σ pre.length)),?_,?_⟩
       ·rw[D8]at hf;rw[LI,FN]at hvs;unfold JM;obtain⟨cal,args,Ts⟩:=c;have hc:cal=.value f:=hc;subst hc;have hvs':args.toList.mapM (D5 true (st.fr.ren σ pre.length))=some (vs.map (V.ren σ pre.length)):=by rw[J6];exact JN hvs
        simp only[ho,DR,hf,hvs',db,OZ];rw[H6];simp only[List.map_append]
       ·refine hA σ pre _ fun σ' ha=>?_;have:=hk σ' ha;rw[F2,hfr,<-h.f σ σ' pre.length ha]at this;exact this
      ·cases hx
     ·cases hx
    ·cases hx
   ·cases hx
  |false=>
   have hx:ARO P o st=some st':=hx
   unfold ARO ANH at hx
   split at hx
   ·rename_i st1 h1;cases hx;unfold cY at h1;split at h1
    ·rename_i v hv;cases h1;have hv:=PX hv;have hb0:Bd (⟨st.c,st.fr,⟨[],[]⟩⟩:XS):=⟨h.f,fun σ σ' pre _=>rfl,fun l k γ fr ps asg body N ls hg=>by simp[St.get]at hg⟩;have hbv:UL st.c v:=hb0.val hv;refine⟨⟨bg _,h.putF hbv,rfl⟩,hgd,fun h=>(by cases h),fun _ σ pre K hk=>⟨v.ren σ pre.length,fun s=>?_,?_⟩⟩
     ·have q:=JO (σ:=σ) (pre:=cp pre.length []) hv;simp only[dz]at q;refine lQ (fun l k x hx=>?_) q;have e0:(⟨[],[]⟩:St).emb σ (cp pre.length [])=⟨cp pre.length [],[]⟩:=by simp[St.emb,AA.ren]
      rw[e0,zH]at hx;cases hx
     ·have:=hk σ (AQ.refl _ _);rw[F2]at this;exact this
    ·cases h1
   ·cases hx
 ·cases hx
theorem AFE{E:XE}(hEE:KW P E):∀{R:List Nat} {st st':XS},Bd st->phY P E l e R st=some st'->K6 st st' /\
  ∀(σ:Nat->Nat) (pre:List AA) (K:Fr->St->Prop),(∀σ',AQ st.c σ σ'->K (st'.fr.ren σ' pre.length) (st'.s.emb σ' pre))->O8 P l (l.map (LP l)) e R (st.fr.ren σ pre.length) (st.s.emb σ pre) K
 |[],st,st',h,hx=>by cases hx;exact⟨⟨bg _,h,rfl⟩,fun σ pre K hk=>hk σ (AQ.refl _ _)⟩
 |i::r,st,st',h,hx=>by
  simp only[phY]at hx;split at hx
  ·rename_i o ho;split at hx
   ·rename_i st1 h1;obtain⟨hE,hg,h2,h3⟩:=ARP hEE h h1;obtain⟨hE',hs'⟩:=AFE hEE hE.bd hx;refine⟨⟨dq hE.c hE'.c,hE'.bd,hE'.n.trans hE.n⟩,fun σ pre K hk=>?_⟩;have hk1:∀σ',AQ st.c σ σ'->O8 P l (l.map (LP l)) e r (st1.fr.ren σ' pre.length) (st1.s.emb σ' pre) K:=fun σ' ha=>hs' σ' pre K fun σ'' ha'=>hk σ'' (ha.trans ha' hE.c);simp only[O8,IX,ho,XT ho];by_cases hie:i=e
    ·rw[if_pos hie];obtain⟨f,args,q1,q2⟩:=h2 (by rw[hie];exact cn e) σ pre (fun fr s=>O8 P l (l.map (LP l)) e r fr s K) hk1;exact⟨f,args,hg _ _,q1,q2⟩
    ·rw[if_neg hie];obtain⟨v,q1,q2⟩:=h3 (by
      cases hb:cw i e with
      |false=>rfl
      | true=>exact absurd (bq hb) hie) σ pre (fun fr s=>O8 P l (l.map (LP l)) e r fr s K) hk1
     exact⟨v,hg _ _,q1,q2⟩
   ·cases hx
  ·cases hx
theorem vL{E:XE}(hEE:KW P E):∀{S:dC} {st st':XS},Bd st->AKM P E l S st=some st'->K6 st st' /\
  ∀(σ:Nat->Nat) (pre:List AA) (K:Fr->St->Prop),(∀σ',AQ st.c σ σ'->K (st'.fr.ren σ' pre.length) (st'.s.emb σ' pre))->iO P l (l.map (LP l)) S (st.fr.ren σ pre.length) (st.s.emb σ pre) K
 |[],st,st',h,hx=>by cases hx;exact⟨⟨bg _,h,rfl⟩,fun σ pre K hk=>hk σ (AQ.refl _ _)⟩
 |p::S,st,st',h,hx=>by
  simp only[AKM]at hx;split at hx
  ·rename_i st1 h1;obtain⟨hE,hs⟩:=AFE hEE h h1;obtain⟨hE',hs'⟩:=vL hEE hE.bd hx;refine⟨⟨dq hE.c hE'.c,hE'.bd,hE'.n.trans hE.n⟩,fun σ pre K hk=>?_⟩;exact hs σ pre _ fun σ' ha=>hs' σ' pre K fun σ'' ha'=>hk σ'' (ha.trans ha' hE.c)
  ·cases hx
theorem AFF(hP:EN P){E:XE}(hEE:KW P E){id:Nat}{st st':XS}(hx:vK P E N l st=some st')(hbd:Bd st):K6 st st' /\
  ∀(n:Nat) (ρ:Option Nat) (σ:Nat->Nat) (pre:List AA) (K:Exit->Fr->St->Prop),(∀σ',AQ st.c σ σ'->K .normal (st'.fr.ren σ' pre.length) (st'.s.emb σ' pre))->BI P n N ρ (.region id l.toArray true) K (st.fr.ren σ pre.length) (st.s.emb σ pre):=by
 unfold vK at hx
 obtain⟨hok,hx⟩:=ES hx
 obtain⟨hE,hs⟩:=vL hEE hbd hx
 exact⟨hE,fun n ρ σ pre K hk=>rK hP.mixed (l.map (LP l)) (AFD l) hok (hs σ pre _ hk)⟩
end Go.Pg
namespace Go.Pg
variable {P:fc}{n N:Nat}{ρ:Option Nat}{G0 G:Gh}{fr fr':Fr}{s s':St}{a:Act}{w:fh}
def ldC(o:fx):Option (fg×Tmp×Tmp):=match o.op with
 |.load T (.tmp a)=>match o.dst with
  |some d=>some (T,a,d)
  |none=>none
 |_=>none
def I6(l:List fx):List (fg×Tmp×Tmp):=l.filterMap ldC
def ARQ(P:fc)(T:fg):Bool:=match P.underlying T with
 |some (.struct _)=>true
 |some (.array _ _)=>true
 |_=>cw (P.cellsOf T) 1
def A3U(all:List fx)(o:fx)(T:fg)(a d:Tmp):Bool:=o.after.toList.any fun e=>Region.binds .any e&&match all[e.on]? with
 |some p=>match ldC p with
  |some k=>cw k.1 T&&cw k.2.1 a&&cw k.2.2 d
  |none=>false
 |none=>false
def AFG(P:fc)(all:List fx)(ks:List (fg×Tmp×Tmp))(j:Nat)(o:fx):Bool :=
 (LP all o).isNone&&(o.after.toList.all fun e=>!(Region.binds .any e)||ck e.on j)&&match o.op with
 |.load _ (.tmp a)=>o.dst.isSome&&ks.all (fun k=>!(cw k.2.2 a))
 |.store T (.tmp a) (.tmp d)=>o.dst.isNone&&ks.all (fun k=>!(cw k.2.2 a))&&ck 0 (P.cellsOf T)&&ARQ P T&&A3U all o T a d
 |_=>false
def rL(P:fc)(all:List fx)(ks:List (fg×Tmp×Tmp)):List fx->Nat->Bool
 |[],_=>true
 |o::r,j=>AFG P all ks j o&&rL P all ks r (j+1)
def AKO(l:List fx):Nat:=(l.filter kW).length
def XF(P:fc)(l:List fx):Bool:=ck 2 (AKO l)&&rL P l (I6 l) l 0
theorem XU{all:List fx}{ks:List (fg×Tmp×Tmp)}:∀{l:List fx} {j:Nat},rL P all ks l j=true->∀{i:Nat} {o:fx},l[i]? = some o->AFG P all ks (j+i) o=true
 |[],_,_,i,o,h=>by simp at h
 |p::r,j,hB,i,o,h=>by
  simp only[rL,bj]at hB;cases i with
  |zero=>simp at h;subst h;exact hB.1
  |succ i=>
   have:=XU hB.2 (i:=i) (o:=o) (by simpa using h)
   rwa [show j+1+i=j+(i+1) by omega]at this
theorem PA{o:fx}{k:fg×Tmp×Tmp}(h:ldC o=some k):o.op=.load k.1 (.tmp k.2.1)/\o.dst=some k.2.2:=by
 unfold ldC at h;split at h
 ·rename_i T a ho;split at h
  ·rename_i d hd;cases h;exact⟨ho,hd⟩
  ·cases h
 ·cases h
theorem nE{g:Bool}{t:Tmp}(h:fr'.get t=fr.get t):D5 g fr' (.tmp t)=D5 g fr (.tmp t):=by
 show(match fr'.get t with
  |some (c,v)=>if (!g||c)=true then some v else none
  | none=>none)=_
 rw[h];rfl
def A3V (T : fg) (x : Operand) : fx := { dst := none, op := .load T x, type := 0, pos := "", after := #[], guard := none }
def rM:Option V->Bool
 |some (.ptr ..)=>true
 |_=>false
def ARR(P:fc)(k:fg×Tmp×Tmp):Option XS->Option XS
 | some st=>Bool.rec none (match NT P st.fr st.s k.1 (.tmp k.2.1)with
  |some v=>some ⟨st.c,putD st.fr (some k.2.2) true v,st.s⟩
  | none=>none) (rM (CI st.fr (.tmp k.2.1)))
 |none=>none
def RM(P:fc):List (fg×Tmp×Tmp)->Option XS->Option XS
 |[],o=>o
 |k::r,o=>RM P r (ARR P k o)
theorem eY:∀(ks:List (fg×Tmp×Tmp)),RM P ks none=none
 |[]=>rfl
 |_::r=>eY r
def ARS(P:fc)(fr frF:Fr)(s:St)(k:fg×Tmp×Tmp):Prop :=
 ∃v l q γ off,frF.get k.2.2=some (true,v)/\D5 true fr (.tmp k.2.1)=some (.ptr l q γ off)/\(A8 s (.ptr l q γ off)).bind (BM P k.1)=some v
theorem eZ:∀(ks:List (fg×Tmp×Tmp)) {st st':XS},(∀k∈ks,∀k'∈ks,k.2.2≠k'.2.1)->(ks.map (·.2.2)).Nodup->Bd st->RM P ks (some st)=some st' ->
  Bd st'/\st'.c=st.c/\st'.s=st.s/\(∀t,(∀k∈ks,k.2.2≠t)->st'.fr.get t=st.fr.get t)/\∀k∈ks,ARS P st.fr st'.fr st.s k
 |[],st,st',_,_,hb,h=>by cases h;exact⟨hb,rfl,rfl,fun _ _=>rfl,fun k hk=>by cases hk⟩
 |k::r,st,st',h1,h2,hb,h=>by
  simp only[RM]at h;cases hs:ARR P k (some st)with
  |none=>rw[hs,eY]at h;cases h
  |some st1=>
   rw[hs]at h
   unfold ARR at hs
   simp only at hs
   cases hp:rM (CI st.fr (.tmp k.2.1))with
   |false=>rw[hp]at hs;cases hs
   |true=>
   rw[hp]at hs
   simp only at hs
   split at hs
   ·rename_i v hv;have hl:F1 P true (A3V k.1 (.tmp k.2.1)) st.fr st.s=some v:=by
     unfold NT at hv;rw[D8]at hv;show((D5 true st.fr (.tmp k.2.1)).bind fun v=>(A8 st.s v).bind fun cs=>BM P k.1 cs)=some v;revert hv;cases D5 true st.fr (.tmp k.2.1)with
     |none=>intro hv;cases hv
     |some p=>
      simp only[fw]
      cases A8 st.s p with
      |none=>intro hv;cases hv
      |some cs=>exact fun hv=>hv
    have hbv:=hb.val hl;cases hs;have hb1:Bd ({ st with fr:=putD st.fr (some k.2.2) true v }:XS):=hb.putF hbv;simp only[bh,dm]at h2;obtain⟨b1,b2,b3,b4,b5⟩:=eZ r (fun x hx y hy=>h1 x (by simp[hx]) y (by simp[hy])) h2.2 hb1 h;refine⟨b1,b2,b3,fun t ht=>?_,fun x hx=>?_⟩
    ·rw[b4 t fun x hx=>ht x (by simp[hx])];show(putD st.fr (some k.2.2) true v).get t=_;rw[GW,if_neg (fun e=>ht k (by simp) (by simpa using e))]
    ·rcases List.mem_cons.1 hx with rfl|hx
     ·unfold rM at hp;rw[D8]at hp;split at hp
      ·rename_i l q γ off hr;refine⟨v,l,q,γ,off,?_,hr,?_⟩
       ·rw[b4 x.2.2 fun y hy e=>h2.1 (cq.2 ⟨y,hy,e⟩)];show(putD st.fr (some x.2.2) true v).get x.2.2=_;rw[GW,if_pos rfl]
       ·have hl:((D5 true st.fr (.tmp x.2.1)).bind fun v=>(A8 st.s v).bind fun cs=>BM P x.1 cs)=some v:=hl;rw[hr]at hl;exact hl
      ·cases hp
     ·obtain⟨v',l,q,γ,off,c1,c2,c3⟩:=b5 x hx;refine⟨v',l,q,γ,off,c1,?_,c3⟩;have:D5 true (putD st.fr (some k.2.2) true v) (.tmp x.2.1)=D5 true st.fr (.tmp x.2.1):=nE (by
       rw[GW,if_neg (fun e=>h1 k (by simp) x (by simp[hx]) (by simpa using e))])
      rw[<-this];exact c2
   ·cases hs
theorem nF{T:fg}{cs:List V}{v:V}(h:BM P T cs=some v)(h1:ARQ P T=true)(hc:∀x∈cs,x.isCell=true):BD v=true/\A7 v=cs.take (P.cellsOf T)/\P.cellsOf T<=cs.length:=by
 have one:P.cellsOf T=1->cs[0]? = some v->BD v=true/\A7 v=cs.take (P.cellsOf T)/\P.cellsOf T<=cs.length:=fun e h=>by
  cases cs with
  |nil=>cases h
  |cons c cs=>
   simp only[List.getElem?_cons_zero,dr.injEq]at h
   subst h
   have hi:=hc c (by simp)
   rw[e]
   refine⟨?_,?_,by simp⟩
   ·cases c<;>first|rfl|cases hi
   ·cases c<;>first|rfl|cases hi
 unfold BM at h;unfold ARQ at h1;split at h
 ·split at h
  ·rename_i hle;cases h;exact⟨rfl,rfl,hle⟩
  ·cases h
 ·split at h
  ·rename_i hle;cases h;exact⟨rfl,rfl,hle⟩
  ·cases h
 ·rename_i g1 g2 hu;split at h1
  ·rename_i fs e;rw[hu]at e;cases e;exact(g1 _ rfl).elim
  ·rename_i m x e;rw[hu]at e;cases e;exact(g2 _ _ rfl).elim
  ·exact one (bq h1) h
 ·cases h
theorem nG{α:Type}(cs:List α)(off m:Nat):A2 cs off ((cs.drop off).take m)=cs:=by
 unfold A2;rw[List.length_take,dj,List.append_assoc];have:(cs.drop off).take m++cs.drop (off+min m (cs.length-off))=cs.drop off:=by
  rw[<-List.drop_drop];have e:min m (cs.length-off)=min m (cs.drop off).length:=by rw[dj]
  rw[e];generalize cs.drop off=ds;by_cases h:m<=ds.length
  ·rw[Nat.min_eq_left h,df]
  ·rw[Nat.min_eq_right (by omega),List.drop_length,cz (by omega),List.append_nil]
 rw[this,df]
structure A3W(l:List fx)(fr frF:Fr)(s:St)(listed:Array Bool)(fr':Fr)(s':St):Prop where
 o:∀t,(∀k∈I6 l,k.2.2≠t)->fr'.get t=fr.get t
 d:∀j o k,l[j]? = some o->ldC o=some k->listed.getD j true=true->fr'.get k.2.2=frF.get k.2.2
 p:∀i k,s'.get i k=s.get i k
 n:s'.up.length=s.up.length
theorem zI{listed:Array Bool}{i:Nat}:(listed.setIfInBounds i true).getD i true=true:=by
 rcases cg i listed.size with h|h
 ·simp[h]
 ·simp
theorem AKP{l:List fx}{K:Exit->Fr->St->Prop}(hN:MG N l=true)(hg:J5 l (l.map (LP l)) l=true)(hD:yI l)(hC:rL P l (I6 l) l 0=true){frF:Fr}
  (h1:∀t,(∀k∈I6 l,k.2.2≠t)->frF.get t=fr.get t) (h2:∀k∈I6 l,ARS P fr frF s k) (hK:K .normal frF s) :
  ∀(R:List Nat) (listed:Array Bool) (G:Gh) (fr':Fr) (s':St) (a:Act) (w:fh),R.Nodup->(∀j,j∈R↔j<l.length/\listed.getD j true=false)->A3W l fr frF s listed fr' s'->JT n N G0 G fr' s' a w ->
   wpAnyIn (wf ρ) 0 P .any l.toArray (LN n N G0 K) R.length listed a w:=by
 have mem:∀{j:Nat} {o:fx} {k:fg×Tmp×Tmp},l[j]? = some o->ldC o=some k->k∈I6 l:=fun hj hk=>cx.2 ⟨_,List.mem_of_getElem? hj,hk⟩
 intro R
 induction hm:R.length generalizing R with
 |zero=>
  intro listed G fr' s' a w hnd hR hI hrel
  have e:R=[]:=List.eq_nil_of_length_eq_zero hm
  subst e
  refine⟨?_,G,frF,s,hrel.same ⟨fun t=>?_,hI.p,hI.n⟩,hK⟩
  ·refine cd.2 fun j hj=>?_;obtain⟨q1,o,ho,_⟩:=mem_ready.1 hj;have:=(hR j).2 ⟨by
    have:=(cj.1 ho).1;simpa using this,q1⟩
   cases this
  ·by_cases ht:∀k∈I6 l,k.2.2≠t
   ·rw[hI.o t ht,h1 t ht]
   ·have⟨k,hk,e⟩:∃k∈I6 l,k.2.2=t:=Classical.byContradiction fun hn=>ht fun k hk e=>hn ⟨k,hk,e⟩;obtain⟨o,ho,hk⟩:=cx.1 hk;obtain⟨j,hj⟩:=dp ho;rw[<-e];refine hI.d j o k hj hk ?_;cases hl:listed.getD j true with
    |true=>rfl
    |false=>exact absurd ((hR j).2 ⟨(bw.1 hj).1,hl⟩) (by simp)
 |succ m ih=>
  intro listed G fr' s' a w hnd hR hI hrel
  refine⟨fun h0=>?_,fun i hi=>?_⟩
  ·exfalso;have hex:∃j,j∈R:=by
    cases R with
    |nil=>simp at hm
    |cons x R=>exact⟨x,by simp⟩
   obtain⟨j0,hj0⟩:=hex;have least:∀d j,j<=d->j∈R->∃j∈R,∀i,i<j->i∉R:=by
    intro d;induction d with
    |zero=>intro j hj hm;exact⟨j,hm,fun i hi=>by omega⟩
    |succ d ihd=>
     intro j hj hm
     by_cases hx:∃i,i<j/\i∈R
     ·obtain⟨i,hi,hi2⟩:=hx;exact ihd i (by omega) hi2
     ·exact⟨j,hm,fun i hi hi2=>hx ⟨i,hi,hi2⟩⟩
   obtain⟨j,hj,hmin⟩:=least j0 j0 (bg _) hj0;obtain⟨q1,q2⟩:=(hR j).1 hj;have ho:l[j]? = some l[j]:=bn q1;have hc:=XU hC ho;rw[dc]at hc;simp only[AFG,bj,bx]at hc;have:j∈Region.ready .any l.toArray listed:=mem_ready.2 ⟨q2,l[j],by simp,fun e he hb=>by
    have hlt:=hc.1.2 e (by simpa using he);rw[hb]at hlt;have hlt:e.on<j:=by simpa [fq]using hlt
    have hni:=hmin e.on hlt;cases hd:listed.getD e.on false with
    |true=>rfl
    |false=>
     refine absurd ((hR e.on).2 ⟨by omega,?_⟩) hni
     rcases cg e.on listed.size with h'|h'
     ·simp[h']at hd|-;exact hd
     ·exfalso;rcases cg j listed.size with h''|h''
      ·omega
      ·simp[cm h'']at q2⟩
   rw[h0]at this;cases this
  ·obtain⟨q1,o,ho,hwait⟩:=mem_ready.1 hi;have ho:l[i]? = some o:=by simpa using ho
   have hil:i<l.length:=(bw.1 ho).1;have hiR:i∈R:=(hR i).2 ⟨hil,q1⟩;have hc:=XU hC ho;rw[dc]at hc;simp only[AFG,bj,bx]at hc;obtain⟨⟨c1,_⟩,c3⟩:=hc;have hgn:bZ (l.map (LP l)) i=none:=by rw[XT ho];exact dx.1 c1
   have hgd:QH fr' (bZ (l.map (LP l)) i)=some true:=by rw[hgn];rfl
   have hlen:(R.erase i).length=m:=by rw[dv hiR,hm];rfl
   have hR':∀j,j∈R.erase i↔j<l.length/\(listed.setIfInBounds i true).getD j true=false:=fun j=>by
    rw[List.Nodup.mem_erase_iff hnd,hR];by_cases e:j=i
    ·subst e;rw[zI];simp
    ·rw[getD_set_ne true (Ne.symm e)];simp[e]
   have next:∀(fr2:Fr) (s2:St),A3W l fr frF s (listed.setIfInBounds i true) fr2 s2->∀G' a' w',JT n N G0 G' fr2 s2 a' w'->wpAnyIn (wf ρ) 0 P .any l.toArray (LN n N G0 K) m (listed.setIfInBounds i true) a' w' :=
    fun fr2 s2 hI2 G' a' w' hr2=>ih (R.erase i) hlen (listed.setIfInBounds i true) G' fr2 s2 a' w' (hnd.erase i) hR' hI2 hr2
   have same:∀(t:Tmp),(∀k∈I6 l,k.2.2≠t)->D5 true fr' (.tmp t)=D5 true fr (.tmp t):=fun t ht=>nE (hI.o t ht);have cel:∀v,A8 s' v=A8 s v:=fun v=>by unfold A8;cases v<;>first|rfl|simp only[hI.p]
   split at c3
   ·rename_i T t hop;simp only[bj]at c3;obtain⟨d,hd⟩:=Option.isSome_iff_exists.1 c3.1;have hk:ldC o=some (T,t,d):=by simp only[ldC,hop,hd]
    have hnt:∀k∈I6 l,k.2.2≠t:=fun k hk e=>by have:=bx.1 c3.2 k hk;rw[e,cn]at this;cases this
    obtain⟨v,l1,q,γ,off,e1,e2,e3⟩:=h2 _ (mem ho hk);refine HZ hrel hN hg ho hgd (k:=fun f2 s2=>f2=putD fr' o.dst true v/\s2=s') ?_ fun G' a' w' fr2 s2 hr2 hk2=>?_
    ·refine .inl (DU (Ω:=HX.nothing P) (.inl ⟨v,?_,rfl,rfl⟩));have:F1 P true o fr' s'=(D5 true fr' (.tmp t)).bind fun v=>(A8 s' v).bind fun cs=>BM P T cs:=by unfold F1;rw[hop];show J0 P o s' (D5 true fr')=_;unfold J0;rw[hop]
     rw[this,same t hnt,e2,fw,cel];exact e3
    ·obtain⟨rfl,rfl⟩:=hk2;refine next _ _ ⟨fun x hx=>?_,fun j p k hj hpk hl=>?_,hI.p,hI.n⟩ G' a' w' hr2
     ·rw[GW,hd,if_neg (fun e=>hx _ (mem ho hk) (by simpa using e))];exact hI.o x hx
     ·by_cases e:j=i
      ·subst e;rw[ho]at hj;cases hj;rw[hk]at hpk;cases hpk;rw[GW,hd,if_pos rfl];exact e1.symm
      ·rw[getD_set_ne true (Ne.symm e)]at hl;have hne:=hD i j o p d ho hj (Ne.symm e) hd;rw[GW,hd,if_neg (fun e=>hne (by rw[(PA hpk).2];simpa using e.symm))];exact hI.d j p k hj hpk hl
   ·rename_i T t d hop;simp only[bj]at c3;obtain⟨⟨⟨⟨d1,d2⟩,d3⟩,d4⟩,d5⟩:=c3;have hdn:o.dst=none:=dx.1 d1;have hnt:∀k∈I6 l,k.2.2≠t:=fun k hk e=>by have:=bx.1 d2 k hk;rw[e,cn]at this;cases this
    obtain⟨e,he,hb⟩:=List.any_eq_true.1 d5;simp only[bj]at hb;obtain⟨hb,hp⟩:=hb;split at hp
    ·rename_i p hpl;split at hp
     ·rename_i k hk;simp only[bj]at hp;have k1:k.1=T:=bq hp.1.1;have k2:k.2.1=t:=bq hp.1.2;have k3:k.2.2=d:=bq hp.2;have hdone:listed.getD e.on true=true:=by
       have:=hwait e (by simpa using he) hb;rcases cg e.on listed.size with h'|h'
       ·simp[h']at this|-;exact this
       ·simp[cm h']
      obtain⟨v,l1,q,γ,off,e1,e2,e3⟩:=h2 _ (mem hpl hk);have hfd:fr'.get d=some (true,v):=by rw[<-k3,hI.d e.on p k hpl hk hdone];exact e1
      rw[k2]at e2;rw[k1]at e3;cases hget:s.get l1 q with
      |none=>simp[A8,hget]at e3
      |some x=>
       obtain⟨γ',r⟩:=x
       cases r with
       |box cs=>
        by_cases hγ:γ'=γ
        ·subst hγ;have e3:BM P T (cs.drop off)=some v:=by simpa [A8,hget]using e3
         have hget':s'.get l1 q=some (γ',.box cs):=by rw[hI.p];exact hget
         have hcell:∀x∈cs.drop off,x.isCell=true:=fun x hx=>by obtain⟨b,arr,T',_,_,hr⟩:=hrel.inv.res _ _ _ _ hget';obtain⟨j,hj,rfl⟩:=List.getElem_of_mem (List.mem_of_mem_drop hx);exact(hr.2 j hj (by rw[<-hr.1];exact hj)).1
         have h0:0<P.cellsOf T:=by simpa [fq]using d3
         obtain⟨w1,w2,w3⟩:=nF e3 d4 hcell;have hst:DG P o fr' s'=some (l1,q,γ',.box cs):=by
          unfold DG;rw[hop];have r1:D5 true fr' (.tmp t)=some (.ptr l1 q γ' off):=by rw[same t hnt];exact e2
          have r2:D5 true fr' (.tmp d)=some v:=by
           show(match fr'.get d with
            |some (c,v)=>if (!true||c)=true then some v else none
            | none=>none)=_
           rw[hfd];rfl
          simp only[r1,r2,hget'];rw[dj]at w3;rw[if_pos ⟨trivial,w1,h0,by rw[w2,List.length_take,dj];omega,by omega,hdn⟩,w2,nG]
         refine HZ hrel hN hg ho hgd (k:=fun f2 s2=>f2=fr'/\s2=s'.put l1 q γ' (.box cs)) (.inl ((D4 hst).2.2.2 _ ⟨rfl,rfl⟩)) fun G' a' w' fr2 s2 hr2 hk2=>?_;obtain⟨rfl,rfl⟩:=hk2;refine next _ _ ⟨hI.o,fun j p2 k' hj hpk hl=>?_,fun i2 k2=>?_,by rw[St.put_len];exact hI.n⟩ G' a' w' hr2
         ·by_cases ej:j=i
          ·subst ej;rw[ho]at hj;cases hj;rw[(PA hpk).2]at hdn;cases hdn
          ·rw[getD_set_ne true (Ne.symm ej)]at hl;exact hI.d j p2 k' hj hpk hl
         ·rw[St.get_put s' hget'];split
          ·rename_i e;rw[e.1,e.2,hget]
          ·exact hI.p i2 k2
        ·simp[A8,hget,hγ]at e3
       |_=>simp[A8,hget]at e3
     ·cases hp
    ·cases hp
   ·cases c3
theorem AFH{l:List fx}{id:Nat}{K:Exit->Fr->St->Prop}(hm:P.follows .mixedOrders=true)(hB:OX (DV l) N (l.map (LP l)) (cX l) l=true)(hC:rL P l (I6 l) l 0=true){frF:Fr}
  (h1:∀t,(∀k∈I6 l,k.2.2≠t)->frF.get t=fr.get t) (h2:∀k∈I6 l,ARS P fr frF s k) (hK:K .normal frF s):BI P n N ρ (.region id l.toArray true) K fr s:=by
 simp only[OX,bj]at hB
 obtain⟨⟨⟨⟨⟨b1,b2⟩,b3⟩,b4⟩,b5⟩,b6⟩:=hB
 intro G0 G a w hR
 refine wpIn_region_any hm ?_
 have hR':JT n N G0 G fr s a { w with drawn:=w.drawn+1 }:=⟨hR.le,hR.inv.drawn _,hR.fr,hR.size,hR.lvl,hR.marks⟩
 have:=AKP (ρ:=ρ) (K:=K) b1 b2 (RE b3) hC h1 h2 hK (fj l.length) (Array.replicate l.length false) G fr s a _ List.nodup_range (fun j=>by
  rw[List.mem_range];refine⟨fun h=>⟨h,by simp[h]⟩,fun h=>h.1⟩) ⟨fun _ _=>rfl,fun j o k hj _ hl=>by
   have:=(bw.1 hj).1;simp[this]at hl,fun _ _=>rfl,rfl⟩ hR'
 rw[List.length_range]at this
 simpa using this
theorem bD:∀{l:List fx},Z3 l=true->((I6 l).map (·.2.2)).Nodup
 |[],_=>by simp[I6]
 |o::r,h=>by
  simp only[Z3,bj]at h;have ih:=bD h.2;unfold I6 at ih|-;rw[List.filterMap_cons];cases hk:ldC o with
  |none=>exact ih
  |some k=>
   simp only[bh,dm]
   refine⟨fun hm=>?_,ih⟩
   obtain⟨k',hk',e⟩:=cq.1 hm
   obtain⟨p,hp,hpk⟩:=cx.1 hk'
   have h1:=h.1
   rw[(PA hk).2]at h1
   have h2:=bx.1 h1 p hp
   rw[(PA hpk).2]at h2
   simp only[e,cn]at h2
   cases h2
theorem rN{l:List fx}(hC:rL P l (I6 l) l 0=true):∀k∈I6 l,∀k'∈I6 l,k.2.2≠k'.2.1:=fun k hk k' hk' e=>by obtain⟨o,ho,hko⟩:=cx.1 hk';obtain⟨j,hj⟩:=dp ho;have hc:=XU hC hj;simp only[AFG,bj,(PA hko).1]at hc;have:=bx.1 hc.2.2 k hk;rw[e,cn]at this;cases this
theorem AKQ(hP:EN P){id:Nat}{l:List fx}(hN:OX (DV l) N (l.map (LP l)) (cX l) l=true)(hC:XF P l=true){st st':XS}(hx:RM P (I6 l) (some st)=some st')(hbd:Bd st):K6 st st' /\
  ∀(n:Nat) (ρ:Option Nat) (σ:Nat->Nat) (pre:List AA) (K:Exit->Fr->St->Prop),(∀σ',AQ st.c σ σ'->K .normal (st'.fr.ren σ' pre.length) (st'.s.emb σ' pre))->BI P n N ρ (.region id l.toArray true) K (st.fr.ren σ pre.length) (st.s.emb σ pre):=by
 simp only[XF,bj]at hC
 have hdd:Z3 l=true:=by have hB:=hN;simp only[OX,bj]at hB;exact hB.1.1.1.2
 obtain⟨b1,b2,b3,b4,b5⟩:=eZ _ (rN hC.2) (bD hdd) hbd hx
 refine⟨⟨by omega,b1,by rw[b3]⟩,fun n ρ σ pre K hk=>AFH hP.mixed hN hC.2 (frF:=st'.fr.ren σ pre.length) (fun t ht=>?_) (fun k hk=>?_) (by
  have:=hk σ (AQ.refl _ _);rwa [b3]at this)⟩
 ·rw[Fr.get_ren,Fr.get_ren,b4 t ht]
 ·obtain⟨v,l1,q,γ,off,e1,e2,e3⟩:=b5 k hk;have hv:F1 P true (A3V k.1 (.tmp k.2.1)) st.fr st.s=some v:=by show((D5 true st.fr (.tmp k.2.1)).bind fun v=>(A8 st.s v).bind fun cs=>BM P k.1 cs)=some v;rw[e2];exact e3
  have hv:=JO (σ:=σ) (pre:=pre) hv;have e2':D5 true (st.fr.ren σ pre.length) (.tmp k.2.1)=some ((V.ptr l1 q γ off).ren σ pre.length):=by rw[DR,e2];rfl
  refine⟨v.ren σ pre.length,l1+pre.length,q,σ γ,off,by rw[Fr.get_ren,e1];rfl,by rw[e2'];simp,?_⟩;have hv:((D5 true (st.fr.ren σ pre.length) (.tmp k.2.1)).bind fun v=>(A8 (st.s.emb σ pre) v).bind fun cs=>BM P k.1 cs)=some (v.ren σ pre.length):=hv;rw[e2']at hv;simpa using hv
end Go.Pg
