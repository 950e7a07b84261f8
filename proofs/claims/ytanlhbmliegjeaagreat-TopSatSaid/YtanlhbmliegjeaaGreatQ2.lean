/- A row that lies in a place is told as a list, once and for all: it is never written again. No program in sight. -/
import Derived.Test.YtanlhbmliegjeaaGreatQa
noncomputable section
open Go renaming Oper->fw,Program->fx,TypeId->fc,World->fg,Value->fh
open Bool renaming and_eq_true->bj
open List renaming map_congr_left->bk,getElem?_eq_some_iff->bw,all_eq_true->bx,map_inj_left->bz,map_map->bb,getElem_map->bc,map_cons->bg,map_flatten->bh,getElem?_eq_getElem->bm,mem_map_of_mem->bn,mem_map->ck,mem_filterMap->cw,take_of_length_le->cx,eq_nil_iff_forall_not_mem->cz,replicate->cn,getElem?_modify->cp,length_drop->ct,append_cancel_left_eq->dj,length_erase_of_mem->dq,map->dv,length_replicate->dx,take_append_drop->dc,mem_erase_of_ne->dh,nodup_cons->dl,mem_append->dm,getElem?_of_mem->dn,range->dt,cons->fj
open Nat renaming eq_of_beq_eq_true->bq,le_refl->bf,blt->cj,beq->cq,lt_or_ge->cd,beq_refl->cm,le_trans->dk,zero_add->db,blt_eq->fk
open Array renaming getElem?_eq_some_iff->bp,getElem?_eq_none->cg
open Option renaming isNone_iff_eq_none->dw,map_some->dz,map_eq_map->df,map_eq_some_iff->dg,some->dp,bind_some->fq
open Prod renaming mk->dr
namespace Go.Pg
variable {P:fx}{σ σ':Nat->Nat}{δ:Nat}{pre:List AA}{s:St}{fr:Fr}{G G':Gh}{w:fg}
def BA(l k:Nat)(o:Option (Nat×AX)):Nat->V->V
 |0,v=>v
 |f+1,v=>match v with
  |.vec l' k' g m=>match o with
   |some (γ,.vec _ es)=>if l'=l/\k'=k/\g=γ/\m=es.length then .list false es else v
   |_=>v
  |.ptr l' k' g off=>match o with
   |some (γ,.box cs)=>if l'=l/\k'=k/\g=γ then .ref ((cs.map NO).drop off) else v
   |_=>v
  |.agg cs=>.agg (cs.map (BA l k o f))
  |.tup cs=>.tup (cs.map (BA l k o f))
  |v=>v
def KF(l k:Nat)(o:Option (Nat×AX)):AX->AX
 |.box cs=>.box (cs.map (BA l k o 3))
 |.vec T es=>.vec T (es.map (dv (BA l k o 3)))
 |r=>r
def NK(l k:Nat)(o:Option (Nat×AX))(fr:Fr):Fr:=fr.map fun x=>(x.1,x.2.1,BA l k o 3 x.2.2)
def FI(l k:Nat)(o:Option (Nat×AX)):AA->AA
 |[]=>[]
 |(j,g,r)::L=>if j=k then FI l k o L else(j,g,KF l k o r)::FI l k o L
def H2(k:Nat)(st:XS):XS:=⟨st.c,NK st.s.up.length k (st.s.loc.get k) st.fr,⟨st.s.up,FI st.s.up.length k (st.s.loc.get k) st.s.loc⟩⟩
def OP(ks:List Nat)(st:XS):XS:=List.rec (motive:=fun _=>XS->XS) (fun st=>st) (fun k _ ih st=>ih (H2 k st)) ks st
theorem UQ(l k:Nat)(o:Option (Nat×AX)):∀(fr:Fr) (j:Nat),(NK l k o fr).get j=(fr.get j).map fun x=>(x.1,BA l k o 3 x.2)
 |[],_=>rfl
 |(i,c,v)::fr,j=>by
  have ih:=UQ l k o fr j;simp only[NK,bg,Fr.get]at ih|-;split
  ·rfl
  ·exact ih
theorem L6(l k:Nat)(o:Option (Nat×AX)):∀(L:AA) (j:Nat),(FI l k o L).get j=if j=k then none else(L.get j).map fun x=>(x.1,KF l k o x.2)
 |[],j=>by simp[FI]
 |(i,g,r)::L,j=>by
  have ih:=L6 l k o L j;unfold FI;by_cases h:i=k
  ·rw[if_pos h,ih];by_cases hj:j=k
   ·simp[hj]
   ·rw[if_neg hj,if_neg hj,AA.get,if_neg (by rw[h];exact hj)]
  ·rw[if_neg h];simp only[AA.get];by_cases hj:j=i
   ·subst hj;rw[if_pos rfl,if_pos rfl,if_neg h];rfl
   ·rw[if_neg hj,if_neg hj,ih]
def QY(G G':Gh)(σ:Nat->Nat)(δ l k:Nat)(o:Option (Nat×AX)):Prop:=(∀γ T es,o=some (γ,.vec T es)->∀v,RepV G (.vec (l+δ) k (σ γ) es.length) v->RepV G' (.list false (es.map (dv (V.ren σ δ)))) v) /\
 ∀γ cs,o=some (γ,.box cs)->∀off v,RepV G (.ptr (l+δ) k (σ γ) off) v->RepV G' (.ref (((cs.map NO).drop off).map (V.ren σ δ))) v
theorem ADU(v:V):(NO v).ren σ δ=NO (v.ren σ δ):=by cases v<;>simp[NO]
theorem PH(cs:List V)(off:Nat):((cs.map NO).drop off).map (V.ren σ δ)=((cs.map (V.ren σ δ)).map NO).drop off:=by rw[List.map_drop,bb,bb];congr 1;exact bk fun v _=>ADU v
theorem eH{l k:Nat}{o:Option (Nat×AX)}:∀(f:Nat) (v:V),(v.ren σ δ).isCell=true->((BA l k o f v).ren σ δ).isCell=true
 |0,v,h=>h
 |f+1,v,h=>by
  cases v with
  |agg cs=>simp only[HL]at h;cases h
  |tup cs=>simp only[KW]at h;cases h
  |vec l' k' g m=>
   simp only[BA]
   split
   ·split
    ·simp only[EB];rfl
    ·exact h
   ·exact h
  |ptr l' k' g off=>
   simp only[BA]
   split
   ·split
    ·simp only[MY];rfl
    ·exact h
   ·exact h
  |_=>exact h
theorem OQ{l k:Nat}{o:Option (Nat×AX)}(hle:G.le G')(ho:QY G G' σ δ l k o):∀(f:Nat) (x:V) (v:fh),RepV G (x.ren σ δ) v->RepV G' ((BA l k o f x).ren σ δ) v
 |0,x,v,h=>h.mono hle
 |f+1,x,v,h=>by
  have ih:=OQ hle ho f;cases x with
  |vec l' k' g m=>
   simp only[BA]
   split
   ·rename_i γ T es;split
    ·rename_i hc;obtain⟨rfl,rfl,rfl,rfl⟩:=hc;simp only[HN,EB]at h|-;exact ho.1 _ _ _ rfl v h
    ·exact h.mono hle
   ·exact h.mono hle
  |ptr l' k' g off=>
   simp only[BA]
   split
   ·rename_i γ cs;split
    ·rename_i hc;obtain⟨rfl,rfl,rfl⟩:=hc;simp only[HM,MY]at h|-;exact ho.2 _ _ rfl off v h
    ·exact h.mono hle
   ·exact h.mono hle
  |agg cs=>
   simp only[BA,HL]at h|-
   cases h with
   |agg _ arr hl hc hr=>
    refine .agg _ arr (by simpa using hl) (fun c hc'=>?_) (fun i h1 h2=>?_)
    ·simp only[ck]at hc';obtain⟨d,⟨e,he,rfl⟩,rfl⟩:=hc';exact eH f e (hc _ (bn he))
    ·have h1':i<cs.length:=by simpa using h1
     have q:=hr i (by simpa using h1) h2;simp only[bc]at q|-;exact ih _ _ q
  |tup cs=>
   simp only[BA,KW]at h|-
   cases h with
   |tup _ arr hl hr=>
    refine .tup _ arr (by simpa using hl) (fun i h1 h2=>?_)
    have q:=hr i (by simpa using h1) h2
    simp only[bc]at q|-
    exact ih _ _ q
  |_=>exact h.mono hle
theorem aJ{l k:Nat}{o:Option (Nat×AX)}(hle:G.le G')(ho:QY G G' σ δ l k o){cs:List V}{vs:List fh}(h:RepL G (cs.map (V.ren σ δ)) vs):RepL G' ((cs.map (BA l k o 3)).map (V.ren σ δ)) vs :=
 ⟨by simpa using h.1,fun i p q=>by
  have r:=h.2 i (by simpa using p) q;simp only[bc]at r |-;exact⟨eH 3 _ r.1,OQ hle ho 3 _ _ r.2⟩⟩
theorem zG{l k:Nat}{o:Option (Nat×AX)}(hle:G.le G')(ho:QY G G' σ δ l k o){g:Nat}{r:AX}(h:I0 G g w (r.ren σ δ)):I0 G' g w ((KF l k o r).ren σ δ):=by
 cases r with
 |box cs=>
  obtain⟨b,arr,T,h1,h2,h3⟩:=h
  exact⟨b,arr,T,by simpa using hle.2 _ _ h1,h2,aJ hle ho h3⟩
 |vec T es=>
  obtain⟨b,sz,C,h1,h2,h3,h4,h5⟩:=h
  refine⟨b,sz,C,hle.2 _ _ h1,by simpa using h2,fun e he=>?_,⟨h4.1,fun h=>h4.2 (by simpa using h)⟩,fun hC=>?_⟩
  ·simp only[ck]at he;obtain⟨e1,⟨e2,he2,rfl⟩,rfl⟩:=he;have:=h3 (e2.map (V.ren σ δ)) (bn he2);simpa using this
  ·obtain⟨arr,h6,h7,h8⟩:=h5 hC;refine⟨arr,h6,h7,?_⟩;have q:RepL G (es.flatten.map (V.ren σ δ)) (arr.toList.take (es.length*sz)):=by rw[bh];simpa using h8
   have q2:=aJ hle ho q;rw[bh,bh]at q2;simpa using q2
 |map es=>exact h.keep hle fun _ _=>rfl
 |loop fr ps asg body N st=>exact h.keep hle fun _ _=>rfl
 |dead=>trivial
theorem zH(G:Gh)(l k:Nat)(o:Option (Nat×AX))(g:Nat)(r:AX):BL G g ((KF l k o r).ren σ δ)=BL G g (r.ren σ δ):=by cases r<;>rfl
theorem ADV{k:Nat}{st:XS}{l j:Nat}{x:Nat×AX}(h:((H2 k st).s.emb σ pre).get l j=some x) :
  ¬(l=st.s.up.length+pre.length/\j=k)/\((st.s.emb σ pre).get l j=some x\/∃r,(st.s.emb σ pre).get l j=some (x.1,r.ren σ pre.length)/\x.2=(KF st.s.up.length k (st.s.loc.get k) r).ren σ pre.length):=by
 have hlen:(st.s.emb σ pre).up.length=st.s.up.length+pre.length:=by rw[DL]
 have hup:((H2 k st).s.emb σ pre).up=(st.s.emb σ pre).up:=rfl
 unfold St.get at h|-
 rw[hup]at h
 by_cases e:l=(st.s.emb σ pre).up.length
 ·rw[if_pos e]at h|-;have h':((FI st.s.up.length k (st.s.loc.get k) st.s.loc).ren σ pre.length).get j=some x:=h;rw[AA.get_ren,L6]at h';by_cases hj:j=k
  ·rw[if_pos hj]at h';cases h'
  ·rw[if_neg hj]at h';refine⟨fun hh=>hj hh.2,.inr ?_⟩;have hl:(st.s.emb σ pre).loc.get j=(st.s.loc.get j).map fun p=>(σ p.1,p.2.ren σ pre.length):=AA.get_ren _ _;rw[hl];cases hg:st.s.loc.get j with
   |none=>rw[hg]at h';cases h'
   |some y=>
    rw[hg]at h'
    obtain⟨g,r⟩:=y
    cases h'
    exact⟨r,rfl,rfl⟩
 ·rw[if_neg e]at h|-;exact⟨fun hh=>e (by rw[hlen];exact hh.1),.inl h⟩
theorem ADW{k:Nat}{st:XS}(hI:C4 G (st.s.emb σ pre) w):∃G',G.le G'/\C4 G' ((H2 k st).s.emb σ pre) w/\QY G G' σ pre.length st.s.up.length k (st.s.loc.get k):=by
 have hget:(st.s.emb σ pre).get (st.s.up.length+pre.length) k=(st.s.loc.get k).map fun p=>(σ p.1,p.2.ren σ pre.length):=by rw[B9];unfold St.get;rw[if_pos rfl]
 have main:∃G' s0,G.le G'/\C4 G' s0 w/\(∀l j,¬(l=st.s.up.length+pre.length/\j=k)->s0.get l j=(st.s.emb σ pre).get l j)/\QY G G' σ pre.length st.s.up.length k (st.s.loc.get k):=by
  cases ho:st.s.loc.get k with
  |none=>exact⟨G,_,⟨fun _ _ h=>h,fun _ _ h=>h,rfl⟩,hI,fun _ _ _=>rfl,⟨fun γ T es h=>(by cases h),fun γ cs h=>(by cases h)⟩⟩
  |some x=>
   obtain⟨γ,r⟩:=x
   rw[ho]at hget
   cases r with
   |vec T es=>
    have hget:(st.s.emb σ pre).get (st.s.up.length+pre.length) k=some (σ γ,.vec T (es.map (dv (V.ren σ pre.length)))):=hget
    obtain⟨G',hle,hI',hs⟩:=hI.lockRow hget
    refine⟨G',_,hle,hI',fun l j hne=>?_,⟨fun γ' T' es' h v hv=>?_,fun γ cs h=>by cases h⟩⟩
    ·rw[St.get_put _ hget,if_neg hne]
    ·cases h;have:=SA hI hle hget (m:=es.length) (by simp) hs hv;rwa [cx (by simp)]at this
   |box cs=>
    have hget:(st.s.emb σ pre).get (st.s.up.length+pre.length) k=some (σ γ,.box (cs.map (V.ren σ pre.length))):=hget
    obtain⟨G',hle,hI',hs⟩:=hI.lockBox hget
    refine⟨G',_,hle,hI',fun l j hne=>?_,⟨fun γ' T' es' h=>(by cases h),fun γ' cs' h off v hv=>?_⟩⟩
    ·rw[St.get_put _ hget,if_neg hne]
    ·cases h;rw[PH];exact lG hI hle hget hs hv
   |map cs=>exact⟨G,_,⟨fun _ _ h=>h,fun _ _ h=>h,rfl⟩,hI,fun _ _ _=>rfl,⟨fun γ T es h=>(by cases h),fun γ cs h=>(by cases h)⟩⟩
   |loop _ _ _ _ _ _=>exact⟨G,_,⟨fun _ _ h=>h,fun _ _ h=>h,rfl⟩,hI,fun _ _ _=>rfl,⟨fun γ T es h=>(by cases h),fun γ cs h=>(by cases h)⟩⟩
   |dead=>exact⟨G,_,⟨fun _ _ h=>h,fun _ _ h=>h,rfl⟩,hI,fun _ _ _=>rfl,⟨fun γ T es h=>(by cases h),fun γ cs h=>(by cases h)⟩⟩
 obtain⟨G',s0,hle,hI',hg,ht⟩:=main;refine⟨G',hle,?_,ht⟩;have look:∀{l j g r},((H2 k st).s.emb σ pre).get l j=some (g,r)->∃r0,s0.get l j=some (g,r0)/\I0 G' g w r/\BL G' g r=BL G' g r0:=by
  intro l j g r h;obtain⟨hne,h1⟩:=ADV h;rw[hg _ _ hne];rcases h1 with h1|⟨r0,h1,h2⟩
  ·exact⟨r,h1,hI'.res l j g r (by rw[hg _ _ hne];exact h1),rfl⟩
  ·simp only at h1 h2;subst h2;exact⟨_,h1,zG hle ht (hI.res _ _ _ _ h1),zH _ _ _ _ _ _⟩
 refine⟨hI'.sl,fun l k g r h=>(by obtain⟨r0,_,h2,_⟩:=look h;exact h2),fun l k g r l' k' g' r' b h1 h2 h3 h4=>?_,fun l k g r b h1 h2=>?_,hI'.fresh,hI'.env⟩
 ·rcases look h1 with⟨r1,e1,_,o1⟩;rcases look h2 with⟨r2,e2,_,o2⟩;exact hI'.sep _ _ _ _ _ _ _ _ _ e1 e2 (o1▸h3) (o2▸h4)
 ·rcases look h1 with⟨r1,e1,_,o1⟩;exact hI'.out _ _ _ _ _ e1 (o1▸h2)
theorem aK{n N:Nat}{ρ:Option Nat}{c:Code}{K:Exit->Fr->St->Prop}{k:Nat}{st:XS}(h:BE P n N ρ c K ((H2 k st).fr.ren σ pre.length) ((H2 k st).s.emb σ pre)):BE P n N ρ c K (st.fr.ren σ pre.length) (st.s.emb σ pre):=by
 intro G0 G a w hR;obtain⟨G',hle,hI',ht⟩:=ADW (k:=k) hR.inv;refine h G0 G' a w ⟨⟨fun _ _ h=>hle.1 _ _ (hR.le.1 _ _ h),fun _ _ h=>hle.2 _ _ (hR.le.2 _ _ h),hle.3.trans hR.le.3⟩,hI',fun j c v hj=>?_,hR.size,hR.lvl,?_⟩
 ·rw[Fr.get_ren]at hj;have hj':((NK st.s.up.length k (st.s.loc.get k) st.fr).get j).map (fun p=>(p.1,p.2.ren σ pre.length))=some (c,v):=hj;rw[UQ]at hj';cases hg:st.fr.get j with
  |none=>rw[hg]at hj';cases hj'
  |some y=>
   rw[hg]at hj'
   obtain⟨c0,v0⟩:=y
   cases hj'
   obtain⟨x,q1,q2,q3⟩:=hR.fr j c0 (v0.ren σ pre.length) (by rw[Fr.get_ren,hg];rfl)
   exact⟨x,q1,fun hc=>OQ hle ht 3 _ _ (q2 hc),q3⟩
 ·obtain⟨rs,m1,m2,m3⟩:=hR.marks;exact⟨rs,m1,m2,fun r hr=>⟨(m3 r hr).1,hle.1 _ _ (m3 r hr).2⟩⟩
def TBd(c:Nat)(o:Option (Nat×AX)):Prop:=(∀γ T es,o=some (γ,.vec T es)->∀σ σ' δ,AR c σ σ'->es.map (dv (V.ren σ δ))=es.map (dv (V.ren σ' δ)))/\∀γ cs,o=some (γ,.box cs)->∀σ σ' δ,AR c σ σ'->cs.map (V.ren σ δ)=cs.map (V.ren σ' δ)
theorem gU{l k c:Nat}{o:Option (Nat×AX)}(ho:TBd c o){σ σ':Nat->Nat}{δ:Nat}(ha:AR c σ σ'):∀(f:Nat) (v:V),v.ren σ δ=v.ren σ' δ->(BA l k o f v).ren σ δ=(BA l k o f v).ren σ' δ
 |0,v,h=>h
 |f+1,v,h=>by
  have ih:=gU (l:=l) (k:=k) ho ha (δ:=δ) f;have lst:∀cs:List V,cs.map (V.ren σ δ)=cs.map (V.ren σ' δ)->(cs.map (BA l k o f)).map (V.ren σ δ)=(cs.map (BA l k o f)).map (V.ren σ' δ):=by intro cs h;simp only[bb];refine bk fun x hx=>?_;exact ih x (bz.1 h x hx)
  cases v with
  |vec l' k' g m=>
   simp only[BA]
   split
   ·split
    ·simp only[EB];rw[ho.1 _ _ _ rfl σ σ' δ ha]
    ·exact h
   ·exact h
  |ptr l' k' g off=>
   simp only[BA]
   split
   ·split
    ·simp only[MY];rw[PH,PH,ho.2 _ _ rfl σ σ' δ ha]
    ·exact h
   ·exact h
  |agg cs=>
   simp only[BA,HL,V.agg.injEq]at h|-
   exact lst cs h
  |tup cs=>
   simp only[BA,KW,V.tup.injEq]at h|-
   exact lst cs h
  |_=>exact h
theorem AQ2{c k γ:Nat}{T:fc}{es:List (List V)}{L:AA}(hL:∀σ σ' δ,AR c σ σ'->L.ren σ δ=L.ren σ' δ)(h:L.get k=some (γ,.vec T es)):∀σ σ' δ,AR c σ σ'->es.map (dv (V.ren σ δ))=es.map (dv (V.ren σ' δ)):=by
 intro σ σ' δ ha;have e1:(L.ren σ δ).get k=some (σ γ,.vec T (es.map (dv (V.ren σ δ)))):=by rw[AA.get_ren,h];rfl
 have e2:(L.ren σ' δ).get k=some (σ' γ,.vec T (es.map (dv (V.ren σ' δ)))):=by rw[AA.get_ren,h];rfl
 rw[hL σ σ' δ ha,e2]at e1;simp only[dp.injEq,dr.injEq,AX.vec.injEq]at e1;exact e1.2.2.symm
theorem ADX{st:XS}(h:Bd st):∀σ σ' δ,AR st.c σ σ'->st.s.loc.ren σ δ=st.s.loc.ren σ' δ:=by intro σ σ' δ ha;have q:=h.s σ σ' (cn δ []) ha;simp only[St.emb,St.mk.injEq,dx]at q;exact q.2
theorem AQ3{c k γ:Nat}{cs:List V}{L:AA}(hL:∀σ σ' δ,AR c σ σ'->L.ren σ δ=L.ren σ' δ)(h:L.get k=some (γ,.box cs)):∀σ σ' δ,AR c σ σ'->cs.map (V.ren σ δ)=cs.map (V.ren σ' δ):=by
 intro σ σ' δ ha;have e1:(L.ren σ δ).get k=some (σ γ,.box (cs.map (V.ren σ δ))):=by rw[AA.get_ren,h];rfl
 have e2:(L.ren σ' δ).get k=some (σ' γ,.box (cs.map (V.ren σ' δ))):=by rw[AA.get_ren,h];rfl
 rw[hL σ σ' δ ha,e2]at e1;simp only[dp.injEq,dr.injEq,AX.box.injEq]at e1;exact e1.2.symm
theorem mW{l k c:Nat}{o:Option (Nat×AX)}(ho:TBd c o){σ σ':Nat->Nat}{δ:Nat}(ha:AR c σ σ'):∀(L:AA),L.ren σ δ=L.ren σ' δ->(FI l k o L).ren σ δ=(FI l k o L).ren σ' δ
 |[],_=>rfl
 |(j,g,r)::L,h=>by
  simp only[AA.ren,bg,fj.injEq,dr.injEq,true_and]at h;have ih:=mW (l:=l) (k:=k) ho ha L h.2;simp only[FI];split
  ·exact ih
  ·simp only[AA.ren,bg,fj.injEq,dr.injEq,true_and];refine⟨⟨h.1.1,?_⟩,ih⟩;have hr:=h.1.2;have lst:∀cs:List V,cs.map (V.ren σ δ)=cs.map (V.ren σ' δ)->(cs.map (BA l k o 3)).map (V.ren σ δ)=(cs.map (BA l k o 3)).map (V.ren σ' δ):=by intro cs h;simp only[bb];exact bk fun x hx=>gU ho ha 3 x (bz.1 h x hx)
   cases r with
   |box cs=>
    simp only[KF,AX.ren,AX.box.injEq]at hr|-
    exact lst cs hr
   |vec T es=>
    simp only[KF,AX.ren,AX.vec.injEq,true_and,bb]at hr|-
    refine bk fun e he=>?_
    exact lst e (bz.1 hr e he)
   |_=>exact hr
theorem eI{k:Nat}{st:XS}(h:Bd st):KM st (H2 k st):=by
 have ho:TBd st.c (st.s.loc.get k):=⟨fun γ T es hg=>AQ2 (ADX h) hg,fun γ cs hg=>AQ3 (ADX h) hg⟩;refine⟨bf _,⟨fun σ σ' δ ha=>?_,fun σ σ' pre ha=>?_,fun l j γ fr ps asg body N ls hg=>?_⟩,rfl⟩
 ·have q:=h.f σ σ' δ ha;simp only[H2,NK,Fr.ren,bb]at q|-;refine bk fun x hx=>?_;have:=bz.1 q x hx;simp only[dr.injEq,true_and]at this;simp only[Function.comp,dr.injEq,true_and];exact gU ho ha 3 _ this
 ·have q:=h.s σ σ' pre ha;simp only[St.emb,St.mk.injEq]at q;simp only[H2,St.emb,St.mk.injEq];exact⟨q.1,mW ho ha _ q.2⟩
 ·have hg':(H2 k st).s.get l j=some (γ,.loop fr ps asg body N ls):=hg;refine h.lp l j γ fr ps asg body N ls ?_;unfold St.get at hg'|-;have hup:(H2 k st).s.up=st.s.up:=rfl;rw[hup]at hg';split
  ·rename_i e;rw[if_pos e]at hg';have hg':(FI st.s.up.length k (st.s.loc.get k) st.s.loc).get j=some (γ,.loop fr ps asg body N ls):=hg';rw[L6]at hg';split at hg'
   ·cases hg'
   ·cases hq:st.s.loc.get j with
    |none=>rw[hq]at hg';cases hg'
    |some y=>
     rw[hq]at hg'
     obtain⟨g,r⟩:=y
     cases r with
     |loop _ _ _ _ _ _=>exact hg'
     |_=>simp[KF]at hg'
  ·rename_i e;rw[if_neg e]at hg';exact hg'
theorem uZ:∀(ks:List Nat) (st:XS),(OP ks st).c=st.c
 |[],_=>rfl
 |k::ks,st=>uZ ks (H2 k st)
theorem eJ:∀(ks:List Nat) {st:XS},Bd st->KM st (OP ks st)
 |[],st,h=>⟨bf _,h,rfl⟩
 |k::ks,st,h=>by have h1:=eI (k:=k) h;have h2:=eJ ks h1.bd;exact⟨dk h1.c h2.c,h2.bd,h2.n.trans h1.n⟩
theorem aL{n N:Nat}{ρ:Option Nat}{c:Code}{K:Exit->Fr->St->Prop}:∀(ks:List Nat) {st:XS},BE P n N ρ c K ((OP ks st).fr.ren σ pre.length) ((OP ks st).s.emb σ pre)->BE P n N ρ c K (st.fr.ren σ pre.length) (st.s.emb σ pre)
 |[],_,h=>h
 |k::ks,st,h=>aK (k:=k) (aL ks (st:=H2 k st) h)
end Go.Pg
namespace Go.Pg
variable {P:fx}{σ σ':Nat->Nat}{δ:Nat}{pre:List AA}{s:St}{fr:Fr}{G G':Gh}{w:fg}
def H3(st:XS):List Nat->V->V
 |[],v=>v
 |k::ks,v=>H3 st ks (cond (cj k 10000) (BA st.s.up.length k (st.s.loc.get k) 3 v) (BA (k / 10000-1) (k % 10000) (st.s.get (k / 10000-1) (k % 10000)) 3 v))
def gV:V->Bool
 |.int ..=>true
 |.bool _=>true
 |_=>false
def aM:V->Bool
 |.int ..=>true
 |.bool _=>true
 |.agg cs=>cs.all gV
 |_=>false
def mX(cf:CF)(c0:CF0)(ks:List Nat):CF:=fun f args st=>match c0 f (args.map (H3 st ks))with
 |some r=>Bool.rec (cf f args st) (some (r,st)) (aM r)
 |none=>cf f args st
def cfU(ks:List Nat)(E:XE):XE:=match ks with
 |[]=>E
 |_::_=>⟨mX E.cf E.c0 ks,E.cy,E.c0,E.co,E.lit⟩
def cH(G:Gh)(w:fg):Gh:={ sl:=fun b=>w.heap[b]?,be:=G.be,env:=G.env }
def AIV(G:Gh)(w:fg):Gh:={ sl:=fun b=>w.heap[b]?,be:=G.be,env:=(w.os,w.output,w.heap.size) }
theorem gW(hI:C4 G s w):G.le (cH G w):=⟨hI.sl,fun _ _ h=>h,rfl⟩
theorem ADY:(cH G w).lec (AIV G w):=⟨fun _ _ _ _ h=>h,fun _ _ h=>h⟩
theorem ADZ(hI:C4 G s w):C4 (AIV G w) ⟨[],[]⟩ w where
 sl _ _ h:=h
 res l k g r h:=by simp[St.get]at h
 sep l k g r l' k' g' r' b h:=by simp[St.get]at h
 out l k g r b h:=by simp[St.get]at h
 fresh:=hI.fresh
 env:=⟨rfl,rfl,bf _,fun b c T fz h1 h2=>by
  have h3:=(bp.1 h2).1;have h4:w.heap.size<=b:=h1;omega⟩
theorem AD0{l k g n:Nat}{v:fh}(h:RepV (cH G w) (.vec l k g n) v):RepV G (.vec l k g n) v:=by
 cases h with
 |vec _ _ _ _ b sz C a h1 h2 h3=>exact .vec _ _ _ _ b sz C a h1 h2 h3
theorem AD1{l k g n:Nat}{v:fh}(h:RepV (cH G w) (.ptr l k g n) v):RepV G (.ptr l k g n) v:=by
 cases h with
 |ptr _ _ _ _ b sz C h1=>exact .ptr _ _ _ _ b sz C h1
theorem LC{st:XS}(hI:C4 G (st.s.emb σ pre) w)(l k:Nat):QY (cH G w) (cH G w) σ pre.length l k (st.s.get l k):=by
 refine⟨fun γ T es ho v hv=>?_,fun γ cs ho off v hv=>?_⟩
 ·have hget:(st.s.emb σ pre).get (l+pre.length) k=some (σ γ,.vec T (es.map (dv (V.ren σ pre.length)))):=by rw[B9,ho];rfl
  have:=SA hI (gW hI) hget (m:=es.length) (by simp) (fun _ _=>rfl) (AD0 hv);rwa [cx (by simp)]at this
 ·have hget:(st.s.emb σ pre).get (l+pre.length) k=some (σ γ,.box (cs.map (V.ren σ pre.length))):=by rw[B9,ho];rfl
  rw[PH];exact lG hI (gW hI) hget (fun _ _=>rfl) (AD1 hv)
theorem rI{st:XS}(hI:C4 G (st.s.emb σ pre) w)(k:Nat):QY (cH G w) (cH G w) σ pre.length st.s.up.length k (st.s.loc.get k):=by have:=LC hI st.s.up.length k;rwa [WG]at this
theorem UR{st:XS}(hI:C4 G (st.s.emb σ pre) w):∀(ks:List Nat) (x:V) (v:fh),RepV (cH G w) (x.ren σ pre.length) v->RepV (cH G w) ((H3 st ks x).ren σ pre.length) v
 |[],_,_,h=>h
 |k::ks,x,v,h=>by
  unfold H3;cases cj k 10000 with
  |true=>exact UR hI ks _ v (OQ (Gh.le_refl _) (rI hI k) 3 x v h)
  |false=>exact UR hI ks _ v (OQ (Gh.le_refl _) (LC hI _ _) 3 x v h)
theorem AD2{s':St}{w':fg}(hI:C4 G s w)(hle:(AIV G w).le G')(hI':C4 G' s' w'):C4 G s w':=by
 have he:G'.env=(w.os,w.output,w.heap.size):=hle.e;obtain⟨h1,h2,h3,h4⟩:=hI'.env;rw[he]at h1 h2 h3 h4;have hold:∀i,i<w.heap.size->w'.heap[i]? = w.heap[i]?:=fun i hi=>by have:=hI'.sl i w.heap[i] (hle.1 i _ (show w.heap[i]? = some w.heap[i] by simp[hi]));rw[this];simp[hi]
 obtain⟨e1,e2,e3,e4⟩:=hI.env;refine⟨fun b o h=>?_,fun l k g r h=>(hI.res l k g r h).keep (Gh.le_refl _) fun b hb=>hold b (hI.out _ _ _ _ _ h hb).2,hI.sep,fun l k g r b h hb=>⟨(hI.out _ _ _ _ _ h hb).1,Nat.lt_of_lt_of_le (hI.out _ _ _ _ _ h hb).2 h3⟩,hI.fresh,⟨h1.trans e1,h2.trans e2,dk e3 h3,fun b c T fz hb hc=>?_⟩⟩
 ·have h:=hI.sl b o h;rw[hold b (bp.1 h).1];exact h
 ·rcases cd b w.heap.size with hl|hl
  ·rw[hold b hl]at hc;exact e4 b c T fz hb hc
  ·exact h4 b c T fz hl hc
theorem AD3{r:V}{v:fh}(hf:aM r=true)(h:RepV G' r v):RepV G r v:=by
 cases r with
 |int k n=>cases h;exact .int _ _
 |bool b=>cases h;exact .bool _
 |agg cs=>
  cases h with
  |agg _ arr hl hc hr=>
   refine .agg _ arr hl hc fun i h1 h2=>?_
   have q:=hr i h1 h2
   have f:=bx.1 (show cs.all gV=true from hf) _ (List.getElem_mem h1)
   generalize cs[i]=c at *
   generalize arr[i]=z at *
   cases c with
   |int k n=>cases q;exact .int _ _
   |bool b=>cases q;exact .bool _
   |_=>cases f
 |_=>cases hf
theorem AD4{cf:CF}(hcf:dZ P cf){c0:CF0}(hc0:HP P c0)(ks:List Nat):dZ P (mX cf c0 ks):=by
 intro f args st r st' hx hbd hargs;unfold mX at hx;split at hx
 ·rename_i r0 h0;cases hf:aM r0 with
  |false=>
   rw[hf]at hx
   exact hcf f args st r st' hx hbd hargs
  |true=>
   rw[hf]at hx
   cases hx
   obtain⟨hA,h1,h2⟩:=hc0 _ _ _ h0
   refine⟨⟨bf _,hbd,rfl⟩,fun σ σ' δ _=>by rw[h2,h2],rfl,fun σ pre K hk=>⟨(hA ⟨[],[]⟩).1,fun G vals w R hI ha hR=>?_⟩⟩
   refine(hA ⟨[],[]⟩).2 (AIV G w) vals w R (ADZ hI) ?_ fun G' r' v w' s' hle hI' hv hlen hk'=>?_
   ·refine⟨by simpa using ha.1,fun i p q=>?_⟩;have hr:=ha.2 i (by simpa using p) q;simp only[bc]at hr|-;have h3:=UR hI ks _ _ (hr.mono (gW hI));rw[h1 _ (bn (List.getElem_mem _))]at h3;exact h3.monoC ADY
   ·obtain⟨rfl,rfl⟩:=hk';have:=hk σ (AR.refl _ _);rw[h2]at this;exact hR G r' v w' _ (Gh.le_refl _) (AD2 hI hle hI') (AD3 hf hv) rfl this
 ·exact hcf f args st r st' hx hbd hargs
theorem AQ4{E:XE}(h:KC P E)(ks:List Nat):KC P (cfU ks E):=by
 cases ks with
 |nil=>exact h
 |cons k ks=>exact⟨AD4 h.cf h.c0 _,h.cy,h.c0,h.co⟩
end Go.Pg
namespace Go.Pg
variable {P:fx}{σ σ':Nat->Nat}{δ:Nat}{pre:List AA}{s:St}{fr:Fr}{G G':Gh}{w:fg}{n k l d:Nat}
def KG(n k l d:Nat):Nat->V->V
 |0,v=>v
 |f+1,v=>match v with
  |.vec l' k' γ m=>if l'=n/\k'=k then .vec l d γ m else v
  |.ptr l' k' γ o=>if l'=n/\k'=k then .ptr l d γ o else v
  |.mp l' k' γ=>if l'=n/\k'=k then .mp l d γ else v
  |.agg cs=>.agg (cs.map (KG n k l d f))
  |.tup cs=>.tup (cs.map (KG n k l d f))
  |v=>v
def Q7(n k l d:Nat):AX->AX
 |.box cs=>.box (cs.map (KG n k l d 3))
 |.vec T es=>.vec T (es.map (dv (KG n k l d 3)))
 |r=>r
def vA(n k l d:Nat)(fr:Fr):Fr:=fr.map fun x=>(x.1,x.2.1,KG n k l d 3 x.2.2)
def jA(n k l d:Nat):AA->AA
 |[]=>[]
 |(j,g,r)::L=>if j=k then jA n k l d L else(j,g,Q7 n k l d r)::jA n k l d L
def I7(u:Nat):AA->AA
 |[]=>[]
 |(j,x)::L=>if j=u then I7 u L else(j,x)::I7 u L
def zI(n k l d:Nat):List Nat->AA->AA
 |[],L=>L
 |u::us,L=>match L.get u with
  |some (g,r)=>(u,g,Q7 n k l d r)::zI n k l d us (I7 u L)
  |none=>zI n k l d us L
def vB(k l d:Nat)(us:List Nat)(s:St)(o:Option (Nat×AX)):St:=match o with
 |some (γ,r)=>St.put ⟨s.up.modify l (zI s.up.length k l d us),jA s.up.length k l d s.loc⟩ l d γ (Q7 s.up.length k l d r)
 |none=>s
def QZ(l n:Nat):Option (Nat×AX)->Bool
 |some (_,r)=>Nat.ble l n&&bN r
 |none=>false
def cI(k l d:Nat)(us:List Nat)(st:XS):XS:=Bool.rec st ⟨st.c,vA st.s.up.length k l d st.fr,vB k l d us st.s (st.s.loc.get k)⟩ (QZ l st.s.up.length (st.s.loc.get k))
theorem mY:∀(f:Nat) (v:V),(v.ren σ δ).isCell=true->((KG n k l d f v).ren σ δ).isCell=true
 |0,v,h=>h
 |f+1,v,h=>by
  cases v with
  |agg cs=>simp only[HL]at h;cases h
  |tup cs=>simp only[KW]at h;cases h
  |vec l' k' g m=>simp only[KG];split<;>(simp only[HN];rfl)
  |ptr l' k' g m=>simp only[KG];split<;>(simp only[HM];rfl)
  |mp l' k' g=>simp only[KG];split<;>(simp only[QS];rfl)
  |_=>exact h
theorem gX:∀(f:Nat) (x:V) (v:fh),RepV G (x.ren σ δ) v->RepV G ((KG n k l d f x).ren σ δ) v
 |0,x,v,h=>h
 |f+1,x,v,h=>by
  have ih:=gX f;cases x with
  |vec l' k' g m=>
   simp only[KG]
   split
   ·simp only[HN]at h|-;cases h with
    |vec _ _ _ _ b sz C a h1 h2 h3=>exact .vec _ _ _ _ b sz C a h1 h2 h3
   ·exact h
  |ptr l' k' g o=>
   simp only[KG]
   split
   ·simp only[HM]at h|-;cases h with
    |ptr _ _ _ _ b sz C h1=>exact .ptr _ _ _ _ b sz C h1
   ·exact h
  |mp l' k' g=>
   simp only[KG]
   split
   ·simp only[QS]at h|-;cases h with
    |mp _ _ _ b sz C h1=>exact .mp _ _ _ b sz C h1
   ·exact h
  |agg cs=>
   simp only[KG,HL]at h|-
   cases h with
   |agg _ arr hl hc hr=>
    refine .agg _ arr (by simpa using hl) (fun c hc'=>?_) (fun i h1 h2=>?_)
    ·simp only[ck]at hc';obtain⟨d',⟨e,he,rfl⟩,rfl⟩:=hc';exact mY f e (hc _ (bn he))
    ·have q:=hr i (by simpa using h1) h2;simp only[bc]at q|-;exact ih _ _ q
  |tup cs=>
   simp only[KG,KW]at h|-
   cases h with
   |tup _ arr hl hr=>
    refine .tup _ arr (by simpa using hl) (fun i h1 h2=>?_)
    have q:=hr i (by simpa using h1) h2
    simp only[bc]at q|-
    exact ih _ _ q
  |_=>exact h
theorem mZ{cs:List V}{vs:List fh}(h:RepL G (cs.map (V.ren σ δ)) vs):RepL G ((cs.map (KG n k l d 3)).map (V.ren σ δ)) vs :=
 ⟨by simpa using h.1,fun i p q=>by
  have r:=h.2 i (by simpa using p) q;simp only[bc]at r |-;exact⟨mY 3 _ r.1,gX 3 _ _ r.2⟩⟩
theorem vC{g:Nat}{r:AX}(h:I0 G g w (r.ren σ δ)):I0 G g w ((Q7 n k l d r).ren σ δ):=by
 cases r with
 |box cs=>
  obtain⟨b,arr,T,h1,h2,h3⟩:=h
  exact⟨b,arr,T,by simpa using h1,h2,mZ h3⟩
 |vec T es=>
  obtain⟨b,sz,C,h1,h2,h3,h4,h5⟩:=h
  refine⟨b,sz,C,h1,by simpa using h2,fun e he=>?_,⟨h4.1,fun h=>h4.2 (by simpa using h)⟩,fun hC=>?_⟩
  ·simp only[ck]at he;obtain⟨e1,⟨e2,he2,rfl⟩,rfl⟩:=he;have:=h3 (e2.map (V.ren σ δ)) (bn he2);simpa using this
  ·obtain⟨arr,h6,h7,h8⟩:=h5 hC;refine⟨arr,h6,h7,?_⟩;have q:RepL G (es.flatten.map (V.ren σ δ)) (arr.toList.take (es.length*sz)):=by rw[bh];simpa using h8
   have q2:=mZ (n:=n) (k:=k) (l:=l) (d:=d) q;rw[bh,bh]at q2;simpa using q2
 |map es=>exact h
 |loop fr ps asg body N st=>exact h
 |dead=>trivial
theorem vD(G:Gh)(g:Nat)(r:AX):BL G g ((Q7 n k l d r).ren σ δ)=BL G g (r.ren σ δ):=by cases r<;>rfl
theorem gY:∀(fr:Fr) (j:Nat),(vA n k l d fr).get j=(fr.get j).map fun x=>(x.1,KG n k l d 3 x.2)
 |[],_=>rfl
 |(i,c,v)::fr,j=>by
  have ih:=gY fr j;simp only[vA,bg,Fr.get]at ih|-;split
  ·rfl
  ·exact ih
theorem vE:∀(L:AA) (j:Nat),(jA n k l d L).get j=if j=k then none else(L.get j).map fun x=>(x.1,Q7 n k l d x.2)
 |[],j=>by simp[jA]
 |(i,g,r)::L,j=>by
  have ih:=vE L j;unfold jA;by_cases h:i=k
  ·rw[if_pos h,ih];by_cases hj:j=k
   ·simp[hj]
   ·rw[if_neg hj,if_neg hj,AA.get,if_neg (by rw[h];exact hj)]
  ·rw[if_neg h];simp only[AA.get];by_cases hj:j=i
   ·subst hj;rw[if_pos rfl,if_pos rfl,if_neg h];rfl
   ·rw[if_neg hj,if_neg hj,ih]
theorem aN(u:Nat):∀(L:AA) (j:Nat),(I7 u L).get j=if j=u then none else L.get j
 |[],j=>by simp[I7,AA.get]
 |(q,x)::L,j=>by
  have ih:=aN u L j;unfold I7;by_cases h:q=u
  ·rw[if_pos h,ih];subst h;by_cases hj:j=q
   ·rw[if_pos hj,if_pos hj]
   ·rw[if_neg hj,if_neg hj];simp only[AA.get];rw[if_neg hj]
  ·rw[if_neg h];simp only[AA.get];by_cases hj:j=q
   ·subst hj;rw[if_pos rfl,if_neg h,if_pos rfl]
   ·rw[if_neg hj,if_neg hj,ih]
theorem gZ:∀(us:List Nat) (L:AA) (j:Nat) (x:Nat×AX),(zI n k l d us L).get j=some x->L.get j=some x\/∃r,L.get j=some (x.1,r)/\x.2=Q7 n k l d r
 |[],L,j,x,h=>.inl h
 |u::us,L,j,x,h=>by
  unfold zI at h;split at h
  ·rename_i g r e;simp only[AA.get]at h;split at h
   ·rename_i e2;subst e2;cases h;exact .inr ⟨r,e,rfl⟩
   ·rename_i hne;have:=gZ us _ j x h;rw[aN,if_neg hne]at this;exact this
  ·exact gZ us L j x h
theorem rJ{s:St}{l k γ:Nat}{r:AX}{l' k':Nat}{x:Nat×AX}(h:(s.put l k γ r).get l' k'=some x):(l'=l/\k'=k/\x=(γ,r))\/(¬(l'=l/\k'=k)/\s.get l' k'=some x):=by
 unfold St.put at h;unfold St.get at h|-;by_cases e1:l=s.up.length
 ·rw[if_pos e1]at h;by_cases e2:l'=s.up.length
  ·rw[if_pos e2]at h|-;rw[AA.get_put]at h;split at h
   ·rename_i e;exact .inl ⟨e2.trans e1.symm,e,(dp.inj h).symm⟩
   ·rename_i e;exact .inr ⟨fun hh=>e hh.2,h⟩
  ·rw[if_neg e2]at h|-;exact .inr ⟨fun hh=>e2 (hh.1.trans e1),h⟩
 ·rw[if_neg e1]at h;have hl:({ s with up:=s.up.modify l (fun L=>L.put k γ r) }:St).up.length=s.up.length:=by simp
  rw[hl]at h;by_cases e2:l'=s.up.length
  ·rw[if_pos e2]at h|-;exact .inr ⟨fun hh=>e1 (hh.1.symm.trans e2),h⟩
  ·rw[if_neg e2]at h|-;rw[cp]at h;cases hu:s.up[l']? with
   |none=>simp[hu]at h
   |some L=>
    rw[hu]at h
    simp only[df,dz]at h
    by_cases e3:l=l'
    ·simp only[e3,if_true,AA.get_put]at h;split at h
     ·rename_i e;exact .inl ⟨e3.symm,e,(dp.inj h).symm⟩
     ·rename_i e;exact .inr ⟨fun hh=>e hh.2,h⟩
    ·simp only[e3,if_false]at h;exact .inr ⟨fun hh=>e3 hh.1.symm,h⟩
theorem vF{us:List Nat}{γ:Nat}{r:AX}{l1 k1:Nat}{x:Nat×AX}(h:(vB k l d us s (some (γ,r))).get l1 k1=some x) :
  (l1=l/\k1=d/\x=(γ,Q7 s.up.length k l d r))\/(¬(l1=l/\k1=d)/\¬(l1=s.up.length/\k1=k)/\(s.get l1 k1=some x\/∃r0,s.get l1 k1=some (x.1,r0)/\x.2=Q7 s.up.length k l d r0)):=by
 rcases rJ h with⟨h1,h2,h3⟩|⟨h1,h2⟩
 ·exact .inl ⟨h1,h2,h3⟩
 ·refine .inr ⟨h1,?_⟩;have hlen:(s.up.modify l (zI s.up.length k l d us)).length=s.up.length:=by simp
  unfold St.get at h2|-;simp only[hlen]at h2;by_cases e:l1=s.up.length
  ·rw[if_pos e]at h2|-;rw[vE]at h2;split at h2
   ·cases h2
   ·rename_i hk;refine⟨fun hh=>hk hh.2,.inr ?_⟩;obtain⟨y,hy,rfl⟩:=dg.1 h2;exact⟨y.2,hy,rfl⟩
  ·rw[if_neg e]at h2|-;refine⟨fun hh=>e hh.1,?_⟩;rw[cp]at h2;cases hu:s.up[l1]? with
   |none=>simp[hu]at h2
   |some L=>
    rw[hu]at h2
    simp only[df,dz]at h2|-
    by_cases e3:l=l1
    ·simp only[e3,if_true]at h2;rw[<-e3]at h2;exact gZ us L k1 x h2
    ·simp only[e3,if_false]at h2;exact .inl h2
theorem AIW{s s':St}{l1 k1:Nat}(h:l1<pre.length):(s.emb σ pre).get l1 k1=(s'.emb σ pre).get l1 k1:=by unfold St.get;rw[DL,DL,if_neg (by omega),if_neg (by omega)];simp only[St.emb,List.getElem?_append_left h]
theorem vG{us:List Nat}{o:Option (Nat×AX)}:(vB k l d us s o).up.length=s.up.length:=by
 cases o with
 |none=>rfl
 |some x=>unfold vB;rw[St.put_len];simp
theorem AQ5{us:List Nat}{γ:Nat}{r:AX}(hr:s.loc.get k=some (γ,r))(hI:C4 G (s.emb σ pre) w):C4 G ((vB k l d us s (some (γ,r))).emb σ pre) w:=by
 have look:∀{l1 k1 g r1},((vB k l d us s (some (γ,r))).emb σ pre).get l1 k1=some (g,r1)->∃l0 k0 r0,(s.emb σ pre).get l0 k0=some (g,r0)/\I0 G g w r1/\BL G g r1=BL G g r0 /\
   ((l1=l+pre.length/\k1=d/\l0=s.up.length+pre.length/\k0=k)\/(¬(l1=l+pre.length/\k1=d)/\¬(l1=s.up.length+pre.length/\k1=k)/\l0=l1/\k0=k1)):=by
  intro l1 k1 g r1 h
  by_cases hp:l1<pre.length
  ·rw[AIW (s':=s) hp]at h;exact⟨l1,k1,r1,h,hI.res _ _ _ _ h,rfl,.inr ⟨fun hh=>by omega,fun hh=>by omega,rfl,rfl⟩⟩
  ·obtain⟨l2,rfl⟩:∃l2,l1=l2+pre.length:=⟨l1-pre.length,by omega⟩;rw[B9]at h;obtain⟨⟨γ',r'⟩,h1,h2⟩:=dg.1 h;cases h2;rcases vF h1 with⟨rfl,rfl,e⟩|⟨e1,e2,e3⟩
   ·cases e;have h0:(s.emb σ pre).get (s.up.length+pre.length) k=some (σ γ,r.ren σ pre.length):=by rw[B9,WG,hr];rfl
    exact⟨_,_,_,h0,vC (hI.res _ _ _ _ h0),vD _ _ _,.inl ⟨rfl,rfl,rfl,rfl⟩⟩
   ·rcases e3 with e3|⟨r0,e3,rfl⟩
    ·have h0:(s.emb σ pre).get (l2+pre.length) k1=some (σ γ',r'.ren σ pre.length):=by rw[B9,e3];rfl
     exact⟨_,_,_,h0,hI.res _ _ _ _ h0,rfl,.inr ⟨fun hh=>e1 ⟨by omega,hh.2⟩,fun hh=>e2 ⟨by omega,hh.2⟩,rfl,rfl⟩⟩
    ·have h0:(s.emb σ pre).get (l2+pre.length) k1=some (σ γ',r0.ren σ pre.length):=by rw[B9,e3];rfl
     exact⟨_,_,_,h0,vC (hI.res _ _ _ _ h0),vD _ _ _,.inr ⟨fun hh=>e1 ⟨by omega,hh.2⟩,fun hh=>e2 ⟨by omega,hh.2⟩,rfl,rfl⟩⟩
 refine⟨hI.sl,fun l k g r h=>(by obtain⟨_,_,_,_,h2,_⟩:=look h;exact h2),fun l1 k1 g1 r1 l2 k2 g2 r2 b h1 h2 h3 h4=>?_,fun l1 k1 g1 r1 b h1 h2=>?_,hI.fresh,hI.env⟩
 ·obtain⟨a1,a2,a3,a4,_,a6,a7⟩:=look h1;obtain⟨b1,b2,b3,b4,_,b6,b7⟩:=look h2;have hs:=hI.sep _ _ _ _ _ _ _ _ _ a4 b4 (a6▸h3) (b6▸h4);rcases a7 with⟨c1,c2,c3,c4⟩|⟨c1,c2,c3,c4⟩<;>rcases b7 with⟨d1,d2,d3,d4⟩|⟨d1,d2,d3,d4⟩
  ·exact⟨c1.trans d1.symm,c2.trans d2.symm⟩
  ·exact(d2 ⟨d3.symm.trans (hs.1.symm.trans c3),d4.symm.trans (hs.2.symm.trans c4)⟩).elim
  ·exact(c2 ⟨c3.symm.trans (hs.1.trans d3),c4.symm.trans (hs.2.trans d4)⟩).elim
  ·exact⟨c3.symm.trans (hs.1.trans d3),c4.symm.trans (hs.2.trans d4)⟩
 ·obtain⟨a1,a2,a3,a4,_,a6,_⟩:=look h1;exact hI.out _ _ _ _ _ a4 (a6▸h2)
theorem AD5{N:Nat}{ρ:Option Nat}{c:Code}{K:Exit->Fr->St->Prop}{us:List Nat}{m:Nat}{st:XS}(h:BE P m N ρ c K ((cI k l d us st).fr.ren σ pre.length) ((cI k l d us st).s.emb σ pre)):BE P m N ρ c K (st.fr.ren σ pre.length) (st.s.emb σ pre):=by
 unfold cI at h;cases ho:QZ l st.s.up.length (st.s.loc.get k)with
 |false=>rw[ho]at h;exact h
 |true=>
  rw[ho]at h
  cases hr:st.s.loc.get k with
  |none=>rw[hr]at ho;cases ho
  |some x=>
   obtain⟨γ,r⟩:=x
   rw[hr]at ho h
   simp only[QZ,bj,Nat.ble_eq]at ho
   intro G0 G a w hR
   refine h G0 G a w ⟨hR.le,AQ5 hr hR.inv,fun j c v hj=>?_,hR.size,?_,hR.marks⟩
   ·rw[Fr.get_ren]at hj;have hj':((vA st.s.up.length k l d st.fr).get j).map (fun p=>(p.1,p.2.ren σ pre.length))=some (c,v):=hj;rw[gY]at hj';cases hg:st.fr.get j with
    |none=>rw[hg]at hj';cases hj'
    |some y=>
     rw[hg]at hj'
     obtain⟨c0,v0⟩:=y
     cases hj'
     obtain⟨x,q1,q2,q3⟩:=hR.fr j c0 (v0.ren σ pre.length) (by rw[Fr.get_ren,hg];rfl)
     exact⟨x,q1,fun hc=>gX 3 _ _ (q2 hc),q3⟩
   ·have:=hR.lvl;rw[DL]at this|-;show(vB k l d us st.s (some (γ,r))).up.length+_=_;rw[vG];exact this
theorem rK:∀(f:Nat) (v:V),v.ren σ δ=v.ren σ' δ->(KG n k l d f v).ren σ δ=(KG n k l d f v).ren σ' δ
 |0,v,h=>h
 |f+1,v,h=>by
  have ih:=rK f;have lst:∀cs:List V,cs.map (V.ren σ δ)=cs.map (V.ren σ' δ)->(cs.map (KG n k l d f)).map (V.ren σ δ)=(cs.map (KG n k l d f)).map (V.ren σ' δ):=by intro cs h;simp only[bb];refine bk fun x hx=>?_;exact ih x (bz.1 h x hx)
  cases v with
  |vec l' k' g m=>
   simp only[KG]
   split
   ·simp only[HN,V.vec.injEq,true_and,and_true]at h|-;exact h
   ·exact h
  |ptr l' k' g o=>
   simp only[KG]
   split
   ·simp only[HM,V.ptr.injEq,true_and,and_true]at h|-;exact h
   ·exact h
  |mp l' k' g=>
   simp only[KG]
   split
   ·simp only[QS,V.mp.injEq,true_and]at h|-;exact h
   ·exact h
  |agg cs=>
   simp only[KG,HL,V.agg.injEq]at h|-
   exact lst cs h
  |tup cs=>
   simp only[KG,KW,V.tup.injEq]at h|-
   exact lst cs h
  |_=>exact h
theorem rL{r:AX}(h:r.ren σ δ=r.ren σ' δ):(Q7 n k l d r).ren σ δ=(Q7 n k l d r).ren σ' δ:=by
 have lst:∀cs:List V,cs.map (V.ren σ δ)=cs.map (V.ren σ' δ)->(cs.map (KG n k l d 3)).map (V.ren σ δ)=(cs.map (KG n k l d 3)).map (V.ren σ' δ):=by intro cs h;simp only[bb];exact bk fun x hx=>rK 3 x (bz.1 h x hx)
 cases r with
 |box cs=>
  simp only[Q7,AX.ren,AX.box.injEq]at h|-
  exact lst cs h
 |vec T es=>
  simp only[Q7,AX.ren,AX.vec.injEq,true_and,bb]at h|-
  refine bk fun e he=>?_
  exact lst e (bz.1 h e he)
 |_=>exact h
theorem AD6:∀(L:AA),L.ren σ δ=L.ren σ' δ->(jA n k l d L).ren σ δ=(jA n k l d L).ren σ' δ
 |[],_=>rfl
 |(j,g,r)::L,h=>by
  simp only[AA.ren,bg,fj.injEq,dr.injEq,true_and]at h;have ih:=AD6 L h.2;simp only[jA];split
  ·exact ih
  ·simp only[AA.ren,bg,fj.injEq,dr.injEq,true_and];exact⟨⟨h.1.1,rL h.1.2⟩,ih⟩
theorem AD7{L:AA}(h:L.ren σ δ=L.ren σ' δ){k γ:Nat}{r:AX}(hg:L.get k=some (γ,r)):σ γ=σ' γ/\r.ren σ δ=r.ren σ' δ:=by
 have e1:(L.ren σ δ).get k=some (σ γ,r.ren σ δ):=by rw[AA.get_ren,hg];rfl
 have e2:(L.ren σ' δ).get k=some (σ' γ,r.ren σ' δ):=by rw[AA.get_ren,hg];rfl
 rw[h,e2]at e1;simp only[dp.injEq,dr.injEq]at e1;exact⟨e1.1.symm,e1.2.symm⟩
theorem aO(u:Nat):∀(L:AA),AA.ren σ δ (I7 u L)=I7 u (AA.ren σ δ L)
 |[]=>rfl
 |(q,g,r)::L=>by
  have ih:=aO u L;show AA.ren σ δ (I7 u ((q,g,r)::L))=I7 u ((q,σ g,r.ren σ δ)::AA.ren σ δ L);unfold I7;by_cases h:q=u
  ·rw[if_pos h,if_pos h,ih]
  ·rw[if_neg h,if_neg h,<-ih];rfl
theorem rM:∀(us:List Nat) (L:AA),L.ren σ δ=L.ren σ' δ->(zI n k l d us L).ren σ δ=(zI n k l d us L).ren σ' δ
 |[],_,h=>h
 |u::us,L,h=>by
  unfold zI;split
  ·rename_i g r e;obtain⟨h1,h2⟩:=AD7 h e;have ih:=rM us (I7 u L) (by rw[aO,aO,h]);simp only[AA.ren,bg,fj.injEq,dr.injEq,true_and];exact⟨⟨h1,rL h2⟩,ih⟩
  ·exact rM us L h
theorem AQ6{us:List Nat}{γ:Nat}{r:AX}(hr:s.loc.get k=some (γ,r))(h:s.emb σ pre=s.emb σ' pre):(vB k l d us s (some (γ,r))).emb σ pre=(vB k l d us s (some (γ,r))).emb σ' pre:=by
 have h0:=h;simp only[St.emb,St.mk.injEq,dj]at h;obtain⟨h1,h2⟩:=AD7 h.2 hr;unfold vB;rw[C0,C0,h1,rL h2];congr 1;simp only[St.emb,St.mk.injEq,dj];refine⟨?_,AD6 _ h.2⟩;apply List.ext_getElem?;intro i;have hi:=congrArg (·[i]?) h.1;simp only[List.getElem?_map,cp]at hi|-;cases hu:s.up[i]? with
 |none=>rfl
 |some L=>
  rw[hu]at hi
  simp only[dz,dp.injEq,df]at hi|-
  split
  ·exact rM us L hi
  ·exact hi
theorem AIX{us:List Nat}{st:XS}(h:Bd st):KM st (cI k l d us st):=by
 unfold cI;cases ho:QZ l st.s.up.length (st.s.loc.get k)with
 |false=>exact⟨bf _,h,rfl⟩
 |true=>
  cases hr:st.s.loc.get k with
  |none=>rw[hr]at ho;cases ho
  |some x=>
   obtain⟨γ,r⟩:=x
   rw[hr]at ho
   simp only[QZ,bj,Nat.ble_eq]at ho
   refine⟨bf _,⟨fun σ σ' δ ha=>?_,fun σ σ' pre ha=>AQ6 hr (h.s σ σ' pre ha),fun l1 k1 γ' fr ps asg body N ls hg=>?_⟩,vG⟩
   ·have q:=h.f σ σ' δ ha;simp only[vA,Fr.ren,bb]at q|-;refine bk fun x hx=>?_;have:=bz.1 q x hx;simp only[dr.injEq,true_and]at this;simp only[Function.comp,dr.injEq,true_and];exact rK 3 _ this
   ·have nl:∀r0:AX,(AX.loop fr ps asg body N ls)=Q7 st.s.up.length k l d r0->r0=.loop fr ps asg body N ls:=by intro r0 e;cases r0<;>first|exact e.symm|cases e
    rcases vF hg with⟨_,_,e⟩|⟨_,_,e⟩
    ·have e2:AX.loop fr ps asg body N ls=Q7 st.s.up.length k l d r:=congrArg Prod.snd e;have:=nl r e2;subst this;exact absurd ho.2 (by simp[bN])
    ·rcases e with e|⟨r0,e,e2⟩
     ·exact h.lp l1 k1 γ' fr ps asg body N ls e
     ·have:=nl r0 e2;subst this;exact h.lp l1 k1 γ' fr ps asg body N ls e
def rN(n:Nat)(o:Option (Nat×AX)):List Nat:=match o with
 |some (_,.vec _ es)=>es.filterMap fun e=>match e with
  |[.vec l k _ _]=>if l=n then some k else none
  |_=>none
 |_=>[]
def AD8(k:Nat)(st:XS):XS:=OP (rN st.s.up.length (st.s.loc.get k)) st
def L7(p:Nat)(st:XS):Nat:=match p with
 |0=>st.s.up.length-1
 |p+1=>match BQ st.fr p with
  |some (true,.ptr l _ _ _)=>l
  |_=>0
def rO(B i:Nat)(st:XS):Nat:=match i with
 |0=>B
 |i+1=>match BQ st.fr i with
  |some (true,.int _ n)=>B+n.toNat
  |_=>B
def mvX(k B i p u:Nat)(st:XS):XS:=cI k (L7 p st) (rO B i st) (match u with|0=>[]|u+1=>[u]) st
def jB:V->V
 |.nil=>.list false []
 |v=>v
def wkR:AX->AX
 |.vec T es=>.vec T (es.map (dv jB))
 |.box cs=>.box (cs.map jB)
 |r=>r
def cJ(k:Nat):AA->AA
 |[]=>[]
 |(j,g,r)::L=>(j,g,if j=k then wkR r else r)::cJ k L
def wk1(k:Nat)(st:XS):XS:=⟨st.c,st.fr,⟨st.s.up,cJ k st.s.loc⟩⟩
theorem AIY(v:V):(jB v).ren σ δ=jB (v.ren σ δ):=by cases v<;>simp[jB]
theorem nA(cs:List V):(cs.map jB).map (V.ren σ δ)=(cs.map (V.ren σ δ)).map jB:=by rw[bb,bb];exact bk fun v _=>AIY v
theorem AIZ(r:AX):(wkR r).ren σ δ=wkR (r.ren σ δ):=by
 cases r with
 |box cs=>simp only[wkR,AX.ren,nA]
 |vec T es=>
  simp only[wkR,AX.ren,bb,AX.vec.injEq,true_and]
  exact bk fun e _=>nA e
 |_=>rfl
theorem vH(k:Nat):∀L:AA,(cJ k L).ren σ δ=cJ k (L.ren σ δ)
 |[]=>rfl
 |(j,g,r)::L=>by
  have ih:=vH k L;simp only[AA.ren]at ih;simp only[cJ,AA.ren,bg,ih,fj.injEq,dr.injEq,true_and,and_true];split
  ·exact AIZ r
  ·rfl
theorem vI(k:Nat):∀(L:AA) (j:Nat),(cJ k L).get j=if j=k then(L.get j).map (fun x=>(x.1,wkR x.2)) else L.get j
 |[],j=>by simp[cJ]
 |(i,g,r)::L,j=>by
  have ih:=vI k L j;simp only[cJ,AA.get];by_cases hj:j=i
  ·subst hj;rw[if_pos rfl,if_pos rfl];by_cases h:j=k
   ·rw[if_pos h,if_pos h];rfl
   ·rw[if_neg h,if_neg h]
  ·rw[if_neg hj,if_neg hj,ih]
theorem AD9{v:V}(h:v.isCell=true):(jB v).isCell=true:=by cases v<;>first|exact h|rfl
theorem AI0{G:Gh}{x:V}{v:fh}(h:RepV G x v):RepV G (jB x) v:=by
 cases x with
 |nil=>exact h.empty
 |_=>exact h
theorem nB{G:Gh}{cs:List V}{vs:List fh}(h:RepL G cs vs):RepL G (cs.map jB) vs :=
 ⟨by simpa using h.1,fun i p q=>by
  have r:=h.2 i (by simpa using p) q;simp only[bc];exact⟨AD9 r.1,AI0 r.2⟩⟩
theorem AI1{G:Gh}{w:fg}{g:Nat}{r:AX}(h:I0 G g w r):I0 G g w (wkR r):=by
 cases r with
 |box cs=>
  obtain⟨b,arr,T,h1,h2,h3⟩:=h
  exact⟨b,arr,T,by simpa using h1,h2,nB h3⟩
 |vec T es=>
  obtain⟨b,sz,C,h1,h2,h3,h4,h5⟩:=h
  refine⟨b,sz,C,h1,by simpa using h2,fun e he=>?_,⟨h4.1,fun h=>h4.2 (by simpa using h)⟩,fun hC=>?_⟩
  ·obtain⟨e2,he2,rfl⟩:=ck.1 he;simpa using h3 e2 he2
  ·obtain⟨arr,h6,h7,h8⟩:=h5 hC;refine⟨arr,h6,h7,?_⟩;have q:=nB h8;rw[bh]at q;simpa using q
 |_=>exact h
theorem AEA(G:Gh)(g:Nat)(r:AX):BL G g (wkR r)=BL G g r:=by cases r<;>rfl
theorem AEB{s:St}{k l j:Nat}{x:Nat×AX}(h:St.get ⟨s.up,cJ k s.loc⟩ l j=some x):∃r,s.get l j=some (x.1,r)/\(x.2=r\/x.2=wkR r):=by
 unfold St.get at h|-;split at h
 ·rename_i e;rw[if_pos e];have h:(cJ k s.loc).get j=some x:=h;rw[vI]at h;split at h
  ·cases hg:s.loc.get j with
   |none=>rw[hg]at h;cases h
   |some y=>rw[hg]at h;cases h;exact⟨_,rfl,.inr rfl⟩
  ·exact⟨_,h,.inl rfl⟩
 ·rename_i e;rw[if_neg e];exact⟨_,h,.inl rfl⟩
theorem AQ7{G:Gh}{s:St}{w:fg}{k:Nat}(hI:C4 G s w):C4 G ⟨s.up,cJ k s.loc⟩ w:=by
 have look:∀{l j g r},St.get ⟨s.up,cJ k s.loc⟩ l j=some (g,r)->∃r0,s.get l j=some (g,r0)/\I0 G g w r/\BL G g r=BL G g r0:=by
  intro l j g r h;obtain⟨r0,h1,h2⟩:=AEB h;refine⟨r0,h1,?_⟩;have h3:=hI.res _ _ _ _ h1;rcases h2 with h2|h2
  ·simp only at h2;subst h2;exact⟨h3,rfl⟩
  ·simp only at h2;subst h2;exact⟨AI1 h3,AEA _ _ _⟩
 refine⟨hI.sl,fun l k g r h=>(by obtain⟨r0,_,h2,_⟩:=look h;exact h2),fun l k g r l' k' g' r' b h1 h2 h3 h4=>?_,fun l k g r b h1 h2=>?_,hI.fresh,hI.env⟩
 ·rcases look h1 with⟨r1,e1,_,o1⟩;rcases look h2 with⟨r2,e2,_,o2⟩;exact hI.sep _ _ _ _ _ _ _ _ _ e1 e2 (o1▸h3) (o2▸h4)
 ·rcases look h1 with⟨r1,e1,_,o1⟩;exact hI.out _ _ _ _ _ e1 (o1▸h2)
theorem hJ{k:Nat}{st:XS}:(wk1 k st).s.emb σ pre=⟨(st.s.emb σ pre).up,cJ k (st.s.emb σ pre).loc⟩:=by simp only[wk1,St.emb,vH]
theorem AEC{m N:Nat}{ρ:Option Nat}{c:Code}{K:Exit->Fr->St->Prop}{k:Nat}{st:XS}(h:BE P m N ρ c K ((wk1 k st).fr.ren σ pre.length) ((wk1 k st).s.emb σ pre)):BE P m N ρ c K (st.fr.ren σ pre.length) (st.s.emb σ pre):=by intro G0 G a w hR;rw[hJ]at h;exact h G0 G a w ⟨hR.le,AQ7 hR.inv,hR.fr,hR.size,hR.lvl,hR.marks⟩
theorem AI2{k:Nat}{st:XS}(h:Bd st):KM st (wk1 k st):=by
 refine⟨bf _,⟨h.f,fun σ σ' pre ha=>by rw[hJ,hJ,h.s σ σ' pre ha],fun l j γ fr ps asg body N ls hg=>?_⟩,rfl⟩;obtain⟨r,h1,h2⟩:=AEB (s:=st.s) hg;have e:r=.loop fr ps asg body N ls:=by
  rcases h2 with h2|h2
  ·exact h2.symm
  ·cases r<;>first|exact h2.symm|cases h2
 subst e;exact h.lp l j γ fr ps asg body N ls h1
def vJ(k:Nat)(st:XS):XS:=Bool.rec (Bool.rec (Bool.rec (wk1 (k % 1000) st) (AD8 (k % 1000) st) (cj k 2000000000000000))
 (mvX ((k-1000) % 1000) ((k-1000) / 1000 % 1000) ((k-1000) / 1000000 % 1000) ((k-1000) / 1000000000 % 1000) ((k-1000) / 1000000000000) st) (cj k 1000000000000000)) (H2 k st) (cj k 1000)
def K7(ks:List Nat)(st:XS):XS:=List.rec (motive:=fun _=>XS->XS) (fun st=>st) (fun k _ ih st=>ih (vJ k st)) ks st
theorem A2C{us:List Nat}{st:XS}:(cI k l d us st).c=st.c:=by unfold cI;cases QZ l st.s.up.length (st.s.loc.get k)<;>rfl
theorem A2D{k:Nat}{st:XS}:(vJ k st).c=st.c:=by
 unfold vJ;cases cj k 1000 with
 |true=>rfl
 |false=>cases cj k 1000000000000000 with
  |true=>exact A2C
  |false=>cases cj k 2000000000000000 with
   |true=>exact uZ _ _
   |false=>rfl
theorem AI3{k:Nat}{st:XS}(h:Bd st):KM st (vJ k st):=by
 unfold vJ;cases cj k 1000 with
 |true=>exact eI h
 |false=>cases cj k 1000000000000000 with
  |true=>exact AIX h
  |false=>cases cj k 2000000000000000 with
   |true=>exact eJ _ h
   |false=>exact AI2 h
theorem AED{m N:Nat}{ρ:Option Nat}{c:Code}{K:Exit->Fr->St->Prop}{k:Nat}{st:XS}(h:BE P m N ρ c K ((vJ k st).fr.ren σ pre.length) ((vJ k st).s.emb σ pre)):BE P m N ρ c K (st.fr.ren σ pre.length) (st.s.emb σ pre):=by
 unfold vJ at h;cases h1:cj k 1000 with
 |true=>rw[h1]at h;exact aK h
 |false=>
  rw[h1]at h
  cases h2:cj k 1000000000000000 with
  |true=>rw[h2]at h;exact AD5 h
  |false=>
   rw[h2]at h
   cases h3:cj k 2000000000000000 with
   |true=>rw[h3]at h;exact aL _ h
   |false=>rw[h3]at h;exact AEC h
theorem AM1:∀(ks:List Nat) (st:XS),(K7 ks st).c=st.c
 |[],_=>rfl
 |k::ks,st=>(AM1 ks (vJ k st)).trans A2D
theorem vK:∀(ks:List Nat) {st:XS},Bd st->KM st (K7 ks st)
 |[],st,h=>⟨bf _,h,rfl⟩
 |k::ks,st,h=>by have h1:=AI3 (k:=k) h;have h2:=vK ks h1.bd;exact⟨dk h1.c h2.c,h2.bd,h2.n.trans h1.n⟩
theorem nC{m N:Nat}{ρ:Option Nat}{c:Code}{K:Exit->Fr->St->Prop}:∀(ks:List Nat) {st:XS},BE P m N ρ c K ((K7 ks st).fr.ren σ pre.length) ((K7 ks st).s.emb σ pre)->BE P m N ρ c K (st.fr.ren σ pre.length) (st.s.emb σ pre)
 |[],_,h=>h
 |k::ks,st,h=>AED (k:=k) (nC ks (st:=vJ k st) h)
end Go.Pg
namespace Go.Pg
variable {P:fx}{n N:Nat}{ρ:Option Nat}{G0 G:Gh}{fr fr':Fr}{s s':St}{a:Act}{w:fg}{l:List fw}{gs:List (Option (Tmp×Bool))}{e:Nat}{σ σ':Nat->Nat}{δ:Nat}{pre:List AA}
def H4(P:fx)(l:List fw)(gs:List (Option (Tmp×Bool)))(e i:Nat)(fr:Fr)(s:St)(k:Fr->St->Prop):Prop:=match l[i]? with
 |some o=>if i=e then ∃f args,PY fr (bM gs i)=some true/\I4 true o fr=some (f,args)/\E7 P f args s fun r s'=>k (putD fr o.dst true r) s'
  else ∃v,PY fr (bM gs i)=some true/\(∀s,FL P true o fr s=some v)/\k (putD fr o.dst true v) s
 |none=>False
def iA(P:fx)(l:List fw)(gs:List (Option (Tmp×Bool)))(e:Nat)(T:Array Bool->Fr->St->Prop):Nat->List Nat->Array Bool->Fr->St->Prop
 |0,_,listed,fr,s=>T listed fr s
 |m+1,R,listed,fr,s=>yI l listed≠[]/\∀j∈yI l listed,j∈R/\H4 P l gs e j fr s (iA P l gs e T m (R.erase j) (listed.setIfInBounds j true))
def K1(fr fr':Fr):Prop:=∀k,fr.get k=fr'.get k
theorem K1.same(h:K1 fr fr'):F8 fr ⟨[],[]⟩ fr' ⟨[],[]⟩:=⟨h,fun _ _=>rfl,rfl⟩
theorem K1.putD(h:K1 fr fr')(d:Option Tmp)(c:Bool)(v:V):K1 (Pg.putD fr d c v) (Pg.putD fr' d c v):=(h.same.putD d c v).f
variable {T:Array Bool->Fr->St->Prop}
theorem nD{i:Nat}{k k':Fr->St->Prop}(h:H4 P l gs e i fr s k)(hf:K1 fr fr')(hk:∀f1 f2 s1,K1 f1 f2->k f1 s1->k' f2 s1):H4 P l gs e i fr' s k':=by
 unfold H4 at h|-;split
 ·rename_i o ho;simp only[ho]at h;split
  ·rename_i hi;rw[if_pos hi]at h;obtain⟨f,args,h1,h2,h3⟩:=h;exact⟨f,args,(hf.same.gd _).symm.trans h1,(GQ fun x _=>(hf.same.rd x).symm).trans h2,h3.mono fun r s1=>hk _ _ _ (hf.putD _ _ _)⟩
  ·rename_i hi;rw[if_neg hi]at h;obtain⟨v,h1,h2,h3⟩:=h;exact⟨v,(hf.same.gd _).symm.trans h1,fun s1=>(GM fun x _=>(hf.same.rd x).symm).trans (h2 s1),hk _ _ _ (hf.putD _ _ _) h3⟩
 ·rename_i ho;simp only[ho]at h
theorem M9{i:Nat}{k k':Fr->St->Prop}(h:H4 P l gs e i fr s k)(hk:∀f1 s1,k f1 s1->k' f1 s1):H4 P l gs e i fr s k':=by
 unfold H4 at h|-;split
 ·rename_i o ho;simp only[ho]at h;split
  ·rename_i hi;rw[if_pos hi]at h;obtain⟨f,args,h1,h2,h3⟩:=h;exact⟨f,args,h1,h2,h3.mono fun r s1=>hk _ _⟩
  ·rename_i hi;rw[if_neg hi]at h;obtain⟨v,h1,h2,h3⟩:=h;exact⟨v,h1,h2,hk _ _ h3⟩
 ·rename_i ho;simp only[ho]at h
theorem aP(hT:∀listed fr fr' s,K1 fr fr'->T listed fr s->T listed fr' s):∀(m:Nat) (R:List Nat) (listed:Array Bool) (fr fr':Fr) (s:St),K1 fr fr'->iA P l gs e T m R listed fr s->iA P l gs e T m R listed fr' s
 |0,_,_,_,_,_,hs,h=>hT _ _ _ _ hs h
 |m+1,_,_,_,_,_,hs,h=>⟨h.1,fun j hj=>⟨(h.2 j hj).1,nD (h.2 j hj).2 hs fun _ _ _ h12 h'=>aP hT m _ _ _ _ _ h12 h'⟩⟩
theorem rP{i j:Nat}{oi oj:fw}{k k':Fr->St->Prop}(hi:l[i]? = some oi)(hj:l[j]? = some oj)(hie:i≠e)(hij:GR oj (bM gs j) oi.dst)(hji:GR oi (bM gs i) oj.dst)(hne:∀d,oi.dst=some d->oj.dst≠some d)
  (h:H4 P l gs e i fr s fun f1 s1=>H4 P l gs e j f1 s1 k) (hk:∀f1 f2 s1,K1 f1 f2->k f1 s1->k' f2 s1):H4 P l gs e j fr s fun f2 s2=>H4 P l gs e i f2 s2 k':=by
 have hcomm:∀(v v':V),K1 (putD (putD fr oi.dst true v) oj.dst true v') (putD (putD fr oj.dst true v') oi.dst true v):=by
  intro v v' t;simp only[F9];by_cases e1:oj.dst=some t
  ·have:oi.dst≠some t:=fun e2=>hne t e2 e1;simp[e1,this]
  ·simp[e1]
 unfold H4 at h|-
 simp only[hi,hj,if_neg hie]at h|-
 obtain⟨v,g1,hv,h⟩:=h
 by_cases hje:j=e
 ·rw[if_pos hje]at h|-;obtain⟨f,args,g2,hc,h⟩:=h;exact⟨f,args,(hij.gd true v).symm.trans g2,(GQ (hij.rd true v)).symm.trans hc,h.mono fun r s1 hk'=>⟨v,(hji.gd true r).trans g1,fun s2=>(GM (hji.rd true r)).trans (hv s2),hk _ _ _ (hcomm v r) hk'⟩⟩
 ·rw[if_neg hje]at h|-;obtain⟨u,g2,hu,h⟩:=h;exact⟨u,(hij.gd true v).symm.trans g2,fun s2=>(GM (hij.rd true v)).symm.trans (hu s2),v,(hji.gd true u).trans g1,fun s2=>(GM (hji.rd true u)).trans (hv s2),hk _ _ _ (hcomm v u) h⟩
structure vL(l:List fw)(gs:List (Option (Tmp×Bool)))(e i:Nat)(oi:fw)(B:List Nat)(R:List Nat)(listed:Array Bool):Prop where
 ready:i∈yI l listed
 mem:i∈R
 wait:∀b∈B,∃o,l[b]? = some o/\∃x∈o.after,Region.binds .any x=true/\(x.on=i\/x.on∈B)
 un:∀b∈B,listed.getD b true=false
 free:∀j oj,l[j]? = some oj->j≠i->j∉B->listed.getD j true=false->i≠e/\j∈R/\GR oj (bM gs j) oi.dst/\GR oi (bM gs i) oj.dst/\(∀d,oi.dst=some d->oj.dst≠some d)
theorem vL.blocked{i:Nat}{oi:fw}{B R:List Nat}{listed:Array Bool}(h:vL l gs e i oi B R listed){j:Nat}(hj:j∈yI l listed):j∉B:=by
 intro hb;obtain⟨_,o,ho,hall⟩:=mem_ready.1 hj;obtain⟨o',ho',x,hx,hbi,hon⟩:=h.wait j hb;have:o=o':=by simpa [ho']using ho.symm
 subst this;have h1:=hall x hx hbi;rcases hon with hon|hon
 ·rw[hon,WI (mem_ready.1 h.ready).1]at h1;cases h1
 ·rw[WI (h.un _ hon)]at h1;cases h1
theorem rQ(hT:∀listed fr fr' s,K1 fr fr'->T listed fr s->T listed fr' s){i:Nat}{oi:fw}{B:List Nat}(hi:l[i]? = some oi):∀(m:Nat) (R:List Nat) (listed:Array Bool) (fr:Fr) (s:St),
  vL l gs e i oi B R listed->R.length=m+1->R.Nodup->H4 P l gs e i fr s (iA P l gs e T m (R.erase i) (listed.setIfInBounds i true))->iA P l gs e T (m+1) R listed fr s:=by
 intro m
 induction m with
 |zero=>
  intro R listed fr s hF hlen _ h
  refine⟨fun e=>?_,fun j hj=>?_⟩
  ·have:=hF.ready;rw[e]at this;cases this
  ·by_cases hji:j=i
   ·subst hji;exact⟨hF.mem,h⟩
   ·obtain⟨hun,oj,hoj,_⟩:=mem_ready.1 hj;have hR:=(hF.free j oj (by simpa using hoj) hji (hF.blocked hj) hun).2.1;exfalso;obtain⟨x,rfl⟩:=List.length_eq_one_iff.1 hlen;have e1:=hF.mem;simp at e1 hR;exact hji (hR.trans e1.symm)
 |succ m ih=>
  intro R listed fr s hF hlen hnd h
  refine⟨fun e=>?_,fun j hj=>?_⟩
  ·have:=hF.ready;rw[e]at this;cases this
  ·by_cases hji:j=i
   ·subst hji;exact⟨hF.mem,h⟩
   ·obtain⟨hun,oj,hoj,_⟩:=mem_ready.1 hj;have hoj':l[j]? = some oj:=by simpa using hoj
    have hjB:=hF.blocked hj;obtain⟨hie,hjR,b1,b2,hne⟩:=hF.free j oj hoj' hji hjB hun;refine⟨hjR,?_⟩;have h1:H4 P l gs e i fr s fun f1 s1=>H4 P l gs e j f1 s1 (iA P l gs e T m ((R.erase i).erase j) ((listed.setIfInBounds i true).setIfInBounds j true)) :=
     M9 h fun f1 s1 h'=>(h'.2 j (ready_mono hj hji)).2
    have h2:=rP hi hoj' hie b1 b2 hne h1 fun f1 f2 s1 h12 h'=>aP hT _ _ _ _ _ _ h12 h';refine M9 h2 fun f1 s1 h'=>?_;have hlt:j<listed.size:=by
     rcases cd j listed.size with h'|h'
     ·exact h'
     ·simp[cg h']at hun
    refine ih (R.erase j) (listed.setIfInBounds j true) f1 s1 ⟨ready_mono hF.ready (Ne.symm hji),(dh (Ne.symm hji)).2 hF.mem,hF.wait,fun b hb=>?_,fun k ok hk hki hkB hku=>?_⟩ ?_ (hnd.erase j) ?_
    ·rw[getD_set_ne true (fun e=>hjB (by rw[e];exact hb))];exact hF.un b hb
    ·have hkj:k≠j:=by intro e;subst e;simp[hlt]at hku
     rw[getD_set_ne true (Ne.symm hkj)]at hku;obtain⟨q0,q1,q2⟩:=hF.free k ok hk hki hkB hku;exact⟨q0,(dh hkj).2 q1,q2⟩
    ·rw[dq hjR,hlen];rfl
    ·rw[List.erase_comm,Array.setIfInBounds_comm _ _ hji];exact h'
def OR(P:fx)(l:List fw)(gs:List (Option (Tmp×Bool)))(e:Nat):List Nat->Fr->St->(Fr->St->Prop)->Prop
 |[],fr,s,K=>K fr s
 |i::r,fr,s,K=>H4 P l gs e i fr s fun fr s=>OR P l gs e r fr s K
theorem aQ:∀(R:List Nat) (fr:Fr) (s:St) (k k':Fr->St->Prop),(∀f1 s1,k f1 s1->k' f1 s1)->OR P l gs e R fr s k->OR P l gs e R fr s k'
 |[],_,_,_,_,hk,h=>hk _ _ h
 |_::r,_,_,k,k',hk,h=>M9 h fun _ _ h'=>aQ r _ _ k k' hk h'
def PhY(l:List fw)(gs:List (Option (Tmp×Bool)))(e:Nat):List Nat->Array Bool->Prop
 |[],_=>True
 |i::r,listed=>(∃oi B,l[i]? = some oi/\vL l gs e i oi B (i::r) listed)/\PhY l gs e r (listed.setIfInBounds i true)
theorem SR(hT:∀listed fr fr' s,K1 fr fr'->T listed fr s->T listed fr' s):∀(R:List Nat) (listed:Array Bool) (fr:Fr) (s:St),R.Nodup->PhY l gs e R listed ->
  OR P l gs e R fr s (T (R.foldl (fun L i=>L.setIfInBounds i true) listed))->iA P l gs e T R.length R listed fr s
 |[],_,_,_,_,_,h=>h
 |i::r,listed,fr,s,hnd,hp,h=>by obtain⟨⟨oi,B,hi,hF⟩,hp⟩:=hp;refine rQ hT hi r.length (i::r) listed fr s hF rfl hnd ?_;rw[List.erase_cons_head];exact M9 h fun f1 s1 h'=>SR hT r _ _ _ (dl.1 hnd).2 hp h'
theorem rR{o:fw}{f:FuncId}{args:List V}{k:Fr->St->Prop}(hc:I4 true o fr=some (f,args))(h:E7 P f args s fun r s'=>k (putD fr o.dst true r) s'):EI P true o fr s k:=by
 unfold I4 at hc;unfold EI;split at hc
 ·rename_i f' args' argTypes' ho;simp only[ho];split at hc
  ·rename_i fid first cap vs e1 e2;cases hc;simp only[e1,e2];exact .inl ⟨rfl,h⟩
  ·cases hc
 ·cases hc
theorem aR{K:Exit->Fr->St->Prop}(hN:LW N l=true)(hg:JP l gs l=true){t:Nat}(hT:∀listed fr s G a w,T listed fr s->JE n N G0 G fr s a w->wpAnyIn (wf ρ) 0 P .any l.toArray (K4 n N G0 K) t listed a w) :
  ∀(m:Nat) (R:List Nat) (listed:Array Bool) (G:Gh) (fr:Fr) (s:St) (a:Act) (w:fg),JE n N G0 G fr s a w->iA P l gs e T m R listed fr s->wpAnyIn (wf ρ) 0 P .any l.toArray (K4 n N G0 K) (m+t) listed a w
 |0,_,listed,G,fr,s,a,w,hR,h=>by rw[db];exact hT _ _ _ _ _ _ h hR
 |m+1,R,listed,G,fr,s,a,w,hR,h=>by
  rw[Nat.add_right_comm];refine⟨fun h0=>absurd h0 h.1,fun j hj=>?_⟩;have h':=(h.2 j hj).2;unfold H4 at h';split at h'
  ·rename_i o ho;have main:PY fr (bM gs j)=some true->R6 P true o fr s (iA P l gs e T m (R.erase j) (listed.setIfInBounds j true))->wpOpIn (wf ρ) 0 P l.toArray (K4 n N G0 K) j (wpAnyIn (wf ρ) 0 P .any l.toArray (K4 n N G0 K) (m+t) (listed.setIfInBounds j true)) a w:=fun hgd hst=>
    HK hR hN hg ho hgd hst fun G' a' w' fr' s' hR' hk=>aR hN hg hT m _ _ G' fr' s' a' w' hR' hk
   split at h'
   ·obtain⟨f,args,h1,h2,h3⟩:=h';exact main h1 (.inl (rR h2 h3))
   ·obtain⟨v,h1,h2,h3⟩:=h';exact main h1 (.inl (DQ (Ω:=HI.nothing P) (.inl ⟨v,h2 s,h3⟩)))
  ·cases h'
def vM(l:List fw)(i j:Nat):Bool:=cq (Nat.land (dsM l i) (Nat.lor (lkM l j) (dsM l j))) 0&&cq (Nat.land (dsM l j) (lkM l i)) 0
theorem rS{i j:Nat}{oi oj:fw}(hi:l[i]? = some oi)(hj:l[j]? = some oj)(h:vM l i j=true) :
  (∀d,oi.dst=some d->d∉oj.looksAt l.toArray)/\(∀d,oi.dst=some d->oj.dst≠some d)/\(∀d,oj.dst=some d->d∉oi.looksAt l.toArray):=by
 unfold vM dsM lkM at h
 simp only[hi,hj,bj]at h
 obtain⟨h1,h2⟩:=h
 refine⟨fun d hd hm=>?_,fun d hd he=>?_,fun d hd hm=>?_⟩
 ·rw[hd]at h1;refine FY h1 (j:=d) (by rw[CP];simp) ?_;rw[testBit_or,DO.2 hm];rfl
 ·rw[hd,he]at h1;refine FY h1 (j:=d) (by rw[CP];simp) ?_;rw[testBit_or,CP];simp
 ·rw[hd]at h2;exact FY h2 (j:=d) (by rw[CP];simp) (DO.2 hm)
def AI4(l:List fw)(tl:List Nat)(e:Nat):List Nat->Nat->Bool
 |[],_=>true
 |i::r,done=>HJ (KV i (afL l 0) 0) fun B=>
  cj i l.length&&!(UB done i)&&OC l i done&&cq (Nat.land B done) 0&&tl.all (UB B)&&r.all (fun j=>UB B j||(!(cq i e)&&vM l i j))&&HJ (Nat.lor done (Nat.shiftLeft 1 i)) (AI4 l tl e r)
theorem eK{tl:List Nat}(hg:JP l gs l=true):∀{R:List Nat} {done:Nat} {listed:Array Bool},KL l (R++tl) done listed->AI4 l tl e R done=true->PhY l gs e R listed
 |[],_,_,_,_=>trivial
 |i::r,done,listed,hL,h=>by
  unfold AI4 at h;rw[E8,E8]at h;simp only[bj,Bool.not_eq_true',bx,Bool.or_eq_true]at h;obtain⟨⟨⟨⟨⟨⟨h1,h2⟩,h3⟩,h4⟩,h5⟩,h6⟩,h7⟩:=h;have hi:i<l.length:=by simpa [fk]using h1
  have hw:=MX (l:=l) (i:=i) (js:=afL l 0) (B:=0) (fun p hp=>by
   obtain⟨k,o,e1,e2,e3⟩:=gE (j:=p.1) (m:=p.2) hp;exact⟨o,by rw[e1,db]; exact e2,e3⟩) (fun b hb=>by simp at hb)
  generalize KV i (afL l 0) 0=B at *;have hb:∀b,b∈(dt l.length).filter (fun b=>B.testBit b)↔B.testBit b=true:=fun b=>by rw[List.mem_filter,List.mem_range];refine⟨fun h=>h.2,fun h=>⟨?_,h⟩⟩;obtain⟨o,ho,_⟩:=hw b h;exact(bw.1 ho).1
  refine⟨⟨l[i],(dt l.length).filter (fun b=>B.testBit b),bm hi,⟨hL.ready hi h2 h3,by simp,fun b hbm=>?_,fun b hbm=>?_,fun j oj hj hji hjB hun=>?_⟩⟩,eK hg (hL.next hi) h7⟩
  ·obtain⟨o,ho,x,he,hbi,hon⟩:=hw b ((hb b).1 hbm);exact⟨o,ho,x,he,hbi,hon.imp id fun h=>(hb _).2 h⟩
  ·have hbt:=(hb b).1 hbm;refine hL.un.2 ⟨?_,?_⟩
   ·obtain⟨o,ho,_⟩:=hw b hbt;exact(bw.1 ho).1
   ·cases hd:done.testBit b with
    |false=>rfl
    |true=>exact(FY h4 hbt hd).elim
  ·obtain⟨hlt,hdn⟩:=hL.un.1 hun;have hnb:B.testBit j=false:=by
    cases hd:B.testBit j with
    |false=>rfl
    |true=>exact absurd ((hb j).2 hd) hjB
   rcases dm.1 (hL.cov j hlt hdn)with hm|hm
   ·rcases List.mem_cons.1 hm with rfl|hr
    ·exact absurd rfl hji
    ·have hp:i≠e/\vM l i j=true:=by
      rcases h6 j hr with h6|h6
      ·rw[SI,hnb]at h6;cases h6
      ·refine⟨fun he=>?_,h6.2⟩;have:=h6.1;rw[he,cm]at this;cases this
     obtain⟨a1,a2,a3⟩:=rS (bm hi) hj hp.2;exact⟨hp.1,hm,SG (_x:=l[i]) a1 (MV hg hj),SG (_x:=oj) a3 (MV hg (bm hi)),a2⟩
   ·have:=h5 j hm;rw[SI,hnb]at this;cases this
abbrev cK:=List (List Nat×Nat)
def OS(S:cK):List Nat:=S.flatMap fun p=>p.1
def vN(l:List fw):cK->Nat->Bool
 |[],_=>true
 |(R,e)::S,done=>R.all (cj · l.length)&&ZT R&&AI4 l (OS S) e R done&&HJ (AC7 done R) (vN l S)
def iB(N:Nat)(gs:List (Option (Tmp×Bool)))(S:cK)(l:List fw):Bool :=
 LW N l&&JP l gs l&&vN l S 0&&cq (OS S).length l.length&&cq (NH (OS S)) (2 ^ l.length-1)
def iC(P:fx)(l:List fw)(gs:List (Option (Tmp×Bool))):cK->Fr->St->(Fr->St->Prop)->Prop
 |[],fr,s,K=>K fr s
 |(R,e)::S,fr,s,K=>OR P l gs e R fr s fun fr s=>iC P l gs S fr s K
theorem JE.sameF(h:JE n N G0 G fr s a w)(hs:K1 fr fr'):JE n N G0 G fr' s a w:=h.same ⟨hs,fun _ _=>rfl,rfl⟩
theorem SU{K:Exit->Fr->St->Prop}(hN:LW N l=true)(hg:JP l gs l=true):∀(S:cK) (done:Nat) (listed:Array Bool),KL l (OS S) done listed->vN l S done=true ->
  ∀(G:Gh) (fr:Fr) (s:St) (a:Act) (w:fg),JE n N G0 G fr s a w->iC P l gs S fr s (K .normal)->wpAnyIn (wf ρ) 0 P .any l.toArray (K4 n N G0 K) (OS S).length listed a w
 |[],done,listed,hL,_,G,fr,s,a,w,hR,h=>by refine⟨cz.2 fun j hj=>?_,G,fr,s,hR,h⟩;obtain⟨h1,o,ho,_⟩:=mem_ready.1 hj;obtain⟨hlt,hdn⟩:=hL.un.1 h1;exact absurd (hL.cov j hlt hdn) (by simp[OS])
 |(R,e)::S,done,listed,hL,hM,G,fr,s,a,w,hR,h=>by
  unfold vN at hM;rw[E8]at hM;simp only[bj]at hM;obtain⟨⟨⟨h1,h2⟩,h3⟩,h4⟩:=hM;have hfl:OS ((R,e)::S)=R++OS S:=by simp[OS]
  rw[hfl]at hL;have hL1:=hL.fold (fun i hi=>by simpa [fk]using bx.1 h1 i hi);have hP:=eK hg hL h3;let T:Array Bool->Fr->St->Prop:=fun listed fr s=>∀G a w,JE n N G0 G fr s a w->wpAnyIn (wf ρ) 0 P .any l.toArray (K4 n N G0 K) (OS S).length listed a w;have hw':OR P l gs e R fr s (T (R.foldl (fun L i=>L.setIfInBounds i true) listed)) :=
   aQ R fr s _ _ (fun f1 s1 h' G a w hR=>SU hN hg S _ _ hL1 h4 G f1 s1 a w hR h') h
  have hA:=SR (T:=T) (fun listed f1 f2 s hs hT G a w hR=>hT G a w (hR.sameF fun k=>(hs k).symm)) R _ fr s (OD h2) hP hw';have hB:=aR (ρ:=ρ) (K:=K) hN hg (T:=T) (t:=(OS S).length) (fun listed f1 s1 G a w hT hR=>hT G a w hR) R.length R _ G fr s a _ hR hA;rw[hfl];simpa using hB
theorem rT{id:Nat}{K:Exit->Fr->St->Prop}(hm:P.follows .mixedOrders=true)(gs:List (Option (Tmp×Bool)))(S:cK)(hB:iB N gs S l=true)
  (h:iC P l gs S fr s (K .normal)):BE P n N ρ (.region id l.toArray true) K fr s:=by
 simp only[iB,bj]at hB
 obtain⟨⟨⟨⟨h1,h2⟩,h4⟩,h5⟩,h6⟩:=hB
 intro G0 G a w hR
 refine wpIn_region_any hm ?_
 have hR':JE n N G0 G fr s a { w with drawn:=w.drawn+1 }:=⟨hR.le,hR.inv.drawn _,hR.fr,hR.size,hR.lvl,hR.marks⟩
 have:=SU (ρ:=ρ) (K:=K) h1 h2 S 0 _ (KL.start (l:=l) h6) h4 G fr s a _ hR' h
 rw[bq h5]at this
 simpa using this
def vO(l:List fw):List Nat->List Nat->cK
 |[],left=>[(left,l.length)]
 |e::es,left=>(left.filter (fun i=>!(cq i e)&&!(es.any (cq i))&&!((e::es).any fun x=>UB (KV x (afL l 0) 0) i))++[e],e)::vO l es (left.filter fun i=>!(cq i e)&&(es.any (cq i)||(e::es).any fun x=>UB (KV x (afL l 0) 0) i))
def AEE(l:List fw):cK:=vO l ((dt l.length).filter fun i=>match l[i]? with
 |some o=>kC o
 | none=>false) (dt l.length)
def cY1(E:XE)(d:Option Tmp)(st:XS):Option V->Option (List V)->Option XS
 |some (.fn f first cap),some vs=>match E.cf f ((first++vs++cap).map weakV) st with
  |some (r,st')=>some ⟨st'.c,putD st'.fr d true r,st'.s⟩
  |none=>none
 |_,_=>none
def AQ8(E:XE)(o:fw)(st:XS):Option XS:=match o.op with
 |.call c=>match c.callee with
  |.value f=>cY1 E o.dst st (CH st.fr f) (FJ (CH st.fr) c.args.toList)
  |_=>none
 |_=>none
def AM2(st:XS):Option XS->Option XS
 |some st1=>some ⟨st.c,st1.fr,st.s⟩
 |none=>none
def AQ9(P:fx)(o:fw)(st:XS):Option XS:=AM2 st (xVal P o ⟨st.c,st.fr,⟨[],[]⟩⟩)
def opY(P:fx)(E:XE)(l:List fw)(b:Bool)(o:fw)(st:XS):Option XS:=match gdX st.fr (K6 l o)with
 |some true=>Bool.rec (AQ9 P o st) (AQ8 E o st) b
 |_=>none
def phY(P:fx)(E:XE)(l:List fw)(e:Nat):List Nat->XS->Option XS
 |[],st=>some st
 |i::r,st=>match l[i]? with
  |some o=>match opY P E l (cq i e) o st with
   |some st'=>phY P E l e r st'
   |none=>none
  |none=>none
def AI5(P:fx)(E:XE)(l:List fw):cK->XS->Option XS
 |[],st=>some st
 |p::S,st=>match phY P E l p.2 p.1 st with
  |some st1=>AI5 P E l S st1
  |none=>none
def vP(P:fx)(E:XE)(N:Nat)(l:List fw)(st:XS):Option XS:=Bool.rec none (AI5 P E l (AEE l) st) (iB N (l.map (K6 l)) (AEE l) l)
theorem zJ(n l k:Nat):(⟨cn n [],[]⟩:St).get l k=none:=by
 unfold St.get;split
 ·rfl
 ·split
  ·rename_i L hL;simp only[List.getElem?_replicate]at hL;split at hL
   ·cases hL;rfl
   ·cases hL
  ·rfl
theorem ARA{E:XE}(hEE:KC P E){b:Bool}{o:fw}{st st':XS}(h:Bd st)(hx:opY P E l b o st=some st'):KM st st'/\(∀σ δ,PY (st.fr.ren σ δ) (K6 l o)=some true) /\
  (b=true->∀(σ:Nat->Nat) (pre:List AA) (K:Fr->St->Prop),(∀σ',AR st.c σ σ'->K (st'.fr.ren σ' pre.length) (st'.s.emb σ' pre))->∃f args,I4 true o (st.fr.ren σ pre.length)=some (f,args)/\E7 P f args (st.s.emb σ pre) fun r s'=>K (putD (st.fr.ren σ pre.length) o.dst true r) s') /\
  (b=false->∀(σ:Nat->Nat) (pre:List AA) (K:Fr->St->Prop),(∀σ',AR st.c σ σ'->K (st'.fr.ren σ' pre.length) (st'.s.emb σ' pre))->∃v,(∀s,FL P true o (st.fr.ren σ pre.length) s=some v)/\K (putD (st.fr.ren σ pre.length) o.dst true v) (st.s.emb σ pre)):=by
 unfold opY at hx
 split at hx
 ·rename_i hg;rw[rA]at hg;have hgd:∀σ δ,PY (st.fr.ren σ δ) (K6 l o)=some true:=fun σ δ=>M5 hg;cases b with
  |true=>
   have hx:AQ8 E o st=some st':=hx
   unfold AQ8 at hx
   split at hx
   ·rename_i c ho;split at hx
    ·rename_i f hc;unfold cY1 at hx;split at hx
     ·rename_i fid first cap vs hf hvs;split at hx
      ·rename_i r G6 hcall;cases hx;have hbf:=ADI (h.rd hf);obtain⟨hE,hbr,hfr,hA⟩:=hEE.cf _ _ _ _ _ hcall h (fun v hv=>by
        obtain⟨u,hu,rfl⟩:=ck.1 hv;refine gN ?_;rcases dm.1 hu with hu|hu
        ·rcases dm.1 hu with hu|hu
         ·exact hbf.1 u hu
         ·exact WK h hvs u hu
        ·exact hbf.2 u hu)
       refine⟨⟨hE.c,hE.bd.putF hbr,hE.n⟩,hgd,fun _ σ pre K hk=>?_,fun h=>(by cases h)⟩;refine⟨fid,(((first++vs++cap).map weakV).map (V.ren σ pre.length)),?_,?_⟩
       ·rw[D3]at hf;rw[K0,FH]at hvs;unfold I4;obtain⟨cal,args,Ts⟩:=c;have hc:cal=.value f:=hc;subst hc;have hvs':args.toList.mapM (DW true (st.fr.ren σ pre.length))=some (vs.map (V.ren σ pre.length)):=by rw[JQ];exact I5 hvs
        simp only[ho,DF,hf,hvs',dz,OH];rw[HR];simp only[List.map_append]
       ·refine hA σ pre _ fun σ' ha=>?_;have:=hk σ' ha;rw[FM,hfr,<-h.f σ σ' pre.length ha]at this;exact this
      ·cases hx
     ·cases hx
    ·cases hx
   ·cases hx
  |false=>
   have hx:AQ9 P o st=some st':=hx
   unfold AQ9 AM2 at hx
   split at hx
   ·rename_i st1 h1;cases hx;unfold xVal at h1;split at h1
    ·rename_i v hv;cases h1;have hv:=PG hv;have hb0:Bd (⟨st.c,st.fr,⟨[],[]⟩⟩:XS):=⟨h.f,fun σ σ' pre _=>rfl,fun l k γ fr ps asg body N ls hg=>by simp[St.get]at hg⟩;have hbv:TF st.c v:=hb0.val hv;refine⟨⟨bf _,h.putF hbv,rfl⟩,hgd,fun h=>(by cases h),fun _ σ pre K hk=>⟨v.ren σ pre.length,fun s=>?_,?_⟩⟩
     ·have q:=I6 (σ:=σ) (pre:=cn pre.length []) hv;simp only[dx]at q;refine lS (fun l k x hx=>?_) q;have e0:(⟨[],[]⟩:St).emb σ (cn pre.length [])=⟨cn pre.length [],[]⟩:=by simp[St.emb,AA.ren]
      rw[e0,zJ]at hx;cases hx
     ·have:=hk σ (AR.refl _ _);rw[FM]at this;exact this
    ·cases h1
   ·cases hx
 ·cases hx
theorem AEF{E:XE}(hEE:KC P E):∀{R:List Nat} {st st':XS},Bd st->phY P E l e R st=some st'->KM st st' /\
  ∀(σ:Nat->Nat) (pre:List AA) (K:Fr->St->Prop),(∀σ',AR st.c σ σ'->K (st'.fr.ren σ' pre.length) (st'.s.emb σ' pre))->OR P l (l.map (K6 l)) e R (st.fr.ren σ pre.length) (st.s.emb σ pre) K
 |[],st,st',h,hx=>by cases hx;exact⟨⟨bf _,h,rfl⟩,fun σ pre K hk=>hk σ (AR.refl _ _)⟩
 |i::r,st,st',h,hx=>by
  simp only[phY]at hx;split at hx
  ·rename_i o ho;split at hx
   ·rename_i st1 h1;obtain⟨hE,hg,h2,h3⟩:=ARA hEE h h1;obtain⟨hE',hs'⟩:=AEF hEE hE.bd hx;refine⟨⟨dk hE.c hE'.c,hE'.bd,hE'.n.trans hE.n⟩,fun σ pre K hk=>?_⟩;have hk1:∀σ',AR st.c σ σ'->OR P l (l.map (K6 l)) e r (st1.fr.ren σ' pre.length) (st1.s.emb σ' pre) K:=fun σ' ha=>hs' σ' pre K fun σ'' ha'=>hk σ'' (ha.trans ha' hE.c);simp only[OR,H4,ho,WL ho];by_cases hie:i=e
    ·rw[if_pos hie];obtain⟨f,args,q1,q2⟩:=h2 (by rw[hie];exact cm e) σ pre (fun fr s=>OR P l (l.map (K6 l)) e r fr s K) hk1;exact⟨f,args,hg _ _,q1,q2⟩
    ·rw[if_neg hie];obtain⟨v,q1,q2⟩:=h3 (by
      cases hb:cq i e with
      |false=>rfl
      | true=>exact absurd (bq hb) hie) σ pre (fun fr s=>OR P l (l.map (K6 l)) e r fr s K) hk1
     exact⟨v,hg _ _,q1,q2⟩
   ·cases hx
  ·cases hx
theorem vQ{E:XE}(hEE:KC P E):∀{S:cK} {st st':XS},Bd st->AI5 P E l S st=some st'->KM st st' /\
  ∀(σ:Nat->Nat) (pre:List AA) (K:Fr->St->Prop),(∀σ',AR st.c σ σ'->K (st'.fr.ren σ' pre.length) (st'.s.emb σ' pre))->iC P l (l.map (K6 l)) S (st.fr.ren σ pre.length) (st.s.emb σ pre) K
 |[],st,st',h,hx=>by cases hx;exact⟨⟨bf _,h,rfl⟩,fun σ pre K hk=>hk σ (AR.refl _ _)⟩
 |p::S,st,st',h,hx=>by
  simp only[AI5]at hx;split at hx
  ·rename_i st1 h1;obtain⟨hE,hs⟩:=AEF hEE h h1;obtain⟨hE',hs'⟩:=vQ hEE hE.bd hx;refine⟨⟨dk hE.c hE'.c,hE'.bd,hE'.n.trans hE.n⟩,fun σ pre K hk=>?_⟩;exact hs σ pre _ fun σ' ha=>hs' σ' pre K fun σ'' ha'=>hk σ'' (ha.trans ha' hE.c)
  ·cases hx
theorem AEG(hP:EG P){E:XE}(hEE:KC P E){id:Nat}{st st':XS}(hx:vP P E N l st=some st')(hbd:Bd st):KM st st' /\
  ∀(n:Nat) (ρ:Option Nat) (σ:Nat->Nat) (pre:List AA) (K:Exit->Fr->St->Prop),(∀σ',AR st.c σ σ'->K .normal (st'.fr.ren σ' pre.length) (st'.s.emb σ' pre))->BE P n N ρ (.region id l.toArray true) K (st.fr.ren σ pre.length) (st.s.emb σ pre):=by
 unfold vP at hx
 obtain⟨hok,hx⟩:=EK hx
 obtain⟨hE,hs⟩:=vQ hEE hbd hx
 exact⟨hE,fun n ρ σ pre K hk=>rT hP.mixed (l.map (K6 l)) (AEE l) hok (hs σ pre _ hk)⟩
end Go.Pg
namespace Go.Pg
variable {P:fx}{n N:Nat}{ρ:Option Nat}{G0 G:Gh}{fr fr':Fr}{s s':St}{a:Act}{w:fg}
def ldC(o:fw):Option (fc×Tmp×Tmp):=match o.op with
 |.load T (.tmp a)=>match o.dst with
  |some d=>some (T,a,d)
  |none=>none
 |_=>none
def IE(l:List fw):List (fc×Tmp×Tmp):=l.filterMap ldC
def ARB(P:fx)(T:fc):Bool:=match P.underlying T with
 |some (.struct _)=>true
 |some (.array _ _)=>true
 |_=>cq (P.cellsOf T) 1
def A2E(all:List fw)(o:fw)(T:fc)(a d:Tmp):Bool:=o.after.toList.any fun e=>Region.binds .any e&&match all[e.on]? with
 |some p=>match ldC p with
  |some k=>cq k.1 T&&cq k.2.1 a&&cq k.2.2 d
  |none=>false
 |none=>false
def AEH(P:fx)(all:List fw)(ks:List (fc×Tmp×Tmp))(j:Nat)(o:fw):Bool :=
 (K6 all o).isNone&&(o.after.toList.all fun e=>!(Region.binds .any e)||cj e.on j)&&match o.op with
 |.load _ (.tmp a)=>o.dst.isSome&&ks.all (fun k=>!(cq k.2.2 a))
 |.store T (.tmp a) (.tmp d)=>o.dst.isNone&&ks.all (fun k=>!(cq k.2.2 a))&&cj 0 (P.cellsOf T)&&ARB P T&&A2E all o T a d
 |_=>false
def rU(P:fx)(all:List fw)(ks:List (fc×Tmp×Tmp)):List fw->Nat->Bool
 |[],_=>true
 |o::r,j=>AEH P all ks j o&&rU P all ks r (j+1)
def AI7(l:List fw):Nat:=(l.filter kW).length
def V9(P:fx)(l:List fw):Bool:=cj 2 (AI7 l)&&rU P l (IE l) l 0
theorem WM{all:List fw}{ks:List (fc×Tmp×Tmp)}:∀{l:List fw} {j:Nat},rU P all ks l j=true->∀{i:Nat} {o:fw},l[i]? = some o->AEH P all ks (j+i) o=true
 |[],_,_,i,o,h=>by simp at h
 |p::r,j,hB,i,o,h=>by
  simp only[rU,bj]at hB;cases i with
  |zero=>simp at h;subst h;exact hB.1
  |succ i=>
   have:=WM hB.2 (i:=i) (o:=o) (by simpa using h)
   rwa [show j+1+i=j+(i+1) by omega]at this
theorem OT{o:fw}{k:fc×Tmp×Tmp}(h:ldC o=some k):o.op=.load k.1 (.tmp k.2.1)/\o.dst=some k.2.2:=by
 unfold ldC at h;split at h
 ·rename_i T a ho;split at h
  ·rename_i d hd;cases h;exact⟨ho,hd⟩
  ·cases h
 ·cases h
theorem nE{g:Bool}{t:Tmp}(h:fr'.get t=fr.get t):DW g fr' (.tmp t)=DW g fr (.tmp t):=by
 show(match fr'.get t with
  |some (c,v)=>if (!g||c)=true then some v else none
  | none=>none)=_
 rw[h];rfl
def A2F (T : fc) (x : Operand) : fw := { dst := none, op := .load T x, type := 0, pos := "", after := #[], guard := none }
def rV:Option V->Bool
 |some (.ptr ..)=>true
 |_=>false
def ARC(P:fx)(k:fc×Tmp×Tmp):Option XS->Option XS
 | some st=>Bool.rec none (match NJ P st.fr st.s k.1 (.tmp k.2.1)with
  |some v=>some ⟨st.c,putD st.fr (some k.2.2) true v,st.s⟩
  | none=>none) (rV (CH st.fr (.tmp k.2.1)))
 |none=>none
def Q0(P:fx):List (fc×Tmp×Tmp)->Option XS->Option XS
 |[],o=>o
 |k::r,o=>Q0 P r (ARC P k o)
theorem eL:∀(ks:List (fc×Tmp×Tmp)),Q0 P ks none=none
 |[]=>rfl
 |_::r=>eL r
def ARD(P:fx)(fr frF:Fr)(s:St)(k:fc×Tmp×Tmp):Prop :=
 ∃v l q γ off,frF.get k.2.2=some (true,v)/\DW true fr (.tmp k.2.1)=some (.ptr l q γ off)/\(A7 s (.ptr l q γ off)).bind (BN P k.1)=some v
theorem eM:∀(ks:List (fc×Tmp×Tmp)) {st st':XS},(∀k∈ks,∀k'∈ks,k.2.2≠k'.2.1)->(ks.map (·.2.2)).Nodup->Bd st->Q0 P ks (some st)=some st' ->
  Bd st'/\st'.c=st.c/\st'.s=st.s/\(∀t,(∀k∈ks,k.2.2≠t)->st'.fr.get t=st.fr.get t)/\∀k∈ks,ARD P st.fr st'.fr st.s k
 |[],st,st',_,_,hb,h=>by cases h;exact⟨hb,rfl,rfl,fun _ _=>rfl,fun k hk=>by cases hk⟩
 |k::r,st,st',h1,h2,hb,h=>by
  simp only[Q0]at h;cases hs:ARC P k (some st)with
  |none=>rw[hs,eL]at h;cases h
  |some st1=>
   rw[hs]at h
   unfold ARC at hs
   simp only at hs
   cases hp:rV (CH st.fr (.tmp k.2.1))with
   |false=>rw[hp]at hs;cases hs
   |true=>
   rw[hp]at hs
   simp only at hs
   split at hs
   ·rename_i v hv;have hl:FL P true (A2F k.1 (.tmp k.2.1)) st.fr st.s=some v:=by
     unfold NJ at hv;rw[D3]at hv;show((DW true st.fr (.tmp k.2.1)).bind fun v=>(A7 st.s v).bind fun cs=>BN P k.1 cs)=some v;revert hv;cases DW true st.fr (.tmp k.2.1)with
     |none=>intro hv;cases hv
     |some p=>
      simp only[fq]
      cases A7 st.s p with
      |none=>intro hv;cases hv
      |some cs=>exact fun hv=>hv
    have hbv:=hb.val hl;cases hs;have hb1:Bd ({ st with fr:=putD st.fr (some k.2.2) true v }:XS):=hb.putF hbv;simp only[bg,dl]at h2;obtain⟨b1,b2,b3,b4,b5⟩:=eM r (fun x hx y hy=>h1 x (by simp[hx]) y (by simp[hy])) h2.2 hb1 h;refine⟨b1,b2,b3,fun t ht=>?_,fun x hx=>?_⟩
    ·rw[b4 t fun x hx=>ht x (by simp[hx])];show(putD st.fr (some k.2.2) true v).get t=_;rw[F9,if_neg (fun e=>ht k (by simp) (by simpa using e))]
    ·rcases List.mem_cons.1 hx with rfl|hx
     ·unfold rV at hp;rw[D3]at hp;split at hp
      ·rename_i l q γ off hr;refine⟨v,l,q,γ,off,?_,hr,?_⟩
       ·rw[b4 x.2.2 fun y hy e=>h2.1 (ck.2 ⟨y,hy,e⟩)];show(putD st.fr (some x.2.2) true v).get x.2.2=_;rw[F9,if_pos rfl]
       ·have hl:((DW true st.fr (.tmp x.2.1)).bind fun v=>(A7 st.s v).bind fun cs=>BN P x.1 cs)=some v:=hl;rw[hr]at hl;exact hl
      ·cases hp
     ·obtain⟨v',l,q,γ,off,c1,c2,c3⟩:=b5 x hx;refine⟨v',l,q,γ,off,c1,?_,c3⟩;have:DW true (putD st.fr (some k.2.2) true v) (.tmp x.2.1)=DW true st.fr (.tmp x.2.1):=nE (by
       rw[F9,if_neg (fun e=>h1 k (by simp) x (by simp[hx]) (by simpa using e))])
      rw[<-this];exact c2
   ·cases hs
theorem nF{T:fc}{cs:List V}{v:V}(h:BN P T cs=some v)(h1:ARB P T=true)(hc:∀x∈cs,x.isCell=true):A9 v=true/\A8 v=cs.take (P.cellsOf T)/\P.cellsOf T<=cs.length:=by
 have one:P.cellsOf T=1->cs[0]? = some v->A9 v=true/\A8 v=cs.take (P.cellsOf T)/\P.cellsOf T<=cs.length:=fun e h=>by
  cases cs with
  |nil=>cases h
  |cons c cs=>
   simp only[List.getElem?_cons_zero,dp.injEq]at h
   subst h
   have hi:=hc c (by simp)
   rw[e]
   refine⟨?_,?_,by simp⟩
   ·cases c<;>first|rfl|cases hi
   ·cases c<;>first|rfl|cases hi
 unfold BN at h;unfold ARB at h1;split at h
 ·split at h
  ·rename_i hle;cases h;exact⟨rfl,rfl,hle⟩
  ·cases h
 ·split at h
  ·rename_i hle;cases h;exact⟨rfl,rfl,hle⟩
  ·cases h
 ·rename_i g1 g2 hu;split at h1
  ·rename_i fs e;rw[hu]at e;cases e;exact(g1 _ rfl).elim
  ·rename_i m x e;rw[hu]at e;cases e;exact(g2 _ _ rfl).elim
  ·exact one (bq h1) h
 ·cases h
theorem nG{α:Type}(cs:List α)(off m:Nat):A4 cs off ((cs.drop off).take m)=cs:=by
 unfold A4;rw[List.length_take,ct,List.append_assoc];have:(cs.drop off).take m++cs.drop (off+min m (cs.length-off))=cs.drop off:=by
  rw[<-List.drop_drop];have e:min m (cs.length-off)=min m (cs.drop off).length:=by rw[ct]
  rw[e];generalize cs.drop off=ds;by_cases h:m<=ds.length
  ·rw[Nat.min_eq_left h,dc]
  ·rw[Nat.min_eq_right (by omega),List.drop_length,cx (by omega),List.append_nil]
 rw[this,dc]
structure A2G(l:List fw)(fr frF:Fr)(s:St)(listed:Array Bool)(fr':Fr)(s':St):Prop where
 o:∀t,(∀k∈IE l,k.2.2≠t)->fr'.get t=fr.get t
 d:∀j o k,l[j]? = some o->ldC o=some k->listed.getD j true=true->fr'.get k.2.2=frF.get k.2.2
 p:∀i k,s'.get i k=s.get i k
 n:s'.up.length=s.up.length
theorem zK{listed:Array Bool}{i:Nat}:(listed.setIfInBounds i true).getD i true=true:=by
 rcases cd i listed.size with h|h
 ·simp[h]
 ·simp
theorem AI8{l:List fw}{K:Exit->Fr->St->Prop}(hN:LW N l=true)(hg:JP l (l.map (K6 l)) l=true)(hD:yJ l)(hC:rU P l (IE l) l 0=true){frF:Fr}
  (h1:∀t,(∀k∈IE l,k.2.2≠t)->frF.get t=fr.get t) (h2:∀k∈IE l,ARD P fr frF s k) (hK:K .normal frF s) :
  ∀(R:List Nat) (listed:Array Bool) (G:Gh) (fr':Fr) (s':St) (a:Act) (w:fg),R.Nodup->(∀j,j∈R↔j<l.length/\listed.getD j true=false)->A2G l fr frF s listed fr' s'->JE n N G0 G fr' s' a w ->
   wpAnyIn (wf ρ) 0 P .any l.toArray (K4 n N G0 K) R.length listed a w:=by
 have mem:∀{j:Nat} {o:fw} {k:fc×Tmp×Tmp},l[j]? = some o->ldC o=some k->k∈IE l:=fun hj hk=>cw.2 ⟨_,List.mem_of_getElem? hj,hk⟩
 intro R
 induction hm:R.length generalizing R with
 |zero=>
  intro listed G fr' s' a w hnd hR hI hrel
  have e:R=[]:=List.eq_nil_of_length_eq_zero hm
  subst e
  refine⟨?_,G,frF,s,hrel.same ⟨fun t=>?_,hI.p,hI.n⟩,hK⟩
  ·refine cz.2 fun j hj=>?_;obtain⟨q1,o,ho,_⟩:=mem_ready.1 hj;have:=(hR j).2 ⟨by
    have:=(bp.1 ho).1;simpa using this,q1⟩
   cases this
  ·by_cases ht:∀k∈IE l,k.2.2≠t
   ·rw[hI.o t ht,h1 t ht]
   ·have⟨k,hk,e⟩:∃k∈IE l,k.2.2=t:=Classical.byContradiction fun hn=>ht fun k hk e=>hn ⟨k,hk,e⟩;obtain⟨o,ho,hk⟩:=cw.1 hk;obtain⟨j,hj⟩:=dn ho;rw[<-e];refine hI.d j o k hj hk ?_;cases hl:listed.getD j true with
    |true=>rfl
    |false=>exact absurd ((hR j).2 ⟨(bw.1 hj).1,hl⟩) (by simp)
 |succ m ih=>
  intro listed G fr' s' a w hnd hR hI hrel
  refine⟨fun h0=>?_,fun i hi=>?_⟩
  ·exfalso;have hex:∃j,j∈R:=by
    cases R with
    |nil=>simp at hm
    |cons x R=>exact⟨x,by simp⟩
   obtain⟨j0,hj0⟩:=hex;have least:∀d j,j<=d->j∈R->∃j∈R,∀i,i<j->i∉R:=by
    intro d;induction d with
    |zero=>intro j hj hm;exact⟨j,hm,fun i hi=>by omega⟩
    |succ d ihd=>
     intro j hj hm
     by_cases hx:∃i,i<j/\i∈R
     ·obtain⟨i,hi,hi2⟩:=hx;exact ihd i (by omega) hi2
     ·exact⟨j,hm,fun i hi hi2=>hx ⟨i,hi,hi2⟩⟩
   obtain⟨j,hj,hmin⟩:=least j0 j0 (bf _) hj0;obtain⟨q1,q2⟩:=(hR j).1 hj;have ho:l[j]? = some l[j]:=bm q1;have hc:=WM hC ho;rw[db]at hc;simp only[AEH,bj,bx]at hc;have:j∈Region.ready .any l.toArray listed:=mem_ready.2 ⟨q2,l[j],by simp,fun e he hb=>by
    have hlt:=hc.1.2 e (by simpa using he);rw[hb]at hlt;have hlt:e.on<j:=by simpa [fk]using hlt
    have hni:=hmin e.on hlt;cases hd:listed.getD e.on false with
    |true=>rfl
    |false=>
     refine absurd ((hR e.on).2 ⟨by omega,?_⟩) hni
     rcases cd e.on listed.size with h'|h'
     ·simp[h']at hd|-;exact hd
     ·exfalso;rcases cd j listed.size with h''|h''
      ·omega
      ·simp[cg h'']at q2⟩
   rw[h0]at this;cases this
  ·obtain⟨q1,o,ho,hwait⟩:=mem_ready.1 hi;have ho:l[i]? = some o:=by simpa using ho
   have hil:i<l.length:=(bw.1 ho).1;have hiR:i∈R:=(hR i).2 ⟨hil,q1⟩;have hc:=WM hC ho;rw[db]at hc;simp only[AEH,bj,bx]at hc;obtain⟨⟨c1,_⟩,c3⟩:=hc;have hgn:bM (l.map (K6 l)) i=none:=by rw[WL ho];exact dw.1 c1
   have hgd:PY fr' (bM (l.map (K6 l)) i)=some true:=by rw[hgn];rfl
   have hlen:(R.erase i).length=m:=by rw[dq hiR,hm];rfl
   have hR':∀j,j∈R.erase i↔j<l.length/\(listed.setIfInBounds i true).getD j true=false:=fun j=>by
    rw[List.Nodup.mem_erase_iff hnd,hR];by_cases e:j=i
    ·subst e;rw[zK];simp
    ·rw[getD_set_ne true (Ne.symm e)];simp[e]
   have next:∀(fr2:Fr) (s2:St),A2G l fr frF s (listed.setIfInBounds i true) fr2 s2->∀G' a' w',JE n N G0 G' fr2 s2 a' w'->wpAnyIn (wf ρ) 0 P .any l.toArray (K4 n N G0 K) m (listed.setIfInBounds i true) a' w' :=
    fun fr2 s2 hI2 G' a' w' hr2=>ih (R.erase i) hlen (listed.setIfInBounds i true) G' fr2 s2 a' w' (hnd.erase i) hR' hI2 hr2
   have same:∀(t:Tmp),(∀k∈IE l,k.2.2≠t)->DW true fr' (.tmp t)=DW true fr (.tmp t):=fun t ht=>nE (hI.o t ht);have cel:∀v,A7 s' v=A7 s v:=fun v=>by unfold A7;cases v<;>first|rfl|simp only[hI.p]
   split at c3
   ·rename_i T t hop;simp only[bj]at c3;obtain⟨d,hd⟩:=Option.isSome_iff_exists.1 c3.1;have hk:ldC o=some (T,t,d):=by simp only[ldC,hop,hd]
    have hnt:∀k∈IE l,k.2.2≠t:=fun k hk e=>by have:=bx.1 c3.2 k hk;rw[e,cm]at this;cases this
    obtain⟨v,l1,q,γ,off,e1,e2,e3⟩:=h2 _ (mem ho hk);refine HK hrel hN hg ho hgd (k:=fun f2 s2=>f2=putD fr' o.dst true v/\s2=s') ?_ fun G' a' w' fr2 s2 hr2 hk2=>?_
    ·refine .inl (DQ (Ω:=HI.nothing P) (.inl ⟨v,?_,rfl,rfl⟩));have:FL P true o fr' s'=(DW true fr' (.tmp t)).bind fun v=>(A7 s' v).bind fun cs=>BN P T cs:=by unfold FL;rw[hop];show IA P o s' (DW true fr')=_;unfold IA;rw[hop]
     rw[this,same t hnt,e2,fq,cel];exact e3
    ·obtain⟨rfl,rfl⟩:=hk2;refine next _ _ ⟨fun x hx=>?_,fun j p k hj hpk hl=>?_,hI.p,hI.n⟩ G' a' w' hr2
     ·rw[F9,hd,if_neg (fun e=>hx _ (mem ho hk) (by simpa using e))];exact hI.o x hx
     ·by_cases e:j=i
      ·subst e;rw[ho]at hj;cases hj;rw[hk]at hpk;cases hpk;rw[F9,hd,if_pos rfl];exact e1.symm
      ·rw[getD_set_ne true (Ne.symm e)]at hl;have hne:=hD i j o p d ho hj (Ne.symm e) hd;rw[F9,hd,if_neg (fun e=>hne (by rw[(OT hpk).2];simpa using e.symm))];exact hI.d j p k hj hpk hl
   ·rename_i T t d hop;simp only[bj]at c3;obtain⟨⟨⟨⟨d1,d2⟩,d3⟩,d4⟩,d5⟩:=c3;have hdn:o.dst=none:=dw.1 d1;have hnt:∀k∈IE l,k.2.2≠t:=fun k hk e=>by have:=bx.1 d2 k hk;rw[e,cm]at this;cases this
    obtain⟨e,he,hb⟩:=List.any_eq_true.1 d5;simp only[bj]at hb;obtain⟨hb,hp⟩:=hb;split at hp
    ·rename_i p hpl;split at hp
     ·rename_i k hk;simp only[bj]at hp;have k1:k.1=T:=bq hp.1.1;have k2:k.2.1=t:=bq hp.1.2;have k3:k.2.2=d:=bq hp.2;have hdone:listed.getD e.on true=true:=by
       have:=hwait e (by simpa using he) hb;rcases cd e.on listed.size with h'|h'
       ·simp[h']at this|-;exact this
       ·simp[cg h']
      obtain⟨v,l1,q,γ,off,e1,e2,e3⟩:=h2 _ (mem hpl hk);have hfd:fr'.get d=some (true,v):=by rw[<-k3,hI.d e.on p k hpl hk hdone];exact e1
      rw[k2]at e2;rw[k1]at e3;cases hget:s.get l1 q with
      |none=>simp[A7,hget]at e3
      |some x=>
       obtain⟨γ',r⟩:=x
       cases r with
       |box cs=>
        by_cases hγ:γ'=γ
        ·subst hγ;have e3:BN P T (cs.drop off)=some v:=by simpa [A7,hget]using e3
         have hget':s'.get l1 q=some (γ',.box cs):=by rw[hI.p];exact hget
         have hcell:∀x∈cs.drop off,x.isCell=true:=fun x hx=>by obtain⟨b,arr,T',_,_,hr⟩:=hrel.inv.res _ _ _ _ hget';obtain⟨j,hj,rfl⟩:=List.getElem_of_mem (List.mem_of_mem_drop hx);exact(hr.2 j hj (by rw[<-hr.1];exact hj)).1
         have h0:0<P.cellsOf T:=by simpa [fk]using d3
         obtain⟨w1,w2,w3⟩:=nF e3 d4 hcell;have hst:DK P o fr' s'=some (l1,q,γ',.box cs):=by
          unfold DK;rw[hop];have r1:DW true fr' (.tmp t)=some (.ptr l1 q γ' off):=by rw[same t hnt];exact e2
          have r2:DW true fr' (.tmp d)=some v:=by
           show(match fr'.get d with
            |some (c,v)=>if (!true||c)=true then some v else none
            | none=>none)=_
           rw[hfd];rfl
          simp only[r1,r2,hget'];rw[ct]at w3;rw[if_pos ⟨trivial,w1,h0,by rw[w2,List.length_take,ct];omega,by omega,hdn⟩,w2,nG]
         refine HK hrel hN hg ho hgd (k:=fun f2 s2=>f2=fr'/\s2=s'.put l1 q γ' (.box cs)) (.inl ((D2 hst).2.2.2 _ ⟨rfl,rfl⟩)) fun G' a' w' fr2 s2 hr2 hk2=>?_;obtain⟨rfl,rfl⟩:=hk2;refine next _ _ ⟨hI.o,fun j p2 k' hj hpk hl=>?_,fun i2 k2=>?_,by rw[St.put_len];exact hI.n⟩ G' a' w' hr2
         ·by_cases ej:j=i
          ·subst ej;rw[ho]at hj;cases hj;rw[(OT hpk).2]at hdn;cases hdn
          ·rw[getD_set_ne true (Ne.symm ej)]at hl;exact hI.d j p2 k' hj hpk hl
         ·rw[St.get_put s' hget'];split
          ·rename_i e;rw[e.1,e.2,hget]
          ·exact hI.p i2 k2
        ·simp[A7,hget,hγ]at e3
       |_=>simp[A7,hget]at e3
     ·cases hp
    ·cases hp
   ·cases c3
theorem AEI{l:List fw}{id:Nat}{K:Exit->Fr->St->Prop}(hm:P.follows .mixedOrders=true)(hB:OE (DR l) N (l.map (K6 l)) (cG l) l=true)(hC:rU P l (IE l) l 0=true){frF:Fr}
  (h1:∀t,(∀k∈IE l,k.2.2≠t)->frF.get t=fr.get t) (h2:∀k∈IE l,ARD P fr frF s k) (hK:K .normal frF s):BE P n N ρ (.region id l.toArray true) K fr s:=by
 simp only[OE,bj]at hB
 obtain⟨⟨⟨⟨⟨b1,b2⟩,b3⟩,b4⟩,b5⟩,b6⟩:=hB
 intro G0 G a w hR
 refine wpIn_region_any hm ?_
 have hR':JE n N G0 G fr s a { w with drawn:=w.drawn+1 }:=⟨hR.le,hR.inv.drawn _,hR.fr,hR.size,hR.lvl,hR.marks⟩
 have:=AI8 (ρ:=ρ) (K:=K) b1 b2 (QR b3) hC h1 h2 hK (dt l.length) (Array.replicate l.length false) G fr s a _ List.nodup_range (fun j=>by
  rw[List.mem_range];refine⟨fun h=>⟨h,by simp[h]⟩,fun h=>h.1⟩) ⟨fun _ _=>rfl,fun j o k hj _ hl=>by
   have:=(bw.1 hj).1;simp[this]at hl,fun _ _=>rfl,rfl⟩ hR'
 rw[List.length_range]at this
 simpa using this
theorem aS:∀{l:List fw},ZU l=true->((IE l).map (·.2.2)).Nodup
 |[],_=>by simp[IE]
 |o::r,h=>by
  simp only[ZU,bj]at h;have ih:=aS h.2;unfold IE at ih|-;rw[List.filterMap_cons];cases hk:ldC o with
  |none=>exact ih
  |some k=>
   simp only[bg,dl]
   refine⟨fun hm=>?_,ih⟩
   obtain⟨k',hk',e⟩:=ck.1 hm
   obtain⟨p,hp,hpk⟩:=cw.1 hk'
   have h1:=h.1
   rw[(OT hk).2]at h1
   have h2:=bx.1 h1 p hp
   rw[(OT hpk).2]at h2
   simp only[e,cm]at h2
   cases h2
theorem rW{l:List fw}(hC:rU P l (IE l) l 0=true):∀k∈IE l,∀k'∈IE l,k.2.2≠k'.2.1:=fun k hk k' hk' e=>by obtain⟨o,ho,hko⟩:=cw.1 hk';obtain⟨j,hj⟩:=dn ho;have hc:=WM hC hj;simp only[AEH,bj,(OT hko).1]at hc;have:=bx.1 hc.2.2 k hk;rw[e,cm]at this;cases this
theorem AI9(hP:EG P){id:Nat}{l:List fw}(hN:OE (DR l) N (l.map (K6 l)) (cG l) l=true)(hC:V9 P l=true){st st':XS}(hx:Q0 P (IE l) (some st)=some st')(hbd:Bd st):KM st st' /\
  ∀(n:Nat) (ρ:Option Nat) (σ:Nat->Nat) (pre:List AA) (K:Exit->Fr->St->Prop),(∀σ',AR st.c σ σ'->K .normal (st'.fr.ren σ' pre.length) (st'.s.emb σ' pre))->BE P n N ρ (.region id l.toArray true) K (st.fr.ren σ pre.length) (st.s.emb σ pre):=by
 simp only[V9,bj]at hC
 have hdd:ZU l=true:=by have hB:=hN;simp only[OE,bj]at hB;exact hB.1.1.1.2
 obtain⟨b1,b2,b3,b4,b5⟩:=eM _ (rW hC.2) (aS hdd) hbd hx
 refine⟨⟨by omega,b1,by rw[b3]⟩,fun n ρ σ pre K hk=>AEI hP.mixed hN hC.2 (frF:=st'.fr.ren σ pre.length) (fun t ht=>?_) (fun k hk=>?_) (by
  have:=hk σ (AR.refl _ _);rwa [b3]at this)⟩
 ·rw[Fr.get_ren,Fr.get_ren,b4 t ht]
 ·obtain⟨v,l1,q,γ,off,e1,e2,e3⟩:=b5 k hk;have hv:FL P true (A2F k.1 (.tmp k.2.1)) st.fr st.s=some v:=by show((DW true st.fr (.tmp k.2.1)).bind fun v=>(A7 st.s v).bind fun cs=>BN P k.1 cs)=some v;rw[e2];exact e3
  have hv:=I6 (σ:=σ) (pre:=pre) hv;have e2':DW true (st.fr.ren σ pre.length) (.tmp k.2.1)=some ((V.ptr l1 q γ off).ren σ pre.length):=by rw[DF,e2];rfl
  refine⟨v.ren σ pre.length,l1+pre.length,q,σ γ,off,by rw[Fr.get_ren,e1];rfl,by rw[e2'];simp,?_⟩;have hv:((DW true (st.fr.ren σ pre.length) (.tmp k.2.1)).bind fun v=>(A7 (st.s.emb σ pre) v).bind fun cs=>BN P k.1 cs)=some (v.ren σ pre.length):=hv;rw[e2']at hv;simpa using hv
end Go.Pg
