/- A row that lies in a place is told as a list, once and for all: it is never written again. No program in sight. -/
import Derived.Test.YthhdhbalenanjaaGreatQa
namespace Go.Pg
variable {P:Program}{σ σ':Nat→Nat}{δ:Nat}{pre:List AA}{s:St}{fr:Fr}{G G':Gh}{w:World}
def BD(l k:Nat)(o:Option (Nat×AX)):Nat→V→V
 |0,v=>v
 |f+1,v=>match v with
  |.vec l' k' g m=>match o with
   |some (γ,.vec _ es)=>if l'=l∧k'=k∧g=γ∧m=es.length then .list false es else v
   |_=>v
  |.ptr l' k' g off=>match o with
   |some (γ,.box cs)=>if l'=l∧k'=k∧g=γ then .ref ((cs.map NJ).drop off) else v
   |_=>v
  |.agg cs=>.agg (cs.map (BD l k o f))
  |.tup cs=>.tup (cs.map (BD l k o f))
  |v=>v
def J6(l k:Nat)(o:Option (Nat×AX)):AX→AX
 |.box cs=>.box (cs.map (BD l k o 3))
 |.vec T es=>.vec T (es.map (List.map (BD l k o 3)))
 |r=>r
def NB(l k:Nat)(o:Option (Nat×AX))(fr:Fr):Fr:=fr.map fun x=>(x.1,x.2.1,BD l k o 3 x.2.2)
def EW(l k:Nat)(o:Option (Nat×AX)):AA→AA
 |[]=>[]
 |(j,g,r)::L=>if j=k then EW l k o L else(j,g,J6 l k o r)::EW l k o L
noncomputable def HT(k:Nat)(st:XS):XS:=⟨st.c,NB st.s.up.length k (st.s.loc.get k) st.fr,⟨st.s.up,EW st.s.up.length k (st.s.loc.get k) st.s.loc⟩⟩
noncomputable def OU(ks:List Nat)(st:XS):XS:=List.rec (motive:=fun _=>XS→XS) (fun st=>st) (fun k _ ih st=>ih (HT k st)) ks st
theorem VD(l k:Nat)(o:Option (Nat×AX)):∀(fr:Fr) (j:Nat),(NB l k o fr).get j=(fr.get j).map fun x=>(x.1,BD l k o 3 x.2)
 |[],_=>rfl
 |(i,c,v)::fr,j=>by
  have ih:=VD l k o fr j;simp only[NB,List.map_cons,Fr.get]at ih⊢;split
  ·rfl
  ·exact ih
theorem VE(l k:Nat)(o:Option (Nat×AX)):∀(L:AA) (j:Nat),(EW l k o L).get j=if j=k then none else(L.get j).map fun x=>(x.1,J6 l k o x.2)
 |[],j=>by simp[EW]
 |(i,g,r)::L,j=>by
  have ih:=VE l k o L j;unfold EW;by_cases h:i=k
  ·rw[if_pos h,ih];by_cases hj:j=k
   ·simp[hj]
   ·rw[if_neg hj,if_neg hj,AA.get,if_neg (by rw[h];exact hj)]
  ·rw[if_neg h];simp only[AA.get];by_cases hj:j=i
   ·subst hj;rw[if_pos rfl,if_pos rfl,if_neg h];rfl
   ·rw[if_neg hj,if_neg hj,ih]
def RA(G G':Gh)(σ:Nat→Nat)(δ l k:Nat)(o:Option (Nat×AX)):Prop:=(∀γ T es,o=some (γ,.vec T es)→∀v,RepV G (.vec (l+δ) k (σ γ) es.length) v→RepV G' (.list false (es.map (List.map (V.ren σ δ)))) v) ∧
 ∀γ cs,o=some (γ,.box cs)→∀off v,RepV G (.ptr (l+δ) k (σ γ) off) v→RepV G' (.ref (((cs.map NJ).drop off).map (V.ren σ δ))) v
theorem ADF(v:V):(NJ v).ren σ δ=NJ (v.ren σ δ):=by cases v<;>simp[NJ]
theorem PV(cs:List V)(off:Nat):((cs.map NJ).drop off).map (V.ren σ δ)=((cs.map (V.ren σ δ)).map NJ).drop off:=by rw[List.map_drop,List.map_map,List.map_map];congr 1;exact List.map_congr_left fun v _=>ADF v
theorem dV{l k:Nat}{o:Option (Nat×AX)}:∀(f:Nat) (v:V),(v.ren σ δ).isCell=true→((BD l k o f v).ren σ δ).isCell=true
 |0,v,h=>h
 |f+1,v,h=>by
  cases v with
  |agg cs=>simp only[G9]at h;cases h
  |tup cs=>simp only[KU]at h;cases h
  |vec l' k' g m=>
   simp only[BD]
   split
   ·split
    ·simp only[ET];rfl
    ·exact h
   ·exact h
  |ptr l' k' g off=>
   simp only[BD]
   split
   ·split
    ·simp only[MQ];rfl
    ·exact h
   ·exact h
  |_=>exact h
theorem OV{l k:Nat}{o:Option (Nat×AX)}(hle:G.le G')(ho:RA G G' σ δ l k o):∀(f:Nat) (x:V) (v:Value),RepV G (x.ren σ δ) v→RepV G' ((BD l k o f x).ren σ δ) v
 |0,x,v,h=>h.mono hle
 |f+1,x,v,h=>by
  have ih:=OV hle ho f;cases x with
  |vec l' k' g m=>
   simp only[BD]
   split
   ·rename_i γ T es;split
    ·rename_i hc;obtain⟨rfl,rfl,rfl,rfl⟩:=hc;simp only[HB,ET]at h⊢;exact ho.1 _ _ _ rfl v h
    ·exact h.mono hle
   ·exact h.mono hle
  |ptr l' k' g off=>
   simp only[BD]
   split
   ·rename_i γ cs;split
    ·rename_i hc;obtain⟨rfl,rfl,rfl⟩:=hc;simp only[HA,MQ]at h⊢;exact ho.2 _ _ rfl off v h
    ·exact h.mono hle
   ·exact h.mono hle
  |agg cs=>
   simp only[BD,G9]at h⊢
   cases h with
   |agg _ arr hl hc hr=>
    refine .agg _ arr (by simpa using hl) (fun c hc'=>?_) (fun i h1 h2=>?_)
    ·simp only[List.mem_map]at hc';obtain⟨d,⟨e,he,rfl⟩,rfl⟩:=hc';exact dV f e (hc _ (List.mem_map_of_mem he))
    ·have h1':i<cs.length:=by simpa using h1
     have q:=hr i (by simpa using h1) h2;simp only[List.getElem_map]at q⊢;exact ih _ _ q
  |tup cs=>
   simp only[BD,KU]at h⊢
   cases h with
   |tup _ arr hl hr=>
    refine .tup _ arr (by simpa using hl) (fun i h1 h2=>?_)
    have q:=hr i (by simpa using h1) h2
    simp only[List.getElem_map]at q⊢
    exact ih _ _ q
  |_=>exact h.mono hle
theorem aA{l k:Nat}{o:Option (Nat×AX)}(hle:G.le G')(ho:RA G G' σ δ l k o){cs:List V}{vs:List Value}(h:RepL G (cs.map (V.ren σ δ)) vs):RepL G' ((cs.map (BD l k o 3)).map (V.ren σ δ)) vs :=
 ⟨by simpa using h.1,fun i p q=>by
  have r:=h.2 i (by simpa using p) q;simp only[List.getElem_map]at r ⊢;exact⟨dV 3 _ r.1,OV hle ho 3 _ _ r.2⟩⟩
theorem xT{l k:Nat}{o:Option (Nat×AX)}(hle:G.le G')(ho:RA G G' σ δ l k o){g:Nat}{r:AX}(h:IJ G g w (r.ren σ δ)):IJ G' g w ((J6 l k o r).ren σ δ):=by
 cases r with
 |box cs=>
  obtain⟨b,arr,T,h1,h2,h3⟩:=h
  exact⟨b,arr,T,by simpa using hle.2 _ _ h1,h2,aA hle ho h3⟩
 |vec T es=>
  obtain⟨b,sz,C,h1,h2,h3,h4,h5⟩:=h
  refine⟨b,sz,C,hle.2 _ _ h1,by simpa using h2,fun e he=>?_,⟨h4.1,fun h=>h4.2 (by simpa using h)⟩,fun hC=>?_⟩
  ·simp only[List.mem_map]at he;obtain⟨e1,⟨e2,he2,rfl⟩,rfl⟩:=he;have:=h3 (e2.map (V.ren σ δ)) (List.mem_map_of_mem he2);simpa using this
  ·obtain⟨arr,h6,h7,h8⟩:=h5 hC;refine⟨arr,h6,h7,?_⟩;have q:RepL G (es.flatten.map (V.ren σ δ)) (arr.toList.take (es.length*sz)):=by rw[List.map_flatten];simpa using h8
   have q2:=aA hle ho q;rw[List.map_flatten,List.map_flatten]at q2;simpa using q2
 |map es=>exact h.keep hle fun _ _=>rfl
 |loop fr ps asg body N st=>exact h.keep hle fun _ _=>rfl
 |dead=>trivial
theorem xU(G:Gh)(l k:Nat)(o:Option (Nat×AX))(g:Nat)(r:AX):BK G g ((J6 l k o r).ren σ δ)=BK G g (r.ren σ δ):=by cases r<;>rfl
theorem ADG{k:Nat}{st:XS}{l j:Nat}{x:Nat×AX}(h:((HT k st).s.emb σ pre).get l j=some x) :
  ¬(l=st.s.up.length+pre.length∧j=k)∧((st.s.emb σ pre).get l j=some x∨∃r,(st.s.emb σ pre).get l j=some (x.1,r.ren σ pre.length)∧x.2=(J6 st.s.up.length k (st.s.loc.get k) r).ren σ pre.length):=by
 have hlen:(st.s.emb σ pre).up.length=st.s.up.length+pre.length:=by rw[DB]
 have hup:((HT k st).s.emb σ pre).up=(st.s.emb σ pre).up:=rfl
 unfold St.get at h⊢
 rw[hup]at h
 by_cases e:l=(st.s.emb σ pre).up.length
 ·rw[if_pos e]at h⊢;have h':((EW st.s.up.length k (st.s.loc.get k) st.s.loc).ren σ pre.length).get j=some x:=h;rw[AA.get_ren,VE]at h';by_cases hj:j=k
  ·rw[if_pos hj]at h';cases h'
  ·rw[if_neg hj]at h';refine⟨fun hh=>hj hh.2,.inr ?_⟩;have hl:(st.s.emb σ pre).loc.get j=(st.s.loc.get j).map fun p=>(σ p.1,p.2.ren σ pre.length):=AA.get_ren _ _;rw[hl];cases hg:st.s.loc.get j with
   |none=>rw[hg]at h';cases h'
   |some y=>
    rw[hg]at h'
    obtain⟨g,r⟩:=y
    cases h'
    exact⟨r,rfl,rfl⟩
 ·rw[if_neg e]at h⊢;exact⟨fun hh=>e (by rw[hlen];exact hh.1),.inl h⟩
theorem ADH{k:Nat}{st:XS}(hI:CT G (st.s.emb σ pre) w):∃G',G.le G'∧CT G' ((HT k st).s.emb σ pre) w∧RA G G' σ pre.length st.s.up.length k (st.s.loc.get k):=by
 have hget:(st.s.emb σ pre).get (st.s.up.length+pre.length) k=(st.s.loc.get k).map fun p=>(σ p.1,p.2.ren σ pre.length):=by rw[B9];unfold St.get;rw[if_pos rfl]
 have main:∃G' s0,G.le G'∧CT G' s0 w∧(∀l j,¬(l=st.s.up.length+pre.length∧j=k)→s0.get l j=(st.s.emb σ pre).get l j)∧RA G G' σ pre.length st.s.up.length k (st.s.loc.get k):=by
  cases ho:st.s.loc.get k with
  |none=>exact⟨G,_,⟨fun _ _ h=>h,fun _ _ h=>h,rfl⟩,hI,fun _ _ _=>rfl,⟨fun γ T es h=>(by cases h),fun γ cs h=>(by cases h)⟩⟩
  |some x=>
   obtain⟨γ,r⟩:=x
   rw[ho]at hget
   cases r with
   |vec T es=>
    have hget:(st.s.emb σ pre).get (st.s.up.length+pre.length) k=some (σ γ,.vec T (es.map (List.map (V.ren σ pre.length)))):=hget
    obtain⟨G',hle,hI',hs⟩:=hI.lockRow hget
    refine⟨G',_,hle,hI',fun l j hne=>?_,⟨fun γ' T' es' h v hv=>?_,fun γ cs h=>by cases h⟩⟩
    ·rw[St.get_put _ hget,if_neg hne]
    ·cases h;have:=Y6 hI hle hget (m:=es.length) (by simp) hs hv;rwa [List.take_of_length_le (by simp)]at this
   |box cs=>
    have hget:(st.s.emb σ pre).get (st.s.up.length+pre.length) k=some (σ γ,.box (cs.map (V.ren σ pre.length))):=hget
    obtain⟨G',hle,hI',hs⟩:=hI.lockBox hget
    refine⟨G',_,hle,hI',fun l j hne=>?_,⟨fun γ' T' es' h=>(by cases h),fun γ' cs' h off v hv=>?_⟩⟩
    ·rw[St.get_put _ hget,if_neg hne]
    ·cases h;rw[PV];exact kJ hI hle hget hs hv
   |map cs=>exact⟨G,_,⟨fun _ _ h=>h,fun _ _ h=>h,rfl⟩,hI,fun _ _ _=>rfl,⟨fun γ T es h=>(by cases h),fun γ cs h=>(by cases h)⟩⟩
   |loop _ _ _ _ _ _=>exact⟨G,_,⟨fun _ _ h=>h,fun _ _ h=>h,rfl⟩,hI,fun _ _ _=>rfl,⟨fun γ T es h=>(by cases h),fun γ cs h=>(by cases h)⟩⟩
   |dead=>exact⟨G,_,⟨fun _ _ h=>h,fun _ _ h=>h,rfl⟩,hI,fun _ _ _=>rfl,⟨fun γ T es h=>(by cases h),fun γ cs h=>(by cases h)⟩⟩
 obtain⟨G',s0,hle,hI',hg,ht⟩:=main;refine⟨G',hle,?_,ht⟩;have look:∀{l j g r},((HT k st).s.emb σ pre).get l j=some (g,r)→∃r0,s0.get l j=some (g,r0)∧IJ G' g w r∧BK G' g r=BK G' g r0:=by
  intro l j g r h;obtain⟨hne,h1⟩:=ADG h;rw[hg _ _ hne];rcases h1 with h1|⟨r0,h1,h2⟩
  ·exact⟨r,h1,hI'.res l j g r (by rw[hg _ _ hne];exact h1),rfl⟩
  ·simp only at h1 h2;subst h2;exact⟨_,h1,xT hle ht (hI.res _ _ _ _ h1),xU _ _ _ _ _ _⟩
 refine⟨hI'.sl,fun l k g r h=>(by obtain⟨r0,_,h2,_⟩:=look h;exact h2),fun l k g r l' k' g' r' b h1 h2 h3 h4=>?_,fun l k g r b h1 h2=>?_,hI'.fresh,hI'.env⟩
 ·rcases look h1 with⟨r1,e1,_,o1⟩;rcases look h2 with⟨r2,e2,_,o2⟩;exact hI'.sep _ _ _ _ _ _ _ _ _ e1 e2 (o1▸h3) (o2▸h4)
 ·rcases look h1 with⟨r1,e1,_,o1⟩;exact hI'.out _ _ _ _ _ e1 (o1▸h2)
theorem aB{n N:Nat}{ρ:Option Nat}{c:Code}{K:Exit→Fr→St→Prop}{k:Nat}{st:XS}(h:BH P n N ρ c K ((HT k st).fr.ren σ pre.length) ((HT k st).s.emb σ pre)):BH P n N ρ c K (st.fr.ren σ pre.length) (st.s.emb σ pre):=by
 intro G0 G a w hR;obtain⟨G',hle,hI',ht⟩:=ADH (k:=k) hR.inv;refine h G0 G' a w ⟨⟨fun _ _ h=>hle.1 _ _ (hR.le.1 _ _ h),fun _ _ h=>hle.2 _ _ (hR.le.2 _ _ h),hle.3.trans hR.le.3⟩,hI',fun j c v hj=>?_,hR.size,hR.lvl,?_⟩
 ·rw[Fr.get_ren]at hj;have hj':((NB st.s.up.length k (st.s.loc.get k) st.fr).get j).map (fun p=>(p.1,p.2.ren σ pre.length))=some (c,v):=hj;rw[VD]at hj';cases hg:st.fr.get j with
  |none=>rw[hg]at hj';cases hj'
  |some y=>
   rw[hg]at hj'
   obtain⟨c0,v0⟩:=y
   cases hj'
   obtain⟨x,q1,q2,q3⟩:=hR.fr j c0 (v0.ren σ pre.length) (by rw[Fr.get_ren,hg];rfl)
   exact⟨x,q1,fun hc=>OV hle ht 3 _ _ (q2 hc),q3⟩
 ·obtain⟨rs,m1,m2,m3⟩:=hR.marks;exact⟨rs,m1,m2,fun r hr=>⟨(m3 r hr).1,hle.1 _ _ (m3 r hr).2⟩⟩
def TBd(c:Nat)(o:Option (Nat×AX)):Prop:=(∀γ T es,o=some (γ,.vec T es)→∀σ σ' δ,AU c σ σ'→es.map (List.map (V.ren σ δ))=es.map (List.map (V.ren σ' δ)))∧∀γ cs,o=some (γ,.box cs)→∀σ σ' δ,AU c σ σ'→cs.map (V.ren σ δ)=cs.map (V.ren σ' δ)
theorem gN{l k c:Nat}{o:Option (Nat×AX)}(ho:TBd c o){σ σ':Nat→Nat}{δ:Nat}(ha:AU c σ σ'):∀(f:Nat) (v:V),v.ren σ δ=v.ren σ' δ→(BD l k o f v).ren σ δ=(BD l k o f v).ren σ' δ
 |0,v,h=>h
 |f+1,v,h=>by
  have ih:=gN (l:=l) (k:=k) ho ha (δ:=δ) f;have lst:∀cs:List V,cs.map (V.ren σ δ)=cs.map (V.ren σ' δ)→(cs.map (BD l k o f)).map (V.ren σ δ)=(cs.map (BD l k o f)).map (V.ren σ' δ):=by intro cs h;simp only[List.map_map];refine List.map_congr_left fun x hx=>?_;exact ih x (List.map_inj_left.1 h x hx)
  cases v with
  |vec l' k' g m=>
   simp only[BD]
   split
   ·split
    ·simp only[ET];rw[ho.1 _ _ _ rfl σ σ' δ ha]
    ·exact h
   ·exact h
  |ptr l' k' g off=>
   simp only[BD]
   split
   ·split
    ·simp only[MQ];rw[PV,PV,ho.2 _ _ rfl σ σ' δ ha]
    ·exact h
   ·exact h
  |agg cs=>
   simp only[BD,G9,V.agg.injEq]at h⊢
   exact lst cs h
  |tup cs=>
   simp only[BD,KU,V.tup.injEq]at h⊢
   exact lst cs h
  |_=>exact h
theorem AQ8{c k γ:Nat}{T:TypeId}{es:List (List V)}{L:AA}(hL:∀σ σ' δ,AU c σ σ'→L.ren σ δ=L.ren σ' δ)(h:L.get k=some (γ,.vec T es)):∀σ σ' δ,AU c σ σ'→es.map (List.map (V.ren σ δ))=es.map (List.map (V.ren σ' δ)):=by
 intro σ σ' δ ha;have e1:(L.ren σ δ).get k=some (σ γ,.vec T (es.map (List.map (V.ren σ δ)))):=by rw[AA.get_ren,h];rfl
 have e2:(L.ren σ' δ).get k=some (σ' γ,.vec T (es.map (List.map (V.ren σ' δ)))):=by rw[AA.get_ren,h];rfl
 rw[hL σ σ' δ ha,e2]at e1;simp only[Option.some.injEq,Prod.mk.injEq,AX.vec.injEq]at e1;exact e1.2.2.symm
theorem ADI{st:XS}(h:Bd st):∀σ σ' δ,AU st.c σ σ'→st.s.loc.ren σ δ=st.s.loc.ren σ' δ:=by intro σ σ' δ ha;have q:=h.s σ σ' (List.replicate δ []) ha;simp only[St.emb,St.mk.injEq,List.length_replicate]at q;exact q.2
theorem AQ9{c k γ:Nat}{cs:List V}{L:AA}(hL:∀σ σ' δ,AU c σ σ'→L.ren σ δ=L.ren σ' δ)(h:L.get k=some (γ,.box cs)):∀σ σ' δ,AU c σ σ'→cs.map (V.ren σ δ)=cs.map (V.ren σ' δ):=by
 intro σ σ' δ ha;have e1:(L.ren σ δ).get k=some (σ γ,.box (cs.map (V.ren σ δ))):=by rw[AA.get_ren,h];rfl
 have e2:(L.ren σ' δ).get k=some (σ' γ,.box (cs.map (V.ren σ' δ))):=by rw[AA.get_ren,h];rfl
 rw[hL σ σ' δ ha,e2]at e1;simp only[Option.some.injEq,Prod.mk.injEq,AX.box.injEq]at e1;exact e1.2.symm
theorem mC{l k c:Nat}{o:Option (Nat×AX)}(ho:TBd c o){σ σ':Nat→Nat}{δ:Nat}(ha:AU c σ σ'):∀(L:AA),L.ren σ δ=L.ren σ' δ→(EW l k o L).ren σ δ=(EW l k o L).ren σ' δ
 |[],_=>rfl
 |(j,g,r)::L,h=>by
  simp only[AA.ren,List.map_cons,List.cons.injEq,Prod.mk.injEq,true_and]at h;have ih:=mC (l:=l) (k:=k) ho ha L h.2;simp only[EW];split
  ·exact ih
  ·simp only[AA.ren,List.map_cons,List.cons.injEq,Prod.mk.injEq,true_and];refine⟨⟨h.1.1,?_⟩,ih⟩;have hr:=h.1.2;have lst:∀cs:List V,cs.map (V.ren σ δ)=cs.map (V.ren σ' δ)→(cs.map (BD l k o 3)).map (V.ren σ δ)=(cs.map (BD l k o 3)).map (V.ren σ' δ):=by intro cs h;simp only[List.map_map];exact List.map_congr_left fun x hx=>gN ho ha 3 x (List.map_inj_left.1 h x hx)
   cases r with
   |box cs=>
    simp only[J6,AX.ren,AX.box.injEq]at hr⊢
    exact lst cs hr
   |vec T es=>
    simp only[J6,AX.ren,AX.vec.injEq,true_and,List.map_map]at hr⊢
    refine List.map_congr_left fun e he=>?_
    exact lst e (List.map_inj_left.1 hr e he)
   |_=>exact hr
theorem dW{k:Nat}{st:XS}(h:Bd st):KG st (HT k st):=by
 have ho:TBd st.c (st.s.loc.get k):=⟨fun γ T es hg=>AQ8 (ADI h) hg,fun γ cs hg=>AQ9 (ADI h) hg⟩;refine⟨Nat.le_refl _,⟨fun σ σ' δ ha=>?_,fun σ σ' pre ha=>?_,fun l j γ fr ps asg body N ls hg=>?_⟩,rfl⟩
 ·have q:=h.f σ σ' δ ha;simp only[HT,NB,Fr.ren,List.map_map]at q⊢;refine List.map_congr_left fun x hx=>?_;have:=List.map_inj_left.1 q x hx;simp only[Prod.mk.injEq,true_and]at this;simp only[Function.comp,Prod.mk.injEq,true_and];exact gN ho ha 3 _ this
 ·have q:=h.s σ σ' pre ha;simp only[St.emb,St.mk.injEq]at q;simp only[HT,St.emb,St.mk.injEq];exact⟨q.1,mC ho ha _ q.2⟩
 ·have hg':(HT k st).s.get l j=some (γ,.loop fr ps asg body N ls):=hg;refine h.lp l j γ fr ps asg body N ls ?_;unfold St.get at hg'⊢;have hup:(HT k st).s.up=st.s.up:=rfl;rw[hup]at hg';split
  ·rename_i e;rw[if_pos e]at hg';have hg':(EW st.s.up.length k (st.s.loc.get k) st.s.loc).get j=some (γ,.loop fr ps asg body N ls):=hg';rw[VE]at hg';split at hg'
   ·cases hg'
   ·cases hq:st.s.loc.get j with
    |none=>rw[hq]at hg';cases hg'
    |some y=>
     rw[hq]at hg'
     obtain⟨g,r⟩:=y
     cases r with
     |loop _ _ _ _ _ _=>exact hg'
     |_=>simp[J6]at hg'
  ·rename_i e;rw[if_neg e]at hg';exact hg'
theorem tX:∀(ks:List Nat) (st:XS),(OU ks st).c=st.c
 |[],_=>rfl
 |k::ks,st=>tX ks (HT k st)
theorem dX:∀(ks:List Nat) {st:XS},Bd st→KG st (OU ks st)
 |[],st,h=>⟨Nat.le_refl _,h,rfl⟩
 |k::ks,st,h=>by have h1:=dW (k:=k) h;have h2:=dX ks h1.bd;exact⟨Nat.le_trans h1.c h2.c,h2.bd,h2.n.trans h1.n⟩
theorem aC{n N:Nat}{ρ:Option Nat}{c:Code}{K:Exit→Fr→St→Prop}:∀(ks:List Nat) {st:XS},BH P n N ρ c K ((OU ks st).fr.ren σ pre.length) ((OU ks st).s.emb σ pre)→BH P n N ρ c K (st.fr.ren σ pre.length) (st.s.emb σ pre)
 |[],_,h=>h
 |k::ks,st,h=>aB (k:=k) (aC ks (st:=HT k st) h)
end Go.Pg
namespace Go.Pg
variable {P:Program}{σ σ':Nat→Nat}{δ:Nat}{pre:List AA}{s:St}{fr:Fr}{G G':Gh}{w:World}
def HU(st:XS):List Nat→V→V
 |[],v=>v
 |k::ks,v=>HU st ks (cond (Nat.blt k 10000) (BD st.s.up.length k (st.s.loc.get k) 3 v) (BD (k / 10000-1) (k % 10000) (st.s.get (k / 10000-1) (k % 10000)) 3 v))
def gO:V→Bool
 |.int ..=>true
 |.bool _=>true
 |_=>false
def aD:V→Bool
 |.int ..=>true
 |.bool _=>true
 |.agg cs=>cs.all gO
 |_=>false
noncomputable def mD(cf:CF)(c0:CF0)(ks:List Nat):CF:=fun f args st=>match c0 f (args.map (HU st ks))with
 |some r=>Bool.rec (cf f args st) (some (r,st)) (aD r)
 |none=>cf f args st
noncomputable def cfU(ks:List Nat)(E:XE):XE:=match ks with
 |[]=>E
 |_::_=>⟨mD E.cf E.c0 ks,E.cy,E.c0,E.co,E.lit⟩
def cD(G:Gh)(w:World):Gh:={ sl:=fun b=>w.heap[b]?,be:=G.be,env:=G.env }
def AJC(G:Gh)(w:World):Gh:={ sl:=fun b=>w.heap[b]?,be:=G.be,env:=(w.os,w.output,w.heap.size) }
theorem gP(hI:CT G s w):G.le (cD G w):=⟨hI.sl,fun _ _ h=>h,rfl⟩
theorem ADJ:(cD G w).lec (AJC G w):=⟨fun _ _ _ _ h=>h,fun _ _ h=>h⟩
theorem ADK(hI:CT G s w):CT (AJC G w) ⟨[],[]⟩ w where
 sl _ _ h:=h
 res l k g r h:=by simp[St.get]at h
 sep l k g r l' k' g' r' b h:=by simp[St.get]at h
 out l k g r b h:=by simp[St.get]at h
 fresh:=hI.fresh
 env:=⟨rfl,rfl,Nat.le_refl _,fun b c T fz h1 h2=>by
  have h3:=(Array.getElem?_eq_some_iff.1 h2).1;have h4:w.heap.size≤b:=h1;omega⟩
theorem ADL{l k g n:Nat}{v:Value}(h:RepV (cD G w) (.vec l k g n) v):RepV G (.vec l k g n) v:=by
 cases h with
 |vec _ _ _ _ b sz C a h1 h2 h3=>exact .vec _ _ _ _ b sz C a h1 h2 h3
theorem ADM{l k g n:Nat}{v:Value}(h:RepV (cD G w) (.ptr l k g n) v):RepV G (.ptr l k g n) v:=by
 cases h with
 |ptr _ _ _ _ b sz C h1=>exact .ptr _ _ _ _ b sz C h1
theorem LF{st:XS}(hI:CT G (st.s.emb σ pre) w)(l k:Nat):RA (cD G w) (cD G w) σ pre.length l k (st.s.get l k):=by
 refine⟨fun γ T es ho v hv=>?_,fun γ cs ho off v hv=>?_⟩
 ·have hget:(st.s.emb σ pre).get (l+pre.length) k=some (σ γ,.vec T (es.map (List.map (V.ren σ pre.length)))):=by rw[B9,ho];rfl
  have:=Y6 hI (gP hI) hget (m:=es.length) (by simp) (fun _ _=>rfl) (ADL hv);rwa [List.take_of_length_le (by simp)]at this
 ·have hget:(st.s.emb σ pre).get (l+pre.length) k=some (σ γ,.box (cs.map (V.ren σ pre.length))):=by rw[B9,ho];rfl
  rw[PV];exact kJ hI (gP hI) hget (fun _ _=>rfl) (ADM hv)
theorem qA{st:XS}(hI:CT G (st.s.emb σ pre) w)(k:Nat):RA (cD G w) (cD G w) σ pre.length st.s.up.length k (st.s.loc.get k):=by have:=LF hI st.s.up.length k;rwa [WY]at this
theorem VF{st:XS}(hI:CT G (st.s.emb σ pre) w):∀(ks:List Nat) (x:V) (v:Value),RepV (cD G w) (x.ren σ pre.length) v→RepV (cD G w) ((HU st ks x).ren σ pre.length) v
 |[],_,_,h=>h
 |k::ks,x,v,h=>by
  unfold HU;cases Nat.blt k 10000 with
  |true=>exact VF hI ks _ v (OV (Gh.le_refl _) (qA hI k) 3 x v h)
  |false=>exact VF hI ks _ v (OV (Gh.le_refl _) (LF hI _ _) 3 x v h)
theorem ADN{s':St}{w':World}(hI:CT G s w)(hle:(AJC G w).le G')(hI':CT G' s' w'):CT G s w':=by
 have he:G'.env=(w.os,w.output,w.heap.size):=hle.e;obtain⟨h1,h2,h3,h4⟩:=hI'.env;rw[he]at h1 h2 h3 h4;have hold:∀i,i<w.heap.size→w'.heap[i]? = w.heap[i]?:=fun i hi=>by have:=hI'.sl i w.heap[i] (hle.1 i _ (show w.heap[i]? = some w.heap[i] by simp[hi]));rw[this];simp[hi]
 obtain⟨e1,e2,e3,e4⟩:=hI.env;refine⟨fun b o h=>?_,fun l k g r h=>(hI.res l k g r h).keep (Gh.le_refl _) fun b hb=>hold b (hI.out _ _ _ _ _ h hb).2,hI.sep,fun l k g r b h hb=>⟨(hI.out _ _ _ _ _ h hb).1,Nat.lt_of_lt_of_le (hI.out _ _ _ _ _ h hb).2 h3⟩,hI.fresh,⟨h1.trans e1,h2.trans e2,Nat.le_trans e3 h3,fun b c T fz hb hc=>?_⟩⟩
 ·have h:=hI.sl b o h;rw[hold b (Array.getElem?_eq_some_iff.1 h).1];exact h
 ·rcases Nat.lt_or_ge b w.heap.size with hl|hl
  ·rw[hold b hl]at hc;exact e4 b c T fz hb hc
  ·exact h4 b c T fz hl hc
theorem ADO{r:V}{v:Value}(hf:aD r=true)(h:RepV G' r v):RepV G r v:=by
 cases r with
 |int k n=>cases h;exact .int _ _
 |bool b=>cases h;exact .bool _
 |agg cs=>
  cases h with
  |agg _ arr hl hc hr=>
   refine .agg _ arr hl hc fun i h1 h2=>?_
   have q:=hr i h1 h2
   have f:=List.all_eq_true.1 (show cs.all gO=true from hf) _ (List.getElem_mem h1)
   generalize cs[i]=c at *
   generalize arr[i]=z at *
   cases c with
   |int k n=>cases q;exact .int _ _
   |bool b=>cases q;exact .bool _
   |_=>cases f
 |_=>cases hf
theorem ADP{cf:CF}(hcf:dN P cf){c0:CF0}(hc0:HD P c0)(ks:List Nat):dN P (mD cf c0 ks):=by
 intro f args st r st' hx hbd hargs;unfold mD at hx;split at hx
 ·rename_i r0 h0;cases hf:aD r0 with
  |false=>
   rw[hf]at hx
   exact hcf f args st r st' hx hbd hargs
  |true=>
   rw[hf]at hx
   cases hx
   obtain⟨hA,h1,h2⟩:=hc0 _ _ _ h0
   refine⟨⟨Nat.le_refl _,hbd,rfl⟩,fun σ σ' δ _=>by rw[h2,h2],rfl,fun σ pre K hk=>⟨(hA ⟨[],[]⟩).1,fun G vals w R hI ha hR=>?_⟩⟩
   refine(hA ⟨[],[]⟩).2 (AJC G w) vals w R (ADK hI) ?_ fun G' r' v w' s' hle hI' hv hlen hk'=>?_
   ·refine⟨by simpa using ha.1,fun i p q=>?_⟩;have hr:=ha.2 i (by simpa using p) q;simp only[List.getElem_map]at hr⊢;have h3:=VF hI ks _ _ (hr.mono (gP hI));rw[h1 _ (List.mem_map_of_mem (List.getElem_mem _))]at h3;exact h3.monoC ADJ
   ·obtain⟨rfl,rfl⟩:=hk';have:=hk σ (AU.refl _ _);rw[h2]at this;exact hR G r' v w' _ (Gh.le_refl _) (ADN hI hle hI') (ADO hf hv) rfl this
 ·exact hcf f args st r st' hx hbd hargs
theorem ARA{E:XE}(h:J4 P E)(ks:List Nat):J4 P (cfU ks E):=by
 cases ks with
 |nil=>exact h
 |cons k ks=>exact⟨ADP h.cf h.c0 _,h.cy,h.c0,h.co⟩
end Go.Pg
namespace Go.Pg
variable {P:Program}{σ σ':Nat→Nat}{δ:Nat}{pre:List AA}{s:St}{fr:Fr}{G G':Gh}{w:World}{n k l d:Nat}
def KH(n k l d:Nat):Nat→V→V
 |0,v=>v
 |f+1,v=>match v with
  |.vec l' k' γ m=>if l'=n∧k'=k then .vec l d γ m else v
  |.ptr l' k' γ o=>if l'=n∧k'=k then .ptr l d γ o else v
  |.mp l' k' γ=>if l'=n∧k'=k then .mp l d γ else v
  |.agg cs=>.agg (cs.map (KH n k l d f))
  |.tup cs=>.tup (cs.map (KH n k l d f))
  |v=>v
def WQ(n k l d:Nat):AX→AX
 |.box cs=>.box (cs.map (KH n k l d 3))
 |.vec T es=>.vec T (es.map (List.map (KH n k l d 3)))
 |r=>r
def xV(n k l d:Nat)(fr:Fr):Fr:=fr.map fun x=>(x.1,x.2.1,KH n k l d 3 x.2.2)
def mE(n k l d:Nat):AA→AA
 |[]=>[]
 |(j,g,r)::L=>if j=k then mE n k l d L else(j,g,WQ n k l d r)::mE n k l d L
def J7(u:Nat):AA→AA
 |[]=>[]
 |(j,x)::L=>if j=u then J7 u L else(j,x)::J7 u L
def zR(n k l d:Nat):List Nat→AA→AA
 |[],L=>L
 |u::us,L=>match L.get u with
  |some (g,r)=>(u,g,WQ n k l d r)::zR n k l d us (J7 u L)
  |none=>zR n k l d us L
def xW(k l d:Nat)(us:List Nat)(s:St)(o:Option (Nat×AX)):St:=match o with
 |some (γ,r)=>St.put ⟨s.up.modify l (zR s.up.length k l d us),mE s.up.length k l d s.loc⟩ l d γ (WQ s.up.length k l d r)
 |none=>s
def VG(l n:Nat):Option (Nat×AX)→Bool
 |some (_,r)=>Nat.blt l n&&dI r
 |none=>false
noncomputable def gQ(k l d:Nat)(us:List Nat)(st:XS):XS:=Bool.rec st ⟨st.c,xV st.s.up.length k l d st.fr,xW k l d us st.s (st.s.loc.get k)⟩ (VG l st.s.up.length (st.s.loc.get k))
theorem mF:∀(f:Nat) (v:V),(v.ren σ δ).isCell=true→((KH n k l d f v).ren σ δ).isCell=true
 |0,v,h=>h
 |f+1,v,h=>by
  cases v with
  |agg cs=>simp only[G9]at h;cases h
  |tup cs=>simp only[KU]at h;cases h
  |vec l' k' g m=>simp only[KH];split<;>(simp only[HB];rfl)
  |ptr l' k' g m=>simp only[KH];split<;>(simp only[HA];rfl)
  |mp l' k' g=>simp only[KH];split<;>(simp only[Q3];rfl)
  |_=>exact h
theorem gR:∀(f:Nat) (x:V) (v:Value),RepV G (x.ren σ δ) v→RepV G ((KH n k l d f x).ren σ δ) v
 |0,x,v,h=>h
 |f+1,x,v,h=>by
  have ih:=gR f;cases x with
  |vec l' k' g m=>
   simp only[KH]
   split
   ·simp only[HB]at h⊢;cases h with
    |vec _ _ _ _ b sz C a h1 h2 h3=>exact .vec _ _ _ _ b sz C a h1 h2 h3
   ·exact h
  |ptr l' k' g o=>
   simp only[KH]
   split
   ·simp only[HA]at h⊢;cases h with
    |ptr _ _ _ _ b sz C h1=>exact .ptr _ _ _ _ b sz C h1
   ·exact h
  |mp l' k' g=>
   simp only[KH]
   split
   ·simp only[Q3]at h⊢;cases h with
    |mp _ _ _ b sz C h1=>exact .mp _ _ _ b sz C h1
   ·exact h
  |agg cs=>
   simp only[KH,G9]at h⊢
   cases h with
   |agg _ arr hl hc hr=>
    refine .agg _ arr (by simpa using hl) (fun c hc'=>?_) (fun i h1 h2=>?_)
    ·simp only[List.mem_map]at hc';obtain⟨d',⟨e,he,rfl⟩,rfl⟩:=hc';exact mF f e (hc _ (List.mem_map_of_mem he))
    ·have q:=hr i (by simpa using h1) h2;simp only[List.getElem_map]at q⊢;exact ih _ _ q
  |tup cs=>
   simp only[KH,KU]at h⊢
   cases h with
   |tup _ arr hl hr=>
    refine .tup _ arr (by simpa using hl) (fun i h1 h2=>?_)
    have q:=hr i (by simpa using h1) h2
    simp only[List.getElem_map]at q⊢
    exact ih _ _ q
  |_=>exact h
theorem mG{cs:List V}{vs:List Value}(h:RepL G (cs.map (V.ren σ δ)) vs):RepL G ((cs.map (KH n k l d 3)).map (V.ren σ δ)) vs :=
 ⟨by simpa using h.1,fun i p q=>by
  have r:=h.2 i (by simpa using p) q;simp only[List.getElem_map]at r ⊢;exact⟨mF 3 _ r.1,gR 3 _ _ r.2⟩⟩
theorem tY{g:Nat}{r:AX}(h:IJ G g w (r.ren σ δ)):IJ G g w ((WQ n k l d r).ren σ δ):=by
 cases r with
 |box cs=>
  obtain⟨b,arr,T,h1,h2,h3⟩:=h
  exact⟨b,arr,T,by simpa using h1,h2,mG h3⟩
 |vec T es=>
  obtain⟨b,sz,C,h1,h2,h3,h4,h5⟩:=h
  refine⟨b,sz,C,h1,by simpa using h2,fun e he=>?_,⟨h4.1,fun h=>h4.2 (by simpa using h)⟩,fun hC=>?_⟩
  ·simp only[List.mem_map]at he;obtain⟨e1,⟨e2,he2,rfl⟩,rfl⟩:=he;have:=h3 (e2.map (V.ren σ δ)) (List.mem_map_of_mem he2);simpa using this
  ·obtain⟨arr,h6,h7,h8⟩:=h5 hC;refine⟨arr,h6,h7,?_⟩;have q:RepL G (es.flatten.map (V.ren σ δ)) (arr.toList.take (es.length*sz)):=by rw[List.map_flatten];simpa using h8
   have q2:=mG (n:=n) (k:=k) (l:=l) (d:=d) q;rw[List.map_flatten,List.map_flatten]at q2;simpa using q2
 |map es=>exact h
 |loop fr ps asg body N st=>exact h
 |dead=>trivial
theorem tZ(G:Gh)(g:Nat)(r:AX):BK G g ((WQ n k l d r).ren σ δ)=BK G g (r.ren σ δ):=by cases r<;>rfl
theorem gS:∀(fr:Fr) (j:Nat),(xV n k l d fr).get j=(fr.get j).map fun x=>(x.1,KH n k l d 3 x.2)
 |[],_=>rfl
 |(i,c,v)::fr,j=>by
  have ih:=gS fr j;simp only[xV,List.map_cons,Fr.get]at ih⊢;split
  ·rfl
  ·exact ih
theorem uA:∀(L:AA) (j:Nat),(mE n k l d L).get j=if j=k then none else(L.get j).map fun x=>(x.1,WQ n k l d x.2)
 |[],j=>by simp[mE]
 |(i,g,r)::L,j=>by
  have ih:=uA L j;unfold mE;by_cases h:i=k
  ·rw[if_pos h,ih];by_cases hj:j=k
   ·simp[hj]
   ·rw[if_neg hj,if_neg hj,AA.get,if_neg (by rw[h];exact hj)]
  ·rw[if_neg h];simp only[AA.get];by_cases hj:j=i
   ·subst hj;rw[if_pos rfl,if_pos rfl,if_neg h];rfl
   ·rw[if_neg hj,if_neg hj,ih]
theorem aE(u:Nat):∀(L:AA) (j:Nat),(J7 u L).get j=if j=u then none else L.get j
 |[],j=>by simp[J7,AA.get]
 |(q,x)::L,j=>by
  have ih:=aE u L j;unfold J7;by_cases h:q=u
  ·rw[if_pos h,ih];subst h;by_cases hj:j=q
   ·rw[if_pos hj,if_pos hj]
   ·rw[if_neg hj,if_neg hj];simp only[AA.get];rw[if_neg hj]
  ·rw[if_neg h];simp only[AA.get];by_cases hj:j=q
   ·subst hj;rw[if_pos rfl,if_neg h,if_pos rfl]
   ·rw[if_neg hj,if_neg hj,ih]
theorem gT:∀(us:List Nat) (L:AA) (j:Nat) (x:Nat×AX),(zR n k l d us L).get j=some x→L.get j=some x∨∃r,L.get j=some (x.1,r)∧x.2=WQ n k l d r
 |[],L,j,x,h=>.inl h
 |u::us,L,j,x,h=>by
  unfold zR at h;split at h
  ·rename_i g r e;simp only[AA.get]at h;split at h
   ·rename_i e2;subst e2;cases h;exact .inr ⟨r,e,rfl⟩
   ·rename_i hne;have:=gT us _ j x h;rw[aE,if_neg hne]at this;exact this
  ·exact gT us L j x h
theorem qD{s:St}{l k γ:Nat}{r:AX}{l' k':Nat}{x:Nat×AX}(h:(s.put l k γ r).get l' k'=some x):(l'=l∧k'=k∧x=(γ,r))∨(¬(l'=l∧k'=k)∧s.get l' k'=some x):=by
 unfold St.put at h;unfold St.get at h⊢;by_cases e1:l=s.up.length
 ·rw[if_pos e1]at h;by_cases e2:l'=s.up.length
  ·rw[if_pos e2]at h⊢;rw[AA.get_put]at h;split at h
   ·rename_i e;exact .inl ⟨e2.trans e1.symm,e,(Option.some.inj h).symm⟩
   ·rename_i e;exact .inr ⟨fun hh=>e hh.2,h⟩
  ·rw[if_neg e2]at h⊢;exact .inr ⟨fun hh=>e2 (hh.1.trans e1),h⟩
 ·rw[if_neg e1]at h;have hl:({ s with up:=s.up.modify l (fun L=>L.put k γ r) }:St).up.length=s.up.length:=by simp
  rw[hl]at h;by_cases e2:l'=s.up.length
  ·rw[if_pos e2]at h⊢;exact .inr ⟨fun hh=>e1 (hh.1.symm.trans e2),h⟩
  ·rw[if_neg e2]at h⊢;rw[List.getElem?_modify]at h;cases hu:s.up[l']? with
   |none=>simp[hu]at h
   |some L=>
    rw[hu]at h
    simp only[Option.map_eq_map,Option.map_some]at h
    by_cases e3:l=l'
    ·simp only[e3,if_true,AA.get_put]at h;split at h
     ·rename_i e;exact .inl ⟨e3.symm,e,(Option.some.inj h).symm⟩
     ·rename_i e;exact .inr ⟨fun hh=>e hh.2,h⟩
    ·simp only[e3,if_false]at h;exact .inr ⟨fun hh=>e3 hh.1.symm,h⟩
theorem uB{us:List Nat}{γ:Nat}{r:AX}{l1 k1:Nat}{x:Nat×AX}(h:(xW k l d us s (some (γ,r))).get l1 k1=some x) :
  (l1=l∧k1=d∧x=(γ,WQ s.up.length k l d r))∨(¬(l1=l∧k1=d)∧¬(l1=s.up.length∧k1=k)∧(s.get l1 k1=some x∨∃r0,s.get l1 k1=some (x.1,r0)∧x.2=WQ s.up.length k l d r0)):=by
 rcases qD h with⟨h1,h2,h3⟩|⟨h1,h2⟩
 ·exact .inl ⟨h1,h2,h3⟩
 ·refine .inr ⟨h1,?_⟩;have hlen:(s.up.modify l (zR s.up.length k l d us)).length=s.up.length:=by simp
  unfold St.get at h2⊢;simp only[hlen]at h2;by_cases e:l1=s.up.length
  ·rw[if_pos e]at h2⊢;rw[uA]at h2;split at h2
   ·cases h2
   ·rename_i hk;refine⟨fun hh=>hk hh.2,.inr ?_⟩;obtain⟨y,hy,rfl⟩:=Option.map_eq_some_iff.1 h2;exact⟨y.2,hy,rfl⟩
  ·rw[if_neg e]at h2⊢;refine⟨fun hh=>e hh.1,?_⟩;rw[List.getElem?_modify]at h2;cases hu:s.up[l1]? with
   |none=>simp[hu]at h2
   |some L=>
    rw[hu]at h2
    simp only[Option.map_eq_map,Option.map_some]at h2⊢
    by_cases e3:l=l1
    ·simp only[e3,if_true]at h2;rw[←e3]at h2;exact gT us L k1 x h2
    ·simp only[e3,if_false]at h2;exact .inl h2
theorem AJD{s s':St}{l1 k1:Nat}(h:l1<pre.length):(s.emb σ pre).get l1 k1=(s'.emb σ pre).get l1 k1:=by unfold St.get;rw[DB,DB,if_neg (by omega),if_neg (by omega)];simp only[St.emb,List.getElem?_append_left h]
theorem uC{us:List Nat}{o:Option (Nat×AX)}:(xW k l d us s o).up.length=s.up.length:=by
 cases o with
 |none=>rfl
 |some x=>unfold xW;rw[St.put_len];simp
theorem ARB{us:List Nat}{γ:Nat}{r:AX}(hr:s.loc.get k=some (γ,r))(hI:CT G (s.emb σ pre) w):CT G ((xW k l d us s (some (γ,r))).emb σ pre) w:=by
 have look:∀{l1 k1 g r1},((xW k l d us s (some (γ,r))).emb σ pre).get l1 k1=some (g,r1)→∃l0 k0 r0,(s.emb σ pre).get l0 k0=some (g,r0)∧IJ G g w r1∧BK G g r1=BK G g r0 ∧
   ((l1=l+pre.length∧k1=d∧l0=s.up.length+pre.length∧k0=k)∨(¬(l1=l+pre.length∧k1=d)∧¬(l1=s.up.length+pre.length∧k1=k)∧l0=l1∧k0=k1)):=by
  intro l1 k1 g r1 h
  by_cases hp:l1<pre.length
  ·rw[AJD (s':=s) hp]at h;exact⟨l1,k1,r1,h,hI.res _ _ _ _ h,rfl,.inr ⟨fun hh=>by omega,fun hh=>by omega,rfl,rfl⟩⟩
  ·obtain⟨l2,rfl⟩:∃l2,l1=l2+pre.length:=⟨l1-pre.length,by omega⟩;rw[B9]at h;obtain⟨⟨γ',r'⟩,h1,h2⟩:=Option.map_eq_some_iff.1 h;cases h2;rcases uB h1 with⟨rfl,rfl,e⟩|⟨e1,e2,e3⟩
   ·cases e;have h0:(s.emb σ pre).get (s.up.length+pre.length) k=some (σ γ,r.ren σ pre.length):=by rw[B9,WY,hr];rfl
    exact⟨_,_,_,h0,tY (hI.res _ _ _ _ h0),tZ _ _ _,.inl ⟨rfl,rfl,rfl,rfl⟩⟩
   ·rcases e3 with e3|⟨r0,e3,rfl⟩
    ·have h0:(s.emb σ pre).get (l2+pre.length) k1=some (σ γ',r'.ren σ pre.length):=by rw[B9,e3];rfl
     exact⟨_,_,_,h0,hI.res _ _ _ _ h0,rfl,.inr ⟨fun hh=>e1 ⟨by omega,hh.2⟩,fun hh=>e2 ⟨by omega,hh.2⟩,rfl,rfl⟩⟩
    ·have h0:(s.emb σ pre).get (l2+pre.length) k1=some (σ γ',r0.ren σ pre.length):=by rw[B9,e3];rfl
     exact⟨_,_,_,h0,tY (hI.res _ _ _ _ h0),tZ _ _ _,.inr ⟨fun hh=>e1 ⟨by omega,hh.2⟩,fun hh=>e2 ⟨by omega,hh.2⟩,rfl,rfl⟩⟩
 refine⟨hI.sl,fun l k g r h=>(by obtain⟨_,_,_,_,h2,_⟩:=look h;exact h2),fun l1 k1 g1 r1 l2 k2 g2 r2 b h1 h2 h3 h4=>?_,fun l1 k1 g1 r1 b h1 h2=>?_,hI.fresh,hI.env⟩
 ·obtain⟨a1,a2,a3,a4,_,a6,a7⟩:=look h1;obtain⟨b1,b2,b3,b4,_,b6,b7⟩:=look h2;have hs:=hI.sep _ _ _ _ _ _ _ _ _ a4 b4 (a6▸h3) (b6▸h4);rcases a7 with⟨c1,c2,c3,c4⟩|⟨c1,c2,c3,c4⟩<;>rcases b7 with⟨d1,d2,d3,d4⟩|⟨d1,d2,d3,d4⟩
  ·exact⟨c1.trans d1.symm,c2.trans d2.symm⟩
  ·exact(d2 ⟨d3.symm.trans (hs.1.symm.trans c3),d4.symm.trans (hs.2.symm.trans c4)⟩).elim
  ·exact(c2 ⟨c3.symm.trans (hs.1.trans d3),c4.symm.trans (hs.2.trans d4)⟩).elim
  ·exact⟨c3.symm.trans (hs.1.trans d3),c4.symm.trans (hs.2.trans d4)⟩
 ·obtain⟨a1,a2,a3,a4,_,a6,_⟩:=look h1;exact hI.out _ _ _ _ _ a4 (a6▸h2)
theorem ADQ{N:Nat}{ρ:Option Nat}{c:Code}{K:Exit→Fr→St→Prop}{us:List Nat}{m:Nat}{st:XS}(h:BH P m N ρ c K ((gQ k l d us st).fr.ren σ pre.length) ((gQ k l d us st).s.emb σ pre)):BH P m N ρ c K (st.fr.ren σ pre.length) (st.s.emb σ pre):=by
 unfold gQ at h;cases ho:VG l st.s.up.length (st.s.loc.get k)with
 |false=>rw[ho]at h;exact h
 |true=>
  rw[ho]at h
  cases hr:st.s.loc.get k with
  |none=>rw[hr]at ho;cases ho
  |some x=>
   obtain⟨γ,r⟩:=x
   rw[hr]at ho h
   simp only[VG,Bool.and_eq_true,Nat.blt_eq]at ho
   intro G0 G a w hR
   refine h G0 G a w ⟨hR.le,ARB hr hR.inv,fun j c v hj=>?_,hR.size,?_,hR.marks⟩
   ·rw[Fr.get_ren]at hj;have hj':((xV st.s.up.length k l d st.fr).get j).map (fun p=>(p.1,p.2.ren σ pre.length))=some (c,v):=hj;rw[gS]at hj';cases hg:st.fr.get j with
    |none=>rw[hg]at hj';cases hj'
    |some y=>
     rw[hg]at hj'
     obtain⟨c0,v0⟩:=y
     cases hj'
     obtain⟨x,q1,q2,q3⟩:=hR.fr j c0 (v0.ren σ pre.length) (by rw[Fr.get_ren,hg];rfl)
     exact⟨x,q1,fun hc=>gR 3 _ _ (q2 hc),q3⟩
   ·have:=hR.lvl;rw[DB]at this⊢;show(xW k l d us st.s (some (γ,r))).up.length+_=_;rw[uC];exact this
theorem qE:∀(f:Nat) (v:V),v.ren σ δ=v.ren σ' δ→(KH n k l d f v).ren σ δ=(KH n k l d f v).ren σ' δ
 |0,v,h=>h
 |f+1,v,h=>by
  have ih:=qE f;have lst:∀cs:List V,cs.map (V.ren σ δ)=cs.map (V.ren σ' δ)→(cs.map (KH n k l d f)).map (V.ren σ δ)=(cs.map (KH n k l d f)).map (V.ren σ' δ):=by intro cs h;simp only[List.map_map];refine List.map_congr_left fun x hx=>?_;exact ih x (List.map_inj_left.1 h x hx)
  cases v with
  |vec l' k' g m=>
   simp only[KH]
   split
   ·simp only[HB,V.vec.injEq,true_and,and_true]at h⊢;exact h
   ·exact h
  |ptr l' k' g o=>
   simp only[KH]
   split
   ·simp only[HA,V.ptr.injEq,true_and,and_true]at h⊢;exact h
   ·exact h
  |mp l' k' g=>
   simp only[KH]
   split
   ·simp only[Q3,V.mp.injEq,true_and]at h⊢;exact h
   ·exact h
  |agg cs=>
   simp only[KH,G9,V.agg.injEq]at h⊢
   exact lst cs h
  |tup cs=>
   simp only[KH,KU,V.tup.injEq]at h⊢
   exact lst cs h
  |_=>exact h
theorem qF{r:AX}(h:r.ren σ δ=r.ren σ' δ):(WQ n k l d r).ren σ δ=(WQ n k l d r).ren σ' δ:=by
 have lst:∀cs:List V,cs.map (V.ren σ δ)=cs.map (V.ren σ' δ)→(cs.map (KH n k l d 3)).map (V.ren σ δ)=(cs.map (KH n k l d 3)).map (V.ren σ' δ):=by intro cs h;simp only[List.map_map];exact List.map_congr_left fun x hx=>qE 3 x (List.map_inj_left.1 h x hx)
 cases r with
 |box cs=>
  simp only[WQ,AX.ren,AX.box.injEq]at h⊢
  exact lst cs h
 |vec T es=>
  simp only[WQ,AX.ren,AX.vec.injEq,true_and,List.map_map]at h⊢
  refine List.map_congr_left fun e he=>?_
  exact lst e (List.map_inj_left.1 h e he)
 |_=>exact h
theorem ADR:∀(L:AA),L.ren σ δ=L.ren σ' δ→(mE n k l d L).ren σ δ=(mE n k l d L).ren σ' δ
 |[],_=>rfl
 |(j,g,r)::L,h=>by
  simp only[AA.ren,List.map_cons,List.cons.injEq,Prod.mk.injEq,true_and]at h;have ih:=ADR L h.2;simp only[mE];split
  ·exact ih
  ·simp only[AA.ren,List.map_cons,List.cons.injEq,Prod.mk.injEq,true_and];exact⟨⟨h.1.1,qF h.1.2⟩,ih⟩
theorem ADS{L:AA}(h:L.ren σ δ=L.ren σ' δ){k γ:Nat}{r:AX}(hg:L.get k=some (γ,r)):σ γ=σ' γ∧r.ren σ δ=r.ren σ' δ:=by
 have e1:(L.ren σ δ).get k=some (σ γ,r.ren σ δ):=by rw[AA.get_ren,hg];rfl
 have e2:(L.ren σ' δ).get k=some (σ' γ,r.ren σ' δ):=by rw[AA.get_ren,hg];rfl
 rw[h,e2]at e1;simp only[Option.some.injEq,Prod.mk.injEq]at e1;exact⟨e1.1.symm,e1.2.symm⟩
theorem aF(u:Nat):∀(L:AA),AA.ren σ δ (J7 u L)=J7 u (AA.ren σ δ L)
 |[]=>rfl
 |(q,g,r)::L=>by
  have ih:=aF u L;show AA.ren σ δ (J7 u ((q,g,r)::L))=J7 u ((q,σ g,r.ren σ δ)::AA.ren σ δ L);unfold J7;by_cases h:q=u
  ·rw[if_pos h,if_pos h,ih]
  ·rw[if_neg h,if_neg h,←ih];rfl
theorem qJ:∀(us:List Nat) (L:AA),L.ren σ δ=L.ren σ' δ→(zR n k l d us L).ren σ δ=(zR n k l d us L).ren σ' δ
 |[],_,h=>h
 |u::us,L,h=>by
  unfold zR;split
  ·rename_i g r e;obtain⟨h1,h2⟩:=ADS h e;have ih:=qJ us (J7 u L) (by rw[aF,aF,h]);simp only[AA.ren,List.map_cons,List.cons.injEq,Prod.mk.injEq,true_and];exact⟨⟨h1,qF h2⟩,ih⟩
  ·exact qJ us L h
theorem ARC{us:List Nat}{γ:Nat}{r:AX}(hr:s.loc.get k=some (γ,r))(h:s.emb σ pre=s.emb σ' pre):(xW k l d us s (some (γ,r))).emb σ pre=(xW k l d us s (some (γ,r))).emb σ' pre:=by
 have h0:=h;simp only[St.emb,St.mk.injEq,List.append_cancel_left_eq]at h;obtain⟨h1,h2⟩:=ADS h.2 hr;unfold xW;rw[CR,CR,h1,qF h2];congr 1;simp only[St.emb,St.mk.injEq,List.append_cancel_left_eq];refine⟨?_,ADR _ h.2⟩;apply List.ext_getElem?;intro i;have hi:=congrArg (·[i]?) h.1;simp only[List.getElem?_map,List.getElem?_modify]at hi⊢;cases hu:s.up[i]? with
 |none=>rfl
 |some L=>
  rw[hu]at hi
  simp only[Option.map_some,Option.some.injEq,Option.map_eq_map]at hi⊢
  split
  ·exact qJ us L hi
  ·exact hi
theorem AJE{us:List Nat}{st:XS}(h:Bd st):KG st (gQ k l d us st):=by
 unfold gQ;cases ho:VG l st.s.up.length (st.s.loc.get k)with
 |false=>exact⟨Nat.le_refl _,h,rfl⟩
 |true=>
  cases hr:st.s.loc.get k with
  |none=>rw[hr]at ho;cases ho
  |some x=>
   obtain⟨γ,r⟩:=x
   rw[hr]at ho
   simp only[VG,Bool.and_eq_true,Nat.blt_eq]at ho
   refine⟨Nat.le_refl _,⟨fun σ σ' δ ha=>?_,fun σ σ' pre ha=>ARC hr (h.s σ σ' pre ha),fun l1 k1 γ' fr ps asg body N ls hg=>?_⟩,uC⟩
   ·have q:=h.f σ σ' δ ha;simp only[xV,Fr.ren,List.map_map]at q⊢;refine List.map_congr_left fun x hx=>?_;have:=List.map_inj_left.1 q x hx;simp only[Prod.mk.injEq,true_and]at this;simp only[Function.comp,Prod.mk.injEq,true_and];exact qE 3 _ this
   ·have nl:∀r0:AX,(AX.loop fr ps asg body N ls)=WQ st.s.up.length k l d r0→r0=.loop fr ps asg body N ls:=by intro r0 e;cases r0<;>first|exact e.symm|cases e
    rcases uB hg with⟨_,_,e⟩|⟨_,_,e⟩
    ·have e2:AX.loop fr ps asg body N ls=WQ st.s.up.length k l d r:=congrArg Prod.snd e;have:=nl r e2;subst this;exact absurd ho.2 (by simp[dI])
    ·rcases e with e|⟨r0,e,e2⟩
     ·exact h.lp l1 k1 γ' fr ps asg body N ls e
     ·have:=nl r0 e2;subst this;exact h.lp l1 k1 γ' fr ps asg body N ls e
def qK(n:Nat)(o:Option (Nat×AX)):List Nat:=match o with
 |some (_,.vec _ es)=>es.filterMap fun e=>match e with
  |[.vec l k _ _]=>if l=n then some k else none
  |_=>none
 |_=>[]
noncomputable def ADT(k:Nat)(st:XS):XS:=OU (qK st.s.up.length (st.s.loc.get k)) st
noncomputable def OW(p:Nat)(st:XS):Nat:=match p with
 |0=>st.s.up.length-1
 |p+1=>match BQ st.fr p with
  |some (true,.ptr l _ _ _)=>l
  |_=>0
noncomputable def qM(B i:Nat)(st:XS):Nat:=match i with
 |0=>B
 |i+1=>match BQ st.fr i with
  |some (true,.int _ n)=>B+n.toNat
  |_=>B
noncomputable def mvX(k B i p u:Nat)(st:XS):XS:=gQ k (OW p st) (qM B i st) (match u with|0=>[]|u+1=>[u]) st
def dY:V→V
 |.nil=>.list false []
 |v=>v
def zS:AX→AX
 |.vec T es=>.vec T (es.map (List.map dY))
 |.box cs=>.box (cs.map dY)
 |r=>r
def cE(k:Nat):AA→AA
 |[]=>[]
 |(j,g,r)::L=>(j,g,if j=k then zS r else r)::cE k L
def wk1(k:Nat)(st:XS):XS:=⟨st.c,st.fr,⟨st.s.up,cE k st.s.loc⟩⟩
theorem AJF(v:V):(dY v).ren σ δ=dY (v.ren σ δ):=by cases v<;>simp[dY]
theorem mH(cs:List V):(cs.map dY).map (V.ren σ δ)=(cs.map (V.ren σ δ)).map dY:=by rw[List.map_map,List.map_map];exact List.map_congr_left fun v _=>AJF v
theorem AJG(r:AX):(zS r).ren σ δ=zS (r.ren σ δ):=by
 cases r with
 |box cs=>simp only[zS,AX.ren,mH]
 |vec T es=>
  simp only[zS,AX.ren,List.map_map,AX.vec.injEq,true_and]
  exact List.map_congr_left fun e _=>mH e
 |_=>rfl
theorem uD(k:Nat):∀L:AA,(cE k L).ren σ δ=cE k (L.ren σ δ)
 |[]=>rfl
 |(j,g,r)::L=>by
  have ih:=uD k L;simp only[AA.ren]at ih;simp only[cE,AA.ren,List.map_cons,ih,List.cons.injEq,Prod.mk.injEq,true_and,and_true];split
  ·exact AJG r
  ·rfl
theorem uE(k:Nat):∀(L:AA) (j:Nat),(cE k L).get j=if j=k then(L.get j).map (fun x=>(x.1,zS x.2)) else L.get j
 |[],j=>by simp[cE]
 |(i,g,r)::L,j=>by
  have ih:=uE k L j;simp only[cE,AA.get];by_cases hj:j=i
  ·subst hj;rw[if_pos rfl,if_pos rfl];by_cases h:j=k
   ·rw[if_pos h,if_pos h];rfl
   ·rw[if_neg h,if_neg h]
  ·rw[if_neg hj,if_neg hj,ih]
theorem ADU{v:V}(h:v.isCell=true):(dY v).isCell=true:=by cases v<;>first|exact h|rfl
theorem AJH{G:Gh}{x:V}{v:Value}(h:RepV G x v):RepV G (dY x) v:=by
 cases x with
 |nil=>exact h.empty
 |_=>exact h
theorem mI{G:Gh}{cs:List V}{vs:List Value}(h:RepL G cs vs):RepL G (cs.map dY) vs :=
 ⟨by simpa using h.1,fun i p q=>by
  have r:=h.2 i (by simpa using p) q;simp only[List.getElem_map];exact⟨ADU r.1,AJH r.2⟩⟩
theorem AJI{G:Gh}{w:World}{g:Nat}{r:AX}(h:IJ G g w r):IJ G g w (zS r):=by
 cases r with
 |box cs=>
  obtain⟨b,arr,T,h1,h2,h3⟩:=h
  exact⟨b,arr,T,by simpa using h1,h2,mI h3⟩
 |vec T es=>
  obtain⟨b,sz,C,h1,h2,h3,h4,h5⟩:=h
  refine⟨b,sz,C,h1,by simpa using h2,fun e he=>?_,⟨h4.1,fun h=>h4.2 (by simpa using h)⟩,fun hC=>?_⟩
  ·obtain⟨e2,he2,rfl⟩:=List.mem_map.1 he;simpa using h3 e2 he2
  ·obtain⟨arr,h6,h7,h8⟩:=h5 hC;refine⟨arr,h6,h7,?_⟩;have q:=mI h8;rw[List.map_flatten]at q;simpa using q
 |_=>exact h
theorem ADV(G:Gh)(g:Nat)(r:AX):BK G g (zS r)=BK G g r:=by cases r<;>rfl
theorem ADW{s:St}{k l j:Nat}{x:Nat×AX}(h:St.get ⟨s.up,cE k s.loc⟩ l j=some x):∃r,s.get l j=some (x.1,r)∧(x.2=r∨x.2=zS r):=by
 unfold St.get at h⊢;split at h
 ·rename_i e;rw[if_pos e];have h:(cE k s.loc).get j=some x:=h;rw[uE]at h;split at h
  ·cases hg:s.loc.get j with
   |none=>rw[hg]at h;cases h
   |some y=>rw[hg]at h;cases h;exact⟨_,rfl,.inr rfl⟩
  ·exact⟨_,h,.inl rfl⟩
 ·rename_i e;rw[if_neg e];exact⟨_,h,.inl rfl⟩
theorem ARD{G:Gh}{s:St}{w:World}{k:Nat}(hI:CT G s w):CT G ⟨s.up,cE k s.loc⟩ w:=by
 have look:∀{l j g r},St.get ⟨s.up,cE k s.loc⟩ l j=some (g,r)→∃r0,s.get l j=some (g,r0)∧IJ G g w r∧BK G g r=BK G g r0:=by
  intro l j g r h;obtain⟨r0,h1,h2⟩:=ADW h;refine⟨r0,h1,?_⟩;have h3:=hI.res _ _ _ _ h1;rcases h2 with h2|h2
  ·simp only at h2;subst h2;exact⟨h3,rfl⟩
  ·simp only at h2;subst h2;exact⟨AJI h3,ADV _ _ _⟩
 refine⟨hI.sl,fun l k g r h=>(by obtain⟨r0,_,h2,_⟩:=look h;exact h2),fun l k g r l' k' g' r' b h1 h2 h3 h4=>?_,fun l k g r b h1 h2=>?_,hI.fresh,hI.env⟩
 ·rcases look h1 with⟨r1,e1,_,o1⟩;rcases look h2 with⟨r2,e2,_,o2⟩;exact hI.sep _ _ _ _ _ _ _ _ _ e1 e2 (o1▸h3) (o2▸h4)
 ·rcases look h1 with⟨r1,e1,_,o1⟩;exact hI.out _ _ _ _ _ e1 (o1▸h2)
theorem gU{k:Nat}{st:XS}:(wk1 k st).s.emb σ pre=⟨(st.s.emb σ pre).up,cE k (st.s.emb σ pre).loc⟩:=by simp only[wk1,St.emb,uD]
theorem ADX{m N:Nat}{ρ:Option Nat}{c:Code}{K:Exit→Fr→St→Prop}{k:Nat}{st:XS}(h:BH P m N ρ c K ((wk1 k st).fr.ren σ pre.length) ((wk1 k st).s.emb σ pre)):BH P m N ρ c K (st.fr.ren σ pre.length) (st.s.emb σ pre):=by intro G0 G a w hR;rw[gU]at h;exact h G0 G a w ⟨hR.le,ARD hR.inv,hR.fr,hR.size,hR.lvl,hR.marks⟩
theorem AJJ{k:Nat}{st:XS}(h:Bd st):KG st (wk1 k st):=by
 refine⟨Nat.le_refl _,⟨h.f,fun σ σ' pre ha=>by rw[gU,gU,h.s σ σ' pre ha],fun l j γ fr ps asg body N ls hg=>?_⟩,rfl⟩;obtain⟨r,h1,h2⟩:=ADW (s:=st.s) hg;have e:r=.loop fr ps asg body N ls:=by
  rcases h2 with h2|h2
  ·exact h2.symm
  ·cases r<;>first|exact h2.symm|cases h2
 subst e;exact h.lp l j γ fr ps asg body N ls h1
noncomputable def uF(k:Nat)(st:XS):XS:=Bool.rec (Bool.rec (Bool.rec (wk1 (k % 1000) st) (ADT (k % 1000) st) (Nat.blt k 2000000000000000))
 (mvX ((k-1000) % 1000) ((k-1000) / 1000 % 1000) ((k-1000) / 1000000 % 1000) ((k-1000) / 1000000000 % 1000) ((k-1000) / 1000000000000) st) (Nat.blt k 1000000000000000)) (HT k st) (Nat.blt k 1000)
noncomputable def LY(ks:List Nat)(st:XS):XS:=List.rec (motive:=fun _=>XS→XS) (fun st=>st) (fun k _ ih st=>ih (uF k st)) ks st
theorem A32{us:List Nat}{st:XS}:(gQ k l d us st).c=st.c:=by unfold gQ;cases VG l st.s.up.length (st.s.loc.get k)<;>rfl
theorem A33{k:Nat}{st:XS}:(uF k st).c=st.c:=by
 unfold uF;cases Nat.blt k 1000 with
 |true=>rfl
 |false=>cases Nat.blt k 1000000000000000 with
  |true=>exact A32
  |false=>cases Nat.blt k 2000000000000000 with
   |true=>exact tX _ _
   |false=>rfl
theorem AJK{k:Nat}{st:XS}(h:Bd st):KG st (uF k st):=by
 unfold uF;cases Nat.blt k 1000 with
 |true=>exact dW h
 |false=>cases Nat.blt k 1000000000000000 with
  |true=>exact AJE h
  |false=>cases Nat.blt k 2000000000000000 with
   |true=>exact dX _ h
   |false=>exact AJJ h
theorem ADY{m N:Nat}{ρ:Option Nat}{c:Code}{K:Exit→Fr→St→Prop}{k:Nat}{st:XS}(h:BH P m N ρ c K ((uF k st).fr.ren σ pre.length) ((uF k st).s.emb σ pre)):BH P m N ρ c K (st.fr.ren σ pre.length) (st.s.emb σ pre):=by
 unfold uF at h;cases h1:Nat.blt k 1000 with
 |true=>rw[h1]at h;exact aB h
 |false=>
  rw[h1]at h
  cases h2:Nat.blt k 1000000000000000 with
  |true=>rw[h2]at h;exact ADQ h
  |false=>
   rw[h2]at h
   cases h3:Nat.blt k 2000000000000000 with
   |true=>rw[h3]at h;exact aC _ h
   |false=>rw[h3]at h;exact ADX h
theorem AM0:∀(ks:List Nat) (st:XS),(LY ks st).c=st.c
 |[],_=>rfl
 |k::ks,st=>(AM0 ks (uF k st)).trans A33
theorem uG:∀(ks:List Nat) {st:XS},Bd st→KG st (LY ks st)
 |[],st,h=>⟨Nat.le_refl _,h,rfl⟩
 |k::ks,st,h=>by have h1:=AJK (k:=k) h;have h2:=uG ks h1.bd;exact⟨Nat.le_trans h1.c h2.c,h2.bd,h2.n.trans h1.n⟩
theorem mJ{m N:Nat}{ρ:Option Nat}{c:Code}{K:Exit→Fr→St→Prop}:∀(ks:List Nat) {st:XS},BH P m N ρ c K ((LY ks st).fr.ren σ pre.length) ((LY ks st).s.emb σ pre)→BH P m N ρ c K (st.fr.ren σ pre.length) (st.s.emb σ pre)
 |[],_,h=>h
 |k::ks,st,h=>ADY (k:=k) (mJ ks (st:=uF k st) h)
end Go.Pg
namespace Go.Pg
variable {P:Program}{n N:Nat}{ρ:Option Nat}{G0 G:Gh}{fr fr':Fr}{s s':St}{a:Act}{w:World}{l:List Oper}{gs:List (Option (Tmp×Bool))}{e:Nat}{σ σ':Nat→Nat}{δ:Nat}{pre:List AA}
def HV(P:Program)(l:List Oper)(gs:List (Option (Tmp×Bool)))(e i:Nat)(fr:Fr)(s:St)(k:Fr→St→Prop):Prop:=match l[i]? with
 |some o=>if i=e then ∃f args,QB fr (bH gs i)=some true∧IQ true o fr=some (f,args)∧FE P f args s fun r s'=>k (putD fr o.dst true r) s'
  else ∃v,QB fr (bH gs i)=some true∧(∀s,FH P true o fr s=some v)∧k (putD fr o.dst true v) s
 |none=>False
def gV(P:Program)(l:List Oper)(gs:List (Option (Tmp×Bool)))(e:Nat)(T:Array Bool→Fr→St→Prop):Nat→List Nat→Array Bool→Fr→St→Prop
 |0,_,listed,fr,s=>T listed fr s
 |m+1,R,listed,fr,s=>wZ l listed≠[]∧∀j∈wZ l listed,j∈R∧HV P l gs e j fr s (gV P l gs e T m (R.erase j) (listed.setIfInBounds j true))
def I9(fr fr':Fr):Prop:=∀k,fr.get k=fr'.get k
theorem I9.same(h:I9 fr fr'):FR fr ⟨[],[]⟩ fr' ⟨[],[]⟩:=⟨h,fun _ _=>rfl,rfl⟩
theorem I9.putD(h:I9 fr fr')(d:Option Tmp)(c:Bool)(v:V):I9 (Pg.putD fr d c v) (Pg.putD fr' d c v):=(h.same.putD d c v).f
variable {T:Array Bool→Fr→St→Prop}
theorem mK{i:Nat}{k k':Fr→St→Prop}(h:HV P l gs e i fr s k)(hf:I9 fr fr')(hk:∀f1 f2 s1,I9 f1 f2→k f1 s1→k' f2 s1):HV P l gs e i fr' s k':=by
 unfold HV at h⊢;split
 ·rename_i o ho;simp only[ho]at h;split
  ·rename_i hi;rw[if_pos hi]at h;obtain⟨f,args,h1,h2,h3⟩:=h;exact⟨f,args,(hf.same.gd _).symm.trans h1,(GI fun x _=>(hf.same.rd x).symm).trans h2,h3.mono fun r s1=>hk _ _ _ (hf.putD _ _ _)⟩
  ·rename_i hi;rw[if_neg hi]at h;obtain⟨v,h1,h2,h3⟩:=h;exact⟨v,(hf.same.gd _).symm.trans h1,fun s1=>(GC fun x _=>(hf.same.rd x).symm).trans (h2 s1),hk _ _ _ (hf.putD _ _ _) h3⟩
 ·rename_i ho;simp only[ho]at h
theorem I9.refl(fr:Fr):I9 fr fr:=fun _=>rfl
theorem M3{i:Nat}{k k':Fr→St→Prop}(h:HV P l gs e i fr s k)(hk:∀f1 s1,k f1 s1→k' f1 s1):HV P l gs e i fr s k':=by
 unfold HV at h⊢;split
 ·rename_i o ho;simp only[ho]at h;split
  ·rename_i hi;rw[if_pos hi]at h;obtain⟨f,args,h1,h2,h3⟩:=h;exact⟨f,args,h1,h2,h3.mono fun r s1=>hk _ _⟩
  ·rename_i hi;rw[if_neg hi]at h;obtain⟨v,h1,h2,h3⟩:=h;exact⟨v,h1,h2,hk _ _ h3⟩
 ·rename_i ho;simp only[ho]at h
theorem aG(hT:∀listed fr fr' s,I9 fr fr'→T listed fr s→T listed fr' s):∀(m:Nat) (R:List Nat) (listed:Array Bool) (fr fr':Fr) (s:St),I9 fr fr'→gV P l gs e T m R listed fr s→gV P l gs e T m R listed fr' s
 |0,_,_,_,_,_,hs,h=>hT _ _ _ _ hs h
 |m+1,_,_,_,_,_,hs,h=>⟨h.1,fun j hj=>⟨(h.2 j hj).1,mK (h.2 j hj).2 hs fun _ _ _ h12 h'=>aG hT m _ _ _ _ _ h12 h'⟩⟩
theorem qN{i j:Nat}{oi oj:Oper}{k k':Fr→St→Prop}(hi:l[i]? = some oi)(hj:l[j]? = some oj)(hie:i≠e)(hij:GJ oj (bH gs j) oi.dst)(hji:GJ oi (bH gs i) oj.dst)(hne:∀d,oi.dst=some d→oj.dst≠some d)
  (h:HV P l gs e i fr s fun f1 s1=>HV P l gs e j f1 s1 k) (hk:∀f1 f2 s1,I9 f1 f2→k f1 s1→k' f2 s1):HV P l gs e j fr s fun f2 s2=>HV P l gs e i f2 s2 k':=by
 have hcomm:∀(v v':V),I9 (putD (putD fr oi.dst true v) oj.dst true v') (putD (putD fr oj.dst true v') oi.dst true v):=by
  intro v v' t;simp only[F4];by_cases e1:oj.dst=some t
  ·have:oi.dst≠some t:=fun e2=>hne t e2 e1;simp[e1,this]
  ·simp[e1]
 unfold HV at h⊢
 simp only[hi,hj,if_neg hie]at h⊢
 obtain⟨v,g1,hv,h⟩:=h
 by_cases hje:j=e
 ·rw[if_pos hje]at h⊢;obtain⟨f,args,g2,hc,h⟩:=h;exact⟨f,args,(hij.gd true v).symm.trans g2,(GI (hij.rd true v)).symm.trans hc,h.mono fun r s1 hk'=>⟨v,(hji.gd true r).trans g1,fun s2=>(GC (hji.rd true r)).trans (hv s2),hk _ _ _ (hcomm v r) hk'⟩⟩
 ·rw[if_neg hje]at h⊢;obtain⟨u,g2,hu,h⟩:=h;exact⟨u,(hij.gd true v).symm.trans g2,fun s2=>(GC (hij.rd true v)).symm.trans (hu s2),v,(hji.gd true u).trans g1,fun s2=>(GC (hji.rd true u)).trans (hv s2),hk _ _ _ (hcomm v u) h⟩
structure uH(l:List Oper)(gs:List (Option (Tmp×Bool)))(e i:Nat)(oi:Oper)(B:List Nat)(R:List Nat)(listed:Array Bool):Prop where
 ready:i∈wZ l listed
 mem:i∈R
 wait:∀b∈B,∃o,l[b]? = some o∧∃x∈o.after,Region.binds .any x=true∧(x.on=i∨x.on∈B)
 un:∀b∈B,listed.getD b true=false
 free:∀j oj,l[j]? = some oj→j≠i→j∉B→listed.getD j true=false→i≠e∧j∈R∧GJ oj (bH gs j) oi.dst∧GJ oi (bH gs i) oj.dst∧(∀d,oi.dst=some d→oj.dst≠some d)
theorem uH.blocked{i:Nat}{oi:Oper}{B R:List Nat}{listed:Array Bool}(h:uH l gs e i oi B R listed){j:Nat}(hj:j∈wZ l listed):j∉B:=by
 intro hb;obtain⟨_,o,ho,hall⟩:=mem_ready.1 hj;obtain⟨o',ho',x,hx,hbi,hon⟩:=h.wait j hb;have:o=o':=by simpa [ho']using ho.symm
 subst this;have h1:=hall x hx hbi;rcases hon with hon|hon
 ·rw[hon,W0 (mem_ready.1 h.ready).1]at h1;cases h1
 ·rw[W0 (h.un _ hon)]at h1;cases h1
theorem qO(hT:∀listed fr fr' s,I9 fr fr'→T listed fr s→T listed fr' s){i:Nat}{oi:Oper}{B:List Nat}(hi:l[i]? = some oi):∀(m:Nat) (R:List Nat) (listed:Array Bool) (fr:Fr) (s:St),
  uH l gs e i oi B R listed→R.length=m+1→R.Nodup→HV P l gs e i fr s (gV P l gs e T m (R.erase i) (listed.setIfInBounds i true))→gV P l gs e T (m+1) R listed fr s:=by
 intro m
 induction m with
 |zero=>
  intro R listed fr s hF hlen _ h
  refine⟨fun e=>?_,fun j hj=>?_⟩
  ·have:=hF.ready;rw[e]at this;cases this
  ·by_cases hji:j=i
   ·subst hji;exact⟨hF.mem,h⟩
   ·obtain⟨hun,oj,hoj,_⟩:=mem_ready.1 hj;have hR:=(hF.free j oj (by simpa using hoj) hji (hF.blocked hj) hun).2.1;exfalso;obtain⟨x,rfl⟩:=List.length_eq_one_iff.1 hlen;have e1:=hF.mem;simp at e1 hR;exact hji (hR.trans e1.symm)
 |succ m ih=>
  intro R listed fr s hF hlen hnd h
  refine⟨fun e=>?_,fun j hj=>?_⟩
  ·have:=hF.ready;rw[e]at this;cases this
  ·by_cases hji:j=i
   ·subst hji;exact⟨hF.mem,h⟩
   ·obtain⟨hun,oj,hoj,_⟩:=mem_ready.1 hj;have hoj':l[j]? = some oj:=by simpa using hoj
    have hjB:=hF.blocked hj;obtain⟨hie,hjR,b1,b2,hne⟩:=hF.free j oj hoj' hji hjB hun;refine⟨hjR,?_⟩;have h1:HV P l gs e i fr s fun f1 s1=>HV P l gs e j f1 s1 (gV P l gs e T m ((R.erase i).erase j) ((listed.setIfInBounds i true).setIfInBounds j true)) :=
     M3 h fun f1 s1 h'=>(h'.2 j (ready_mono hj hji)).2
    have h2:=qN hi hoj' hie b1 b2 hne h1 fun f1 f2 s1 h12 h'=>aG hT _ _ _ _ _ _ h12 h';refine M3 h2 fun f1 s1 h'=>?_;have hlt:j<listed.size:=by
     rcases Nat.lt_or_ge j listed.size with h'|h'
     ·exact h'
     ·simp[Array.getElem?_eq_none h']at hun
    refine ih (R.erase j) (listed.setIfInBounds j true) f1 s1 ⟨ready_mono hF.ready (Ne.symm hji),(List.mem_erase_of_ne (Ne.symm hji)).2 hF.mem,hF.wait,fun b hb=>?_,fun k ok hk hki hkB hku=>?_⟩ ?_ (hnd.erase j) ?_
    ·rw[getD_set_ne true (fun e=>hjB (by rw[e];exact hb))];exact hF.un b hb
    ·have hkj:k≠j:=by intro e;subst e;simp[hlt]at hku
     rw[getD_set_ne true (Ne.symm hkj)]at hku;obtain⟨q0,q1,q2⟩:=hF.free k ok hk hki hkB hku;exact⟨q0,(List.mem_erase_of_ne hkj).2 q1,q2⟩
    ·rw[List.length_erase_of_mem hjR,hlen];rfl
    ·rw[List.erase_comm,Array.setIfInBounds_comm _ _ hji];exact h'
def OX(P:Program)(l:List Oper)(gs:List (Option (Tmp×Bool)))(e:Nat):List Nat→Fr→St→(Fr→St→Prop)→Prop
 |[],fr,s,K=>K fr s
 |i::r,fr,s,K=>HV P l gs e i fr s fun fr s=>OX P l gs e r fr s K
theorem aH:∀(R:List Nat) (fr:Fr) (s:St) (k k':Fr→St→Prop),(∀f1 s1,k f1 s1→k' f1 s1)→OX P l gs e R fr s k→OX P l gs e R fr s k'
 |[],_,_,_,_,hk,h=>hk _ _ h
 |_::r,_,_,k,k',hk,h=>M3 h fun _ _ h'=>aH r _ _ k k' hk h'
def PhY(l:List Oper)(gs:List (Option (Tmp×Bool)))(e:Nat):List Nat→Array Bool→Prop
 |[],_=>True
 |i::r,listed=>(∃oi B,l[i]? = some oi∧uH l gs e i oi B (i::r) listed)∧PhY l gs e r (listed.setIfInBounds i true)
theorem T1(hT:∀listed fr fr' s,I9 fr fr'→T listed fr s→T listed fr' s):∀(R:List Nat) (listed:Array Bool) (fr:Fr) (s:St),R.Nodup→PhY l gs e R listed →
  OX P l gs e R fr s (T (R.foldl (fun L i=>L.setIfInBounds i true) listed))→gV P l gs e T R.length R listed fr s
 |[],_,_,_,_,_,h=>h
 |i::r,listed,fr,s,hnd,hp,h=>by obtain⟨⟨oi,B,hi,hF⟩,hp⟩:=hp;refine qO hT hi r.length (i::r) listed fr s hF rfl hnd ?_;rw[List.erase_cons_head];exact M3 h fun f1 s1 h'=>T1 hT r _ _ _ (List.nodup_cons.1 hnd).2 hp h'
theorem qQ{o:Oper}{f:FuncId}{args:List V}{k:Fr→St→Prop}(hc:IQ true o fr=some (f,args))(h:FE P f args s fun r s'=>k (putD fr o.dst true r) s'):EG P true o fr s k:=by
 unfold IQ at hc;unfold EG;split at hc
 ·rename_i f' args' argTypes' ho;simp only[ho];split at hc
  ·rename_i fid first cap vs e1 e2;cases hc;simp only[e1,e2];exact .inl ⟨rfl,h⟩
  ·cases hc
 ·cases hc
theorem aI{K:Exit→Fr→St→Prop}(hN:LQ N l=true)(hg:JD l gs l=true){t:Nat}(hT:∀listed fr s G a w,T listed fr s→I0 n N G0 G fr s a w→wpAnyIn (wf ρ) 0 P .any l.toArray (K6 n N G0 K) t listed a w) :
  ∀(m:Nat) (R:List Nat) (listed:Array Bool) (G:Gh) (fr:Fr) (s:St) (a:Act) (w:World),I0 n N G0 G fr s a w→gV P l gs e T m R listed fr s→wpAnyIn (wf ρ) 0 P .any l.toArray (K6 n N G0 K) (m+t) listed a w
 |0,_,listed,G,fr,s,a,w,hR,h=>by rw[Nat.zero_add];exact hT _ _ _ _ _ _ h hR
 |m+1,R,listed,G,fr,s,a,w,hR,h=>by
  rw[Nat.add_right_comm];refine⟨fun h0=>absurd h0 h.1,fun j hj=>?_⟩;have h':=(h.2 j hj).2;unfold HV at h';split at h'
  ·rename_i o ho;have main:QB fr (bH gs j)=some true→TD P true o fr s (gV P l gs e T m (R.erase j) (listed.setIfInBounds j true))→wpOpIn (wf ρ) 0 P l.toArray (K6 n N G0 K) j (wpAnyIn (wf ρ) 0 P .any l.toArray (K6 n N G0 K) (m+t) (listed.setIfInBounds j true)) a w:=fun hgd hst=>
    G8 hR hN hg ho hgd hst fun G' a' w' fr' s' hR' hk=>aI hN hg hT m _ _ G' fr' s' a' w' hR' hk
   split at h'
   ·obtain⟨f,args,h1,h2,h3⟩:=h';exact main h1 (.inl (qQ h2 h3))
   ·obtain⟨v,h1,h2,h3⟩:=h';exact main h1 (.inl (DP (Ω:=G6.nothing P) (.inl ⟨v,h2 s,h3⟩)))
  ·cases h'
def uI(l:List Oper)(i j:Nat):Bool:=Nat.beq (Nat.land (dsM l i) (Nat.lor (lkM l j) (dsM l j))) 0&&Nat.beq (Nat.land (dsM l j) (lkM l i)) 0
theorem qU{i j:Nat}{oi oj:Oper}(hi:l[i]? = some oi)(hj:l[j]? = some oj)(h:uI l i j=true) :
  (∀d,oi.dst=some d→d∉oj.looksAt l.toArray)∧(∀d,oi.dst=some d→oj.dst≠some d)∧(∀d,oj.dst=some d→d∉oi.looksAt l.toArray):=by
 unfold uI dsM lkM at h
 simp only[hi,hj,Bool.and_eq_true]at h
 obtain⟨h1,h2⟩:=h
 refine⟨fun d hd hm=>?_,fun d hd he=>?_,fun d hd hm=>?_⟩
 ·rw[hd]at h1;refine FS h1 (j:=d) (by rw[CM];simp) ?_;rw[testBit_or,DL.2 hm];rfl
 ·rw[hd,he]at h1;refine FS h1 (j:=d) (by rw[CM];simp) ?_;rw[testBit_or,CM];simp
 ·rw[hd]at h2;exact FS h2 (j:=d) (by rw[CM];simp) (DL.2 hm)
def AJL(l:List Oper)(tl:List Nat)(e:Nat):List Nat→Nat→Bool
 |[],_=>true
 |i::r,done=>G7 (KT i (zQ l 0) 0) fun B=>
  Nat.blt i l.length&&!(U0 done i)&&OK l i done&&Nat.beq (Nat.land B done) 0&&tl.all (U0 B)&&r.all (fun j=>U0 B j||(!(Nat.beq i e)&&uI l i j))&&G7 (Nat.lor done (Nat.shiftLeft 1 i)) (AJL l tl e r)
theorem dZ{tl:List Nat}(hg:JD l gs l=true):∀{R:List Nat} {done:Nat} {listed:Array Bool},KF l (R++tl) done listed→AJL l tl e R done=true→PhY l gs e R listed
 |[],_,_,_,_=>trivial
 |i::r,done,listed,hL,h=>by
  unfold AJL at h;rw[E4,E4]at h;simp only[Bool.and_eq_true,Bool.not_eq_true',List.all_eq_true,Bool.or_eq_true]at h;obtain⟨⟨⟨⟨⟨⟨h1,h2⟩,h3⟩,h4⟩,h5⟩,h6⟩,h7⟩:=h;have hi:i<l.length:=by simpa [Nat.blt_eq]using h1
  have hw:=MP (l:=l) (i:=i) (js:=zQ l 0) (B:=0) (fun p hp=>by
   obtain⟨k,o,e1,e2,e3⟩:=fW (j:=p.1) (m:=p.2) hp;exact⟨o,by rw[e1,Nat.zero_add]; exact e2,e3⟩) (fun b hb=>by simp at hb)
  generalize KT i (zQ l 0) 0=B at *;have hb:∀b,b∈(List.range l.length).filter (fun b=>B.testBit b)↔B.testBit b=true:=fun b=>by rw[List.mem_filter,List.mem_range];refine⟨fun h=>h.2,fun h=>⟨?_,h⟩⟩;obtain⟨o,ho,_⟩:=hw b h;exact(List.getElem?_eq_some_iff.1 ho).1
  refine⟨⟨l[i],(List.range l.length).filter (fun b=>B.testBit b),List.getElem?_eq_getElem hi,⟨hL.ready hi h2 h3,by simp,fun b hbm=>?_,fun b hbm=>?_,fun j oj hj hji hjB hun=>?_⟩⟩,dZ hg (hL.next hi) h7⟩
  ·obtain⟨o,ho,x,he,hbi,hon⟩:=hw b ((hb b).1 hbm);exact⟨o,ho,x,he,hbi,hon.imp id fun h=>(hb _).2 h⟩
  ·have hbt:=(hb b).1 hbm;refine hL.un.2 ⟨?_,?_⟩
   ·obtain⟨o,ho,_⟩:=hw b hbt;exact(List.getElem?_eq_some_iff.1 ho).1
   ·cases hd:done.testBit b with
    |false=>rfl
    |true=>exact(FS h4 hbt hd).elim
  ·obtain⟨hlt,hdn⟩:=hL.un.1 hun;have hnb:B.testBit j=false:=by
    cases hd:B.testBit j with
    |false=>rfl
    |true=>exact absurd ((hb j).2 hd) hjB
   rcases List.mem_append.1 (hL.cov j hlt hdn)with hm|hm
   ·rcases List.mem_cons.1 hm with rfl|hr
    ·exact absurd rfl hji
    ·have hp:i≠e∧uI l i j=true:=by
      rcases h6 j hr with h6|h6
      ·rw[TO,hnb]at h6;cases h6
      ·refine⟨fun he=>?_,h6.2⟩;have:=h6.1;rw[he,Nat.beq_refl]at this;cases this
     obtain⟨a1,a2,a3⟩:=qU (List.getElem?_eq_getElem hi) hj hp.2;exact⟨hp.1,hm,TM (_x:=l[i]) a1 (MN hg hj),TM (_x:=oj) a3 (MN hg (List.getElem?_eq_getElem hi)),a2⟩
   ·have:=h5 j hm;rw[TO,hnb]at this;cases this
abbrev cF:=List (List Nat×Nat)
def OY(S:cF):List Nat:=S.flatMap fun p=>p.1
def uJ(l:List Oper):cF→Nat→Bool
 |[],_=>true
 |(R,e)::S,done=>R.all (Nat.blt · l.length)&&ZM R&&AJL l (OY S) e R done&&G7 (ACT done R) (uJ l S)
def W4(N:Nat)(gs:List (Option (Tmp×Bool)))(S:cF)(l:List Oper):Bool :=
 LQ N l&&JD l gs l&&uJ l S 0&&Nat.beq (OY S).length l.length&&Nat.beq (M9 (OY S)) (2 ^ l.length-1)
def gW(P:Program)(l:List Oper)(gs:List (Option (Tmp×Bool))):cF→Fr→St→(Fr→St→Prop)→Prop
 |[],fr,s,K=>K fr s
 |(R,e)::S,fr,s,K=>OX P l gs e R fr s fun fr s=>gW P l gs S fr s K
theorem I0.sameF(h:I0 n N G0 G fr s a w)(hs:I9 fr fr'):I0 n N G0 G fr' s a w:=h.same ⟨hs,fun _ _=>rfl,rfl⟩
theorem T3{K:Exit→Fr→St→Prop}(hN:LQ N l=true)(hg:JD l gs l=true):∀(S:cF) (done:Nat) (listed:Array Bool),KF l (OY S) done listed→uJ l S done=true →
  ∀(G:Gh) (fr:Fr) (s:St) (a:Act) (w:World),I0 n N G0 G fr s a w→gW P l gs S fr s (K .normal)→wpAnyIn (wf ρ) 0 P .any l.toArray (K6 n N G0 K) (OY S).length listed a w
 |[],done,listed,hL,_,G,fr,s,a,w,hR,h=>by refine⟨List.eq_nil_iff_forall_not_mem.2 fun j hj=>?_,G,fr,s,hR,h⟩;obtain⟨h1,o,ho,_⟩:=mem_ready.1 hj;obtain⟨hlt,hdn⟩:=hL.un.1 h1;exact absurd (hL.cov j hlt hdn) (by simp[OY])
 |(R,e)::S,done,listed,hL,hM,G,fr,s,a,w,hR,h=>by
  unfold uJ at hM;rw[E4]at hM;simp only[Bool.and_eq_true]at hM;obtain⟨⟨⟨h1,h2⟩,h3⟩,h4⟩:=hM;have hfl:OY ((R,e)::S)=R++OY S:=by simp[OY]
  rw[hfl]at hL;have hL1:=hL.fold (fun i hi=>by simpa [Nat.blt_eq]using List.all_eq_true.1 h1 i hi);have hP:=dZ hg hL h3;let T:Array Bool→Fr→St→Prop:=fun listed fr s=>∀G a w,I0 n N G0 G fr s a w→wpAnyIn (wf ρ) 0 P .any l.toArray (K6 n N G0 K) (OY S).length listed a w;have hw':OX P l gs e R fr s (T (R.foldl (fun L i=>L.setIfInBounds i true) listed)) :=
   aH R fr s _ _ (fun f1 s1 h' G a w hR=>T3 hN hg S _ _ hL1 h4 G f1 s1 a w hR h') h
  have hA:=T1 (T:=T) (fun listed f1 f2 s hs hT G a w hR=>hT G a w (hR.sameF fun k=>(hs k).symm)) R _ fr s (OL h2) hP hw';have hB:=aI (ρ:=ρ) (K:=K) hN hg (T:=T) (t:=(OY S).length) (fun listed f1 s1 G a w hT hR=>hT G a w hR) R.length R _ G fr s a _ hR hA;rw[hfl];simpa using hB
theorem qV{id:Nat}{K:Exit→Fr→St→Prop}(hm:P.follows .mixedOrders=true)(gs:List (Option (Tmp×Bool)))(S:cF)(hB:W4 N gs S l=true)
  (h:gW P l gs S fr s (K .normal)):BH P n N ρ (.region id l.toArray true) K fr s:=by
 simp only[W4,Bool.and_eq_true]at hB
 obtain⟨⟨⟨⟨h1,h2⟩,h4⟩,h5⟩,h6⟩:=hB
 intro G0 G a w hR
 refine wpIn_region_any hm ?_
 have hR':I0 n N G0 G fr s a { w with drawn:=w.drawn+1 }:=⟨hR.le,hR.inv.drawn _,hR.fr,hR.size,hR.lvl,hR.marks⟩
 have:=T3 (ρ:=ρ) (K:=K) h1 h2 S 0 _ (KF.start (l:=l) h6) h4 G fr s a _ hR' h
 rw[Nat.eq_of_beq_eq_true h5]at this
 simpa using this
def uK(l:List Oper):List Nat→List Nat→cF
 |[],left=>[(left,l.length)]
 |e::es,left=>(left.filter (fun i=>!(Nat.beq i e)&&!(es.any (Nat.beq i))&&!((e::es).any fun x=>U0 (KT x (zQ l 0) 0) i))++[e],e)::uK l es (left.filter fun i=>!(Nat.beq i e)&&(es.any (Nat.beq i)||(e::es).any fun x=>U0 (KT x (zQ l 0) 0) i))
def eA(l:List Oper):cF:=uK l ((List.range l.length).filter fun i=>match l[i]? with
 |some o=>kC o
 | none=>false) (List.range l.length)
noncomputable def cY1(E:XE)(d:Option Tmp)(st:XS):Option V→Option (List V)→Option XS
 |some (.fn f first cap),some vs=>match E.cf f ((first++vs++cap).map weakV) st with
  |some (r,st')=>some ⟨st'.c,putD st'.fr d true r,st'.s⟩
  |none=>none
 |_,_=>none
noncomputable def ARE(E:XE)(o:Oper)(st:XS):Option XS:=match o.op with
 |.call c=>match c.callee with
  |.value f=>cY1 E o.dst st (CO st.fr f) (FK (CO st.fr) c.args.toList)
  |_=>none
 |_=>none
noncomputable def ADZ(st:XS):Option XS→Option XS
 |some st1=>some ⟨st.c,st1.fr,st.s⟩
 |none=>none
noncomputable def ARF(P:Program)(o:Oper)(st:XS):Option XS:=ADZ st (cC P o ⟨st.c,st.fr,⟨[],[]⟩⟩)
noncomputable def opY(P:Program)(E:XE)(l:List Oper)(b:Bool)(o:Oper)(st:XS):Option XS:=match gdX st.fr (KX l o)with
 |some true=>Bool.rec (ARF P o st) (ARE E o st) b
 |_=>none
noncomputable def phY(P:Program)(E:XE)(l:List Oper)(e:Nat):List Nat→XS→Option XS
 |[],st=>some st
 |i::r,st=>match l[i]? with
  |some o=>match opY P E l (Nat.beq i e) o st with
   |some st'=>phY P E l e r st'
   |none=>none
  |none=>none
noncomputable def AJM(P:Program)(E:XE)(l:List Oper):cF→XS→Option XS
 |[],st=>some st
 |p::S,st=>match phY P E l p.2 p.1 st with
  |some st1=>AJM P E l S st1
  |none=>none
noncomputable def uL(P:Program)(E:XE)(N:Nat)(l:List Oper)(st:XS):Option XS:=Bool.rec none (AJM P E l (eA l) st) (W4 N (l.map (KX l)) (eA l) l)
theorem xX(n l k:Nat):(⟨List.replicate n [],[]⟩:St).get l k=none:=by
 unfold St.get;split
 ·rfl
 ·split
  ·rename_i L hL;simp only[List.getElem?_replicate]at hL;split at hL
   ·cases hL;rfl
   ·cases hL
  ·rfl
theorem ARG{E:XE}(hEE:J4 P E){b:Bool}{o:Oper}{st st':XS}(h:Bd st)(hx:opY P E l b o st=some st'):KG st st'∧(∀σ δ,QB (st.fr.ren σ δ) (KX l o)=some true) ∧
  (b=true→∀(σ:Nat→Nat) (pre:List AA) (K:Fr→St→Prop),(∀σ',AU st.c σ σ'→K (st'.fr.ren σ' pre.length) (st'.s.emb σ' pre))→∃f args,IQ true o (st.fr.ren σ pre.length)=some (f,args)∧FE P f args (st.s.emb σ pre) fun r s'=>K (putD (st.fr.ren σ pre.length) o.dst true r) s') ∧
  (b=false→∀(σ:Nat→Nat) (pre:List AA) (K:Fr→St→Prop),(∀σ',AU st.c σ σ'→K (st'.fr.ren σ' pre.length) (st'.s.emb σ' pre))→∃v,(∀s,FH P true o (st.fr.ren σ pre.length) s=some v)∧K (putD (st.fr.ren σ pre.length) o.dst true v) (st.s.emb σ pre)):=by
 unfold opY at hx
 split at hx
 ·rename_i hg;rw[pU]at hg;have hgd:∀σ δ,QB (st.fr.ren σ δ) (KX l o)=some true:=fun σ δ=>MY hg;cases b with
  |true=>
   have hx:ARE E o st=some st':=hx
   unfold ARE at hx
   split at hx
   ·rename_i c ho;split at hx
    ·rename_i f hc;unfold cY1 at hx;split at hx
     ·rename_i fid first cap vs hf hvs;split at hx
      ·rename_i r GR hcall;cases hx;have hbf:=AC3 (h.rd hf);obtain⟨hE,hbr,hfr,hA⟩:=hEE.cf _ _ _ _ _ hcall h (fun v hv=>by
        obtain⟨u,hu,rfl⟩:=List.mem_map.1 hv;refine gE ?_;rcases List.mem_append.1 hu with hu|hu
        ·rcases List.mem_append.1 hu with hu|hu
         ·exact hbf.1 u hu
         ·exact W2 h hvs u hu
        ·exact hbf.2 u hu)
       refine⟨⟨hE.c,hE.bd.putF hbr,hE.n⟩,hgd,fun _ σ pre K hk=>?_,fun h=>(by cases h)⟩;refine⟨fid,(((first++vs++cap).map weakV).map (V.ren σ pre.length)),?_,?_⟩
       ·rw[DZ]at hf;rw[KZ,FA]at hvs;unfold IQ;obtain⟨cal,args,Ts⟩:=c;have hc:cal=.value f:=hc;subst hc;have hvs':args.toList.mapM (DV true (st.fr.ren σ pre.length))=some (vs.map (V.ren σ pre.length)):=by rw[JE];exact IU hvs
        simp only[ho,DM,hf,hvs',Option.map_some,OO];rw[HF];simp only[List.map_append]
       ·refine hA σ pre _ fun σ' ha=>?_;have:=hk σ' ha;rw[FI,hfr,←h.f σ σ' pre.length ha]at this;exact this
      ·cases hx
     ·cases hx
    ·cases hx
   ·cases hx
  |false=>
   have hx:ARF P o st=some st':=hx
   unfold ARF ADZ at hx
   split at hx
   ·rename_i st1 h1;cases hx;unfold cC at h1;split at h1
    ·rename_i v hv;cases h1;have hv:=PU hv;have hb0:Bd (⟨st.c,st.fr,⟨[],[]⟩⟩:XS):=⟨h.f,fun σ σ' pre _=>rfl,fun l k γ fr ps asg body N ls hg=>by simp[St.get]at hg⟩;have hbv:UG st.c v:=hb0.val hv;refine⟨⟨Nat.le_refl _,h.putF hbv,rfl⟩,hgd,fun h=>(by cases h),fun _ σ pre K hk=>⟨v.ren σ pre.length,fun s=>?_,?_⟩⟩
     ·have q:=IV (σ:=σ) (pre:=List.replicate pre.length []) hv;simp only[List.length_replicate]at q;refine kX (fun l k x hx=>?_) q;have e0:(⟨[],[]⟩:St).emb σ (List.replicate pre.length [])=⟨List.replicate pre.length [],[]⟩:=by simp[St.emb,AA.ren]
      rw[e0,xX]at hx;cases hx
     ·have:=hk σ (AU.refl _ _);rw[FI]at this;exact this
    ·cases h1
   ·cases hx
 ·cases hx
theorem AD0{E:XE}(hEE:J4 P E):∀{R:List Nat} {st st':XS},Bd st→phY P E l e R st=some st'→KG st st' ∧
  ∀(σ:Nat→Nat) (pre:List AA) (K:Fr→St→Prop),(∀σ',AU st.c σ σ'→K (st'.fr.ren σ' pre.length) (st'.s.emb σ' pre))→OX P l (l.map (KX l)) e R (st.fr.ren σ pre.length) (st.s.emb σ pre) K
 |[],st,st',h,hx=>by cases hx;exact⟨⟨Nat.le_refl _,h,rfl⟩,fun σ pre K hk=>hk σ (AU.refl _ _)⟩
 |i::r,st,st',h,hx=>by
  simp only[phY]at hx;split at hx
  ·rename_i o ho;split at hx
   ·rename_i st1 h1;obtain⟨hE,hg,h2,h3⟩:=ARG hEE h h1;obtain⟨hE',hs'⟩:=AD0 hEE hE.bd hx;refine⟨⟨Nat.le_trans hE.c hE'.c,hE'.bd,hE'.n.trans hE.n⟩,fun σ pre K hk=>?_⟩;have hk1:∀σ',AU st.c σ σ'→OX P l (l.map (KX l)) e r (st1.fr.ren σ' pre.length) (st1.s.emb σ' pre) K:=fun σ' ha=>hs' σ' pre K fun σ'' ha'=>hk σ'' (ha.trans ha' hE.c);simp only[OX,HV,ho,W3 ho];by_cases hie:i=e
    ·rw[if_pos hie];obtain⟨f,args,q1,q2⟩:=h2 (by rw[hie];exact Nat.beq_refl e) σ pre (fun fr s=>OX P l (l.map (KX l)) e r fr s K) hk1;exact⟨f,args,hg _ _,q1,q2⟩
    ·rw[if_neg hie];obtain⟨v,q1,q2⟩:=h3 (by
      cases hb:Nat.beq i e with
      |false=>rfl
      | true=>exact absurd (Nat.eq_of_beq_eq_true hb) hie) σ pre (fun fr s=>OX P l (l.map (KX l)) e r fr s K) hk1
     exact⟨v,hg _ _,q1,q2⟩
   ·cases hx
  ·cases hx
theorem uM{E:XE}(hEE:J4 P E):∀{S:cF} {st st':XS},Bd st→AJM P E l S st=some st'→KG st st' ∧
  ∀(σ:Nat→Nat) (pre:List AA) (K:Fr→St→Prop),(∀σ',AU st.c σ σ'→K (st'.fr.ren σ' pre.length) (st'.s.emb σ' pre))→gW P l (l.map (KX l)) S (st.fr.ren σ pre.length) (st.s.emb σ pre) K
 |[],st,st',h,hx=>by cases hx;exact⟨⟨Nat.le_refl _,h,rfl⟩,fun σ pre K hk=>hk σ (AU.refl _ _)⟩
 |p::S,st,st',h,hx=>by
  simp only[AJM]at hx;split at hx
  ·rename_i st1 h1;obtain⟨hE,hs⟩:=AD0 hEE h h1;obtain⟨hE',hs'⟩:=uM hEE hE.bd hx;refine⟨⟨Nat.le_trans hE.c hE'.c,hE'.bd,hE'.n.trans hE.n⟩,fun σ pre K hk=>?_⟩;exact hs σ pre _ fun σ' ha=>hs' σ' pre K fun σ'' ha'=>hk σ'' (ha.trans ha' hE.c)
  ·cases hx
theorem AD1(hP:EB P){E:XE}(hEE:J4 P E){id:Nat}{st st':XS}(hx:uL P E N l st=some st')(hbd:Bd st):KG st st' ∧
  ∀(n:Nat) (ρ:Option Nat) (σ:Nat→Nat) (pre:List AA) (K:Exit→Fr→St→Prop),(∀σ',AU st.c σ σ'→K .normal (st'.fr.ren σ' pre.length) (st'.s.emb σ' pre))→BH P n N ρ (.region id l.toArray true) K (st.fr.ren σ pre.length) (st.s.emb σ pre):=by
 unfold uL at hx
 obtain⟨hok,hx⟩:=EI hx
 obtain⟨hE,hs⟩:=uM hEE hbd hx
 exact⟨hE,fun n ρ σ pre K hk=>qV hP.mixed (l.map (KX l)) (eA l) hok (hs σ pre _ hk)⟩
end Go.Pg
namespace Go.Pg
variable {P:Program}{n N:Nat}{ρ:Option Nat}{G0 G:Gh}{fr fr':Fr}{s s':St}{a:Act}{w:World}
def ldC(o:Oper):Option (TypeId×Tmp×Tmp):=match o.op with
 |.load T (.tmp a)=>match o.dst with
  |some d=>some (T,a,d)
  |none=>none
 |_=>none
def H7(l:List Oper):List (TypeId×Tmp×Tmp):=l.filterMap ldC
def ARH(P:Program)(T:TypeId):Bool:=match P.underlying T with
 |some (.struct _)=>true
 |some (.array _ _)=>true
 |_=>Nat.beq (P.cellsOf T) 1
def A34(all:List Oper)(o:Oper)(T:TypeId)(a d:Tmp):Bool:=o.after.toList.any fun e=>Region.binds .any e&&match all[e.on]? with
 |some p=>match ldC p with
  |some k=>Nat.beq k.1 T&&Nat.beq k.2.1 a&&Nat.beq k.2.2 d
  |none=>false
 |none=>false
def AD2(P:Program)(all:List Oper)(ks:List (TypeId×Tmp×Tmp))(j:Nat)(o:Oper):Bool :=
 (KX all o).isNone&&(o.after.toList.all fun e=>!(Region.binds .any e)||Nat.blt e.on j)&&match o.op with
 |.load _ (.tmp a)=>o.dst.isSome&&ks.all (fun k=>!(Nat.beq k.2.2 a))
 |.store T (.tmp a) (.tmp d)=>o.dst.isNone&&ks.all (fun k=>!(Nat.beq k.2.2 a))&&Nat.blt 0 (P.cellsOf T)&&ARH P T&&A34 all o T a d
 |_=>false
def qW(P:Program)(all:List Oper)(ks:List (TypeId×Tmp×Tmp)):List Oper→Nat→Bool
 |[],_=>true
 |o::r,j=>AD2 P all ks j o&&qW P all ks r (j+1)
def AJO(l:List Oper):Nat:=(l.filter kW).length
def WR(P:Program)(l:List Oper):Bool:=Nat.blt 2 (AJO l)&&qW P l (H7 l) l 0
theorem W5{all:List Oper}{ks:List (TypeId×Tmp×Tmp)}:∀{l:List Oper} {j:Nat},qW P all ks l j=true→∀{i:Nat} {o:Oper},l[i]? = some o→AD2 P all ks (j+i) o=true
 |[],_,_,i,o,h=>by simp at h
 |p::r,j,hB,i,o,h=>by
  simp only[qW,Bool.and_eq_true]at hB;cases i with
  |zero=>simp at h;subst h;exact hB.1
  |succ i=>
   have:=W5 hB.2 (i:=i) (o:=o) (by simpa using h)
   rwa [show j+1+i=j+(i+1) by omega]at this
theorem OZ{o:Oper}{k:TypeId×Tmp×Tmp}(h:ldC o=some k):o.op=.load k.1 (.tmp k.2.1)∧o.dst=some k.2.2:=by
 unfold ldC at h;split at h
 ·rename_i T a ho;split at h
  ·rename_i d hd;cases h;exact⟨ho,hd⟩
  ·cases h
 ·cases h
theorem mL{g:Bool}{t:Tmp}(h:fr'.get t=fr.get t):DV g fr' (.tmp t)=DV g fr (.tmp t):=by
 show(match fr'.get t with
  |some (c,v)=>if (!g||c)=true then some v else none
  | none=>none)=_
 rw[h];rfl
def A35 (T : TypeId) (x : Operand) : Oper := { dst := none, op := .load T x, type := 0, pos := "", after := #[], guard := none }
def qX:Option V→Bool
 |some (.ptr ..)=>true
 |_=>false
noncomputable def ARI(P:Program)(k:TypeId×Tmp×Tmp):Option XS→Option XS
 | some st=>Bool.rec none (match LW P st.fr st.s k.1 (.tmp k.2.1)with
  |some v=>some ⟨st.c,putD st.fr (some k.2.2) true v,st.s⟩
  | none=>none) (qX (CO st.fr (.tmp k.2.1)))
 |none=>none
noncomputable def RB(P:Program):List (TypeId×Tmp×Tmp)→Option XS→Option XS
 |[],o=>o
 |k::r,o=>RB P r (ARI P k o)
theorem eB:∀(ks:List (TypeId×Tmp×Tmp)),RB P ks none=none
 |[]=>rfl
 |_::r=>eB r
def ARJ(P:Program)(fr frF:Fr)(s:St)(k:TypeId×Tmp×Tmp):Prop :=
 ∃v l q γ off,frF.get k.2.2=some (true,v)∧DV true fr (.tmp k.2.1)=some (.ptr l q γ off)∧(A5 s (.ptr l q γ off)).bind (BL P k.1)=some v
theorem eC:∀(ks:List (TypeId×Tmp×Tmp)) {st st':XS},(∀k∈ks,∀k'∈ks,k.2.2≠k'.2.1)→(ks.map (·.2.2)).Nodup→Bd st→RB P ks (some st)=some st' →
  Bd st'∧st'.c=st.c∧st'.s=st.s∧(∀t,(∀k∈ks,k.2.2≠t)→st'.fr.get t=st.fr.get t)∧∀k∈ks,ARJ P st.fr st'.fr st.s k
 |[],st,st',_,_,hb,h=>by cases h;exact⟨hb,rfl,rfl,fun _ _=>rfl,fun k hk=>by cases hk⟩
 |k::r,st,st',h1,h2,hb,h=>by
  simp only[RB]at h;cases hs:ARI P k (some st)with
  |none=>rw[hs,eB]at h;cases h
  |some st1=>
   rw[hs]at h
   unfold ARI at hs
   simp only at hs
   cases hp:qX (CO st.fr (.tmp k.2.1))with
   |false=>rw[hp]at hs;cases hs
   |true=>
   rw[hp]at hs
   simp only at hs
   split at hs
   ·rename_i v hv;have hl:FH P true (A35 k.1 (.tmp k.2.1)) st.fr st.s=some v:=by
     unfold LW at hv;rw[DZ]at hv;show((DV true st.fr (.tmp k.2.1)).bind fun v=>(A5 st.s v).bind fun cs=>BL P k.1 cs)=some v;revert hv;cases DV true st.fr (.tmp k.2.1)with
     |none=>intro hv;cases hv
     |some p=>
      simp only[Option.bind_some]
      cases A5 st.s p with
      |none=>intro hv;cases hv
      |some cs=>exact fun hv=>hv
    have hbv:=hb.val hl;cases hs;have hb1:Bd ({ st with fr:=putD st.fr (some k.2.2) true v }:XS):=hb.putF hbv;simp only[List.map_cons,List.nodup_cons]at h2;obtain⟨b1,b2,b3,b4,b5⟩:=eC r (fun x hx y hy=>h1 x (by simp[hx]) y (by simp[hy])) h2.2 hb1 h;refine⟨b1,b2,b3,fun t ht=>?_,fun x hx=>?_⟩
    ·rw[b4 t fun x hx=>ht x (by simp[hx])];show(putD st.fr (some k.2.2) true v).get t=_;rw[F4,if_neg (fun e=>ht k (by simp) (by simpa using e))]
    ·rcases List.mem_cons.1 hx with rfl|hx
     ·unfold qX at hp;rw[DZ]at hp;split at hp
      ·rename_i l q γ off hr;refine⟨v,l,q,γ,off,?_,hr,?_⟩
       ·rw[b4 x.2.2 fun y hy e=>h2.1 (List.mem_map.2 ⟨y,hy,e⟩)];show(putD st.fr (some x.2.2) true v).get x.2.2=_;rw[F4,if_pos rfl]
       ·have hl:((DV true st.fr (.tmp x.2.1)).bind fun v=>(A5 st.s v).bind fun cs=>BL P x.1 cs)=some v:=hl;rw[hr]at hl;exact hl
      ·cases hp
     ·obtain⟨v',l,q,γ,off,c1,c2,c3⟩:=b5 x hx;refine⟨v',l,q,γ,off,c1,?_,c3⟩;have:DV true (putD st.fr (some k.2.2) true v) (.tmp x.2.1)=DV true st.fr (.tmp x.2.1):=mL (by
       rw[F4,if_neg (fun e=>h1 k (by simp) x (by simp[hx]) (by simpa using e))])
      rw[←this];exact c2
   ·cases hs
theorem mM{T:TypeId}{cs:List V}{v:V}(h:BL P T cs=some v)(h1:ARH P T=true)(hc:∀x∈cs,x.isCell=true):A7 v=true∧A6 v=cs.take (P.cellsOf T)∧P.cellsOf T≤cs.length:=by
 have one:P.cellsOf T=1→cs[0]? = some v→A7 v=true∧A6 v=cs.take (P.cellsOf T)∧P.cellsOf T≤cs.length:=fun e h=>by
  cases cs with
  |nil=>cases h
  |cons c cs=>
   simp only[List.getElem?_cons_zero,Option.some.injEq]at h
   subst h
   have hi:=hc c (by simp)
   rw[e]
   refine⟨?_,?_,by simp⟩
   ·cases c<;>first|rfl|cases hi
   ·cases c<;>first|rfl|cases hi
 unfold BL at h;unfold ARH at h1;split at h
 ·split at h
  ·rename_i hle;cases h;exact⟨rfl,rfl,hle⟩
  ·cases h
 ·split at h
  ·rename_i hle;cases h;exact⟨rfl,rfl,hle⟩
  ·cases h
 ·rename_i g1 g2 hu;split at h1
  ·rename_i fs e;rw[hu]at e;cases e;exact(g1 _ rfl).elim
  ·rename_i m x e;rw[hu]at e;cases e;exact(g2 _ _ rfl).elim
  ·exact one (Nat.eq_of_beq_eq_true h1) h
 ·cases h
theorem mN{α:Type}(cs:List α)(off m:Nat):A3 cs off ((cs.drop off).take m)=cs:=by
 unfold A3;rw[List.length_take,List.length_drop,List.append_assoc];have:(cs.drop off).take m++cs.drop (off+min m (cs.length-off))=cs.drop off:=by
  rw[←List.drop_drop];have e:min m (cs.length-off)=min m (cs.drop off).length:=by rw[List.length_drop]
  rw[e];generalize cs.drop off=ds;by_cases h:m≤ds.length
  ·rw[Nat.min_eq_left h,List.take_append_drop]
  ·rw[Nat.min_eq_right (by omega),List.drop_length,List.take_of_length_le (by omega),List.append_nil]
 rw[this,List.take_append_drop]
structure A36(l:List Oper)(fr frF:Fr)(s:St)(listed:Array Bool)(fr':Fr)(s':St):Prop where
 o:∀t,(∀k∈H7 l,k.2.2≠t)→fr'.get t=fr.get t
 d:∀j o k,l[j]? = some o→ldC o=some k→listed.getD j true=true→fr'.get k.2.2=frF.get k.2.2
 p:∀i k,s'.get i k=s.get i k
 n:s'.up.length=s.up.length
theorem xY{listed:Array Bool}{i:Nat}:(listed.setIfInBounds i true).getD i true=true:=by
 rcases Nat.lt_or_ge i listed.size with h|h
 ·simp[h]
 ·simp
theorem AJP{l:List Oper}{K:Exit→Fr→St→Prop}(hN:LQ N l=true)(hg:JD l (l.map (KX l)) l=true)(hD:xA l)(hC:qW P l (H7 l) l 0=true){frF:Fr}
  (h1:∀t,(∀k∈H7 l,k.2.2≠t)→frF.get t=fr.get t) (h2:∀k∈H7 l,ARJ P fr frF s k) (hK:K .normal frF s) :
  ∀(R:List Nat) (listed:Array Bool) (G:Gh) (fr':Fr) (s':St) (a:Act) (w:World),R.Nodup→(∀j,j∈R↔j<l.length∧listed.getD j true=false)→A36 l fr frF s listed fr' s'→I0 n N G0 G fr' s' a w →
   wpAnyIn (wf ρ) 0 P .any l.toArray (K6 n N G0 K) R.length listed a w:=by
 have mem:∀{j:Nat} {o:Oper} {k:TypeId×Tmp×Tmp},l[j]? = some o→ldC o=some k→k∈H7 l:=fun hj hk=>List.mem_filterMap.2 ⟨_,List.mem_of_getElem? hj,hk⟩
 intro R
 induction hm:R.length generalizing R with
 |zero=>
  intro listed G fr' s' a w hnd hR hI hrel
  have e:R=[]:=List.eq_nil_of_length_eq_zero hm
  subst e
  refine⟨?_,G,frF,s,hrel.same ⟨fun t=>?_,hI.p,hI.n⟩,hK⟩
  ·refine List.eq_nil_iff_forall_not_mem.2 fun j hj=>?_;obtain⟨q1,o,ho,_⟩:=mem_ready.1 hj;have:=(hR j).2 ⟨by
    have:=(Array.getElem?_eq_some_iff.1 ho).1;simpa using this,q1⟩
   cases this
  ·by_cases ht:∀k∈H7 l,k.2.2≠t
   ·rw[hI.o t ht,h1 t ht]
   ·have⟨k,hk,e⟩:∃k∈H7 l,k.2.2=t:=Classical.byContradiction fun hn=>ht fun k hk e=>hn ⟨k,hk,e⟩;obtain⟨o,ho,hk⟩:=List.mem_filterMap.1 hk;obtain⟨j,hj⟩:=List.getElem?_of_mem ho;rw[←e];refine hI.d j o k hj hk ?_;cases hl:listed.getD j true with
    |true=>rfl
    |false=>exact absurd ((hR j).2 ⟨(List.getElem?_eq_some_iff.1 hj).1,hl⟩) (by simp)
 |succ m ih=>
  intro listed G fr' s' a w hnd hR hI hrel
  refine⟨fun h0=>?_,fun i hi=>?_⟩
  ·exfalso;have hex:∃j,j∈R:=by
    cases R with
    |nil=>simp at hm
    |cons x R=>exact⟨x,by simp⟩
   obtain⟨j0,hj0⟩:=hex;have least:∀d j,j≤d→j∈R→∃j∈R,∀i,i<j→i∉R:=by
    intro d;induction d with
    |zero=>intro j hj hm;exact⟨j,hm,fun i hi=>by omega⟩
    |succ d ihd=>
     intro j hj hm
     by_cases hx:∃i,i<j∧i∈R
     ·obtain⟨i,hi,hi2⟩:=hx;exact ihd i (by omega) hi2
     ·exact⟨j,hm,fun i hi hi2=>hx ⟨i,hi,hi2⟩⟩
   obtain⟨j,hj,hmin⟩:=least j0 j0 (Nat.le_refl _) hj0;obtain⟨q1,q2⟩:=(hR j).1 hj;have ho:l[j]? = some l[j]:=List.getElem?_eq_getElem q1;have hc:=W5 hC ho;rw[Nat.zero_add]at hc;simp only[AD2,Bool.and_eq_true,List.all_eq_true]at hc;have:j∈Region.ready .any l.toArray listed:=mem_ready.2 ⟨q2,l[j],by simp,fun e he hb=>by
    have hlt:=hc.1.2 e (by simpa using he);rw[hb]at hlt;have hlt:e.on<j:=by simpa [Nat.blt_eq]using hlt
    have hni:=hmin e.on hlt;cases hd:listed.getD e.on false with
    |true=>rfl
    |false=>
     refine absurd ((hR e.on).2 ⟨by omega,?_⟩) hni
     rcases Nat.lt_or_ge e.on listed.size with h'|h'
     ·simp[h']at hd⊢;exact hd
     ·exfalso;rcases Nat.lt_or_ge j listed.size with h''|h''
      ·omega
      ·simp[Array.getElem?_eq_none h'']at q2⟩
   rw[h0]at this;cases this
  ·obtain⟨q1,o,ho,hwait⟩:=mem_ready.1 hi;have ho:l[i]? = some o:=by simpa using ho
   have hil:i<l.length:=(List.getElem?_eq_some_iff.1 ho).1;have hiR:i∈R:=(hR i).2 ⟨hil,q1⟩;have hc:=W5 hC ho;rw[Nat.zero_add]at hc;simp only[AD2,Bool.and_eq_true,List.all_eq_true]at hc;obtain⟨⟨c1,_⟩,c3⟩:=hc;have hgn:bH (l.map (KX l)) i=none:=by rw[W3 ho];exact Option.isNone_iff_eq_none.1 c1
   have hgd:QB fr' (bH (l.map (KX l)) i)=some true:=by rw[hgn];rfl
   have hlen:(R.erase i).length=m:=by rw[List.length_erase_of_mem hiR,hm];rfl
   have hR':∀j,j∈R.erase i↔j<l.length∧(listed.setIfInBounds i true).getD j true=false:=fun j=>by
    rw[List.Nodup.mem_erase_iff hnd,hR];by_cases e:j=i
    ·subst e;rw[xY];simp
    ·rw[getD_set_ne true (Ne.symm e)];simp[e]
   have next:∀(fr2:Fr) (s2:St),A36 l fr frF s (listed.setIfInBounds i true) fr2 s2→∀G' a' w',I0 n N G0 G' fr2 s2 a' w'→wpAnyIn (wf ρ) 0 P .any l.toArray (K6 n N G0 K) m (listed.setIfInBounds i true) a' w' :=
    fun fr2 s2 hI2 G' a' w' hr2=>ih (R.erase i) hlen (listed.setIfInBounds i true) G' fr2 s2 a' w' (hnd.erase i) hR' hI2 hr2
   have same:∀(t:Tmp),(∀k∈H7 l,k.2.2≠t)→DV true fr' (.tmp t)=DV true fr (.tmp t):=fun t ht=>mL (hI.o t ht);have cel:∀v,A5 s' v=A5 s v:=fun v=>by unfold A5;cases v<;>first|rfl|simp only[hI.p]
   split at c3
   ·rename_i T t hop;simp only[Bool.and_eq_true]at c3;obtain⟨d,hd⟩:=Option.isSome_iff_exists.1 c3.1;have hk:ldC o=some (T,t,d):=by simp only[ldC,hop,hd]
    have hnt:∀k∈H7 l,k.2.2≠t:=fun k hk e=>by have:=List.all_eq_true.1 c3.2 k hk;rw[e,Nat.beq_refl]at this;cases this
    obtain⟨v,l1,q,γ,off,e1,e2,e3⟩:=h2 _ (mem ho hk);refine G8 hrel hN hg ho hgd (k:=fun f2 s2=>f2=putD fr' o.dst true v∧s2=s') ?_ fun G' a' w' fr2 s2 hr2 hk2=>?_
    ·refine .inl (DP (Ω:=G6.nothing P) (.inl ⟨v,?_,rfl,rfl⟩));have:FH P true o fr' s'=(DV true fr' (.tmp t)).bind fun v=>(A5 s' v).bind fun cs=>BL P T cs:=by unfold FH;rw[hop];show IL P o s' (DV true fr')=_;unfold IL;rw[hop]
     rw[this,same t hnt,e2,Option.bind_some,cel];exact e3
    ·obtain⟨rfl,rfl⟩:=hk2;refine next _ _ ⟨fun x hx=>?_,fun j p k hj hpk hl=>?_,hI.p,hI.n⟩ G' a' w' hr2
     ·rw[F4,hd,if_neg (fun e=>hx _ (mem ho hk) (by simpa using e))];exact hI.o x hx
     ·by_cases e:j=i
      ·subst e;rw[ho]at hj;cases hj;rw[hk]at hpk;cases hpk;rw[F4,hd,if_pos rfl];exact e1.symm
      ·rw[getD_set_ne true (Ne.symm e)]at hl;have hne:=hD i j o p d ho hj (Ne.symm e) hd;rw[F4,hd,if_neg (fun e=>hne (by rw[(OZ hpk).2];simpa using e.symm))];exact hI.d j p k hj hpk hl
   ·rename_i T t d hop;simp only[Bool.and_eq_true]at c3;obtain⟨⟨⟨⟨d1,d2⟩,d3⟩,d4⟩,d5⟩:=c3;have hdn:o.dst=none:=Option.isNone_iff_eq_none.1 d1;have hnt:∀k∈H7 l,k.2.2≠t:=fun k hk e=>by have:=List.all_eq_true.1 d2 k hk;rw[e,Nat.beq_refl]at this;cases this
    obtain⟨e,he,hb⟩:=List.any_eq_true.1 d5;simp only[Bool.and_eq_true]at hb;obtain⟨hb,hp⟩:=hb;split at hp
    ·rename_i p hpl;split at hp
     ·rename_i k hk;simp only[Bool.and_eq_true]at hp;have k1:k.1=T:=Nat.eq_of_beq_eq_true hp.1.1;have k2:k.2.1=t:=Nat.eq_of_beq_eq_true hp.1.2;have k3:k.2.2=d:=Nat.eq_of_beq_eq_true hp.2;have hdone:listed.getD e.on true=true:=by
       have:=hwait e (by simpa using he) hb;rcases Nat.lt_or_ge e.on listed.size with h'|h'
       ·simp[h']at this⊢;exact this
       ·simp[Array.getElem?_eq_none h']
      obtain⟨v,l1,q,γ,off,e1,e2,e3⟩:=h2 _ (mem hpl hk);have hfd:fr'.get d=some (true,v):=by rw[←k3,hI.d e.on p k hpl hk hdone];exact e1
      rw[k2]at e2;rw[k1]at e3;cases hget:s.get l1 q with
      |none=>simp[A5,hget]at e3
      |some x=>
       obtain⟨γ',r⟩:=x
       cases r with
       |box cs=>
        by_cases hγ:γ'=γ
        ·subst hγ;have e3:BL P T (cs.drop off)=some v:=by simpa [A5,hget]using e3
         have hget':s'.get l1 q=some (γ',.box cs):=by rw[hI.p];exact hget
         have hcell:∀x∈cs.drop off,x.isCell=true:=fun x hx=>by obtain⟨b,arr,T',_,_,hr⟩:=hrel.inv.res _ _ _ _ hget';obtain⟨j,hj,rfl⟩:=List.getElem_of_mem (List.mem_of_mem_drop hx);exact(hr.2 j hj (by rw[←hr.1];exact hj)).1
         have h0:0<P.cellsOf T:=by simpa [Nat.blt_eq]using d3
         obtain⟨w1,w2,w3⟩:=mM e3 d4 hcell;have hst:C9 P o fr' s'=some (l1,q,γ',.box cs):=by
          unfold C9;rw[hop];have r1:DV true fr' (.tmp t)=some (.ptr l1 q γ' off):=by rw[same t hnt];exact e2
          have r2:DV true fr' (.tmp d)=some v:=by
           show(match fr'.get d with
            |some (c,v)=>if (!true||c)=true then some v else none
            | none=>none)=_
           rw[hfd];rfl
          simp only[r1,r2,hget'];rw[List.length_drop]at w3;rw[if_pos ⟨trivial,w1,h0,by rw[w2,List.length_take,List.length_drop];omega,by omega,hdn⟩,w2,mN]
         refine G8 hrel hN hg ho hgd (k:=fun f2 s2=>f2=fr'∧s2=s'.put l1 q γ' (.box cs)) (.inl ((DU hst).2.2.2 _ ⟨rfl,rfl⟩)) fun G' a' w' fr2 s2 hr2 hk2=>?_;obtain⟨rfl,rfl⟩:=hk2;refine next _ _ ⟨hI.o,fun j p2 k' hj hpk hl=>?_,fun i2 k2=>?_,by rw[St.put_len];exact hI.n⟩ G' a' w' hr2
         ·by_cases ej:j=i
          ·subst ej;rw[ho]at hj;cases hj;rw[(OZ hpk).2]at hdn;cases hdn
          ·rw[getD_set_ne true (Ne.symm ej)]at hl;exact hI.d j p2 k' hj hpk hl
         ·rw[St.get_put s' hget'];split
          ·rename_i e;rw[e.1,e.2,hget]
          ·exact hI.p i2 k2
        ·simp[A5,hget,hγ]at e3
       |_=>simp[A5,hget]at e3
     ·cases hp
    ·cases hp
   ·cases c3
theorem AD3{l:List Oper}{id:Nat}{K:Exit→Fr→St→Prop}(hm:P.follows .mixedOrders=true)(hB:OM (DQ l) N (l.map (KX l)) (cA l) l=true)(hC:qW P l (H7 l) l 0=true){frF:Fr}
  (h1:∀t,(∀k∈H7 l,k.2.2≠t)→frF.get t=fr.get t) (h2:∀k∈H7 l,ARJ P fr frF s k) (hK:K .normal frF s):BH P n N ρ (.region id l.toArray true) K fr s:=by
 simp only[OM,Bool.and_eq_true]at hB
 obtain⟨⟨⟨⟨⟨b1,b2⟩,b3⟩,b4⟩,b5⟩,b6⟩:=hB
 intro G0 G a w hR
 refine wpIn_region_any hm ?_
 have hR':I0 n N G0 G fr s a { w with drawn:=w.drawn+1 }:=⟨hR.le,hR.inv.drawn _,hR.fr,hR.size,hR.lvl,hR.marks⟩
 have:=AJP (ρ:=ρ) (K:=K) b1 b2 (Q2 b3) hC h1 h2 hK (List.range l.length) (Array.replicate l.length false) G fr s a _ List.nodup_range (fun j=>by
  rw[List.mem_range];refine⟨fun h=>⟨h,by simp[h]⟩,fun h=>h.1⟩) ⟨fun _ _=>rfl,fun j o k hj _ hl=>by
   have:=(List.getElem?_eq_some_iff.1 hj).1;simp[this]at hl,fun _ _=>rfl,rfl⟩ hR'
 rw[List.length_range]at this
 simpa using this
theorem aJ:∀{l:List Oper},ZN l=true→((H7 l).map (·.2.2)).Nodup
 |[],_=>by simp[H7]
 |o::r,h=>by
  simp only[ZN,Bool.and_eq_true]at h;have ih:=aJ h.2;unfold H7 at ih⊢;rw[List.filterMap_cons];cases hk:ldC o with
  |none=>exact ih
  |some k=>
   simp only[List.map_cons,List.nodup_cons]
   refine⟨fun hm=>?_,ih⟩
   obtain⟨k',hk',e⟩:=List.mem_map.1 hm
   obtain⟨p,hp,hpk⟩:=List.mem_filterMap.1 hk'
   have h1:=h.1
   rw[(OZ hk).2]at h1
   have h2:=List.all_eq_true.1 h1 p hp
   rw[(OZ hpk).2]at h2
   simp only[e,Nat.beq_refl]at h2
   cases h2
theorem qY{l:List Oper}(hC:qW P l (H7 l) l 0=true):∀k∈H7 l,∀k'∈H7 l,k.2.2≠k'.2.1:=fun k hk k' hk' e=>by obtain⟨o,ho,hko⟩:=List.mem_filterMap.1 hk';obtain⟨j,hj⟩:=List.getElem?_of_mem ho;have hc:=W5 hC hj;simp only[AD2,Bool.and_eq_true,(OZ hko).1]at hc;have:=List.all_eq_true.1 hc.2.2 k hk;rw[e,Nat.beq_refl]at this;cases this
theorem AJQ(hP:EB P){id:Nat}{l:List Oper}(hN:OM (DQ l) N (l.map (KX l)) (cA l) l=true)(hC:WR P l=true){st st':XS}(hx:RB P (H7 l) (some st)=some st')(hbd:Bd st):KG st st' ∧
  ∀(n:Nat) (ρ:Option Nat) (σ:Nat→Nat) (pre:List AA) (K:Exit→Fr→St→Prop),(∀σ',AU st.c σ σ'→K .normal (st'.fr.ren σ' pre.length) (st'.s.emb σ' pre))→BH P n N ρ (.region id l.toArray true) K (st.fr.ren σ pre.length) (st.s.emb σ pre):=by
 simp only[WR,Bool.and_eq_true]at hC
 have hdd:ZN l=true:=by have hB:=hN;simp only[OM,Bool.and_eq_true]at hB;exact hB.1.1.1.2
 obtain⟨b1,b2,b3,b4,b5⟩:=eC _ (qY hC.2) (aJ hdd) hbd hx
 refine⟨⟨by omega,b1,by rw[b3]⟩,fun n ρ σ pre K hk=>AD3 hP.mixed hN hC.2 (frF:=st'.fr.ren σ pre.length) (fun t ht=>?_) (fun k hk=>?_) (by
  have:=hk σ (AU.refl _ _);rwa [b3]at this)⟩
 ·rw[Fr.get_ren,Fr.get_ren,b4 t ht]
 ·obtain⟨v,l1,q,γ,off,e1,e2,e3⟩:=b5 k hk;have hv:FH P true (A35 k.1 (.tmp k.2.1)) st.fr st.s=some v:=by show((DV true st.fr (.tmp k.2.1)).bind fun v=>(A5 st.s v).bind fun cs=>BL P k.1 cs)=some v;rw[e2];exact e3
  have hv:=IV (σ:=σ) (pre:=pre) hv;have e2':DV true (st.fr.ren σ pre.length) (.tmp k.2.1)=some ((V.ptr l1 q γ off).ren σ pre.length):=by rw[DM,e2];rfl
  refine⟨v.ren σ pre.length,l1+pre.length,q,σ γ,off,by rw[Fr.get_ren,e1];rfl,by rw[e2'];simp,?_⟩;have hv:((DV true (st.fr.ren σ pre.length) (.tmp k.2.1)).bind fun v=>(A5 (st.s.emb σ pre) v).bind fun cs=>BL P k.1 cs)=some (v.ren σ pre.length):=hv;rw[e2']at hv;simpa using hv
end Go.Pg
