/- A row that lies in a place is told as a list, once and for all: it is never written again. No program in sight. -/
import Derived.Test.YtfbbnkaahnpicaaQa
namespace Go.Pg
variable {P:Program} {σ σ':Nat→Nat} {δ:Nat} {pre:List Level} {s:St} {fr:Fr} {G G':Gh} {w:World}

def toldV (l k:Nat) (o:Option (Nat × Res)):Nat→V→V
 | 0,v=>v
 | f + 1,v=>match v with
  | .vec l' k' g m=>match o with
   | some (γ,.vec _ es)=>if l' = l∧k' = k∧g = γ∧m = es.length then .list false es else v
   | _=>v
  | .agg cs=>.agg (cs.map (toldV l k o f))
  | .tup cs=>.tup (cs.map (toldV l k o f))
  | v=>v
def toldR (l k:Nat) (o:Option (Nat × Res)):Res→Res
 | .box cs=>.box (cs.map (toldV l k o 3))
 | .vec T es=>.vec T (es.map (List.map (toldV l k o 3)))
 | r=>r
def toldF (l k:Nat) (o:Option (Nat × Res)) (fr:Fr):Fr:=fr.map fun x=>(x.1,x.2.1,toldV l k o 3 x.2.2)
def toldL (l k:Nat) (o:Option (Nat × Res)):Level→Level
 | []=>[]
 | (j,g,r) :: L=>if j = k then toldL l k o L else (j,g,toldR l k o r) :: toldL l k o L
noncomputable def told1 (k:Nat) (st:XS):XS:=⟨st.c,toldF st.s.up.length k (st.s.loc.get k) st.fr,⟨st.s.up,toldL st.s.up.length k (st.s.loc.get k) st.s.loc⟩⟩
noncomputable def toldO (ks:List Nat) (st:XS):XS:=List.rec (motive:=fun _=>XS→XS) (fun st=>st) (fun k _ ih st=>ih (told1 k st)) ks st

theorem toldF_get (l k:Nat) (o:Option (Nat × Res)):∀ (fr:Fr) (j:Nat),(toldF l k o fr).get j = (fr.get j).map fun x=>(x.1,toldV l k o 3 x.2)
 | [],_=>rfl
 | (i,c,v) :: fr,j=>by
  have ih:=toldF_get l k o fr j
  simp only [toldF,List.map_cons,Fr.get] at ih ⊢
  split
  ·rfl
  ·exact ih
theorem toldL_get (l k:Nat) (o:Option (Nat × Res)):∀ (L:Level) (j:Nat),(toldL l k o L).get j = if j = k then none else (L.get j).map fun x=>(x.1,toldR l k o x.2)
 | [],j=>by simp [toldL]
 | (i,g,r) :: L,j=>by
  have ih:=toldL_get l k o L j
  unfold toldL
  by_cases h:i = k
  ·rw [if_pos h,ih]
   by_cases hj:j = k
   ·simp [hj]
   ·rw [if_neg hj,if_neg hj,Level.get,if_neg (by rw [h]; exact hj)]
  ·rw [if_neg h]
   simp only [Level.get]
   by_cases hj:j = i
   ·subst hj; rw [if_pos rfl,if_pos rfl,if_neg h]; rfl
   ·rw [if_neg hj,if_neg hj,ih]

def ToldOK (G G':Gh) (σ:Nat→Nat) (δ l k:Nat) (o:Option (Nat × Res)):Prop:=∀ γ T es,o = some (γ,.vec T es)→∀ v,RepV G (.vec (l + δ) k (σ γ) es.length) v→RepV G' (.list false (es.map (List.map (V.ren σ δ)))) v
theorem told_cell {l k:Nat} {o:Option (Nat × Res)}:∀ (f:Nat) (v:V),(v.ren σ δ).isCell = true→((toldV l k o f v).ren σ δ).isCell = true
 | 0,v,h=>h
 | f + 1,v,h=>by
  cases v with
  | agg cs=>simp only [ren_agg] at h; cases h
  | tup cs=>simp only [ren_tup] at h; cases h
  | vec l' k' g m =>
   simp only [toldV]
   split
   ·split
    ·simp only [ren_list]; rfl
    ·exact h
   ·exact h
  | _=>exact h
theorem told_rep {l k:Nat} {o:Option (Nat × Res)} (hle:G.le G') (ho:ToldOK G G' σ δ l k o):∀ (f:Nat) (x:V) (v:Value),RepV G (x.ren σ δ) v→RepV G' ((toldV l k o f x).ren σ δ) v
 | 0,x,v,h=>h.mono hle
 | f + 1,x,v,h=>by
  have ih:=told_rep hle ho f
  cases x with
  | vec l' k' g m =>
   simp only [toldV]
   split
   ·rename_i γ T es
    split
    ·rename_i hc
     obtain ⟨rfl,rfl,rfl,rfl⟩:=hc
     simp only [ren_vec,ren_list] at h ⊢
     exact ho _ _ _ rfl v h
    ·exact h.mono hle
   ·exact h.mono hle
  | agg cs =>
   simp only [toldV,ren_agg] at h ⊢
   cases h with
   | agg _ arr hl hc hr =>
    refine .agg _ arr (by simpa using hl) (fun c hc'=>?_) (fun i h1 h2=>?_)
    ·simp only [List.mem_map] at hc'
     obtain ⟨d,⟨e,he,rfl⟩,rfl⟩:=hc'
     exact told_cell f e (hc _ (List.mem_map_of_mem he))
    ·have h1':i < cs.length:=by simpa using h1
     have q:=hr i (by simpa using h1) h2
     simp only [List.getElem_map] at q ⊢
     exact ih _ _ q
  | tup cs =>
   simp only [toldV,ren_tup] at h ⊢
   cases h with
   | tup _ arr hl hr =>
    refine .tup _ arr (by simpa using hl) (fun i h1 h2=>?_)
    have q:=hr i (by simpa using h1) h2
    simp only [List.getElem_map] at q ⊢
    exact ih _ _ q
  | _=>exact h.mono hle
theorem toldLs_rep {l k:Nat} {o:Option (Nat × Res)} (hle:G.le G') (ho:ToldOK G G' σ δ l k o) {cs:List V} {vs:List Value} (h:RepL G (cs.map (V.ren σ δ)) vs):RepL G' ((cs.map (toldV l k o 3)).map (V.ren σ δ)) vs :=
 ⟨by simpa using h.1,fun i p q=>by
  have r:=h.2 i (by simpa using p) q
  simp only [List.getElem_map] at r ⊢
  exact ⟨told_cell 3 _ r.1,told_rep hle ho 3 _ _ r.2⟩⟩
theorem toldR_rep {l k:Nat} {o:Option (Nat × Res)} (hle:G.le G') (ho:ToldOK G G' σ δ l k o) {g:Nat} {r:Res} (h:RRep G g w (r.ren σ δ)):RRep G' g w ((toldR l k o r).ren σ δ):=by
 cases r with
 | box cs =>
  obtain ⟨b,arr,T,h1,h2,h3⟩:=h
  exact ⟨b,arr,T,by simpa using hle.2 _ _ h1,h2,toldLs_rep hle ho h3⟩
 | vec T es =>
  obtain ⟨b,sz,C,h1,h2,h3,h4,h5⟩:=h
  refine ⟨b,sz,C,hle.2 _ _ h1,by simpa using h2,fun e he=>?_,⟨h4.1,fun h=>h4.2 (by simpa using h)⟩,fun hC=>?_⟩
  ·simp only [List.mem_map] at he
   obtain ⟨e1,⟨e2,he2,rfl⟩,rfl⟩:=he
   have:=h3 (e2.map (V.ren σ δ)) (List.mem_map_of_mem he2)
   simpa using this
  ·obtain ⟨arr,h6,h7,h8⟩:=h5 hC
   refine ⟨arr,h6,h7,?_⟩
   have q:RepL G (es.flatten.map (V.ren σ δ)) (arr.toList.take (es.length * sz)):=by
    rw [List.map_flatten]
    simpa using h8
   have q2:=toldLs_rep hle ho q
   rw [List.map_flatten,List.map_flatten] at q2
   simpa using q2
 | map es=>exact h.keep hle fun _ _=>rfl
 | loop fr ps asg body N st=>exact h.keep hle fun _ _=>rfl
 | dead=>trivial
theorem owns_told (G:Gh) (l k:Nat) (o:Option (Nat × Res)) (g:Nat) (r:Res):owns G g ((toldR l k o r).ren σ δ) = owns G g (r.ren σ δ):=by cases r <;> rfl

theorem told_get {k:Nat} {st:XS} {l j:Nat} {x:Nat × Res} (h:((told1 k st).s.emb σ pre).get l j = some x) :
  ¬ (l = st.s.up.length + pre.length∧j = k)∧((st.s.emb σ pre).get l j = some x∨∃ r,(st.s.emb σ pre).get l j = some (x.1,r.ren σ pre.length)∧x.2 = (toldR st.s.up.length k (st.s.loc.get k) r).ren σ pre.length):=by
 have hlen:(st.s.emb σ pre).up.length = st.s.up.length + pre.length:=by rw [emb_len]
 have hup:((told1 k st).s.emb σ pre).up = (st.s.emb σ pre).up:=rfl
 unfold St.get at h ⊢
 rw [hup] at h
 by_cases e:l = (st.s.emb σ pre).up.length
 ·rw [if_pos e] at h ⊢
  have h':((toldL st.s.up.length k (st.s.loc.get k) st.s.loc).ren σ pre.length).get j = some x:=h
  rw [Level.get_ren,toldL_get] at h'
  by_cases hj:j = k
  ·rw [if_pos hj] at h'; cases h'
  ·rw [if_neg hj] at h'
   refine ⟨fun hh=>hj hh.2,.inr ?_⟩
   have hl:(st.s.emb σ pre).loc.get j = (st.s.loc.get j).map fun p=>(σ p.1,p.2.ren σ pre.length):=Level.get_ren _ _
   rw [hl]
   cases hg:st.s.loc.get j with
   | none=>rw [hg] at h'; cases h'
   | some y =>
    rw [hg] at h'
    obtain ⟨g,r⟩:=y
    cases h'
    exact ⟨r,rfl,rfl⟩
 ·rw [if_neg e] at h ⊢
  exact ⟨fun hh=>e (by rw [hlen]; exact hh.1),.inl h⟩

theorem told_inv {k:Nat} {st:XS} (hI:Inv G (st.s.emb σ pre) w):∃ G',G.le G'∧Inv G' ((told1 k st).s.emb σ pre) w∧ToldOK G G' σ pre.length st.s.up.length k (st.s.loc.get k):=by
 have hget:(st.s.emb σ pre).get (st.s.up.length + pre.length) k = (st.s.loc.get k).map fun p=>(σ p.1,p.2.ren σ pre.length):=by
  rw [emb_get]
  unfold St.get
  rw [if_pos rfl]
 have main:∃ G' s0,G.le G'∧Inv G' s0 w∧(∀ l j,¬ (l = st.s.up.length + pre.length∧j = k)→s0.get l j = (st.s.emb σ pre).get l j)∧ToldOK G G' σ pre.length st.s.up.length k (st.s.loc.get k):=by
  cases ho:st.s.loc.get k with
  | none=>exact ⟨G,_,⟨fun _ _ h=>h,fun _ _ h=>h,rfl⟩,hI,fun _ _ _=>rfl,fun γ T es h=>by cases h⟩
  | some x =>
   obtain ⟨γ,r⟩:=x
   rw [ho] at hget
   cases r with
   | vec T es =>
    have hget:(st.s.emb σ pre).get (st.s.up.length + pre.length) k = some (σ γ,.vec T (es.map (List.map (V.ren σ pre.length)))):=hget
    obtain ⟨G',hle,hI',hs⟩:=hI.lockRow hget
    refine ⟨G',_,hle,hI',fun l j hne=>?_,fun γ' T' es' h v hv=>?_⟩
    ·rw [St.get_put _ hget,if_neg hne]
    ·cases h
     have:=vec_shut hI hle hget (m:=es.length) (by simp) hs hv
     rwa [List.take_of_length_le (by simp)] at this
   | box cs=>exact ⟨G,_,⟨fun _ _ h=>h,fun _ _ h=>h,rfl⟩,hI,fun _ _ _=>rfl,fun γ T es h=>by cases h⟩
   | map cs=>exact ⟨G,_,⟨fun _ _ h=>h,fun _ _ h=>h,rfl⟩,hI,fun _ _ _=>rfl,fun γ T es h=>by cases h⟩
   | loop _ _ _ _ _ _=>exact ⟨G,_,⟨fun _ _ h=>h,fun _ _ h=>h,rfl⟩,hI,fun _ _ _=>rfl,fun γ T es h=>by cases h⟩
   | dead=>exact ⟨G,_,⟨fun _ _ h=>h,fun _ _ h=>h,rfl⟩,hI,fun _ _ _=>rfl,fun γ T es h=>by cases h⟩
 obtain ⟨G',s0,hle,hI',hg,ht⟩:=main
 refine ⟨G',hle,?_,ht⟩
 have look:∀ {l j g r},((told1 k st).s.emb σ pre).get l j = some (g,r)→∃ r0,s0.get l j = some (g,r0)∧RRep G' g w r∧owns G' g r = owns G' g r0:=by
  intro l j g r h
  obtain ⟨hne,h1⟩:=told_get h
  rw [hg _ _ hne]
  rcases h1 with h1 | ⟨r0,h1,h2⟩
  ·exact ⟨r,h1,hI'.res l j g r (by rw [hg _ _ hne]; exact h1),rfl⟩
  ·simp only at h1 h2
   subst h2
   exact ⟨_,h1,toldR_rep hle ht (hI.res _ _ _ _ h1),owns_told _ _ _ _ _ _⟩
 refine ⟨hI'.sl,fun l k g r h=>(by obtain ⟨r0,_,h2,_⟩:=look h; exact h2),fun l k g r l' k' g' r' b h1 h2 h3 h4=>?_,fun l k g r b h1 h2=>?_,hI'.fresh,hI'.env⟩
 ·rcases look h1 with ⟨r1,e1,_,o1⟩
  rcases look h2 with ⟨r2,e2,_,o2⟩
  exact hI'.sep _ _ _ _ _ _ _ _ _ e1 e2 (o1 ▸ h3) (o2 ▸ h4)
 ·rcases look h1 with ⟨r1,e1,_,o1⟩
  exact hI'.out _ _ _ _ _ e1 (o1 ▸ h2)

theorem told1_code {n N:Nat} {ρ:Option Nat} {c:Code} {K:Exit→Fr→St→Prop} {k:Nat} {st:XS} (h:CodeOK P n N ρ c K ((told1 k st).fr.ren σ pre.length) ((told1 k st).s.emb σ pre)):CodeOK P n N ρ c K (st.fr.ren σ pre.length) (st.s.emb σ pre):=by
 intro G0 G a w hR
 obtain ⟨G',hle,hI',ht⟩:=told_inv (k:=k) hR.inv
 refine h G0 G' a w ⟨⟨fun _ _ h=>hle.1 _ _ (hR.le.1 _ _ h),fun _ _ h=>hle.2 _ _ (hR.le.2 _ _ h),hle.3.trans hR.le.3⟩,hI',fun j c v hj=>?_,hR.size,hR.lvl,?_⟩
 ·rw [Fr.get_ren] at hj
  have hj':((toldF st.s.up.length k (st.s.loc.get k) st.fr).get j).map (fun p=>(p.1,p.2.ren σ pre.length)) = some (c,v):=hj
  rw [toldF_get] at hj'
  cases hg:st.fr.get j with
  | none=>rw [hg] at hj'; cases hj'
  | some y =>
   rw [hg] at hj'
   obtain ⟨c0,v0⟩:=y
   cases hj'
   obtain ⟨x,q1,q2,q3⟩:=hR.fr j c0 (v0.ren σ pre.length) (by rw [Fr.get_ren,hg]; rfl)
   exact ⟨x,q1,fun hc=>told_rep hle ht 3 _ _ (q2 hc),q3⟩
 ·obtain ⟨rs,m1,m2,m3⟩:=hR.marks
  exact ⟨rs,m1,m2,fun r hr=>⟨(m3 r hr).1,hle.1 _ _ (m3 r hr).2⟩⟩

theorem told_bd {l k c:Nat} {o:Option (Nat × Res)} (ho:∀ γ T es,o = some (γ,.vec T es)→∀ σ σ' δ,agree c σ σ'→es.map (List.map (V.ren σ δ)) = es.map (List.map (V.ren σ' δ))) {σ σ':Nat→Nat} {δ:Nat} (ha:agree c σ σ'):∀ (f:Nat) (v:V),v.ren σ δ = v.ren σ' δ→(toldV l k o f v).ren σ δ = (toldV l k o f v).ren σ' δ
 | 0,v,h=>h
 | f + 1,v,h=>by
  have ih:=told_bd (l:=l) (k:=k) ho ha (δ:=δ) f
  have lst:∀ cs:List V,cs.map (V.ren σ δ) = cs.map (V.ren σ' δ)→(cs.map (toldV l k o f)).map (V.ren σ δ) = (cs.map (toldV l k o f)).map (V.ren σ' δ):=by
   intro cs h
   simp only [List.map_map]
   refine List.map_congr_left fun x hx=>?_
   exact ih x (List.map_inj_left.1 h x hx)
  cases v with
  | vec l' k' g m =>
   simp only [toldV]
   split
   ·split
    ·simp only [ren_list]; rw [ho _ _ _ rfl σ σ' δ ha]
    ·exact h
   ·exact h
  | agg cs =>
   simp only [toldV,ren_agg,V.agg.injEq] at h ⊢
   exact lst cs h
  | tup cs =>
   simp only [toldV,ren_tup,V.tup.injEq] at h ⊢
   exact lst cs h
  | _=>exact h

theorem vec_bd {c k γ:Nat} {T:TypeId} {es:List (List V)} {L:Level} (hL:∀ σ σ' δ,agree c σ σ'→L.ren σ δ = L.ren σ' δ) (h:L.get k = some (γ,.vec T es)):∀ σ σ' δ,agree c σ σ'→es.map (List.map (V.ren σ δ)) = es.map (List.map (V.ren σ' δ)):=by
 intro σ σ' δ ha
 have e1:(L.ren σ δ).get k = some (σ γ,.vec T (es.map (List.map (V.ren σ δ)))):=by rw [Level.get_ren,h]; rfl
 have e2:(L.ren σ' δ).get k = some (σ' γ,.vec T (es.map (List.map (V.ren σ' δ)))):=by rw [Level.get_ren,h]; rfl
 rw [hL σ σ' δ ha,e2] at e1
 simp only [Option.some.injEq,Prod.mk.injEq,Res.vec.injEq] at e1
 exact e1.2.2.symm
theorem loc_bd {st:XS} (h:Bd st):∀ σ σ' δ,agree st.c σ σ'→st.s.loc.ren σ δ = st.s.loc.ren σ' δ:=by
 intro σ σ' δ ha
 have q:=h.s σ σ' (List.replicate δ []) ha
 simp only [St.emb,St.mk.injEq,List.length_replicate] at q
 exact q.2
theorem toldL_bd {l k c:Nat} {o:Option (Nat × Res)} (ho:∀ γ T es,o = some (γ,.vec T es)→∀ σ σ' δ,agree c σ σ'→es.map (List.map (V.ren σ δ)) = es.map (List.map (V.ren σ' δ))) {σ σ':Nat→Nat} {δ:Nat} (ha:agree c σ σ'):∀ (L:Level),L.ren σ δ = L.ren σ' δ→(toldL l k o L).ren σ δ = (toldL l k o L).ren σ' δ
 | [],_=>rfl
 | (j,g,r) :: L,h=>by
  simp only [Level.ren,List.map_cons,List.cons.injEq,Prod.mk.injEq,true_and] at h
  have ih:=toldL_bd (l:=l) (k:=k) ho ha L h.2
  simp only [toldL]
  split
  ·exact ih
  ·simp only [Level.ren,List.map_cons,List.cons.injEq,Prod.mk.injEq,true_and]
   refine ⟨⟨h.1.1,?_⟩,ih⟩
   have hr:=h.1.2
   have lst:∀ cs:List V,cs.map (V.ren σ δ) = cs.map (V.ren σ' δ)→(cs.map (toldV l k o 3)).map (V.ren σ δ) = (cs.map (toldV l k o 3)).map (V.ren σ' δ):=by
    intro cs h
    simp only [List.map_map]
    exact List.map_congr_left fun x hx=>told_bd ho ha 3 x (List.map_inj_left.1 h x hx)
   cases r with
   | box cs =>
    simp only [toldR,Res.ren,Res.box.injEq] at hr ⊢
    exact lst cs hr
   | vec T es =>
    simp only [toldR,Res.ren,Res.vec.injEq,true_and,List.map_map] at hr ⊢
    refine List.map_congr_left fun e he=>?_
    exact lst e (List.map_inj_left.1 hr e he)
   | _=>exact hr
theorem told1_ext {k:Nat} {st:XS} (h:Bd st):Ext st (told1 k st):=by
 have ho:∀ γ T es,st.s.loc.get k = some (γ,.vec T es)→∀ σ σ' δ,agree st.c σ σ'→es.map (List.map (V.ren σ δ)) = es.map (List.map (V.ren σ' δ)):=fun γ T es hg=>vec_bd (loc_bd h) hg
 refine ⟨Nat.le_refl _,⟨fun σ σ' δ ha=>?_,fun σ σ' pre ha=>?_,fun l j γ fr ps asg body N ls hg=>?_⟩,rfl⟩
 ·have q:=h.f σ σ' δ ha
  simp only [told1,toldF,Fr.ren,List.map_map] at q ⊢
  refine List.map_congr_left fun x hx=>?_
  have:=List.map_inj_left.1 q x hx
  simp only [Prod.mk.injEq,true_and] at this
  simp only [Function.comp,Prod.mk.injEq,true_and]
  exact told_bd ho ha 3 _ this
 ·have q:=h.s σ σ' pre ha
  simp only [St.emb,St.mk.injEq] at q
  simp only [told1,St.emb,St.mk.injEq]
  exact ⟨q.1,toldL_bd ho ha _ q.2⟩
 ·have hg':(told1 k st).s.get l j = some (γ,.loop fr ps asg body N ls):=hg
  refine h.lp l j γ fr ps asg body N ls ?_
  unfold St.get at hg' ⊢
  have hup:(told1 k st).s.up = st.s.up:=rfl
  rw [hup] at hg'
  split
  ·rename_i e
   rw [if_pos e] at hg'
   have hg':(toldL st.s.up.length k (st.s.loc.get k) st.s.loc).get j = some (γ,.loop fr ps asg body N ls):=hg'
   rw [toldL_get] at hg'
   split at hg'
   ·cases hg'
   ·cases hq:st.s.loc.get j with
    | none=>rw [hq] at hg'; cases hg'
    | some y =>
     rw [hq] at hg'
     obtain ⟨g,r⟩:=y
     cases r with
     | loop _ _ _ _ _ _=>exact hg'
     | _=>simp [toldR] at hg'
  ·rename_i e; rw [if_neg e] at hg'; exact hg'

theorem toldO_c:∀ (ks:List Nat) (st:XS),(toldO ks st).c = st.c
 | [],_=>rfl
 | k :: ks,st=>toldO_c ks (told1 k st)
theorem toldO_ext:∀ (ks:List Nat) {st:XS},Bd st→Ext st (toldO ks st)
 | [],st,h=>⟨Nat.le_refl _,h,rfl⟩
 | k :: ks,st,h=>by
  have h1:=told1_ext (k:=k) h
  have h2:=toldO_ext ks h1.bd
  exact ⟨Nat.le_trans h1.c h2.c,h2.bd,h2.n.trans h1.n⟩
theorem toldO_code {n N:Nat} {ρ:Option Nat} {c:Code} {K:Exit→Fr→St→Prop}:∀ (ks:List Nat) {st:XS},CodeOK P n N ρ c K ((toldO ks st).fr.ren σ pre.length) ((toldO ks st).s.emb σ pre)→CodeOK P n N ρ c K (st.fr.ren σ pre.length) (st.s.emb σ pre)
 | [],_,h=>h
 | k :: ks,st,h=>told1_code (k:=k) (toldO_code ks (st:=told1 k st) h)

end Go.Pg
