/- A row is read as a list by one call that gives a number or a bool; it stays a row. No program in sight. -/
import Derived.Test.YtfbbnkaahnpicaaQd
namespace Go.Pg
variable {P:Program} {σ σ':Nat→Nat} {δ:Nat} {pre:List Level} {s:St} {fr:Fr} {G G':Gh} {w:World}

def rowsV (st:XS):List Nat→V→V
 | [],v=>v
 | k :: ks,v=>rowsV st ks (toldV st.s.up.length k (st.s.loc.get k) 3 v)
def flatR:V→Bool
 | .int ..=>true
 | .bool _=>true
 | _=>false
noncomputable def callU (cf:CF) (c0:CF0) (ks:List Nat):CF:=fun f args st=>match c0 f (args.map (rowsV st ks)) with
 | some r=>Bool.rec (cf f args st) (some (r,st)) (flatR r)
 | none=>cf f args st
noncomputable def cfU (ks:List Nat) (E:XE):XE:=match ks with
 | []=>E
 | _ :: _=>⟨callU E.cf E.c0 ks,E.cy,E.c0,E.co,E.lit⟩

def allG (G:Gh) (w:World):Gh:={ sl:=fun b=>w.heap[b]?,be:=G.be,env:=G.env }
def allE (G:Gh) (w:World):Gh:={ sl:=fun b=>w.heap[b]?,be:=G.be,env:=(w.os,w.output,w.heap.size) }
theorem allG_le (hI:Inv G s w):G.le (allG G w):=⟨hI.sl,fun _ _ h=>h,rfl⟩
theorem allG_lec:(allG G w).lec (allE G w):=⟨fun _ _ _ _ h=>h,fun _ _ h=>h⟩
theorem allE_inv (hI:Inv G s w):Inv (allE G w) ⟨[],[]⟩ w where
 sl _ _ h:=h
 res l k g r h:=by simp [St.get] at h
 sep l k g r l' k' g' r' b h:=by simp [St.get] at h
 out l k g r b h:=by simp [St.get] at h
 fresh:=hI.fresh
 env:=⟨rfl,rfl,Nat.le_refl _,fun b c T fz h1 h2=>by
  have h3:=(Array.getElem?_eq_some_iff.1 h2).1
  have h4:w.heap.size≤b:=h1
  omega⟩
theorem vec_allG {l k g n:Nat} {v:Value} (h:RepV (allG G w) (.vec l k g n) v):RepV G (.vec l k g n) v:=by
 cases h with
 | vec _ _ _ _ b sz C a h1 h2 h3=>exact .vec _ _ _ _ b sz C a h1 h2 h3
theorem rows_told {st:XS} (hI:Inv G (st.s.emb σ pre) w) (k:Nat):ToldOK (allG G w) (allG G w) σ pre.length st.s.up.length k (st.s.loc.get k):=by
 intro γ T es ho v hv
 have hget:(st.s.emb σ pre).get (st.s.up.length + pre.length) k = some (σ γ,.vec T (es.map (List.map (V.ren σ pre.length)))):=by
  rw [emb_get]
  unfold St.get
  rw [if_pos rfl,ho]
  rfl
 have:=vec_shut hI (allG_le hI) hget (m:=es.length) (by simp) (fun _ _=>rfl) (vec_allG hv)
 rwa [List.take_of_length_le (by simp)] at this
theorem rowsV_rep {st:XS} (hI:Inv G (st.s.emb σ pre) w):∀ (ks:List Nat) (x:V) (v:Value),RepV (allG G w) (x.ren σ pre.length) v→RepV (allG G w) ((rowsV st ks x).ren σ pre.length) v
 | [],_,_,h=>h
 | k :: ks,x,v,h=>rowsV_rep hI ks _ v (told_rep (Gh.le_refl _) (rows_told hI k) 3 x v h)
theorem inv_back {s':St} {w':World} (hI:Inv G s w) (hle:(allE G w).le G') (hI':Inv G' s' w'):Inv G s w':=by
 have he:G'.env = (w.os,w.output,w.heap.size):=hle.e
 obtain ⟨h1,h2,h3,h4⟩:=hI'.env
 rw [he] at h1 h2 h3 h4
 have hold:∀ i,i < w.heap.size→w'.heap[i]? = w.heap[i]?:=fun i hi=>by
  have:=hI'.sl i w.heap[i] (hle.1 i _ (show w.heap[i]? = some w.heap[i] by simp [hi]))
  rw [this]; simp [hi]
 obtain ⟨e1,e2,e3,e4⟩:=hI.env
 refine ⟨fun b o h=>?_,fun l k g r h=>(hI.res l k g r h).keep (Gh.le_refl _) fun b hb=>hold b (hI.out _ _ _ _ _ h hb).2,hI.sep,fun l k g r b h hb=>⟨(hI.out _ _ _ _ _ h hb).1,Nat.lt_of_lt_of_le (hI.out _ _ _ _ _ h hb).2 h3⟩,hI.fresh,⟨h1.trans e1,h2.trans e2,Nat.le_trans e3 h3,fun b c T fz hb hc=>?_⟩⟩
 ·have h:=hI.sl b o h
  rw [hold b (Array.getElem?_eq_some_iff.1 h).1]
  exact h
 ·rcases Nat.lt_or_ge b w.heap.size with hl | hl
  ·rw [hold b hl] at hc
   exact e4 b c T fz hb hc
  ·exact h4 b c T fz hl hc
theorem flat_rep {r:V} {v:Value} (hf:flatR r = true) (h:RepV G' r v):RepV G r v:=by
 cases r with
 | int k n=>cases h; exact .int _ _
 | bool b=>cases h; exact .bool _
 | _=>cases hf
theorem callU_ok {cf:CF} (hcf:CallX P cf) {c0:CF0} (hc0:CallX0 P c0) (ks:List Nat):CallX P (callU cf c0 ks):=by
 intro f args st r st' hx hbd hargs
 unfold callU at hx
 split at hx
 ·rename_i r0 h0
  cases hf:flatR r0 with
  | false =>
   rw [hf] at hx
   exact hcf f args st r st' hx hbd hargs
  | true =>
   rw [hf] at hx
   cases hx
   obtain ⟨hA,h1,h2⟩:=hc0 _ _ _ h0
   refine ⟨⟨Nat.le_refl _,hbd,rfl⟩,fun σ σ' δ _=>by rw [h2,h2],rfl,fun σ pre K hk=>⟨(hA ⟨[],[]⟩).1,fun G vals w R hI ha hR=>?_⟩⟩
   refine (hA ⟨[],[]⟩).2 (allE G w) vals w R (allE_inv hI) ?_ fun G' r' v w' s' hle hI' hv hlen hk'=>?_
   ·refine ⟨by simpa using ha.1,fun i p q=>?_⟩
    have hr:=ha.2 i (by simpa using p) q
    simp only [List.getElem_map] at hr ⊢
    have h3:=rowsV_rep hI ks _ _ (hr.mono (allG_le hI))
    rw [h1 _ (List.mem_map_of_mem (List.getElem_mem _))] at h3
    exact h3.monoC allG_lec
   ·obtain ⟨rfl,rfl⟩:=hk'
    have:=hk σ (agree.refl _ _)
    rw [h2] at this
    exact hR G r' v w' _ (Gh.le_refl _) (inv_back hI hle hI') (flat_rep hf hv) rfl this
 ·exact hcf f args st r st' hx hbd hargs
theorem cfU_ok {E:XE} (h:XEOK P E) (ks:List Nat):XEOK P (cfU ks E):=by
 cases ks with
 | nil=>exact h
 | cons k ks=>exact ⟨callU_ok h.cf h.c0 _,h.cy,h.c0,h.co⟩
end Go.Pg
