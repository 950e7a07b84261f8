/- Running a Go function upon abstract values, by computing: operations in a row, regions that draw their order. No program in sight. -/
import Derived.Test.YtkemmiljbaneoaaPx
namespace Go.Pg
variable {P:Program} {Ω:OwnT P} {σ σ':Nat→Nat} {δ:Nat} {pre:List Level} {s:St} {fr:Fr} {g:Bool}

def mapO {α β:Type} (f:α→Option β):List α→Option (List β)
 | []=>some []
 | x :: l=>match f x with
  | some y=>match mapO f l with
   | some r=>some (y :: r)
   | none=>none
  | none=>none
theorem mapO_eq {α β:Type} (f:α→Option β):∀ (l:List α),mapO f l = l.mapM f
 | []=>rfl
 | x :: l=>by
  simp only [mapO,List.mapM_cons,← mapO_eq f l]
  cases f x with
  | none=>rfl
  | some y=>cases mapO f l <;> rfl

abbrev CF:=FuncId→List V→XS→Option (V × XS)
abbrev CY:=Nat→Nat→Nat→List V→XS→Option (V × XS)
abbrev CF0:=FuncId→List V→Option V
abbrev CFO:=FuncId→List V→Tmp→Option Mk
structure XE where
 cf:CF
 cy:CY
 c0:CF0
 co:CFO
 lit:Tmp→Bool

def CallX (P:Program) (cf:CF):Prop:=∀ f args st r st',cf f args st = some (r,st')→Bd st→(∀ v ∈ args,BdV st.c v)→Ext st st'∧BdV st'.c r∧st'.fr = st.fr ∧
 ∀ (σ:Nat→Nat) (pre:List Level) (K:V→St→Prop),(∀ σ',agree st.c σ σ'→K (r.ren σ' pre.length) (st'.s.emb σ' pre))→ACall P f (args.map (V.ren σ pre.length)) (st.s.emb σ pre) K
def YldX (P:Program) (cy:CY):Prop:=∀ l q γ vs st r st',cy l q γ vs st = some (r,st')→Bd st→(∀ v ∈ vs,BdV st.c v)→Ext st st'∧BdV st'.c r∧st'.fr = st.fr ∧
 ∃ fr0 ps asg body N,st.s.get l q = some (γ,.loop fr0 ps asg body N .ready)∧∀ (σ:Nat→Nat) (pre:List Level) (k:V→St→Prop),(∀ σ',agree st.c σ σ'→k (r.ren σ' pre.length) (st'.s.emb σ' pre)) →
  RoundS P (l + pre.length) q (σ γ) (Fr.ren σ pre.length fr0) ps asg body N (vs.map (V.ren σ pre.length)) (st.s.emb σ pre) k
def CallX0 (P:Program) (cf:CF0):Prop:=∀ f args r,cf f args = some r→(∀ s,ACall P f args s fun r' s'=>r' = r∧s' = s)∧(∀ v ∈ args,∀ σ δ,v.ren σ δ = v)∧(∀ σ δ,r.ren σ δ = r)
def CallXO (P:Program) (co:CFO):Prop:=∀ f args d r,co f args d = some r→(∀ (s:St),ACall P f args s fun v s'=>∃ γ,v = r.val s.up.length d γ∧s' = s.put s.up.length d γ r.res) ∧
 (∀ v ∈ args,∀ σ δ,v.ren σ δ = v)∧(∀ σ δ,r.res.ren σ δ = r.res)∧plR r.res = true
structure XEOK (P:Program) (E:XE):Prop where
 cf:CallX P E.cf
 cy:YldX P E.cy
 c0:CallX0 P E.c0
 co:CallXO P E.co
def XEOK.tab {E:XE} (h:XEOK P E) (own:Oper→Bool):OwnT P:=⟨own,E.co,fun f args d r hc=>(h.co f args d r hc).1⟩

noncomputable def xCallY (cy:CY) (d:Option Tmp) (l q γ:Nat) (args:List Operand) (st:XS):Option XS:=match mapO (rdX st.fr) args with
 | some vs=>match cy l q γ vs st with
  | some (r,st')=>some { st' with fr:=putD st'.fr d true r }
  | none=>none
 | none=>none
noncomputable def xCall (cf:CF) (cy:CY) (d:Option Tmp) (f:Operand) (args:List Operand) (st:XS):Option XS:=match rdX st.fr f with
 | some (.fn fid first cap)=>match mapO (rdX st.fr) args with
  | some vs=>match cf fid ((first ++ vs ++ cap).map weakV) st with
   | some (r,st')=>some { st' with fr:=putD st'.fr d true r }
   | none=>none
  | none=>none
 | some (.yld l q γ)=>xCallY cy d l q γ args st
 | _=>none
noncomputable def xCallO (co:CFO) (d:Option Tmp) (f:Operand) (args:List Operand) (st:XS):Option XS:=match d,rdX st.fr f with
 | some d,some (.fn fid first cap)=>match mapO (rdX st.fr) args with
  | some vs=>match co fid ((first ++ vs ++ cap).map weakV) d with
   | some r=>some ⟨st.c + 1,(d,true,r.val st.s.up.length d st.c) :: st.fr,st.s.put st.s.up.length d st.c r.res⟩
   | none=>none
  | none=>none
 | _,_=>none
noncomputable def xVal (P:Program) (o:Oper) (st:XS):Option XS:=match valX P o st.fr st.s with
 | some v=>some { st with fr:=putD st.fr o.dst true v }
 | none=>none
noncomputable def xCalF (E:XE) (own:Bool) (d:Option Tmp) (f:Operand) (args:List Operand) (st:XS):Option XS:=Bool.rec (xCall E.cf E.cy d f args st) (match xCallO E.co d f args st with
 | some st'=>some st'
 | none=>xCall E.cf E.cy d f args st) own
noncomputable def xCal (P:Program) (E:XE) (own:Oper→Bool) (o:Oper) (c:Call) (st:XS):Option XS:=match c.callee with
 | .value f=>xCalF E (own o) o.dst f c.args.toList st
 | .builtin .append=>xAppend P o.dst c.args.toList c.argTypes.toList st
 | .builtin .clear=>xClear P o.dst c.args.toList c.argTypes.toList st
 | .builtin .copy=>xCopy P o.dst c.args.toList c.argTypes.toList st
 | _=>xVal P o st
noncomputable def stepX (P:Program) (E:XE) (own:Oper→Bool) (o:Oper) (st:XS):Option XS:=match o.op with
 | .alloc T=>xAlloc P o.dst T st
 | .box _ x=>xBox o.dst x st
 | .makeMap _ r=>xMap o.dst r st
 | .makeSlice T x y=>xMake P o.dst T x y st
 | .store T x y=>xStore P o.dst T x y st
 | .mapUpdate T x i y=>xUpd P o.dst T x i y st
 | .call c=>xCal P E own o c st
 | _=>xVal P o st

theorem xVal_ok {o:Oper} {st st':XS} (h:Bd st) (hx:xVal P o st = some st'):StepX P o st st':=by
 unfold xVal at hx
 split at hx
 ·rename_i v hv; cases hx; exact stepX_val h (valX_spec hv)
 ·cases hx

theorem mapO_bd {st:XS} (h:Bd st):∀ {args:List Operand} {vs:List V},mapO (rdX st.fr) args = some vs→∀ v ∈ vs,BdV st.c v
 | [],vs,e,v,hv=>by cases e; cases hv
 | x :: l,vs,e,v,hv=>by
  simp only [mapO] at e
  split at e
  ·rename_i y hy
   split at e
   ·rename_i r hr
    cases e
    rcases List.mem_cons.1 hv with rfl | hv
    ·exact h.rd hy
    ·exact mapO_bd h hr v hv
   ·cases e
  ·cases e

theorem bd_weak {c:Nat} {v:V} (h:BdV c v):BdV c (weakV v):=fun σ σ' δ ha=>by rw [← weakV_ren,← weakV_ren,h σ σ' δ ha]
theorem bd_fn {c:Nat} {f:FuncId} {xs ys:List V} (h:BdV c (.fn f xs ys)):(∀ v ∈ xs,BdV c v)∧(∀ v ∈ ys,BdV c v):=by
 refine ⟨fun v hv σ σ' δ ha=>?_,fun v hv σ σ' δ ha=>?_⟩
 ·have:=h σ σ' δ ha
  simp only [ren_fn,V.fn.injEq] at this
  exact List.map_inj_left.1 this.2.1 v hv
 ·have:=h σ σ' δ ha
  simp only [ren_fn,V.fn.injEq] at this
  exact List.map_inj_left.1 this.2.2 v hv

theorem map_weak_ren (l:List V):(l.map weakV).map (V.ren σ δ) = (l.map (V.ren σ δ)).map weakV:=by
 simp only [List.map_map]
 congr 1
 funext v
 exact (weakV_ren v).symm

theorem xCallO_ok {E:XE} (hE:XEOK P E) {own:Oper→Bool} {o:Oper} (hown:own o = true) {f:Operand} {args:Array Operand} {Ts:Array TypeId} {st st':XS} (h:Bd st) (ho:o.op = .call { callee:=.value f,args:=args,argTypes:=Ts }) (hx:xCallO E.co o.dst f args.toList st = some st'):NewX P (hE.tab own) o st st':=by
 unfold xCallO at hx
 split at hx
 ·rename_i d fid first cap hd hf
  split at hx
  ·rename_i vs hvs
   split at hx
   ·rename_i r hc
    cases hx
    obtain ⟨_,hcl,hr,hpl⟩:=hE.co _ _ _ _ hc
    refine ⟨laid_extM h hpl (fun σ σ' δ _=>by rw [hr,hr]),d,hd,fun σ pre k hk=>⟨r,?_,fun γ=>?_⟩⟩
    ·have hcd:callD true o (st.fr.ren σ pre.length) = some (fid,(first ++ vs ++ cap).map weakV):=by
      rw [mapO_eq,rdX_fun] at hvs
      rw [rdX_eq] at hf
      simp only [callD,ho,rdG_fun,hf,Option.map_some,ren_fn,mapM_ren hvs,Option.some.injEq,Prod.mk.injEq,true_and]
      have e:((first ++ vs ++ cap).map weakV).map (V.ren σ pre.length) = (first ++ vs ++ cap).map weakV:=by
       conv=>rhs; rw [← List.map_id ((first ++ vs ++ cap).map weakV)]
       exact List.map_congr_left fun v hv=>hcl v hv σ _
      rw [map_weak_ren] at e
      simpa only [List.map_append] using e
     simp only [newD,ho,XEOK.tab,hown,if_true,hcd,hd,hc]
    ·have:=laid_kM h (d:=d) hr hk γ
     rw [← emb_len] at this
     exact this
   ·cases hx
  ·cases hx
 ·cases hx

theorem xCall_ok {cf:CF} {cy:CY} (hcf:CallX P cf) (hcy:YldX P cy) {o:Oper} {f:Operand} {args:Array Operand} {Ts:Array TypeId} {st st':XS} (h:Bd st) (ho:o.op = .call { callee:=.value f,args:=args,argTypes:=Ts }) (hx:xCall cf cy o.dst f args.toList st = some st'):StepX P o st st':=by
 unfold xCall at hx
 split at hx
 ·rename_i fid first cap hf
  split at hx
  ·rename_i vs hvs
   split at hx
   ·rename_i r st1 hr
    cases hx
    have b1:=bd_fn (h.rd hf)
    have b2:=mapO_bd h hvs
    obtain ⟨hE,hrb,hfr,hA⟩:=hcf _ _ _ _ _ hr h (fun v hv=>by
     obtain ⟨u,hu,rfl⟩:=List.mem_map.1 hv
     refine bd_weak ?_
     rcases List.mem_append.1 hu with hu | hu
     ·rcases List.mem_append.1 hu with hu | hu
      ·exact b1.1 u hu
      ·exact b2 u hu
     ·exact b1.2 u hu)
    refine ⟨⟨hE.c,hE.bd.putF hrb,hE.n⟩,fun σ pre k hk=>?_⟩
    rw [mapO_eq,rdX_fun] at hvs
    rw [rdX_eq] at hf
    unfold stepP
    simp only [ho,rdG_fun,hf,Option.map_some,ren_fn,mapM_ren hvs]
    refine .inl ⟨rfl,?_⟩
    have:=hA σ pre (fun r s'=>k (putD (st.fr.ren σ pre.length) o.dst true r) s') fun σ' ha=>?_
    ·rw [map_weak_ren] at this
     simpa only [List.map_append] using this
    ·have h1:=hk σ' ha
     rw [ren_putD,hfr,← h.f σ σ' _ ha] at h1
     exact h1
   ·cases hx
  ·cases hx
 ·rename_i l q γ hf
  unfold xCallY at hx
  split at hx
  ·rename_i vs hvs
   split at hx
   ·rename_i r st1 hr
    cases hx
    obtain ⟨hE,hrb,hfr,fr0,ps,asg,body,N,hget,hA⟩:=hcy _ _ _ _ _ _ _ hr h (mapO_bd h hvs)
    refine ⟨⟨hE.c,hE.bd.putF hrb,hE.n⟩,fun σ pre k hk=>?_⟩
    rw [mapO_eq,rdX_fun] at hvs
    rw [rdX_eq] at hf
    unfold stepP
    simp only [ho,rdG_fun,hf,Option.map_some,ren_yld,mapM_ren hvs,emb_get,hget,Res.ren]
    refine ⟨trivial,trivial,?_⟩
    refine hA σ pre (fun r s'=>k (putD (st.fr.ren σ pre.length) o.dst true r) s') fun σ' ha=>?_
    have h1:=hk σ' ha
    rw [ren_putD,hfr,← h.f σ σ' _ ha] at h1
    exact h1
   ·cases hx
  ·cases hx
 ·cases hx

theorem stepX_ok {E:XE} (hE:XEOK P E) {own:Oper→Bool} {o:Oper} {st st':XS} (h:Bd st) (hx:stepX P E own o st = some st'):StepX P o st st':=by
 unfold stepX at hx
 split at hx
 ·rename_i T ho; exact (xAlloc_ok (Ω:=OwnT.nothing P) h ho hx).step
 ·rename_i T x ho; exact (xBox_ok (Ω:=OwnT.nothing P) h ho hx).step
 ·rename_i T r ho; exact (xMap_ok (Ω:=OwnT.nothing P) h ho hx).step
 ·rename_i T x y ho; exact (xMake_ok (Ω:=OwnT.nothing P) h ho hx).step
 ·rename_i T x y ho; exact xStore_ok h ho hx
 ·rename_i T x i y ho; exact xUpd_ok h ho hx
 ·rename_i c ho
  obtain ⟨callee,args,Ts⟩:=c
  unfold xCal at hx
  split at hx
  ·rename_i f hc
   have hc:callee = .value f:=hc
   subst hc
   unfold xCalF at hx
   cases hown:own o with
   | false=>rw [hown] at hx; exact xCall_ok hE.cf hE.cy h ho hx
   | true =>
    rw [hown] at hx
    have hx:(match xCallO E.co o.dst f args.toList st with
     | some st'=>some st'
     | none=>xCall E.cf E.cy o.dst f args.toList st) = some st':=hx
    split at hx
    ·rename_i st1 h1; cases hx; exact (xCallO_ok hE hown h ho h1).step
    ·exact xCall_ok hE.cf hE.cy h ho hx
  ·rename_i hc
   have hc:callee = .builtin .append:=hc
   subst hc
   exact xAppend_ok h ho hx
  ·rename_i hc
   have hc:callee = .builtin .clear:=hc
   subst hc
   exact xClear_ok h ho hx
  ·rename_i hc
   have hc:callee = .builtin .copy:=hc
   subst hc
   exact xCopy_ok h ho hx
  ·exact xVal_ok h hx
 ·exact xVal_ok h hx

/-! ### Guards -/
noncomputable def gdX (fr:Fr) (gd:Option (Tmp × Bool)):Option Bool:=match gd with
 | none=>some true
 | some (d,want)=>match getF fr d with
  | some (c,.bool b)=>some (c && (b == want))
  | _=>none
theorem gdX_eq (gd:Option (Tmp × Bool)):gdX fr gd = gdV fr gd:=by
 cases gd with
 | none=>rfl
 | some p=>simp only [gdX,gdV,getF_eq]; rfl
theorem gdV_ren {gd:Option (Tmp × Bool)} (h:gdV fr gd = some g):gdV (fr.ren σ δ) gd = some g:=by
 cases gd with
 | none=>exact h
 | some p =>
  simp only [gdV] at h ⊢
  split at h
  ·rename_i c b e
   simp only [Fr.get_ren,e,Option.map_some,ren_bool]
   exact h
  ·cases h

noncomputable def xSkip (d:Option Tmp) (st:XS):XS:={ st with fr:=putD st.fr d false (.bool false) }
noncomputable def litX (P:Program) (lit:Tmp→Bool) (o:Oper) (st:XS):Option XS:=match o.op,o.dst with
 | .buildSlice T _ _,some d=>Bool.rec none (match elemT P T,valX P o st.fr st.s with
  | some (none,e),some (.list true (x :: es))=>Bool.rec none (some ⟨st.c + 1,(d,true,made (.vec e (x :: es)) st.s.up.length d st.c) :: st.fr,st.s.put st.s.up.length d st.c (.vec e (x :: es))⟩) (Nat.ble (x :: es).length maxLen)
  | _,_=>none) (lit d)
 | _,_=>none
theorem litX_ok {lit:Tmp→Bool} {o:Oper} {st st':XS} (h:Bd st) (hx:litX P lit o st = some st'):Ext st st' ∧
  ∀ (σ:Nat→Nat) (pre:List Level) (k:Fr→St→Prop),(∀ σ',agree st.c σ σ'→k (st'.fr.ren σ' pre.length) (st'.s.emb σ' pre))→litP P true o (st.fr.ren σ pre.length) (st.s.emb σ pre) k:=by
 unfold litX at hx
 split at hx
 ·rename_i T len parts d ho hd
  obtain ⟨_,hx⟩:=brec_opt hx
  split at hx
  ·rename_i e x es hel hv
   obtain ⟨hc,he⟩:=brec_some hx
   cases he
   have hv:=valX_spec hv
   have hb:=elems_bd h (h.val hv) (ys:=x :: es) rfl
   refine ⟨laid_ext h rfl fun σ σ' δ ha=>by simp only [Res.ren,hb σ σ' δ ha],fun σ pre k hk=>?_⟩
   have hv':=valD_ren (σ:=σ) (pre:=pre) hv
   unfold valD at hv'
   simp only [ho] at hv'
   obtain ⟨ps,h1,h2⟩:=Option.bind_eq_some_iff.1 hv'
   rw [ren_list] at h2
   refine ⟨T,len,parts,d,e,_,ps,ho,rfl,hd,hel,h1,h2,by simp,by simpa [Nat.ble_eq] using hc,fun γ=>?_⟩
   have:=laid_k h (d:=d) (r:=.vec e (x :: es)) (fun σ σ' δ ha=>by simp only [Res.ren,hb σ σ' δ ha]) hk γ
   rw [emb_len]
   simpa only [made,Res.ren] using this
  ·cases hx
 ·cases hx
def appB (all:List Oper) (t:Tmp):Bool:=all.any fun p=>match p.op,p.dst with
 | .call { callee:=.builtin .append,.. },some d=>Nat.beq d t
 | _,_=>false
noncomputable def takeGo (all:List Oper) (st:XS):List Operand→Option XS
 | []=>none
 | x :: r=>match x with
  | .tmp t=>Bool.rec (takeGo all st r) (match getF st.fr t with
   | some (true,.vec l q γ n)=>match st.s.get l q with
    | some (γ',.vec _ es)=>Bool.rec none (some ⟨st.c,(t,true,.list false (es.take n)) :: st.fr,st.s.put l q γ .dead⟩) (Nat.beq γ' γ && Nat.ble n es.length && Nat.blt γ st.c)
    | _=>none
   | _=>none) (appB all t)
  | _=>takeGo all st r
noncomputable def takeX (all:List Oper) (o:Oper) (st:XS):Option XS:=match o.op with
 | .call c=>match c.callee with
  | .value _=>takeGo all st c.args.toList
  | _=>none
 | _=>none
theorem takeGo_ok {all:List Oper} {st st1:XS} (h:Bd st):∀ {xs:List Operand},takeGo all st xs = some st1→Ext st st1 ∧
  ∀ (o:Oper) (σ:Nat→Nat) (pre:List Level) (k:Fr→St→Prop),stepP P true o (st1.fr.ren σ pre.length) (st1.s.emb σ pre) k→shutP P true o (st.fr.ren σ pre.length) (st.s.emb σ pre) k
 | [],hx=>by cases hx
 | x :: r,hx=>by
  unfold takeGo at hx
  split at hx
  ·rename_i t
   cases hA:appB all t with
   | false=>rw [hA] at hx; exact takeGo_ok h hx
   | true =>
    rw [hA] at hx
    have hx:(match getF st.fr t with
     | some (true,.vec l q γ n)=>match st.s.get l q with
      | some (γ',.vec _ es)=>Bool.rec none (some ⟨st.c,(t,true,.list false (es.take n)) :: st.fr,st.s.put l q γ .dead⟩) (Nat.beq γ' γ && Nat.ble n es.length && Nat.blt γ st.c)
      | _=>none
     | _=>none) = some st1:=hx
    split at hx
    ·rename_i l q γ n hg
     split at hx
     ·rename_i γ' T es hs
      obtain ⟨hc,he⟩:=brec_some hx
      simp only [Bool.and_eq_true] at hc
      obtain ⟨⟨h1,h2⟩,h3⟩:=hc
      have h1:=Nat.eq_of_beq_eq_true h1
      have h2:n≤es.length:=by simpa [Nat.ble_eq] using h2
      have h3:γ < st.c:=by simpa [Nat.blt_eq] using h3
      subst h1
      cases he
      rw [getF_eq] at hg
      have hb:∀ σ σ' δ,agree st.c σ σ'→es.map (List.map (V.ren σ δ)) = es.map (List.map (V.ren σ' δ)):=fun σ σ' δ ha=>by
       have:=bd_get h hs σ σ' δ ha
       simpa [Res.ren] using this
      have hv:BdV st.c (.list false (es.take n)):=fun σ σ' δ ha=>by
       simp only [ren_list,List.map_take,hb σ σ' δ ha]
      have hbd:Bd ⟨st.c,(t,true,.list false (es.take n)) :: st.fr,st.s.put l q γ' .dead⟩:=(h.putS (l:=l) (k:=q) (r:=.dead) h3 (fun _ _ _ _=>rfl)).putF (d:=some t) (c:=true) hv
      refine ⟨⟨Nat.le_refl _,hbd,St.put_len _ _ _ _ _⟩,fun o σ pre k hk=>⟨t,l + pre.length,q,σ γ',n,T,es.map (List.map (V.ren σ pre.length)),rfl,?_,?_,by simpa using h2,?_⟩⟩
      ·rw [Fr.get_ren,hg]; simp
      ·rw [emb_get,hs]; simp [Res.ren]
      ·change stepP P true o ((st.fr.put t true _).ren _ _) _ k at hk
       simp only [ren_put,ren_list,emb_put,Res.ren,List.map_take] at hk
       exact hk
     ·cases hx
    ·cases hx
  ·exact takeGo_ok h hx
noncomputable def opX (P:Program) (E:XE) (all:List Oper) (o:Oper) (st:XS):Option XS:=match gdX st.fr (gdL all o) with
 | some true=>match litX P E.lit o st with
  | some st'=>some st'
  | none=>match takeX all o st with
   | some st1=>stepX P E (ownOf all) o st1
   | none=>stepX P E (ownOf all) o st
 | some false=>some (xSkip o.dst st)
 | none=>none

theorem xSkip_ext {d:Option Tmp} {st:XS} (h:Bd st):Ext st (xSkip d st):=⟨Nat.le_refl _,h.putF (fun σ σ' δ _=>by simp),rfl⟩

theorem opX_ok {E:XE} (hE:XEOK P E) {all:List Oper} {o:Oper} {st st':XS} (h:Bd st) (hx:opX P E all o st = some st'):Ext st st'∧∃ g,(∀ σ δ,gdV (st.fr.ren σ δ) (gdL all o) = some g) ∧
  ∀ (σ:Nat→Nat) (pre:List Level) (k:Fr→St→Prop),(∀ σ',agree st.c σ σ'→k (st'.fr.ren σ' pre.length) (st'.s.emb σ' pre))→stepQ P g o (st.fr.ren σ pre.length) (st.s.emb σ pre) k:=by
 unfold opX at hx
 rw [gdX_eq] at hx
 split at hx
 ·rename_i hg
  split at hx
  ·rename_i st1 hl
   cases hx
   obtain ⟨h1,h2⟩:=litX_ok h hl
   exact ⟨h1,true,fun σ δ=>gdV_ren hg,fun σ pre k hk=>.inr (.inr (.inl (h2 σ pre k hk)))⟩
  ·split at hx
   ·rename_i st1 ht
    have ht':∃ xs,takeGo all st xs = some st1:=by
     unfold takeX at ht
     split at ht
     ·split at ht
      ·exact ⟨_,ht⟩
      ·cases ht
     ·cases ht
    obtain ⟨xs,ht'⟩:=ht'
    obtain ⟨hE1,hs1⟩:=takeGo_ok (P:=P) h ht'
    obtain ⟨h1,h2⟩:=stepX_ok hE hE1.bd hx
    exact ⟨⟨Nat.le_trans hE1.c h1.c,h1.bd,h1.n.trans hE1.n⟩,true,fun σ δ=>gdV_ren hg,fun σ pre k hk=>.inr (.inr (.inr (hs1 o σ pre k (h2 σ pre k fun σ' ha=>hk σ' (ha.mono hE1.c)))))⟩
   ·obtain ⟨h1,h2⟩:=stepX_ok hE h hx
    exact ⟨h1,true,fun σ δ=>gdV_ren hg,fun σ pre k hk=>.inl (h2 σ pre k hk)⟩
 ·rename_i hg
  cases hx
  refine ⟨xSkip_ext h,false,fun σ δ=>gdV_ren hg,fun σ pre k hk=>.inr (.inl ⟨rfl,.bool false,?_⟩)⟩
  have:=hk σ (agree.refl _ _)
  simpa only [xSkip,ren_putD,ren_bool] using this
 ·cases hx

noncomputable def opsX (P:Program) (E:XE) (all:List Oper):List Oper→XS→Option XS
 | [],st=>some st
 | o :: r,st=>match opX P E all o st with
  | some st'=>opsX P E all r st'
  | none=>none

theorem opsX_ok {E:XE} (hEE:XEOK P E) {all:List Oper}:∀ {l:List Oper} {st st':XS},Bd st→opsX P E all l st = some st'→Ext st st' ∧
  ∀ (σ:Nat→Nat) (pre:List Level) (K:Fr→St→Prop),(∀ σ',agree st.c σ σ'→K (st'.fr.ren σ' pre.length) (st'.s.emb σ' pre))→evalL P (l.map (gdL all)) l (st.fr.ren σ pre.length) (st.s.emb σ pre) K
 | [],st,st',h,hx=>by
  cases hx
  exact ⟨⟨Nat.le_refl _,h,rfl⟩,fun σ pre K hk=>hk σ (agree.refl _ _)⟩
 | o :: l,st,st',h,hx=>by
  simp only [opsX] at hx
  split at hx
  ·rename_i st1 h1
   obtain ⟨hE,g,hg,hs⟩:=opX_ok hEE h h1
   obtain ⟨hE',hs'⟩:=opsX_ok hEE hE.bd hx
   refine ⟨⟨Nat.le_trans hE.c hE'.c,hE'.bd,hE'.n.trans hE.n⟩,fun σ pre K hk=>?_⟩
   simp only [List.map_cons,evalL,hg]
   exact hs σ pre _ fun σ' ha=>hs' σ' pre K fun σ'' ha'=>hk σ'' (ha.trans ha' hE.c)
  ·cases hx

/-! ### Regions that draw -/
noncomputable def xCall0 (cf:CF0) (d:Option Tmp) (f:Operand) (args:List Operand) (st:XS):Option XS:=match rdX st.fr f with
 | some (.fn fid first cap)=>match mapO (rdX st.fr) args with
  | some vs=>match cf fid ((first ++ vs ++ cap).map weakV) with
   | some r=>some { st with fr:=putD st.fr d true r }
   | none=>none
  | none=>none
 | _=>none
noncomputable def noW (r:Option XS):Option (XS × Places):=match r with
 | some st=>some (st,[])
 | none=>none
noncomputable def xAppD (P:Program) (d:Option Tmp) (args:List Operand) (Ts:List TypeId) (st:XS):Option (XS × Places):=match xAppG elemsOf P d args Ts st with
 | some (st',l,q)=>some (st',[(l,q),(l,q + apK)])
 | none=>none
noncomputable def xCal0 (P:Program) (E:XE) (own:Oper→Bool) (o:Oper) (c:Call) (st:XS):Option (XS × Places):=match c.callee with
 | .value f=>Bool.rec (noW (xCall0 E.c0 o.dst f c.args.toList st)) (noW (xCallO E.co o.dst f c.args.toList st)) (own o)
 | .builtin .append=>xAppD P o.dst c.args.toList c.argTypes.toList st
 | _=>noW (xVal P o st)
noncomputable def xSto0 (P:Program) (d:Option Tmp) (T:TypeId) (x y:Operand) (st:XS):Option (XS × Places):=match xStore P d T x y st with
 | some st'=>some (st',placeS (Nat.beq (P.cellsOf T) 1) (rdX st.fr x))
 | none=>none
noncomputable def stepX0 (P:Program) (E:XE) (own:Oper→Bool) (o:Oper) (st:XS):Option (XS × Places):=match o.op with
 | .alloc T=>noW (xAlloc P o.dst T st)
 | .box _ x=>noW (xBox o.dst x st)
 | .makeMap _ r=>noW (xMap o.dst r st)
 | .makeSlice T x y=>noW (xMake P o.dst T x y st)
 | .store T x y=>xSto0 P o.dst T x y st
 | .call c=>xCal0 P E own o c st
 | _=>noW (xVal P o st)
noncomputable def opX0 (P:Program) (E:XE) (all:List Oper) (o:Oper) (st:XS):Option (XS × Places):=match gdX st.fr (gdL all o) with
 | some true=>stepX0 P E (ownOf all) o st
 | some false=>Bool.rec (some (xSkip o.dst st,[])) none (kA (ownOf all) o || kW o || kP o)
 | none=>none

theorem noW_some {r:Option XS} {st':XS} {wr:Places} (h:noW r = some (st',wr)):r = some st'∧wr = []:=by
 unfold noW at h
 split at h
 ·cases h; exact ⟨rfl,rfl⟩
 ·cases h

def PhOK (P:Program) (Ω:OwnT P) (all:List Oper) (o:Oper) (st st':XS) (wr:Places):Prop:=Ext st st' ∧
  ∀ (W:Places) (σ:Nat→Nat) (pre:List Level) (k:Fr→St→Prop),(∀ p ∈ readsR P o (rdX st.fr),p ∉ W)→(∀ p ∈ wr,p ∈ W)→(∀ σ',agree st.c σ σ'→k (st'.fr.ren σ' pre.length) (st'.s.emb σ' pre))→stepG P Ω (shW pre.length W) o (gdL all o) (st.fr.ren σ pre.length) (st.s.emb σ pre) k

theorem opX0_ok {E:XE} (hE:XEOK P E) {all:List Oper} {o:Oper} {st st':XS} {wr:Places} (h:Bd st) (hx:opX0 P E all o st = some (st',wr)):PhOK P (hE.tab (ownOf all)) all o st st' wr:=by
 have val:∀ {st'},(∀ σ δ,gdV (st.fr.ren σ δ) (gdL all o) = some true)→xVal P o st = some st'→PhOK P (hE.tab (ownOf all)) all o st st' wr:=by
  intro st' hg hx
  unfold xVal at hx
  split at hx
  ·rename_i v hv
   cases hx
   have hv:=valX_spec hv
   refine ⟨⟨Nat.le_refl _,h.putF (h.val hv),rfl⟩,fun W σ pre k hr _ hk=>.inl ⟨true,v.ren σ pre.length,⟨hg _ _,?_⟩,?_⟩⟩
   ·have hrd:∀ p ∈ readsR P o (rdG true (st.fr.ren σ pre.length)),p ∉ shW pre.length W:=by
     rw [rdG_fun,readsR_ren,← rdX_fun]
     exact shW_disj hr
    cases hi:idxO P o (rdG true (st.fr.ren σ pre.length)) with
    | true=>exact .inr (.inr (.inl (idx_of (valD_ren hv) hi hrd)))
    | false=>exact .inl ⟨_,below_hide _,valD_hide (valD_ren hv) hi hrd⟩
   ·have:=hk σ (agree.refl _ _)
    rwa [ren_putD] at this
  ·cases hx
 have new:∀ {st'},(∀ σ δ,gdV (st.fr.ren σ δ) (gdL all o) = some true)→NewX P (hE.tab (ownOf all)) o st st'→PhOK P (hE.tab (ownOf all)) all o st st' wr:=by
  intro st' hg hn
  obtain ⟨h1,d,hd,h2⟩:=hn
  refine ⟨h1,fun W σ pre k _ _ hk=>?_⟩
  obtain ⟨r,hr,h3⟩:=h2 σ pre k hk
  exact .inr (.inl ⟨r,d,⟨hg _ _,hd,hr⟩,h3⟩)
 unfold opX0 at hx
 rw [gdX_eq] at hx
 split at hx
 ·rename_i hg
  have hg':∀ σ δ,gdV (st.fr.ren σ δ) (gdL all o) = some true:=fun σ δ=>gdV_ren hg
  unfold stepX0 at hx
  split at hx
  ·rename_i T ho; exact new hg' (xAlloc_ok h ho (noW_some hx).1)
  ·rename_i T x ho; exact new hg' (xBox_ok h ho (noW_some hx).1)
  ·rename_i T r ho; exact new hg' (xMap_ok h ho (noW_some hx).1)
  ·rename_i T x y ho; exact new hg' (xMake_ok h ho (noW_some hx).1)
  ·rename_i T x y ho
   unfold xSto0 at hx
   split at hx
   ·rename_i st1 hx1
    cases hx
    obtain ⟨hE1,_⟩:=xStore_ok h ho hx1
    obtain ⟨l,q,γ,r,hD,rfl⟩:=xStore_D ho hx1
    refine ⟨hE1,fun W σ pre k _ hw hk=>.inr (.inr (.inl ⟨_,_,_,_,⟨hg' _ _,?_,storeD_ren hD⟩,?_⟩))⟩
    ·have hp:=storeD_P hD
     unfold storeP at hp
     simp only [ho] at hp
     have main:∀ off,(rdG true st.fr x = some (.ptr l q γ off)∨∃ i,rdG true st.fr x = some (.eptr l q γ i off))→WOK P (shW pre.length W) o (st.fr.ren σ pre.length) (l + pre.length) q:=by
      intro off hx
      have hC:storeC P o (st.fr.ren σ pre.length) = some (off,P.cellsOf T):=by
       unfold storeC
       rcases hx with hx | ⟨i,hx⟩ <;> simp only [ho,rdG_ren,hx,Option.map_some,ren_ptr,ren_eptr]
      cases hb:Nat.beq (P.cellsOf T) 1 with
      | true =>
       have h1:=Nat.eq_of_beq_eq_true hb
       have hpl:placeS (Nat.beq (P.cellsOf T) 1) (rdX st.fr x) = [(l,q),(l,celK q off)]:=by
        rw [rdX_eq,hb]
        rcases hx with hx | ⟨i,hx⟩ <;> rw [hx] <;> rfl
       rw [hpl] at hw
       refine ⟨mem_shW.2 (hw _ (by simp)),.inr fun off' n' e c h2 h3=>?_⟩
       rw [hC] at e
       cases e
       obtain rfl:c = off:=by omega
       exact mem_shW.2 (hw _ (by simp))
      | false =>
       have hpl:placeS (Nat.beq (P.cellsOf T) 1) (rdX st.fr x) = [(l,q),(l,q + anyK)]:=by
        rw [rdX_eq,hb]
        rcases hx with hx | ⟨i,hx⟩ <;> rw [hx] <;> rfl
       rw [hpl] at hw
       exact ⟨mem_shW.2 (hw _ (by simp)),.inl (mem_shW.2 (hw _ (by simp)))⟩
     split at hp
     ·rename_i l1 q1 γ1 off e; cases hp; exact main off (.inl e)
     ·rename_i l1 q1 γ1 i off e; cases hp; exact main off (.inr ⟨i,e⟩)
     ·cases hp
    ·have:=hk σ (agree.refl _ _)
     simp only [emb_put] at this
     exact this
   ·cases hx
  ·rename_i c ho
   obtain ⟨callee,args,Ts⟩:=c
   unfold xCal0 at hx
   split at hx
   ·rename_i f hc
    have hc:callee = .value f:=hc
    subst hc
    cases hown:ownOf all o with
    | true =>
     rw [hown] at hx
     exact new hg' (xCallO_ok hE hown h ho (noW_some hx).1)
    | false =>
     rw [hown] at hx
     have hx:=(noW_some hx).1
     unfold xCall0 at hx
     split at hx
     ·rename_i fid first cap hf
      split at hx
      ·rename_i vs hvs
       split at hx
       ·rename_i r hr
        cases hx
        obtain ⟨hA,hcl,hrc⟩:=hE.c0 _ _ _ hr
        refine ⟨⟨Nat.le_refl _,h.putF (fun σ σ' δ _=>by rw [hrc,hrc]),rfl⟩,fun W σ pre k _ _ hk=>.inl ⟨true,r,⟨hg' _ _,.inr (.inl ⟨fid,(first ++ vs ++ cap).map weakV,?_,hown,fun _ s=>hA s⟩)⟩,?_⟩⟩
        ·rw [mapO_eq,rdX_fun] at hvs
         rw [rdX_eq] at hf
         simp only [callD,ho,rdG_fun,hf,Option.map_some,ren_fn,mapM_ren hvs,Option.some.injEq,Prod.mk.injEq,true_and]
         have e:((first ++ vs ++ cap).map weakV).map (V.ren σ pre.length) = (first ++ vs ++ cap).map weakV:=by
          conv=>rhs; rw [← List.map_id ((first ++ vs ++ cap).map weakV)]
          exact List.map_congr_left fun v hv=>hcl v hv σ _
         rw [map_weak_ren] at e
         simpa only [List.map_append] using e
        ·have:=hk σ (agree.refl _ _)
         rwa [ren_putD,hrc] at this
       ·cases hx
      ·cases hx
     ·cases hx
   ·rename_i hc
    have hc:callee = .builtin .append:=hc
    subst hc
    unfold xAppD at hx
    split at hx
    ·rename_i st1 l q e1
     cases hx
     obtain ⟨d,r,hd,hp,rfl,hr,_,hs⟩:=xAppG_spec (fun _ _ _ h=>h) h ho e1
     have hra:readsR P o (rdX st.fr) = placeA (rdX st.fr) args.toList:=by simp only [readsR,ho]
     refine ⟨laid_ext h hp hr,fun W σ pre k hrd hw hk=>.inr (.inr (.inr ⟨l + pre.length,q,r.ren σ pre.length,d,⟨hg' _ _,⟨mem_shW.2 (hw _ (by simp)),mem_shW.2 (hw _ (by simp))⟩,hd,_,below_hide _,hs W σ pre (by rw [← hra]; exact hrd)⟩,fun γ=>laid_k h hr hk γ⟩))⟩
    ·cases hx
   ·exact val hg' (noW_some hx).1
  ·exact val hg' (noW_some hx).1
 ·rename_i hg
  cases hk:(kA (ownOf all) o || kW o || kP o) with
  | true=>rw [hk] at hx; cases hx
  | false =>
   rw [hk] at hx
   cases hx
   rw [Bool.or_eq_false_iff,Bool.or_eq_false_iff] at hk
   refine ⟨xSkip_ext h,fun W σ pre k _ _ hk'=>.inl ⟨false,.bool false,⟨gdV_ren hg,.inr (.inr (.inr ⟨rfl,hk.1.1,hk.1.2,hk.2⟩))⟩,?_⟩⟩
   have:=hk' σ (agree.refl _ _)
   simpa only [xSkip,ren_putD,ren_bool] using this
 ·cases hx

noncomputable def phX (P:Program) (E:XE) (l:List Oper):List Nat→XS→Places→Places→Option (XS × Places × Places)
 | [],st,rd,wr=>some (st,rd,wr)
 | i :: r,st,rd,wr=>match l[i]? with
  | some o=>match opX0 P E l o st with
   | some (st',w)=>phX P E l r st' (cond (zB l o) [] (readsR P o (rdX st.fr)) ++ rd) (w ++ wr)
   | none=>none
  | none=>none
noncomputable def sqX (P:Program) (E:XE) (l:List Oper):List Nat→XS→Option XS
 | [],st=>some st
 | i :: r,st=>match l[i]? with
  | some o=>match opX P E l o st with
   | some st'=>sqX P E l r st'
   | none=>none
  | none=>none

noncomputable def segX (P:Program) (E:XE) (l:List Oper):Segs→XS→Option XS
 | [],st=>some st
 | p :: S,st=>Bool.rec none (match phX P E l p.1 st [] [] with
  | some (st1,rd,wr)=>Bool.rec none (match sqX P E l p.2 st1 with
   | some st2=>segX P E l S st2
   | none=>none) (wr.all fun p=>!(rd.contains p))
  | none=>none) (freshB (ownOf l) l p.1 st.s.loc)

theorem gAt_map {l:List Oper} {i:Nat} {o:Oper} (h:l[i]? = some o):gAt (l.map (gdL l)) i = gdL l o:=by
 simp [gAt,h]

theorem opX0_ld {E:XE} {all:List Oper} {o:Oper} {st st':XS} {wr:Places} (ho:∃ T x,o.op = .load T x) (hx:opX0 P E all o st = some (st',wr)):wr = []:=by
 obtain ⟨T,x,ho⟩:=ho
 unfold opX0 at hx
 split at hx
 ·unfold stepX0 at hx
  rw [ho] at hx
  exact (noW_some hx).2
 ·cases hk:(kA (ownOf all) o || kW o || kP o) with
  | true=>rw [hk] at hx; cases hx
  | false=>rw [hk] at hx; exact (Prod.mk.inj (Option.some.inj hx)).2.symm
 ·cases hx
theorem phX_ok {E:XE} (hEE:XEOK P E) {l:List Oper}:∀ {R:List Nat} {st st':XS} {rd wr rd' wr':Places},Bd st→phX P E l R st rd wr = some (st',rd',wr')→Ext st st'∧(∀ p ∈ rd,p ∈ rd')∧(∀ p ∈ wr,p ∈ wr') ∧
  ∀ (W:Places) (σ:Nat→Nat) (pre:List Level) (K:Fr→St→Prop),(∀ p ∈ rd',p ∉ W)→(∀ p ∈ wr',p ∈ W)→(∀ σ',agree st.c σ σ'→K (st'.fr.ren σ' pre.length) (st'.s.emb σ' pre))→walkD P (hEE.tab (ownOf l)) (shW pre.length W) l (l.map (gdL l)) R (st.fr.ren σ pre.length) (st.s.emb σ pre) K
 | [],st,st',rd,wr,rd',wr',h,hx=>by
  cases hx
  exact ⟨⟨Nat.le_refl _,h,rfl⟩,fun _ h=>h,fun _ h=>h,fun W σ pre K _ _ hk=>hk σ (agree.refl _ _)⟩
 | i :: r,st,st',rd,wr,rd',wr',h,hx=>by
  simp only [phX] at hx
  split at hx
  ·rename_i o ho
   split at hx
   ·rename_i st1 w1 h1
    obtain ⟨hE,hs⟩:=opX0_ok hEE h h1
    obtain ⟨hE',hr,hw,hs'⟩:=phX_ok hEE hE.bd hx
    refine ⟨⟨Nat.le_trans hE.c hE'.c,hE'.bd,hE'.n.trans hE.n⟩,fun p hp=>hr p (List.mem_append_right _ hp),fun p hp=>hw p (List.mem_append_right _ hp),fun W σ pre K hrd hwr hk=>?_⟩
    simp only [walkD,stepI,ho,gAt_map ho]
    cases hz:zB l o with
    | true =>
     have hw0:w1 = []:=opX0_ld (zB_ld hz) h1
     subst hw0
     unfold wz
     rw [hz]
     exact hs [] σ pre _ (fun p _=>by simp) (fun p hp=>hp) fun σ' ha=>hs' W σ' pre K hrd hwr fun σ'' ha'=>hk σ'' (ha.trans ha' hE.c)
    | false =>
    rw [hz] at hr
    unfold wz
    rw [hz]
    exact hs W σ pre _ (fun p hp=>hrd p (hr p (List.mem_append_left _ hp))) (fun p hp=>hwr p (hw p (List.mem_append_left _ hp))) fun σ' ha=>hs' W σ' pre K hrd hwr fun σ'' ha'=>hk σ'' (ha.trans ha' hE.c)
   ·cases hx
  ·cases hx
theorem sqX_ok {E:XE} (hEE:XEOK P E) {l:List Oper}:∀ {R:List Nat} {st st':XS},Bd st→sqX P E l R st = some st'→Ext st st' ∧
  ∀ (σ:Nat→Nat) (pre:List Level) (K:Fr→St→Prop),(∀ σ',agree st.c σ σ'→K (st'.fr.ren σ' pre.length) (st'.s.emb σ' pre))→seqT P l (l.map (gdL l)) R (st.fr.ren σ pre.length) (st.s.emb σ pre) K
 | [],st,st',h,hx=>by
  cases hx
  exact ⟨⟨Nat.le_refl _,h,rfl⟩,fun σ pre K hk=>hk σ (agree.refl _ _)⟩
 | i :: r,st,st',h,hx=>by
  simp only [sqX] at hx
  split at hx
  ·rename_i o ho
   split at hx
   ·rename_i st1 h1
    obtain ⟨hE,g,hg,hs⟩:=opX_ok hEE h h1
    obtain ⟨hE',hs'⟩:=sqX_ok hEE hE.bd hx
    refine ⟨⟨Nat.le_trans hE.c hE'.c,hE'.bd,hE'.n.trans hE.n⟩,fun σ pre K hk=>?_⟩
    simp only [seqT,ho,gAt_map ho,hg]
    exact hs σ pre _ fun σ' ha=>hs' σ' pre K fun σ'' ha'=>hk σ'' (ha.trans ha' hE.c)
   ·cases hx
  ·cases hx

end Go.Pg
