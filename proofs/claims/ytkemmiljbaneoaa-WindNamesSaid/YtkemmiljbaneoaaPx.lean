/- Running a Go function upon abstract values, by computing: values, appends, calls, a region's operations one after another. No program in sight. -/
import Derived.Test.YtkemmiljbaneoaaPw
namespace Go.Pg
variable {P:Program} {σ σ':Nat→Nat} {δ:Nat} {pre:List Level} {s:St} {fr:Fr} {g:Bool}

noncomputable def rdC (fr:Fr) (x:Operand):Option (Bool × V):=match x with
 | .tmp t=>getF fr t
 | .const v=>match constV v with
  | some x=>some (true,x)
  | none=>none
 | .func f=>some (true,.fn f [] [])
 | .global _=>none
theorem rdC_eq (x:Operand):rdC fr x = rd fr x:=by
 cases x with
 | tmp t=>exact getF_eq fr t
 | const v=>simp only [rdC,rd]; cases constV v <;> rfl
 | func f=>rfl
 | global g=>rfl

noncomputable def xPick (fr:Fr) (c a b:Operand):Option V:=match rdX fr c,rdC fr a,rdC fr b with
 | some (.bool c),some (ca,.bool a),some (cb,.bool b)=>Bool.rec (Bool.rec none (some (.bool b)) cb) (Bool.rec none (some (.bool a)) ca) c
 | _,_,_=>none
noncomputable def xLoad (P:Program) (fr:Fr) (s:St) (T:TypeId) (x:Operand):Option V:=match rdX fr x with
 | some p=>match cellsAt s p with
  | some cs=>whole P T cs
  | none=>none
 | none=>none
noncomputable def xFA (P:Program) (fr:Fr) (T:TypeId) (x:Operand) (f:Nat):Option V:=match rdX fr x with
 | some p=>evFieldAddr P T p f
 | none=>none
noncomputable def xBin (P:Program) (fr:Fr) (op:BinOp) (T:TypeId) (x y:Operand):Option V:=match rdX fr x,rdX fr y with
 | some a,some b=>evBin P op T a b
 | _,_=>none
noncomputable def xBuild (P:Program) (fr:Fr) (T:TypeId) (ps:List (Nat × Operand)):Option V:=match partsM (rdX fr) ps with
 | some l=>evBuild P T l
 | none=>none
noncomputable def xBuildS (P:Program) (fr:Fr) (T:TypeId) (n:Nat) (ps:List (Nat × Operand)):Option V:=match partsM (rdX fr) ps with
 | some l=>evBuildSlice P T n l
 | none=>none

noncomputable def valX (P:Program) (o:Oper) (fr:Fr) (s:St):Option V:=match o.op with
 | .move x=>rdX fr x
 | .assign x=>rdX fr x
 | .load T x=>xLoad P fr s T x
 | .fieldAddr T x f=>xFA P fr T x f
 | .binOp op T x y _=>xBin P fr op T x y
 | .pick c a b=>xPick fr c a b
 | .build T ps=>xBuild P fr T ps.toList
 | .buildSlice T n ps=>xBuildS P fr T n ps.toList
 | _=>evP P o s (rdX fr)

theorem valX_spec {o:Oper} {v:V} (h:valX P o fr s = some v):valD P true o fr s = some v:=by
 unfold valX at h
 unfold valD
 split at h <;> rename_i ho
 ·simp only [ho,evP,← rdX_fun]; exact h
 ·simp only [ho,evP,← rdX_fun]; exact h
 ·unfold xLoad at h
  split at h
  ·rename_i p e1
   split at h
   ·rename_i cs e2
    simp only [ho,evP,← rdX_fun,e1,e2,Option.bind_some]; exact h
   ·cases h
  ·cases h
 ·unfold xFA at h
  split at h
  ·rename_i p e1
   simp only [ho,evP,← rdX_fun,e1,Option.bind_some]; exact h
  ·cases h
 ·unfold xBin at h
  split at h
  ·rename_i a b e1 e2
   simp only [ho,evP,← rdX_fun,e1,e2,Option.bind_some]; exact h
  ·cases h
 ·unfold xPick at h
  simp only [rdC_eq] at h
  split at h
  ·rename_i c ca a cb b e1 e2 e3
   rw [rdX_eq] at e1
   simp only [ho,e1,e2,e3]
   cases c with
   | true =>
    cases ca with
    | false=>cases h
    | true=>cases h; simp
   | false =>
    cases cb with
    | false=>cases h
    | true=>cases h; simp
  ·cases h
 ·unfold xBuild at h
  split at h
  ·rename_i l e1
   simp only [ho,← rdX_fun,e1,Option.bind_some]; exact h
  ·cases h
 ·unfold xBuildS at h
  split at h
  ·rename_i l e1
   simp only [ho,← rdX_fun,e1,Option.bind_some]; exact h
  ·cases h
 ·rw [rdX_fun] at h
  split
  ·rename_i ho'; rw [evP,ho'] at h; cases h
  ·rename_i ho'; rw [evP,ho'] at h; cases h
  ·rename_i ho'; rw [evP,ho'] at h; cases h
  ·exact h

theorem brec_some {α:Type} {b:Bool} {x y:α} (h:(Bool.rec none (some x) b:Option α) = some y):b = true∧x = y:=by
 cases b with
 | false=>cases h
 | true=>exact ⟨rfl,Option.some.inj h⟩
theorem brec_opt {α:Type} {b:Bool} {x:Option α} {y:α} (h:(Bool.rec none x b:Option α) = some y):b = true∧x = some y:=by
 cases b with
 | false=>cases h
 | true=>exact ⟨rfl,h⟩

theorem elems_bd {st:XS} (h:Bd st) {v:V} {ys:List (List V)} (hv:BdV st.c v) (he:elemsOf st.s v = some ys) (σ σ':Nat→Nat) (δ:Nat) (ha:agree st.c σ σ'):ys.map (List.map (V.ren σ δ)) = ys.map (List.map (V.ren σ' δ)):=by
 have h1:=elemsOf_ren (σ:=σ) (pre:=List.replicate δ []) he
 have h2:=elemsOf_ren (σ:=σ') (pre:=List.replicate δ []) he
 rw [h.s σ σ' _ ha,hv σ σ' _ ha,h2] at h1
 have:=Option.some.inj h1
 rw [List.length_replicate] at this
 exact this.symm

theorem all_len_ren (ys:List (List V)) (m:Nat):(ys.map (List.map (V.ren σ δ))).all (fun y=>y.length == m) = ys.all (fun y=>y.length == m):=by
 rw [List.all_map]
 congr 1
 funext y
 simp

noncomputable def xAppV (P:Program) (d:Tmp) (e:TypeId) (ys:List (List V)) (st:XS) (xv:V):Option (XS × Nat × Nat):=match xv with
 | .vec l q γ n=>match st.s.get l q with
  | some (γ',.vec W es)=>Bool.rec none (some (⟨st.c + 1,(d,true,.vec l q st.c (es ++ ys).length) :: st.fr,st.s.put l q st.c (.vec e (es ++ ys))⟩,l,q))
    (Nat.beq γ' γ && Nat.beq W e && Nat.beq n es.length && es.all (fun y=>y.length == P.cellsOf e) && appOK P e es.length ys)
  | _=>none
 | _=>none
noncomputable def xAppG (el:St→V→Option (List (List V))) (P:Program) (d:Option Tmp) (args:List Operand) (Ts:List TypeId) (st:XS):Option (XS × Nat × Nat):=match args,Ts,d with
 | [x,y],[T,U],some d=>Bool.rec none (match elemT P T with
  | some (none,e)=>match rdX st.fr x,rdX st.fr y with
   | some xv,some yv=>match el st.s yv with
    | some ys=>match newE xv ys with
     | some es=>Bool.rec none (some (⟨st.c + 1,(d,true,.vec st.s.up.length d st.c (es ++ ys).length) :: st.fr,st.s.put st.s.up.length d st.c (.vec e (es ++ ys))⟩,st.s.up.length,d)) (es.all (fun y=>y.length == P.cellsOf e) && appOK P e es.length ys)
     | none=>xAppV P d e ys st xv
    | none=>none
   | _,_=>none
  | _=>none) (Nat.beq T U)
 | _,_,_=>none

theorem newS_ren (v:V):newS (v.ren σ δ) = newS v:=by
 cases v with
 | list f es=>cases f <;> cases es <;> simp [newS]
 | _=>simp [newS]
theorem newE_ren (v:V) (ys:List (List V)):newE (v.ren σ δ) (ys.map (List.map (V.ren σ δ))) = (newE v ys).map (List.map (List.map (V.ren σ δ))):=by
 cases v with
 | list f es=>cases f <;> cases es <;> cases ys <;> simp [newE]
 | _=>simp [newE]
theorem newE_elems {v:V} {es ys:List (List V)} (h:newE v ys = some es):elemsOf s v = some es:=by
 unfold newE at h
 split at h <;> cases h <;> rfl
theorem appOK_ren {e:TypeId} {n:Nat} (ys:List (List V)):appOK P e n (ys.map (List.map (V.ren σ δ))) = appOK P e n ys:=by
 unfold appOK
 rw [all_len_ren,List.length_map]
theorem xAppG_spec {el:St→V→Option (List (List V))} (hel0:∀ s v es,el s v = some es→elemsOf s v = some es) {o:Oper} {args:Array Operand} {Ts:Array TypeId} {st st':XS} {l q:Nat} (h:Bd st) (ho:o.op = .call { callee:=.builtin .append,args:=args,argTypes:=Ts })
  (hx:xAppG el P o.dst args.toList Ts.toList st = some (st',l,q)):∃ d r,o.dst = some d∧plR r = true∧st' = ⟨st.c + 1,(d,true,made r l q st.c) :: st.fr,st.s.put l q st.c r⟩∧(∀ σ σ' δ,agree st.c σ σ'→r.ren σ δ = r.ren σ' δ) ∧
   (∀ (σ:Nat→Nat) (pre:List Level) (k:Fr→St→Prop),(∀ γ,k ((st.fr.ren σ pre.length).put d true (made (r.ren σ pre.length) (l + pre.length) q γ)) ((st.s.emb σ pre).put (l + pre.length) q γ (r.ren σ pre.length)))→stepP P true o (st.fr.ren σ pre.length) (st.s.emb σ pre) k) ∧
   (∀ (W:Places) (σ:Nat→Nat) (pre:List Level),(∀ p ∈ placeA (rdX st.fr) args.toList,p ∉ W)→appD P o (st.fr.ren σ pre.length) ((st.s.emb σ pre).hide (shW pre.length W)) (st.s.emb σ pre) = some (l + pre.length,q,r.ren σ pre.length)):=by
 unfold xAppG at hx
 split at hx
 ·rename_i x y T U d ha hT hd
  obtain ⟨hTU,hx2⟩:=brec_opt hx
  clear hx
  have hTU:=Nat.eq_of_beq_eq_true hTU
  subst hTU
  have hx:=hx2
  clear hx2
  split at hx
  ·rename_i e hel
   split at hx
   ·rename_i xv yv h1 h2
    split at hx
    ·rename_i ys hys0
     have hys:=hel0 _ _ _ hys0
     have hyb:=elems_bd h (h.rd h2) hys
     have r1:=h1
     have r2:=h2
     rw [rdX_eq] at r1 r2
     have hys2:∀ (W:Places) (σ:Nat→Nat) (pre:List Level),(∀ p ∈ placeA (rdX st.fr) args.toList,p ∉ W)→elemsOf ((st.s.emb σ pre).hide (shW pre.length W)) (yv.ren σ pre.length) = some (ys.map (List.map (V.ren σ pre.length))):=fun W σ pre hW=>by
      refine elemsOf_hide (elemsOf_ren hys) ?_
      rw [ha] at hW
      simp only [placeA,h2] at hW
      have:=shW_disj (δ:=pre.length) hW
      rw [← placeV_ren (σ:=σ)] at this
      exact this
     cases hn:newE xv ys with
     | some es =>
      rw [hn] at hx
      obtain ⟨hc,he⟩:=brec_some hx
      simp only [Prod.mk.injEq] at he
      obtain ⟨rfl,rfl,rfl⟩:=he
      simp only [Bool.and_eq_true] at hc
      obtain ⟨hce,hc⟩:=hc
      have heb:=elems_bd h (h.rd h1) (newE_elems hn)
      refine ⟨d,.vec e (es ++ ys),hd,rfl,rfl,fun σ σ' δ hag=>by simp only [Res.ren,List.map_append,hyb σ σ' δ hag,heb σ σ' δ hag],fun σ pre k hk=>?_,fun W σ pre hW=>?_⟩
      ·have hc':=hc
       simp only [appOK,Bool.and_eq_true,Nat.blt_eq,Nat.ble_eq] at hc
       obtain ⟨⟨⟨⟨c1,c2⟩,c3⟩,c4⟩,c5⟩:=hc
       unfold stepP
       simp only [ho,ha,hT,hd,hel,rdG_ren,r1,r2,Option.map_some,Option.bind_some,elemsOf_ren hys,newE_ren,hn,true_and]
       refine ⟨c1,c2,by rw [all_len_ren]; exact hce,by rw [all_len_ren]; exact c3,by simpa using c4,by simpa using c5,fun γ=>?_⟩
       have:=hk γ
       simp only [made,Res.ren] at this
       rw [emb_len,← List.map_append]
       exact this
      ·unfold appD
       simp only [ho,ha,hT,hd,hel,rdG_ren,r1,r2,Option.map_some,Option.bind_some,hys2 _ _ _ hW,newE_ren,hn,if_true,emb_len,Res.ren]
       rw [if_pos ⟨by rw [all_len_ren]; exact hce,by rw [appOK_ren,List.length_map]; exact hc⟩,List.map_append]
     | none =>
      rw [hn] at hx
      replace hx:xAppV P d e ys st xv = some (st',l,q):=hx
      unfold xAppV at hx
      split at hx
      ·rename_i l0 q0 γ0 n'
       split at hx
       ·rename_i γ' W es hg
        obtain ⟨hc,he⟩:=brec_some hx
        simp only [Prod.mk.injEq] at he
        obtain ⟨rfl,rfl,rfl⟩:=he
        simp only [Bool.and_eq_true] at hc
        obtain ⟨⟨⟨⟨c1,c2⟩,c3⟩,c6⟩,c7⟩:=hc
        have c1:=Nat.eq_of_beq_eq_true c1
        have c2:=Nat.eq_of_beq_eq_true c2
        have c3:=Nat.eq_of_beq_eq_true c3
        subst c1; subst c2; subst c3
        have heb:∀ σ σ' δ,agree st.c σ σ'→es.map (List.map (V.ren σ δ)) = es.map (List.map (V.ren σ' δ)):=fun σ σ' δ ha=>by
         have:=bd_get h hg σ σ' δ ha
         simpa [Res.ren] using this
        refine ⟨d,.vec W (es ++ ys),hd,rfl,rfl,fun σ σ' δ hag=>by simp only [Res.ren,List.map_append,hyb σ σ' δ hag,heb σ σ' δ hag],fun σ pre k hk=>?_,fun W σ pre hW=>?_⟩
        ·simp only [appOK,Bool.and_eq_true,Nat.blt_eq,Nat.ble_eq] at c7
         obtain ⟨⟨⟨⟨d1,d2⟩,d3⟩,d4⟩,d5⟩:=c7
         have hnn:newE (V.vec (l0 + pre.length) q0 (σ γ') es.length) (ys.map (List.map (V.ren σ pre.length))) = none:=rfl
         unfold stepP
         simp only [ho,ha,hT,hd,hel,rdG_ren,r1,r2,Option.map_some,Option.bind_some,elemsOf_ren hys,ren_vec,emb_get,hg,Res.ren,true_and,hnn]
         refine ⟨by simp,d1,d2,by rw [all_len_ren]; exact c6,by rw [all_len_ren]; exact d3,by simpa using d4,by simpa using d5,fun γ=>?_⟩
         have:=hk γ
         simp only [made,Res.ren,List.map_append,List.length_append,List.length_map] at this ⊢
         exact this
        ·have hnn:newE (V.vec (l0 + pre.length) q0 (σ γ') es.length) (ys.map (List.map (V.ren σ pre.length))) = none:=rfl
         unfold appD
         simp only [ho,ha,hT,hd,hel,rdG_ren,r1,r2,Option.map_some,Option.bind_some,hys2 _ _ _ hW,ren_vec,emb_get,hg,Res.ren,hnn,if_true]
         rw [if_pos ⟨trivial,trivial,by simp,by rw [all_len_ren]; exact c6,by rw [appOK_ren,List.length_map]; exact c7⟩]
         simp only [List.map_append]
       ·cases hx
      ·cases hx
    ·cases hx
   ·cases hx
  ·cases hx
 ·cases hx

theorem laid_ext {st:XS} (h:Bd st) {d l q:Nat} {r:Res} (hp:plR r = true) (hr:∀ σ σ' δ,agree st.c σ σ'→r.ren σ δ = r.ren σ' δ):Ext st ⟨st.c + 1,(d,true,made r l q st.c) :: st.fr,st.s.put l q st.c r⟩:=by
 have hb:∀ σ σ',agree (st.c + 1) σ σ'→agree st.c σ σ':=fun σ σ' ha=>ha.mono (Nat.le_succ _)
 refine ⟨Nat.le_succ _,⟨fun σ σ' δ ha=>?_,fun σ σ' pre ha=>?_,h.lp.put (plR_lp hp)⟩,St.put_len _ _ _ _ _⟩
 ·show ((st.fr.put d true (made r l q st.c)).ren σ δ) = ((st.fr.put d true (made r l q st.c)).ren σ' δ)
  have e:∀ σ:Nat→Nat,(made r l q st.c).ren σ δ = made (r.ren σ δ) (l + δ) q (σ st.c):=fun σ=>by cases r <;> simp [made,Res.ren]
  simp only [ren_put,e]
  rw [h.f σ σ' δ (hb _ _ ha),ha st.c (Nat.lt_succ_self _),hr σ σ' δ (hb _ _ ha)]
 ·simp only [emb_put]
  rw [h.s σ σ' pre (hb _ _ ha),hr σ σ' _ (hb _ _ ha),ha st.c (Nat.lt_succ_self _)]
theorem made_ren (r:Res) (l q γ:Nat):(made r l q γ).ren σ δ = made (r.ren σ δ) (l + δ) q (σ γ):=by cases r <;> simp [made,Res.ren]
theorem laid_k {st:XS} (h:Bd st) {d l q:Nat} {r:Res} (hr:∀ σ σ' δ,agree st.c σ σ'→r.ren σ δ = r.ren σ' δ) {σ:Nat→Nat} {pre:List Level} {k:Fr→St→Prop}
  (hk:∀ σ',agree st.c σ σ'→k (Fr.ren σ' pre.length ((d,true,made r l q st.c) :: st.fr)) ((st.s.put l q st.c r).emb σ' pre)) (γ:Nat):k ((st.fr.ren σ pre.length).put d true (made (r.ren σ pre.length) (l + pre.length) q γ)) ((st.s.emb σ pre).put (l + pre.length) q γ (r.ren σ pre.length)):=by
 have:=hk (fun i=>if i = st.c then γ else σ i) (agree.upd _ _ _)
 have hag:=agree.upd st.c γ σ
 change k ((st.fr.put d true _).ren _ _) _ at this
 simp only [ren_put,made_ren,if_true,emb_put] at this
 rw [← h.f _ _ _ hag,← h.s _ _ _ hag,← hr _ _ _ hag] at this
 exact this

theorem val_ren (r:Mk) (l k γ:Nat):(r.val l k γ).ren σ δ = Mk.val ⟨r.res.ren σ δ,r.t⟩ (l + δ) k (σ γ):=by
 obtain ⟨r,t⟩:=r
 cases t with
 | none=>exact made_ren _ _ _ _
 | some t=>exact ren_ren t
theorem laid_extM {st:XS} (h:Bd st) {d l q:Nat} {r:Mk} (hp:plR r.res = true) (hr:∀ σ σ' δ,agree st.c σ σ'→r.res.ren σ δ = r.res.ren σ' δ):Ext st ⟨st.c + 1,(d,true,r.val l q st.c) :: st.fr,st.s.put l q st.c r.res⟩:=by
 have hb:∀ σ σ',agree (st.c + 1) σ σ'→agree st.c σ σ':=fun σ σ' ha=>ha.mono (Nat.le_succ _)
 refine ⟨Nat.le_succ _,⟨fun σ σ' δ ha=>?_,fun σ σ' pre ha=>?_,h.lp.put (plR_lp hp)⟩,St.put_len _ _ _ _ _⟩
 ·show ((st.fr.put d true (r.val l q st.c)).ren σ δ) = ((st.fr.put d true (r.val l q st.c)).ren σ' δ)
  simp only [ren_put,val_ren]
  rw [h.f σ σ' δ (hb _ _ ha),ha st.c (Nat.lt_succ_self _),hr σ σ' δ (hb _ _ ha)]
 ·simp only [emb_put]
  rw [h.s σ σ' pre (hb _ _ ha),hr σ σ' _ (hb _ _ ha),ha st.c (Nat.lt_succ_self _)]
theorem laid_kM {st:XS} (h:Bd st) {d l q:Nat} {r:Mk} (hr:∀ σ δ,r.res.ren σ δ = r.res) {σ:Nat→Nat} {pre:List Level} {k:Fr→St→Prop}
  (hk:∀ σ',agree st.c σ σ'→k (Fr.ren σ' pre.length ((d,true,r.val l q st.c) :: st.fr)) ((st.s.put l q st.c r.res).emb σ' pre)) (γ:Nat):k ((st.fr.ren σ pre.length).put d true (r.val (l + pre.length) q γ)) ((st.s.emb σ pre).put (l + pre.length) q γ r.res):=by
 have:=hk (fun i=>if i = st.c then γ else σ i) (agree.upd _ _ _)
 have hag:=agree.upd st.c γ σ
 change k ((st.fr.put d true _).ren _ _) _ at this
 simp only [ren_put,val_ren,if_true,emb_put,hr] at this
 rw [← h.f _ _ _ hag,← h.s _ _ _ hag] at this
 exact this

noncomputable def xAppend (P:Program) (d:Option Tmp) (args:List Operand) (Ts:List TypeId) (st:XS):Option XS:=match xAppG elemsOf P d args Ts st with
 | some (st',_,_)=>some st'
 | none=>none
theorem xAppend_ok {o:Oper} {args:Array Operand} {Ts:Array TypeId} {st st':XS} (h:Bd st) (ho:o.op = .call { callee:=.builtin .append,args:=args,argTypes:=Ts }) (hx:xAppend P o.dst args.toList Ts.toList st = some st'):StepX P o st st':=by
 unfold xAppend at hx
 split at hx
 ·rename_i st1 l q e1
  cases hx
  obtain ⟨d,r,hd,hp,rfl,hr,hs,_⟩:=xAppG_spec (fun _ _ _ h=>h) h ho e1
  exact ⟨laid_ext h hp hr,fun σ pre k hk=>hs σ pre k fun γ=>laid_k h hr hk γ⟩
 ·cases hx

noncomputable def xCopy (P:Program) (d:Option Tmp) (args:List Operand) (Ts:List TypeId) (st:XS):Option XS:=match args,Ts with
 | [x,y],[T,_]=>match elemT P T,rdX st.fr x,rdX st.fr y with
  | some (none,e),some (.vtl l q γ i n),some yv=>match st.s.get l q,elemsOf st.s yv with
   | some (γ',.box cs),some ys=>Bool.rec none (some { st with fr:=putD st.fr d true (.int .i64 ((min ys.length n:Nat):Int)),s:=st.s.put l q γ (.box (spliceL cs i (ys.take n).flatten)) }) (Nat.beq γ' γ && Nat.beq (P.cellsOf e) 1 && ys.all (fun y=>y.length == 1) && Nat.ble (i + n) cs.length && Nat.blt γ st.c)
   | _,_=>none
  | _,_,_=>none
 | _,_=>none
theorem xCopy_ok {o:Oper} {args:Array Operand} {Ts:Array TypeId} {st st':XS} (h:Bd st) (ho:o.op = .call { callee:=.builtin .copy,args:=args,argTypes:=Ts }) (hx:xCopy P o.dst args.toList Ts.toList st = some st'):StepX P o st st':=by
 unfold xCopy at hx
 split at hx
 ·rename_i x y T U ha hT
  split at hx
  ·rename_i e l q γ i n yv hel h1 h2
   split at hx
   ·rename_i γ' cs ys hg hys
    cases hb:(Nat.beq γ' γ && Nat.beq (P.cellsOf e) 1 && ys.all (fun y=>y.length == 1) && Nat.ble (i + n) cs.length && Nat.blt γ st.c) with
    | false=>rw [hb] at hx; cases hx
    | true =>
     rw [hb] at hx
     cases hx
     simp only [Bool.and_eq_true,Nat.blt_eq,Nat.ble_eq] at hb
     obtain ⟨⟨⟨⟨c1,c2⟩,c3⟩,c4⟩,c5⟩:=hb
     have c1:=Nat.eq_of_beq_eq_true c1
     have c2:=Nat.eq_of_beq_eq_true c2
     subst c1
     have hB:Bd { st with s:=st.s.put l q γ' (.box (spliceL cs i (ys.take n).flatten)) }:=h.putS c5 fun σ σ' δ ha=>by
      have hr:=bd_get h hg σ σ' δ ha
      have he:=elems_bd h (h.rd h2) hys σ σ' δ ha
      simp only [Res.ren,Res.box.injEq] at hr ⊢
      rw [← spliceL_map,← spliceL_map,hr,List.map_flatten,List.map_flatten,List.map_take,List.map_take,he]
     refine ⟨⟨Nat.le_refl _,hB.putF (fun _ _ _ _=>rfl),St.put_len _ _ _ _ _⟩,fun σ pre k hk=>?_⟩
     have:=hk σ (agree.refl _ _)
     rw [rdX_eq] at h1 h2
     unfold stepP
     simp only [ho,ha,hT,hel,rdG_ren,h1,h2,Option.map_some,ren_vtl,Option.bind_some,elemsOf_ren hys,emb_get,hg,Res.ren]
     refine ⟨trivial,trivial,c2,?_,by simpa using c4,?_⟩
     ·rw [List.all_map]; exact c3 ▸ (by congr 1; funext x; simp)
     ·simp only [ren_putD,ren_int,emb_put,Res.ren,← spliceL_map,List.map_flatten,List.map_take] at this
      simpa only [List.length_map] using this
   ·cases hx
  ·cases hx
 ·cases hx

end Go.Pg
