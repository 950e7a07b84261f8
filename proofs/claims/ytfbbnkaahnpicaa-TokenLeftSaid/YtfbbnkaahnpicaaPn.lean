/- A function's contract out of its code's walk. No program in sight. -/
import Derived.Test.YtfbbnkaahnpicaaPl
namespace Go.Pg
variable {P : Program} {n N : Nat} {G0 G : Gh} {fr : Fr} {s : St} {a : Act} {w : World}

def Gh.lec (G G' : Gh) : Prop := (∀ b c T fz, G.sl b = some (.cells c T fz) → G'.sl b = some (.cells c T fz)) ∧ (∀ g x, G.be g = some x → G'.be g = some x)

theorem RepV.monoC {G G' : Gh} (hle : G.lec G') {x : V} {v : Value} (h : RepV G x v) : RepV G' x v := by
  induction h with
  | int k n => exact .int k n
  | bool b => exact .bool b
  | raw v h => exact .raw v h
  | agg cs arr hl hc _ ih => exact .agg cs arr hl hc ih
  | tup cs arr hl _ ih => exact .tup cs arr hl ih
  | list full es a cap b off sz arr T fz vs hcap hfull ha hl hv _ ih =>
    exact .list full es a cap b off sz arr T fz vs hcap hfull (fun h => ⟨(ha h).1, hle.1 _ _ _ _ (ha h).2⟩) hl hv ih
  | ref cs b off arr T fz vs ha hv _ ih => exact .ref cs b off arr T fz vs (hle.1 _ _ _ _ ha) hv ih
  | ptr l k g off b sz C h => exact .ptr l k g off b sz C (hle.2 _ _ h)
  | eptr l k g i off b sz C h => exact .eptr l k g i off b sz C (hle.2 _ _ h)
  | vec l k g len b sz C a h hlen ha => exact .vec l k g len b sz C a (hle.2 _ _ h) hlen ha
  | mp l k g b sz C h => exact .mp l k g b sz C (hle.2 _ _ h)
  | fn f xs ys a1 a2 h1 h2 _ _ ihx ihy => exact .fn f xs ys a1 a2 h1 h2 ihx ihy
  | yld l k g b sz C h => exact .yld l k g b sz C (hle.2 _ _ h)
  | nil => exact .nil
  | vtl l k g i n b sz C cap a h hlen ha => exact .vtl l k g i n b sz C cap a (hle.2 _ _ h) hlen ha

theorem RepL.monoC {G G' : Gh} (hle : G.lec G') {cs : List V} {vs : List Value} (h : RepL G cs vs) : RepL G' cs vs :=
  ⟨h.1, fun i h1 h2 => ⟨(h.2 i h1 h2).1, (h.2 i h1 h2).2.monoC hle⟩⟩

theorem RRep.keepC {G G' : Gh} {g : Nat} {w w' : World} {r : Res} (h : RRep G g w r) (hle : G.lec G') (hw : ∀ b, owns G g r = some b → w'.heap[b]? = w.heap[b]?) : RRep G' g w' r := by
  cases r with
  | dead => trivial
  | box cs =>
    obtain ⟨b, arr, T, h1, h2, h3⟩ := h
    exact ⟨b, arr, T, hle.2 _ _ h1, (hw b (by simp [owns, h1])).trans h2, h3.monoC hle⟩
  | vec T es =>
    obtain ⟨b, sz, C, h1, h2, h3, h4, h5⟩ := h
    refine ⟨b, sz, C, hle.2 _ _ h1, h2, h3, h4, fun hC => ?_⟩
    obtain ⟨arr, h6, h7, h8⟩ := h5 hC
    exact ⟨arr, (hw b (by simp [owns, h1, hC])).trans h6, h7, h8.monoC hle⟩
  | map es =>
    obtain ⟨b, arr, clock, h1, h2, h3, h4⟩ := h
    exact ⟨b, arr, clock, hle.2 _ _ h1, (hw b (by simp [owns, h1])).trans h2, h3, fun i p q => ⟨(h4 i p q).1.monoC hle, (h4 i p q).2.monoC hle⟩⟩
  | loop fr ps asg body N st =>
    obtain ⟨b, r, h1, h2, h3, h4⟩ := h
    refine ⟨b, r, hle.2 _ _ h1, (hw b (by simp [owns, h1])).trans h2, fun k c v hk => ?_, h4⟩
    obtain ⟨x, q1, q2, q3⟩ := h3 k c v hk
    exact ⟨x, q1, fun hc => (q2 hc).monoC hle, q3⟩

theorem Inv.unmark (hI : Inv G s w) {r : Nat} (hr : G.sl r = some (.deferred (some []))) (o : Obj) (ho : objOK o := by intro _ _ _ h; cases h) :
    let G1 : Gh := { G with sl := fun b => if b = r then none else G.sl b }
    Inv G1 s (w.putObj r o) ∧ G.lec G1 := by
  intro G1
  have hlec : G.lec G1 := ⟨fun b c T fz h => by
    show (if b = r then none else G.sl b) = _
    rw [if_neg (by intro e; subst e; rw [hr] at h; cases h)]; exact h, fun _ _ h => h⟩
  have hne : ∀ {l k g x b}, s.get l k = some (g, x) → owns G g x = some b → b ≠ r := by
    intro l k g x b h1 h2 e
    subst e
    have := (hI.out _ _ _ _ _ h1 h2).1
    rw [hr] at this; cases this
  have hso : ∀ {g x b}, owns G1 g x = some b → owns G g x = some b := by intro g x b h; cases x <;> exact h
  refine ⟨⟨fun b x h => ?_, fun l k g x h => (hI.res _ _ _ _ h).keepC hlec fun b hb => World.putObj_heap_other (hne h hb), fun l k g x l' k' g' x' b h1 h2 h3 h4 => hI.sep _ _ _ _ _ _ _ _ _ h1 h2 (hso h3) (hso h4), fun l k g x b h1 h2 => ?_, hI.fresh, (hI.env.turn (b := r) (fun b' h => World.putObj_heap_other h) World.putObj_size ⟨rfl, rfl⟩ (nf_put (Array.getElem?_eq_some_iff.1 (hI.sl _ _ hr)).1 ho) : EnvOK G1 _)⟩, hlec⟩
  · have h' : (if b = r then none else G.sl b) = some x := h
    split at h'
    · cases h'
    · rename_i hb
      rw [World.putObj_heap_other hb]; exact hI.sl _ _ h'
  · have := hI.out _ _ _ _ _ h1 (hso h2)
    refine ⟨?_, by rw [World.putObj_size]; exact this.2⟩
    show (if b = r then none else G.sl b) = none
    split
    · rfl
    · exact this.1

theorem leave_marks {fn : Func} {tmps : Array Value} {R : Ending → World → Prop} {ρ : Option Nat} : ∀ (rs : List Nat) (G : Gh) (w : World), Inv G s w → FrRep G fr tmps → rs.Nodup → G0.le G → (∀ r ∈ rs, G0.sl r = none ∧ G.sl r = some (.deferred (some []))) →
    (∀ G' w', Inv G' s w' → FrRep G' fr tmps → G0.le G' → ∃ v, (results fn tmps).run P w' = .ok v w' ∧ R (.returned v) w') → LeavesInM (wf ρ) 0 P fn tmps R (rs.map mark) .returning w
  | [], G, w, hI, hF, _, hle, _, h => h G w hI hF hle
  | r :: rs, G, w, hI, hF, hnd, hle, hm, h => by
    obtain ⟨h1, h2⟩ := hm r (by simp)
    obtain ⟨hI1, hlec⟩ := hI.unmark h2 (.deferred none)
    refine ⟨by simp, .inl ⟨r, _, rfl, run_takeDeferred (hI.sl _ _ h2), ?_⟩⟩
    refine leave_marks rs _ _ hI1 (fun k c v e => ?_) (List.nodup_cons.1 hnd).2 ⟨fun b o hb => ?_, fun g x hg => hle.2 _ _ hg, hle.e⟩ (fun q hq => ⟨(hm q (by simp [hq])).1, ?_⟩) h
    · obtain ⟨x, e1, e2, e3⟩ := hF k c v e
      exact ⟨x, e1, fun hc => (e2 hc).monoC hlec, e3⟩
    · show (if b = r then none else G.sl b) = some o
      rw [if_neg (by intro e; subst e; rw [h1] at hb; cases hb)]
      exact hle.1 _ _ hb
    · show (if q = r then none else G.sl q) = _
      rw [if_neg (by intro e; subst e; exact (List.nodup_cons.1 hnd).1 hq)]
      exact (hm q (by simp [hq])).2

def resOne (P : Program) (fr : Fr) (s : St) : ResultVar → Option V
  | .tmp t => match fr.get t with
    | some (true, v) => some v
    | _ => none
  | .cell ad T => match fr.get ad with
    | some (true, p) => (cellsAt s p).bind (whole P T)
    | _ => none
def resV (P : Program) (rs : List ResultVar) (fr : Fr) (s : St) : Option V := match rs.mapM (resOne P fr s) with
  | some [v] => some v
  | some vs => some (.tup vs)
  | none => none

def resSem (tmps : Array Value) : ResultVar → Sem Value
  | .tmp t => pure (tmps.getD t undef)
  | .cell a t => do loadVar t (← asAddr (tmps.getD a undef))

theorem results_eq (fn : Func) (tmps : Array Value) : results fn tmps = (fn.results.mapM (resSem tmps)) >>= fun vs => pure (if h : vs.size = 1 then vs[0] else .tuple vs) := by
  have : (fun x : ResultVar => (match x with | .tmp t => pure (tmps.getD t undef) | .cell a t => do loadVar t (← asAddr (tmps.getD a undef)) : Sem Value)) = resSem tmps := by
    funext rv; cases rv <;> rfl
  exact congrArg (fun F => (fn.results.mapM F) >>= fun vs => pure (if h : vs.size = 1 then vs[0] else .tuple vs)) this

theorem resOne_run {rv : ResultVar} {v : V} {tmps : Array Value} (hI : Inv G s w) (hF : FrRep G fr tmps) (h : resOne P fr s rv = some v) :
    ∃ u, (resSem tmps rv).run P w = .ok u w ∧ RepV G v u := by
  cases rv with
  | tmp t =>
    simp only [resOne] at h
    split at h
    · rename_i x hx
      cases h
      obtain ⟨y, h1, h2, _⟩ := hF _ _ _ hx
      exact ⟨y, by simp [resSem, Array.getD_eq_getD_getElem?, h1], h2 rfl⟩
    · cases h
  | cell ad T =>
    simp only [resOne] at h
    split at h
    · rename_i p hx
      obtain ⟨cs, hcs, h⟩ := Option.bind_eq_some_iff.1 h
      obtain ⟨y, h1, h2, _⟩ := hF _ _ _ hx
      obtain ⟨b, off, vs, rfl, hL, hcell⟩ := cells_at hI (h2 rfl) hcs
      obtain ⟨u, hu1, hu2⟩ := whole_run hL hcell h
      refine ⟨u, ?_, hu2⟩
      simp only [Instr.loadAt, Instr.sureAddr, Sem.run_bind, Sem.run_pure, Result.andThen_ok] at hu1
      simp [resSem, Array.getD_eq_getD_getElem?, h1, asAddr, hu1]
    · cases h

theorem resV_run {fn : Func} {v : V} {tmps : Array Value} (hI : Inv G s w) (hF : FrRep G fr tmps) (h : resV P fn.results.toList fr s = some v) : ∃ u, (results fn tmps).run P w = .ok u w ∧ RepV G v u := by
  have all : ∀ (l : List ResultVar) (vs : List V), l.mapM (resOne P fr s) = some vs → ∃ us : List Value, (l.mapM (resSem tmps)).run P w = .ok us w ∧ RepA G vs us := by
    intro l
    induction l with
    | nil => intro vs h; simp at h; subst h; exact ⟨[], rfl, .nil G⟩
    | cons rv l ih =>
      intro vs h
      simp only [List.mapM_cons, Option.bind_eq_bind, Option.bind_eq_some_iff, Option.pure_def, Option.some.injEq] at h
      obtain ⟨v, hv, us, hus, rfl⟩ := h
      obtain ⟨u, h1, h2⟩ := resOne_run hI hF hv
      obtain ⟨us', h3, h4⟩ := ih _ hus
      refine ⟨u :: us', ?_, .cons h2 h4⟩
      rw [List.mapM_cons, Sem.run_bind, h1]
      simp only [Result.andThen_ok, Sem.run_bind]
      rw [h3]; rfl
  unfold resV at h
  have key : ∀ vs, fn.results.toList.mapM (resOne P fr s) = some vs → ∃ us : List Value, (results fn tmps).run P w = .ok (if h : us.toArray.size = 1 then us.toArray[0] else .tuple us.toArray) w ∧ RepA G vs us := by
    intro vs hvs
    obtain ⟨us, h1, h2⟩ := all _ _ hvs
    refine ⟨us, ?_, h2⟩
    rw [results_eq, Sem.run_bind, Array.mapM_eq_mapM_toList, Sem.run_map, h1]
    rfl
  split at h
  · rename_i x hx
    cases h
    obtain ⟨us, h1, h2⟩ := key _ hx
    obtain ⟨u, rfl⟩ : ∃ u, us = [u] := by
      have := h2.1
      match us, this with
      | [u], _ => exact ⟨u, rfl⟩
    exact ⟨u, by simpa using h1, h2.2 0 (by simp) (by simp)⟩
  · rename_i vs hne hvs
    cases h
    obtain ⟨us, h1, h2⟩ := key _ hvs
    have hl : us.toArray.size ≠ 1 := by
      intro e
      have e' : vs.length = 1 := by rw [h2.1]; simpa using e
      match vs, e' with
      | [x], _ => exact hne x rfl
    rw [dif_neg hl] at h1
    exact ⟨_, h1, .tup vs _ (by simpa using h2.1) (fun i p q => by simpa using h2.2 i p (by simpa using q))⟩
  · cases h

def Wk (x y : V) : Prop := ∀ G v, RepV G x v → RepV G y v
theorem Wk.refl (x : V) : Wk x x := fun _ _ h => h

def mvV (n k L d : Nat) : Nat → V → V
  | 0 => fun v => v
  | f + 1 => fun v => match v with
    | .vec l k' γ m => if l = n ∧ k' = k then .vec L d γ m else .vec l k' γ m
    | .agg cs => .agg (cs.map (mvV n k L d f))
    | .tup cs => .tup (cs.map (mvV n k L d f))
    | .list b es => .list b (es.map (List.map (mvV n k L d f)))
    | v => v
theorem mvV_cell {n k L d : Nat} (f : Nat) {v : V} (h : v.isCell = true) : (mvV n k L d f v).isCell = true := by
  cases f with
  | zero => exact h
  | succ f =>
    cases v <;> first | exact h | skip
    simp only [mvV]
    split <;> rfl
theorem mvV_rep {n k L d : Nat} : ∀ (f : Nat) {v : V} {u : Value}, RepV G v u → RepV G (mvV n k L d f v) u
  | 0, _, _, h => h
  | f + 1, v, u, h => by
    have h0 := h
    cases h with
    | vec l k' g m b sz C a hb hle ha =>
      simp only [mvV]
      split
      · exact .vec _ _ _ _ b sz C a hb hle ha
      · exact .vec _ _ _ _ b sz C a hb hle ha
    | agg cs arr hl hc h =>
      refine .agg _ arr (by simpa using hl) (fun c hc' => ?_) fun i p q => ?_
      · obtain ⟨c', h1, rfl⟩ := List.mem_map.1 hc'
        exact mvV_cell f (hc c' h1)
      · simp only [List.getElem_map]
        exact mvV_rep f (h i (by simpa using p) q)
    | tup cs arr hl h =>
      refine .tup _ arr (by simpa using hl) fun i p q => ?_
      simp only [List.getElem_map]
      exact mvV_rep f (h i (by simpa using p) q)
    | list b es a cap bl off sz arr T fz vs hcap hfull ha hl hv hr =>
      have e : es.length = (es.map (List.map (mvV n k L d f))).length := by simp
      rw [e] at hcap hfull ⊢
      refine .list b _ a cap bl off sz arr T fz vs hcap hfull (fun hne => ha (by intro e; subst e; exact hne rfl)) (fun i hi => ?_) (fun i hi j hj => ?_) fun i hi j hj => ?_
      · simp only [List.getElem_map, List.length_map]
        exact hl i (by simpa using hi)
      · have := hv i (by simpa using hi) j (by simpa using hj)
        simp only [List.getElem_map]
        exact ⟨this.1, mvV_cell f this.2⟩
      · simp only [List.getElem_map]
        exact mvV_rep f (hr i (by simpa using hi) j (by simpa using hj))
    | _ => exact h0

def RetK (P : Program) (rs : List ResultVar) (n : Nat) (K : V → St → Prop) (e : Exit) (fr : Fr) (s : St) : Prop := match e with
  | .normal | .ret => ∃ up lc r0, s.up = up ++ [lc] ∧ up.length + 1 = n ∧ resV P rs fr s = some r0 ∧
      ((∃ r s2, Wk (closeV s 4 r0) r ∧ Shut s ⟨up, lc⟩ s2 ∧ K r s2) ∨
       (∃ k γ T es d, s.loc.get k = some (γ, .vec T es) ∧ K (mvV n k up.length d 4 r0) ((⟨up, lc⟩ : St).put up.length d γ (.vec T es))) ∨
       (∃ d T, newS r0 = true ∧ ∀ γ, K (.vec up.length d γ 0) ((⟨up, lc⟩ : St).put up.length d γ (.vec T []))))
  | _ => False

def argFr : Nat → List V → Fr
  | _, [] => []
  | i, v :: vs => (i, true, v) :: argFr (i + 1) vs

theorem argFr_rep {tmps : Array Value} : ∀ {vs : List V} {us : List Value} (i : Nat), RepA G vs us → (∀ j (h : j < us.length), tmps[i + j]? = some us[j]) → FrRep G (argFr i vs) tmps
  | [], _, _, _, _ => fun k c v h => by simp [argFr, Fr.get] at h
  | v :: vs, us, i, h, ht => by
    cases us with
    | nil => exact absurd h.1 (by simp)
    | cons u us =>
      have ih := argFr_rep (vs := vs) (us := us) (i + 1) ⟨by simpa using h.1, fun j p q => h.2 (j + 1) (by simpa using p) (by simpa using q)⟩ (fun j hj => by
        have := ht (j + 1) (by simpa using hj)
        simpa [Nat.add_assoc, Nat.add_comm 1 j] using this)
      intro k c x hk
      simp only [argFr, Fr.get] at hk
      split at hk
      · rename_i e
        subst e
        simp only [Option.some.injEq, Prod.mk.injEq] at hk
        obtain ⟨rfl, rfl⟩ := hk
        have h0 := ht 0 (by simp)
        exact ⟨u, by simpa using h0, fun _ => h.2 0 (by simp) (by simp), fun h => by cases h⟩
      · exact ih k c x hk

theorem acall {f : FuncId} {fn : Func} {c : Code} {args : List V} {K : V → St → Prop} (hf : P.funcs[f]? = some fn) (hb : fn.body = some c) (hc : Callable P f) (hsz : args.length ≤ fn.ntmps)
    (h : CodeOK P (s.up.length + 1) fn.ntmps none c (RetK P fn.results.toList (s.up.length + 1) K) (argFr 0 args) ⟨s.up ++ [s.loc], []⟩) : ACall P f args s K := by
  refine ⟨hc, fun G vals w R hI hA hR => ?_⟩
  refine callsIn_of_wp_marks hf hb trivial ?_ rfl
  have hvl : vals.size ≤ fn.ntmps := by have := hA.1; simp at this; omega
  have hI0 : Inv G ⟨s.up ++ [s.loc], []⟩ w := hI.push
  have hRel : Rel (s.up.length + 1) fn.ntmps G G (argFr 0 args) ⟨s.up ++ [s.loc], []⟩ { tmps := vals ++ Array.replicate (fn.ntmps - vals.size) undef, defers := [] } w :=
    ⟨Gh.le_refl G, hI0, argFr_rep 0 hA fun j hj => by
      have hj' : j < vals.size := by simpa using hj
      rw [Nat.zero_add, Array.getElem?_append_left hj', Array.getElem?_eq_getElem hj']; simp, by simp; omega, by simp, [], rfl, by simp, by simp⟩
  refine wpIn_mono (h G G _ w hRel) fun e a' w' hq => ?_
  obtain ⟨G', fr', s', hR', hk⟩ := hq
  have fin : (∃ up lc r0, s'.up = up ++ [lc] ∧ up.length + 1 = s.up.length + 1 ∧ resV P fn.results.toList fr' s' = some r0 ∧
      ((∃ r s2, Wk (closeV s' 4 r0) r ∧ Shut s' ⟨up, lc⟩ s2 ∧ K r s2) ∨
       (∃ k γ T es d, s'.loc.get k = some (γ, .vec T es) ∧ K (mvV (s.up.length + 1) k up.length d 4 r0) ((⟨up, lc⟩ : St).put up.length d γ (.vec T es))) ∨
       (∃ d T, newS r0 = true ∧ ∀ γ, K (.vec up.length d γ 0) ((⟨up, lc⟩ : St).put up.length d γ (.vec T []))))) → LeavesInM (wf none) 0 P fn a'.tmps R a'.defers .returning w' := by
    rintro ⟨up, lc, r0, hup, hlen, hres, hK⟩
    obtain ⟨rs, hd, hnd, hrs⟩ := hR'.marks
    rw [hd]
    refine leave_marks (G0 := G) rs G' w' hR'.inv hR'.fr hnd hR'.le hrs fun G1 w1 hI1 hF1 hle1 => ?_
    obtain ⟨u, hu1, hu2⟩ := resV_run hI1 hF1 hres
    obtain ⟨upX, loc'⟩ := s'
    simp only at hup
    subst hup
    rcases hK with ⟨r, s2, hw, hS, hK⟩ | ⟨k, γ, T, es, d, hget, hK⟩ | ⟨d, T, hn, hK⟩
    · obtain ⟨G2, hle2, hI2, hs2⟩ := hI1.shut hS
      exact ⟨u, hu1, hR G2 _ u w1 s2 (Gh.le_trans hle1 hle2) hI2 (hw _ _ (close_rep hI1 hle2 hs2 4 r0 u hu2)) (by rw [hS.1]; simpa using hlen) hK⟩
    · exact ⟨u, hu1, hR G1 _ u w1 _ hle1 (hI1.hand hget) (mvV_rep 4 hu2) (by rw [St.put_len]; simpa using hlen) hK⟩
    · obtain ⟨G2, hle2, hI2, hs2⟩ := hI1.leave
      obtain ⟨γ, G3, hle3, hI3, hb3, _⟩ := hI2.newNil T 0 up.length d (fun g l' k' => St.get_putLoc _ l' k')
      refine ⟨u, hu1, hR G3 _ u w1 _ (Gh.le_trans hle1 (Gh.le_trans hle2 hle3)) hI3 ?_ (by rw [St.put_len]; simpa using hlen) (hK γ)⟩
      have hnil := newS_rep hn hu2
      cases hnil with
      | list _ _ a cap b off sz arr T' fz vs hcap hfull ha hl hv hr =>
        have := hfull rfl
        subst this
        exact .vec _ _ _ _ 0 0 0 a hb3 (Nat.le_refl _) (fun h => absurd rfl h)
  cases e with
  | normal => exact fin hk
  | ret => exact fin hk
  | exit id => exact hk.elim
  | goto l => exact hk.elim
  | panic ch => exact hk.elim
  | outgrown => exact hk.elim
end Go.Pg
