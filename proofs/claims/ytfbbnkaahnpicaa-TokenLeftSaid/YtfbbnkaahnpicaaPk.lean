/- That the model follows a region's walk. No program in sight. -/
import Derived.Test.YtfbbnkaahnpicaaPm
namespace Go.Pg
variable {P : Program} {n N : Nat} {ρ : Option Nat} {G0 G : Gh} {fr : Fr} {s : St} {a : Act} {w : World}

theorem Rel.upd (h : Rel n N G0 G fr s a w) {G' : Gh} {s' : St} {w' : World} (hle : G.le G') (hI : Inv G' s' w') (hl : s'.up.length = s.up.length) : Rel n N G0 G' fr s' a w' :=
  ⟨Gh.le_trans h.le hle, hI, h.fr.mono hle, h.size, hl.trans h.lvl, let ⟨rs, h1, h2, h3⟩ := h.marks; ⟨rs, h1, h2, fun r hr => ⟨(h3 r hr).1, hle.1 _ _ (h3 r hr).2⟩⟩⟩

theorem Rel.put (h : Rel n N G0 G fr s a w) {d : Nat} (hd : d < N) {c : Bool} {v : V} {x : Value} (h1 : c = true → RepV G v x) (h2 : c = false → x = undef) : Rel n N G0 G (fr.put d c v) s (a.put (some d) x) w :=
  ⟨h.le, h.inv, h.fr.put (by rw [h.size]; exact hd) h1 h2, by simp [Act.put, h.size], h.lvl, h.marks⟩

theorem Rel.putD (h : Rel n N G0 G fr s a w) {d : Option Tmp} (hd : ∀ t, d = some t → t < N) {c : Bool} {v : V} {x : Value} (h1 : c = true → RepV G v x) (h2 : c = false → x = undef) : Rel n N G0 G (putD fr d c v) s (a.put d x) w := by
  cases d with
  | none => exact h
  | some t => exact h.put (hd t rfl) h1 h2

def StepOK (P : Program) (n N : Nat) (ρ : Option Nat) (G0 G : Gh) (g : Bool) (o : Oper) (a : Act) (w : World) (k : Fr → St → Prop) : Prop :=
  (g = true → ∀ (next : Act → World → Prop) (Q : Exit → Act → World → Prop), (∀ G' a' w' fr' s', Rel n N G0 G' fr' s' a' w' → k fr' s' → next a' w') → o.wpIn (wf ρ) 0 P a w next Q) ∧
  (g = false → ∃ fr' s', Rel n N G0 G fr' s' (a.put o.dst undef) w ∧ k fr' s')

theorem wpIn_value {o : Oper} {u : Value} {w' : World} {next : Act → World → Prop} {Q : Exit → Act → World → Prop} (hd : ∀ c, o.op ≠ .defer c) (hrun : (execOp a.eval o).run P w = .ok (.value u) w') (h : next (a.put o.dst u) w') : o.wpIn (wf ρ) 0 P a w next Q := by
  refine ⟨fun _ _ => trivial, ?_⟩
  rw [Oper.semAt_eq _ _ _ hd, hrun]
  exact h
theorem wpIn_skip' {o : Oper} {w' : World} {next : Act → World → Prop} {Q : Exit → Act → World → Prop} (hd : ∀ c, o.op ≠ .defer c) (hrun : (execOp a.eval o).run P w = .ok .skip w') (h : next (a.put o.dst undef) w') : o.wpIn (wf ρ) 0 P a w next Q := by
  refine ⟨fun _ _ => trivial, ?_⟩
  rw [Oper.semAt_eq _ _ _ hd, hrun]
  exact h

theorem StepOK.value {g : Bool} {o : Oper} {k : Fr → St → Prop} {v : V} (hR : Rel n N G0 G fr s a w) (hdst : ∀ t, o.dst = some t → t < N) (hd : ∀ c, o.op ≠ .defer c) (hk : k (putD fr o.dst g v) s)
    (hrun : g = true → ∃ u w' G', (execOp a.eval o).run P w = .ok (.value u) w' ∧ G.le G' ∧ Inv G' s w' ∧ RepV G' v u) : StepOK P n N ρ G0 G g o a w k := by
  refine ⟨fun hg next Q hn => ?_, fun hg => ⟨_, s, hR.putD hdst (fun h => by rw [hg] at h; cases h) (fun _ => rfl), hk⟩⟩
  obtain ⟨u, w', G', h1, h2, h3, h4⟩ := hrun hg
  exact wpIn_value hd h1 (hn G' _ w' _ s ((hR.upd h2 h3 rfl).putD hdst (fun _ => h4) (fun h => by rw [hg] at h; cases h)) hk)

theorem StepOK.sure {o : Oper} {k : Fr → St → Prop} {v : V} {d : Nat} {s' : St} (hR : Rel n N G0 G fr s a w) (hdst : ∀ t, o.dst = some t → t < N) (hd : ∀ c, o.op ≠ .defer c) (ho : o.dst = some d) (hl : s'.up.length = s.up.length)
    (hk : k (fr.put d true v) s') {u : Value} {w' : World} {G' : Gh} (h1 : (execOp a.eval o).run P w = .ok (.value u) w') (h2 : G.le G') (h3 : Inv G' s' w') (h4 : RepV G' v u) : StepOK P n N ρ G0 G true o a w k := by
  refine ⟨fun _ next Q hn => ?_, fun hg => by cases hg⟩
  refine wpIn_value hd h1 (hn G' _ w' _ s' ?_ hk)
  rw [ho]
  exact (hR.upd h2 h3 hl).put (hdst d ho) (fun _ => h4) (fun h => by cases h)

theorem mapM_some {ρ : Operand → Value} {r : Operand → Option V} (hr : ∀ x v, r x = some v → RepV G v (ρ x)) {xs : Array Operand} {vs : List V} (h : xs.toList.mapM r = some vs) : RepA G vs (xs.map ρ).toList := by
  have := mapM_rep hr h
  simpa using this

theorem wpIn_callS {g : Bool} {o : Oper} {c : Call} {f : Operand} {k : Fr → St → Prop} {fid : FuncId} {first cap vs : List V} (ho : o.op = .call c) (hc : c.callee = .value f) (hR : Rel n N G0 G fr s a w) (hdst : ∀ t, o.dst = some t → t < N)
    (hf : rdG g fr f = some (.fn fid first cap)) (hvs : c.args.toList.mapM (rdG g fr) = some vs) (hk : CallS P g fid ((first ++ vs ++ cap).map weakV) s fun r s' => k (putD fr o.dst g r) s') : StepOK P n N ρ G0 G g o a w k := by
  have call : ∀ {K : V → St → Prop}, g = true → ACall P fid ((first ++ vs ++ cap).map weakV) s K → (∀ r s', K r s' → k (putD fr o.dst true r) s') →
      ∀ (next : Act → World → Prop) (Q : Exit → Act → World → Prop), (∀ G' a' w' fr' s', Rel n N G0 G' fr' s' a' w' → k fr' s' → next a' w') → o.wpIn (wf ρ) 0 P a w next Q := by
    intro K hg hA hK next Q hn
    subst hg
    have hfr : ∀ x v, rdG true fr x = some v → RepV G v (a.eval x) := fun x v h => rdG_rep hR.fr h
    have hfv := hfr _ _ hf
    have hav := mapM_some hfr hvs
    generalize he : a.eval f = fv at hfv
    cases hfv with
    | fn _ _ _ a1 a2 l1 l2 hx hy =>
      have hres : (execOp a.eval o).run P w = .ok (.enter fid (a1 ++ c.args.map a.eval ++ a2)) w := by
        simp only [execOp, ho, resolve, hc, he, Deferred.ofValue, Sem.run_bind, Sem.run_pure, Result.andThen_ok, invoke]
        exact hA.1 _ _
      have hargs : RepA G ((first ++ vs ++ cap).map weakV) (a1 ++ c.args.map a.eval ++ a2).toList := by
        refine RepA.weak ?_
        have q1 : RepA G first a1.toList := ⟨by simpa using l1, fun i p q => by simpa using hx i p (by simpa using q)⟩
        have q2 : RepA G cap a2.toList := ⟨by simpa using l2, fun i p q => by simpa using hy i p (by simpa using q)⟩
        have := (q1.append hav).append q2
        simpa using this
      refine ⟨fun _ _ => trivial, ?_⟩
      rw [Oper.semAt_eq _ _ _ (by rw [ho]; intro c h; cases h), hres]
      refine ⟨fun h => absurd h (by simp [wf, Fence.wide]), ?_⟩
      refine hA.2 G _ w _ hR.inv hargs fun G' r v w' s' h1 h2 h3 h4 h5 => ?_
      exact hn G' _ w' _ s' ((hR.upd h1 h2 h4).putD hdst (fun _ => h3) (fun h => by cases h)) (hK r s' h5)
  rcases hk with ⟨hg, hA⟩ | ⟨r, hA, hk⟩
  · subst hg
    exact ⟨fun _ => call rfl hA fun _ _ h => h, fun h => by cases h⟩
  · refine ⟨fun hg => ?_, fun hg => ⟨_, s, hR.putD hdst (fun h => by rw [hg] at h; cases h) (fun _ => rfl), hk⟩⟩
    subst hg
    exact call rfl (hA rfl) fun r' s' ⟨e1, e2⟩ => by subst e1; subst e2; exact hk

theorem newS_rep {x : V} {v : Value} (h : newS x = true) (hv : RepV G x v) : RepV G (.list true []) v := by
  unfold newS at h
  split at h
  · cases hv
    exact RepV.list true [] none 0 0 0 0 #[] 0 (0,0) (fun _ _ => undef) (Nat.le_refl _) (fun _ => rfl) (fun h => absurd rfl h) (fun i h => absurd h (by simp)) (fun i h => absurd h (by simp)) (fun i h => absurd h (by simp))
  · exact hv
  · cases h

theorem newE_rep {x : V} {v : Value} {es ys : List (List V)} (h : newE x ys = some es) (hv : RepV G x v) : RepV G (.list true es) v ∧ (es = [] ∨ ys ≠ []) := by
  unfold newE at h
  split at h
  · cases h
    exact ⟨newS_rep (x := .nil) rfl hv, .inl rfl⟩
  · cases h; exact ⟨hv, .inl rfl⟩
  · cases h; exact ⟨hv, .inr (by simp)⟩
  · cases h

theorem Inv.upd (hI : Inv G s w) {T : TypeId} {m i v : V} {mv iv vv : Value} {l q γ : Nat} {es : List (V × V)} (h : evUpd P s T m i v = some (l, q, γ, es)) (hm : RepV G m mv) (hi : RepV G i iv) (hv : RepV G v vv) :
    ∃ w', (Instr.mapUpdate T mv iv vv).run P w = .ok () w' ∧ Inv G (s.put l q γ (.map es)) w' := by
  unfold evUpd at h
  split at h
  · rename_i K E l' q' g hmt
    have hu : P.underlying T = some (.map K E) := by
      unfold mapT at hmt; split at hmt
      · rename_i e; cases hmt; exact e
      · cases hmt
    split at h
    · rename_i g' es0 hget
      split at h
      · rename_i hc
        obtain ⟨rfl, hT⟩ := hc
        split at h
        · rename_i ks hks
          obtain ⟨b, arr, clock, hb, hh, hlen, hr⟩ := hI.res _ _ _ _ hget
          have hlt : b < w.heap.size := (Array.getElem?_eq_some_iff.1 hh).1
          have fin : ∀ (arr' : Array MapEntry) (c' : Nat) (es' : List (V × V)), es'.length = arr'.size → (∀ j (h1 : j < es'.length) (h2 : j < arr'.size), RepV G es'[j].1 arr'[j].key ∧ RepV G es'[j].2 arr'[j].val) →
              Inv G (s.put l' q' g' (.map es')) (w.putObj b (.map arr' c')) := fun arr' c' es' h1 h2 =>
            hI.turn hget (by simp [owns, hb]) (by simp [owns, hb]) (fun b' h => World.putObj_heap_other h) World.putObj_size ⟨rfl, rfl⟩ ⟨b, arr', c', hb, World.putObj_heap_same hlt, h1, h2⟩ (nf_put hlt)
          have hset : ∀ o, (setObj b o).run P w = .ok () (w.putObj b o) := fun o => by simp [setObj, Sem.run, hh, World.putObj]
          cases hm with
          | mp _ _ _ b' sz C hb' =>
            rw [hb] at hb'
            simp only [Option.some.injEq, Prod.mk.injEq] at hb'
            obtain ⟨rfl, rfl, rfl⟩ := hb'
            split at h
            · rename_i hf
              obtain ⟨c1, _, c3, _⟩ := find_run (P := P) (w := w) hT hks hi hlen (fun j p1 p2 => (hr j p1 p2).1) hf
              cases h
              refine ⟨_, by simp [Instr.mapUpdate, run_underlying hu, run_getObj_map hh, c1, c3 rfl, hset]; rfl, fin _ _ _ (by simp [hlen]) fun j p1 p2 => ?_⟩
              by_cases hj : j < es0.length
              · rw [List.getElem_append_left hj]
                have hj' : j < arr.size := by omega
                rw [Array.getElem_push_lt hj']
                exact hr j hj hj'
              · have : j = es0.length := by simp at p1; omega
                subst this
                simp only [List.getElem_append_right (Nat.le_refl _), Nat.sub_self, List.getElem_cons_zero]
                have e2 : es0.length = arr.size := hlen
                simp only [e2, Array.getElem_push_eq]
                exact ⟨hi, hv⟩
            · rename_i i0 hf
              obtain ⟨c1, c2, _, c4⟩ := find_run (P := P) (w := w) hT hks hi hlen (fun j p1 p2 => (hr j p1 p2).1) hf
              cases h
              obtain ⟨e', he', hek, hrun⟩ := c4 i0 rfl
              obtain ⟨hi2, rfl⟩ := Array.getElem?_eq_some_iff.1 he'
              refine ⟨_, by simp [Instr.mapUpdate, run_underlying hu, run_getObj_map hh, c1, hrun, hi2, hek, c2, hset]; rfl, fin _ _ _ (by simp [hlen]) fun j p1 p2 => ?_⟩
              by_cases hj : i0 = j
              · subst hj
                simp only [List.getElem_set_self, Array.getElem_modify_self]
                exact ⟨hi, hv⟩
              · rw [List.getElem_set_ne hj, Array.getElem_modify_of_ne hj]
                exact hr j (by simpa using p1) (by simpa using p2)
            · cases h
        · cases h
      · cases h
    · cases h
  · cases h

theorem flatten_take {es : List (List V)} {sz : Nat} (h : ∀ e ∈ es, e.length = sz) {i : Nat} (hi : i ≤ es.length) : (es.take i).flatten = es.flatten.take (i * sz) ∧ (es.drop i).flatten = es.flatten.drop (i * sz) := by
  have e : es.flatten = (es.take i).flatten ++ (es.drop i).flatten := by rw [← List.flatten_append, List.take_append_drop]
  have hl : (es.take i).flatten.length = i * sz := by
    rw [flat_len fun x hx => h x (List.mem_of_mem_take hx), List.length_take, Nat.min_eq_left hi]
  constructor
  · rw [e, List.take_left' hl]
  · rw [e, List.drop_left' hl]
theorem flatten_mid {es : List (List V)} {sz : Nat} {i n : Nat} {zs : List (List V)} (h : ∀ e ∈ es, e.length = sz) (hi : i ≤ es.length) (hn : i + n ≤ es.length) : (es.take i ++ zs ++ es.drop (i + n)).flatten = es.flatten.take (i * sz) ++ zs.flatten ++ es.flatten.drop (i * sz + n * sz) := by
  rw [List.flatten_append, List.flatten_append, (flatten_take h hi).1, (flatten_take h hn).2, Nat.add_mul]
theorem splice_take {α : Type} {L us : List α} {n m : Nat} (hn : n ≤ L.length) (hm : m + us.length ≤ n) : (L.take n).take m ++ us ++ (L.take n).drop (m + us.length) = (L.take m ++ us ++ L.drop (m + us.length)).take n := by
  rw [List.take_take, Nat.min_eq_left (by omega), List.take_append, List.take_of_length_le (l := L.take m ++ us) (by simp; omega), List.drop_take]
  congr 2
  simp
  omega

theorem Inv.clear (hI : Inv G s w) {T e ty : TypeId} {l q γ i n : Nat} {es : List (List V)} {z : List V} {xv : Value} (hel : elemT P T = some (none, e)) (hget : s.get l q = some (γ, .vec e es)) (hz : zeroC P e = some z) (hx : RepV G (.vtl l q γ i n) xv) (hle : i + n ≤ es.length)
    (hall : es.all (fun y => y.length == z.length) = true) : ∃ w' u, (Builtin.clear_ #[T] ty #[xv]).run P w = .ok u w' ∧ Inv G (s.put l q γ (.vec e (es.take i ++ List.replicate n z ++ es.drop (i + n)))) w' := by
  have hu := elemT_slice hel
  obtain ⟨zv, hzr, hzl, _⟩ := zeroC_run (G := G) (w := w) hz
  have hes : ∀ e' ∈ es, e'.length = z.length := fun e' he' => by simpa using List.all_eq_true.1 hall e' he'
  cases hx with
  | vtl _ _ _ _ _ b sz C cap a hb hlen ha =>
    by_cases hn : n = 0
    · subst hn
      refine ⟨w, .tuple #[], ?_, hI.congr' fun l' k' x hx => ?_⟩
      · cases a <;> simp [Builtin.clear_, run_underlying hu]
      · rw [St.get_put s hget] at hx
        split at hx
        · rename_i e0
          obtain ⟨rfl, rfl⟩ := e0
          simp only [List.replicate_zero, List.append_nil, Nat.add_zero, List.take_append_drop] at hx
          rw [hget]; exact hx
        · exact hx
    · have ha := ha hn
      subst ha
      obtain ⟨b', sz', C', hb', hC, hl, hmax, hrow⟩ := hI.res _ _ _ _ hget
      rw [hb] at hb'
      simp only [Option.some.injEq, Prod.mk.injEq] at hb'
      obtain ⟨rfl, rfl, rfl⟩ := hb'
      obtain ⟨arr, hh, hsz, hL⟩ := hrow (by omega)
      have h0 : 0 < es.length := by omega
      have hszz : sz = z.length := by rw [← hl _ (List.getElem_mem h0)]; exact hes _ (List.getElem_mem h0)
      have hzc : zv.cells.toList.length = z.length := hzl.1.symm
      have hzs : (Builtin.zeroCells zv.cells n).toList = (List.replicate n zv.cells.toList).flatten := by
        rw [replicate_flat]
        simp [Builtin.zeroCells]
        intro a _
        rw [getElem!_def]
        cases zv.cells[a % zv.cells.size]? <;> rfl
      have hZ : RepL G (List.replicate n z).flatten (Builtin.zeroCells zv.cells n).toList := by rw [hzs]; exact rep_repl hzl n
      have hZl : (Builtin.zeroCells zv.cells n).toList.length = n * sz := by rw [Array.length_toList, zeros_size, ← Array.length_toList, hzc, hszz]
      have hcap : es.length * sz ≤ arr.size := by rw [hsz]; exact Nat.mul_le_mul_right _ hC
      have hin : (i + n) * sz ≤ es.length * sz := Nat.mul_le_mul_right _ hle
      rw [Nat.add_mul] at hin
      have hst := run_storeCells_at P b (i * sz) e (Builtin.zeroCells zv.cells n).toList 0 arr w hh (by rw [hZl]; omega) hZ.one
      simp only [Nat.add_zero] at hst
      clear hzs
      generalize hZZ : (Builtin.zeroCells zv.cells n).toList = Z at hst hZ hZl
      obtain ⟨m, rfl⟩ : ∃ m, n = m + 1 := ⟨n - 1, by omega⟩
      have hown : owns G γ (.vec e es) = some b := by simp [owns, hb]; omega
      have hlen2 : (es.take i ++ List.replicate (m + 1) z ++ es.drop (i + (m + 1))).length = es.length := by simp; omega
      refine ⟨_, .tuple #[], by simp [Builtin.clear_, run_underlying hu, hzr, hZZ, hst]; rfl, hI.write hget hown (by simp [owns, hb]; omega) _ ⟨b, sz, C, hb, by rw [hlen2]; exact hC, fun e' he' => ?_, ⟨hmax.1, fun h => ?_⟩, fun _ => ⟨_, setRow_heap w b arr _ e _ hh, ?_, ?_⟩⟩ ⟨_, _, hh⟩⟩
      · rcases List.mem_append.1 he' with he' | he'
        · rcases List.mem_append.1 he' with he' | he'
          · exact hl _ (List.mem_of_mem_take he')
          · rw [List.eq_of_mem_replicate he', hszz]
        · exact hl _ (List.mem_of_mem_drop he')
      · rw [h] at hlen2; simp at hlen2; omega
      · rw [List.size_toArray, List.length_append, List.length_append, List.length_take, List.length_drop, Array.length_toList, hZl]; omega
      · rw [hlen2, flatten_mid hl (by omega) hle]
        have hA := splice_rep hL hZ (i * sz)
        have hzz : (List.replicate (m + 1) z).flatten.length = (m + 1) * sz := by rw [hZ.1, hZl]
        unfold spliceL at hA
        rw [splice_take (by rw [Array.length_toList]; exact hcap) (by rw [hZl]; omega), hzz] at hA
        simpa using hA

theorem putPs_rep : ∀ {ps : List Tmp} {vs : List V} {us : List Value} {fr : Fr} {tmps : Array Value}, vs.length = ps.length → FrRep G fr tmps → RepA G vs us → ps.all (fun p => Nat.blt p tmps.size) = true →
    FrRep G (putPs fr ps vs) ((ps.zip us).foldl (fun tmps (p : Nat × Value) => tmps.setIfInBounds p.1 p.2) tmps)
  | [], [], us, fr, tmps, _, hF, _, _ => by simpa [putPs] using hF
  | [], _ :: _, us, fr, tmps, h, _, _, _ => by simp at h
  | _ :: _, [], us, fr, tmps, h, _, _, _ => by simp at h
  | p :: ps, v :: vs, [], fr, tmps, _, _, hA, _ => absurd hA.1 (by simp)
  | p :: ps, v :: vs, u :: us, fr, tmps, hl, hF, hA, hp => by
    simp only [List.all_cons, Bool.and_eq_true, Nat.blt_eq] at hp
    have h0 := hA.2 0 (by simp) (by simp)
    simp only [putPs, List.zip_cons_cons, List.foldl_cons]
    refine putPs_rep (by simpa using hl) ?_ ⟨by simpa using hA.1, fun i a b => hA.2 (i + 1) (by simpa using a) (by simpa using b)⟩ (by simpa using hp.2)
    exact FrRep.put (a := { tmps := tmps, defers := [] }) hF hp.1 (fun _ => h0) (fun h => by cases h)
theorem foldl_set_size : ∀ (l : List (Nat × Value)) (tmps : Array Value), (l.foldl (fun tmps (p : Nat × Value) => tmps.setIfInBounds p.1 p.2) tmps).size = tmps.size
  | [], _ => rfl
  | x :: l, tmps => by simp [foldl_set_size l]

theorem Inv.push (hI : Inv G s w) : Inv G ⟨s.up ++ [s.loc], []⟩ w := by
  refine hI.congr' fun l k x hx => ?_
  unfold St.get at hx ⊢
  split at hx
  · simp at hx
  · rename_i e
    simp only [List.length_append, List.length_singleton] at e
    by_cases hl : l = s.up.length
    · subst hl
      simp at hx ⊢
      exact hx
    · rw [if_neg hl]
      cases hu : (s.up ++ [s.loc])[l]? with
      | none => rw [hu] at hx; cases hx
      | some L =>
        have hlt := (List.getElem?_eq_some_iff.1 hu).1
        simp only [List.length_append, List.length_singleton] at hlt
        rw [List.getElem?_append_left (by omega)] at hx
        exact hx

theorem wpIn_round {o : Oper} {c : Call} {f : Operand} {l q γ N0 : Nat} {fr0 : Fr} {ps : List Tmp} {asg body : Code} {vs : List V} {k : Fr → St → Prop} {next : Act → World → Prop} {Q : Exit → Act → World → Prop} (ho : o.op = .call c) (hc : c.callee = .value f) (hR : Rel n N G0 G fr s a w) (hdst : ∀ t, o.dst = some t → t < N)
    (hf : RepV G (.yld l q γ) (a.eval f)) (hv : RepA G vs (c.args.map a.eval).toList) (hget : s.get l q = some (γ, .loop fr0 ps asg body N0 .ready)) (h : RoundS P l q γ fr0 ps asg body N0 vs s fun r s' => k (putD fr o.dst true r) s')
    (hn : ∀ G' a' w' fr' s', Rel n N G0 G' fr' s' a' w' → k fr' s' → next a' w') : o.wpIn (wf ρ) 0 P a w next Q := by
  obtain ⟨hlen, hps, hcode⟩ := h
  generalize he : a.eval f = fv at hf
  cases hf with
  | yld _ _ _ b sz C hb =>
    obtain ⟨b', r, hb', hh, hF, hN, hpr, hasg, hbody, hst⟩ := hR.inv.res _ _ _ _ hget
    rw [hb] at hb'
    simp only [Option.some.injEq, Prod.mk.injEq] at hb'
    obtain ⟨rfl, rfl, rfl⟩ := hb'
    refine ⟨fun _ _ => trivial, ?_⟩
    rw [Oper.semAt_eq _ _ _ (by rw [ho]; intro c h; cases h)]
    have hargs : (c.args.map a.eval).size = r.params.size := by
      have h1 := hv.1
      simp only [Array.length_toList] at h1
      have h2 : r.params.toList.length = ps.length := by rw [hpr]
      simp only [Array.length_toList] at h2
      omega
    have hres : (execOp a.eval o).run P w = (Instr.yield b (c.args.map a.eval)).run P w := by
      simp [execOp, ho, resolve, hc, he, Deferred.ofValue, invoke]
    rw [hres, run_yield hh hargs]
    refine ⟨fun h => absurd h (by simp [wf, Fence.wide]), roundIn_of_wpIn trivial ?_⟩
    have hfold : (r.params.zip (c.args.map a.eval)).foldl (fun tmps (x : Nat × Value) => tmps.setIfInBounds x.1 x.2) r.tmps = (ps.zip (c.args.map a.eval).toList).foldl (fun tmps (x : Nat × Value) => tmps.setIfInBounds x.1 x.2) r.tmps := by
      rw [← Array.foldl_toList, Array.toList_zip, hpr]
    rw [hfold]
    have hRel : Rel (s.up.length + 1) N0 G G (putPs fr0 ps vs) ⟨s.up ++ [s.loc], []⟩ { tmps := (ps.zip (c.args.map a.eval).toList).foldl (fun tmps (x : Nat × Value) => tmps.setIfInBounds x.1 x.2) r.tmps, defers := [] } w :=
      ⟨Gh.le_refl G, hR.inv.push, putPs_rep hlen hF hv (by rw [hN]; exact hps), by rw [foldl_set_size]; exact hN, by simp, [], rfl, by simp, by simp⟩
    have h1 := hcode (some b) G G _ w hRel
    have hwf : (wf ρ).inRound b = wf (some b) := rfl
    rw [hwf]
    rw [hasg]
    refine wpIn_mono h1 fun e a1 w1 hq => ?_
    obtain ⟨G1, fr1, s1, hR1, rfl, fr0', ps', asg', body', N', hget1, hcode2⟩ := hq
    obtain ⟨b1, r1, hb1, hh1, hF1, hN1, hpr1, hasg1, hbody1, hst1⟩ := hR1.inv.res _ _ _ _ hget1
    have hb1' := hR1.le.2 _ _ hb
    rw [hb1'] at hb1
    simp only [Option.some.injEq, Prod.mk.injEq, and_true] at hb1
    obtain rfl := hb1
    have hlt1 : b < w1.heap.size := (Array.getElem?_eq_some_iff.1 hh1).1
    refine ⟨_, run_beginRound hh1 hst1.1, ?_⟩
    rw [hbody]
    have hI2 : Inv G1 (s1.put l q γ (.loop fr0' ps' asg' body' N' .busy)) (w1.putObj b (.loop { r1 with state := .busy })) :=
      hR1.inv.turn hget1 (by simp [owns, hb1']) (by simp [owns, hb1']) (fun b' h => World.putObj_heap_other h) World.putObj_size ⟨rfl, rfl⟩ ⟨b, { r1 with state := .busy }, hb1', World.putObj_heap_same hlt1, hF1, hN1, hpr1, hasg1, hbody1, rfl, hst1.2⟩ (nf_put hlt1)
    have hRel2 : Rel (s.up.length + 1) N0 G G1 fr1 (s1.put l q γ (.loop fr0' ps' asg' body' N' .busy)) a1 (w1.putObj b (.loop { r1 with state := .busy })) :=
      ⟨hR1.le, hI2, hR1.fr, hR1.size, (St.put_len _ _ _ _ _).trans hR1.lvl, hR1.marks⟩
    refine wpIn_mono (hcode2 G G1 _ _ hRel2) fun e a2 w2 hq => ?_
    obtain ⟨G2, fr2, s2, hR2, up, lc, s3, frZ, psZ, asgZ, bodyZ, NZ, hup, hul, hll, hgetB, hS, ⟨rB, hgetS⟩, hk⟩ := hq
    obtain ⟨up2, loc2⟩ := s2
    simp only at hup
    subst hup
    obtain ⟨G3, hle3, hI3, hs3⟩ := hR2.inv.shut hS
    obtain ⟨b2, r2, hb2, hh2, hF2, hN2, hpr2, hasg2, hbody2, hst2⟩ := hR2.inv.res _ _ _ _ hgetB
    have hb2' := hR2.le.2 _ _ hb
    rw [hb2'] at hb2
    simp only [Option.some.injEq, Prod.mk.injEq, and_true] at hb2
    obtain rfl := hb2
    have hb3 := hle3.2 _ _ hb2'
    have hlt2 : b < w2.heap.size := (Array.getElem?_eq_some_iff.1 hh2).1
    have hoB : owns G3 γ rB = some b := by
      obtain ⟨r0, h0, h1⟩ := hS.2 _ _ _ _ hgetS
      have h2 := (get_below (loc := loc2) h0).2
      rw [hgetB] at h2
      cases h2
      rcases h1 with rfl | rfl
      · simp [owns, hb3]
      · rw [owns_close]; simp [owns, hb3]
    have fin : ∀ (jump : Option Code) (st : LS), (∀ r : Loop, st.is { r with state := if jump.isNone then .ready else .done, pending := jump }) → k (putD fr o.dst true (.bool jump.isNone)) (s3.put l q γ (.loop frZ psZ asgZ bodyZ NZ st)) →
        ∃ v w', (Instr.endRound b jump).run P w2 = .ok v w' ∧ next (a.put o.dst v) w' := by
      intro jump st hst' hk
      refine ⟨_, _, run_endRound jump hh2, ?_⟩
      have hI4 : Inv G3 (s3.put l q γ (.loop frZ psZ asgZ bodyZ NZ st)) (w2.putObj b (.loop { r2 with state := if jump.isNone then .ready else .done, pending := jump })) :=
        hI3.turn hgetS hoB (by simp [owns, hb3]) (fun b' h => World.putObj_heap_other h) World.putObj_size ⟨rfl, rfl⟩ ⟨b, _, hb3, World.putObj_heap_same hlt2, hF2.mono hle3, hN2, hpr2, hasg2, hbody2, hst' r2⟩ (nf_put hlt2)
      have hl3 : (s3.put l q γ (.loop frZ psZ asgZ bodyZ NZ st)).up.length = s.up.length := by
        rw [St.put_len, hS.1]; simp only; omega
      have hG : G.le G3 := Gh.le_trans hR2.le hle3
      exact hn G3 _ _ _ _ ((hR.upd hG hI4 hl3).putD hdst (fun _ => .bool _) (fun h => by cases h)) hk
    cases e with
    | normal => exact fin none .ready (fun r => ⟨rfl, rfl⟩) hk
    | ret => exact fin (some .ret) (.left .ret) (fun r => ⟨rfl, rfl⟩) hk
    | exit id => exact fin (some (.exit id)) (.left (.exit id)) (fun r => ⟨rfl, rfl⟩) hk
    | goto t => exact hk.elim
    | panic ch => exact hk.elim
    | outgrown => exact hk.elim

theorem step_sound {g : Bool} {o : Oper} {k : Fr → St → Prop} (hR : Rel n N G0 G fr s a w) (hdst : ∀ t, o.dst = some t → t < N) (h : stepP P g o fr s k) : StepOK P n N ρ G0 G g o a w k := by
  have hrd : g = true → ∀ x v, rdG g fr x = some v → RepV G v (a.eval x) := fun hg x v hx => rdG_rep hR.fr (by rw [hg] at hx; exact hx)
  have hpl : ∀ g r l' k' d, (s.put s.up.length d g r).get l' k' = if l' = s.up.length ∧ k' = d then some (g, r) else s.get l' k' := fun g r l' k' d => St.get_putLoc s l' k'
  unfold stepP at h
  split at h
  · rename_i T ho
    split at h
    · rename_i d cs hd hz
      obtain ⟨rfl, hk⟩ := h
      obtain ⟨z, hz1, hz2, _⟩ := zeroC_run (G := G) (w := w) hz
      obtain ⟨γ, G', h1, h2, h3, _⟩ := hR.inv.new (.cells z.cells T) (1, cs.length) (.box cs) s.up.length d (fun g l' k' => hpl g _ l' k' d) (fun G' g hle hb => ⟨_, _, T, hb, heap_alloc_new w _, hz2.mono hle⟩)
      exact .sure hR hdst (by rw [ho]; intro c h; cases h) hd (St.put_len _ _ _ _ _) (hk γ) (u := .pointer (some ⟨w.heap.size, 0, none⟩)) (by simp [execOp, ho, Instr.alloc, hz1, newVar, newRow]) h1 h2 (.ptr _ _ _ _ _ _ _ h3)
    · cases h
  · rename_i T x ho
    split at h
    · rename_i d v hd hv
      obtain ⟨rfl, hf, hk⟩ := h
      have hrep := cells_rep hf (hrd rfl _ _ hv)
      obtain ⟨γ, G', h1, h2, h3, _⟩ := hR.inv.new (.cells (a.eval x).cells T) (1, (cellsV v).length) (.box (cellsV v)) s.up.length d (fun g l' k' => hpl g _ l' k' d) (fun G' g hle hb => ⟨_, _, T, hb, heap_alloc_new w _, hrep.mono hle⟩)
      exact .sure hR hdst (by rw [ho]; intro c h; cases h) hd (St.put_len _ _ _ _ _) (hk γ) (u := .pointer (some ⟨w.heap.size, 0, none⟩)) (by simp [execOp, ho, Instr.box, newVar, newRow]) h1 h2 (.ptr _ _ _ _ _ _ _ h3)
    · cases h
  · rename_i T r ho
    split at h
    · rename_i d hd
      obtain ⟨rfl, hk⟩ := h
      obtain ⟨γ, G', h1, h2, h3, _⟩ := hR.inv.new (.map #[] 0) (1, 1) (.map []) s.up.length d (fun g l' k' => hpl g _ l' k' d) (fun G' g hle hb => ⟨_, #[], 0, hb, heap_alloc_new w _, rfl, fun i p => absurd p (by simp)⟩)
      exact .sure hR hdst (by rw [ho]; intro c h; cases h) hd (St.put_len _ _ _ _ _) (hk γ) (u := .map (some w.heap.size)) (by simp [execOp, ho, Instr.makeMap, newObj]; rfl) h1 h2 (.mp _ _ _ _ _ _ h3)
    · cases h
  · rename_i T x y ho
    split at h
    · rename_i d k1 n1 k2 m1 e hd hx hy hel
      split at h
      · rename_i z hz
        obtain ⟨rfl, h0, rfl, hzl, hby, h63, hk⟩ := h
        obtain ⟨u, w', γ, G', h1, h2, h3, h4⟩ := makeSlice_new (k1 := k1) (k2 := k2) (n := m1.toNat) (d := d) hR.inv hel hz hzl hby h63
        have ex := hrd rfl _ _ hx
        have ey := hrd rfl _ _ hy
        generalize he1 : a.eval x = xv at ex
        generalize he2 : a.eval y = yv at ey
        cases ex; cases ey
        have hn : ((m1.toNat : Nat) : Int) = m1 := Int.toNat_of_nonneg h0
        rw [hn] at h1
        exact .sure hR hdst (by rw [ho]; intro c h; cases h) hd (St.put_len _ _ _ _ _) (hk γ) (by simp [execOp, ho, he1, he2, h1]) h2 h3 h4
      · cases h
    · cases h
  · rename_i T x y ho
    split at h
    · rename_i l q γ off v hx hy
      split at h
      · rename_i γ' cs hget
        obtain ⟨rfl, rfl, hf, hp, hs, hl, hdn, hk⟩ := h
        obtain ⟨w', h1, h2⟩ := hR.inv.storeBox hget (hrd rfl _ _ hx) (hrd rfl _ _ hy) hf hp hs hl
        refine ⟨fun _ next Q hn => wpIn_skip' (by rw [ho]; intro c h; cases h) (w' := w') (by simp [execOp, ho, h1]) (hn G _ w' fr _ ?_ hk), fun h => by cases h⟩
        rw [hdn]
        exact hR.upd (Gh.le_refl G) h2 (St.put_len _ _ _ _ _)
      · cases h
    · rename_i l q γ i off v hx hy
      split at h
      · rename_i γ' U es hget
        obtain ⟨rfl, rfl, hf, hp, hs, hi, hl, hdn, hk⟩ := h
        obtain ⟨w', h1, h2⟩ := hR.inv.storeVec hget (hrd rfl _ _ hx) (hrd rfl _ _ hy) hf hp hs hi hl
        refine ⟨fun _ next Q hn => wpIn_skip' (by rw [ho]; intro c h; cases h) (w' := w') (by simp [execOp, ho, h1]) (hn G _ w' fr _ ?_ hk), fun h => by cases h⟩
        rw [hdn]
        exact hR.upd (Gh.le_refl G) h2 (St.put_len _ _ _ _ _)
      · cases h
    · cases h
  · rename_i c x y ho
    split at h
    · rename_i c' ca va cb vb hc hx hy
      obtain ⟨h1, h2, hk⟩ := h
      refine .value hR hdst (by rw [ho]; intro c h; cases h) hk fun hg => ?_
      have q1 := hrd hg _ _ hc
      generalize he : a.eval c = cv at q1
      cases q1
      cases c'
      · have := rd_rep hR.fr hy (h2 hg rfl)
        exact ⟨a.eval y, w, G, by simp [execOp, ho, he, asBool], Gh.le_refl G, hR.inv, by simpa using this⟩
      · have := rd_rep hR.fr hx (h1 hg rfl)
        exact ⟨a.eval x, w, G, by simp [execOp, ho, he, asBool], Gh.le_refl G, hR.inv, by simpa using this⟩
    · cases h
  · rename_i T parts ho
    split at h
    · rename_i ps hps
      split at h
      · rename_i v hv
        refine .value hR hdst (by rw [ho]; intro c h; cases h) h fun hg => ?_
        obtain ⟨us, e1, e2, e3⟩ := partsM_rep (hrd hg) hps
        obtain ⟨u, h1, h2⟩ := build_run (w := w) (vals := parts.map fun (i, x) => (i, a.eval x)) hv (by rw [e2, e1]; simp) (fun i p q => by
          have := e3 i p (by rw [e2] at p; exact p)
          subst e1
          simpa using this)
        exact ⟨u, w, G, by simp [execOp, ho, h1], Gh.le_refl G, hR.inv, h2⟩
      · cases h
    · cases h
  · rename_i T len parts ho
    split at h
    · rename_i ps hps
      split at h
      · rename_i v hv
        refine .value hR hdst (by rw [ho]; intro c h; cases h) h fun hg => ?_
        obtain ⟨us, e1, e2, e3⟩ := partsM_rep (hrd hg) hps
        obtain ⟨u, w', G', h1, h2, h3, h4⟩ := buildSlice_run (w := w) (vals := parts.map fun (i, x) => (i, a.eval x)) hR.inv hv (by rw [e2, e1]; simp) (fun i p q => by
          have := e3 i p (by rw [e2] at p; exact p)
          subst e1
          simpa using this)
        exact ⟨u, w', G', by simp [execOp, ho, h1], h2, h3, h4⟩
      · cases h
    · cases h
  · rename_i T x i y ho
    split at h
    · rename_i m i' v hm hi hv
      split at h
      · rename_i l q γ es hu
        obtain ⟨rfl, hdn, hk⟩ := h
        obtain ⟨w', h1, h2⟩ := hR.inv.upd hu (hrd rfl _ _ hm) (hrd rfl _ _ hi) (hrd rfl _ _ hv)
        refine ⟨fun _ next Q hn => wpIn_skip' (by rw [ho]; intro c h; cases h) (w' := w') (by simp [execOp, ho, h1]) (hn G _ w' fr _ ?_ hk), fun h => by cases h⟩
        rw [hdn]
        exact hR.upd (Gh.le_refl G) h2 (St.put_len _ _ _ _ _)
      · cases h
    · cases h
  · rename_i T x i y ho
    split at h
    · rename_i m i' v hm hi hv
      split at h
      · rename_i l q γ es hu
        obtain ⟨rfl, hdn, hk⟩ := h
        obtain ⟨w', h1, h2⟩ := hR.inv.upd hu (hrd rfl _ _ hm) (hrd rfl _ _ hi) (hrd rfl _ _ hv)
        refine ⟨fun _ next Q hn => wpIn_skip' (by rw [ho]; intro c h; cases h) (w' := w') (by simp [execOp, ho, h1]) (hn G _ w' fr _ ?_ hk), fun h => by cases h⟩
        rw [hdn]
        exact hR.upd (Gh.le_refl G) h2 (St.put_len _ _ _ _ _)
      · cases h
    · cases h
  · rename_i args argTypes ho
    split at h
    · rename_i x T hx hT hd
      have e1 : args = #[x] := by simpa using congrArg List.toArray hx
      have e2 : argTypes = #[T] := by simpa using congrArg List.toArray hT
      split at h
      · rename_i e l q γ i n hel hxr
        split at h
        · rename_i γ' U es z hget hz
          obtain ⟨rfl, rfl, rfl, hle, hall, hk⟩ := h
          obtain ⟨w', u, h1, h2⟩ := hR.inv.clear (ty := o.type) hel hget hz (hrd rfl _ _ hxr) hle hall
          refine ⟨fun _ next Q hn => wpIn_value (by rw [ho]; intro c h; cases h) (w' := w') (u := u) (by simp [execOp, ho, resolve, invoke, builtin, e1, e2, h1]) (hn G _ w' fr _ ?_ hk), fun h => by cases h⟩
          rw [hd]
          exact hR.upd (Gh.le_refl G) h2 (St.put_len _ _ _ _ _)
        · cases h
      · cases h
    · cases h
  · rename_i args argTypes ho
    split at h
    · rename_i x y T U d hx hT hd
      obtain ⟨rfl, h⟩ := h
      have e1 : args = #[x, y] := by simpa using congrArg List.toArray hx
      have e2 : argTypes = #[T, T] := by simpa using congrArg List.toArray hT
      split at h
      · rename_i e xv ys hel hxr hyr
        split at h
        · rename_i es hnew
          obtain ⟨rfl, hpos, hz, halle, hall, h63, hby, hk⟩ := h
          obtain ⟨yv, hyv, hys⟩ := Option.bind_eq_some_iff.1 hyr
          obtain ⟨hnx, hne⟩ := newE_rep hnew (hrd rfl _ _ hxr)
          obtain ⟨u, w', γ, G', h1, h2, h3, h4, _⟩ := append_full (ty := o.type) hR.inv hel hnx (hrd rfl _ _ hyv) hys hz halle hall h63 hby hne
          exact .sure hR hdst (by rw [ho]; intro c h; cases h) hd (St.put_len _ _ _ _ _) (hk γ) (by simp [execOp, ho, resolve, invoke, builtin, e1, e2, h1]) h2 h3 h4
        · split at h
          · rename_i l q γ n' hnn
            split at h
            · rename_i γ' U' es hget
              obtain ⟨rfl, rfl, rfl, rfl, hpos, hz, halle, hall, h63, hby, hk⟩ := h
              obtain ⟨yv, hyv, hys⟩ := Option.bind_eq_some_iff.1 hyr
              obtain ⟨u, w', γ2, G', h1, h2, h3, h4, _⟩ := append_vec (ty := o.type) hR.inv hel hget (hrd rfl _ _ hxr) (hrd rfl _ _ hyv) hys hz halle hall h63 hby
              exact .sure hR hdst (by rw [ho]; intro c h; cases h) hd (St.put_len _ _ _ _ _) (hk γ2) (by simp [execOp, ho, resolve, invoke, builtin, e1, e2, h1]) h2 h3 h4
            · cases h
          · cases h
      · cases h
    · cases h
  · rename_i f args argTypes ho
    split at h
    · rename_i fid first cap vs hf hvs
      exact wpIn_callS ho rfl hR hdst hf hvs h
    · rename_i l q γ vs hf hvs
      split at h
      · rename_i γ' fr0 ps asg body N0 hget
        obtain ⟨rfl, rfl, hY⟩ := h
        refine ⟨fun _ next Q hn => ?_, fun h => by cases h⟩
        exact wpIn_round ho rfl hR hdst (hrd rfl _ _ hf) (mapM_some (hrd rfl) hvs) hget hY hn
      · cases h
    · cases h
  · split at h
    · rename_i v hv
      have hnd : ∀ c, o.op ≠ .defer c := by
        intro c hc
        rw [evP, hc] at hv
        cases hv
      refine .value hR hdst hnd h fun hg => ?_
      obtain ⟨u, h1, h2⟩ := evP_run (ρ := a.eval) hR.inv (hrd hg) hv
      exact ⟨u, w, G, h1, Gh.le_refl G, hR.inv, h2⟩
    · cases h
theorem stepQ_sound {g : Bool} {o : Oper} {k : Fr → St → Prop} (hR : Rel n N G0 G fr s a w) (hdst : ∀ t, o.dst = some t → t < N) (h : stepQ P g o fr s k) : StepOK P n N ρ G0 G g o a w k := by
  rcases h with h | ⟨rfl, v, hk⟩ | ⟨T, len, parts, d, e, es, ps, ho, rfl, hd, hel, hps, hev, hne, hmx, hk⟩ | ⟨t, l, q, γ, m, T, es, rfl, ht, hget, hm, h⟩
  · exact step_sound hR hdst h
  · exact ⟨fun h => (by cases h), fun _ => ⟨_, s, hR.putD hdst (fun h => (by cases h)) (fun _ => rfl), hk⟩⟩
  · obtain ⟨us, e1, e2, e3⟩ := partsM_rep (fun x v hx => rdG_rep hR.fr hx) hps
    obtain ⟨u, w', γ, G', h1, h2, h3, h4⟩ := buildSlice_own (w := w) (d := d) (vals := parts.map fun (i, x) => (i, a.eval x)) hR.inv hev (by rw [e2, e1]; simp) (fun i p q => by
      have := e3 i p (by rw [e2] at p; exact p)
      subst e1
      simpa using this) hne hmx hel
    exact .sure hR hdst (by rw [ho]; intro c h; cases h) hd (St.put_len _ _ _ _ _) (hk γ) (by simp [execOp, ho, h1]) h2 h3 h4
  · obtain ⟨G', hle, hI', hs⟩ := hR.inv.lockRow hget
    obtain ⟨x, hx1, hx2, _⟩ := hR.fr t _ _ ht
    have hv := vec_shut hR.inv hle hget hm hs (hx2 rfl)
    have hR' : Rel n N G0 G' (fr.put t true (.list false (es.take m))) (s.put l q γ .dead) a w := by
      refine ⟨Gh.le_trans hR.le hle, hI', fun k c v hk => ?_, hR.size, by rw [St.put_len]; exact hR.lvl, ?_⟩
      · rw [Fr.get_put] at hk
        split at hk
        · rename_i e
          cases hk
          subst e
          exact ⟨x, hx1, fun _ => hv, fun h => by cases h⟩
        · obtain ⟨y, h1, h2, h3⟩ := hR.fr k c v hk
          exact ⟨y, h1, fun hc => (h2 hc).mono hle, h3⟩
      · obtain ⟨rs, h1, h2, h3⟩ := hR.marks
        exact ⟨rs, h1, h2, fun r hr => ⟨(h3 r hr).1, hle.a _ _ (h3 r hr).2⟩⟩
    obtain ⟨h1, _⟩ := step_sound (ρ := ρ) hR' hdst h
    exact ⟨h1, fun h => by cases h⟩
end Go.Pg
