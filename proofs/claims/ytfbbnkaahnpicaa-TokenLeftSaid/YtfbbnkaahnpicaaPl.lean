/- The walk over a function's code upon abstract values, and that the model follows it. No program in sight. -/
import Derived.Test.YtfbbnkaahnpicaaPk
import Derived.Scope
namespace Go.Pg
variable {P : Program} {n N : Nat} {ρ : Option Nat} {G0 G : Gh} {fr : Fr} {s : St} {a : Act} {w : World}

def dstOK (N : Nat) (ops : List Oper) : Bool := ops.all fun o => match o.dst with
  | some d => Nat.blt d N
  | none => true

theorem dstOK_spec {ops : List Oper} (h : dstOK N ops = true) {o : Oper} (ho : o ∈ ops) : ∀ t, o.dst = some t → t < N := by
  intro t ht
  have := List.all_eq_true.1 h o ho
  rw [ht] at this
  simpa [Nat.blt_eq] using this

theorem evalL_sound {ops : Array Oper} (hN : dstOK N ops.toList = true) {K : Exit → Fr → St → Prop} : ∀ (rest : List Oper) (gs : List (Option (Tmp × Bool))) (i : Nat) (G : Gh) (fr : Fr) (s : St) (a : Act) (w : World), (∀ j (h : j < rest.length), ops[i + j]? = some rest[j]) → gsOK ops.toList gs rest = true →
    Rel n N G0 G fr s a w → evalL P gs rest fr s (K .normal) → wpOpsIn (wf ρ) 0 P ops (Post n N G0 K) (List.range' i rest.length) a w
  | [], gs, i, G, fr, s, a, w, _, _, hR, h => ⟨G, fr, s, hR, by cases gs <;> exact h⟩
  | o :: rest, gs, i, G, fr, s, a, w, hal, hgs, hR, h => by
    have ho : ops[i]? = some o := by
      have h0 := hal 0 (by simp)
      simpa only [Nat.add_zero, List.getElem_cons_zero] using h0
    have hal' : ∀ j (h : j < rest.length), ops[i + 1 + j]? = some rest[j] := fun j hj => by
      have := hal (j + 1) (by simpa using hj)
      simpa [Nat.add_assoc, Nat.add_comm 1 j] using this
    have hm : o ∈ ops.toList := by
      have := Array.mem_of_getElem? ho
      simpa using this
    have hlen : List.range' i (o :: rest).length = i :: List.range' (i + 1) rest.length := by simp [List.range'_succ]
    have main : ∀ (gd : Option (Tmp × Bool)) (gs' : List (Option (Tmp × Bool))) (g : Bool), guardIs ops.toList o gd = true → gsOK ops.toList gs' rest = true → gdV fr gd = some g → stepQ P g o fr s (fun fr s => evalL P gs' rest fr s (K .normal)) →
        wpOpsIn (wf ρ) 0 P ops (Post n N G0 K) (List.range' i (o :: rest).length) a w := by
      intro gd gs' g hg1 hg2 hg hst
      have hw := gdV_wanted hR.fr hg1 hg
      obtain ⟨h1, h2⟩ := stepQ_sound (ρ := ρ) hR (dstOK_spec hN hm) hst
      rw [hlen]
      unfold wpOpsIn
      rw [ho]
      simp only [hw]
      cases g with
      | true => exact h1 rfl _ _ fun G' a' w' fr' s' hR' hk => evalL_sound hN rest gs' (i + 1) G' fr' s' a' w' hal' hg2 hR' hk
      | false =>
        obtain ⟨fr', s', hR', hk⟩ := h2 rfl
        exact ⟨fun _ _ => trivial, evalL_sound hN rest gs' (i + 1) G fr' s' _ w hal' hg2 hR' hk⟩
    cases gs with
    | nil =>
      simp only [gsOK, Bool.and_eq_true] at hgs
      exact main none [] true hgs.1 hgs.2 rfl h
    | cons gd gs =>
      simp only [gsOK, Bool.and_eq_true] at hgs
      unfold evalL at h
      split at h
      · rename_i g hg
        exact main gd gs g hgs.1 hgs.2 hg h
      · cases h

def Kseq (k : Fr → St → Prop) (K : Exit → Fr → St → Prop) : Exit → Fr → St → Prop
  | .normal => k
  | e => K e
def Kblk (id : Nat) (K : Exit → Fr → St → Prop) : Exit → Fr → St → Prop
  | .exit i => if i = id then K .normal else K (.exit i)
  | e => K e

theorem code_region {id : Nat} {l : List Oper} {K : Exit → Fr → St → Prop} (gs : List (Option (Tmp × Bool))) (hN : dstOK N l = true) (hg : gsOK l gs l = true) (h : evalL P gs l fr s (K .normal)) : CodeOK P n N ρ (.region id l.toArray false) K fr s := by
  intro _ _ _ _ hR
  have := evalL_sound (ρ := ρ) (ops := l.toArray) (by simpa using hN) l gs 0 _ _ _ _ _ (fun j h => by simp) (by simpa using hg) hR h
  refine wpIn_region ?_
  simpa [List.range_eq_range'] using this

theorem code_seq {x y : Code} {K : Exit → Fr → St → Prop} (h : CodeOK P n N ρ x (Kseq (CodeOK P n N ρ y K) K) fr s) : CodeOK P n N ρ (.seq x y) K fr s := by
  intro G0 G a w hR
  refine wpIn_seq (wpIn_mono (h G0 G a w hR) fun e a w hq => ?_)
  obtain ⟨G', fr', s', hR', hk⟩ := hq
  cases e with
  | normal => exact hk G0 G' a w hR'
  | exit id => exact ⟨G', fr', s', hR', hk⟩
  | goto l => exact ⟨G', fr', s', hR', hk⟩
  | ret => exact ⟨G', fr', s', hR', hk⟩
  | panic ch => exact ⟨G', fr', s', hR', hk⟩
  | outgrown => exact ⟨G', fr', s', hR', hk⟩

theorem code_block {id : Nat} {c : Code} {K : Exit → Fr → St → Prop} (h : CodeOK P n N ρ c (Kblk id K) fr s) : CodeOK P n N ρ (.block id c) K fr s := by
  intro G0 G a w hR
  refine wpIn_block (wpIn_mono (h G0 G a w hR) fun e a w hq => ?_)
  obtain ⟨G', fr', s', hR', hk⟩ := hq
  cases e with
  | exit i =>
    have hk' : (if i = id then K .normal else K (.exit i)) fr' s' := hk
    show if i = id then _ else _
    split
    · rename_i e; rw [if_pos e] at hk'; exact ⟨G', fr', s', hR', hk'⟩
    · rename_i e; rw [if_neg e] at hk'; exact ⟨G', fr', s', hR', hk'⟩
  | normal => exact ⟨G', fr', s', hR', hk⟩
  | goto l => exact ⟨G', fr', s', hR', hk⟩
  | ret => exact ⟨G', fr', s', hR', hk⟩
  | panic ch => exact ⟨G', fr', s', hR', hk⟩
  | outgrown => exact ⟨G', fr', s', hR', hk⟩

theorem code_cond {c : Operand} {x y : Code} {K : Exit → Fr → St → Prop} {b : Bool} (hc : rdG true fr c = some (.bool b)) (h1 : b = true → CodeOK P n N ρ x K fr s) (h2 : b = false → CodeOK P n N ρ y K fr s) : CodeOK P n N ρ (.cond c x y) K fr s := by
  intro G0 G a w hR
  have := rdG_rep hR.fr hc
  generalize he : a.eval c = v at this
  cases this
  cases b
  · exact wpIn_cond_false he (h2 rfl G0 G a w hR)
  · exact wpIn_cond_true he (h1 rfl G0 G a w hR)

theorem code_skip {K : Exit → Fr → St → Prop} (h : K .normal fr s) : CodeOK P n N ρ .skip K fr s := fun _ G _ _ hR => wpIn_skip ⟨G, fr, s, hR, h⟩
theorem code_label {l : Nat} {K : Exit → Fr → St → Prop} (h : K .normal fr s) : CodeOK P n N ρ (.label l) K fr s := fun _ G _ _ hR => wpIn_label ⟨G, fr, s, hR, h⟩
theorem code_exit {id : Nat} {K : Exit → Fr → St → Prop} (h : K (.exit id) fr s) : CodeOK P n N ρ (.exit id) K fr s := fun _ G _ _ hR => wpIn_exit ⟨G, fr, s, hR, h⟩
theorem code_ret {K : Exit → Fr → St → Prop} (h : K .ret fr s) : CodeOK P n N ρ .ret K fr s := fun _ G _ _ hR => wpIn_ret ⟨G, fr, s, hR, h⟩

theorem code_scope {c : Code} {K : Exit → Fr → St → Prop} (hK : ∀ l fr s, ¬ K (.goto l) fr s) (h : CodeOK P n N none c K fr s) : CodeOK P n N none (.scope c) K fr s := by
  intro G0 G a w hR
  have h1 : c.wp P (Post n N G0 K) a w := wpIn_wide.1 (h G0 G a w hR)
  refine wpIn_wide.2 (wp_scope_straight (wp_mono h1 fun e a w hq => ?_))
  cases e with
  | goto l => obtain ⟨G', fr', s', _, hk⟩ := hq; exact absurd hk (hK _ _ _)
  | _ => exact hq

theorem code_mono {c : Code} {K K' : Exit → Fr → St → Prop} (h : CodeOK P n N ρ c K fr s) (hk : ∀ e fr s, K e fr s → K' e fr s) : CodeOK P n N ρ c K' fr s :=
  fun G0 G a w hR => wpIn_mono (h G0 G a w hR) fun e _ _ ⟨G', fr', s', hR', h'⟩ => ⟨G', fr', s', hR', hk e fr' s' h'⟩

theorem code_loop {c : Code} {K : Exit → Fr → St → Prop} (I : Nat → Fr → St → Prop) (m : Nat) (h0 : I m fr s)
    (round : ∀ m fr s, I m fr s → CodeOK P n N ρ c (Kseq (fun fr' s' => ∃ m', m' < m ∧ I m' fr' s') K) fr s) : CodeOK P n N ρ (.loop c) K fr s := by
  intro G0 G a w hR
  intro b k cs hro hb hr
  have key : ∀ j G fr s a w, Rel n N G0 G fr s a w → I j fr s →
      ∃ e a' w', Post n N G0 K e a' w' ∧ ArrivesIn (Machine.fenced P (wf ρ)) P (lone (b.atR a (.code c :: .inLoop c :: k)) cs w) b k cs e a' w' := by
    intro j
    induction j using Nat.strongRecOn with
    | _ j ih =>
      intro G fr s a w hR hI
      obtain ⟨e, a₁, w₁, hq, harr⟩ := round j fr s hI G0 G a w hR b (.inLoop c :: k) cs hro hb hr
      obtain ⟨G', fr', s', hR', hk⟩ := hq
      cases e with
      | normal =>
        obtain ⟨m', hlt, hI'⟩ := hk
        obtain ⟨e₂, a₂, w₂, hq₂, harr₂⟩ := ih m' hlt G' fr' s' a₁ w₁ hR' hI'
        exact ⟨e₂, a₂, w₂, hq₂, .of_steps (StepsIn.trans harr (.one (fenced_calm hb hr rfl) stepR_inLoop)) harr₂⟩
      | exit id => exact ⟨_, a₁, w₁, ⟨G', fr', s', hR', hk⟩, .pass (x := .inLoop c) rfl (fun _ _ => .inl (by simp)) harr⟩
      | goto l => exact ⟨_, a₁, w₁, ⟨G', fr', s', hR', hk⟩, .pass (x := .inLoop c) rfl (fun _ _ => .inl (by simp)) harr⟩
      | ret => exact ⟨_, a₁, w₁, ⟨G', fr', s', hR', hk⟩, .pass (x := .inLoop c) rfl (fun _ _ => .inl (by simp)) harr⟩
      | panic ch => exact ⟨_, a₁, w₁, ⟨G', fr', s', hR', hk⟩, .pass (x := .inLoop c) rfl (fun _ _ => .inl (by simp)) harr⟩
      | outgrown => exact ⟨_, a₁, w₁, ⟨G', fr', s', hR', hk⟩, .pass (x := .inLoop c) rfl (fun _ _ => .inl (by simp)) harr⟩
  obtain ⟨e, a', w', hq, harr⟩ := key m G fr s a w hR h0
  exact ⟨e, a', w', hq, .of_steps (.one (fenced_calm hb hr rfl) stepR_loop) harr⟩

def LoopK (n d γ : Nat) (fr : Fr) (K : Exit → Fr → St → Prop) (s' : St) : Prop := ∃ fr' ps asg body N' st, s'.get n d = some (γ, .loop fr' ps asg body N' st) ∧ match st with
  | .ready => K .normal fr (s'.put n d γ .dead)
  | .left .ret => K .ret fr (s'.put n d γ .dead)
  | .left (.exit id) => K (.exit id) fr (s'.put n d γ .dead)
  | _ => False

theorem code_rangeFunc {g : Operand} {ps : Array Tmp} {asg body : Code} {K : Exit → Fr → St → Prop} {f : FuncId} {first cap : List V} (d : Nat) (hg : rdG true fr g = some (.fn f first cap))
    (h : ∀ γ, ACall P f ((first ++ [V.yld s.up.length d γ] ++ cap).map weakV) (s.put s.up.length d γ (.loop fr ps.toList asg body N .ready)) fun _ s' => LoopK s.up.length d γ fr K s') : CodeOK P n N none (.rangeFunc g ps asg body) K fr s := by
  intro G0 G a w hR
  refine wpIn_rangeFunc fun fn _ => ?_
  obtain ⟨G1, hle1, hI1, hsl1, _⟩ := hR.inv.lock (.deferred (some []))
  have hF1 := hR.fr.mono hle1
  have hfv := rdG_rep hF1 hg
  obtain ⟨γ, G2, hle2, hI2, hb2, hs2⟩ := hI1.new (.loop { state := .ready, pending := none, fn := fn, tmps := a.tmps, params := ps, assign := asg, body := body, defers := w.heap.size }) (1, 1) (.loop fr ps.toList asg body N .ready) s.up.length d
    (fun g l' k' => St.get_putLoc s l' k') fun G' g hle hb => ⟨_, _, hb, heap_alloc_new _ _, hF1.mono hle, hR.size, rfl, rfl, rfl, rfl, rfl⟩
  have hA := h γ
  generalize he : a.eval g = fv at hfv
  cases hfv with
  | fn _ _ _ a1 a2 l1 l2 hx hy =>
    have hargs : RepA G2 ((first ++ [V.yld s.up.length d γ] ++ cap).map weakV) (a1 ++ #[Value.func (.yield (w.heap.size + 1)) #[] #[]] ++ a2).toList := by
      refine RepA.weak ?_
      have q1 : RepA G2 first a1.toList := ⟨by simpa using l1, fun i p q => by simpa using (hx i p (by simpa using q)).mono hle2⟩
      have q2 : RepA G2 cap a2.toList := ⟨by simpa using l2, fun i p q => by simpa using (hy i p (by simpa using q)).mono hle2⟩
      have q3 : RepA G2 [V.yld s.up.length d γ] [Value.func (.yield (w.heap.size + 1)) #[] #[]] := .cons (by
        have := RepV.yld (G := G2) s.up.length d γ _ _ _ hb2
        rwa [World.size_alloc] at this) (.nil G2)
      have := (q1.append q3).append q2
      simpa using this
    have hle := Gh.le_trans hle1 hle2
    have hw0 : G.sl w.heap.size = none := by
      cases hs : G.sl w.heap.size with
      | none => rfl
      | some x => have := (Array.getElem?_eq_some_iff.1 (hR.inv.sl _ _ hs)).1; omega
    refine ⟨w.heap.size + 1, [mark w.heap.size], (w.alloc (.deferred (some []))).alloc (.loop { state := .ready, pending := none, fn := fn, tmps := a.tmps, params := ps, assign := asg, body := body, defers := w.heap.size }), { target := .fn (.func f) a2, args := a1 ++ #[.func (.yield (w.heap.size + 1)) #[] #[]] },
      (w.alloc (.deferred (some []))).alloc (.loop { state := .ready, pending := none, fn := fn, tmps := a.tmps, params := ps, assign := asg, body := body, defers := w.heap.size }), f, (a1 ++ #[.func (.yield (w.heap.size + 1)) #[] #[]]) ++ a2,
      (w.alloc (.deferred (some []))).alloc (.loop { state := .ready, pending := none, fn := fn, tmps := a.tmps, params := ps, assign := asg, body := body, defers := w.heap.size }), run_enterLoop_outer fn a.tmps ps asg body, ?_, fun _ _ => trivial, ?_, fun h => absurd h (by simp [wf, Fence.wide]), ?_⟩
    · show Sem.run P (Deferred.ofValue (a.eval g) (#[Operand.const (.func (.yield _) #[] #[])].map a.eval)) _ = _
      rw [he]
      simp [Deferred.ofValue, Act.eval]
    · exact hA.1 _ _
    · refine hA.2 G2 _ _ _ hI2 (by simpa [Array.append_assoc] using hargs) fun G3 r v w3 s3 hle3 hI3 _ hlen3 hK => ?_
      obtain ⟨fr', ps', asg', body', N', st, hget, hK⟩ := hK
      obtain ⟨b3, r3, hb3, hh3, _, _, _, _, _, hst⟩ := hI3.res _ _ _ _ hget
      have hb3' := hle3.2 _ _ hb2
      rw [hb3'] at hb3
      simp only [Option.some.injEq, Prod.mk.injEq, and_true] at hb3
      rw [World.size_alloc] at hb3
      obtain rfl := hb3
      have hs3 : G3.sl w.heap.size = some (.deferred (some [])) := hle3.1 _ _ (by rw [hs2]; exact hsl1)
      have hnb : r3.state ≠ .busy := by
        cases st with
        | ready => rw [hst.1]; intro h; cases h
        | busy => exact hK.elim
        | left c => rw [hst.1]; intro h; cases h
      have hI4 : Inv G3 (s3.put s.up.length d γ .dead) (w3.putObj (w.heap.size + 1) (.loop { r3 with state := .exhausted })) :=
        hI3.lose hget (b := w.heap.size + 1) (by simp [owns, hb3', World.size_alloc]) (fun b' h => World.putObj_heap_other h) World.putObj_size ⟨rfl, rfl⟩ (nf_put (Array.getElem?_eq_some_iff.1 hh3).1)
      have hRel : Rel n N G0 G3 fr (s3.put s.up.length d γ .dead) { a with defers := [mark w.heap.size] ++ a.defers } (w3.putObj (w.heap.size + 1) (.loop { r3 with state := .exhausted })) := by
        refine ⟨Gh.le_trans hR.le (Gh.le_trans hle hle3), hI4, hF1.mono (Gh.le_trans hle2 hle3), hR.size, ?_, ?_⟩
        · rw [St.put_len, hlen3, St.put_len]; exact hR.lvl
        · obtain ⟨rs, hd, hnd, hrs⟩ := hR.marks
          refine ⟨w.heap.size :: rs, by simp [hd], List.nodup_cons.2 ⟨fun hm => ?_, hnd⟩, fun q hq => ?_⟩
          · have := (hrs _ hm).2
            rw [hw0] at this; cases this
          · rcases List.mem_cons.1 hq with rfl | hq
            · refine ⟨?_, hs3⟩
              cases h0 : G0.sl w.heap.size with
              | none => rfl
              | some o => have := hR.le.1 _ _ h0; rw [hw0] at this; cases this
            · exact ⟨(hrs q hq).1, (Gh.le_trans hle hle3).1 _ _ (hrs q hq).2⟩
      have hend := run_endLoop (P := P) hh3 hnb
      generalize w3.putObj (w.heap.size + 1) (.loop { r3 with state := .exhausted }) = W at hRel hend
      refine ⟨r3.pending, W, hend, ?_⟩
      cases st with
      | ready => rw [hst.2]; exact ⟨G3, fr, _, hRel, hK⟩
      | busy => exact hK.elim
      | left c =>
        rw [hst.2]
        cases c with
        | ret => exact wpIn_ret ⟨G3, fr, _, hRel, hK⟩
        | exit id => exact wpIn_exit ⟨G3, fr, _, hRel, hK⟩
        | _ => exact hK.elim

theorem code_weak {c : Code} {K : Exit → Fr → St → Prop} {fr' : Fr} {loc' : Level} (hf : ∀ k x, fr'.get k = some x → fr.get k = some x) (hl : ∀ k x, loc'.get k = some x → s.loc.get k = some x)
    (h : CodeOK P n N ρ c K fr' { s with loc := loc' }) : CodeOK P n N ρ c K fr s := by
  intro G0 G a w hR
  have hg : ∀ l k x, ({ s with loc := loc' } : St).get l k = some x → s.get l k = some x := by
    intro l k x hx
    unfold St.get at hx ⊢
    split at hx
    · rename_i e; rw [if_pos e]; exact hl k x hx
    · rename_i e; rw [if_neg e]; exact hx
  refine h G0 G a w ⟨hR.le, ⟨hR.inv.sl, fun l k g r e => hR.inv.res l k g r (hg _ _ _ e), fun l k g r l' k' g' r' b e1 e2 => hR.inv.sep l k g r l' k' g' r' b (hg _ _ _ e1) (hg _ _ _ e2), fun l k g r b e => hR.inv.out l k g r b (hg _ _ _ e), hR.inv.fresh, hR.inv.env⟩,
    fun k c v e => hR.fr k c v (hf k _ e), hR.size, hR.lvl, hR.marks⟩
end Go.Pg
