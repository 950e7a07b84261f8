/- Two operations that may come in any order. No program in sight. -/
import Derived.Test.YtfbbnkaahnpicaaPq
namespace Go.Pg
variable {P : Program} {Ω : OwnT P} {n N : Nat} {ρ : Option Nat} {G0 G : Gh} {fr fr' : Fr} {s s' : St} {a : Act} {w : World}

theorem rdG_of_rd {x : Operand} {g : Bool} (h : rd fr x = rd fr' x) : rdG g fr x = rdG g fr' x := by unfold rdG; rw [h]

theorem valD_local {o : Oper} {g : Bool} (h : ∀ x ∈ o.op.operands, rd fr x = rd fr' x) : valD P g o fr s = valD P g o fr' s := by
  unfold valD
  split
  · rename_i c x y ho
    rw [ho] at h
    have h1 := h c (by simp [Op.operands])
    have h2 := h x (by simp [Op.operands])
    have h3 := h y (by simp [Op.operands])
    rw [rdG_of_rd h1, h2, h3]
  · rename_i T parts ho
    rw [ho] at h
    rw [partsM_congr (r := rdG g fr) (r' := rdG g fr') fun x hx => rdG_of_rd (h x (by simpa [Op.operands] using hx))]
  · rename_i T len parts ho
    rw [ho] at h
    rw [partsM_congr (r := rdG g fr) (r' := rdG g fr') fun x hx => rdG_of_rd (h x (by simpa [Op.operands] using hx))]
  · exact evP_local fun x hx => rdG_of_rd (h x hx)

theorem valD_sub {o : Oper} {g : Bool} {v : V} (h : s.sub s') (hv : valD P g o fr s = some v) : valD P g o fr s' = some v := by
  unfold valD at hv ⊢
  split at hv
  · exact hv
  · exact hv
  · exact hv
  · exact evP_sub h hv

theorem callD_local {o : Oper} {g : Bool} (h : ∀ x ∈ o.op.operands, rd fr x = rd fr' x) : callD g o fr = callD g o fr' := by
  unfold callD
  split
  · rename_i f args argTypes ho
    rw [ho] at h
    simp only [Op.operands, Call.operands] at h
    rw [rdG_of_rd (h f (by simp)), mapM_congr (r := rdG g fr) (r' := rdG g fr') fun x hx => rdG_of_rd (h x (by simp at hx ⊢; exact .inr hx))]
  · rfl

theorem newD_local {o : Oper} (h : ∀ x ∈ o.op.operands, rd fr x = rd fr' x) : newD P Ω o fr = newD P Ω o fr' := by
  unfold newD
  split
  · rfl
  · rename_i T x ho
    rw [ho] at h
    rw [rdG_of_rd (h x (by simp [Op.operands]))]
  · rfl
  · rename_i T x y ho
    rw [ho] at h
    rw [rdG_of_rd (h x (by simp [Op.operands])), rdG_of_rd (h y (by simp [Op.operands]))]
  · rename_i f args argTypes ho
    rw [callD_local h]
  · rfl

def kA (own : Oper → Bool) (o : Oper) : Bool := match o.op with
  | .alloc _ | .box _ _ | .makeSlice .. | .makeMap .. => true
  | .call { callee := .value _, .. } => own o
  | _ => false
def kP (o : Oper) : Bool := match o.op with
  | .call { callee := .builtin .append, .. } => true
  | _ => false

def kW (o : Oper) : Bool := match o.op with
  | .store .. => true
  | _ => false

theorem kA_new {o : Oper} {r : Mk} (h : newD P Ω o fr = some r) : kA Ω.own o = true := by
  unfold newD at h
  unfold kA
  split at h
  case h_5 e =>
    simp only [e]
    split at h
    · assumption
    · cases h
  all_goals first
    | (rename_i e; simp [e]; done)
    | cases h

abbrev Places := List (Nat × Nat)
def Below (W : Places) (s0 s : St) : Prop := ∀ l k x, s0.get l k = some x → (l, k) ∉ W ∧ s.get l k = some x
def Out0 (W : Places) (s s' : St) : Prop := ∀ l k x, (l, k) ∉ W → s.get l k = some x → s'.get l k = some x
def apK : Nat := 2000000
def Shp (W : Places) (s s' : St) : Prop := ∀ l k γ T es, (l, k + apK) ∉ W → s.get l k = some (γ, .vec T es) → ∃ es', s'.get l k = some (γ, .vec T es') ∧ es'.map List.length = es.map List.length
def Out (W : Places) (s s' : St) : Prop := Out0 W s s' ∧ Shp W s s'
theorem Below.out {W : Places} {s0 : St} (h : Below W s0 s) (ho : Out W s s') : Below W s0 s' := fun l k x e => ⟨(h l k x e).1, ho.1 l k x (h l k x e).1 (h l k x e).2⟩
theorem Below.sub {W : Places} {s0 : St} (h : Below W s0 s) : s0.sub s := fun l k x e => (h l k x e).2
theorem Out.refl (W : Places) (s : St) : Out W s s := ⟨fun _ _ _ _ e => e, fun _ _ _ _ es _ e => ⟨es, e, rfl⟩⟩
def IdxV (P : Program) (W : Places) (g : Bool) (o : Oper) (fr : Fr) (s : St) (v : V) : Prop := ∃ T x i e l k γ n ki j T' es, o.op = .indexAddr T x i ∧ rdG g fr x = some (.vec l k γ n) ∧ rdG g fr i = some (.int ki j) ∧ elemT P T = some (none, e) ∧ (l, k + apK) ∉ W ∧
  s.get l k = some (γ, .vec T' es) ∧ (0 ≤ j ∧ j < n ∧ n ≤ es.length ∧ (es.getD j.toNat []).length = P.cellsOf e ∧ 0 < P.cellsOf e) ∧ v = .eptr l k γ j.toNat 0
theorem IdxV.val {W : Places} {g : Bool} {o : Oper} {v : V} (h : IdxV P W g o fr s v) : valD P g o fr s = some v := by
  obtain ⟨T, x, i, e, l, k, γ, n, ki, j, T', es, h1, h2, h3, h4, _, h5, h6, rfl⟩ := h
  unfold valD
  simp only [h1, evP, h2, h3, Option.bind_some, evIndexAddr, h4, h5]
  rw [if_pos ⟨trivial, h6⟩]
theorem IdxV.out {W : Places} {g : Bool} {o : Oper} {v : V} (h : IdxV P W g o fr s v) (hs : Shp W s s') : IdxV P W g o fr s' v := by
  obtain ⟨T, x, i, e, l, k, γ, n, ki, j, T', es, h1, h2, h3, h4, hw, h5, h6, rfl⟩ := h
  obtain ⟨es', h7, h8⟩ := hs _ _ _ _ _ hw h5
  refine ⟨T, x, i, e, l, k, γ, n, ki, j, T', es', h1, h2, h3, h4, hw, h7, ?_, rfl⟩
  have hl : es'.length = es.length := by have := congrArg List.length h8; simpa using this
  have hd : (es'.getD j.toNat []).length = (es.getD j.toNat []).length := by
    have := congrArg (fun l => l[j.toNat]?) h8
    simp only [List.getElem?_map] at this
    simp only [List.getD_eq_getElem?_getD]
    cases h1 : es'[j.toNat]? <;> cases h2 : es[j.toNat]? <;> simp_all
  rw [hl, hd]; exact h6
theorem IdxV.frame {W : Places} {g : Bool} {o : Oper} {v : V} (h : IdxV P W g o fr s v) (hf : ∀ x ∈ o.op.operands, rdG g fr x = rdG g fr' x) : IdxV P W g o fr' s v := by
  obtain ⟨T, x, i, e, l, k, γ, n, ki, j, T', es, h1, h2, h3, h4⟩ := h
  rw [h1] at hf
  exact ⟨T, x, i, e, l, k, γ, n, ki, j, T', es, h1, (hf x (by simp [Op.operands])).symm.trans h2, (hf i (by simp [Op.operands])).symm.trans h3, h4⟩

def PureAt (P : Program) (Ω : OwnT P) (W : Places) (o : Oper) (gd : Option (Tmp × Bool)) (fr : Fr) (s : St) (g : Bool) (v : V) : Prop :=
  gdV fr gd = some g ∧ ((∃ s0, Below W s0 s ∧ valD P g o fr s0 = some v) ∨ (∃ f args, callD g o fr = some (f, args) ∧ Ω.own o = false ∧ PureV P g f args v) ∨ IdxV P W g o fr s v ∨ (g = false ∧ kA Ω.own o = false ∧ kW o = false ∧ kP o = false))
def NewAt (P : Program) (Ω : OwnT P) (o : Oper) (gd : Option (Tmp × Bool)) (fr : Fr) (r : Mk) (d : Nat) : Prop := gdV fr gd = some true ∧ o.dst = some d ∧ newD P Ω o fr = some r

def storeD (P : Program) (o : Oper) (fr : Fr) (s : St) : Option (Nat × Nat × Nat × Res) := match o.op with
  | .store T x y => match rdG true fr x, rdG true fr y with
    | some (.ptr l q γ off), some v => match s.get l q with
      | some (γ', .box cs) => if γ' = γ ∧ flatOk v = true ∧ 0 < P.cellsOf T ∧ (cellsV v).length = P.cellsOf T ∧ off + P.cellsOf T ≤ cs.length ∧ o.dst = none then some (l, q, γ, .box (spliceL cs off (cellsV v))) else none
      | _ => none
    | some (.eptr l q γ i off), some v => match s.get l q with
      | some (γ', .vec U es) => if γ' = γ ∧ flatOk v = true ∧ 0 < P.cellsOf T ∧ (cellsV v).length = P.cellsOf T ∧ i < es.length ∧ off + P.cellsOf T ≤ (es.getD i []).length ∧ o.dst = none then
          some (l, q, γ, .vec U (es.set i (spliceL (es.getD i []) off (cellsV v)))) else none
      | _ => none
    | _, _ => none
  | _ => none
def StoreAt (P : Program) (W : Places) (o : Oper) (gd : Option (Tmp × Bool)) (fr : Fr) (s : St) (l q γ : Nat) (r : Res) : Prop := gdV fr gd = some true ∧ (l, q) ∈ W ∧ storeD P o fr s = some (l, q, γ, r)

theorem storeD_get {o : Oper} {l q γ : Nat} {r : Res} (h : storeD P o fr s = some (l, q, γ, r)) : (∃ r0, s.get l q = some (γ, r0)) ∧ o.dst = none ∧ kW o = true ∧ ∀ (k : Fr → St → Prop), k fr (s.put l q γ r) → stepP P true o fr s k := by
  unfold storeD at h
  unfold stepP kW
  split at h
  · rename_i T x y ho
    simp only [ho]
    split at h
    · rename_i l' q' γ' off v e1 e2
      simp only [e1, e2]
      split at h
      · rename_i γ2 cs e3
        split at h
        · rename_i hc
          cases h
          obtain ⟨c1, c2, c3, c4, c5, c6⟩ := hc
          subst c1
          simp only [e3]
          exact ⟨⟨_, rfl⟩, c6, trivial, fun k hk => ⟨trivial, trivial, c2, c3, c4, c5, c6, hk⟩⟩
        · cases h
      · cases h
    · rename_i l' q' γ' i off v e1 e2
      simp only [e1, e2]
      split at h
      · rename_i γ2 U es e3
        split at h
        · rename_i hc
          cases h
          obtain ⟨c1, c2, c3, c4, c5, c6, c7⟩ := hc
          subst c1
          simp only [e3]
          exact ⟨⟨_, rfl⟩, c7, trivial, fun k hk => ⟨trivial, trivial, c2, c3, c4, c5, c6, c7, hk⟩⟩
        · cases h
      · cases h
    · cases h
  · cases h
theorem storeD_at {o : Oper} {l q γ : Nat} {r : Res} (h : storeD P o fr s = some (l, q, γ, r)) (hs : s'.get l q = s.get l q) : storeD P o fr s' = some (l, q, γ, r) := by
  unfold storeD at h ⊢
  split at h
  · rename_i T x y ho
    split at h
    · rename_i l' q' γ' off v e1 e2
      have hl : l' = l ∧ q' = q := by
        split at h
        · split at h
          · cases h; exact ⟨rfl, rfl⟩
          · cases h
        · cases h
      obtain ⟨rfl, rfl⟩ := hl
      rw [hs]; exact h
    · rename_i l' q' γ' i off v e1 e2
      have hl : l' = l ∧ q' = q := by
        split at h
        · split at h
          · cases h; exact ⟨rfl, rfl⟩
          · cases h
        · cases h
      obtain ⟨rfl, rfl⟩ := hl
      rw [hs]; exact h
    · cases h
  · cases h
def storeP (o : Oper) (fr : Fr) : Option (Nat × Nat × Nat) := match o.op with
  | .store _ x _ => match rdG true fr x with
    | some (.ptr l q γ _) => some (l, q, γ)
    | some (.eptr l q γ _ _) => some (l, q, γ)
    | _ => none
  | _ => none
theorem storeD_P {o : Oper} {l q γ : Nat} {r : Res} (h : storeD P o fr s = some (l, q, γ, r)) : storeP o fr = some (l, q, γ) := by
  unfold storeD at h
  unfold storeP
  split at h
  · rename_i T x y ho
    try simp only [ho]
    split at h
    · rename_i l1 q1 γ1 off v e1 e2
      try simp only [e1]
      split at h
      · split at h
        · cases h; rfl
        · cases h
      · cases h
    · rename_i l1 q1 γ1 i off v e1 e2
      try simp only [e1]
      split at h
      · split at h
        · cases h; rfl
        · cases h
      · cases h
    · cases h
  · cases h
theorem storeD_ptr {o : Oper} {l q γ l' q' γ' : Nat} {r r' : Res} (h : storeD P o fr s = some (l, q, γ, r)) (h' : storeD P o fr s' = some (l', q', γ', r')) : l = l' ∧ q = q' ∧ γ = γ' := by
  have := (storeD_P h).symm.trans (storeD_P h')
  simpa using this
theorem storeD_local {o : Oper} (h : ∀ x ∈ o.op.operands, rd fr x = rd fr' x) : storeD P o fr s = storeD P o fr' s := by
  unfold storeD
  split
  · rename_i T x y ho
    rw [ho] at h
    rw [rdG_of_rd (h x (by simp [Op.operands])), rdG_of_rd (h y (by simp [Op.operands]))]
  · rfl

theorem k_pure {W : Places} {o : Oper} {gd : Option (Tmp × Bool)} {g : Bool} {v : V} (h : PureAt P Ω W o gd fr s g v) : kA Ω.own o = false ∧ kW o = false ∧ kP o = false := by
  obtain ⟨_, h⟩ := h
  rcases h with ⟨s0, _, h⟩ | ⟨f, args, h, hn, _⟩ | ⟨T, x, i, e, l, k, γ, n, ki, j, T', es, h1, _⟩ | ⟨_, h⟩
  rotate_left 2
  · simp [kA, kW, kP, h1]
  · exact h
  · unfold valD at h
    unfold kA kW kP
    split at h <;> rename_i ho
    · simp [ho]
    · simp [ho]
    · simp [ho]
    · unfold evP at h
      split at h <;> rename_i ho <;> first
        | (simp [ho]; done)
        | cases h
  · unfold callD at h
    split at h
    · rename_i ho; simp [kA, kW, kP, ho, hn]
    · cases h
theorem kA_pure {W : Places} {o : Oper} {gd : Option (Tmp × Bool)} {g : Bool} {v : V} (h : PureAt P Ω W o gd fr s g v) : kA Ω.own o = false := (k_pure h).1
theorem kA_not {o : Oper} (h : kA Ω.own o = true) : kW o = false ∧ kP o = false := by
  unfold kA at h
  unfold kW kP
  split at h <;> rename_i e <;> first
    | (simp [e]; done)
    | cases h
theorem kW_new {o : Oper} {r : Mk} (h : newD P Ω o fr = some r) : kW o = false := (kA_not (kA_new h)).1

/-! ### Appends -/
def elemsL : V → Option (List (List V))
  | .list _ es => some es
  | .nil => some []
  | _ => none
theorem elemsL_s {x : V} {es : List (List V)} (h : elemsL x = some es) : elemsOf s x = some es := by
  unfold elemsL at h
  split at h
  · exact h
  · exact h
  · cases h

def appOK (P : Program) (e : TypeId) (n : Nat) (ys : List (List V)) : Bool := Nat.blt 0 (P.cellsOf e) && zOk P e && ys.all (fun y => y.length == P.cellsOf e) && Nat.ble (n + ys.length) maxLen && Nat.ble ((n + ys.length) * P.bytesOf e) 140737488355328

def appD (P : Program) (o : Oper) (fr : Fr) (s : St) : Option (Nat × Nat × Res) := match o.op with
  | .call { callee := .builtin .append, args, argTypes } => match args.toList, argTypes.toList, o.dst with
    | [x, y], [T, U], some d => if T = U then (match elemT P T, rdG true fr x, (rdG true fr y).bind elemsL with
      | some (none, e), some xv, some ys => match newE xv ys with
        | some es => if es.all (fun y => y.length == P.cellsOf e) = true ∧ appOK P e es.length ys = true then some (s.up.length, d, .vec e (es ++ ys)) else none
        | none => match xv with
        | .vec l q γ n => match s.get l q with
          | some (γ', .vec U es) => if γ' = γ ∧ U = e ∧ n = es.length ∧ es.all (fun y => y.length == P.cellsOf e) = true ∧ appOK P e es.length ys = true then some (l, q, .vec e (es ++ ys)) else none
          | _ => none
        | _ => none
      | _, _, _ => none) else none
    | _, _, _ => none
  | _ => none
def AppAt (P : Program) (W : Places) (o : Oper) (gd : Option (Tmp × Bool)) (fr : Fr) (s : St) (l q d : Nat) (r : Res) : Prop := gdV fr gd = some true ∧ ((l, q) ∈ W ∧ (l, q + apK) ∈ W) ∧ o.dst = some d ∧ appD P o fr s = some (l, q, r)

theorem appD_local {o : Oper} (h : ∀ x ∈ o.op.operands, rd fr x = rd fr' x) : appD P o fr s = appD P o fr' s := by
  unfold appD
  split
  · rename_i args argTypes ho
    rw [ho] at h
    split
    · rename_i x y T U d e1 e2 e3
      have hx : rdG true fr x = rdG true fr' x := rdG_of_rd (h x (by simp only [Op.operands, Call.operands]; rw [← Array.mem_toList_iff]; simp [e1]))
      have hy : rdG true fr y = rdG true fr' y := rdG_of_rd (h y (by simp only [Op.operands, Call.operands]; rw [← Array.mem_toList_iff]; simp [e1]))
      rw [hx, hy]
    · rfl
  · rfl

theorem appD_spec {o : Oper} {l q d : Nat} {r : Res} (h : appD P o fr s = some (l, q, r)) (hd : o.dst = some d) : kP o = true ∧ ((l = s.up.length ∧ q = d) ∨ ∃ x, s.get l q = some x) ∧
    (∀ s', s'.up.length = s.up.length → s'.get l q = s.get l q → appD P o fr s' = some (l, q, r)) ∧ ∀ (k : Fr → St → Prop), (∀ γ, k (fr.put d true (made r l q γ)) (s.put l q γ r)) → stepP P true o fr s k := by
  unfold appD at h
  split at h
  · rename_i args argTypes ho
    split at h
    · rename_i x y T U d' e1 e2 e3
      have : d' = d := Option.some.inj (e3.symm.trans hd)
      subst this
      split at h
      · rename_i hT
        subst hT
        split at h
        · rename_i e xv ys hel hx hy
          obtain ⟨yv, hyv, hys⟩ := Option.bind_eq_some_iff.1 hy
          have hys' : ∀ s : St, (rdG true fr y).bind (elemsOf s) = some ys := fun s => by rw [hyv]; exact elemsL_s hys
          split at h
          · rename_i es hn
            split at h
            · rename_i hc
              cases h
              refine ⟨by simp [kP, ho], .inl ⟨rfl, rfl⟩, fun s' hu _ => ?_, fun k hk => ?_⟩
              · unfold appD
                simp only [ho, e1, e2, e3, hel, hx, hy, if_true, hn, hu]
                rw [if_pos hc]
              · obtain ⟨hce, hc⟩ := hc
                simp only [appOK, Bool.and_eq_true, Nat.blt_eq, Nat.ble_eq] at hc
                unfold stepP
                simp only [ho, e1, e2, e3, hel, hx, hys', hn]
                exact ⟨trivial, trivial, hc.1.1.1.1, hc.1.1.1.2, hce, hc.1.1.2, hc.1.2, hc.2, hk⟩
            · cases h
          · rename_i hn
            split at h
            · rename_i l' q' γ n
              split at h
              · rename_i γ' U' es hget
                split at h
                · rename_i hc
                  cases h
                  obtain ⟨c1, c2, c3, c4, c5⟩ := hc
                  refine ⟨by simp [kP, ho], .inr ⟨_, hget⟩, fun s' _ hs' => ?_, fun k hk => ?_⟩
                  · unfold appD
                    simp only [ho, e1, e2, e3, hel, hx, hy, if_true, hn, hs', hget]
                    rw [if_pos ⟨c1, c2, c3, c4, c5⟩]
                  · simp only [appOK, Bool.and_eq_true, Nat.blt_eq, Nat.ble_eq] at c5
                    unfold stepP
                    simp only [ho, e1, e2, e3, hel, hx, hys', hn, hget]
                    refine ⟨trivial, ?_⟩
                    refine ⟨trivial, c1, c2, c3, c5.1.1.1.1, c5.1.1.1.2, c4, c5.1.1.2, c5.1.2, c5.2, ?_⟩
                    intro γ2
                    have := hk γ2
                    simpa [made] using this
                · cases h
              · cases h
            · cases h
        · cases h
      · cases h
    · cases h
  · cases h

def stepG (P : Program) (Ω : OwnT P) (W : Places) (o : Oper) (gd : Option (Tmp × Bool)) (fr : Fr) (s : St) (k : Fr → St → Prop) : Prop :=
  (∃ g v, PureAt P Ω W o gd fr s g v ∧ k (putD fr o.dst g v) s) ∨ (∃ r d, NewAt P Ω o gd fr r d ∧ ∀ γ, k (fr.put d true (r.val s.up.length d γ)) (s.put s.up.length d γ r.res)) ∨
  (∃ l q γ r, StoreAt P W o gd fr s l q γ r ∧ k fr (s.put l q γ r)) ∨ (∃ l q r d, AppAt P W o gd fr s l q d r ∧ ∀ γ, k (fr.put d true (made r l q γ)) (s.put l q γ r))

structure Same (fr : Fr) (s : St) (fr' : Fr) (s' : St) : Prop where
  f : ∀ k, fr.get k = fr'.get k
  p : ∀ l k, s.get l k = s'.get l k
  n : s.up.length = s'.up.length
theorem Same.refl (fr : Fr) (s : St) : Same fr s fr s := ⟨fun _ => rfl, fun _ _ => rfl, rfl⟩

theorem Same.rd (h : Same fr s fr' s') (x : Operand) : Pg.rd fr x = Pg.rd fr' x := by
  cases x with
  | tmp t => exact h.f t
  | _ => rfl
theorem Same.gd (h : Same fr s fr' s') (gd : Option (Tmp × Bool)) : gdV fr gd = gdV fr' gd := by
  cases gd with
  | none => rfl
  | some p => simp only [gdV, h.f]
theorem Same.sub (h : Same fr s fr' s') : s.sub s' := fun l k x e => by rw [← h.p]; exact e
theorem get_putD (fr : Fr) (d : Option Tmp) (c : Bool) (v : V) (k : Nat) : (putD fr d c v).get k = if d = some k then some (c, v) else fr.get k := by
  cases d with
  | none => simp [putD]
  | some d => simp only [putD, Fr.get_put, Option.some.injEq, eq_comm]
theorem Same.putD (h : Same fr s fr' s') (d : Option Tmp) (c : Bool) (v : V) : Same (Pg.putD fr d c v) s (Pg.putD fr' d c v) s' :=
  ⟨fun k => by simp only [get_putD, h.f], h.p, h.n⟩
theorem Same.new (h : Same fr s fr' s') (d γ : Nat) (r : Mk) : Same (fr.put d true (r.val s.up.length d γ)) (s.put s.up.length d γ r.res) (fr'.put d true (r.val s'.up.length d γ)) (s'.put s'.up.length d γ r.res) :=
  ⟨fun k => by simp only [Fr.get_put, h.f, h.n], fun l k => by rw [St.get_putLoc, St.get_putLoc, h.n, h.p], by rw [St.put_len, St.put_len]; exact h.n⟩

theorem Same.out (h : Same fr s fr' s') (W : Places) : Out W s s' := ⟨fun l k x _ e => by rw [← h.p]; exact e, fun l k γ T es _ e => ⟨es, by rw [← h.p]; exact e, rfl⟩⟩
theorem Same.store (h : Same fr s fr' s') {l q γ : Nat} {r : Res} {x : Nat × Res} (hx : s.get l q = some x) : Same fr (s.put l q γ r) fr' (s'.put l q γ r) :=
  ⟨h.f, fun l' k' => by rw [St.get_put s hx, St.get_put s' (by rw [← h.p]; exact hx), h.p], by rw [St.put_len, St.put_len]; exact h.n⟩

theorem put_get {s : St} {l q : Nat} (h : l = s.up.length ∨ ∃ x, s.get l q = some x) (γ : Nat) (r : Res) (l' k' : Nat) : (s.put l q γ r).get l' k' = if l' = l ∧ k' = q then some (γ, r) else s.get l' k' := by
  rcases h with rfl | ⟨x, hx⟩
  · exact St.get_putLoc s l' k'
  · exact St.get_put s hx l' k'
theorem AppAt.pl {W : Places} {o : Oper} {gd : Option (Tmp × Bool)} {l q d : Nat} {r : Res} (h : AppAt P W o gd fr s l q d r) : l = s.up.length ∨ ∃ x, s.get l q = some x := (appD_spec h.2.2.2 h.2.2.1).2.1.imp (fun h => h.1) id
theorem Same.app (h : Same fr s fr' s') {l q : Nat} (hl : l = s.up.length ∨ ∃ x, s.get l q = some x) (d γ : Nat) (r : Res) (v : V) : Same (fr.put d true v) (s.put l q γ r) (fr'.put d true v) (s'.put l q γ r) :=
  ⟨fun k => by simp only [Fr.get_put, h.f], fun l' k => by rw [put_get hl, put_get (s := s') (by rw [← h.n, ← h.p]; exact hl), h.p], by rw [St.put_len, St.put_len]; exact h.n⟩

theorem stepG_congr {W : Places} {o : Oper} {gd : Option (Tmp × Bool)} {k k' : Fr → St → Prop} (h : stepG P Ω W o gd fr s k) (hs : Same fr s fr' s') (hk : ∀ f1 s1 f2 s2, Same f1 s1 f2 s2 → k f1 s1 → k' f2 s2) : stepG P Ω W o gd fr' s' k' := by
  rcases h with ⟨g, v, ⟨h1, h2⟩, h3⟩ | ⟨r, d, ⟨h1, h2, h3⟩, h4⟩ | ⟨l, q, γ, r, ⟨h1, h2, h3⟩, h4⟩ | ⟨l, q, r, d, hap, h5⟩
  · refine .inl ⟨g, v, ⟨(hs.gd gd).symm.trans h1, ?_⟩, hk _ _ _ _ (hs.putD _ _ _) h3⟩
    rcases h2 with ⟨s0, h2, h2'⟩ | ⟨f, args, h2, h2'⟩ | h2 | h2
    · exact .inl ⟨s0, h2.out (hs.out W), (valD_local fun x _ => (hs.rd x).symm).trans h2'⟩
    · exact .inr (.inl ⟨f, args, (callD_local fun x _ => (hs.rd x).symm).trans h2, h2'⟩)
    · exact .inr (.inr (.inl ((h2.out (hs.out W).2).frame fun x _ => rdG_of_rd (hs.rd x))))
    · exact .inr (.inr (.inr h2))
  · exact .inr (.inl ⟨r, d, ⟨(hs.gd gd).symm.trans h1, h2, (newD_local fun x _ => (hs.rd x).symm).trans h3⟩, fun γ => hk _ _ _ _ (hs.new d γ r) (h4 γ)⟩)
  · obtain ⟨⟨r0, hg⟩, _⟩ := storeD_get h3
    exact .inr (.inr (.inl ⟨l, q, γ, r, ⟨(hs.gd gd).symm.trans h1, h2, storeD_at ((storeD_local fun x _ => (hs.rd x).symm).trans h3) (hs.p l q).symm⟩, hk _ _ _ _ (hs.store hg) h4⟩))
  · have hpl := hap.pl
    obtain ⟨h1, h2, h3, h4⟩ := hap
    have h4' : appD P o fr' s = some (l, q, r) := (appD_local fun x _ => (hs.rd x).symm).trans h4
    exact .inr (.inr (.inr ⟨l, q, r, d, ⟨(hs.gd gd).symm.trans h1, h2, h3, (appD_spec h4' h3).2.2.1 s' hs.n.symm (hs.p l q).symm⟩, fun γ => hk _ _ _ _ (hs.app hpl d γ r _) (h5 γ)⟩))

def Blind (o : Oper) (gd : Option (Tmp × Bool)) (d : Option Tmp) : Prop := ∀ t, d = some t → (∀ x ∈ o.op.operands, x ≠ .tmp t) ∧ (∀ p, gd = some p → p.1 ≠ t)

theorem Blind.rd {o : Oper} {gd : Option (Tmp × Bool)} {d : Option Tmp} (h : Blind o gd d) (c : Bool) (v : V) : ∀ x ∈ o.op.operands, Pg.rd (putD fr d c v) x = Pg.rd fr x := by
  intro x hx
  cases d with
  | none => rfl
  | some t =>
    have := (h t rfl).1 x hx
    cases x with
    | tmp j =>
      show (fr.put t c v).get j = fr.get j
      rw [Fr.get_put, if_neg (fun e => this (by rw [e]))]
    | _ => rfl
theorem Blind.gd {o : Oper} {gd : Option (Tmp × Bool)} {d : Option Tmp} (h : Blind o gd d) (c : Bool) (v : V) : gdV (putD fr d c v) gd = gdV fr gd := by
  cases d with
  | none => rfl
  | some t =>
    cases gd with
    | none => rfl
    | some p =>
      have := (h t rfl).2 p rfl
      obtain ⟨j, w⟩ := p
      show (match (fr.put t c v).get j with | some (c, .bool b) => some (c && (b == w)) | _ => none) = _
      rw [Fr.get_put, if_neg this]
      rfl

theorem PureAt.keep {W : Places} {o : Oper} {gd : Option (Tmp × Bool)} {d : Option Tmp} {g c : Bool} {u v : V} (h : PureAt P Ω W o gd fr s g v) (hb : Blind o gd d) (hs : Out W s s') : PureAt P Ω W o gd (putD fr d c u) s' g v := by
  refine ⟨(hb.gd c u).trans h.1, ?_⟩
  rcases h.2 with ⟨s0, h2, h2'⟩ | ⟨f, args, h2, h2'⟩ | h2 | h2
  · exact .inl ⟨s0, h2.out hs, (valD_local (hb.rd c u)).trans h2'⟩
  · exact .inr (.inl ⟨f, args, (callD_local (hb.rd c u)).trans h2, h2'⟩)
  · exact .inr (.inr (.inl ((h2.out hs.2).frame fun x hx => (rdG_of_rd (hb.rd c u x hx)).symm)))
  · exact .inr (.inr (.inr h2))
theorem PureAt.out {W : Places} {o : Oper} {gd : Option (Tmp × Bool)} {g : Bool} {v : V} (h : PureAt P Ω W o gd fr s g v) (hs : Out W s s') : PureAt P Ω W o gd fr s' g v :=
  ⟨h.1, h.2.imp (fun ⟨s0, h2, h2'⟩ => ⟨s0, h2.out hs, h2'⟩) fun h => h.imp id fun h => h.imp (fun h => h.out hs.2) id⟩
theorem PureAt.back {W : Places} {o : Oper} {gd : Option (Tmp × Bool)} {d : Option Tmp} {g c : Bool} {u v : V} (h : PureAt P Ω W o gd (putD fr d c u) s g v) (hb : Blind o gd d) : PureAt P Ω W o gd fr s g v := by
  refine ⟨(hb.gd c u).symm.trans h.1, ?_⟩
  rcases h.2 with ⟨s0, h2, h2'⟩ | ⟨f, args, h2, h2'⟩ | h2 | h2
  · exact .inl ⟨s0, h2, (valD_local (hb.rd c u)).symm.trans h2'⟩
  · exact .inr (.inl ⟨f, args, (callD_local (hb.rd c u)).symm.trans h2, h2'⟩)
  · exact .inr (.inr (.inl (h2.frame fun x hx => rdG_of_rd (hb.rd c u x hx))))
  · exact .inr (.inr (.inr h2))
theorem AppAt.keep {W : Places} {o : Oper} {gd : Option (Tmp × Bool)} {d e : Option Tmp} {c : Bool} {u : V} {l q d' : Nat} {r : Res} (hb : Blind o gd d) : AppAt P W o gd (putD fr d c u) s l q d' r ↔ AppAt P W o gd fr s l q d' r := by
  unfold AppAt
  rw [hb.gd c u, appD_local (hb.rd c u)]
theorem StoreAt.keep {W : Places} {o : Oper} {gd : Option (Tmp × Bool)} {d : Option Tmp} {c : Bool} {u : V} {l q γ : Nat} {r : Res} (hb : Blind o gd d) : StoreAt P W o gd (putD fr d c u) s l q γ r ↔ StoreAt P W o gd fr s l q γ r := by
  unfold StoreAt
  rw [hb.gd c u, storeD_local (hb.rd c u)]
theorem StoreAt.at {W : Places} {o : Oper} {gd : Option (Tmp × Bool)} {l q γ : Nat} {r : Res} (h : StoreAt P W o gd fr s l q γ r) (hs : s'.get l q = s.get l q) : StoreAt P W o gd fr s' l q γ r := ⟨h.1, h.2.1, storeD_at h.2.2 hs⟩
theorem NewAt.keep {o : Oper} {gd : Option (Tmp × Bool)} {d : Option Tmp} {c : Bool} {u : V} {r : Mk} {e : Nat} (hb : Blind o gd d) : NewAt P Ω o gd (putD fr d c u) r e ↔ NewAt P Ω o gd fr r e := by
  unfold NewAt
  rw [hb.gd c u, newD_local (hb.rd c u)]

theorem sub_put {d γ : Nat} {r : Res} (h : s.get s.up.length d = none) : s.sub (s.put s.up.length d γ r) := by
  intro l k x e
  rw [St.get_putLoc]
  split
  · rename_i hc; obtain ⟨rfl, rfl⟩ := hc; rw [h] at e; cases e
  · exact e

theorem out_new {W : Places} {d γ : Nat} {r : Res} (h : s.get s.up.length d = none) : Out W s (s.put s.up.length d γ r) := ⟨fun l k x _ e => sub_put h l k x e, fun l k γ' T es _ e => ⟨es, sub_put h l k _ e, rfl⟩⟩
theorem out_app {W : Places} {l q γ : Nat} {r : Res} (hl : l = s.up.length ∨ ∃ x, s.get l q = some x) (hW : (l, q) ∈ W) (hW2 : (l, q + apK) ∈ W) : Out W s (s.put l q γ r) := ⟨fun l' k' y hn e => by
  rw [put_get hl, if_neg (fun h => hn (by rw [h.1, h.2]; exact hW))]; exact e, fun l' k' γ' T es hn e => ⟨es, by rw [put_get hl, if_neg (fun h => hn (by rw [h.1, h.2]; exact hW2))]; exact e, rfl⟩⟩
theorem kP_W {o : Oper} (h : kP o = true) : kW o = false := by
  unfold kP at h
  unfold kW
  split at h <;> rename_i e
  · simp [e]
  · cases h
theorem spliceL_len {α : Type} {cs ds : List α} {off n : Nat} (h1 : ds.length = n) (h2 : off + n ≤ cs.length) : (spliceL cs off ds).length = cs.length := by
  subst h1; simp [spliceL]; omega
theorem storeD_shape {o : Oper} {l q γ : Nat} {r : Res} (h : storeD P o fr s = some (l, q, γ, r)) : ∃ r0, s.get l q = some (γ, r0) ∧ ((∃ cs cs', r0 = .box cs ∧ r = .box cs') ∨ ∃ T es es', r0 = .vec T es ∧ r = .vec T es' ∧ es'.map List.length = es.map List.length) := by
  unfold storeD at h
  split at h
  · split at h
    · split at h
      · rename_i γ2 cs e3
        split at h
        · rename_i hc
          cases h
          obtain ⟨c1, _⟩ := hc
          subst c1
          exact ⟨_, e3, .inl ⟨_, _, rfl, rfl⟩⟩
        · cases h
      · cases h
    · rename_i i off v e1 e2
      split at h
      · rename_i γ2 U es e3
        split at h
        · rename_i hc
          cases h
          obtain ⟨c1, c2, c3, c4, c5, c6, c7⟩ := hc
          subst c1
          refine ⟨_, e3, .inr ⟨_, _, _, rfl, rfl, ?_⟩⟩
          have hg : es.getD i [] = es[i] := by simp [List.getD, c5]
          rw [List.map_set, spliceL_len c4 c6, hg]
          apply List.ext_getElem?
          intro j
          rw [List.getElem?_set]
          split
          · rename_i e; subst e; simp [c5]
          · rfl
        · cases h
      · cases h
    · cases h
  · cases h
theorem out_store {W : Places} {o : Oper} {l q γ : Nat} {r : Res} (h : storeD P o fr s = some (l, q, γ, r)) (hW : (l, q) ∈ W) : Out W s (s.put l q γ r) := by
  obtain ⟨r0, hx, hsh⟩ := storeD_shape h
  refine ⟨fun l' k' y hn e => by rw [St.get_put s hx, if_neg (fun h => hn (by rw [h.1, h.2]; exact hW))]; exact e, fun l' k' γ' T es _ e => ?_⟩
  rw [St.get_put s hx]
  by_cases hc : l' = l ∧ k' = q
  · obtain ⟨rfl, rfl⟩ := hc
    rw [hx] at e
    cases e
    rcases hsh with ⟨cs, cs', h1, _⟩ | ⟨T0, es0, es', h1, h2, h3⟩
    · cases h1
    · cases h1; subst h2; exact ⟨es', by simp, h3⟩
  · rw [if_neg hc]; exact ⟨es, e, rfl⟩
theorem out_store' {W : Places} {o : Oper} {l q γ : Nat} {r : Res} (h : storeD P o fr s = some (l, q, γ, r)) (hW : (l, q) ∈ W) : Out W (s.put l q γ r) s := by
  obtain ⟨r0, hx, hsh⟩ := storeD_shape h
  refine ⟨fun l' k' y hn e => by rw [St.get_put s hx, if_neg (fun h => hn (by rw [h.1, h.2]; exact hW))] at e; exact e, fun l' k' γ' T es _ e => ?_⟩
  rw [St.get_put s hx] at e
  by_cases hc : l' = l ∧ k' = q
  · obtain ⟨rfl, rfl⟩ := hc
    simp only [and_self, if_true, Option.some.injEq, Prod.mk.injEq] at e
    obtain ⟨rfl, rfl⟩ := e
    rcases hsh with ⟨cs, cs', _, h1⟩ | ⟨T0, es0, es', h1, h2, h3⟩
    · cases h1
    · cases h2; subst h1; exact ⟨es0, hx, h3.symm⟩
  · rw [if_neg hc] at e; exact ⟨es, e, rfl⟩

theorem putD_none {o : Oper} (h : o.dst = none) (c : Bool) (v : V) : putD fr o.dst c v = fr := by rw [h]; rfl

theorem stepG_swap {W : Places} {oi oj : Oper} {gi gj : Option (Tmp × Bool)} {k k' : Fr → St → Prop} (hij : Blind oj gj oi.dst) (hji : Blind oi gi oj.dst) (hne : ∀ d, oi.dst = some d → oj.dst ≠ some d) (hA : kA Ω.own oi = true → kA Ω.own oj = true ∨ kW oj = true) (hW : kW oi = true → kW oj = false ∧ kP oj = false) (hP : kP oi = true → kA Ω.own oj = true)
    (hfj : ∀ d, kA Ω.own oj = true → oj.dst = some d → s.get s.up.length d = none) (hfi : ∀ d, kA Ω.own oi = true → oi.dst = some d → s.get s.up.length d = none)
    (h : stepG P Ω W oi gi fr s fun f1 s1 => stepG P Ω W oj gj f1 s1 k) (hk : ∀ f1 s1 f2 s2, Same f1 s1 f2 s2 → k f1 s1 → k' f2 s2) :
    stepG P Ω W oj gj fr s fun f2 s2 => stepG P Ω W oi gi f2 s2 k' := by
  have hcomm : ∀ (c c' : Bool) (v v' : V), ∀ t, (putD (putD fr oi.dst c v) oj.dst c' v').get t = (putD (putD fr oj.dst c' v') oi.dst c v).get t := by
    intro c c' v v' t
    simp only [get_putD]
    by_cases e1 : oj.dst = some t
    · have : oi.dst ≠ some t := fun e2 => hne t e2 e1
      simp [e1, this]
    · simp [e1]
  rcases h with ⟨g, v, hp, h⟩ | ⟨r, d, hn, h⟩ | ⟨l, q, γ, r, hst, h⟩ | ⟨l, q, r, d, hap, h⟩
  · rcases h with ⟨g', u, hp', h⟩ | ⟨r, d, hn, h⟩ | ⟨l, q, γ, r, hst, h⟩ | ⟨l, q, r, d, hap, h⟩
    · exact .inl ⟨g', u, hp'.back hij, .inl ⟨g, v, hp.keep hji (Out.refl W s), hk _ _ _ _ ⟨hcomm _ _ _ _, fun _ _ => rfl, rfl⟩ h⟩⟩
    · have hd := hn.2.1
      refine .inr (.inl ⟨r, d, (NewAt.keep hij).1 hn, fun γ => .inl ⟨g, v, ?_, hk _ _ _ _ ⟨fun t => ?_, fun _ _ => rfl, rfl⟩ (h γ)⟩⟩)
      · have := hp.keep (c := true) (u := r.val s.up.length d γ) hji (out_new (W := W) (r := r.res) (γ := γ) (hfj d (kA_new hn.2.2) hd))
        rw [hd] at this
        exact this
      · have := hcomm g true v (r.val s.up.length d γ) t
        rw [hd] at this
        exact this
    · have hst' := (StoreAt.keep hij).1 hst
      obtain ⟨⟨r0, hg⟩, hdn, _⟩ := storeD_get hst'.2.2
      exact .inr (.inr (.inl ⟨l, q, γ, r, hst', .inl ⟨g, v, hp.out (out_store hst'.2.2 hst'.2.1), hk _ _ _ _ (Same.refl _ _) h⟩⟩))
    · have hap' := (AppAt.keep (e := none) hij).1 hap
      have hd := hap.2.2.1
      refine .inr (.inr (.inr ⟨l, q, r, d, hap', fun γ => .inl ⟨g, v, ?_, hk _ _ _ _ ⟨fun t => ?_, fun _ _ => rfl, rfl⟩ (h γ)⟩⟩))
      · have := hp.keep (c := true) (u := made r l q γ) hji (out_app (W := W) (r := r) (γ := γ) hap'.pl hap'.2.1.1 hap'.2.1.2)
        rw [hd] at this
        exact this
      · have := hcomm g true v (made r l q γ) t
        rw [hd] at this
        exact this
  · have hd := hn.2.1
    have hput : ∀ c v, fr.put d c v = putD fr oi.dst c v := fun c v => by rw [hd]; rfl
    have hfd := hfi d (kA_new hn.2.2) hd
    rcases hA (kA_new hn.2.2) with hj | hj
    · have key : ∀ γ, ∃ r' d', NewAt P Ω oj gj fr r' d' ∧ ∀ γ', k ((fr.put d true (r.val s.up.length d γ)).put d' true (r'.val s.up.length d' γ')) ((s.put s.up.length d γ r.res).put s.up.length d' γ' r'.res) := by
        intro γ
        rcases h γ with ⟨g', u, hp', _⟩ | ⟨r', d', hn', h'⟩ | ⟨l, q, γ2, r2, hst, _⟩ | ⟨l, q, r2, d2, hap, _⟩
        · have := kA_pure hp'; rw [hj] at this; cases this
        · rw [hput] at hn'
          refine ⟨r', d', (NewAt.keep hij).1 hn', fun γ' => ?_⟩
          have := h' γ'
          rw [St.put_len] at this
          exact this
        · have := (storeD_get hst.2.2).2.2.1
          rw [(kA_not hj).1] at this; cases this
        · have := (appD_spec hap.2.2.2 hap.2.2.1).1
          rw [(kA_not hj).2] at this; cases this
      obtain ⟨r', d', hn', _⟩ := key 0
      refine .inr (.inl ⟨r', d', hn', fun γ' => .inr (.inl ⟨r, d, ?_, fun γ => ?_⟩)⟩)
      · have := (NewAt.keep (P := P) (fr := fr) (c := true) (u := r'.val s.up.length d' γ') (r := r) (e := d) hji).2 hn
        rw [hn'.2.1] at this
        exact this
      · obtain ⟨r2, d2, hn2, h2⟩ := key γ
        have e1 : d2 = d' := Option.some.inj (hn2.2.1.symm.trans hn'.2.1)
        have e2 : r2 = r' := Option.some.inj (hn2.2.2.symm.trans hn'.2.2)
        subst e1; subst e2
        have hdd : d ≠ d2 := fun e => hne d hd (by rw [e]; exact hn'.2.1)
        refine hk _ _ _ _ ⟨fun t => ?_, fun l t => ?_, ?_⟩ (h2 γ')
        · rw [St.put_len]
          simp only [Fr.get_put]
          by_cases e1 : t = d2
          · subst e1; simp [Ne.symm hdd]
          · simp [e1]
        · have q1 : ∀ (s0 : St) (m e γ : Nat) (r : Res), m = s0.up.length → ∀ l k, (s0.put m e γ r).get l k = if l = m ∧ k = e then some (γ, r) else s0.get l k := fun s0 m e γ r hm l k => by subst hm; exact St.get_putLoc s0 l k
          rw [q1 _ _ _ _ _ (St.put_len _ _ _ _ _).symm, q1 _ _ _ _ _ rfl, q1 _ _ _ _ _ rfl, q1 _ _ _ _ _ rfl, St.put_len]
          by_cases e1 : t = d2
          · subst e1; simp [Ne.symm hdd]
          · simp [e1]
        · simp only [St.put_len]
    · have key : ∀ γ, ∃ l q γ2 r2, gdV fr gj = some true ∧ (l, q) ∈ W ∧ storeD P oj fr (s.put s.up.length d γ r.res) = some (l, q, γ2, r2) ∧ k (fr.put d true (r.val s.up.length d γ)) ((s.put s.up.length d γ r.res).put l q γ2 r2) := by
        intro γ
        rcases h γ with ⟨g', u, hp', _⟩ | ⟨r', d', hn', h'⟩ | ⟨l, q, γ2, r2, hst, h'⟩ | ⟨l, q, r2, d2, hap, _⟩
        · have := (k_pure hp').2.1; rw [hj] at this; cases this
        · have := kW_new hn'.2.2; rw [hj] at this; cases this
        · rw [hput] at hst
          have hst' := (StoreAt.keep hij).1 hst
          exact ⟨l, q, γ2, r2, hst'.1, hst'.2.1, hst'.2.2, h'⟩
        · have := kP_W (appD_spec hap.2.2.2 hap.2.2.1).1
          rw [hj] at this; cases this
      obtain ⟨l, q, γp, r2, hg, hlq, hst0, _⟩ := key 0
      have hneq : ¬ (l = s.up.length ∧ q = d) := by
        intro e
        obtain ⟨l', q', γ', r', _, _, h1, _⟩ := key (γp + 1)
        obtain ⟨rfl, rfl, rfl⟩ := storeD_ptr hst0 h1
        obtain ⟨⟨r0, h2⟩, _⟩ := storeD_get h1
        rw [St.get_putLoc, if_pos e] at h2
        simp at h2
      have hs : ∀ γ, s.get l q = (s.put s.up.length d γ r.res).get l q := fun γ => by rw [St.get_putLoc, if_neg hneq]
      have hst : storeD P oj fr s = some (l, q, γp, r2) := storeD_at hst0 (hs 0)
      obtain ⟨⟨r0, hget⟩, hdn, _⟩ := storeD_get hst
      refine .inr (.inr (.inl ⟨l, q, γp, r2, ⟨hg, hlq, hst⟩, .inr (.inl ⟨r, d, hn, fun γ => ?_⟩)⟩))
      obtain ⟨l', q', γ', r', _, _, h1, h2⟩ := key γ
      obtain ⟨rfl, rfl, rfl⟩ := storeD_ptr hst0 h1
      have h3 := storeD_at h1 (hs γ)
      rw [hst] at h3
      simp only [Option.some.injEq, Prod.mk.injEq, true_and] at h3
      subst h3
      refine hk _ _ _ _ ⟨fun t => by rw [St.put_len], fun l1 k1 => ?_, by simp only [St.put_len]⟩ h2
      have q1 : ∀ (s0 : St) (m e γ : Nat) (r : Res), m = s0.up.length → ∀ l k, (s0.put m e γ r).get l k = if l = m ∧ k = e then some (γ, r) else s0.get l k := fun s0 m e γ r hm l k => by subst hm; exact St.get_putLoc s0 l k
      rw [q1 (s.put l q γp r2) _ _ _ _ rfl, St.put_len, St.get_put s hget, St.get_put (x := (γp, r0)) _ (by rw [q1 _ _ _ _ _ rfl, if_neg hneq]; exact hget), q1 _ _ _ _ _ rfl]
      by_cases e1 : l1 = s.up.length ∧ k1 = d
      · obtain ⟨rfl, rfl⟩ := e1
        have : ¬ (s.up.length = l ∧ k1 = q) := fun e => hneq ⟨e.1.symm, e.2.symm⟩
        simp [this]
      · simp [e1]
  · obtain ⟨⟨r0, hg⟩, hdn, hkw, _⟩ := storeD_get hst.2.2
    have hjw := (hW hkw).1
    rcases h with ⟨g', u, hp', h⟩ | ⟨r', d', hn', h⟩ | ⟨l', q', γ', r', hst', h⟩ | ⟨l', q', r', d', hap, h⟩
    · exact .inl ⟨g', u, hp'.out (out_store' hst.2.2 hst.2.1), .inr (.inr (.inl ⟨l, q, γ, r, (StoreAt.keep hji).2 hst, hk _ _ _ _ (Same.refl _ _) h⟩))⟩
    · have hd' := hn'.2.1
      have hfd := hfj d' (kA_new hn'.2.2) hd'
      have hneq : ¬ (l = s.up.length ∧ q = d') := fun e => by rw [e.1, e.2, hfd] at hg; cases hg
      refine .inr (.inl ⟨r', d', hn', fun γ' => .inr (.inr (.inl ⟨l, q, γ, r, ?_, hk _ _ _ _ ⟨fun t => by rw [St.put_len], fun l1 k1 => ?_, by simp only [St.put_len]⟩ (h γ')⟩))⟩)
      · have h3 := (StoreAt.keep (P := P) (W := W) (fr := fr) (c := true) (u := r'.val s.up.length d' γ') (l := l) (q := q) (γ := γ) (r := r) (s := s) hji).2 hst
        rw [hd'] at h3
        exact h3.at (by rw [St.get_putLoc, if_neg hneq])
      · have q1 : ∀ (s0 : St) (m e γ : Nat) (r : Res), m = s0.up.length → ∀ l k, (s0.put m e γ r).get l k = if l = m ∧ k = e then some (γ, r) else s0.get l k := fun s0 m e γ r hm l k => by subst hm; exact St.get_putLoc s0 l k
        rw [q1 _ _ _ _ _ rfl, St.put_len, St.get_put s hg, St.get_put (x := (γ, r0)) _ (by rw [q1 _ _ _ _ _ rfl, if_neg hneq]; exact hg), q1 _ _ _ _ _ rfl]
        by_cases e1 : l1 = s.up.length ∧ k1 = d'
        · obtain ⟨rfl, rfl⟩ := e1
          have : ¬ (s.up.length = l ∧ k1 = q) := fun e => hneq ⟨e.1.symm, e.2.symm⟩
          simp [this]
        · simp [e1]
    · have := (storeD_get hst'.2.2).2.2.1
      rw [hjw] at this; cases this
    · have := (appD_spec hap.2.2.2 hap.2.2.1).1
      rw [(hW hkw).2] at this; cases this
  · have hd := hap.2.2.1
    have hsp := appD_spec hap.2.2.2 hd
    have hj := hP hsp.1
    have hput : ∀ c v, fr.put d c v = putD fr oi.dst c v := fun c v => by rw [hd]; rfl
    have key : ∀ γ, ∃ r' d', NewAt P Ω oj gj fr r' d' ∧ ∀ γ', k ((fr.put d true (made r l q γ)).put d' true (r'.val s.up.length d' γ')) ((s.put l q γ r).put s.up.length d' γ' r'.res) := by
      intro γ
      rcases h γ with ⟨g', u, hp', _⟩ | ⟨r', d', hn', h'⟩ | ⟨l2, q2, γ2, r2, hst, _⟩ | ⟨l2, q2, r2, d2, hap2, _⟩
      · have := kA_pure hp'; rw [hj] at this; cases this
      · rw [hput] at hn'
        refine ⟨r', d', (NewAt.keep hij).1 hn', fun γ' => ?_⟩
        have := h' γ'
        rw [St.put_len] at this
        exact this
      · have := (storeD_get hst.2.2).2.2.1
        rw [(kA_not hj).1] at this; cases this
      · have := (appD_spec hap2.2.2.2 hap2.2.2.1).1
        rw [(kA_not hj).2] at this; cases this
    obtain ⟨r', d', hn', _⟩ := key 0
    have hfd := hfj d' hj hn'.2.1
    have hdd : d ≠ d' := fun e => hne d hd (by rw [e]; exact hn'.2.1)
    have hneq : ¬ (l = s.up.length ∧ q = d') := by
      rintro ⟨e1, e2⟩
      rcases hsp.2.1 with ⟨_, h2⟩ | ⟨x, hx⟩
      · exact hdd (h2.symm.trans e2)
      · rw [e1, e2, hfd] at hx; cases hx
    refine .inr (.inl ⟨r', d', hn', fun γ' => .inr (.inr (.inr ⟨l, q, r, d, ?_, fun γ => ?_⟩))⟩)
    · have h3 := (AppAt.keep (P := P) (W := W) (fr := fr) (c := true) (u := r'.val s.up.length d' γ') (l := l) (q := q) (d' := d) (r := r) (s := s) (e := none) hji).2 hap
      rw [hn'.2.1] at h3
      exact ⟨h3.1, h3.2.1, h3.2.2.1, (appD_spec h3.2.2.2 h3.2.2.1).2.2.1 _ (St.put_len _ _ _ _ _) (by rw [St.get_putLoc, if_neg hneq])⟩
    · obtain ⟨r2, d2, hn2, h2⟩ := key γ
      have e1 : d2 = d' := Option.some.inj (hn2.2.1.symm.trans hn'.2.1)
      have e2 : r2 = r' := Option.some.inj (hn2.2.2.symm.trans hn'.2.2)
      subst e1; subst e2
      refine hk _ _ _ _ ⟨fun t => ?_, fun l1 k1 => ?_, ?_⟩ (h2 γ')
      · simp only [Fr.get_put]
        by_cases e1 : t = d2
        · subst e1; simp [Ne.symm hdd]
        · simp [e1]
      · have q1 : ∀ (s0 : St) (m e γ : Nat) (r : Res), m = s0.up.length → ∀ l k, (s0.put m e γ r).get l k = if l = m ∧ k = e then some (γ, r) else s0.get l k := fun s0 m e γ r hm l k => by subst hm; exact St.get_putLoc s0 l k
        have hpl := hap.pl
        rw [q1 _ _ _ _ _ (St.put_len _ _ _ _ _).symm, put_get hpl, put_get (s := s.put s.up.length d2 γ' r2.res) (by
          rw [St.put_len]
          rcases hpl with h | ⟨x, h⟩
          · exact .inl h
          · exact .inr ⟨x, by rw [St.get_putLoc, if_neg hneq]; exact h⟩), St.get_putLoc]
        by_cases e1 : l1 = s.up.length ∧ k1 = d2
        · obtain ⟨rfl, rfl⟩ := e1
          have : ¬ (s.up.length = l ∧ k1 = q) := fun e => hneq ⟨e.1.symm, e.2.symm⟩
          simp [this]
        · simp [e1]
      · simp only [St.put_len]

end Go.Pg
