/- A region that draws its order: one walk serves all orders. No program in sight. -/
import Derived.Test.YtfbbnkaahnpicaaPr
namespace Go.Pg
variable {P : Program} {Ω : OwnT P} {n N : Nat} {ρ : Option Nat} {G0 G : Gh} {fr fr' : Fr} {s s' : St} {a : Act} {w : World}

def gAt (gs : List (Option (Tmp × Bool))) (i : Nat) : Option (Tmp × Bool) := match gs[i]? with
  | some g => g
  | none => none

theorem gsOK_at {all : List Oper} : ∀ {l : List Oper} {gs : List (Option (Tmp × Bool))}, gsOK all gs l = true → ∀ {i : Nat} {o : Oper}, l[i]? = some o → guardIs all o (gAt gs i) = true
  | [], _, _, i, o, h => by simp at h
  | o' :: l, gs, hg, i, o, h => by
    cases gs with
    | nil =>
      simp only [gsOK, Bool.and_eq_true] at hg
      cases i with
      | zero => simp at h; subst h; exact hg.1
      | succ i =>
        have := gsOK_at hg.2 (i := i) (o := o) (by simpa using h)
        simpa [gAt] using this
    | cons g gs =>
      simp only [gsOK, Bool.and_eq_true] at hg
      cases i with
      | zero => simp at h; subst h; exact hg.1
      | succ i =>
        have := gsOK_at hg.2 (i := i) (o := o) (by simpa using h)
        simpa [gAt] using this

def stepI (P : Program) (Ω : OwnT P) (W : Places) (l : List Oper) (gs : List (Option (Tmp × Bool))) (i : Nat) (fr : Fr) (s : St) (k : Fr → St → Prop) : Prop := match l[i]? with
  | some o => stepG P Ω W o (gAt gs i) fr s k
  | none => False

abbrev rdy (l : List Oper) (listed : Array Bool) : List Nat := Region.ready .any l.toArray listed

def anyA (P : Program) (Ω : OwnT P) (W : Places) (l : List Oper) (gs : List (Option (Tmp × Bool))) (T : Array Bool → Fr → St → Prop) : Nat → List Nat → Array Bool → Fr → St → Prop
  | 0, _, listed, fr, s => T listed fr s
  | m + 1, R, listed, fr, s => rdy l listed ≠ [] ∧ ∀ j ∈ rdy l listed, j ∈ R ∧ stepI P Ω W l gs j fr s (anyA P Ω W l gs T m (R.erase j) (listed.setIfInBounds j true))

variable {W : Places} {l : List Oper} {gs : List (Option (Tmp × Bool))} {T : Array Bool → Fr → St → Prop}

theorem anyA_congr (hT : ∀ listed fr s fr' s', Same fr s fr' s' → T listed fr s → T listed fr' s') : ∀ (m : Nat) (R : List Nat) (listed : Array Bool) (fr : Fr) (s : St) (fr' : Fr) (s' : St), Same fr s fr' s' → anyA P Ω W l gs T m R listed fr s → anyA P Ω W l gs T m R listed fr' s'
  | 0, _, _, _, _, _, _, hs, h => hT _ _ _ _ _ hs h
  | m + 1, R, listed, fr, s, fr', s', hs, h => by
    refine ⟨h.1, fun j hj => ⟨(h.2 j hj).1, ?_⟩⟩
    have := (h.2 j hj).2
    unfold stepI at this ⊢
    split
    · rename_i o ho
      simp only [ho] at this
      exact stepG_congr this hs fun f1 s1 f2 s2 h12 h' => anyA_congr hT m _ _ _ _ _ _ h12 h'
    · rename_i ho
      simp only [ho] at this

def Led (o : Oper) (s s1 : St) : Prop := s1 = s ∨ (∃ γ r d, o.dst = some d ∧ s1 = s.put s.up.length d γ r) ∨ ∃ l q γ r x, s.get l q = some x ∧ s1 = s.put l q γ r

theorem stepG_mono {o : Oper} {gd : Option (Tmp × Bool)} {k k' : Fr → St → Prop} (h : stepG P Ω W o gd fr s k) (hk : ∀ f1 s1, Led o s s1 → k f1 s1 → k' f1 s1) : stepG P Ω W o gd fr s k' := by
  rcases h with ⟨g, v, h1, h2⟩ | ⟨r, d, h1, h2⟩ | ⟨l, q, γ, r, h1, h2⟩ | ⟨l, q, r, d, h1, h2⟩
  · exact .inl ⟨g, v, h1, hk _ _ (.inl rfl) h2⟩
  · exact .inr (.inl ⟨r, d, h1, fun γ => hk _ _ (.inr (.inl ⟨γ, r.res, d, h1.2.1, rfl⟩)) (h2 γ)⟩)
  · obtain ⟨⟨r0, hg⟩, _⟩ := storeD_get h1.2.2
    exact .inr (.inr (.inl ⟨l, q, γ, r, h1, hk _ _ (.inr (.inr ⟨l, q, γ, r, _, hg, rfl⟩)) h2⟩))
  · refine .inr (.inr (.inr ⟨l, q, r, d, h1, fun γ => hk _ _ ?_ (h2 γ)⟩))
    rcases (appD_spec h1.2.2.2 h1.2.2.1).2.1 with ⟨rfl, rfl⟩ | ⟨x, hx⟩
    · exact .inr (.inl ⟨γ, r, _, h1.2.2.1, rfl⟩)
    · exact .inr (.inr ⟨l, q, γ, r, x, hx, rfl⟩)

def FreshA (own : Oper → Bool) (l : List Oper) (R : List Nat) (s : St) : Prop := ∀ j ∈ R, ∀ o d, l[j]? = some o → kA own o = true → o.dst = some d → s.get s.up.length d = none
def DstD (l : List Oper) : Prop := ∀ (j k : Nat) (o o' : Oper) (d : Nat), l[j]? = some o → l[k]? = some o' → j ≠ k → o.dst = some d → o'.dst ≠ some d

theorem FreshA.led {own : Oper → Bool} {R : List Nat} {j : Nat} {o : Oper} {s1 : St} (h : FreshA own l R s) (hD : DstD l) (hj : l[j]? = some o) (hR : ∀ k ∈ R, k ≠ j) (hl : Led o s s1) : FreshA own l R s1 := by
  rcases hl with rfl | ⟨γ, r, d, hd, rfl⟩ | ⟨l1, q1, γ, r, x, hx, rfl⟩
  · exact h
  · intro k hk o' d' ho' hA hd'
    rw [St.put_len, St.get_putLoc]
    have : d' ≠ d := fun e => hD j k o o' d hj ho' (Ne.symm (hR k hk)) hd (by rw [← e]; exact hd')
    rw [if_neg (fun e => this e.2)]
    exact h k hk o' d' ho' hA hd'
  · intro k hk o' d' ho' hA hd'
    have h0 := h k hk o' d' ho' hA hd'
    rw [St.put_len, St.get_put s hx, if_neg (fun e => by rw [e.1, e.2, hx] at h0; cases h0)]
    exact h0

structure Free (own : Oper → Bool) (l : List Oper) (gs : List (Option (Tmp × Bool))) (i : Nat) (oi : Oper) (B : List Nat) (R : List Nat) (listed : Array Bool) : Prop where
  ready : i ∈ rdy l listed
  mem : i ∈ R
  wait : ∀ b ∈ B, ∃ o, l[b]? = some o ∧ ∃ e ∈ o.after, Region.binds .any e = true ∧ (e.on = i ∨ e.on ∈ B)
  un : ∀ b ∈ B, listed.getD b true = false
  free : ∀ j oj, l[j]? = some oj → j ≠ i → j ∉ B → listed.getD j true = false → j ∈ R ∧ Blind oj (gAt gs j) oi.dst ∧ Blind oi (gAt gs i) oj.dst ∧ (∀ d, oi.dst = some d → oj.dst ≠ some d) ∧ (kA own oi = true → kA own oj = true ∨ kW oj = true) ∧ (kW oi = true → kW oj = false ∧ kP oj = false) ∧ (kP oi = true → kA own oj = true)

theorem getD_ft {listed : Array Bool} {j : Nat} (h : listed.getD j true = false) : listed.getD j false = false := by
  rcases Nat.lt_or_ge j listed.size with h' | h'
  · simp [h'] at h ⊢; exact h
  · simp [Array.getElem?_eq_none h'] at h

theorem Free.blocked {own : Oper → Bool} {i : Nat} {oi : Oper} {B R : List Nat} {listed : Array Bool} (h : Free own l gs i oi B R listed) {j : Nat} (hj : j ∈ rdy l listed) : j ∉ B := by
  intro hb
  obtain ⟨_, o, ho, hall⟩ := mem_ready.1 hj
  obtain ⟨o', ho', e, he, hbi, hon⟩ := h.wait j hb
  have : o = o' := by simpa [ho'] using ho.symm
  subst this
  have h1 := hall e he hbi
  rcases hon with hon | hon
  · rw [hon, getD_ft (mem_ready.1 h.ready).1] at h1; cases h1
  · rw [getD_ft (h.un _ hon)] at h1; cases h1

theorem anyA_first (hT : ∀ listed fr s fr' s', Same fr s fr' s' → T listed fr s → T listed fr' s') (hD : DstD l) {i : Nat} {oi : Oper} {B : List Nat} (hi : l[i]? = some oi) : ∀ (m : Nat) (R : List Nat) (listed : Array Bool) (fr : Fr) (s : St),
    Free Ω.own l gs i oi B R listed → R.length = m + 1 → R.Nodup → FreshA Ω.own l R s → stepI P Ω W l gs i fr s (anyA P Ω W l gs T m (R.erase i) (listed.setIfInBounds i true)) → anyA P Ω W l gs T (m + 1) R listed fr s := by
  intro m
  induction m with
  | zero =>
    intro R listed fr s hF hlen _ _ h
    refine ⟨fun e => ?_, fun j hj => ?_⟩
    · have := hF.ready; rw [e] at this; cases this
    · by_cases hji : j = i
      · subst hji; exact ⟨hF.mem, h⟩
      · obtain ⟨hun, oj, hoj, _⟩ := mem_ready.1 hj
        have hR := (hF.free j oj (by simpa using hoj) hji (hF.blocked hj) hun).1
        exfalso
        obtain ⟨x, rfl⟩ := List.length_eq_one_iff.1 hlen
        have e1 := hF.mem
        simp at e1 hR
        exact hji (hR.trans e1.symm)
  | succ m ih =>
    intro R listed fr s hF hlen hnd hfresh h
    refine ⟨fun e => ?_, fun j hj => ?_⟩
    · have := hF.ready; rw [e] at this; cases this
    · by_cases hji : j = i
      · subst hji; exact ⟨hF.mem, h⟩
      · obtain ⟨hun, oj, hoj, _⟩ := mem_ready.1 hj
        have hoj' : l[j]? = some oj := by simpa using hoj
        have hjB := hF.blocked hj
        obtain ⟨hjR, b1, b2, hne, hA, hWW, hPP⟩ := hF.free j oj hoj' hji hjB hun
        refine ⟨hjR, ?_⟩
        unfold stepI at h ⊢
        simp only [hi] at h
        simp only [hoj']
        have h1 : stepG P Ω W oi (gAt gs i) fr s fun f1 s1 => stepG P Ω W oj (gAt gs j) f1 s1 (anyA P Ω W l gs T m ((R.erase i).erase j) ((listed.setIfInBounds i true).setIfInBounds j true)) := by
          refine stepG_mono h fun f1 s1 _ h' => ?_
          have := (h'.2 j (ready_mono hj hji)).2
          unfold stepI at this
          simp only [hoj'] at this
          exact this
        have h2 := stepG_swap b1 b2 hne hA hWW hPP (fun d hk hd => hfresh j hjR oj d hoj' hk hd) (fun d hk hd => hfresh i hF.mem oi d hi hk hd) h1 fun f1 s1 f2 s2 h12 h' => anyA_congr hT _ _ _ _ _ _ _ h12 h'
        refine stepG_mono h2 fun f1 s1 hled h' => ?_
        have hlt : j < listed.size := by
          rcases Nat.lt_or_ge j listed.size with h' | h'
          · exact h'
          · simp [Array.getElem?_eq_none h'] at hun
        refine ih (R.erase j) (listed.setIfInBounds j true) f1 s1 ⟨ready_mono hF.ready (Ne.symm hji), (List.mem_erase_of_ne (Ne.symm hji)).2 hF.mem, hF.wait, fun b hb => ?_, fun k ok hk hki hkB hku => ?_⟩ ?_ (hnd.erase j) ?_ ?_
        · rw [getD_set_ne true (fun e => hjB (by rw [e]; exact hb))]; exact hF.un b hb
        · have hkj : k ≠ j := by
            intro e
            subst e
            simp [hlt] at hku
          rw [getD_set_ne true (Ne.symm hkj)] at hku
          obtain ⟨q1, q2⟩ := hF.free k ok hk hki hkB hku
          exact ⟨(List.mem_erase_of_ne hkj).2 q1, q2⟩
        · rw [List.length_erase_of_mem hjR, hlen]; rfl
        · refine FreshA.led (j := j) (fun k hk => hfresh k (List.mem_of_mem_erase hk)) hD hoj' (fun k hk e => ?_) hled
          subst e
          exact (List.Nodup.mem_erase_iff hnd).1 hk |>.1 rfl
        · unfold stepI
          simp only [hi]
          rw [List.erase_comm, Array.setIfInBounds_comm _ _ hji]
          exact h'

/-! ### The walk of one order, and its check -/

def walkD (P : Program) (Ω : OwnT P) (W : Places) (l : List Oper) (gs : List (Option (Tmp × Bool))) : List Nat → Fr → St → (Fr → St → Prop) → Prop
  | [], fr, s, K => K fr s
  | i :: r, fr, s, K => stepI P Ω W l gs i fr s fun fr s => walkD P Ω W l gs r fr s K

theorem blind_of {x y : Oper} {gd : Option (Tmp × Bool)} {d : Option Tmp} (h : ∀ t, d = some t → t ∉ y.looksAt l.toArray) (hg : guardIs l y gd = true) : Blind y gd d := by
  intro t ht
  have := h t ht
  unfold Oper.looksAt at this
  simp only [List.mem_append, not_or] at this
  refine ⟨fun z hz e => this.1 ?_, fun p hp e => this.2 ?_⟩
  · subst e
    exact List.mem_filterMap.2 ⟨.tmp t, by simpa using hz, rfl⟩
  · obtain ⟨q, w⟩ := p
    subst hp
    unfold guardIs at hg
    split at hg
    · rename_i hh; cases hh
    · rename_i j w1 d1 w2 ho e1
      cases e1
      simp only [ho]
      simp only [Bool.and_eq_true] at hg
      have h2 := hg.2
      split at h2
      · rename_i o hoj
        split at h2
        · rename_i d' hd'
          have : d' = q := Nat.eq_of_beq_eq_true h2
          subst this
          have e' : d' = t := e
          subst e'
          simp only [List.getElem?_toArray, hoj, Option.bind_some, hd', Option.toList_some, List.mem_singleton]
        · cases h2
      · cases h2
    · cases hg

/-! ### The check of an order, by masks -/
def forceN {α : Type} (n : Nat) (k : Nat → α) : α := match n with
  | 0 => k 0
  | m + 1 => k (m + 1)
theorem forceN_eq {α : Type} (n : Nat) (k : Nat → α) : forceN n k = k n := by cases n <;> rfl
def bitsL : List Nat → Nat
  | [] => 0
  | k :: r => Nat.lor (bitsL r) (Nat.shiftLeft 1 k)
theorem testBit_one (k j : Nat) : (Nat.shiftLeft 1 k).testBit j = decide (k = j) := by
  have h : Nat.shiftLeft 1 k = 1 <<< k := rfl
  rw [h, Nat.one_shiftLeft, Nat.testBit_two_pow]
theorem testBit_or (a b j : Nat) : (Nat.lor a b).testBit j = (a.testBit j || b.testBit j) := Nat.testBit_or a b j
theorem testBit_and (a b j : Nat) : (Nat.land a b).testBit j = (a.testBit j && b.testBit j) := Nat.testBit_and a b j
theorem testBit_bitsL : ∀ {ks : List Nat} {j : Nat}, (bitsL ks).testBit j = true ↔ j ∈ ks
  | [], j => by simp [bitsL]
  | k :: r, j => by
    rw [bitsL, testBit_or, testBit_one, Bool.or_eq_true, testBit_bitsL, decide_eq_true_eq, List.mem_cons]
    constructor
    · rintro (h | h)
      · exact .inr h
      · exact .inl h.symm
    · rintro (h | h)
      · exact .inr h.symm
      · exact .inl h
theorem land_zero {a b : Nat} (h : Nat.beq (Nat.land a b) 0 = true) {j : Nat} (ha : a.testBit j = true) (hb : b.testBit j = true) : False := by
  have h1 := Nat.eq_of_beq_eq_true h
  have h2 := testBit_and a b j
  rw [h1, ha, hb] at h2
  simp at h2
theorem land_nonzero {a b : Nat} (h : Nat.beq (Nat.land a b) 0 = false) : ∃ j, a.testBit j = true ∧ b.testBit j = true := by
  refine Classical.byContradiction fun hn => ?_
  have : Nat.land a b = 0 := Nat.eq_of_testBit_eq fun j => by
    rw [testBit_and, Nat.zero_testBit]
    cases ha : a.testBit j with
    | false => rfl
    | true => cases hb : b.testBit j with
      | false => rfl
      | true => exact absurd ⟨j, ha, hb⟩ hn
  rw [this] at h
  cases h
theorem land_sub {a b : Nat} (h : Nat.beq (Nat.land a b) a = true) {j : Nat} (ha : a.testBit j = true) : b.testBit j = true := by
  have h1 := Nat.eq_of_beq_eq_true h
  have h2 := testBit_and a b j
  rw [h1, ha] at h2
  simpa using h2.symm

def bitB (m k : Nat) : Bool := !(Nat.beq (Nat.land m (Nat.shiftLeft 1 k)) 0)
theorem bitB_eq (m k : Nat) : bitB m k = m.testBit k := by
  unfold bitB
  cases hm : m.testBit k with
  | true =>
    cases hb : Nat.beq (Nat.land m (Nat.shiftLeft 1 k)) 0 with
    | false => rfl
    | true => exact (land_zero hb hm (by rw [testBit_one]; simp)).elim
  | false =>
    cases hb : Nat.beq (Nat.land m (Nat.shiftLeft 1 k)) 0 with
    | true => rfl
    | false =>
      obtain ⟨j, h1, h2⟩ := land_nonzero hb
      rw [testBit_one, decide_eq_true_eq] at h2
      rw [h2, h1] at hm
      cases hm

def aftL (o : Oper) : List Nat := (o.after.toList.filter fun e => Region.binds .any e).map (·.on)
theorem mem_aftL {o : Oper} {k : Nat} : k ∈ aftL o ↔ ∃ e ∈ o.after, Region.binds .any e = true ∧ e.on = k := by
  simp only [aftL, List.mem_map, List.mem_filter, Array.mem_toList_iff]
  constructor
  · rintro ⟨e, ⟨h1, h2⟩, h3⟩; exact ⟨e, h1, h2, h3⟩
  · rintro ⟨e, h1, h2, h3⟩; exact ⟨e, ⟨h1, h2⟩, h3⟩
def afM (l : List Oper) (j : Nat) : Nat := match l[j]? with
  | some o => bitsL (aftL o)
  | none => 0
def lkM (l : List Oper) (j : Nat) : Nat := match l[j]? with
  | some o => bitsL (o.looksAt l.toArray)
  | none => 0
def dsM (l : List Oper) (j : Nat) : Nat := match l[j]? with
  | some o => match o.dst with
    | some d => Nat.shiftLeft 1 d
    | none => 0
  | none => 0
def afL : List Oper → Nat → List (Nat × Nat)
  | [], _ => []
  | o :: r, j => (j, bitsL (aftL o)) :: afL r (j + 1)
theorem mem_afL : ∀ {r : List Oper} {j0 j m : Nat}, (j, m) ∈ afL r j0 → ∃ k o, j = j0 + k ∧ r[k]? = some o ∧ m = bitsL (aftL o)
  | [], _, _, _, h => by cases h
  | o :: r, j0, j, m, h => by
    rcases List.mem_cons.1 h with h | h
    · cases h; exact ⟨0, o, rfl, rfl, rfl⟩
    · obtain ⟨k, o', h1, h2, h3⟩ := mem_afL h
      exact ⟨k + 1, o', by omega, by simpa using h2, h3⟩
def waitM (i : Nat) : List (Nat × Nat) → Nat → Nat
  | [], B => B
  | p :: js, B => cond (Nat.beq (Nat.land p.2 (Nat.lor B (Nat.shiftLeft 1 i))) 0) (waitM i js B) (forceN (Nat.lor B (Nat.shiftLeft 1 p.1)) (waitM i js))
def WaitQ (l : List Oper) (i B b : Nat) : Prop := ∃ o, l[b]? = some o ∧ ∃ e ∈ o.after, Region.binds .any e = true ∧ (e.on = i ∨ B.testBit e.on = true)
theorem waitM_spec {l : List Oper} {i : Nat} : ∀ {js : List (Nat × Nat)} {B : Nat}, (∀ p ∈ js, ∃ o, l[p.1]? = some o ∧ p.2 = bitsL (aftL o)) → (∀ b, B.testBit b = true → WaitQ l i B b) → ∀ b, (waitM i js B).testBit b = true → WaitQ l i (waitM i js B) b
  | [], B, _, h => h
  | p :: js, B, hj, h => by
    unfold waitM
    cases hc : Nat.beq (Nat.land p.2 (Nat.lor B (Nat.shiftLeft 1 i))) 0 with
    | true => exact waitM_spec (fun q hq => hj q (List.mem_cons_of_mem _ hq)) h
    | false =>
      show ∀ b, (forceN (Nat.lor B (Nat.shiftLeft 1 p.1)) (waitM i js)).testBit b = true → WaitQ l i (forceN (Nat.lor B (Nat.shiftLeft 1 p.1)) (waitM i js)) b
      rw [forceN_eq]
      have mono : ∀ b, WaitQ l i B b → WaitQ l i (Nat.lor B (Nat.shiftLeft 1 p.1)) b := fun b ⟨o, h1, e, h2, h3, h4⟩ => ⟨o, h1, e, h2, h3, h4.imp id fun h => by rw [testBit_or, h]; rfl⟩
      refine waitM_spec (fun q hq => hj q (List.mem_cons_of_mem _ hq)) fun b hb => ?_
      rw [testBit_or, Bool.or_eq_true, testBit_one, decide_eq_true_eq] at hb
      rcases hb with hb | rfl
      · exact mono b (h b hb)
      · obtain ⟨o, ho, hm⟩ := hj p (by simp)
        obtain ⟨k, h1, h2⟩ := land_nonzero hc
        rw [hm, testBit_bitsL, mem_aftL] at h1
        obtain ⟨e, he, hbi, rfl⟩ := h1
        rw [testBit_or, Bool.or_eq_true, testBit_one, decide_eq_true_eq] at h2
        exact mono _ ⟨o, ho, e, he, hbi, h2.elim .inr fun h => .inl h.symm⟩

def flagsM (own : Oper → Bool) (l : List Oper) (i j : Nat) : Bool := match l[i]? with
  | some oi => match l[j]? with
    | some oj => (!(kA own oi) || (kA own oj || kW oj)) && !(kW oi && (kW oj || kP oj)) && (!(kP oi) || kA own oj)
    | none => false
  | none => false
def pairM (own : Oper → Bool) (l : List Oper) (i j : Nat) : Bool :=
  Nat.beq (Nat.land (dsM l i) (Nat.lor (lkM l j) (dsM l j))) 0 && Nat.beq (Nat.land (dsM l j) (lkM l i)) 0 && flagsM own l i j
def readyM (l : List Oper) (i done : Nat) : Bool := Nat.beq (Nat.land (afM l i) done) (afM l i)
def phM (own : Oper → Bool) (l : List Oper) (tl : List Nat) : List Nat → Nat → Bool
  | [], _ => true
  | i :: r, done => forceN (waitM i (afL l 0) 0) fun B =>
    Nat.blt i l.length && !(bitB done i) && readyM l i done && Nat.beq (Nat.land B done) 0 && tl.all (bitB B) && r.all (fun j => bitB B j || pairM own l i j) && forceN (Nat.lor done (Nat.shiftLeft 1 i)) (phM own l tl r)
def tailM (l : List Oper) (rest : List Nat) : List Nat → Nat → Bool
  | [], _ => true
  | i :: r, done => Nat.blt i l.length && !(bitB done i) && readyM l i done && r.all (fun j => !(readyM l j done)) && rest.all (fun j => !(readyM l j done)) && forceN (Nat.lor done (Nat.shiftLeft 1 i)) (tailM l rest r)

structure LisM (l : List Oper) (rest : List Nat) (done : Nat) (listed : Array Bool) : Prop where
  size : listed.size = l.length
  bit : ∀ k, done.testBit k = listed.getD k false
  cov : ∀ k, k < l.length → done.testBit k = false → k ∈ rest
theorem LisM.un {rest : List Nat} {done : Nat} {listed : Array Bool} (h : LisM l rest done listed) {k : Nat} : listed.getD k true = false ↔ k < l.length ∧ done.testBit k = false := by
  rw [h.bit]
  rcases Nat.lt_or_ge k listed.size with h' | h'
  · have := h.size
    simp [h']
    intro; omega
  · have := h.size
    simp [Array.getElem?_eq_none h']
    omega
theorem LisM.next {rest : List Nat} {i done : Nat} {listed : Array Bool} (h : LisM l (i :: rest) done listed) (hi : i < l.length) : LisM l rest (Nat.lor done (Nat.shiftLeft 1 i)) (listed.setIfInBounds i true) := by
  refine ⟨by simpa using h.size, fun k => ?_, fun k hk hd => ?_⟩
  · rw [testBit_or, testBit_one, h.bit]
    by_cases e : i = k
    · subst e
      have : i < listed.size := by rw [h.size]; exact hi
      simp [this]
    · rw [getD_set_ne false e]
      simp [e]
  · rw [testBit_or, testBit_one, Bool.or_eq_false_iff, decide_eq_false_iff_not] at hd
    rcases List.mem_cons.1 (h.cov k hk hd.1) with rfl | h'
    · exact absurd rfl hd.2
    · exact h'
theorem LisM.ready {rest : List Nat} {i done : Nat} {listed : Array Bool} (h : LisM l rest done listed) (hi : i < l.length) (hn : bitB done i = false) (hr : readyM l i done = true) : i ∈ rdy l listed := by
  rw [bitB_eq] at hn
  have ho : l[i]? = some l[i] := List.getElem?_eq_getElem hi
  refine mem_ready.2 ⟨h.un.2 ⟨hi, hn⟩, l[i], by simp, fun e he hb => ?_⟩
  rw [← h.bit]
  refine land_sub hr ?_
  unfold afM
  rw [ho]
  exact testBit_bitsL.2 (mem_aftL.2 ⟨e, he, hb, rfl⟩)
theorem LisM.unready {rest : List Nat} {j done : Nat} {listed : Array Bool} (h : LisM l rest done listed) (hr : readyM l j done = false) : j ∉ rdy l listed := by
  intro hj
  obtain ⟨h1, o, ho, h2⟩ := mem_ready.1 hj
  have ho' : l[j]? = some o := by simpa using ho
  have : Nat.land (afM l j) done = afM l j := Nat.eq_of_testBit_eq fun k => by
    rw [testBit_and]
    cases ha : (afM l j).testBit k with
    | false => rfl
    | true =>
      unfold afM at ha
      rw [ho'] at ha
      obtain ⟨e, he, hb, rfl⟩ := mem_aftL.1 (testBit_bitsL.1 ha)
      rw [h.bit, h2 e he hb]
      rfl
  unfold readyM at hr
  rw [this] at hr
  have := Nat.beq_refl (afM l j)
  rw [this] at hr
  cases hr

theorem pairM_spec {own : Oper → Bool} {i j : Nat} {oi oj : Oper} (hi : l[i]? = some oi) (hj : l[j]? = some oj) (h : pairM own l i j = true) :
    (∀ d, oi.dst = some d → d ∉ oj.looksAt l.toArray) ∧ (∀ d, oi.dst = some d → oj.dst ≠ some d) ∧ (∀ d, oj.dst = some d → d ∉ oi.looksAt l.toArray) ∧
    (kA own oi = true → kA own oj = true ∨ kW oj = true) ∧ (kW oi && (kW oj || kP oj)) = false ∧ (kP oi = true → kA own oj = true) := by
  unfold pairM flagsM dsM lkM at h
  simp only [hi, hj, Bool.and_eq_true, Bool.or_eq_true, Bool.not_eq_true'] at h
  obtain ⟨⟨h1, h2⟩, ⟨h3, h4⟩, h5⟩ := h
  refine ⟨fun d hd hm => ?_, fun d hd he => ?_, fun d hd hm => ?_, fun hk => ?_, h4, fun hk => ?_⟩
  · rw [hd] at h1
    refine land_zero h1 (j := d) (by rw [testBit_one]; simp) ?_
    rw [testBit_or, testBit_bitsL.2 hm]
    rfl
  · rw [hd, he] at h1
    refine land_zero h1 (j := d) (by rw [testBit_one]; simp) ?_
    rw [testBit_or, testBit_one]
    simp
  · rw [hd] at h2
    exact land_zero h2 (j := d) (by rw [testBit_one]; simp) (testBit_bitsL.2 hm)
  · rcases h3 with h3 | h3
    · rw [hk] at h3; cases h3
    · exact h3
  · rcases h5 with h5 | h5
    · rw [hk] at h5; cases h5
    · exact h5

def PhP (own : Oper → Bool) (l : List Oper) (gs : List (Option (Tmp × Bool))) : List Nat → Array Bool → Prop
  | [], _ => True
  | i :: r, listed => (∃ oi B, l[i]? = some oi ∧ Free own l gs i oi B (i :: r) listed) ∧ PhP own l gs r (listed.setIfInBounds i true)
def TailP (l : List Oper) : List Nat → Array Bool → Prop
  | [], _ => True
  | i :: r, listed => (i ∈ rdy l listed ∧ ∀ j ∈ rdy l listed, j = i) ∧ TailP l r (listed.setIfInBounds i true)

theorem phM_spec {own : Oper → Bool} {tl : List Nat} (hg : gsOK l gs l = true) : ∀ {R : List Nat} {done : Nat} {listed : Array Bool}, LisM l (R ++ tl) done listed → phM own l tl R done = true → PhP own l gs R listed
  | [], _, _, _, _ => trivial
  | i :: r, done, listed, hL, h => by
    unfold phM at h
    rw [forceN_eq, forceN_eq] at h
    simp only [Bool.and_eq_true, Bool.not_eq_true', List.all_eq_true, Bool.or_eq_true] at h
    obtain ⟨⟨⟨⟨⟨⟨h1, h2⟩, h3⟩, h4⟩, h5⟩, h6⟩, h7⟩ := h
    have hi : i < l.length := by simpa [Nat.blt_eq] using h1
    have hw := waitM_spec (l := l) (i := i) (js := afL l 0) (B := 0) (fun p hp => by
      obtain ⟨k, o, e1, e2, e3⟩ := mem_afL (j := p.1) (m := p.2) hp
      exact ⟨o, by rw [e1, Nat.zero_add]; exact e2, e3⟩) (fun b hb => by simp at hb)
    generalize waitM i (afL l 0) 0 = B at *
    have hb : ∀ b, b ∈ (List.range l.length).filter (fun b => B.testBit b) ↔ B.testBit b = true := fun b => by
      rw [List.mem_filter, List.mem_range]
      refine ⟨fun h => h.2, fun h => ⟨?_, h⟩⟩
      obtain ⟨o, ho, _⟩ := hw b h
      exact (List.getElem?_eq_some_iff.1 ho).1
    refine ⟨⟨l[i], (List.range l.length).filter (fun b => B.testBit b), List.getElem?_eq_getElem hi, ⟨hL.ready hi h2 h3, by simp, fun b hbm => ?_, fun b hbm => ?_, fun j oj hj hji hjB hun => ?_⟩⟩, phM_spec hg (hL.next hi) h7⟩
    · obtain ⟨o, ho, e, he, hbi, hon⟩ := hw b ((hb b).1 hbm)
      exact ⟨o, ho, e, he, hbi, hon.imp id fun h => (hb _).2 h⟩
    · have hbt := (hb b).1 hbm
      refine hL.un.2 ⟨?_, ?_⟩
      · obtain ⟨o, ho, _⟩ := hw b hbt
        exact (List.getElem?_eq_some_iff.1 ho).1
      · cases hd : done.testBit b with
        | false => rfl
        | true => exact (land_zero h4 hbt hd).elim
    · obtain ⟨hlt, hdn⟩ := hL.un.1 hun
      have hnb : B.testBit j = false := by
        cases hd : B.testBit j with
        | false => rfl
        | true => exact absurd ((hb j).2 hd) hjB
      rcases List.mem_append.1 (hL.cov j hlt hdn) with hm | hm
      · rcases List.mem_cons.1 hm with rfl | hr
        · exact absurd rfl hji
        · have hp : pairM own l i j = true := by
            rcases h6 j hr with h6 | h6
            · rw [bitB_eq, hnb] at h6; cases h6
            · exact h6
          obtain ⟨a1, a2, a3, a4, a5, a6⟩ := pairM_spec (List.getElem?_eq_getElem hi) hj hp
          exact ⟨hm, blind_of (x := l[i]) a1 (gsOK_at hg hj), blind_of (x := oj) a3 (gsOK_at hg (List.getElem?_eq_getElem hi)), a2, a4, fun hk => by rw [hk] at a5; simpa using a5, a6⟩
      · have := h5 j hm
        rw [bitB_eq, hnb] at this
        cases this

theorem tailM_spec {rest : List Nat} : ∀ {tl : List Nat} {done : Nat} {listed : Array Bool}, LisM l (tl ++ rest) done listed → tailM l rest tl done = true → TailP l tl listed
  | [], _, _, _, _ => trivial
  | i :: r, done, listed, hL, h => by
    unfold tailM at h
    rw [forceN_eq] at h
    simp only [Bool.and_eq_true, Bool.not_eq_true', List.all_eq_true] at h
    obtain ⟨⟨⟨⟨⟨h1, h2⟩, h3⟩, h4⟩, h5⟩, h6⟩ := h
    have hi : i < l.length := by simpa [Nat.blt_eq] using h1
    refine ⟨⟨hL.ready hi h2 h3, fun j hj => ?_⟩, tailM_spec (hL.next hi) h6⟩
    obtain ⟨q1, o, ho, _⟩ := mem_ready.1 hj
    obtain ⟨hlt, hdn⟩ := hL.un.1 q1
    rcases List.mem_append.1 (hL.cov j hlt hdn) with hm | hm
    · rcases List.mem_cons.1 hm with rfl | hr
      · rfl
      · exact absurd hj (hL.unready (h4 j hr))
    · exact absurd hj (hL.unready (h5 j hm))
theorem tailM_lt {rest : List Nat} : ∀ {tl : List Nat} {done : Nat}, tailM l rest tl done = true → ∀ i ∈ tl, i < l.length
  | [], _, _, i, hi => by cases hi
  | j :: r, done, h, i, hi => by
    unfold tailM at h
    rw [forceN_eq] at h
    simp only [Bool.and_eq_true] at h
    obtain ⟨⟨⟨⟨⟨h1, _⟩, _⟩, _⟩, _⟩, h6⟩ := h
    rcases List.mem_cons.1 hi with rfl | hi
    · simpa [Nat.blt_eq] using h1
    · exact tailM_lt h6 i hi

theorem LisM.fold {tl : List Nat} : ∀ {R : List Nat} {done : Nat} {listed : Array Bool}, (∀ i ∈ R, i < l.length) → LisM l (R ++ tl) done listed → LisM l tl (R.foldl (fun m i => Nat.lor m (Nat.shiftLeft 1 i)) done) (R.foldl (fun L i => L.setIfInBounds i true) listed)
  | [], _, _, _, h => h
  | i :: r, _, _, hi, h => LisM.fold (R := r) (fun j hj => hi j (by simp [hj])) (h.next (hi i (by simp)))
theorem LisM.start {rest : List Nat} (h : Nat.beq (bitsL rest) (2 ^ l.length - 1) = true) : LisM l rest 0 (Array.replicate l.length false) := by
  refine ⟨by simp, fun k => ?_, fun k hk _ => ?_⟩
  · rw [Nat.zero_testBit]
    rcases Nat.lt_or_ge k l.length with h' | h'
    · simp [Array.getD, h']
    · simp [Array.getD, Nat.not_lt.2 h']
  · refine testBit_bitsL.1 ?_
    rw [Nat.eq_of_beq_eq_true h, Nat.testBit_two_pow_sub_one]
    simp [hk]

theorem anyA_of_walk (hT : ∀ listed fr s fr' s', Same fr s fr' s' → T listed fr s → T listed fr' s') (hD : DstD l) (hg : gsOK l gs l = true) : ∀ (R : List Nat) (listed : Array Bool) (fr : Fr) (s : St), R.Nodup → FreshA Ω.own l R s → PhP Ω.own l gs R listed →
    walkD P Ω W l gs R fr s (T (R.foldl (fun L i => L.setIfInBounds i true) listed)) → anyA P Ω W l gs T R.length R listed fr s
  | [], _, _, _, _, _, _, h => h
  | i :: r, listed, fr, s, hnd, hfr, hp, h => by
    obtain ⟨⟨oi', B, hi', hF⟩, hp⟩ := hp
    simp only [walkD, stepI] at h
    split at h
    · rename_i oi hi
      obtain rfl : oi' = oi := Option.some.inj (hi'.symm.trans hi)
      refine anyA_first hT hD hi r.length (i :: r) listed fr s hF rfl hnd hfr ?_
      unfold stepI
      simp only [hi, List.erase_cons_head]
      refine stepG_mono h fun f1 s1 hled h' => anyA_of_walk hT hD hg r _ _ _ (List.nodup_cons.1 hnd).2 ?_ hp h'
      exact FreshA.led (j := i) (fun k hk => hfr k (by simp [hk])) hD hi (fun k hk e => (List.nodup_cons.1 hnd).1 (by rw [← e]; exact hk)) hled
    · cases h

def seqT (P : Program) (l : List Oper) (gs : List (Option (Tmp × Bool))) : List Nat → Fr → St → (Fr → St → Prop) → Prop
  | [], fr, s, K => K fr s
  | i :: r, fr, s, K => match l[i]? with
    | some o => match gdV fr (gAt gs i) with
      | some g => stepQ P g o fr s fun fr s => seqT P l gs r fr s K
      | none => False
    | none => False

theorem wpOp_of_step {i : Nat} {o : Oper} {g : Bool} {k : Fr → St → Prop} {Q : Exit → Act → World → Prop} {K : Act → World → Prop} (hR : Rel n N G0 G fr s a w) (hN : dstOK N l = true) (hg : gsOK l gs l = true) (hi : l[i]? = some o) (hgd : gdV fr (gAt gs i) = some g)
    (h : stepQ P g o fr s k) (hK : ∀ G' a' w' fr' s', Rel n N G0 G' fr' s' a' w' → k fr' s' → K a' w') : wpOpIn (wf ρ) 0 P l.toArray Q i K a w := by
  have hw := gdV_wanted (ops := l.toArray) hR.fr (by simpa using gsOK_at hg hi) hgd
  obtain ⟨h1, h2⟩ := stepQ_sound (ρ := ρ) hR (dstOK_spec hN (List.mem_of_getElem? hi)) h
  unfold wpOpIn
  simp only [List.getElem?_toArray, hi, hw]
  cases g with
  | true => exact h1 rfl _ _ hK
  | false =>
    obtain ⟨fr', s', hR', hk⟩ := h2 rfl
    exact ⟨fun _ _ => trivial, hK _ _ _ _ _ hR' hk⟩

theorem seqT_sound {K : Exit → Fr → St → Prop} (hN : dstOK N l = true) (hg : gsOK l gs l = true) {t : Nat} {C : Fr → St → Prop} {L : Array Bool} (hC : ∀ fr s G a w, C fr s → Rel n N G0 G fr s a w → wpAnyIn (wf ρ) 0 P .any l.toArray (Post n N G0 K) t L a w) :
    ∀ (tl : List Nat) (listed : Array Bool) (G : Gh) (fr : Fr) (s : St) (a : Act) (w : World), tl.foldl (fun L i => L.setIfInBounds i true) listed = L → TailP l tl listed → Rel n N G0 G fr s a w → seqT P l gs tl fr s C →
    wpAnyIn (wf ρ) 0 P .any l.toArray (Post n N G0 K) (tl.length + t) listed a w
  | [], listed, G, fr, s, a, w, hL, _, hR, h => by
    rw [show ([] : List Nat).length + t = t from Nat.zero_add t]
    subst hL
    exact hC _ _ _ _ _ h hR
  | i :: r, listed, G, fr, s, a, w, hL, ht, hR, h => by
    obtain ⟨⟨e1, e2⟩, ht⟩ := ht
    rw [show (i :: r).length + t = (r.length + t) + 1 by simp only [List.length_cons]; omega]
    refine ⟨fun h0 => (by rw [show rdy l listed = [] from h0] at e1; cases e1), fun j hj => ?_⟩
    have : j = i := e2 j hj
    subst this
    simp only [seqT] at h
    split at h
    · rename_i o ho
      split at h
      · rename_i g hgd
        exact wpOp_of_step hR hN hg ho hgd h fun G' a' w' fr' s' hR' hk => seqT_sound hN hg hC r _ G' fr' s' a' w' hL ht hR' hk
      · cases h
    · cases h

theorem anyA_sound {K : Exit → Fr → St → Prop} (hN : dstOK N l = true) (hg : gsOK l gs l = true) {t : Nat} (hT : ∀ listed fr s G a w, T listed fr s → Rel n N G0 G fr s a w → wpAnyIn (wf ρ) 0 P .any l.toArray (Post n N G0 K) t listed a w) :
    ∀ (m : Nat) (R : List Nat) (listed : Array Bool) (G : Gh) (fr : Fr) (s : St) (a : Act) (w : World), Rel n N G0 G fr s a w → anyA P Ω W l gs T m R listed fr s → wpAnyIn (wf ρ) 0 P .any l.toArray (Post n N G0 K) (m + t) listed a w
  | 0, _, listed, G, fr, s, a, w, hR, h => by rw [Nat.zero_add]; exact hT _ _ _ _ _ _ h hR
  | m + 1, R, listed, G, fr, s, a, w, hR, h => by
    rw [Nat.add_right_comm]
    refine ⟨fun h0 => absurd h0 h.1, fun j hj => ?_⟩
    have h' := (h.2 j hj).2
    unfold stepI at h'
    split at h'
    · rename_i o ho
      have main : ∀ (g : Bool), gdV fr (gAt gs j) = some g → stepQ P g o fr s (anyA P Ω W l gs T m (R.erase j) (listed.setIfInBounds j true)) → wpOpIn (wf ρ) 0 P l.toArray (Post n N G0 K) j (wpAnyIn (wf ρ) 0 P .any l.toArray (Post n N G0 K) (m + t) (listed.setIfInBounds j true)) a w := fun g hgd hst =>
        wpOp_of_step hR hN hg ho hgd hst fun G' a' w' fr' s' hR' hk => anyA_sound hN hg hT m _ _ G' fr' s' a' w' hR' hk
      rcases h' with ⟨g, v, ⟨h1, h2⟩, h3⟩ | ⟨r, d, ⟨h1, h2, h3⟩, h4⟩ | ⟨l1, q, γ, r, ⟨h1, h2, h3⟩, h4⟩ | ⟨l1, q, r, d, ⟨h1, h2, h3, h5⟩, h4⟩
      · refine main g h1 ?_
        rcases h2 with ⟨s0, h2, h2'⟩ | ⟨f, args, h2, _, h2'⟩ | h2 | ⟨rfl, _⟩
        · exact .inl (stepP_of_stepD (Ω := Ω) (.inl ⟨v, valD_sub h2.sub h2', h3⟩))
        · exact .inl (stepP_of_stepD (Ω := Ω) (.inr (.inl ⟨f, args, v, h2, h2', h3⟩)))
        · exact .inl (stepP_of_stepD (Ω := Ω) (.inl ⟨v, h2.val, h3⟩))
        · exact .inr (.inl ⟨rfl, v, h3⟩)
      · exact main true h1 (.inl (stepP_of_stepD (Ω := Ω) (.inr (.inr ⟨r, d, rfl, h2, h3, h4⟩))))
      · exact main true h1 (.inl ((storeD_get h3).2.2.2 _ h4))
      · exact main true h1 (.inl ((appD_spec h5 h3).2.2.2 _ h4))
    · cases h'

theorem Rel.same (h : Rel n N G0 G fr s a w) (hs : Same fr s fr' s') : Rel n N G0 G fr' s' a w :=
  ⟨h.le, h.inv.congr fun l k => (hs.p l k).symm, fun k c v e => h.fr k c v ((hs.f k).trans e), h.size, hs.n.symm.trans h.lvl, h.marks⟩

def nodupB : List Nat → Bool
  | [] => true
  | x :: r => !(r.contains x) && nodupB r
theorem nodupB_spec : ∀ {r : List Nat}, nodupB r = true → r.Nodup
  | [], _ => .nil
  | x :: r, h => by
    simp only [nodupB, Bool.and_eq_true, Bool.not_eq_true'] at h
    exact List.nodup_cons.2 ⟨fun hm => by rw [List.contains_iff_mem.2 hm] at h; exact absurd h.1 (by simp), nodupB_spec h.2⟩

def dstDB : List Oper → Bool
  | [] => true
  | o :: r => (match o.dst with
    | some d => r.all fun p => match p.dst with
      | some d' => !(Nat.beq d' d)
      | none => true
    | none => true) && dstDB r
theorem dstDB_spec : ∀ {l : List Oper}, dstDB l = true → DstD l
  | [], _, j, k, o, o', d, h, _, _, _ => by simp at h
  | p :: r, hB, j, k, o, o', d, h1, h2, hne, hd => by
    simp only [dstDB, Bool.and_eq_true] at hB
    have look : ∀ {x y : Oper} {e : Nat}, (match x.dst with
      | some d => r.all fun p => match p.dst with
        | some d' => !(Nat.beq d' d)
        | none => true
      | none => true) = true → y ∈ r → x.dst = some e → y.dst ≠ some e := by
      intro _ y e hx hy hxe hye
      simp only [hxe] at hx
      have := List.all_eq_true.1 hx y hy
      simp [hye] at this
    cases j with
    | zero =>
      cases k with
      | zero => exact absurd rfl hne
      | succ k =>
        simp at h1 h2
        subst h1
        exact look hB.1 (List.mem_of_getElem? h2) hd
    | succ j =>
      cases k with
      | zero =>
        simp at h1 h2
        subst h2
        intro hd'
        exact look hB.1 (List.mem_of_getElem? h1) hd' hd
      | succ k => exact dstDB_spec hB.2 j k o o' d (by simpa using h1) (by simpa using h2) (fun e => hne (by rw [e])) hd

def freshB (own : Oper → Bool) (l : List Oper) (R : List Nat) (L : Level) : Bool := R.all fun j => match l[j]? with
  | some o => !(kA own o) || match o.dst with
    | some d => (L.get d).isNone
    | none => true
  | none => true
theorem freshB_spec {own : Oper → Bool} {R : List Nat} (h : freshB own l R s.loc = true) : FreshA own l R s := by
  intro j hj o d ho hk hd
  have := List.all_eq_true.1 h j hj
  simp only [ho, hk, Bool.not_true, Bool.false_or, hd, Option.isNone_iff_eq_none] at this
  simpa [St.get] using this

abbrev Segs := List (List Nat × List Nat)
def flatS (S : Segs) : List Nat := S.flatMap fun p => p.1 ++ p.2
def doneM (done : Nat) (R : List Nat) : Nat := R.foldl (fun m i => Nat.lor m (Nat.shiftLeft 1 i)) done
def segM (own : Oper → Bool) (l : List Oper) : Segs → Nat → Bool
  | [], _ => true
  | (R, tl) :: S, done => R.all (Nat.blt · l.length) && nodupB R && phM own l (tl ++ flatS S) R done && forceN (doneM done R) fun d1 => tailM l (flatS S) tl d1 && forceN (doneM d1 tl) (segM own l S)
def drawOK (own : Oper → Bool) (N : Nat) (gs : List (Option (Tmp × Bool))) (S : Segs) (l : List Oper) : Bool :=
  dstOK N l && gsOK l gs l && dstDB l && segM own l S 0 && Nat.beq (flatS S).length l.length && Nat.beq (bitsL (flatS S)) (2 ^ l.length - 1)
def walkS (P : Program) (Ω : OwnT P) (l : List Oper) (gs : List (Option (Tmp × Bool))) : Segs → Fr → St → (Fr → St → Prop) → Prop
  | [], fr, s, K => K fr s
  | (R, tl) :: S, fr, s, K => ∃ W, freshB Ω.own l R s.loc = true ∧ walkD P Ω W l gs R fr s fun fr s => seqT P l gs tl fr s fun fr s => walkS P Ω l gs S fr s K

theorem walkD_mono {Ω : OwnT P} {W : Places} : ∀ (R : List Nat) (fr : Fr) (s : St) (k k' : Fr → St → Prop), (∀ f1 s1, k f1 s1 → k' f1 s1) → walkD P Ω W l gs R fr s k → walkD P Ω W l gs R fr s k'
  | [], _, _, _, _, hk, h => hk _ _ h
  | i :: r, fr, s, k, k', hk, h => by
    simp only [walkD, stepI] at h ⊢
    split at h
    · exact stepG_mono h fun f1 s1 _ h' => walkD_mono r _ _ _ _ hk h'
    · cases h

theorem walkS_sound {K : Exit → Fr → St → Prop} {Ω : OwnT P} (hN : dstOK N l = true) (hg : gsOK l gs l = true) (hD : DstD l) : ∀ (S : Segs) (done : Nat) (listed : Array Bool), LisM l (flatS S) done listed → segM Ω.own l S done = true →
    ∀ (G : Gh) (fr : Fr) (s : St) (a : Act) (w : World), Rel n N G0 G fr s a w → walkS P Ω l gs S fr s (K .normal) → wpAnyIn (wf ρ) 0 P .any l.toArray (Post n N G0 K) (flatS S).length listed a w
  | [], done, listed, hL, _, G, fr, s, a, w, hR, h => by
    refine ⟨List.eq_nil_iff_forall_not_mem.2 fun j hj => ?_, G, fr, s, hR, h⟩
    obtain ⟨h1, o, ho, _⟩ := mem_ready.1 hj
    obtain ⟨hlt, hdn⟩ := hL.un.1 h1
    exact absurd (hL.cov j hlt hdn) (by simp [flatS])
  | (R, tl) :: S, done, listed, hL, hM, G, fr, s, a, w, hR, h => by
    unfold segM at hM
    rw [forceN_eq, forceN_eq] at hM
    simp only [Bool.and_eq_true] at hM
    obtain ⟨⟨⟨h1, h2⟩, h3⟩, h4, h5⟩ := hM
    have hfl : flatS ((R, tl) :: S) = R ++ (tl ++ flatS S) := by simp [flatS]
    rw [hfl] at hL
    have hL1 := hL.fold (fun i hi => by simpa [Nat.blt_eq] using List.all_eq_true.1 h1 i hi)
    have hT := tailM_spec hL1 h4
    have hL2 := hL1.fold (tailM_lt h4)
    have hP := phM_spec hg hL h3
    obtain ⟨W, hF, hw⟩ := h
    let T : Array Bool → Fr → St → Prop := fun listed fr s => ∀ G a w, Rel n N G0 G fr s a w → wpAnyIn (wf ρ) 0 P .any l.toArray (Post n N G0 K) (tl.length + (flatS S).length) listed a w
    have hw' : walkD P Ω W l gs R fr s (T (R.foldl (fun L i => L.setIfInBounds i true) listed)) :=
      walkD_mono R fr s _ _ (fun f1 s1 h' G a w hR => seqT_sound hN hg (C := fun fr s => walkS P Ω l gs S fr s (K .normal)) (fun fr s G a w hc hR => walkS_sound hN hg hD S _ _ hL2 h5 G fr s a w hR hc) tl _ G f1 s1 a w rfl hT hR h') hw
    have hA := anyA_of_walk (T := T) (fun listed f1 s1 f2 s2 hs hT G a w hR => hT G a w (hR.same ⟨fun k => (hs.f k).symm, fun l k => (hs.p l k).symm, hs.n.symm⟩)) hD hg R _ fr s (nodupB_spec h2) (freshB_spec hF) hP hw'
    have hB := anyA_sound (ρ := ρ) (K := K) hN hg (T := T) (t := tl.length + (flatS S).length) (fun listed f1 s1 G a w hT hR => hT G a w hR) R.length R _ G fr s a _ hR hA
    rw [hfl]
    simpa using hB

theorem code_draw {id : Nat} {K : Exit → Fr → St → Prop} (Ω : OwnT P) (hm : P.follows .mixedOrders = true) (gs : List (Option (Tmp × Bool))) (S : Segs) (hB : drawOK Ω.own N gs S l = true)
    (h : walkS P Ω l gs S fr s (K .normal)) : CodeOK P n N ρ (.region id l.toArray true) K fr s := by
  simp only [drawOK, Bool.and_eq_true] at hB
  obtain ⟨⟨⟨⟨⟨h1, h2⟩, h3⟩, h4⟩, h5⟩, h6⟩ := hB
  intro G0 G a w hR
  refine wpIn_region_any hm ?_
  have hR' : Rel n N G0 G fr s a { w with drawn := w.drawn + 1 } := ⟨hR.le, hR.inv.drawn _, hR.fr, hR.size, hR.lvl, hR.marks⟩
  have := walkS_sound (ρ := ρ) (K := K) (Ω := Ω) h1 h2 (dstDB_spec h3) S 0 _ (LisM.start (l := l) h6) h4 G fr s a _ hR' h
  rw [Nat.eq_of_beq_eq_true h5] at this
  simpa using this

end Go.Pg
