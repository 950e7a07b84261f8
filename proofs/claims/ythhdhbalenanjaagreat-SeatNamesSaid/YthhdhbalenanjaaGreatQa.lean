/- Running a Go function upon abstract values, by computing: whatever comes out is a contract. No program in sight. -/
import Derived.Test.YthhdhbalenanjaaGreatPx
namespace Go.Pg
variable {P : Program} {σ σ' : Nat → Nat} {δ : Nat} {pre : List Level} {s : St} {fr : Fr} {g : Bool}

theorem toN_some {r : Option XS} {e : Exit} {st' : XS} (h : toN r = some (e, st')) : e = .normal ∧ r = some st' := by
  unfold toN at h
  split at h
  · cases h; exact ⟨rfl, rfl⟩
  · cases h

theorem segX_ok {E : XE} (hEE : XEOK P E) {l : List Oper} : ∀ {S : Segs} {st st' : XS}, Bd st → segX P E l S st = some st' → Ext st st' ∧
    ∀ (σ : Nat → Nat) (pre : List Level) (K : Fr → St → Prop), (∀ σ', agree st.c σ σ' → K (st'.fr.ren σ' pre.length) (st'.s.emb σ' pre)) → walkS P (hEE.tab (ownOf l)) l (l.map (gdL l)) S (st.fr.ren σ pre.length) (st.s.emb σ pre) K
  | [], st, st', h, hx => by
    cases hx
    exact ⟨⟨Nat.le_refl _, h, rfl⟩, fun σ pre K hk => hk σ (agree.refl _ _)⟩
  | (R, tl) :: S, st, st', hbd, hx => by
    unfold segX at hx
    obtain ⟨hfr, hx⟩ := brec_opt hx
    split at hx
    · rename_i st1 rd wr e1
      obtain ⟨hdis, hx⟩ := brec_opt hx
      split at hx
      · rename_i st2 e2
        obtain ⟨hE, _, _, hs⟩ := phX_ok hEE hbd e1
        obtain ⟨hE', hs'⟩ := sqX_ok hEE hE.bd e2
        obtain ⟨hE'', hs''⟩ := segX_ok hEE hE'.bd hx
        have hdis : ∀ p ∈ rd, p ∉ wr := fun p hp hw => by
          have := List.all_eq_true.1 hdis p hw
          simp [hp] at this
        refine ⟨⟨Nat.le_trans hE.c (Nat.le_trans hE'.c hE''.c), hE''.bd, hE''.n.trans (hE'.n.trans hE.n)⟩, fun σ pre K hk => ⟨shW pre.length wr, ?_, ?_⟩⟩
        · refine List.all_eq_true.2 fun j hj => ?_
          have := List.all_eq_true.1 hfr j hj
          revert this
          cases l[j]? with
          | none => exact fun _ => rfl
          | some o =>
            simp only
            show (!kA (ownOf l) o || _) = true → (!kA (ownOf l) o || _) = true
            cases kA (ownOf l) o with
            | false => exact fun _ => rfl
            | true =>
              cases o.dst with
              | none => exact fun _ => rfl
              | some d =>
                simp only [Bool.not_true, Bool.false_or, emb_loc_get, Option.isNone_map]
                exact fun h => h
        · exact hs wr σ pre _ hdis (fun _ h => h) fun σ' ha => hs' σ' pre _ fun σ'' ha' => hs'' σ'' pre K fun σ3 ha3 => hk σ3 (ha.trans (ha'.trans ha3 hE'.c) hE.c)
      · cases hx
    · cases hx

theorem drawX_ok (hP : ProgOK P) {E : XE} (hEE : XEOK P E) {id : Nat} {l : List Oper} {N : Nat} (hN : drawOK (ownOf l) N (l.map (gdL l)) (segD l) l = true) {st st' : XS} (hx : drawX P E l st = some st') (hbd : Bd st) : Ext st st' ∧
    ∀ (n : Nat) (ρ : Option Nat) (σ : Nat → Nat) (pre : List Level) (K : Exit → Fr → St → Prop), (∀ σ', agree st.c σ σ' → K .normal (st'.fr.ren σ' pre.length) (st'.s.emb σ' pre)) → CodeOK P n N ρ (.region id l.toArray true) K (st.fr.ren σ pre.length) (st.s.emb σ pre) := by
  unfold drawX at hx
  obtain ⟨hE, hs⟩ := segX_ok hEE hbd hx
  exact ⟨hE, fun n ρ σ pre K hk => code_draw (hEE.tab (ownOf l)) hP.mixed (l.map (gdL l)) (segD l) hN (hs σ pre _ hk)⟩

theorem regX_ok (hP : ProgOK P) {E : XE} (hEE : XEOK P E) {id : Nat} {ops : Array Oper} {draw : Bool} {N : Nat} (hN : codeN N (.region id ops draw) = true) {st st' : XS} (hx : regX P E ops.toList draw st = some st') (hbd : Bd st) : Ext st st' ∧
    ∀ (n : Nat) (ρ : Option Nat) (σ : Nat → Nat) (pre : List Level) (K : Exit → Fr → St → Prop), (∀ σ', agree st.c σ σ' → K .normal (st'.fr.ren σ' pre.length) (st'.s.emb σ' pre)) → CodeOK P n N ρ (.region id ops draw) K (st.fr.ren σ pre.length) (st.s.emb σ pre) := by
  obtain ⟨l⟩ := ops
  cases draw with
  | false =>
    simp only [codeN, cond_false, Bool.and_eq_true] at hN
    have hx : opsX P E l l st = some st' := hx
    obtain ⟨hE, hs⟩ := opsX_ok hEE hbd hx
    refine ⟨hE, fun n ρ σ pre K hk => ?_⟩
    exact code_region (l.map (gdL l)) hN.1 (gsOK_of (guardsB_spec hN.2)) (hs σ pre _ hk)
  | true =>
    simp only [codeN, cond_true] at hN
    have hx : (match dstA l with
      | [] => drawX P E l st
      | ds => drawX P E l (trim (nubK [] (st.fr.map (·.1))) ((nubK [] (st.s.loc.map (·.1))).filter fun k => !(ds.any (Nat.beq k))) st)) = some st' := hx
    split at hx
    · exact drawX_ok hP hEE hN hx hbd
    · have hT := trim_ext (ks := nubK [] (st.fr.map (·.1))) (ls := (nubK [] (st.s.loc.map (·.1))).filter fun k => !((dstA l).any (Nat.beq k))) hbd
      obtain ⟨hE, hs⟩ := drawX_ok (id := id) hP hEE hN hx hT.bd
      exact ⟨⟨hE.c, hE.bd, hE.n⟩, fun n ρ σ pre K hk => trim_code (hs n ρ σ pre K hk)⟩

theorem xLoop_ok {N : Nat} {rec : Rec} (hrec : CodeX P N rec) {body : Code} {ks : List Nat} (hN : codeN N body = true) : ∀ (m : Nat) {st st' : XS} {e : Exit}, xLoop rec body ks m st = some (e, st') → Bd st → Ext st st' ∧ (∀ l, e ≠ .goto l) ∧
    ∀ (n : Nat) (ρ : Option Nat) (σ : Nat → Nat) (pre : List Level) (K : Exit → Fr → St → Prop), (ρ = none ∨ flatC body = true) → (∀ σ', agree st.c σ σ' → K e (st'.fr.ren σ' pre.length) (st'.s.emb σ' pre)) → CodeOK P n N ρ (.loop body) K (st.fr.ren σ pre.length) (st.s.emb σ pre) := by
  intro m st st' e hx hbd
  have ext : ∀ (m : Nat) {st : XS}, xLoop rec body ks m st = some (e, st') → Bd st → Ext st st' ∧ (∀ l, e ≠ .goto l) := by
    intro m
    induction m with
    | zero => intro st hx _; cases hx
    | succ m ih =>
      intro st hx hbd
      have hx : (match rec body (trim ks (nubK [] (st.s.loc.map (·.1))) st) with
        | some (.normal, st') => xLoop rec body ks m st'
        | r => r) = some (e, st') := hx
      have hT := trim_ext (ks := ks) (ls := nubK [] (st.s.loc.map (·.1))) hbd
      split at hx
      · rename_i st1 h1
        obtain ⟨hE, _, _⟩ := hrec _ _ _ _ h1 hT.bd hN
        obtain ⟨hE', hg⟩ := ih hx hE.bd
        exact ⟨⟨Nat.le_trans hE.c hE'.c, hE'.bd, hE'.n.trans hE.n⟩, hg⟩
      · obtain ⟨hE, hg, _⟩ := hrec _ _ _ _ hx hT.bd hN
        exact ⟨⟨hE.c, hE.bd, hE.n⟩, hg⟩
  obtain ⟨hE, hg⟩ := ext m hx hbd
  refine ⟨hE, hg, fun n ρ σ pre K hρ hk => ?_⟩
  refine code_loop (fun m fr s => ∃ (st : XS) (σ : Nat → Nat), fr = st.fr.ren σ pre.length ∧ s = st.s.emb σ pre ∧ Bd st ∧ xLoop rec body ks m st = some (e, st') ∧ ∀ σ', agree st.c σ σ' → K e (st'.fr.ren σ' pre.length) (st'.s.emb σ' pre)) m ⟨st, σ, rfl, rfl, hbd, hx, hk⟩ ?_
  rintro m fr s ⟨st, σ, rfl, rfl, hbd, hx, hk⟩
  cases m with
  | zero => cases hx
  | succ m =>
    have hx : (match rec body (trim ks (nubK [] (st.s.loc.map (·.1))) st) with
      | some (.normal, st') => xLoop rec body ks m st'
      | r => r) = some (e, st') := hx
    have hT := trim_ext (ks := ks) (ls := nubK [] (st.s.loc.map (·.1))) hbd
    refine trim_code (ks := ks) (ls := nubK [] (st.s.loc.map (·.1))) ?_
    split at hx
    · rename_i st1 h1
      obtain ⟨hE, _, hC⟩ := hrec _ _ _ _ h1 hT.bd hN
      exact hC n ρ σ pre _ hρ fun σ' ha => ⟨m, Nat.lt_succ_self _, st1, σ', rfl, rfl, hE.bd, hx, fun σ'' ha' => hk σ'' (ha.trans ha' hE.c)⟩
    · rename_i hne
      obtain ⟨hE, hg, hC⟩ := hrec _ _ _ _ hx hT.bd hN
      refine hC n ρ σ pre _ hρ fun σ' ha => ?_
      have := hk σ' ha
      cases e with
      | normal => exact absurd hx (hne st')
      | _ => exact this

theorem xRange_ok {cf : CF} (hcf : CallX P cf) {N : Nat} {g : Operand} {ps : Array Tmp} {asg body : Code} (hN : codeN N (.rangeFunc g ps asg body) = true) {st st' : XS} {e : Exit} (hx : xRange cf N g ps.toList asg body st = some (e, st')) (hbd : Bd st) : Ext st st' ∧ (∀ l, e ≠ .goto l) ∧
    ∀ (n : Nat) (σ : Nat → Nat) (pre : List Level) (K : Exit → Fr → St → Prop), (∀ σ', agree st.c σ σ' → K e (st'.fr.ren σ' pre.length) (st'.s.emb σ' pre)) → CodeOK P n N none (.rangeFunc g ps asg body) K (st.fr.ren σ pre.length) (st.s.emb σ pre) := by
  unfold xRange at hx
  split at hx
  · rename_i f first cap hf
    have hbf := bd_fn (hbd.rd hf)
    have hL : loopB N ps.toList asg body = true := hN
    have hb : ∀ σ σ', agree (st.c + 1) σ σ' → agree st.c σ σ' := fun σ σ' ha => ha.mono (Nat.le_succ _)
    have hren : ∀ σ δ, (Res.loop st.fr ps.toList asg body N .ready).ren σ δ = .loop (Fr.ren σ δ st.fr) ps.toList asg body N .ready := fun σ δ => rfl
    have hbd1 : Bd ⟨st.c + 1, st.fr, st.s.put st.s.up.length rkey st.c (.loop st.fr ps.toList asg body N .ready)⟩ := ⟨fun σ σ' δ ha => hbd.f σ σ' δ (hb _ _ ha), fun σ σ' pre ha => by
      simp only [emb_put, hren]
      rw [hbd.s σ σ' pre (hb _ _ ha), hbd.f σ σ' _ (hb _ _ ha), ha st.c (Nat.lt_succ_self _)], hbd.lp.put (fun _ _ _ _ _ _ e => by cases e; exact hL)⟩
    unfold xRangeE at hx
    split at hx
    · rename_i r st2 hcall
      have hcx := hcf _ _ _ _ _ hcall hbd1 (fun v hv => by
        obtain ⟨u, hu, rfl⟩ := List.mem_map.1 hv
        refine bd_weak ?_
        rcases List.mem_append.1 hu with hu | hu
        · rcases List.mem_append.1 hu with hu | hu
          · exact (hbf.1 u hu).mono (Nat.le_succ _)
          · have : u = V.yld st.s.up.length rkey st.c := by simpa using hu
            subst this
            intro σ σ' δ ha
            simp only [ren_yld, ha st.c (Nat.lt_succ_self _)]
        · exact (hbf.2 u hu).mono (Nat.le_succ _))
      obtain ⟨hE2, _, hfr2, hA⟩ := hcx
      split at hx
      · rename_i γ' fr' ps' asg' body' N' ls hget
        have hx2 := brec_opt hx
        clear hx
        obtain ⟨hc, hx⟩ := hx2
        simp only [Bool.and_eq_true] at hc
        have hγ := Nat.eq_of_beq_eq_true hc.1
        subst hγ
        have hlt : st.c < st2.c := by simpa using hc.2
        have hbd2 : Bd ⟨st2.c, st.fr, st2.s.put st.s.up.length rkey st.c .dead⟩ := by
          have h0 := hE2.bd.putS (l := st.s.up.length) (k := rkey) (γ := st.c) (r := .dead) hlt (fun _ _ _ _ => rfl)
          exact ⟨fun σ σ' δ ha => hbd.f σ σ' δ (ha.mono (Nat.le_of_lt hlt)), h0.s, h0.lp⟩
        have hn2 : (st2.s.put st.s.up.length rkey st.c .dead).up.length = st.s.up.length := by
          rw [St.put_len, hE2.n, St.put_len]
        have fin : ∀ (e : Exit) , (∀ σ pre (K : Exit → Fr → St → Prop), K e (st.fr.ren σ pre.length) ((st2.s.emb σ pre).put (st.s.up.length + pre.length) rkey (σ st.c) .dead) → LoopK (st.s.up.length + pre.length) rkey (σ st.c) (st.fr.ren σ pre.length) K (st2.s.emb σ pre)) →
            ∀ (n : Nat) (σ : Nat → Nat) (pre : List Level) (K : Exit → Fr → St → Prop), (∀ σ', agree st.c σ σ' → K e (st.fr.ren σ' pre.length) ((st2.s.put st.s.up.length rkey st.c .dead).emb σ' pre)) → CodeOK P n N none (.rangeFunc g ps asg body) K (st.fr.ren σ pre.length) (st.s.emb σ pre) := by
          intro e hL2 n σ pre K hk
          rw [rdX_eq] at hf
          refine code_rangeFunc rkey (f := f) (first := first.map (V.ren σ pre.length)) (cap := cap.map (V.ren σ pre.length)) (by rw [rdG_ren, hf]; simp) fun γ => ?_
          have h1 := hA (fun i => if i = st.c then γ else σ i) pre (fun _ s' => LoopK (st.s.emb σ pre).up.length rkey γ (st.fr.ren σ pre.length) K s') fun σ' ha => ?_
          · have hag := agree.upd st.c γ σ
            have e1 : (((first ++ [V.yld st.s.up.length rkey st.c] ++ cap).map weakV).map (V.ren (fun i => if i = st.c then γ else σ i) pre.length)) = ((first.map (V.ren σ pre.length) ++ [V.yld (st.s.emb σ pre).up.length rkey γ] ++ cap.map (V.ren σ pre.length)).map weakV) := by
              rw [map_weak_ren]
              congr 1
              simp only [List.map_append, List.map_cons, List.map_nil, ren_yld, if_true, emb_len]
              rw [List.map_congr_left fun v hv => hbf.1 v hv σ _ pre.length hag, List.map_congr_left fun v hv => hbf.2 v hv σ _ pre.length hag]
            rw [e1] at h1
            have e2 : (St.emb (fun i => if i = st.c then γ else σ i) pre (st.s.put st.s.up.length rkey st.c (.loop st.fr ps.toList asg body N .ready))) = (st.s.emb σ pre).put (st.s.emb σ pre).up.length rkey γ (.loop (st.fr.ren σ pre.length) ps.toList asg body N .ready) := by
              rw [emb_put, hren]
              simp only [if_true]
              rw [← hbd.s _ _ _ hag, ← hbd.f _ _ _ hag, emb_len]
            simp only at h1
            rw [e2] at h1
            exact h1
          · have ha' : agree st.c σ σ' := (agree.upd st.c γ σ).trans (ha.mono (Nat.le_succ _)) (Nat.le_refl _)
            have hγ : σ' st.c = γ := by have := ha st.c (Nat.lt_succ_self _); simpa using this.symm
            have h2 := hk σ' ha'
            rw [emb_put] at h2
            have h3 := hL2 σ' pre K h2
            rw [hγ, ← hbd.f σ σ' _ ha'] at h3
            rw [emb_len]
            exact h3
        have hgetE : ∀ σ pre, (st2.s.emb σ pre).get (st.s.up.length + pre.length) rkey = some (σ st.c, .loop (Fr.ren σ pre.length fr') ps' asg' body' N' ls) := fun σ pre => by
          rw [emb_get, hget]; rfl
        split at hx
        · cases hx
          exact ⟨⟨Nat.le_of_lt hlt, hbd2, hn2⟩, (by intro l h; cases h), fin .normal fun σ pre K hK => ⟨_, _, _, _, _, _, hgetE σ pre, hK⟩⟩
        · cases hx
          exact ⟨⟨Nat.le_of_lt hlt, hbd2, hn2⟩, (by intro l h; cases h), fin .ret fun σ pre K hK => ⟨_, _, _, _, _, _, hgetE σ pre, hK⟩⟩
        · cases hx
          exact ⟨⟨Nat.le_of_lt hlt, hbd2, hn2⟩, (by intro l h; cases h), fin (.exit _) fun σ pre K hK => ⟨_, _, _, _, _, _, hgetE σ pre, hK⟩⟩
        · cases hx
      · cases hx
    · cases hx
  · cases hx

theorem execStep_ok (hP : ProgOK P) {E : XE} (hEE : XEOK P E) {N : Nat} {rec : Rec} (hrec : CodeX P N rec) (m : Nat) : CodeX P N (execStep P E m N rec) := by
  intro code st e st' hx hbd hN
  have same : ∀ {st : XS}, Bd st → Ext st st := fun h => ⟨Nat.le_refl _, h, rfl⟩
  unfold execStep at hx
  split at hx
  · cases hx; exact ⟨same hbd, (by intro l h; cases h), fun n ρ σ pre K _ hk => code_skip (hk σ (agree.refl _ _))⟩
  · cases hx; exact ⟨same hbd, (by intro l h; cases h), fun n ρ σ pre K _ hk => code_label (hk σ (agree.refl _ _))⟩
  · rename_i id ops draw
    obtain ⟨rfl, hx2⟩ := toN_some hx
    obtain ⟨hE, hs⟩ := regX_ok hP hEE hN hx2 hbd
    exact ⟨hE, (by intro l h; cases h), fun n ρ σ pre K _ hk => hs n ρ σ pre K hk⟩
  · rename_i a b
    simp only [codeN, Bool.and_eq_true] at hN
    have hρ1 : ∀ {ρ : Option Nat}, (ρ = none ∨ flatC (.seq a b) = true) → (ρ = none ∨ flatC a = true) ∧ (ρ = none ∨ flatC b = true) := by
      intro ρ h
      rcases h with h | h
      · exact ⟨.inl h, .inl h⟩
      · simp only [flatC, Bool.and_eq_true] at h; exact ⟨.inr h.1, .inr h.2⟩
    unfold xSeq at hx
    split at hx
    · rename_i st1 e1
      obtain ⟨hE, _, hC⟩ := hrec _ _ _ _ e1 hbd hN.1
      obtain ⟨hE', hg, hC'⟩ := hrec _ _ _ _ hx hE.bd hN.2
      refine ⟨⟨Nat.le_trans hE.c hE'.c, hE'.bd, hE'.n.trans hE.n⟩, hg, fun n ρ σ pre K hρ hk => code_seq (hC n ρ σ pre _ (hρ1 hρ).1 fun σ' ha => ?_)⟩
      exact hC' n ρ σ' pre K (hρ1 hρ).2 fun σ'' ha' => hk σ'' (ha.trans ha' hE.c)
    · rename_i hne
      obtain ⟨hE, hg, hC⟩ := hrec _ _ _ _ hx hbd hN.1
      refine ⟨hE, hg, fun n ρ σ pre K hρ hk => code_seq (hC n ρ σ pre _ (hρ1 hρ).1 fun σ' ha => ?_)⟩
      have := hk σ' ha
      cases e with
      | normal => exact absurd hx (hne st')
      | _ => exact this
  · rename_i c a b
    simp only [codeN, Bool.and_eq_true] at hN
    have hρ1 : ∀ {ρ : Option Nat}, (ρ = none ∨ flatC (.cond c a b) = true) → (ρ = none ∨ flatC a = true) ∧ (ρ = none ∨ flatC b = true) := by
      intro ρ h
      rcases h with h | h
      · exact ⟨.inl h, .inl h⟩
      · simp only [flatC, Bool.and_eq_true] at h; exact ⟨.inr h.1, .inr h.2⟩
    unfold xCond at hx
    split at hx
    · rename_i bv hb
      rw [rdX_eq] at hb
      have hb' : ∀ σ δ, rdG true (st.fr.ren σ δ) c = some (.bool bv) := fun σ δ => by rw [rdG_ren, hb]; simp
      cases bv with
      | true =>
        obtain ⟨hE, hg, hC⟩ := hrec _ _ _ _ hx hbd hN.1
        exact ⟨hE, hg, fun n ρ σ pre K hρ hk => code_cond (hb' _ _) (fun _ => hC n ρ σ pre K (hρ1 hρ).1 hk) (fun h => by cases h)⟩
      | false =>
        obtain ⟨hE, hg, hC⟩ := hrec _ _ _ _ hx hbd hN.2
        exact ⟨hE, hg, fun n ρ σ pre K hρ hk => code_cond (hb' _ _) (fun h => by cases h) (fun _ => hC n ρ σ pre K (hρ1 hρ).2 hk)⟩
    · cases hx
  · rename_i id body
    unfold xBlock at hx
    split at hx
    · rename_i i st1 e1
      obtain ⟨hE, _, hC⟩ := hrec _ _ _ _ e1 hbd hN
      cases hb : Nat.beq i id with
      | true =>
        rw [hb] at hx
        have := Nat.eq_of_beq_eq_true hb
        subst this
        cases hx
        refine ⟨hE, (by intro l h; cases h), fun n ρ σ pre K hρ hk => code_block (hC n ρ σ pre _ hρ fun σ' ha => ?_)⟩
        show (if i = i then K .normal else K (.exit i)) _ _
        rw [if_pos rfl]; exact hk σ' ha
      | false =>
        rw [hb] at hx
        cases hx
        refine ⟨hE, (by intro l h; cases h), fun n ρ σ pre K hρ hk => code_block (hC n ρ σ pre _ hρ fun σ' ha => ?_)⟩
        show (if i = id then K .normal else K (.exit i)) _ _
        rw [if_neg (fun e => by rw [e, Nat.beq_refl] at hb; cases hb)]; exact hk σ' ha
    · rename_i hne
      obtain ⟨hE, hg, hC⟩ := hrec _ _ _ _ hx hbd hN
      refine ⟨hE, hg, fun n ρ σ pre K hρ hk => code_block (hC n ρ σ pre _ hρ fun σ' ha => ?_)⟩
      have := hk σ' ha
      cases e with
      | exit i => exact absurd hx (hne i st')
      | _ => exact this
  · rename_i body
    have hN : codeN N body = true := hN
    obtain ⟨h1, h2, h3⟩ := xLoop_ok hrec hN m hx hbd
    exact ⟨h1, h2, fun n ρ σ pre K hρ hk => h3 n ρ σ pre K hρ hk⟩
  · cases hx; exact ⟨same hbd, (by intro l h; cases h), fun n ρ σ pre K _ hk => code_exit (hk σ (agree.refl _ _))⟩
  · cases hx; exact ⟨same hbd, (by intro l h; cases h), fun n ρ σ pre K _ hk => code_ret (hk σ (agree.refl _ _))⟩
  · rename_i body
    obtain ⟨hE, hg, hC⟩ := hrec _ _ _ _ hx hbd hN
    refine ⟨hE, hg, fun n ρ σ pre K hρ hk => ?_⟩
    rcases hρ with rfl | hρ
    · have := code_scope (K := fun e fr s => K e fr s ∧ ∀ l, e ≠ .goto l) (fun l fr s h => h.2 l rfl) (hC n none σ pre (fun e fr s => K e fr s ∧ ∀ l, e ≠ .goto l) (.inl rfl) fun σ' ha => ⟨hk σ' ha, hg⟩)
      exact code_mono this fun e fr s h => h.1
    · cases hρ
  · rename_i g ps asg body
    obtain ⟨h1, h2, h3⟩ := xRange_ok hEE.cf hN hx hbd
    refine ⟨h1, h2, fun n ρ σ pre K hρ hk => ?_⟩
    rcases hρ with rfl | hρ
    · exact h3 n σ pre K hk
    · cases hρ
  · cases hx

theorem putPs_ren : ∀ (fr : Fr) (ps : List Tmp) (vs : List V), (putPs fr ps vs).ren σ δ = putPs (fr.ren σ δ) ps (vs.map (V.ren σ δ))
  | fr, [], vs => by cases vs <;> rfl
  | fr, p :: ps, [] => rfl
  | fr, p :: ps, v :: vs => by
    simp only [putPs, List.map_cons]
    rw [putPs_ren]
    rfl

theorem yldX_ok (_ : ProgOK P) {rec : RecN} (hrec : RecX P rec) : YldX P (yldX rec) := by
  intro l q γ vs st r st' hx hbd hvs
  unfold yldX at hx
  split at hx
  · rename_i γ' fr0 ps asg body N hget
    have hx2 := brec_opt hx
    clear hx
    obtain ⟨hc, hx⟩ := hx2
    simp only [Bool.and_eq_true] at hc
    have hγ := Nat.eq_of_beq_eq_true hc.1.1
    have hlen := Nat.eq_of_beq_eq_true hc.1.2
    have hlt0 : γ < st.c := by simpa using hc.2
    subst hγ
    have hL := hbd.lp _ _ _ _ _ _ _ _ _ hget
    simp only [loopB, Bool.and_eq_true] at hL
    obtain ⟨⟨⟨⟨hp, fa⟩, fb⟩, na⟩, nb⟩ := hL
    have hfr0 : ∀ σ σ' δ, agree st.c σ σ' → Fr.ren σ δ fr0 = Fr.ren σ' δ fr0 := fun σ σ' δ ha => by
      have := bd_get hbd hget σ σ' δ ha
      simp only [Res.ren, Res.loop.injEq] at this
      exact this.1
    have hbd0 : Bd ⟨st.c, putPs fr0 ps vs, ⟨st.s.up ++ [st.s.loc], []⟩⟩ := ⟨fun σ σ' δ ha => by
      simp only [putPs_ren]
      rw [hfr0 σ σ' δ ha]
      congr 1
      exact List.map_congr_left fun v hv => hvs v hv σ σ' δ ha, fun σ σ' pre ha => by
      have := hbd.s σ σ' pre ha
      simp only [St.emb, St.mk.injEq] at this
      simp only [St.emb, List.map_append, List.map_cons, List.map_nil, ← List.append_assoc, this.1, this.2]
      rfl, fun i k γ fr ps asg body N ls hg => by
      rw [get_list] at hg
      split at hg
      · rename_i L hL
        rcases List.mem_append.1 (List.mem_of_getElem? hL) with hm | hm
        · obtain ⟨j, hj⟩ := List.getElem?_of_mem hm
          refine hbd.lp j k γ fr ps asg body N ls ?_
          have := get_list st.s.up st.s.loc j k
          rw [hj] at this
          exact this.trans hg
        · have : L = [] := by simpa using hm
          subst this; simp at hg
      · cases hg⟩
    unfold roundE at hx
    split at hx
    · rename_i e st2 hB
      unfold roundB at hB
      split at hB
      · rename_i st1 hA
        obtain ⟨hE1, _, hCA⟩ := hrec _ _ _ _ _ hA hbd0 na
        split at hB
        · rename_i γ1 fr1 ps1 asg1 body1 N1 hget1
          obtain ⟨hc1, hB⟩ := brec_opt hB
          simp only [Bool.and_eq_true] at hc1
          have h1 := Nat.eq_of_beq_eq_true hc1.1
          subst h1
          have hlt1 : γ1 < st1.c := by simpa using hc1.2
          have hbdB : Bd ⟨st1.c, st1.fr, st1.s.put l q γ1 (.loop fr1 ps1 asg1 body1 N1 .busy)⟩ := by
            refine ⟨hE1.bd.f, fun σ σ' pre ha => ?_, hE1.bd.lp.put (fun _ _ _ _ _ _ e => by cases e; exact hE1.bd.lp _ _ _ _ _ _ _ _ _ hget1)⟩
            have hr := bd_get hE1.bd hget1 σ σ' pre.length ha
            simp only [Res.ren, Res.loop.injEq] at hr
            simp only [emb_put, Res.ren]
            rw [hE1.bd.s σ σ' pre ha, ha _ hlt1, hr.1]
          obtain ⟨hE2, _, hCB⟩ := hrec _ _ _ _ _ hB hbdB nb
          split at hx
          · rename_i γ2 fr2 ps2 asg2 body2 N2 hget2
            obtain ⟨hc2, hx⟩ := brec_opt hx
            simp only [Bool.and_eq_true] at hc2
            have h2 := Nat.eq_of_beq_eq_true hc2.1.1
            subst h2
            have hll : l < st2.s.up.length := by simpa using hc2.1.2
            have hlt2 : γ2 < st2.c := by simpa using hc2.2
            split at hx
            · rename_i u lc hu
              have hup := unsnoc_spec hu
              have hn2 : st2.s.up.length = st.s.up.length + 1 := by
                have e1 := hE2.n
                have e2 := hE1.n
                simp only [St.put_len] at e1
                simp only [List.length_append, List.length_singleton] at e2
                omega
              have hul : u.length = st.s.up.length := by
                have := congrArg List.length hup
                simp at this; omega
              have hbS : ∀ σ σ' pre, agree st2.c σ σ' → (shutS st2.s u lc).emb σ pre = (shutS st2.s u lc).emb σ' pre := fun σ σ' pre ha => by
                have hL : ∀ L ∈ st2.s.up, (shutLv st2.s L).ren σ pre.length = (shutLv st2.s L).ren σ' pre.length := fun L hL => shutLv_bd hE2.bd.s (ups_bd hE2.bd.s L hL) σ σ' pre.length ha
                simp only [St.emb, shutS, List.map_map, St.mk.injEq]
                refine ⟨by congr 1; exact List.map_congr_left fun L hm => hL L (by rw [hup]; simp [hm]), hL lc (by rw [hup]; simp)⟩
              have hlpS : LoopsOK (shutS st2.s u lc) := fun i k γ fr ps asg body N ls hg => by
                rw [shutS, get_list] at hg
                have e0 : u.map (shutLv st2.s) ++ [shutLv st2.s lc] = st2.s.up.map (shutLv st2.s) := by rw [hup]; simp
                rw [e0] at hg
                split at hg
                · rename_i L hL
                  simp only [List.getElem?_map, Option.map_eq_some_iff] at hL
                  obtain ⟨L0, hL0, rfl⟩ := hL
                  have hg := shutLv_lp _ _ hg
                  refine hE2.bd.lp i k γ fr ps asg body N ls ?_
                  have hi := (List.getElem?_eq_some_iff.1 hL0).1
                  unfold St.get
                  rw [if_neg (by omega), hL0]
                  exact hg
                · cases hg
              have hfr2 : ∀ σ σ' δ, agree st2.c σ σ' → Fr.ren σ δ fr2 = Fr.ren σ' δ fr2 := fun σ σ' δ ha => by
                have := bd_get hE2.bd hget2 σ σ' δ ha
                simp only [Res.ren, Res.loop.injEq] at this
                exact this.1
              have hcc : st.c ≤ st2.c := Nat.le_trans hE1.c hE2.c
              have fin : ∀ (b : Bool) (ls : LS), (∀ σ pre (k : V → St → Prop), k (.bool b) (((shutS st2.s u lc).emb σ pre).put (l + pre.length) q (σ γ2) (.loop (Fr.ren σ pre.length fr2) ps2 asg2 body2 N2 ls)) → RoundK (st.s.up.length + pre.length + 1) (l + pre.length) q (σ γ2) k e (st2.fr.ren σ pre.length) (st2.s.emb σ pre)) →
                  Ext st ⟨st2.c, st.fr, (shutS st2.s u lc).put l q γ2 (.loop fr2 ps2 asg2 body2 N2 ls)⟩ ∧ BdV st2.c (.bool b) ∧ True ∧
                  ∃ fr0 ps asg body N, st.s.get l q = some (γ2, .loop fr0 ps asg body N .ready) ∧ ∀ (σ : Nat → Nat) (pre : List Level) (k : V → St → Prop), (∀ σ', agree st.c σ σ' → k ((V.bool b).ren σ' pre.length) (((shutS st2.s u lc).put l q γ2 (.loop fr2 ps2 asg2 body2 N2 ls)).emb σ' pre)) →
                    RoundS P (l + pre.length) q (σ γ2) (Fr.ren σ pre.length fr0) ps asg body N (vs.map (V.ren σ pre.length)) (st.s.emb σ pre) k := by
                intro b ls hRK
                refine ⟨⟨hcc, ⟨fun σ σ' δ ha => hbd.f σ σ' δ (ha.mono hcc), fun σ σ' pre ha => ?_, hlpS.put (fun _ _ _ _ _ _ e => by cases e; exact hE2.bd.lp _ _ _ _ _ _ _ _ _ hget2)⟩, by rw [St.put_len]; simpa [shutS] using hul⟩, fun _ _ _ _ => by simp, trivial, fr0, ps, asg, body, N, hget, fun σ pre k hk => ?_⟩
                · simp only [emb_put, Res.ren]
                  have := hfr2 σ σ' pre.length ha
                  rw [hbS σ σ' pre ha, ha _ hlt2]
                  congr 2
                · refine ⟨by simpa using hlen, hp, fun ρ => ?_⟩
                  have e1 : (⟨(st.s.emb σ pre).up ++ [(st.s.emb σ pre).loc], []⟩ : St) = (⟨st.s.up ++ [st.s.loc], []⟩ : St).emb σ pre := by
                    simp [St.emb, Level.ren]
                  rw [e1, ← putPs_ren]
                  refine hCA _ ρ σ pre _ (.inr fa) fun σ1 ha1 => ⟨rfl, Fr.ren σ1 pre.length fr1, ps1, asg1, body1, N1, ?_, ?_⟩
                  · rw [emb_get, hget1, ha1 _ hlt0]; rfl
                  · have hCB' := hCB ((st.s.emb σ pre).up.length + 1) ρ σ1 pre (RoundK ((st.s.emb σ pre).up.length + 1) (l + pre.length) q (σ γ2) k) (.inr fb) fun σ2 ha2 => ?_
                    · simp only [emb_put, Res.ren] at hCB'
                      rw [ha1 _ hlt0] at hCB' ⊢
                      exact hCB'
                    · have ha : agree st.c σ σ2 := ha1.trans ha2 hE1.c
                      have hkk := hk σ2 ha
                      simp only [ren_bool, emb_put, Res.ren] at hkk
                      have := hRK σ2 pre k hkk
                      rw [emb_len, ha _ hlt0]
                      exact this
              have hRK0 : ∀ (σ : Nat → Nat) (pre : List Level), ∃ up lc' s2 fr0 ps asg body N, (st2.s.emb σ pre).up = up ++ [lc'] ∧ up.length + 1 = st.s.up.length + pre.length + 1 ∧ l + pre.length ≤ up.length ∧ (st2.s.emb σ pre).get (l + pre.length) q = some (σ γ2, .loop fr0 ps asg body N .busy) ∧ Shut (st2.s.emb σ pre) ⟨up, lc'⟩ s2 ∧ (∃ r', s2.get (l + pre.length) q = some (σ γ2, r')) ∧
                  s2 = (shutS st2.s u lc).emb σ pre ∧ fr0 = Fr.ren σ pre.length fr2 ∧ ps = ps2 ∧ asg = asg2 ∧ body = body2 ∧ N = N2 := by
                intro σ pre
                refine ⟨pre ++ u.map (Level.ren σ pre.length), lc.ren σ pre.length, _, _, _, _, _, _, by simp [St.emb, hup], by simp [hul]; omega, by simp [hul]; omega, by rw [emb_get, hget2]; rfl, ?_, ?_, rfl, rfl, rfl, rfl, rfl, rfl⟩
                · refine shut_list (F := st2.s.up) (σ := σ) (pre := pre) (by simp [hup]) ?_
                  simp [shutS, hup]
                · rw [emb_get]
                  have hg : (shutS st2.s u lc).get l q = some (γ2, shutRes st2.s (.loop fr2 ps2 asg2 body2 N2 .busy)) := by
                    rw [shutS, get_list]
                    have e0 : u.map (shutLv st2.s) ++ [shutLv st2.s lc] = st2.s.up.map (shutLv st2.s) := by rw [hup]; simp
                    rw [e0, List.getElem?_map]
                    unfold St.get at hget2
                    rw [if_neg (by omega)] at hget2
                    cases hL : st2.s.up[l]? with
                    | none => rw [hL] at hget2; cases hget2
                    | some L =>
                      rw [hL] at hget2
                      simp only [Option.map_some, shutLv_get]
                      rw [show L.get q = _ from hget2]
                      rfl
                  rw [hg]
                  exact ⟨_, rfl⟩
              have hfr : ∀ {r : V} {st' : XS} {b : Bool} {ls : LS}, r = .bool b → st' = ⟨st2.c, st.fr, (shutS st2.s u lc).put l q γ2 (.loop fr2 ps2 asg2 body2 N2 ls)⟩ → (∀ σ pre (k : V → St → Prop), k (.bool b) (((shutS st2.s u lc).emb σ pre).put (l + pre.length) q (σ γ2) (.loop (Fr.ren σ pre.length fr2) ps2 asg2 body2 N2 ls)) → RoundK (st.s.up.length + pre.length + 1) (l + pre.length) q (σ γ2) k e (st2.fr.ren σ pre.length) (st2.s.emb σ pre)) →
                  Ext st st' ∧ BdV st'.c r ∧ st'.fr = st.fr ∧ ∃ fr0 ps asg body N, st.s.get l q = some (γ2, .loop fr0 ps asg body N .ready) ∧ ∀ (σ : Nat → Nat) (pre : List Level) (k : V → St → Prop), (∀ σ', agree st.c σ σ' → k (r.ren σ' pre.length) (st'.s.emb σ' pre)) →
                    RoundS P (l + pre.length) q (σ γ2) (Fr.ren σ pre.length fr0) ps asg body N (vs.map (V.ren σ pre.length)) (st.s.emb σ pre) k := by
                rintro r st' b ls rfl rfl hRK
                obtain ⟨q1, q2, _, q3⟩ := fin b ls hRK
                exact ⟨q1, q2, rfl, q3⟩
              split at hx
              · cases hx
                refine hfr rfl rfl fun σ pre k hk => ?_
                obtain ⟨up, lc', s2, fr0, ps, asg, body, N, h1, h2, h3, h4, h5, h6, rfl, rfl, rfl, rfl, rfl, rfl⟩ := hRK0 σ pre
                exact ⟨up, lc', _, _, _, _, _, _, h1, h2, h3, h4, h5, h6, hk⟩
              · cases hx
                refine hfr rfl rfl fun σ pre k hk => ?_
                obtain ⟨up, lc', s2, fr0, ps, asg, body, N, h1, h2, h3, h4, h5, h6, rfl, rfl, rfl, rfl, rfl, rfl⟩ := hRK0 σ pre
                exact ⟨up, lc', _, _, _, _, _, _, h1, h2, h3, h4, h5, h6, hk⟩
              · cases hx
                refine hfr rfl rfl fun σ pre k hk => ?_
                obtain ⟨up, lc', s2, fr0, ps, asg, body, N, h1, h2, h3, h4, h5, h6, rfl, rfl, rfl, rfl, rfl, rfl⟩ := hRK0 σ pre
                exact ⟨up, lc', _, _, _, _, _, _, h1, h2, h3, h4, h5, h6, hk⟩
              · cases hx
            · cases hx
          · cases hx
        · cases hB
      · cases hB
    · cases hx
  · cases hx

theorem envX_ok (hP : ProgOK P) {kn : CF0} (hkn : CallX0 P kn) {ko : CFO} (hko : CallXO P ko) {lit : Tmp → Bool} {rec : RecN} (h : RecX P rec) : XEOK P (envX P kn ko lit rec) := ⟨callS_ok hP hkn h, yldX_ok hP h, callW_ok hP hkn h, callO_ok hP hkn hko h⟩

theorem exec_ok (hP : ProgOK P) {kn : CF0} (hkn : CallX0 P kn) {ko : CFO} (hko : CallXO P ko) {lit : Tmp → Bool} : ∀ (n : Nat), RecX P (exec P kn ko lit n)
  | 0 => fun _ _ _ _ _ hx => by cases hx
  | n + 1 => fun N => execStep_ok hP (envX_ok hP hkn hko (exec_ok hP hkn hko n)) (exec_ok hP hkn hko n N) n

/-! ### Calls that are known -/
def eqL {α : Type} (f : α → α → Bool) : List α → List α → Bool
  | [], ys => match ys with
    | [] => true
    | _ => false
  | x :: xs, ys => match ys with
    | [] => false
    | y :: ys => f x y && eqL f xs ys
theorem eqL_eq {α : Type} {f : α → α → Bool} (h : ∀ x y, f x y = true → x = y) : ∀ {xs ys : List α}, eqL f xs ys = true → xs = ys
  | [], [], _ => rfl
  | [], _ :: _, h' => by cases h'
  | _ :: _, [], h' => by cases h'
  | x :: xs, y :: ys, h' => by
    simp only [eqL, Bool.and_eq_true] at h'
    rw [h x y h'.1, eqL_eq h h'.2]
def eqV : Nat → V → V → Bool
  | 0 => fun _ _ => false
  | n + 1 => fun v w => match v with
    | .int k x => match w with
      | .int k' y => decide (k = k') && decide (x = y)
      | _ => false
    | .bool b => match w with
      | .bool c => b == c
      | _ => false
    | .agg cs => match w with
      | .agg ds => eqL (eqV n) cs ds
      | _ => false
    | .tup cs => match w with
      | .tup ds => eqL (eqV n) cs ds
      | _ => false
    | .ref cs => match w with
      | .ref ds => eqL (eqV n) cs ds
      | _ => false
    | .any => match w with
      | .any => true
      | _ => false
    | .list b es => match w with
      | .list c fs => b == c && eqL (eqL (eqV n)) es fs
      | _ => false
    | .nil => match w with
      | .nil => true
      | _ => false
    | _ => false
theorem eqV_eq : ∀ {n : Nat} (v w : V), eqV n v w = true → v = w
  | 0, _, _, h => by cases h
  | n + 1, v, w, h => by
    cases v <;> cases w <;> first | (cases h; done) | skip
    all_goals simp only [eqV, Bool.and_eq_true, decide_eq_true_eq, beq_iff_eq] at h
    · rw [h.1, h.2]
    · rw [h]
    · rw [eqL_eq eqV_eq h]
    · rw [eqL_eq eqV_eq h]
    · rw [h.1, eqL_eq (fun _ _ => eqL_eq eqV_eq) h.2]
    · rw [eqL_eq eqV_eq h]
    · rfl
    · rfl

abbrev Known := List (FuncId × List V × V)
def knX : Known → CF0
  | [] => fun _ _ => none
  | (f0, a0, r0) :: t => fun f a => cond (Nat.beq f f0) (cond (eqL (eqV 9) a a0) (some r0) (knX t f a)) (knX t f a)
def KnOK (P : Program) (t : Known) : Prop := CallX0 P (knX t)

theorem knOK_nil : KnOK P [] := fun _ _ _ h => by cases h
theorem knOK_add {t : Known} (ht : KnOK P t) {f : FuncId} {args : List V} {r : V} (h : (∀ s, ACall P f args s fun r' s' => r' = r ∧ s' = s) ∧ (∀ v ∈ args, ∀ σ δ, v.ren σ δ = v) ∧ (∀ σ δ, r.ren σ δ = r)) : KnOK P ((f, args, r) :: t) := by
  intro f1 a1 r1 hx
  show _
  have hx : cond (Nat.beq f1 f) (cond (eqL (eqV 9) a1 args) (some r) (knX t f1 a1)) (knX t f1 a1) = some r1 := hx
  cases hf : Nat.beq f1 f with
  | false => rw [hf] at hx; exact ht _ _ _ hx
  | true =>
    rw [hf] at hx
    cases ha : eqL (eqV 9) a1 args with
    | false => rw [ha] at hx; exact ht _ _ _ hx
    | true =>
      rw [ha] at hx
      cases hx
      rw [Nat.eq_of_beq_eq_true hf, eqL_eq eqV_eq ha]
      exact h
abbrev KnownO := List (FuncId × List V × Tmp × Mk)
def koX : KnownO → CFO
  | [] => fun _ _ _ => none
  | (f0, a0, d0, r0) :: t => fun f a d => cond (Nat.beq f f0 && Nat.beq d d0) (cond (eqL (eqV 9) a a0) (some r0) (koX t f a d)) (koX t f a d)
def KoOK (P : Program) (t : KnownO) : Prop := CallXO P (koX t)
theorem koOK_nil : KoOK P [] := fun _ _ _ _ h => by cases h

section
variable {t : Known} {u : KnownO} {lit : Tmp → Bool} {n : Nat} {f : FuncId} {args : List V}
theorem koOK_cons (hP : ProgOK P) (ht : KnOK P t) (hu : KoOK P u) {u' : KnownO} (hu' : KoOK P u') {k d : Nat} {r : Mk} (h : callH P (exec P (knX t) (koX u) lit n) k f args d = some r) : KoOK P ((f, args, d, r) :: u') := by
  intro f1 a1 d1 r1 hx
  have hx : cond (Nat.beq f1 f && Nat.beq d1 d) (cond (eqL (eqV 9) a1 args) (some r) (koX u' f1 a1 d1)) (koX u' f1 a1 d1) = some r1 := hx
  cases hf : (Nat.beq f1 f && Nat.beq d1 d) with
  | false => rw [hf] at hx; exact hu' _ _ _ _ hx
  | true =>
    rw [hf] at hx
    cases ha : eqL (eqV 9) a1 args with
    | false => rw [ha] at hx; exact hu' _ _ _ _ hx
    | true =>
      rw [ha] at hx
      cases hx
      simp only [Bool.and_eq_true] at hf
      rw [Nat.eq_of_beq_eq_true hf.1, Nat.eq_of_beq_eq_true hf.2, eqL_eq eqV_eq ha]
      exact callH_ok hP (exec_ok hP ht hu n) h
end
end Go.Pg
