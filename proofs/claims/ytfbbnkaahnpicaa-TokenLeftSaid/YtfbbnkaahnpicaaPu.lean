/- What the operations give turns with the names. No program in sight. -/
import Derived.Test.YtfbbnkaahnpicaaPt
namespace Go.Pg
variable {P : Program} {σ : Nat → Nat} {δ : Nat} {pre : List Level} {s : St} {fr : Fr} {g : Bool}

theorem rd_ren (x : Operand) : rd (fr.ren σ δ) x = (rd fr x).map fun p => (p.1, p.2.ren σ δ) := by
  cases x with
  | tmp t => exact Fr.get_ren fr t
  | const u =>
    simp only [rd]
    cases h : constV u with
    | none => rfl
    | some v => simp [constV_ren h]
  | func f => simp [rd]
  | global g => rfl
theorem rdG_ren (x : Operand) : rdG g (fr.ren σ δ) x = (rdG g fr x).map (V.ren σ δ) := by
  unfold rdG
  rw [rd_ren]
  cases rd fr x with
  | none => rfl
  | some p =>
    obtain ⟨c, v⟩ := p
    simp only [Option.map_some]
    split <;> rfl

theorem flatOk_ren (v : V) : flatOk (v.ren σ δ) = flatOk v := by cases v <;> simp [flatOk]
theorem cellsV_ren (v : V) : cellsV (v.ren σ δ) = (cellsV v).map (V.ren σ δ) := by cases v <;> simp [cellsV]
theorem weakC_ren (v : V) : weakC (v.ren σ δ) = (weakC v).ren σ δ := by cases v <;> simp [weakC]
theorem weakV_ren (v : V) : weakV (v.ren σ δ) = (weakV v).ren σ δ := by cases v <;> simp [weakV, weakC_ren]

theorem cellsAt_ren {p : V} {cs : List V} (h : cellsAt s p = some cs) : cellsAt (s.emb σ pre) (p.ren σ pre.length) = some (cs.map (V.ren σ pre.length)) := by
  cases p with
  | ref ds => simp only [cellsAt, Option.some.injEq] at h; subst h; simp [cellsAt]
  | ptr l k γ off =>
    simp only [cellsAt] at h
    split at h
    · rename_i γ' ds e
      split at h
      · rename_i eg
        cases h
        simp [cellsAt, emb_get, e, Res.ren, eg, List.map_drop]
      · cases h
    · cases h
  | eptr l k γ i off =>
    simp only [cellsAt] at h
    split at h
    · rename_i γ' T es e
      split at h
      · rename_i eg
        obtain ⟨x, hx, rfl⟩ := Option.map_eq_some_iff.1 h
        simp [cellsAt, emb_get, e, Res.ren, eg, hx, List.map_drop]
      · cases h
    · cases h
  | _ => cases h

theorem whole_ren {T : TypeId} {cs : List V} {v : V} (h : whole P T cs = some v) : whole P T (cs.map (V.ren σ δ)) = some (v.ren σ δ) := by
  unfold whole at h ⊢
  split at h
  · split at h
    · rename_i hc; cases h; simp [hc, List.map_take]
    · cases h
  · split at h
    · rename_i hc; cases h; simp [hc, List.map_take]
    · cases h
  · simp only [List.getElem?_map, h, Option.map_some]
  · cases h

theorem partV_ren {U : TypeId} {cs : List V} {off : Nat} {v : V} (h : partV P U cs off = some v) : partV P U (cs.map (V.ren σ δ)) off = some (v.ren σ δ) := by
  unfold partV at h ⊢
  split at h
  · split at h
    · rename_i hc; cases h; simp [hc, List.map_take, List.map_drop]
    · cases h
  · split at h
    · rename_i hc; cases h; simp [hc, List.map_take, List.map_drop]
    · cases h
  · simp only [List.getElem?_map, h, Option.map_some]
  · cases h

theorem evField_ren {T : TypeId} {x v : V} {f : Nat} (h : evField P T x f = some v) : evField P T (x.ren σ δ) f = some (v.ren σ δ) := by
  unfold evField at h
  split at h
  · rename_i cs U off e
    simp [evField, e, partV_ren h]
  · cases h

theorem evFieldAddr_ren {T : TypeId} {x v : V} {f : Nat} (h : evFieldAddr P T x f = some v) : evFieldAddr P T (x.ren σ δ) f = some (v.ren σ δ) := by
  unfold evFieldAddr at h
  split at h
  · rename_i U off e
    split at h
    · cases h
    · rename_i hz
      split at h <;> first
        | (cases h; done)
        | (cases h; simp [evFieldAddr, e, hz, List.map_drop])
  · cases h

theorem getD_map_ren (es : List (List V)) (j : Nat) : (es.map (List.map (V.ren σ δ))).getD j [] = (es.getD j []).map (V.ren σ δ) := by
  simp only [List.getD_eq_getElem?_getD, List.getElem?_map]
  cases es[j]? <;> rfl

theorem evIndexAddr_ren {T : TypeId} {x i v : V} (h : evIndexAddr P s T x i = some v) : evIndexAddr P (s.emb σ pre) T (x.ren σ pre.length) (i.ren σ pre.length) = some (v.ren σ pre.length) := by
  unfold evIndexAddr at h
  split at h
  · rename_i e f es k j e1
    split at h
    · rename_i hc
      cases h
      obtain ⟨c1, c2, c3, c4⟩ := hc
      simp only [ren_list, ren_int, evIndexAddr, e1, List.length_map, getD_map_ren, ren_ref]
      rw [if_pos ⟨c1, c2, c3, c4⟩]
    · cases h
  · rename_i e l k γ n k' j e1
    split at h
    · rename_i γ' U es e2
      split at h
      · rename_i hc
        cases h
        obtain ⟨c1, c2, c3, c4, c5, c6⟩ := hc
        subst c1
        simp only [ren_vec, ren_int, evIndexAddr, e1, emb_get, e2, Option.map_some, Res.ren, List.length_map, getD_map_ren, ren_eptr]
        rw [if_pos ⟨trivial, c2, c3, c4, c5, c6⟩]
      · cases h
    · cases h
  · rename_i n e cs k j e1
    split at h
    · rename_i hc
      cases h
      simp only [ren_ref, ren_int, evIndexAddr, e1, if_pos hc, List.map_drop]
    · cases h
  · rename_i n e l k γ o k' j e1
    split at h
    · rename_i hc
      cases h
      simp only [ren_ptr, ren_int, evIndexAddr, e1, if_pos hc]
    · cases h
  · rename_i n e l k γ i' o k' j e1
    split at h
    · rename_i hc
      cases h
      simp only [ren_eptr, ren_int, evIndexAddr, e1, if_pos hc]
    · cases h
  · cases h

theorem evIndex_ren {T : TypeId} {x i v : V} (h : evIndex P T x i = some v) : evIndex P T (x.ren σ δ) (i.ren σ δ) = some (v.ren σ δ) := by
  unfold evIndex at h
  split at h
  · rename_i n e cs k j e1
    split at h
    · rename_i hc
      simp only [ren_agg, ren_int, evIndex, e1, if_pos hc, partV_ren h]
    · cases h
  · cases h

theorem evConv_ren {S D : TypeId} {x v : V} (h : evConv P S D x = some v) : evConv P S D (x.ren σ δ) = some (v.ren σ δ) := by
  unfold evConv at h
  split at h
  · rename_i e1 e2
    cases h
    simp [evConv, e1, e2]
  · cases h
theorem evUn_ren {op : UnOp} {x v : V} (h : evUn op x = some v) : evUn op (x.ren σ δ) = some (v.ren σ δ) := by
  unfold evUn at h
  split at h <;> first | (cases h; done) | (cases h; simp [evUn])
theorem evNil_ren {x v : V} (h : evNil x = some v) : evNil (x.ren σ δ) = some (v.ren σ δ) := by
  cases x <;> simp [evNil] at h <;> subst h <;> simp [evNil]
theorem evExtract_ren {x v : V} {i : Nat} (h : evExtract x i = some v) : evExtract (x.ren σ δ) i = some (v.ren σ δ) := by
  cases x <;> simp [evExtract] at h
  simp [evExtract, h]
theorem evLen_ren {T : TypeId} {x v : V} (h : evLen P T x = some v) : evLen P T (x.ren σ δ) = some (v.ren σ δ) := by
  unfold evLen at h
  split at h
  · rename_i e f es hu; cases h; simp [evLen, hu]
  · rename_i e l k g n hu; cases h; simp [evLen, hu]
  · rename_i e hu; cases h; simp [evLen, hu]
  · rename_i n e hu; cases h; unfold evLen; rw [hu]; simp
  · cases h
theorem evSlice_ren {T : TypeId} {x v : V} {lo hi mx : Option V} (h : evSlice P s T x lo hi mx = some v) : evSlice P (s.emb σ pre) T (x.ren σ pre.length) (lo.map (V.ren σ pre.length)) (hi.map (V.ren σ pre.length)) (mx.map (V.ren σ pre.length)) = some (v.ren σ pre.length) := by
  unfold evSlice at h
  split at h
  · rename_i e f es k h' e1
    split at h
    · rename_i hc; cases h; simp only [ren_list, Option.map_some, ren_int, Option.map_none, evSlice, e1, List.length_map, if_pos hc, List.map_take]
    · cases h
  · rename_i e f es k l e1
    split at h
    · rename_i hc
      cases h
      have : (es.map (List.map (V.ren σ pre.length))).all (fun x => x.length == P.cellsOf e) = true := by
        rw [List.all_map]; exact hc.2.2.2 ▸ (by congr 1; funext x; simp)
      simp only [ren_list, Option.map_some, ren_int, Option.map_none, evSlice, e1, List.length_map, if_pos (⟨hc.1, hc.2.1, hc.2.2.1, this⟩ : _ ∧ _ ∧ _ ∧ _), List.map_drop]
    · cases h
  · rename_i e f es k l k' h' e1
    split at h
    · rename_i hc
      cases h
      have : (es.map (List.map (V.ren σ pre.length))).all (fun x => x.length == P.cellsOf e) = true := by
        rw [List.all_map]; exact hc.2.2.2.2 ▸ (by congr 1; funext x; simp)
      simp only [ren_list, Option.map_some, ren_int, Option.map_none, evSlice, e1, List.length_map, if_pos (⟨hc.1, hc.2.1, hc.2.2.1, hc.2.2.2.1, this⟩ : _ ∧ _ ∧ _ ∧ _ ∧ _), List.map_drop, List.map_take]
    · cases h
  · rename_i e f es k h' k' m e1
    split at h
    · rename_i hc; cases h; simp only [ren_list, Option.map_some, ren_int, Option.map_none, evSlice, e1, if_pos hc, List.map_nil]
    · cases h
  · rename_i e l k g n k' h' e1
    split at h
    · rename_i hc; cases h; simp only [ren_vec, Option.map_some, ren_int, Option.map_none, evSlice, e1, if_pos hc]
    · cases h
  · rename_i e l k g n k' i e1
    split at h
    · rename_i g' T' es hget
      split at h
      · rename_i hc
        obtain ⟨rfl, h1, h2, h3, h4, h5⟩ := hc
        cases h
        have : (es.map (List.map (V.ren σ pre.length))).all (fun x => x.length == P.cellsOf e) = true := by
          rw [List.all_map]; exact h1 ▸ (by congr 1; funext x; simp)
        simp only [ren_vec, ren_vtl, Option.map_some, ren_int, Option.map_none, evSlice, e1, emb_get, hget, Res.ren]
        rw [if_pos ⟨trivial, this, by simpa using h2, h3, h4, h5⟩]
      · cases h
    · cases h
  · cases h
theorem evMax_ren {x y v : V} (h : evMax x y = some v) : evMax (x.ren σ δ) (y.ren σ δ) = some (v.ren σ δ) := by
  unfold evMax at h
  split at h
  · split at h
    · rename_i hk; cases h; simp [evMax, hk]
    · cases h
  · cases h
theorem evMin_ren {x y v : V} (h : evMin x y = some v) : evMin (x.ren σ δ) (y.ren σ δ) = some (v.ren σ δ) := by
  unfold evMin at h
  split at h
  · split at h
    · rename_i hk; cases h; simp [evMin, hk]
    · cases h
  · cases h
theorem evInt_ren {op : BinOp} {k : IntKind} {a b : Int} {v : V} (h : evInt op k a b = some v) : v.ren σ δ = v := by
  unfold evInt at h
  split at h <;> first
    | (cases h; simp; done)
    | (split at h <;> first | (cases h; done) | (cases h; simp; done))
    | (obtain ⟨r, _, rfl⟩ := Option.map_eq_some_iff.1 h; simp)
theorem plainC_ren : ∀ (cs : List V), plainC (cs.map (V.ren σ δ)) = plainC cs
  | [] => rfl
  | c :: cs => by
    have ih := plainC_ren cs
    cases c <;> simp [plainC, ih]
theorem evSh_ren {op : BinOp} {k : IntKind} {a b : Int} {v : V} (h : evSh op k a b = some v) : v.ren σ δ = v := by
  cases op <;> simp only [evSh] at h
  case shl => split at h <;> cases h; simp
  case shr => split at h <;> cases h; simp
  all_goals cases h
theorem evBin_ren {op : BinOp} {T : TypeId} {x y v : V} (h : evBin P op T x y = some v) : evBin P op T (x.ren σ δ) (y.ren σ δ) = some (v.ren σ δ) := by
  unfold evBin at h
  split at h
  · split at h
    · rename_i hk; simp only [ren_int, evBin, if_pos hk, h, evInt_ren h]
    · rename_i hk; simp only [ren_int, evBin, if_neg hk, h, evSh_ren h]
  · split at h
    · rename_i hk
      have hv : v.ren σ δ = v := by split at h <;> first | (cases h; done) | (cases h; simp)
      rw [hv]
      simp only [ren_bool, evBin, if_pos hk]
      exact h
    · cases h
  · rename_i cs ds
    have he : evEq P T (cs.map (V.ren σ δ)) (ds.map (V.ren σ δ)) = evEq P T cs ds := by unfold evEq; rw [plainC_ren, plainC_ren]
    have hv : v.ren σ δ = v := by
      split at h
      · obtain ⟨r, _, rfl⟩ := Option.map_eq_some_iff.1 h; simp
      · obtain ⟨r, _, rfl⟩ := Option.map_eq_some_iff.1 h; simp
      · cases h
    rw [hv]
    simp only [ren_agg, evBin, he]
    exact h
  · rename_i x' _
    have hi : isNilS (x.ren σ δ) = isNilS x := by
      cases x with
      | list f es => cases es <;> simp [isNilS]
      | vec l k g n => cases n <;> simp [isNilS]
      | _ => simp [isNilS]
    have hb : ∀ y : V, evBin P op T y .nil = if sliceT P T then (match op with
      | .eql => (isNilS y).map V.bool
      | .neq => (isNilS y).map fun b => V.bool !b
      | _ => none) else none := fun y => by cases y <;> rfl
    have hv : v.ren σ δ = v := by
      split at h
      · split at h
        · obtain ⟨r, _, rfl⟩ := Option.map_eq_some_iff.1 h; simp
        · obtain ⟨r, _, rfl⟩ := Option.map_eq_some_iff.1 h; simp
        · cases h
      · cases h
    rw [hv, ren_nil, hb, hi]
    exact h
  · cases h

theorem plain_ren : ∀ {cs : List V} {l : List Value}, plainC cs = some l → cs.map (V.ren σ δ) = cs
  | [], _, _ => rfl
  | c :: cs, l, h => by
    cases c with
    | int k n =>
      simp only [plainC] at h
      split at h
      · rename_i r hr; simp [plain_ren hr]
      · cases h
    | bool b =>
      simp only [plainC] at h
      split at h
      · rename_i r hr; simp [plain_ren hr]
      · cases h
    | _ => simp [plainC] at h
theorem keyV_ren {K : TypeId} (v : V) : keyV P K (v.ren σ δ) = keyV P K v := by
  cases v with
  | agg cs =>
    simp only [ren_agg, keyV, plainC_ren]
    split
    · rename_i l hl; rw [plain_ren hl]
    · rfl
  | _ => simp [keyV]
theorem findV_ren {K : TypeId} {ks : List V} : ∀ (es : List (V × V)) (i : Nat), findV P K ks (es.map fun p => (p.1.ren σ δ, p.2.ren σ δ)) i = findV P K ks es i
  | [], _ => rfl
  | (k, v) :: es, i => by
    simp only [List.map_cons, findV, keyV_ren, findV_ren es]
theorem wholeZ_ren {T : TypeId} {z : V} (h : wholeZ P T = some z) : z.ren σ δ = z := by
  unfold wholeZ at h
  split at h
  · split at h
    · rename_i cs hz; cases h; simp [constL_ren hz]
    · cases h
  · exact constV_ren h
  · cases h
theorem evLookup_ren {T : TypeId} {x k v : V} {ok : Bool} (h : evLookup P s T x k ok = some v) : evLookup P (s.emb σ pre) T (x.ren σ pre.length) (k.ren σ pre.length) ok = some (v.ren σ pre.length) := by
  unfold evLookup at h
  split at h
  · rename_i K E l q g hm
    split at h
    · rename_i g' es hget
      split at h
      · rename_i hc
        obtain ⟨rfl, hT⟩ := hc
        split at h
        · rename_i ks hks
          simp only [ren_mp, evLookup, hm, emb_get, hget, Option.map_some, Res.ren, keyV_ren, hks, findV_ren, if_pos (⟨trivial, hT⟩ : True ∧ _)]
          split at h
          · rename_i hf
            obtain ⟨z, hz, rfl⟩ := Option.map_eq_some_iff.1 h
            simp only [hf, hz, Option.map_some]
            cases ok <;> simp [wholeZ_ren hz]
          · rename_i i hf
            obtain ⟨e, he, rfl⟩ := Option.map_eq_some_iff.1 h
            simp only [hf, List.getElem?_map, he, Option.map_some]
            cases ok <;> simp
          · cases h
        · cases h
      · cases h
    · cases h
  · cases h
theorem evUpd_ren {T : TypeId} {x k v : V} {l q γ : Nat} {es : List (V × V)} (h : evUpd P s T x k v = some (l, q, γ, es)) : evUpd P (s.emb σ pre) T (x.ren σ pre.length) (k.ren σ pre.length) (v.ren σ pre.length) = some (l + pre.length, q, σ γ, es.map fun p => (p.1.ren σ pre.length, p.2.ren σ pre.length)) := by
  unfold evUpd at h
  split at h
  · rename_i K E l q g hm
    split at h
    · rename_i g' es hget
      split at h
      · rename_i hc
        obtain ⟨rfl, hT⟩ := hc
        split at h
        · rename_i ks hks
          simp only [ren_mp, evUpd, hm, emb_get, hget, Option.map_some, Res.ren, keyV_ren, hks, findV_ren, if_pos (⟨trivial, hT⟩ : True ∧ _)]
          split at h
          · rename_i hf
            cases h
            simp [hf]
          · rename_i i hf
            cases h
            simp [hf, List.map_set]
          · cases h
        · cases h
      · cases h
    · cases h
  · cases h

theorem mapM_ren {r : Operand → Option V} : ∀ {l : List Operand} {vs : List V}, l.mapM r = some vs → l.mapM (fun x => (r x).map (V.ren σ δ)) = some (vs.map (V.ren σ δ))
  | [], vs, h => by simp at h; subst h; rfl
  | x :: l, vs, h => by
    simp only [List.mapM_cons, Option.bind_eq_bind, Option.bind_eq_some_iff, Option.pure_def, Option.some.injEq] at h
    obtain ⟨v, h1, us, h2, rfl⟩ := h
    simp [h1, mapM_ren h2]

theorem evP_ren {o : Oper} {r : Operand → Option V} {v : V} (h : evP P o s r = some v) : evP P o (s.emb σ pre) (fun x => (r x).map (V.ren σ pre.length)) = some (v.ren σ pre.length) := by
  unfold evP at h ⊢
  split at h <;> (try simp only [Option.bind_eq_some_iff] at h)
  case h_1 => simp [h]
  case h_2 => simp [h]
  case h_3 => obtain ⟨a, h1, h2⟩ := h; simp [h1, evNil_ren h2]
  case h_4 => obtain ⟨a, h1, b, h2, h3⟩ := h; simp [h1, cellsAt_ren h2, whole_ren h3]
  case h_5 => obtain ⟨a, h1, b, h2, h3⟩ := h; simp [h1, h2, evBin_ren h3]
  case h_6 => obtain ⟨a, h1, h2⟩ := h; simp [h1, evUn_ren h2]
  case h_7 => obtain ⟨a, h1, h2⟩ := h; simp [h1, evConv_ren h2]
  case h_8 => obtain ⟨a, h1, h2⟩ := h; simp [h1, evFieldAddr_ren h2]
  case h_9 => obtain ⟨a, h1, h2⟩ := h; simp [h1, evField_ren h2]
  case h_10 => obtain ⟨a, h1, b, h2, h3⟩ := h; simp [h1, h2, evIndexAddr_ren h3]
  case h_11 => obtain ⟨a, h1, b, h2, h3⟩ := h; simp [h1, h2, evIndex_ren h3]
  case h_12 => obtain ⟨a, h1, h2⟩ := h; simp [h1, evExtract_ren h2]
  case h_13 =>
    split at h
    · rename_i e1 e2
      simp only [Option.bind_eq_some_iff] at h
      obtain ⟨a, h1, h2⟩ := h
      simp [h1, evLen_ren h2]
    · cases h
  case h_14 =>
    split at h
    · simp only [Option.bind_eq_some_iff] at h
      obtain ⟨a, h1, b, h2, h3⟩ := h
      simp [h1, h2, evMax_ren h3]
    · cases h
  case h_15 =>
    split at h
    · simp only [Option.bind_eq_some_iff] at h
      obtain ⟨a, h1, b, h2, h3⟩ := h
      simp [h1, h2, evMin_ren h3]
    · cases h
  case h_16 T x lo hi mx ho =>
    obtain ⟨a, h1, l, h2, u, h3, m, h4, h5⟩ := h
    have key : ∀ (z : Option Operand) (q : Option V), (match z with | none => some none | some y => (r y).map some) = some q → (z = none ∧ q = none) ∨ ∃ y b, z = some y ∧ r y = some b ∧ q = some b := by
      intro z q hz
      cases z with
      | none => cases hz; exact .inl ⟨rfl, rfl⟩
      | some y =>
        obtain ⟨b, hb, rfl⟩ := Option.map_eq_some_iff.1 hz
        exact .inr ⟨y, b, rfl, hb, rfl⟩
    have h6 := evSlice_ren (σ := σ) (pre := pre) h5
    rcases key lo l h2 with ⟨rfl, rfl⟩ | ⟨y1, b1, rfl, q1, rfl⟩ <;> rcases key hi u h3 with ⟨rfl, rfl⟩ | ⟨y2, b2, rfl, q2, rfl⟩ <;> rcases key mx m h4 with ⟨rfl, rfl⟩ | ⟨y3, b3, rfl, q3, rfl⟩ <;> simp_all
  case h_17 => obtain ⟨a, h1, b, h2, h3⟩ := h; simp [h1, h2, evLookup_ren h3]
  case h_18 f first captured ho =>
    obtain ⟨a, h1, b, h2, h3⟩ := h
    cases h3
    simp [mapM_ren h1, mapM_ren h2]
  case h_19 => cases h

end Go.Pg
