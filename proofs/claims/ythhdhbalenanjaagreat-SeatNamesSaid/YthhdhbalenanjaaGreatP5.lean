/- Names and levels turned into others: what the operations give turns with them. No program in sight. -/
import Derived.Test.YthhdhbalenanjaaGreatP4
namespace Go.Pg
variable {P : Program}

variable {σ σ' : Nat → Nat} {δ : Nat}
theorem renL_eq : ∀ (l : List V), renL σ δ l = l.map (V.ren σ δ)
  | [] => by simp [renL]
  | v :: r => by simp [renL, renL_eq r]
theorem renLL_eq : ∀ (l : List (List V)), renLL σ δ l = l.map (List.map (V.ren σ δ))
  | [] => by simp [renLL]
  | v :: r => by simp [renLL, renL_eq, renLL_eq r]

@[simp] theorem ren_int (k : IntKind) (n : Int) : (V.int k n).ren σ δ = .int k n := by simp [V.ren]
@[simp] theorem ren_bool (b : Bool) : (V.bool b).ren σ δ = .bool b := by simp [V.ren]
@[simp] theorem ren_raw (v : Value) : (V.raw v).ren σ δ = .raw v := by simp [V.ren]
@[simp] theorem ren_agg (cs : List V) : (V.agg cs).ren σ δ = .agg (cs.map (V.ren σ δ)) := by simp [V.ren, renL_eq]
@[simp] theorem ren_tup (cs : List V) : (V.tup cs).ren σ δ = .tup (cs.map (V.ren σ δ)) := by simp [V.ren, renL_eq]
@[simp] theorem ren_list (f : Bool) (es : List (List V)) : (V.list f es).ren σ δ = .list f (es.map (List.map (V.ren σ δ))) := by simp [V.ren, renLL_eq]
@[simp] theorem ren_ref (cs : List V) : (V.ref cs).ren σ δ = .ref (cs.map (V.ren σ δ)) := by simp [V.ren, renL_eq]
@[simp] theorem ren_ptr (l k g off : Nat) : (V.ptr l k g off).ren σ δ = .ptr (l + δ) k (σ g) off := by simp [V.ren]
@[simp] theorem ren_eptr (l k g i off : Nat) : (V.eptr l k g i off).ren σ δ = .eptr (l + δ) k (σ g) i off := by simp [V.ren]
@[simp] theorem ren_vec (l k g n : Nat) : (V.vec l k g n).ren σ δ = .vec (l + δ) k (σ g) n := by simp [V.ren]
@[simp] theorem ren_mp (l k g : Nat) : (V.mp l k g).ren σ δ = .mp (l + δ) k (σ g) := by simp [V.ren]
@[simp] theorem ren_fn (f : FuncId) (xs ys : List V) : (V.fn f xs ys).ren σ δ = .fn f (xs.map (V.ren σ δ)) (ys.map (V.ren σ δ)) := by simp [V.ren, renL_eq]
@[simp] theorem ren_yld (l k g : Nat) : (V.yld l k g).ren σ δ = .yld (l + δ) k (σ g) := by simp [V.ren]
@[simp] theorem ren_nil : V.nil.ren σ δ = .nil := by simp [V.ren]
@[simp] theorem ren_any : V.any.ren σ δ = .any := by simp [V.ren]
@[simp] theorem ren_vtl (l k g i n : Nat) : (V.vtl l k g i n).ren σ δ = .vtl (l + δ) k (σ g) i n := by simp [V.ren]

theorem ren_ren {σ' : Nat → Nat} {δ' : Nat} : ∀ (v : V), (v.ren σ δ).ren σ' δ' = v.ren (fun γ => σ' (σ γ)) (δ + δ')
  | .agg cs => by simp only [ren_agg, List.map_map]; congr 1; exact List.map_congr_left fun v _ => ren_ren v
  | .tup cs => by simp only [ren_tup, List.map_map]; congr 1; exact List.map_congr_left fun v _ => ren_ren v
  | .ref cs => by simp only [ren_ref, List.map_map]; congr 1; exact List.map_congr_left fun v _ => ren_ren v
  | .list b es => by
    simp only [ren_list, List.map_map]
    congr 1
    refine List.map_congr_left fun e he => ?_
    have hlt := List.sizeOf_lt_of_mem he
    simp only [Function.comp, List.map_map]
    exact List.map_congr_left fun v hv => by
      have hlt2 := List.sizeOf_lt_of_mem hv
      exact ren_ren v
  | .fn f xs ys => by
    simp only [ren_fn, List.map_map]
    congr 1
    · exact List.map_congr_left fun v _ => ren_ren v
    · exact List.map_congr_left fun v _ => ren_ren v
  | .int k n => by simp
  | .bool b => by simp
  | .raw v => by simp
  | .ptr l k g off => by simp [Nat.add_assoc]
  | .eptr l k g i off => by simp [Nat.add_assoc]
  | .vec l k g n => by simp [Nat.add_assoc]
  | .mp l k g => by simp [Nat.add_assoc]
  | .yld l k g => by simp [Nat.add_assoc]
  | .nil => by simp
  | .vtl l k g i n => by simp [Nat.add_assoc]
  | .any => by simp
decreasing_by all_goals first | (simp_wf; omega) | decreasing_tactic

def Res.ren (σ : Nat → Nat) (δ : Nat) : Res → Res
  | .box cs => .box (cs.map (V.ren σ δ))
  | .vec T es => .vec T (es.map (List.map (V.ren σ δ)))
  | .map es => .map (es.map fun p => (p.1.ren σ δ, p.2.ren σ δ))
  | .loop fr ps asg body N st => .loop (fr.map fun p => (p.1, p.2.1, p.2.2.ren σ δ)) ps asg body N st
  | .dead => .dead
def Level.ren (σ : Nat → Nat) (δ : Nat) (L : Level) : Level := L.map fun p => (p.1, σ p.2.1, p.2.2.ren σ δ)
def Fr.ren (σ : Nat → Nat) (δ : Nat) (fr : Fr) : Fr := fr.map fun p => (p.1, p.2.1, p.2.2.ren σ δ)
def St.emb (σ : Nat → Nat) (pre : List Level) (s : St) : St := ⟨pre ++ s.up.map (Level.ren σ pre.length), s.loc.ren σ pre.length⟩

theorem Fr.get_ren : ∀ (fr : Fr) (k : Nat), (fr.ren σ δ).get k = (fr.get k).map fun p => (p.1, p.2.ren σ δ)
  | [], k => rfl
  | (j, x) :: fr, k => by
    have := Fr.get_ren fr k
    simp only [Fr.ren, List.map_cons, Fr.get] at this ⊢
    split
    · rfl
    · exact this
theorem Level.get_ren : ∀ (L : Level) (k : Nat), (L.ren σ δ).get k = (L.get k).map fun p => (σ p.1, p.2.ren σ δ)
  | [], k => rfl
  | (j, x) :: L, k => by
    have := Level.get_ren L k
    simp only [Level.ren, List.map_cons, Level.get] at this ⊢
    split
    · rfl
    · exact this

variable {pre : List Level} {s : St}
theorem emb_len : (s.emb σ pre).up.length = s.up.length + pre.length := by simp [St.emb, Nat.add_comm]
theorem emb_get (l k : Nat) : (s.emb σ pre).get (l + pre.length) k = (s.get l k).map fun p => (σ p.1, p.2.ren σ pre.length) := by
  unfold St.get
  rw [emb_len]
  by_cases h : l = s.up.length
  · rw [if_pos h, if_pos (by rw [h])]
    exact Level.get_ren _ _
  · rw [if_neg h, if_neg (by omega)]
    simp only [St.emb]
    rw [List.getElem?_append_right (by omega), Nat.add_sub_cancel, List.getElem?_map]
    cases s.up[l]? with
    | none => rfl
    | some L => simp [Level.get_ren]
theorem modify_app {α : Type} (f : α → α) (M : List α) (l : Nat) : ∀ (pre : List α), (pre ++ M).modify (l + pre.length) f = pre ++ M.modify l f
  | [] => rfl
  | p :: pre => by
    have := modify_app f M l pre
    simp only [List.cons_append, List.length_cons, ← Nat.add_assoc, List.modify_succ_cons, this]
theorem emb_put {l k g : Nat} {r : Res} : (s.put l k g r).emb σ pre = (s.emb σ pre).put (l + pre.length) k (σ g) (r.ren σ pre.length) := by
  unfold St.put
  rw [emb_len]
  by_cases h : l = s.up.length
  · rw [if_pos h, if_pos (by rw [h])]
    simp [St.emb, Level.ren, Level.put]
  · rw [if_neg h, if_neg (by omega)]
    simp only [St.emb, St.mk.injEq, and_true]
    rw [modify_app]
    congr 1
    refine List.ext_getElem? fun i => ?_
    simp only [List.getElem?_map, List.getElem?_modify]
    by_cases hi : l = i
    · subst hi
      cases s.up[l]? with
      | none => rfl
      | some L => simp [Level.ren, Level.put]
    · simp [hi]

theorem constV_ren {u : Value} {v : V} (h : constV u = some v) : v.ren σ δ = v := by
  cases u with
  | int k n => simp only [constV, Option.some.injEq] at h; subst h; simp
  | bool b => simp only [constV, Option.some.injEq] at h; subst h; simp
  | agg cs => simp [constV] at h
  | tuple cs => simp [constV] at h
  | slice a n c =>
    unfold constV at h
    split at h <;> simp_all <;> subst h <;> simp
  | _ => simp only [constV, Option.some.injEq] at h; subst h; simp

theorem constL_ren : ∀ {l : List Value} {cs : List V}, constL l = some cs → cs.map (V.ren σ δ) = cs
  | [], cs, h => by simp [constL] at h; subst h; rfl
  | v :: r, cs, h => by
    unfold constL at h
    split at h
    · rename_i x l h1 h2
      cases h
      simp [constV_ren h1, constL_ren h2]
    · cases h

end Go.Pg
/- What the operations give turns with the names. No program in sight. -/
namespace Go.Pg
variable {P : Program} {σ : Nat → Nat} {δ : Nat} {pre : List Level} {s : St} {fr : Fr} {g : Bool}

theorem rd_ren (x : Operand) : rd (fr.ren σ δ) x = (rd fr x).map fun p => (p.1, p.2.ren σ δ) := by
  cases x with
  | tmp t => exact Fr.get_ren fr t
  | const u =>
    simp only [rd]
    cases h : constV u with
    | none => rfl
    | some v => simp [constV_ren h]
  | func f => simp [rd]
  | global g => rfl
theorem rdG_ren (x : Operand) : rdG g (fr.ren σ δ) x = (rdG g fr x).map (V.ren σ δ) := by
  unfold rdG
  rw [rd_ren]
  cases rd fr x with
  | none => rfl
  | some p =>
    obtain ⟨c, v⟩ := p
    simp only [Option.map_some]
    split <;> rfl

theorem flatOk_ren (v : V) : flatOk (v.ren σ δ) = flatOk v := by cases v <;> simp [flatOk]
theorem cellsV_ren (v : V) : cellsV (v.ren σ δ) = (cellsV v).map (V.ren σ δ) := by cases v <;> simp [cellsV]
theorem weakC_ren (v : V) : weakC (v.ren σ δ) = (weakC v).ren σ δ := by cases v <;> simp [weakC]
theorem weakV_ren (v : V) : weakV (v.ren σ δ) = (weakV v).ren σ δ := by cases v <;> simp [weakV, weakC_ren]

theorem cellsAt_ren {p : V} {cs : List V} (h : cellsAt s p = some cs) : cellsAt (s.emb σ pre) (p.ren σ pre.length) = some (cs.map (V.ren σ pre.length)) := by
  cases p with
  | ref ds => simp only [cellsAt, Option.some.injEq] at h; subst h; simp [cellsAt]
  | ptr l k γ off =>
    simp only [cellsAt] at h
    split at h
    · rename_i γ' ds e
      split at h
      · rename_i eg
        cases h
        simp [cellsAt, emb_get, e, Res.ren, eg, List.map_drop]
      · cases h
    · cases h
  | eptr l k γ i off =>
    simp only [cellsAt] at h
    split at h
    · rename_i γ' T es e
      split at h
      · rename_i eg
        obtain ⟨x, hx, rfl⟩ := Option.map_eq_some_iff.1 h
        simp [cellsAt, emb_get, e, Res.ren, eg, hx, List.map_drop]
      · cases h
    · cases h
  | _ => cases h

theorem whole_ren {T : TypeId} {cs : List V} {v : V} (h : whole P T cs = some v) : whole P T (cs.map (V.ren σ δ)) = some (v.ren σ δ) := by
  unfold whole at h ⊢
  split at h
  · split at h
    · rename_i hc; cases h; simp [hc, List.map_take]
    · cases h
  · split at h
    · rename_i hc; cases h; simp [hc, List.map_take]
    · cases h
  · simp only [List.getElem?_map, h, Option.map_some]
  · cases h

theorem partV_ren {U : TypeId} {cs : List V} {off : Nat} {v : V} (h : partV P U cs off = some v) : partV P U (cs.map (V.ren σ δ)) off = some (v.ren σ δ) := by
  unfold partV at h ⊢
  split at h
  · split at h
    · rename_i hc; cases h; simp [hc, List.map_take, List.map_drop]
    · cases h
  · split at h
    · rename_i hc; cases h; simp [hc, List.map_take, List.map_drop]
    · cases h
  · simp only [List.getElem?_map, h, Option.map_some]
  · cases h

theorem evField_ren {T : TypeId} {x v : V} {f : Nat} (h : evField P T x f = some v) : evField P T (x.ren σ δ) f = some (v.ren σ δ) := by
  unfold evField at h
  split at h
  · rename_i cs U off e
    simp [evField, e, partV_ren h]
  · cases h

theorem evFieldAddr_ren {T : TypeId} {x v : V} {f : Nat} (h : evFieldAddr P T x f = some v) : evFieldAddr P T (x.ren σ δ) f = some (v.ren σ δ) := by
  unfold evFieldAddr at h
  split at h
  · rename_i U off e
    split at h
    · cases h
    · rename_i hz
      split at h <;> first
        | (cases h; done)
        | (cases h; simp [evFieldAddr, e, hz, List.map_drop])
  · cases h

theorem getD_map_ren (es : List (List V)) (j : Nat) : (es.map (List.map (V.ren σ δ))).getD j [] = (es.getD j []).map (V.ren σ δ) := by
  simp only [List.getD_eq_getElem?_getD, List.getElem?_map]
  cases es[j]? <;> rfl

theorem evIndexAddr_ren {T : TypeId} {x i v : V} (h : evIndexAddr P s T x i = some v) : evIndexAddr P (s.emb σ pre) T (x.ren σ pre.length) (i.ren σ pre.length) = some (v.ren σ pre.length) := by
  unfold evIndexAddr at h
  split at h
  · rename_i e f es k j e1
    split at h
    · rename_i hc
      cases h
      obtain ⟨c1, c2, c3, c4⟩ := hc
      simp only [ren_list, ren_int, evIndexAddr, e1, List.length_map, getD_map_ren, ren_ref]
      rw [if_pos ⟨c1, c2, c3, c4⟩]
    · cases h
  · rename_i e l k γ n k' j e1
    split at h
    · rename_i γ' U es e2
      split at h
      · rename_i hc
        cases h
        obtain ⟨c1, c2, c3, c4, c5, c6⟩ := hc
        subst c1
        simp only [ren_vec, ren_int, evIndexAddr, e1, emb_get, e2, Option.map_some, Res.ren, List.length_map, getD_map_ren, ren_eptr]
        rw [if_pos ⟨trivial, c2, c3, c4, c5, c6⟩]
      · cases h
    · cases h
  · rename_i n e cs k j e1
    split at h
    · rename_i hc
      cases h
      simp only [ren_ref, ren_int, evIndexAddr, e1, if_pos hc, List.map_drop]
    · cases h
  · rename_i n e l k γ o k' j e1
    split at h
    · rename_i hc
      cases h
      simp only [ren_ptr, ren_int, evIndexAddr, e1, if_pos hc]
    · cases h
  · rename_i n e l k γ i' o k' j e1
    split at h
    · rename_i hc
      cases h
      simp only [ren_eptr, ren_int, evIndexAddr, e1, if_pos hc]
    · cases h
  · cases h

theorem evIndex_ren {T : TypeId} {x i v : V} (h : evIndex P T x i = some v) : evIndex P T (x.ren σ δ) (i.ren σ δ) = some (v.ren σ δ) := by
  unfold evIndex at h
  split at h
  · rename_i n e cs k j e1
    split at h
    · rename_i hc
      simp only [ren_agg, ren_int, evIndex, e1, if_pos hc, partV_ren h]
    · cases h
  · cases h

theorem evConv_ren {S D : TypeId} {x v : V} (h : evConv P S D x = some v) : evConv P S D (x.ren σ δ) = some (v.ren σ δ) := by
  unfold evConv at h
  split at h
  · rename_i e1 e2
    cases h
    simp [evConv, e1, e2]
  · cases h
theorem evUn_ren {op : UnOp} {x v : V} (h : evUn op x = some v) : evUn op (x.ren σ δ) = some (v.ren σ δ) := by
  unfold evUn at h
  split at h <;> first | (cases h; done) | (cases h; simp [evUn])
theorem evNil_ren {x v : V} (h : evNil x = some v) : evNil (x.ren σ δ) = some (v.ren σ δ) := by
  cases x <;> simp [evNil] at h <;> subst h <;> simp [evNil]
theorem evExtract_ren {x v : V} {i : Nat} (h : evExtract x i = some v) : evExtract (x.ren σ δ) i = some (v.ren σ δ) := by
  cases x <;> simp [evExtract] at h
  simp [evExtract, h]
theorem evLen_ren {T : TypeId} {x v : V} (h : evLen P T x = some v) : evLen P T (x.ren σ δ) = some (v.ren σ δ) := by
  unfold evLen at h
  split at h
  · rename_i e f es hu; cases h; simp [evLen, hu]
  · rename_i e l k g n hu; cases h; simp [evLen, hu]
  · rename_i e hu; cases h; simp [evLen, hu]
  · rename_i n e hu; cases h; unfold evLen; rw [hu]; simp
  · cases h
theorem hiN_ren {n m : Nat} {h : Option V} (e : hiN n h = some m) : hiN n (h.map (V.ren σ δ)) = some m := by
  cases h with
  | none => exact e
  | some a => cases a <;> first | (simp only [Option.map_some, ren_int]; exact e) | (simp [hiN] at e)
theorem evSlice_ren {T : TypeId} {x v : V} {lo hi mx : Option V} (h : evSlice P s T x lo hi mx = some v) : evSlice P (s.emb σ pre) T (x.ren σ pre.length) (lo.map (V.ren σ pre.length)) (hi.map (V.ren σ pre.length)) (mx.map (V.ren σ pre.length)) = some (v.ren σ pre.length) := by
  unfold evSlice at h
  split at h
  · rename_i e f es k h' e1
    split at h
    · rename_i hc; cases h; simp only [ren_list, Option.map_some, ren_int, Option.map_none, evSlice, e1, List.length_map, if_pos hc, List.map_take]
    · cases h
  · rename_i e f es k l e1
    split at h
    · rename_i hc
      cases h
      have : (es.map (List.map (V.ren σ pre.length))).all (fun x => x.length == P.cellsOf e) = true := by
        rw [List.all_map]; exact hc.2.2.2 ▸ (by congr 1; funext x; simp)
      simp only [ren_list, Option.map_some, ren_int, Option.map_none, evSlice, e1, List.length_map, if_pos (⟨hc.1, hc.2.1, hc.2.2.1, this⟩ : _ ∧ _ ∧ _ ∧ _), List.map_drop]
    · cases h
  · rename_i e f es k l k' h' e1
    split at h
    · rename_i hc
      cases h
      have : (es.map (List.map (V.ren σ pre.length))).all (fun x => x.length == P.cellsOf e) = true := by
        rw [List.all_map]; exact hc.2.2.2.2 ▸ (by congr 1; funext x; simp)
      simp only [ren_list, Option.map_some, ren_int, Option.map_none, evSlice, e1, List.length_map, if_pos (⟨hc.1, hc.2.1, hc.2.2.1, hc.2.2.2.1, this⟩ : _ ∧ _ ∧ _ ∧ _ ∧ _), List.map_drop, List.map_take]
    · cases h
  · rename_i e f es k h' k' m e1
    split at h
    · rename_i hc; cases h; simp only [ren_list, Option.map_some, ren_int, Option.map_none, evSlice, e1, if_pos hc, List.map_nil]
    · cases h
  · rename_i e l k g n k' h' e1
    split at h
    · rename_i hc; cases h; simp only [ren_vec, Option.map_some, ren_int, Option.map_none, evSlice, e1, if_pos hc]
    · cases h
  · rename_i e l k g n k' i e1
    split at h
    · rename_i g' T' es hget
      split at h
      · rename_i hc
        obtain ⟨rfl, h1, h2, h3, h4, h5⟩ := hc
        cases h
        have : (es.map (List.map (V.ren σ pre.length))).all (fun x => x.length == P.cellsOf e) = true := by
          rw [List.all_map]; exact h1 ▸ (by congr 1; funext x; simp)
        simp only [ren_vec, ren_vtl, Option.map_some, ren_int, Option.map_none, evSlice, e1, emb_get, hget, Res.ren]
        rw [if_pos ⟨trivial, this, by simpa using h2, h3, h4, h5⟩]
      · cases h
    · cases h
  · rename_i n e l k g o e1
    split at h
    · rename_i g' cs m hget hm
      split at h
      · rename_i hc
        obtain ⟨rfl, h1, h2⟩ := hc
        cases h
        simp only [ren_ptr, ren_vtl, Option.map_none, evSlice, e1, emb_get, hget, Res.ren, Option.map_some, hiN_ren hm]
        rw [if_pos ⟨trivial, h1, by simpa using h2⟩]
      · cases h
    · cases h
  · cases h
theorem evMax_ren {x y v : V} (h : evMax x y = some v) : evMax (x.ren σ δ) (y.ren σ δ) = some (v.ren σ δ) := by
  unfold evMax at h
  split at h
  · split at h
    · rename_i hk; cases h; simp [evMax, hk]
    · cases h
  · cases h
theorem evMin_ren {x y v : V} (h : evMin x y = some v) : evMin (x.ren σ δ) (y.ren σ δ) = some (v.ren σ δ) := by
  unfold evMin at h
  split at h
  · split at h
    · rename_i hk; cases h; simp [evMin, hk]
    · cases h
  · cases h
theorem evInt_ren {op : BinOp} {k : IntKind} {a b : Int} {v : V} (h : evInt op k a b = some v) : v.ren σ δ = v := by
  unfold evInt at h
  split at h <;> first
    | (cases h; simp; done)
    | (split at h <;> first | (cases h; done) | (cases h; simp; done))
    | (obtain ⟨r, _, rfl⟩ := Option.map_eq_some_iff.1 h; simp)
theorem plainC_ren : ∀ (cs : List V), plainC (cs.map (V.ren σ δ)) = plainC cs
  | [] => rfl
  | c :: cs => by
    have ih := plainC_ren cs
    cases c <;> simp [plainC, ih]
theorem evSh_ren {op : BinOp} {k : IntKind} {a b : Int} {v : V} (h : evSh op k a b = some v) : v.ren σ δ = v := by
  cases op <;> simp only [evSh] at h
  case shl => split at h <;> cases h; simp
  case shr => split at h <;> cases h; simp
  all_goals cases h
theorem evBin_ren {op : BinOp} {T : TypeId} {x y v : V} (h : evBin P op T x y = some v) : evBin P op T (x.ren σ δ) (y.ren σ δ) = some (v.ren σ δ) := by
  unfold evBin at h
  split at h
  · split at h
    · rename_i hk; simp only [ren_int, evBin, if_pos hk, h, evInt_ren h]
    · rename_i hk; simp only [ren_int, evBin, if_neg hk, h, evSh_ren h]
  · split at h
    · rename_i hk
      have hv : v.ren σ δ = v := by split at h <;> first | (cases h; done) | (cases h; simp)
      rw [hv]
      simp only [ren_bool, evBin, if_pos hk]
      exact h
    · cases h
  · rename_i cs ds
    have he : evEq P T (cs.map (V.ren σ δ)) (ds.map (V.ren σ δ)) = evEq P T cs ds := by unfold evEq; rw [plainC_ren, plainC_ren]
    have hv : v.ren σ δ = v := by
      split at h
      · obtain ⟨r, _, rfl⟩ := Option.map_eq_some_iff.1 h; simp
      · obtain ⟨r, _, rfl⟩ := Option.map_eq_some_iff.1 h; simp
      · cases h
    rw [hv]
    simp only [ren_agg, evBin, he]
    exact h
  · rename_i x' _
    have hi : isNilS (x.ren σ δ) = isNilS x := by
      cases x with
      | list f es => cases es <;> simp [isNilS]
      | vec l k g n => cases n <;> simp [isNilS]
      | vtl l k g i n => cases n <;> simp [isNilS]
      | _ => simp [isNilS]
    have hb : ∀ y : V, evBin P op T y .nil = if sliceT P T then (match op with
      | .eql => (isNilS y).map V.bool
      | .neq => (isNilS y).map fun b => V.bool !b
      | _ => none) else none := fun y => by cases y <;> rfl
    have hv : v.ren σ δ = v := by
      split at h
      · split at h
        · obtain ⟨r, _, rfl⟩ := Option.map_eq_some_iff.1 h; simp
        · obtain ⟨r, _, rfl⟩ := Option.map_eq_some_iff.1 h; simp
        · cases h
      · cases h
    rw [hv, ren_nil, hb, hi]
    exact h
  · cases h

theorem plain_ren : ∀ {cs : List V} {l : List Value}, plainC cs = some l → cs.map (V.ren σ δ) = cs
  | [], _, _ => rfl
  | c :: cs, l, h => by
    cases c with
    | int k n =>
      simp only [plainC] at h
      split at h
      · rename_i r hr; simp [plain_ren hr]
      · cases h
    | bool b =>
      simp only [plainC] at h
      split at h
      · rename_i r hr; simp [plain_ren hr]
      · cases h
    | _ => simp [plainC] at h
theorem keyV_ren {K : TypeId} (v : V) : keyV P K (v.ren σ δ) = keyV P K v := by
  cases v with
  | agg cs =>
    simp only [ren_agg, keyV, plainC_ren]
    split
    · rename_i l hl; rw [plain_ren hl]
    · rfl
  | _ => simp [keyV]
theorem findV_ren {K : TypeId} {ks : List V} : ∀ (es : List (V × V)) (i : Nat), findV P K ks (es.map fun p => (p.1.ren σ δ, p.2.ren σ δ)) i = findV P K ks es i
  | [], _ => rfl
  | (k, v) :: es, i => by
    simp only [List.map_cons, findV, keyV_ren, findV_ren es]
theorem wholeZ_ren {T : TypeId} {z : V} (h : wholeZ P T = some z) : z.ren σ δ = z := by
  unfold wholeZ at h
  split at h
  · split at h
    · rename_i cs hz; cases h; simp [constL_ren hz]
    · cases h
  · exact constV_ren h
  · cases h
theorem evLookup_ren {T : TypeId} {x k v : V} {ok : Bool} (h : evLookup P s T x k ok = some v) : evLookup P (s.emb σ pre) T (x.ren σ pre.length) (k.ren σ pre.length) ok = some (v.ren σ pre.length) := by
  unfold evLookup at h
  split at h
  · rename_i K E l q g hm
    split at h
    · rename_i g' es hget
      split at h
      · rename_i hc
        obtain ⟨rfl, hT⟩ := hc
        split at h
        · rename_i ks hks
          simp only [ren_mp, evLookup, hm, emb_get, hget, Option.map_some, Res.ren, keyV_ren, hks, findV_ren, if_pos (⟨trivial, hT⟩ : True ∧ _)]
          split at h
          · rename_i hf
            obtain ⟨z, hz, rfl⟩ := Option.map_eq_some_iff.1 h
            simp only [hz, Option.map_some]
            cases ok <;> simp [wholeZ_ren hz]
          · rename_i i hf
            obtain ⟨e, he, rfl⟩ := Option.map_eq_some_iff.1 h
            simp only [List.getElem?_map, he, Option.map_some]
            cases ok <;> simp
          · cases h
        · cases h
      · cases h
    · cases h
  · cases h
theorem evUpd_ren {T : TypeId} {x k v : V} {l q γ : Nat} {es : List (V × V)} (h : evUpd P s T x k v = some (l, q, γ, es)) : evUpd P (s.emb σ pre) T (x.ren σ pre.length) (k.ren σ pre.length) (v.ren σ pre.length) = some (l + pre.length, q, σ γ, es.map fun p => (p.1.ren σ pre.length, p.2.ren σ pre.length)) := by
  unfold evUpd at h
  split at h
  · rename_i K E l q g hm
    split at h
    · rename_i g' es hget
      split at h
      · rename_i hc
        obtain ⟨rfl, hT⟩ := hc
        split at h
        · rename_i ks hks
          simp only [ren_mp, evUpd, hm, emb_get, hget, Option.map_some, Res.ren, keyV_ren, hks, findV_ren, if_pos (⟨trivial, hT⟩ : True ∧ _)]
          split at h
          · rename_i hf
            cases h
            simp
          · rename_i i hf
            cases h
            simp [List.map_set]
          · cases h
        · cases h
      · cases h
    · cases h
  · cases h

theorem mapM_ren {r : Operand → Option V} : ∀ {l : List Operand} {vs : List V}, l.mapM r = some vs → l.mapM (fun x => (r x).map (V.ren σ δ)) = some (vs.map (V.ren σ δ))
  | [], vs, h => by simp at h; subst h; rfl
  | x :: l, vs, h => by
    simp only [List.mapM_cons, Option.bind_eq_bind, Option.bind_eq_some_iff, Option.pure_def, Option.some.injEq] at h
    obtain ⟨v, h1, us, h2, rfl⟩ := h
    simp [h1, mapM_ren h2]

theorem evP_ren {o : Oper} {r : Operand → Option V} {v : V} (h : evP P o s r = some v) : evP P o (s.emb σ pre) (fun x => (r x).map (V.ren σ pre.length)) = some (v.ren σ pre.length) := by
  unfold evP at h ⊢
  split at h <;> (try simp only [Option.bind_eq_some_iff] at h)
  case h_1 => simp [h]
  case h_2 => simp [h]
  case h_3 => obtain ⟨a, h1, h2⟩ := h; simp [h1, evNil_ren h2]
  case h_4 => obtain ⟨a, h1, b, h2, h3⟩ := h; simp [h1, cellsAt_ren h2, whole_ren h3]
  case h_5 => obtain ⟨a, h1, b, h2, h3⟩ := h; simp [h1, h2, evBin_ren h3]
  case h_6 => obtain ⟨a, h1, h2⟩ := h; simp [h1, evUn_ren h2]
  case h_7 => obtain ⟨a, h1, h2⟩ := h; simp [h1, evConv_ren h2]
  case h_8 => obtain ⟨a, h1, h2⟩ := h; simp [h1, evFieldAddr_ren h2]
  case h_9 => obtain ⟨a, h1, h2⟩ := h; simp [h1, evField_ren h2]
  case h_10 => obtain ⟨a, h1, b, h2, h3⟩ := h; simp [h1, h2, evIndexAddr_ren h3]
  case h_11 => obtain ⟨a, h1, b, h2, h3⟩ := h; simp [h1, h2, evIndex_ren h3]
  case h_12 => obtain ⟨a, h1, h2⟩ := h; simp [h1, evExtract_ren h2]
  case h_13 =>
    split at h
    · rename_i e1 e2
      simp only [Option.bind_eq_some_iff] at h
      obtain ⟨a, h1, h2⟩ := h
      simp [h1, evLen_ren h2]
    · cases h
  case h_14 =>
    split at h
    · simp only [Option.bind_eq_some_iff] at h
      obtain ⟨a, h1, b, h2, h3⟩ := h
      simp [h1, h2, evMax_ren h3]
    · cases h
  case h_15 =>
    split at h
    · simp only [Option.bind_eq_some_iff] at h
      obtain ⟨a, h1, b, h2, h3⟩ := h
      simp [h1, h2, evMin_ren h3]
    · cases h
  case h_16 T x lo hi mx ho =>
    obtain ⟨a, h1, l, h2, u, h3, m, h4, h5⟩ := h
    have key : ∀ (z : Option Operand) (q : Option V), (match z with | none => some none | some y => (r y).map some) = some q → (z = none ∧ q = none) ∨ ∃ y b, z = some y ∧ r y = some b ∧ q = some b := by
      intro z q hz
      cases z with
      | none => cases hz; exact .inl ⟨rfl, rfl⟩
      | some y =>
        obtain ⟨b, hb, rfl⟩ := Option.map_eq_some_iff.1 hz
        exact .inr ⟨y, b, rfl, hb, rfl⟩
    have h6 := evSlice_ren (σ := σ) (pre := pre) h5
    rcases key lo l h2 with ⟨rfl, rfl⟩ | ⟨y1, b1, rfl, q1, rfl⟩ <;> rcases key hi u h3 with ⟨rfl, rfl⟩ | ⟨y2, b2, rfl, q2, rfl⟩ <;> rcases key mx m h4 with ⟨rfl, rfl⟩ | ⟨y3, b3, rfl, q3, rfl⟩ <;> simp_all
  case h_17 => obtain ⟨a, h1, b, h2, h3⟩ := h; simp [h1, h2, evLookup_ren h3]
  case h_18 f first captured ho =>
    obtain ⟨a, h1, b, h2, h3⟩ := h
    cases h3
    simp [mapM_ren h1, mapM_ren h2]
  case h_19 => cases h

end Go.Pg
/- What is built turns with the names; so do a call's arguments and results. No program in sight. -/
namespace Go.Pg
variable {P : Program} {σ : Nat → Nat} {δ : Nat} {pre : List Level} {s : St} {fr : Fr} {g : Bool}

theorem zeroC_ren {T : TypeId} {z : List V} (h : zeroC P T = some z) : z.map (V.ren σ δ) = z := by
  unfold zeroC at h
  split at h
  · exact constL_ren h
  · cases h

theorem spliceL_map {α β : Type} (f : α → β) (cs ds : List α) (off : Nat) : spliceL (cs.map f) off (ds.map f) = (spliceL cs off ds).map f := by
  simp [spliceL, List.map_take, List.map_drop]

theorem fillV_ren {place : Nat → Option (Nat × Nat)} : ∀ {ps : List (Nat × V)} {cs ds : List V}, fillV place cs ps = some ds → fillV place (cs.map (V.ren σ δ)) (ps.map fun p => (p.1, p.2.ren σ δ)) = some (ds.map (V.ren σ δ))
  | [], cs, ds, h => by simp [fillV] at h; subst h; rfl
  | (i, v) :: r, cs, ds, h => by
    simp only [fillV] at h
    split at h
    · cases h
    · rename_i off size e
      split at h
      · rename_i hc
        have := fillV_ren h
        simp only [List.map_cons, fillV, e, cellsV_ren, List.length_map]
        rw [if_pos hc, spliceL_map]
        exact this
      · cases h

theorem all_flat_ren (ps : List (Nat × V)) : ((ps.map fun p => (p.1, p.2.ren σ δ)).all fun p => flatOk p.2) = ps.all fun p => flatOk p.2 := by
  rw [List.all_map]
  congr 1
  funext p
  exact flatOk_ren p.2

theorem evBuild_ren {T : TypeId} {ps : List (Nat × V)} {v : V} (h : evBuild P T ps = some v) : evBuild P T (ps.map fun p => (p.1, p.2.ren σ δ)) = some (v.ren σ δ) := by
  unfold evBuild at h ⊢
  split at h
  · rename_i z fs e1 e2
    simp only [all_flat_ren]
    split at h
    · rename_i hc
      obtain ⟨cs, h1, rfl⟩ := Option.map_eq_some_iff.1 h
      have := fillV_ren (σ := σ) (δ := δ) h1
      rw [zeroC_ren e1] at this
      rw [if_pos hc, this]
      simp
    · cases h
  · rename_i z n e e1 e2
    simp only [all_flat_ren]
    split at h
    · rename_i hc
      obtain ⟨cs, h1, rfl⟩ := Option.map_eq_some_iff.1 h
      have := fillV_ren (σ := σ) (δ := δ) h1
      rw [zeroC_ren e1] at this
      rw [if_pos hc, this]
      simp
    · cases h
  · cases h

theorem chunks_map {β : Type} (f : V → V) (size : Nat) : ∀ (n : Nat) (cs : List V), chunks size (cs.map f) n = (chunks size cs n).map (List.map f)
  | 0, _ => rfl
  | n + 1, cs => by
    simp only [chunks, List.map_cons, List.map_take]
    rw [← List.map_drop, chunks_map (β := β) f size n]

theorem evBuildSlice_ren {T : TypeId} {len : Nat} {ps : List (Nat × V)} {v : V} (h : evBuildSlice P T len ps = some v) : evBuildSlice P T len (ps.map fun p => (p.1, p.2.ren σ δ)) = some (v.ren σ δ) := by
  unfold evBuildSlice at h ⊢
  split at h
  · rename_i e e1
    split at h
    · rename_i z e2
      split at h
      · rename_i hc
        obtain ⟨cs, h1, rfl⟩ := Option.map_eq_some_iff.1 h
        have := fillV_ren (σ := σ) (δ := δ) h1
        have hz : (List.replicate len z).flatten.map (V.ren σ δ) = (List.replicate len z).flatten := by
          rw [List.map_flatten, List.map_replicate, zeroC_ren e2]
        rw [hz] at this
        simp only [all_flat_ren]
        rw [if_pos hc, this]
        simp [chunks_map (β := Nat)]
      · cases h
    · cases h
  · cases h

theorem partsM_ren {r : Operand → Option V} : ∀ {l : List (Nat × Operand)} {ps : List (Nat × V)}, partsM r l = some ps → partsM (fun x => (r x).map (V.ren σ δ)) l = some (ps.map fun p => (p.1, p.2.ren σ δ))
  | [], ps, h => by simp [partsM] at h; subst h; rfl
  | (i, x) :: l, ps, h => by
    simp only [partsM] at h
    split at h
    · rename_i v us h1 h2
      cases h
      simp [partsM, h1, partsM_ren h2]
    · cases h

theorem elemsOf_ren {v : V} {es : List (List V)} (h : elemsOf s v = some es) : elemsOf (s.emb σ pre) (v.ren σ pre.length) = some (es.map (List.map (V.ren σ pre.length))) := by
  cases v with
  | list f ds => simp only [elemsOf, Option.some.injEq] at h; subst h; simp [elemsOf]
  | vec l k γ n =>
    simp only [elemsOf] at h
    split at h
    · rename_i γ' T ds e
      split at h
      · rename_i hc
        cases h
        simp [elemsOf, emb_get, e, Res.ren, hc.1, hc.2, List.map_take]
      · cases h
    · cases h
  | vtl l k γ i n =>
    simp only [elemsOf] at h
    split at h
    · rename_i γ' cs e
      split at h
      · rename_i hc
        cases h
        simp [elemsOf, emb_get, e, Res.ren, hc.1, hc.2, List.map_take, List.map_drop, Function.comp_def]
      · cases h
    · cases h
  | nil => simp only [elemsOf, Option.some.injEq] at h; subst h; simp [elemsOf]
  | _ => cases h

theorem rdG_fun : rdG g (fr.ren σ δ) = fun x => (rdG g fr x).map (V.ren σ δ) := by funext x; exact rdG_ren x

theorem valD_ren {o : Oper} {v : V} (h : valD P g o fr s = some v) : valD P g o (fr.ren σ pre.length) (s.emb σ pre) = some (v.ren σ pre.length) := by
  unfold valD at h ⊢
  split at h
  · rename_i c x y ho
    split at h
    · rename_i c' ca va cb vb e1 e2 e3
      split at h
      · rename_i hc
        cases h
        simp only [rdG_ren, rd_ren, e1, e2, e3, Option.map_some, ren_bool]
        rw [if_pos hc]
      · cases h
    · cases h
  · rename_i T parts ho
    obtain ⟨ps, h1, h2⟩ := Option.bind_eq_some_iff.1 h
    rw [rdG_fun, partsM_ren h1]
    exact evBuild_ren h2
  · rename_i T len parts ho
    obtain ⟨ps, h1, h2⟩ := Option.bind_eq_some_iff.1 h
    rw [rdG_fun, partsM_ren h1]
    exact evBuildSlice_ren h2
  · rw [rdG_fun]; exact evP_ren h

def closeX (s : St) : Nat → V → Option V
  | 0, _ => none
  | f + 1, v => match v with
    | .list _ es => some (.list false es)
    | .vec l k g m => if l = s.up.length then (match s.loc.get k with
        | some (g', .vec _ es) => if g' = g ∧ m ≤ es.length then some (.list false (es.take m)) else none
        | _ => none) else some v
    | .ptr l k g off => if l = s.up.length then (match s.loc.get k with
        | some (g', .box cs) => if g' = g then (cs.mapM (closeX s f)).map fun ds => .ref (ds.drop off) else none
        | _ => none) else some v
    | .agg cs => (cs.mapM (closeX s f)).map .agg
    | .tup cs => (cs.mapM (closeX s f)).map .tup
    | .fn g xs ys => match xs.mapM (closeX s f), ys.mapM (closeX s f) with
      | some a, some b => some (.fn g a b)
      | _, _ => none
    | v => some v

theorem mapM_eq_map {α β : Type} {f : α → Option β} {g : α → β} (h : ∀ x y, f x = some y → g x = y) : ∀ {l : List α} {r : List β}, l.mapM f = some r → l.map g = r
  | [], r, e => by simp at e; subst e; rfl
  | x :: l, r, e => by
    simp only [List.mapM_cons, Option.bind_eq_bind, Option.bind_eq_some_iff, Option.pure_def, Option.some.injEq] at e
    obtain ⟨y, h1, ys, h2, rfl⟩ := e
    simp [h x y h1, mapM_eq_map h h2]

theorem closeX_spec : ∀ (f : Nat) {v r : V}, closeX s f v = some r → closeV s f v = r
  | 0, v, r, h => by cases h
  | f + 1, v, r, h => by
    have ih := fun v r => closeX_spec f (v := v) (r := r)
    cases v with
    | list b es => simpa [closeX, closeV] using h
    | vec l k g m =>
      simp only [closeX] at h
      simp only [closeV]
      split at h
      · rename_i hl
        rw [if_pos hl]
        split at h
        · rename_i g' T es e
          split at h
          · rename_i hc; rw [e]; simp only [if_pos hc]; exact Option.some.inj h
          · cases h
        · cases h
      · rename_i hl; rw [if_neg hl]; exact Option.some.inj h
    | ptr l k g off =>
      simp only [closeX] at h
      simp only [closeV]
      split at h
      · rename_i hl
        rw [if_pos hl]
        split at h
        · rename_i g' cs e
          split at h
          · rename_i hc
            obtain ⟨ds, h1, rfl⟩ := Option.map_eq_some_iff.1 h
            rw [e]; simp only [if_pos hc, mapM_eq_map ih h1]
          · cases h
        · cases h
      · rename_i hl; rw [if_neg hl]; exact Option.some.inj h
    | agg cs =>
      obtain ⟨ds, h1, rfl⟩ := Option.map_eq_some_iff.1 h
      simp only [closeV, mapM_eq_map ih h1]
    | tup cs =>
      obtain ⟨ds, h1, rfl⟩ := Option.map_eq_some_iff.1 h
      simp only [closeV, mapM_eq_map ih h1]
    | fn g xs ys =>
      simp only [closeX] at h
      split at h
      · rename_i a b h1 h2
        cases h
        simp only [closeV, mapM_eq_map ih h1, mapM_eq_map ih h2]
      · cases h
    | _ => simpa [closeX, closeV] using h

theorem mapM_map_ren {f f' : V → Option V} (h : ∀ v r, f v = some r → f' (v.ren σ δ) = some (r.ren σ δ)) : ∀ {l r : List V}, l.mapM f = some r → (l.map (V.ren σ δ)).mapM f' = some (r.map (V.ren σ δ))
  | [], r, e => by simp at e; subst e; rfl
  | x :: l, r, e => by
    simp only [List.mapM_cons, Option.bind_eq_bind, Option.bind_eq_some_iff, Option.pure_def, Option.some.injEq] at e
    obtain ⟨y, h1, ys, h2, rfl⟩ := e
    simp [h x y h1, mapM_map_ren h h2]

theorem emb_loc_get (k : Nat) : (s.emb σ pre).loc.get k = (s.loc.get k).map fun p => (σ p.1, p.2.ren σ pre.length) := Level.get_ren _ _

theorem closeX_ren : ∀ (f : Nat) {v r : V}, closeX s f v = some r → closeX (s.emb σ pre) f (v.ren σ pre.length) = some (r.ren σ pre.length)
  | 0, v, r, h => by cases h
  | f + 1, v, r, h => by
    have ih := fun v r => closeX_ren f (v := v) (r := r)
    cases v with
    | list b es => simp only [closeX, Option.some.injEq] at h; subst h; simp [closeX]
    | vec l k g m =>
      simp only [closeX] at h
      split at h
      · rename_i hl
        split at h
        · rename_i g' T es e
          split at h
          · rename_i hc
            cases h
            simp [closeX, emb_len, emb_loc_get, hl, e, Res.ren, hc.1, hc.2, List.map_take]
          · cases h
        · cases h
      · rename_i hl
        cases h
        have : ¬ l + pre.length = s.up.length + pre.length := by omega
        simp [closeX, emb_len, hl]
    | ptr l k g off =>
      simp only [closeX] at h
      split at h
      · rename_i hl
        split at h
        · rename_i g' cs e
          split at h
          · rename_i hc
            obtain ⟨ds, h1, rfl⟩ := Option.map_eq_some_iff.1 h
            have := mapM_map_ren ih h1
            simp [closeX, emb_len, emb_loc_get, hl, e, Res.ren, hc, this, List.map_drop]
          · cases h
        · cases h
      · rename_i hl
        cases h
        simp [closeX, emb_len, hl]
    | agg cs =>
      obtain ⟨ds, h1, rfl⟩ := Option.map_eq_some_iff.1 h
      simp [closeX, mapM_map_ren ih h1]
    | tup cs =>
      obtain ⟨ds, h1, rfl⟩ := Option.map_eq_some_iff.1 h
      simp [closeX, mapM_map_ren ih h1]
    | fn g xs ys =>
      simp only [closeX] at h
      split at h
      · rename_i a b h1 h2
        cases h
        simp [closeX, mapM_map_ren ih h1, mapM_map_ren ih h2]
      · cases h
    | _ => simp only [closeX, Option.some.injEq] at h; subst h; simp [closeX]

/-! ### What stays in the places of callers -/
noncomputable def closeOX (s : St) (v : V) : Option V := match v with
  | .list f es => some (.list f es)
  | .int k n => some (.int k n)
  | .bool b => some (.bool b)
  | v => closeX s 4 v
theorem closeOX_spec {v r : V} (h : closeOX s v = some r) : closeO s v = r := by
  unfold closeOX at h
  unfold closeO
  split at h
  · simpa using h
  · simpa [closeV] using h
  · simpa [closeV] using h
  · rename_i h1 h2 h3
    split
    · rename_i f es; exact absurd rfl (h1 f es)
    · exact closeX_spec 4 h
theorem closeOX_oth {v : V} (h1 : ∀ f es, v ≠ .list f es) (h2 : ∀ k n, v ≠ .int k n) (h3 : ∀ b, v ≠ .bool b) : closeOX s v = closeX s 4 v := by
  unfold closeOX
  split
  · rename_i f es; exact absurd rfl (h1 f es)
  · rename_i k n; exact absurd rfl (h2 k n)
  · rename_i b; exact absurd rfl (h3 b)
  · rfl
theorem closeOX_ren {v r : V} (h : closeOX s v = some r) : closeOX (s.emb σ pre) (v.ren σ pre.length) = some (r.ren σ pre.length) := by
  by_cases h1 : ∃ f es, v = .list f es
  · obtain ⟨f, es, rfl⟩ := h1
    simp only [closeOX, Option.some.injEq] at h; subst h; simp [closeOX]
  by_cases h2 : ∃ k n, v = .int k n
  · obtain ⟨k, n, rfl⟩ := h2
    simp only [closeOX, Option.some.injEq] at h; subst h; simp [closeOX]
  by_cases h3 : ∃ b, v = .bool b
  · obtain ⟨b, rfl⟩ := h3
    simp only [closeOX, Option.some.injEq] at h; subst h; simp [closeOX]
  rw [closeOX_oth (fun f es e => h1 ⟨f, es, e⟩) (fun k n e => h2 ⟨k, n, e⟩) (fun b e => h3 ⟨b, e⟩)] at h
  rw [closeOX_oth (fun f es e => by cases v <;> simp at e; exact h1 ⟨_, _, rfl⟩) (fun k n e => by cases v <;> simp at e; exact h2 ⟨_, _, rfl⟩) (fun b e => by cases v <;> simp at e; exact h3 ⟨_, rfl⟩)]
  exact closeX_ren 4 h
def mapOO {α β : Type} (f : α → Option β) : List α → Option (List β)
  | [] => some []
  | x :: l => match f x with
    | some y => match mapOO f l with
      | some r => some (y :: r)
      | none => none
    | none => none
theorem mapOO_map {α β : Type} {f : α → Option β} {g : α → β} (h : ∀ x y, f x = some y → g x = y) : ∀ {l : List α} {r : List β}, mapOO f l = some r → l.map g = r
  | [], r, e => by cases e; rfl
  | x :: l, r, e => by
    simp only [mapOO] at e
    split at e
    · rename_i y hy
      split at e
      · rename_i q hq; cases e; simp [h _ _ hy, mapOO_map h hq]
      · cases e
    · cases e
theorem mapOO_ren {α β : Type} {f f' : α → Option β} {a : α → α} {b : β → β} (h : ∀ x y, f x = some y → f' (a x) = some (b y)) : ∀ {l : List α} {r : List β}, mapOO f l = some r → mapOO f' (l.map a) = some (r.map b)
  | [], r, e => by cases e; rfl
  | x :: l, r, e => by
    simp only [mapOO] at e
    split at e
    · rename_i y hy
      split at e
      · rename_i q hq; cases e; simp [mapOO, h _ _ hy, mapOO_ren h hq]
      · cases e
    · cases e
noncomputable def closeResX (s : St) (r : Res) : Option Res := match r with
  | .box cs => match mapOO (closeOX s) cs with
    | some ds => some (.box ds)
    | none => none
  | .vec T es => match mapOO (mapOO (closeOX s)) es with
    | some ds => some (.vec T ds)
    | none => none
  | .map es => match mapOO (fun e : V × V => match closeOX s e.1, closeOX s e.2 with
      | some a, some b => some (a, b)
      | _, _ => none) es with
    | some ds => some (.map ds)
    | none => none
  | r => some r
noncomputable def shutRes (s : St) (r : Res) : Res := match closeResX s r with
  | some r' => r'
  | none => r
theorem closeResX_spec {r r' : Res} (h : closeResX s r = some r') : r' = r ∨ r' = closeRes s r := by
  unfold closeResX at h
  split at h
  · split at h
    · rename_i ds hd; cases h; exact .inr (by simp only [closeRes, mapOO_map (fun x y => closeOX_spec) hd])
    · cases h
  · split at h
    · rename_i ds hd; cases h; exact .inr (by simp only [closeRes, mapOO_map (fun x y => mapOO_map (fun x y => closeOX_spec)) hd])
    · cases h
  · split at h
    · rename_i ds hd
      cases h
      refine .inr ?_
      simp only [closeRes]
      rw [mapOO_map (g := fun e => (closeO s e.1, closeO s e.2)) (fun x y h => ?_) hd]
      split at h
      · rename_i a b h1 h2; cases h; rw [closeOX_spec h1, closeOX_spec h2]
      · cases h
    · cases h
  · cases h; exact .inl rfl
theorem closeResX_ren {r r' : Res} (h : closeResX s r = some r') : closeResX (s.emb σ pre) (r.ren σ pre.length) = some (r'.ren σ pre.length) := by
  cases r with
  | box cs =>
    simp only [closeResX] at h
    split at h
    · rename_i ds hd; cases h; simp [closeResX, Res.ren, mapOO_ren (fun x y => closeOX_ren (σ := σ) (pre := pre)) hd]
    · cases h
  | vec T es =>
    simp only [closeResX] at h
    split at h
    · rename_i ds hd; cases h; simp [closeResX, Res.ren, mapOO_ren (fun x y => mapOO_ren (fun x y => closeOX_ren (σ := σ) (pre := pre))) hd]
    · cases h
  | map es =>
    simp only [closeResX] at h
    split at h
    · rename_i ds hd
      cases h
      have := mapOO_ren (f' := fun e : V × V => match closeOX (s.emb σ pre) e.1, closeOX (s.emb σ pre) e.2 with
        | some a, some b => some (a, b)
        | _, _ => none) (a := fun p : V × V => (p.1.ren σ pre.length, p.2.ren σ pre.length)) (b := fun p : V × V => (p.1.ren σ pre.length, p.2.ren σ pre.length)) (fun x y h => by
          split at h
          · rename_i a b h1 h2; cases h; simp [closeOX_ren h1, closeOX_ren h2]
          · cases h) hd
      simp [closeResX, Res.ren, this]
    · cases h
  | loop fr ps asg body N st => simp only [closeResX, Option.some.injEq] at h; subst h; rfl
  | dead => simp only [closeResX, Option.some.injEq] at h; subst h; rfl
theorem shutRes_ren (r : Res) : (shutRes s r).ren σ pre.length = r.ren σ pre.length ∨ (shutRes s r).ren σ pre.length = closeRes (s.emb σ pre) (r.ren σ pre.length) := by
  unfold shutRes
  split
  · rename_i r' h
    rcases closeResX_spec (closeResX_ren (σ := σ) (pre := pre) h) with h' | h'
    · exact .inl h'
    · exact .inr h'
  · exact .inl rfl
noncomputable def shutLv (s : St) (L : Level) : Level := L.map fun p => (p.1, p.2.1, shutRes s p.2.2)
theorem shutLv_get (s : St) : ∀ (L : Level) (k : Nat), (shutLv s L).get k = (L.get k).map fun p => (p.1, shutRes s p.2)
  | [], k => rfl
  | (j, x) :: L, k => by
    have := shutLv_get s L k
    simp only [shutLv, List.map_cons, Level.get] at this ⊢
    split
    · rfl
    · exact this

theorem resOne_ren {rv : ResultVar} {v : V} (h : resOne P fr s rv = some v) : resOne P (fr.ren σ pre.length) (s.emb σ pre) rv = some (v.ren σ pre.length) := by
  cases rv with
  | tmp t =>
    simp only [resOne] at h ⊢
    split at h
    · rename_i e; cases h; simp [Fr.get_ren, e]
    · cases h
  | cell ad T =>
    simp only [resOne] at h ⊢
    split at h
    · rename_i p e
      obtain ⟨cs, h1, h2⟩ := Option.bind_eq_some_iff.1 h
      simp [Fr.get_ren, e, cellsAt_ren h1, whole_ren h2]
    · cases h
theorem resV_ren {rs : List ResultVar} {v : V} (h : resV P rs fr s = some v) : resV P rs (fr.ren σ pre.length) (s.emb σ pre) = some (v.ren σ pre.length) := by
  have key : ∀ {rs : List ResultVar} {vs : List V}, rs.mapM (resOne P fr s) = some vs → rs.mapM (resOne P (fr.ren σ pre.length) (s.emb σ pre)) = some (vs.map (V.ren σ pre.length)) := by
    intro rs
    induction rs with
    | nil => intro vs e; simp at e; subst e; rfl
    | cons x l ih =>
      intro vs e
      simp only [List.mapM_cons, Option.bind_eq_bind, Option.bind_eq_some_iff, Option.pure_def, Option.some.injEq] at e
      obtain ⟨y, h1, ys, h2, rfl⟩ := e
      simp [resOne_ren h1, ih h2]
  unfold resV at h ⊢
  split at h
  · rename_i x e; cases h; rw [key e]; rfl
  · rename_i vs hne e
    cases h
    rw [key e]
    cases vs with
    | nil => simp
    | cons a r =>
      cases r with
      | nil => exact absurd rfl (hne a)
      | cons b r => simp
  · cases h

theorem argFr_ren : ∀ (i : Nat) (vs : List V), argFr i (vs.map (V.ren σ δ)) = (argFr i vs).ren σ δ
  | _, [] => rfl
  | i, v :: vs => by simp [argFr, Fr.ren, argFr_ren (i + 1) vs]
end Go.Pg
