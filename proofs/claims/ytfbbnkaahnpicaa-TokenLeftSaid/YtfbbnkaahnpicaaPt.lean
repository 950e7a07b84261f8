/- Names and levels turned into others: what the operations give turns with them. No program in sight. -/
import Derived.Test.YtfbbnkaahnpicaaPs
namespace Go.Pg
variable {P : Program}

variable {σ σ' : Nat → Nat} {δ : Nat}
theorem renL_eq : ∀ (l : List V), renL σ δ l = l.map (V.ren σ δ)
  | [] => by simp [renL]
  | v :: r => by simp [renL, renL_eq r]
theorem renLL_eq : ∀ (l : List (List V)), renLL σ δ l = l.map (List.map (V.ren σ δ))
  | [] => by simp [renLL]
  | v :: r => by simp [renLL, renL_eq, renLL_eq r]

@[simp] theorem ren_int (k : IntKind) (n : Int) : (V.int k n).ren σ δ = .int k n := by simp [V.ren]
@[simp] theorem ren_bool (b : Bool) : (V.bool b).ren σ δ = .bool b := by simp [V.ren]
@[simp] theorem ren_raw (v : Value) : (V.raw v).ren σ δ = .raw v := by simp [V.ren]
@[simp] theorem ren_agg (cs : List V) : (V.agg cs).ren σ δ = .agg (cs.map (V.ren σ δ)) := by simp [V.ren, renL_eq]
@[simp] theorem ren_tup (cs : List V) : (V.tup cs).ren σ δ = .tup (cs.map (V.ren σ δ)) := by simp [V.ren, renL_eq]
@[simp] theorem ren_list (f : Bool) (es : List (List V)) : (V.list f es).ren σ δ = .list f (es.map (List.map (V.ren σ δ))) := by simp [V.ren, renLL_eq]
@[simp] theorem ren_ref (cs : List V) : (V.ref cs).ren σ δ = .ref (cs.map (V.ren σ δ)) := by simp [V.ren, renL_eq]
@[simp] theorem ren_ptr (l k g off : Nat) : (V.ptr l k g off).ren σ δ = .ptr (l + δ) k (σ g) off := by simp [V.ren]
@[simp] theorem ren_eptr (l k g i off : Nat) : (V.eptr l k g i off).ren σ δ = .eptr (l + δ) k (σ g) i off := by simp [V.ren]
@[simp] theorem ren_vec (l k g n : Nat) : (V.vec l k g n).ren σ δ = .vec (l + δ) k (σ g) n := by simp [V.ren]
@[simp] theorem ren_mp (l k g : Nat) : (V.mp l k g).ren σ δ = .mp (l + δ) k (σ g) := by simp [V.ren]
@[simp] theorem ren_fn (f : FuncId) (xs ys : List V) : (V.fn f xs ys).ren σ δ = .fn f (xs.map (V.ren σ δ)) (ys.map (V.ren σ δ)) := by simp [V.ren, renL_eq]
@[simp] theorem ren_yld (l k g : Nat) : (V.yld l k g).ren σ δ = .yld (l + δ) k (σ g) := by simp [V.ren]
@[simp] theorem ren_nil : V.nil.ren σ δ = .nil := by simp [V.ren]
@[simp] theorem ren_vtl (l k g i n : Nat) : (V.vtl l k g i n).ren σ δ = .vtl (l + δ) k (σ g) i n := by simp [V.ren]

theorem ren_ren {σ' : Nat → Nat} {δ' : Nat} : ∀ (v : V), (v.ren σ δ).ren σ' δ' = v.ren (fun γ => σ' (σ γ)) (δ + δ')
  | .agg cs => by simp only [ren_agg, List.map_map]; congr 1; exact List.map_congr_left fun v _ => ren_ren v
  | .tup cs => by simp only [ren_tup, List.map_map]; congr 1; exact List.map_congr_left fun v _ => ren_ren v
  | .ref cs => by simp only [ren_ref, List.map_map]; congr 1; exact List.map_congr_left fun v _ => ren_ren v
  | .list b es => by
    simp only [ren_list, List.map_map]
    congr 1
    refine List.map_congr_left fun e he => ?_
    have hlt := List.sizeOf_lt_of_mem he
    simp only [Function.comp, List.map_map]
    exact List.map_congr_left fun v hv => by
      have hlt2 := List.sizeOf_lt_of_mem hv
      exact ren_ren v
  | .fn f xs ys => by
    simp only [ren_fn, List.map_map]
    congr 1
    · exact List.map_congr_left fun v _ => ren_ren v
    · exact List.map_congr_left fun v _ => ren_ren v
  | .int k n => by simp
  | .bool b => by simp
  | .raw v => by simp
  | .ptr l k g off => by simp [Nat.add_assoc]
  | .eptr l k g i off => by simp [Nat.add_assoc]
  | .vec l k g n => by simp [Nat.add_assoc]
  | .mp l k g => by simp [Nat.add_assoc]
  | .yld l k g => by simp [Nat.add_assoc]
  | .nil => by simp
  | .vtl l k g i n => by simp [Nat.add_assoc]
decreasing_by all_goals first | (simp_wf; omega) | decreasing_tactic

def Res.ren (σ : Nat → Nat) (δ : Nat) : Res → Res
  | .box cs => .box (cs.map (V.ren σ δ))
  | .vec T es => .vec T (es.map (List.map (V.ren σ δ)))
  | .map es => .map (es.map fun p => (p.1.ren σ δ, p.2.ren σ δ))
  | .loop fr ps asg body N st => .loop (fr.map fun p => (p.1, p.2.1, p.2.2.ren σ δ)) ps asg body N st
  | .dead => .dead
def Level.ren (σ : Nat → Nat) (δ : Nat) (L : Level) : Level := L.map fun p => (p.1, σ p.2.1, p.2.2.ren σ δ)
def Fr.ren (σ : Nat → Nat) (δ : Nat) (fr : Fr) : Fr := fr.map fun p => (p.1, p.2.1, p.2.2.ren σ δ)
def St.emb (σ : Nat → Nat) (pre : List Level) (s : St) : St := ⟨pre ++ s.up.map (Level.ren σ pre.length), s.loc.ren σ pre.length⟩

theorem Fr.get_ren : ∀ (fr : Fr) (k : Nat), (fr.ren σ δ).get k = (fr.get k).map fun p => (p.1, p.2.ren σ δ)
  | [], k => rfl
  | (j, x) :: fr, k => by
    have := Fr.get_ren fr k
    simp only [Fr.ren, List.map_cons, Fr.get] at this ⊢
    split
    · rfl
    · exact this
theorem Level.get_ren : ∀ (L : Level) (k : Nat), (L.ren σ δ).get k = (L.get k).map fun p => (σ p.1, p.2.ren σ δ)
  | [], k => rfl
  | (j, x) :: L, k => by
    have := Level.get_ren L k
    simp only [Level.ren, List.map_cons, Level.get] at this ⊢
    split
    · rfl
    · exact this

variable {pre : List Level} {s : St}
theorem emb_len : (s.emb σ pre).up.length = s.up.length + pre.length := by simp [St.emb, Nat.add_comm]
theorem emb_get (l k : Nat) : (s.emb σ pre).get (l + pre.length) k = (s.get l k).map fun p => (σ p.1, p.2.ren σ pre.length) := by
  unfold St.get
  rw [emb_len]
  by_cases h : l = s.up.length
  · rw [if_pos h, if_pos (by rw [h])]
    exact Level.get_ren _ _
  · rw [if_neg h, if_neg (by omega)]
    simp only [St.emb]
    rw [List.getElem?_append_right (by omega), Nat.add_sub_cancel, List.getElem?_map]
    cases s.up[l]? with
    | none => rfl
    | some L => simp [Level.get_ren]
theorem modify_app {α : Type} (f : α → α) (M : List α) (l : Nat) : ∀ (pre : List α), (pre ++ M).modify (l + pre.length) f = pre ++ M.modify l f
  | [] => rfl
  | p :: pre => by
    have := modify_app f M l pre
    simp only [List.cons_append, List.length_cons, ← Nat.add_assoc, List.modify_succ_cons, this]
theorem emb_put {l k g : Nat} {r : Res} : (s.put l k g r).emb σ pre = (s.emb σ pre).put (l + pre.length) k (σ g) (r.ren σ pre.length) := by
  unfold St.put
  rw [emb_len]
  by_cases h : l = s.up.length
  · rw [if_pos h, if_pos (by rw [h])]
    simp [St.emb, Level.ren, Level.put]
  · rw [if_neg h, if_neg (by omega)]
    simp only [St.emb, St.mk.injEq, and_true]
    rw [modify_app]
    congr 1
    refine List.ext_getElem? fun i => ?_
    simp only [List.getElem?_map, List.getElem?_modify]
    by_cases hi : l = i
    · subst hi
      cases s.up[l]? with
      | none => rfl
      | some L => simp [Level.ren, Level.put]
    · simp [hi]

theorem constV_ren {u : Value} {v : V} (h : constV u = some v) : v.ren σ δ = v := by
  cases u with
  | int k n => simp only [constV, Option.some.injEq] at h; subst h; simp
  | bool b => simp only [constV, Option.some.injEq] at h; subst h; simp
  | agg cs => simp [constV] at h
  | tuple cs => simp [constV] at h
  | slice a n c =>
    unfold constV at h
    split at h <;> simp_all <;> subst h <;> simp
  | _ => simp only [constV, Option.some.injEq] at h; subst h; simp

theorem constL_ren : ∀ {l : List Value} {cs : List V}, constL l = some cs → cs.map (V.ren σ δ) = cs
  | [], cs, h => by simp [constL] at h; subst h; rfl
  | v :: r, cs, h => by
    unfold constL at h
    split at h
    · rename_i x l h1 h2
      cases h
      simp [constV_ren h1, constL_ren h2]
    · cases h

end Go.Pg
