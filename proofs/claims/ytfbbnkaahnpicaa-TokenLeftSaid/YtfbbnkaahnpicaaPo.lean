/- Steps of the walk, as a proof takes them. No program in sight. -/
import Derived.Test.YtfbbnkaahnpicaaPn
namespace Go.Pg
variable {P : Program} {n N : Nat} {ρ : Option Nat} {fr : Fr} {s : St} {K : Exit → Fr → St → Prop}

theorem callable_of {f : FuncId} {fn : Func} {c : Code} (hf : P.funcs[f]? = some fn) (hb : fn.body = some c) (hn : (fn.name == "runtime.NumGoroutine") = false) : Callable P f := by
  intro args w
  simp only [callFunc, Sem.run_bind, run_program, Result.andThen_ok, hf, hn, Bool.false_eq_true, if_false, hb, Option.isNone_some]
  rfl

theorem evalL_cons {o : Oper} {rest : List Oper} {k0 : Fr → St → Prop} (h : ∀ k : Fr → St → Prop, (∀ fr s, evalL P [] rest fr s k0 → k fr s) → stepP P true o fr s k) : evalL P [] (o :: rest) fr s k0 := .inl (h _ fun _ _ h => h)
theorem evalL_consG {gd : Option (Tmp × Bool)} {gs : List (Option (Tmp × Bool))} {o : Oper} {rest : List Oper} {k0 : Fr → St → Prop} (h : ∀ k : Fr → St → Prop, (∀ fr s, evalL P gs rest fr s k0 → k fr s) → match gdV fr gd with
    | some g => stepP P g o fr s k
    | none => False) : evalL P (gd :: gs) (o :: rest) fr s k0 := by
  have := h _ fun _ _ h => h
  unfold evalL
  split
  · rename_i g e; rw [e] at this; exact .inl this
  · rename_i e; rw [e] at this; exact this
theorem evalL_nil {gs : List (Option (Tmp × Bool))} {k0 : Fr → St → Prop} (h : k0 fr s) : evalL P gs [] fr s k0 := by cases gs <;> exact h

def keepF (ks : List Nat) (fr : Fr) : Fr := match ks with
  | [] => []
  | k :: r => match fr.get k with
    | some (c, v) => (k, c, v) :: keepF r fr
    | none => keepF r fr
def keepL (ks : List Nat) (L : Level) : Level := match ks with
  | [] => []
  | k :: r => match L.get k with
    | some (g, v) => (k, g, v) :: keepL r L
    | none => keepL r L

theorem keepF_get : ∀ {ks : List Nat} {k : Nat} {x : Bool × V}, (keepF ks fr).get k = some x → fr.get k = some x
  | [], k, x, h => by simp [keepF, Fr.get] at h
  | j :: ks, k, x, h => by
    unfold keepF at h
    split at h
    · rename_i c v hj
      simp only [Fr.get] at h
      split at h
      · rename_i e; subst e; rw [hj]; exact h
      · exact keepF_get h
    · exact keepF_get h
theorem keepL_get {L : Level} : ∀ {ks : List Nat} {k : Nat} {x : Nat × Res}, (keepL ks L).get k = some x → L.get k = some x
  | [], k, x, h => by simp [keepL] at h
  | j :: ks, k, x, h => by
    unfold keepL at h
    split at h
    · rename_i c v hj
      simp only [Level.get] at h
      split at h
      · rename_i e; subst e; rw [hj]; exact h
      · exact keepL_get h
    · exact keepL_get h

theorem code_keep {c : Code} (ks ls : List Nat) (h : CodeOK P n N ρ c K (keepF ks fr) ⟨s.up, keepL ls s.loc⟩) : CodeOK P n N ρ c K fr s :=
  code_weak (loc' := keepL ls s.loc) (fun _ _ h => keepF_get h) (fun _ _ h => keepL_get h) h

end Go.Pg
