/- A region that draws its order: operations that only compute, calls that only compute and new places may come in any order. No program in sight. -/
import Derived.Test.YtfbbnkaahnpicaaPo
import Derived.OrdersIn
namespace Go.Pg
variable {P : Program} {n N : Nat} {ρ : Option Nat} {G0 G : Gh} {fr fr' : Fr} {s s' : St} {a : Act} {w : World}

def St.sub (s s' : St) : Prop := ∀ l k x, s.get l k = some x → s'.get l k = some x

theorem cellsAt_sub (h : s.sub s') {p : V} {cs : List V} (hp : cellsAt s p = some cs) : cellsAt s' p = some cs := by
  cases p with
  | ptr l k g off =>
    simp only [cellsAt] at hp ⊢
    split at hp
    · rename_i g' ds e; rw [h _ _ _ e]; exact hp
    · cases hp
  | eptr l k g i off =>
    simp only [cellsAt] at hp ⊢
    split at hp
    · rename_i g' T es e; rw [h _ _ _ e]; exact hp
    · cases hp
  | _ => exact hp

theorem evIndexAddr_sub (h : s.sub s') {T : TypeId} {x i v : V} (hp : evIndexAddr P s T x i = some v) : evIndexAddr P s' T x i = some v := by
  unfold evIndexAddr at hp ⊢
  split at hp
  · exact hp
  · split at hp
    · rename_i g' U es e; rw [h _ _ _ e]; exact hp
    · cases hp
  · exact hp
  · exact hp
  · exact hp
  · cases hp

theorem evSlice_sub (h : s.sub s') {T : TypeId} {x v : V} {lo hi mx : Option V} (hp : evSlice P s T x lo hi mx = some v) : evSlice P s' T x lo hi mx = some v := by
  unfold evSlice at hp ⊢
  split at hp
  case h_6 => 
    split at hp
    · rename_i g' U es e; rw [h _ _ _ e]; exact hp
    · cases hp
  all_goals exact hp
theorem evLookup_sub (h : s.sub s') {T : TypeId} {x i v : V} {ok : Bool} (hp : evLookup P s T x i ok = some v) : evLookup P s' T x i ok = some v := by
  unfold evLookup at hp ⊢
  split at hp
  · split at hp
    · rename_i g' es e; rw [h _ _ _ e]; exact hp
    · cases hp
  · cases hp

theorem evP_sub (h : s.sub s') {o : Oper} {r : Operand → Option V} {v : V} (hv : evP P o s r = some v) : evP P o s' r = some v := by
  unfold evP at hv ⊢
  split at hv
  case h_4 T x ho =>
    obtain ⟨p, h1, h2⟩ := Option.bind_eq_some_iff.1 hv
    obtain ⟨cs, h3, h4⟩ := Option.bind_eq_some_iff.1 h2
    simp only [h1, Option.bind_some, cellsAt_sub h h3, h4]
  case h_10 T x i ho =>
    obtain ⟨p, h1, h2⟩ := Option.bind_eq_some_iff.1 hv
    obtain ⟨q, h3, h4⟩ := Option.bind_eq_some_iff.1 h2
    simp only [h1, h3, Option.bind_some, evIndexAddr_sub h h4]
  case h_16 T x lo hi mx ho =>
    obtain ⟨p, h1, h2⟩ := Option.bind_eq_some_iff.1 hv
    obtain ⟨q, h3, h4⟩ := Option.bind_eq_some_iff.1 h2
    obtain ⟨q', h5, h6⟩ := Option.bind_eq_some_iff.1 h4
    obtain ⟨q2, h7, h8⟩ := Option.bind_eq_some_iff.1 h6
    simp only [h1, h3, h5, h7, Option.bind_some, evSlice_sub h h8]
  case h_17 T x i ok ho =>
    obtain ⟨p, h1, h2⟩ := Option.bind_eq_some_iff.1 hv
    obtain ⟨q, h3, h4⟩ := Option.bind_eq_some_iff.1 h2
    simp only [h1, h3, Option.bind_some, evLookup_sub h h4]
  all_goals exact hv

theorem mapM_congr {r r' : Operand → Option V} : ∀ {l : List Operand}, (∀ x ∈ l, r x = r' x) → l.mapM r = l.mapM r'
  | [], _ => rfl
  | x :: l, h => by
    simp only [List.mapM_cons]
    rw [h x (by simp), mapM_congr (l := l) fun y hy => h y (by simp [hy])]

theorem partsM_congr {r r' : Operand → Option V} : ∀ {l : List (Nat × Operand)}, (∀ x ∈ l.map (·.2), r x = r' x) → partsM r l = partsM r' l
  | [], _ => rfl
  | (i, x) :: l, h => by
    simp only [partsM]
    rw [h x (by simp), partsM_congr (l := l) fun y hy => h y (by simp at hy ⊢; exact .inr hy)]

theorem evP_local {o : Oper} {r r' : Operand → Option V} (h : ∀ x ∈ o.op.operands, r x = r' x) : evP P o s r = evP P o s r' := by
  unfold evP
  split <;> rename_i ho <;> (try rw [ho] at h) <;> (try simp only [Op.operands, Call.operands] at h)
  case h_13 =>
    split
    · rename_i x T e1 e2
      have : r x = r' x := h x (by rw [← Array.mem_toList_iff]; simp [e1])
      rw [this]
    · rfl
  case h_14 =>
    split
    · rename_i x y e1
      have hx : r x = r' x := h x (by rw [← Array.mem_toList_iff]; simp [e1])
      have hy : r y = r' y := h y (by rw [← Array.mem_toList_iff]; simp [e1])
      rw [hx, hy]
    · rfl
  case h_15 =>
    split
    · rename_i x y e1
      have hx : r x = r' x := h x (by rw [← Array.mem_toList_iff]; simp [e1])
      have hy : r y = r' y := h y (by rw [← Array.mem_toList_iff]; simp [e1])
      rw [hx, hy]
    · rfl
  case h_16 T x lo hi mx =>
    have hx : r x = r' x := h x (by simp)
    have hl : ∀ y, lo = some y → r y = r' y := fun y e => h y (by simp [e])
    have hh : ∀ y, hi = some y → r y = r' y := fun y e => h y (by simp [e])
    have hm : ∀ y, mx = some y → r y = r' y := fun y e => h y (by simp [e])
    rw [hx]
    cases lo <;> cases hi <;> cases mx <;> simp_all
  case h_18 f first captured =>
    rw [mapM_congr (r := r) (r' := r') (l := first.toList) fun x hx => h x (by simp at hx ⊢; exact .inl hx), mapM_congr (r := r) (r' := r') (l := captured.toList) fun x hx => h x (by simp at hx ⊢; exact .inr hx)]
  all_goals first | rfl | (simp at h; simp [h])

def valD (P : Program) (g : Bool) (o : Oper) (fr : Fr) (s : St) : Option V := match o.op with
  | .pick c a b => match rdG g fr c, rd fr a, rd fr b with
    | some (.bool c), some (ca, .bool a), some (cb, .bool b) => if (g = true → c = true → ca = true) ∧ (g = true → c = false → cb = true) then some (.bool (if c then a else b)) else none
    | _, _, _ => none
  | .build T parts => (partsM (rdG g fr) parts.toList).bind (evBuild P T)
  | .buildSlice T len parts => (partsM (rdG g fr) parts.toList).bind (evBuildSlice P T len)
  | _ => evP P o s (rdG g fr)

def callD (g : Bool) (o : Oper) (fr : Fr) : Option (FuncId × List V) := match o.op with
  | .call { callee := .value f, args, .. } => match rdG g fr f, args.toList.mapM (rdG g fr) with
    | some (.fn fid first cap), some vs => some (fid, (first ++ vs ++ cap).map weakV)
    | _, _ => none
  | _ => none

section
variable (σ : Nat → Nat) (δ : Nat)
mutual
def V.ren : V → V
  | .int k n => .int k n
  | .bool b => .bool b
  | .raw v => .raw v
  | .agg cs => .agg (renL cs)
  | .tup cs => .tup (renL cs)
  | .list f es => .list f (renLL es)
  | .ref cs => .ref (renL cs)
  | .ptr l k g off => .ptr (l + δ) k (σ g) off
  | .eptr l k g i off => .eptr (l + δ) k (σ g) i off
  | .vec l k g len => .vec (l + δ) k (σ g) len
  | .mp l k g => .mp (l + δ) k (σ g)
  | .fn f xs ys => .fn f (renL xs) (renL ys)
  | .yld l k g => .yld (l + δ) k (σ g)
  | .nil => .nil
  | .vtl l k g i n => .vtl (l + δ) k (σ g) i n
def renL : List V → List V
  | [] => []
  | v :: r => V.ren v :: renL r
def renLL : List (List V) → List (List V)
  | [] => []
  | v :: r => renL v :: renLL r
end
end

def made (r : Res) (l k γ : Nat) : V := match r with
  | .vec _ es => .vec l k γ es.length
  | .map _ => .mp l k γ
  | _ => .ptr l k γ 0
structure Mk where
  res : Res
  t : Option V
def Mk.val (r : Mk) (l k γ : Nat) : V := match r.t with
  | none => made r.res l k γ
  | some t => t.ren (fun _ => γ) l

structure OwnT (P : Program) where
  own : Oper → Bool
  ow : FuncId → List V → Tmp → Option Mk
  ok : ∀ f args d r, ow f args d = some r → ∀ (s : St), ACall P f args s fun v s' => ∃ γ, v = r.val s.up.length d γ ∧ s' = s.put s.up.length d γ r.res
def OwnT.nothing (P : Program) : OwnT P := ⟨fun _ => false, fun _ _ _ => none, fun _ _ _ _ h => by cases h⟩

def newD (P : Program) (Ω : OwnT P) (o : Oper) (fr : Fr) : Option Mk := match o.op with
  | .alloc T => (zeroC P T).map fun cs => ⟨.box cs, none⟩
  | .box _ x => match rdG true fr x with
    | some v => if flatOk v = true then some ⟨.box (cellsV v), none⟩ else none
    | none => none
  | .makeMap _ none => some ⟨.map [], none⟩
  | .makeSlice T x y => match rdG true fr x, rdG true fr y, elemT P T with
    | some (.int _ n), some (.int _ m), some (none, e) => match zeroC P e with
      | some z => if 0 ≤ n ∧ m = n ∧ z.length = P.cellsOf e ∧ n.toNat * P.bytesOf e ≤ 140737488355328 ∧ n.toNat ≤ maxLen then some ⟨.vec e (List.replicate n.toNat z), none⟩ else none
      | none => none
    | _, _, _ => none
  | .call { callee := .value _, .. } => if Ω.own o = true then (match callD true o fr, o.dst with
    | some (f, args), some d => Ω.ow f args d
    | _, _ => none) else none
  | _ => none

def PureV (P : Program) (g : Bool) (f : FuncId) (args : List V) (r : V) : Prop := g = true → ∀ s, ACall P f args s fun r' s' => r' = r ∧ s' = s

def stepD (P : Program) (Ω : OwnT P) (g : Bool) (o : Oper) (fr : Fr) (s : St) (k : Fr → St → Prop) : Prop :=
  (∃ v, valD P g o fr s = some v ∧ k (putD fr o.dst g v) s) ∨
  (∃ f args r, callD g o fr = some (f, args) ∧ PureV P g f args r ∧ k (putD fr o.dst g r) s) ∨
  (∃ r d, g = true ∧ o.dst = some d ∧ newD P Ω o fr = some r ∧ ∀ γ, k (fr.put d true (r.val s.up.length d γ)) (s.put s.up.length d γ r.res))

theorem ACall.mono {f : FuncId} {args : List V} {K K' : V → St → Prop} (h : ACall P f args s K) (hk : ∀ r s', K r s' → K' r s') : ACall P f args s K' :=
  ⟨h.1, fun G vals w R hI hA hR => h.2 G vals w R hI hA fun G' r v w' s' h1 h2 h3 h4 h5 => hR G' r v w' s' h1 h2 h3 h4 (hk _ _ h5)⟩

theorem stepP_of_stepD {Ω : OwnT P} {g : Bool} {o : Oper} {k : Fr → St → Prop} (h : stepD P Ω g o fr s k) : stepP P g o fr s k := by
  rcases h with ⟨v, hv, hk⟩ | ⟨f, args, r, hc, hr, hk⟩ | ⟨r, d, rfl, hd, hr, hk⟩
  · unfold valD at hv
    unfold stepP
    split at hv
    · rename_i c x y ho
      simp only [ho]
      split at hv
      · rename_i c' ca va cb vb e1 e2 e3
        split at hv
        · rename_i hcond
          cases hv
          simp only [e1, e2, e3]
          exact ⟨hcond.1, hcond.2, hk⟩
        · cases hv
      · cases hv
    · rename_i T parts ho
      obtain ⟨ps, h1, h2⟩ := Option.bind_eq_some_iff.1 hv
      simp only [ho, h1, h2]; exact hk
    · rename_i T len parts ho
      obtain ⟨ps, h1, h2⟩ := Option.bind_eq_some_iff.1 hv
      simp only [ho, h1, h2]; exact hk
    · have hv0 := hv
      unfold evP at hv
      split at hv <;> rename_i ho <;> first
        | (simp only [ho, hv0]; exact hk)
        | cases hv
  · unfold callD at hc
    unfold stepP
    split at hc
    · rename_i f' args' argTypes' ho
      simp only [ho]
      split at hc
      · rename_i fid first cap vs e1 e2
        cases hc
        simp only [e1, e2]
        exact .inr ⟨r, fun hg => hr hg s, hk⟩
      · cases hc
    · cases hc
  · unfold newD at hr
    unfold stepP
    split at hr
    · rename_i T ho
      obtain ⟨cs, h1, rfl⟩ := Option.map_eq_some_iff.1 hr
      simp only [ho, hd, h1]
      exact ⟨trivial, hk⟩
    · rename_i T x ho
      split at hr
      · rename_i v e1
        split at hr
        · rename_i hf
          cases hr
          simp only [ho, hd, e1]
          exact ⟨trivial, hf, hk⟩
        · cases hr
      · cases hr
    · rename_i T ho
      cases hr
      simp only [ho, hd]
      exact ⟨trivial, hk⟩
    · rename_i T x y ho
      split at hr
      · rename_i k1 n k2 m e e1 e2 e3
        split at hr
        · rename_i z e4
          split at hr
          · rename_i hc
            cases hr
            simp only [ho, hd, e1, e2, e3, e4]
            simp only [Mk.val, made, List.length_replicate] at hk
            exact ⟨trivial, hc.1, hc.2.1, hc.2.2.1, hc.2.2.2.1, hc.2.2.2.2, hk⟩
          · cases hr
        · cases hr
      · cases hr
    · rename_i f0 args0 argTypes0 ho
      split at hr
      · split at hr
        · rename_i f args d' hc hd'
          obtain rfl : d' = d := Option.some.inj (hd'.symm.trans hd)
          unfold callD at hc
          simp only [ho] at hc ⊢
          split at hc
          · rename_i fid first cap vs e1 e2
            cases hc
            simp only [e1, e2]
            refine .inl ⟨rfl, (Ω.ok _ _ _ _ hr s).mono fun v s' hrs => ?_⟩
            obtain ⟨γ, rfl, rfl⟩ := hrs
            rw [hd]
            exact hk γ
          · cases hc
        · cases hr
      · cases hr
    · cases hr

end Go.Pg
