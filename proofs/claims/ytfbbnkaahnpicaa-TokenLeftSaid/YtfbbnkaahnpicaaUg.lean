/- A row that is laid anew, and one more element. No program in sight. -/
import Derived.Test.YtfbbnkaahnpicaaSx
import Derived.Test.YtfbbnkaahnpicaaGt
open Go Go.Pg Go.Proofs
namespace Go.Pg
variable {P : Program} {fr : Fr} {s : St}
@[simp] theorem adV_new (e d c : Nat) (ys : List (List V)) (h : appOK P e 0 ys = true) : adV P e d c fr s (.list true []) ys = some (⟨c + 1, (d, true, .vec s.up.length d c ys.length) :: fr, s.put s.up.length d c (.vec e ys)⟩, [(s.up.length, d), (s.up.length, d + apK)]) := by
  unfold adV
  simp [newE, h]
@[simp] theorem adV_vec (e d c l q γ n : Nat) (ys : List (List V)) : adV P e d c fr s (.vec l q γ n) ys = wp [(l, q), (l, q + apK)] (apW P e d c fr s l q γ n ys (s.get l q)) := rfl
@[simp] theorem evNil_eptr (l k g i o : Nat) : evNil (.eptr l k g i o) = some (.eptr l k g i o) := rfl
end Go.Pg
