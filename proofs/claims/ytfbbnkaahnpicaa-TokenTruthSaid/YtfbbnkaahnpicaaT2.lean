/- The walk of TokenOut: true. No condition. -/
import Derived.Test.YtfbbnkaahnpicaaLa
import Derived.Test.YtfbbnkaahnpicaaFz
open Go Go.Pg Go.Proofs
namespace Go.Proofs.Try.Op
set_option maxRecDepth 100000
set_option linter.unusedSimpArgs false

@[simp] theorem clT (f:Nat) (L:List (List Line)):L.all ((fun e=>e.all (closedV (f + 2))) ∘ encT) = true:=by
 rw [List.all_eq_true]
 intro t _
 simp [encT,encL]
@[simp] theorem clL (f:Nat) (L:List Line):L.all ((fun e=>e.all (closedV (f + 1))) ∘ encL) = true:=by
 rw [List.all_eq_true]
 intro t _
 simp [encL]
@[simp] theorem clC (f:Nat) (L:List Count):L.all ((fun e=>e.all (closedV (f + 1))) ∘ encC) = true:=by
 rw [List.all_eq_true]
 intro t _
 simp [encC]
@[simp] theorem clI (f:Nat) (L:List Int):L.all ((fun e=>e.all (closedV (f + 1))) ∘ encI) = true:=by
 rw [List.all_eq_true]
 intro t _
 simp [encI]
theorem truthsR_len {b:Book} (hf:faultB b = 0):(∀ t ∈ truthsR b,t.length = b.lines.length)∧(truthsR b).length≤4096:=by
 obtain ⟨h1,h4,hl8,hc4,hc1,hc2,hx1,hx2,hok,hcok,hm⟩:=fault0 hf
 refine ⟨fun t ht=>?_,?_⟩
 ·have:=(truthsR_mem hf).1 ht
  simp only [fitsB,Bool.and_eq_true] at this
  exact ((isRead_iff h1 hok).1 this.1).len
 ·unfold truthsR trGo
  refine Nat.le_trans (List.length_filter_le _ _) ?_
  simp
  omega
theorem asked_eq {b:Book} {fine:Bool} (hf:faultB b = 0):askedP b fine = if fine = true then (if truthsR b = [] then 11 else 0) else 2:=by
 unfold askedP
 rw [check_eq,hf,if_pos rfl]
 cases fine with
 | false=>rfl
 | true =>
  simp only [if_true]
  by_cases h:truthsR b = []
  ·have:possP b = false:=by
    cases hp:possP b with
    | false=>rfl
    | true=>exact absurd h ((poss_R hf).1 hp)
   rw [this,if_pos h]; rfl
  ·rw [(poss_R hf).2 h,if_neg h]; rfl
def wid (f:List Line→Int) (r:Int × Int) (L:List (List Line)):Int × Int:=L.foldl (fun r t=>(minI r.1 (f t),maxI r.2 (f t))) r
def boundsR (f:List Line→Int) (L:List (List Line)):Int × Int:=wid f (1099511627776,-1099511627776) L
end Go.Proofs.Try.Op
