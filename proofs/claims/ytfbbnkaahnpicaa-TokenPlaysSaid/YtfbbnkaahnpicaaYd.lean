/- 'TokenPlays': whatever the book and the truth, true; the input reads as it did. No condition. -/
import Derived.Test.YtfbbnkaahnpicaaRows
import Derived.Test.YtfbbnkaahnpicaaX1
import Derived.Test.YtfbbnkaahnpicaaYb
import Derived.Test.YtfbbnkaahnpicaaY1
import Derived.JoinedOf
import Derived.JoinedAt
namespace Go.Proofs.Try.Op
open Go Go.Pg Go.ChangeShapes Go.WideShapes Go.ChangeAt Go.RowKit
open Go.Proofs.Ytfbbnkaahnpicaa

theorem ownG : ownKnob Try.prog.godebug = none := by kernel_rfl
theorem laidOut : laidOutB Try.prog = true := by kernel_rfl

/-- any call of the open walk whose answer is true -/
theorem walk_true {f : FuncId} {args : List V} {vals : Array Value} {W : World} {n : Nat} (h : call0 Try.prog (execA Try.prog ann kn n) f args = some (.bool true)) (ha : RepA (startG W) args vals.toList) :
    Calls Try.prog f vals W fun e w' => e = .returned (.bool true) ∧ Grown W w' := by
  have q := callA_ok hP hkn h ⟨[], []⟩
  refine callsIn_wide.1 (q.2 (startG W) vals W _ (start_inv W) ha fun G' r v w' s' hle hI hr _ hk => ?_)
  obtain ⟨rfl, _⟩ := hk
  cases hr
  exact ⟨rfl, grown_of_inv hle hI⟩

theorem same_of {W W' : World} (h : Grown W W') {p : MemPlace} (hp : p.block < W.heap.size) : W.sameAt W' p := by
  have hk := (World.keptBut_none_iff.1 h.1).2.2
  cases p with
  | cell b o => exact World.cell?_of_block (w := W) (hk b hp)
  | map b => exact hk b hp

/-- an argument reads as it did -/
theorem stays {H : Type} {enc : TypeId × Value → H} {t : TypeId} (hr : Try.prog.readableRec t = true) (hrow : t < Try.prog.types.size) {W W' : World} {v : Value} {d : DataW H} {ps : List MemPlace}
    (h : DataW.Trod enc Try.prog W 0 (fun _ => true) true t v d ps) (hg : Grown W W') (hlt : ∀ x ∈ ps, x.block < W.heap.size) {sp : Nat → Bool} (hs : ∀ p ∈ ps, sp p.block = true) :
    DataW.Trod enc Try.prog W' 0 sp true t v d ps :=
  WideElems.Trod_stays laidOut hr hrow h (fun x hx => same_of hg (hlt x hx)) hs

theorem read25 : Try.prog.readableRec 25 = true := by kernel_rfl
theorem read22 : Try.prog.readableRec 22 = true := by kernel_rfl
theorem in25 : 25 < Try.prog.types.size := of_decide_eq_true (by kernel_rfl)
theorem in22 : 22 < Try.prog.types.size := of_decide_eq_true (by kernel_rfl)

set_option maxRecDepth 100000 in
theorem lifted16 (os : Os) (started : os.Started) (H : Type) (enc : TypeId × Value → H) :
    ReturnsInHanded {} Try.checked os 16 .any (Rows.tokenPlaysSpec.pre6 enc Try.prog Try.f16 Rows.tokenPlaysRow.domain false) (Rows.tokenPlaysSpec.post enc Try.prog Try.f16 false true false false) := by
  refine returnsInHanded_of_change (C := Try.checked) ownG started (by kernel_rfl) Try.func16
    (ChangeSpec.witness6 (enc := enc) (C := Try.checked) false ⟨#[], #[.agg #[.int .i64 0, .int .i64 0, .int .i64 0, .slice none 0 0, .slice none 0 0], .slice none 0 0], []⟩ 8 (by kernel_rfl) (by kernel_rfl) (by kernel_rfl) (by kernel_rfl)) ?_
  intro W base args ds gs before hval hW _ _
  have hW' := hW
  obtain ⟨p, q, hA0, hV, rfl, hfz, hnd⟩ := hW
  have hA : DataW.TrodAll enc Try.prog W 0 (fun _ => true) true Try.f16.params.toList args.toList ds p := hA0
  rw [Try.params16] at hA
  obtain ⟨v0, v1, d0, d1, p0, p1, rfl, rfl, rfl, h0, h1⟩ := trodAll_two hA
  obtain ⟨rfl, rfl⟩ := trodVars_none hV
  clear hA0
  simp only [List.append_nil] at hW'
  obtain ⟨b, hb, r0⟩ := arg_book (hval 0 25 v0 rfl rfl) h0
  obtain ⟨ts, hts, r1⟩ := arg_lines (hval 1 22 v1 rfl rfl) h1
  refine (walk_true (k16 0 b ts hts) (RepA.cons r0 (RepA.cons r1 ⟨rfl, fun i h1 => by simp at h1⟩))).mono fun e W' ⟨he, hg⟩ => ?_
  subst he
  have l0 : ∀ x ∈ p0, x.block < W.heap.size := fun x hx => hW'.lt x (by simp [hx])
  have l1 : ∀ x ∈ p1, x.block < W.heap.size := fun x hx => hW'.lt x (by simp [hx])
  exact ⟨_, rfl, post_of_same (pa := p0 ++ p1) (pv := []) hW' (fun _ _ _ => (trodAll_cons_mk (shut_bool Try.underlying4 _) trodAll_mk0))
    (fun sp hs => trodAll_mk2 (stays read25 in25 h0 hg l0 fun x hx => hs x (by simp [hx])) (stays read22 in22 h1 hg l1 fun x hx => hs x (by simp [hx]))) (fun _ _ => rfl) (by simp)
    (hg.frame _) hg.2.1 (ok_one (by kernel_rfl) rfl (okWide_bool_mk Try.underlying4 _))⟩

theorem over16 : Rows.TokenPlaysSaid :=
  OpenClaim.holds_of_wide 16 Try.f16 rfl rfl rfl rfl rfl rfl rfl ⟨rfl, rfl, rfl, rfl, rfl⟩ rfl rfl rfl rfl rfl (by kernel_rfl) Try.func16 (by kernel_rfl)
    (of_decide_eq_true (by kernel_rfl)) (by unfold Func.isWrapper; first | (rw [if_pos (by decide +kernel)]; kernel_rfl) | (rw [if_neg (by decide +kernel)]; exact ⟨rfl, rfl⟩))
    (fun os started H enc _ => lifted16 os started H enc)
end Go.Proofs.Try.Op
namespace Go.Proofs.Ytfbbnkaahnpicaa
theorem tokenPlays_holds : Rows.TokenPlaysSaid := Go.Proofs.Try.Op.over16
end Go.Proofs.Ytfbbnkaahnpicaa
