/- What serves each law: its call is true, its input reads as it did. No condition. -/
import Derived.Test.YtfbbnkaahnpicaaRows
import Derived.Test.YtfbbnkaahnpicaaYb
import Derived.Test.YtfbbnkaahnpicaaY1
import Derived.JoinedOf
import Derived.JoinedAt
namespace Go.Proofs.Try.Op
open Go Go.Pg Go.ChangeShapes Go.WideShapes Go.ChangeAt Go.RowKit
open Go.Proofs.Ytfbbnkaahnpicaa

theorem ownG:ownKnob Try.prog.godebug = none:=by kernel_rfl
theorem laidOut:laidOutB Try.prog = true:=by kernel_rfl

theorem walk_true {f:FuncId} {args:List V} {vals:Array Value} {W:World} {n:Nat} (h:call0 Try.prog (execA Try.prog ann kn n) f args = some (.bool true)) (ha:RepA (startG W) args vals.toList) :
  Calls Try.prog f vals W fun e w'=>e = .returned (.bool true)∧Grown W w':=by
 have q:=callA_ok hP hkn h ⟨[],[]⟩
 refine callsIn_wide.1 (q.2 (startG W) vals W _ (start_inv W) ha fun G' r v w' s' hle hI hr _ hk=>?_)
 obtain ⟨rfl,_⟩:=hk
 cases hr
 exact ⟨rfl,grown_of_inv hle hI⟩

theorem same_of {W W':World} (h:Grown W W') {p:MemPlace} (hp:p.block < W.heap.size):W.sameAt W' p:=by
 have hk:=(World.keptBut_none_iff.1 h.1).2.2
 cases p with
 | cell b o=>exact World.cell?_of_block (w:=W) (hk b hp)
 | map b=>exact hk b hp

theorem stays {H:Type} {enc:TypeId × Value→H} {t:TypeId} (hr:Try.prog.readableRec t = true) (hrow:t < Try.prog.types.size) {W W':World} {v:Value} {d:DataW H} {ps:List MemPlace}
  (h:DataW.Trod enc Try.prog W 0 (fun _=>true) true t v d ps) (hg:Grown W W') (hlt:∀ x ∈ ps,x.block < W.heap.size) {sp:Nat→Bool} (hs:∀ p ∈ ps,sp p.block = true) :
  DataW.Trod enc Try.prog W' 0 sp true t v d ps :=
 WideElems.Trod_stays laidOut hr hrow h (fun x hx=>same_of hg (hlt x hx)) hs

theorem read25:Try.prog.readableRec 25 = true:=by kernel_rfl
theorem in25:25 < Try.prog.types.size:=of_decide_eq_true (by kernel_rfl)
section
variable {H:Type} {enc:TypeId × Value→H} {W:World} {base:Nat} {sp:Nat→Bool} {held:Bool}
set_option maxRecDepth 100000 in
theorem arg_u8 {r:Reach} {b0:Nat} {v:Value} {d:DataW H} {ps:List MemPlace} (hval:Value.okWide Try.prog W r b0 5 v) (h:DataW.Trod enc Try.prog W base sp held 5 v d ps) :
  ∃ n:Nat,n≤255∧RepV (startG W) (.int .u8 n) v:=by
 obtain ⟨fuel,hf⟩:=h
 obtain ⟨n,h1,_,h2⟩:=DataW.trod_int Try.underlying5 hf
 obtain ⟨m,rfl⟩:=WideShapes.okWide_int Try.underlying5 hval
 have h1:[Value.int .u8 m] = [Value.int .u8 n]:=h1
 cases h1
 simp only [Lit.wf,Bool.and_eq_true,decide_eq_true_eq] at h2
 obtain ⟨l1,l2⟩:=h2
 have l1:(0:Int)≤n:=l1
 have l2:n≤(255:Int):=l2
 obtain ⟨k,rfl⟩:∃ k:Nat,n = k:=⟨n.toNat,by omega⟩
 exact ⟨k,by omega,.int _ _⟩
theorem read5:Try.prog.readableRec 5 = true:=by kernel_rfl
theorem in5:5 < Try.prog.types.size:=of_decide_eq_true (by kernel_rfl)
end
end Go.Proofs.Try.Op
