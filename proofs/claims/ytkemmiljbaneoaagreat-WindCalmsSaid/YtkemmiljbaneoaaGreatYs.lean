/- Readers: a spot. No condition. -/
import Derived.Test.YtkemmiljbaneoaaGreatYe
namespace Go.Proofs.Tryz.Op
open Go Go.Pg Go.ChangeShapes Go.WideShapes Go.ChangeAt Go.RowKit Go.Wind
open Go.Proofs.YtkemmiljbaneoaaGreat
section
variable {H:Type} {enc:TypeId × Value→H} {W:World} {base:Nat} {sp:Nat→Bool} {held:Bool}
set_option maxRecDepth 100000 in
theorem arg_spot {r:Reach} {b0:Nat} {v:Value} {d:DataW H} {ps:List MemPlace} (hval:Value.okWide Tryz.prog W r b0 50 v) (h:DataW.Trod enc Tryz.prog W base sp held 50 v d ps) :
  ∃ p:Int × Int,(okI p.1∧okI p.2)∧RepV (startG W) (.agg (encP p)) v:=by
 obtain ⟨fuel,hf⟩:=h
 have hl:=trod_len Tryz.underlying50 hf
 have hc:Tryz.prog.cellsOf 50 = 2:=by kernel_rfl
 rw [hc] at hl
 obtain ⟨x,hx,wx⟩:=field_int Tryz.underlying50 hf 0 _ _ _ _ _ _ rfl
 obtain ⟨y,hy,wy⟩:=field_int Tryz.underlying50 hf 1 _ _ _ _ _ _ rfl
 have e:=row2 hl hx hy
 obtain ⟨cs,rfl,_⟩:=WideShapes.okWide_struct Tryz.underlying50 hval
 have hr:RepL (startG W) (encP (x,y)) [.int .i64 x,.int .i64 y]:=RepL.cons rfl (.int _ _) (RepL.cons rfl (.int _ _) ⟨rfl,fun i h1=>by simp at h1⟩)
 rw [← e] at hr
 exact ⟨(x,y),⟨wx,wy⟩,hr.toAgg⟩
end
theorem read50:Tryz.prog.readableRec 50 = true:=by kernel_rfl
theorem in50:50 < Tryz.prog.types.size:=of_decide_eq_true (by kernel_rfl)
end Go.Proofs.Tryz.Op
