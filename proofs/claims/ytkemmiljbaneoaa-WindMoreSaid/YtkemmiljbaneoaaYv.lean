/- Readers: a beach of whose notes the reach is known, a note. No condition. -/
import Derived.Test.YtkemmiljbaneoaaYe
import Derived.SizedLaws
namespace Go.Proofs.Try.Op
open Go Go.Pg Go.ChangeShapes Go.WideShapes Go.ChangeAt Go.RowKit Go.Wind
open Go.Proofs.Ytkemmiljbaneoaa
set_option maxRecDepth 100000
def lenS:Value→Nat
 | .slice _ len _=>len
 | _=>0
theorem rep_len {G:Gh} {b:Bool} {es:List (List V)} {v:Value} (h:RepV G (.list b es) v):lenS v = es.length:=by
 cases h
 rfl
section
variable {H:Type} {enc:TypeId × Value→H} {W:World} {base:Nat} {sp:Nat→Bool} {held:Bool}
theorem slice_reach {fuel:Nat} {t e:TypeId} (ht:Try.prog.underlying t = some (.slice e)) {cs:List Value} {x:DataW H × List MemPlace} (h:DataW.trod enc Try.prog W base sp held fuel t cs = some x) {B:Nat} (hB:∀ w ∈ x.1.weights Try.prog t,w≤B):∃ v,cs = [v]∧lenS v * Try.prog.bytesOf e≤B:=by
 rcases DataW.trod_slice ht h with ⟨rfl,rfl⟩ | ⟨a,len,cap,elems,rest,n,rfl,rfl,rfl,_,_,_,hel,_⟩
 ·exact ⟨_,rfl,by simp [lenS]⟩
 ·refine ⟨_,rfl,?_⟩
  have:=hB ((elems.length + rest.length) * Try.prog.bytesOf e) (by simp [DataW.weights,ht])
  refine Nat.le_trans ?_ this
  exact Nat.mul_le_mul_right _ (by simp only [lenS]; omega)
theorem bytesNote:Try.prog.bytesOf 63 = 16:=by kernel_rfl
theorem arg_beachN {r:Reach} {b0:Nat} {v:Value} {d:DataW H} {ps:List MemPlace} (hval:Value.okWide Try.prog W r b0 27 v) (h:DataW.Trod enc Try.prog W base sp held 27 v d ps) {B:Nat} (hB:∀ w ∈ d.weights Try.prog 27,w≤B) :
  ∃ b:Beach,okB b∧b.notes.length * 16≤B∧RepV (startG W) (.agg (cellsB b)) v:=by
 obtain ⟨fuel,hf⟩:=h
 obtain ⟨b,hb,hr⟩:=read_beach hf
 obtain ⟨xs,m,e1,e2,_,hx,hh⟩:=DataW.trod_struct Try.underlying27 hf
 have hx:xs.length = 9:=hx
 have k8:DataW.trod enc Try.prog W base sp held m 25 ((v.cells.toList.drop 8).take (Try.prog.cellsOf 25)) = xs[8]?:=hh 8 _ rfl
 rw [cells_25,List.getElem?_eq_getElem (by omega)] at k8
 subst e1
 obtain ⟨rfl,rfl⟩:=Prod.mk.inj e2
 simp only [DataW.weights,Try.underlying27] at hB
 obtain ⟨u8,g8,z8⟩:=slice_reach (B:=B) Try.underlying25 k8 fun w hw=>hB w (DataW.weights_mem_each (j:=8) (t:=25) (d:=xs[8].1) rfl (by simp [hx]) w hw)
 rw [bytesNote] at z8
 obtain ⟨cs,rfl,_⟩:=WideShapes.okWide_struct Try.underlying27 hval
 obtain ⟨w,hw,_,hrep⟩:=hr.get (i:=8) (c:=.list false (b.notes.map encP)) rfl
 have e:u8 = w:=by
  have:=List.getElem?_take_of_lt (l:=(Value.cells (.agg cs)).toList.drop 8) (show 0 < 1 by decide)
  rw [g8] at this
  simp only [List.getElem?_cons_zero,List.getElem?_drop,Nat.add_zero] at this
  rw [hw] at this
  exact (Option.some.inj this)
 subst e
 rw [rep_len hrep,List.length_map] at z8
 exact ⟨b,hb,z8,hr.toAgg⟩
set_option maxRecDepth 100000 in
theorem arg_note {r:Reach} {b0:Nat} {v:Value} {d:DataW H} {ps:List MemPlace} (hval:Value.okWide Try.prog W r b0 63 v) (h:DataW.Trod enc Try.prog W base sp held 63 v d ps) :
  ∃ p:Int × Int,(okI p.1∧okI p.2)∧RepV (startG W) (.agg (encP p)) v:=by
 obtain ⟨fuel,hf⟩:=h
 have hl:=trod_len Try.underlying63 hf
 have hc:Try.prog.cellsOf 63 = 2:=by kernel_rfl
 rw [hc] at hl
 obtain ⟨x,hx,wx⟩:=field_int Try.underlying63 hf 0 _ _ _ _ _ _ rfl
 obtain ⟨y,hy,wy⟩:=field_int Try.underlying63 hf 1 _ _ _ _ _ _ rfl
 have e:=row2 hl hx hy
 obtain ⟨cs,rfl,_⟩:=WideShapes.okWide_struct Try.underlying63 hval
 have hr:RepL (startG W) (encP (x,y)) [.int .i64 x,.int .i64 y]:=RepL.cons rfl (.int _ _) (RepL.cons rfl (.int _ _) ⟨rfl,fun i h1=>by simp at h1⟩)
 rw [← e] at hr
 exact ⟨(x,y),⟨wx,wy⟩,hr.toAgg⟩
end
theorem read63:Try.prog.readableRec 63 = true:=by kernel_rfl
theorem in63:63 < Try.prog.types.size:=of_decide_eq_true (by kernel_rfl)
end Go.Proofs.Try.Op
