/- Reading a list of rows of three ints out of the start's heap: what is read is what the open walk is handed. No program in sight. -/
import Derived.Test.YtfbbnkaahnpicaaQb
import Derived.Carry
import Derived.Test.YtfbbnkaahnpicaaW
import Derived.WalkKit
import Derived.ProofKit
import Derived.OpenShut
namespace Go.Pg
open Go.RowKit

theorem pick {α:Type} {n:Nat} {p:Nat→α→Prop} (h:∀ i,i < n→∃ x,p i x):∃ L:List α,L.length = n∧∀ i (hi:i < L.length),p i L[i]:=by
 induction n with
 | zero=>exact ⟨[],rfl,fun i hi=>by simp at hi⟩
 | succ n ih =>
  obtain ⟨L,hl,hL⟩:=ih fun i hi=>h i (by omega)
  obtain ⟨x,hx⟩:=h n (by omega)
  refine ⟨L ++ [x],by simp [hl],fun i hi=>?_⟩
  by_cases he:i < L.length
  ·rw [List.getElem_append_left he]; exact hL i he
  ·have:i = n:=by simp at hi; omega
   subst this
   simp [← hl] at hx ⊢
   exact hx

theorem add_block (a:Addr) (m:Nat):(a.add m).block = a.block:=by unfold Addr.add; split <;> rfl
theorem add_off (a:Addr) (m:Nat):(a.add m).off = a.off + m:=by unfold Addr.add; split <;> simp_all
theorem add_add (a:Addr) (m k:Nat):(a.add m).add k = a.add (m + k):=by
 unfold Addr.add
 by_cases h1:m = 0 <;> by_cases h2:k = 0 <;> simp [h1,h2,Nat.add_assoc]
theorem cell_of {W:World} {a:Addr} {m:Nat} {v:Value} {arr:Array Value} {T:TypeId} {fz:Nat × Nat} (h:W.cell? (a.add m) = some v) (hh:W.heap[a.block]? = some (.cells arr T fz)):arr[a.off + m]? = some v:=by
 unfold World.cell? at h
 rw [add_block,hh,add_off] at h
 simp only at h
 split at h
 ·cases h
 ·exact h

def okI3 (l:Int × Int × Int):Prop:=(Lit.int .i64 l.1).wf = true∧(Lit.int .i64 l.2.1).wf = true∧(Lit.int .i64 l.2.2).wf = true
def enc3 (l:Int × Int × Int):List V:=[.int .i64 l.1,.int .i64 l.2.1,.int .i64 l.2.2]
def val3 (l:Int × Int × Int):List Value:=[.int .i64 l.1,.int .i64 l.2.1,.int .i64 l.2.2]

section
variable {H:Type} {enc:TypeId × Value→H} {P:Program} {W:World} {base:Nat} {sp:Nat→Bool} {held:Bool} {fuel:Nat}

structure Three (enc:TypeId × Value→H) (P:Program) (W:World) (base:Nat) (sp:Nat→Bool) (held:Bool) (e:TypeId):Prop where
 c:P.cellsOf e = 3
 r:∀ {fuel:Nat} {cs:List Value} {x:DataW H × List MemPlace},DataW.trod enc P W base sp held fuel e cs = some x→∃ l,okI3 l∧cs = val3 l

theorem trod_field {t:TypeId} {fs:Array Field} {cs:List Value} {x:DataW H × List MemPlace} (hu:P.underlying t = some (.struct fs)) (h:DataW.trod enc P W base sp held fuel t cs = some x) (i:Nat) (f:Field) (hf:fs[i]? = some f) :
  ∃ n y,DataW.trod enc P W base sp held n f.type ((cs.drop f.offset).take (P.cellsOf f.type)) = some y:=by
 obtain ⟨xs,n,rfl,rfl,hl,hx,hh⟩:=DataW.trod_struct hu h
 have hi:i < fs.size:=(Array.getElem?_eq_some_iff.1 hf).1
 exact ⟨n,xs[i],by rw [hh i f hf,List.getElem?_eq_getElem]⟩

theorem trod_len {t:TypeId} {fs:Array Field} {cs:List Value} {x:DataW H × List MemPlace} (hu:P.underlying t = some (.struct fs)) (h:DataW.trod enc P W base sp held fuel t cs = some x):cs.length = P.cellsOf t:=by
 obtain ⟨_,_,_,_,hl,_⟩:=DataW.trod_struct hu h
 exact hl

theorem list3 {t e:TypeId} (ht:P.underlying t = some (.slice e)) (he:Three enc P W base sp held e) {cs:List Value} {x:DataW H × List MemPlace} (h:DataW.trod enc P W base sp held fuel t cs = some x) :
  ∃ (L:List (Int × Int × Int)) (v:Value),cs = [v]∧(∀ l ∈ L,okI3 l)∧RepV (startG W) (.list false (L.map enc3)) v:=by
 rcases DataW.trod_slice ht h with ⟨rfl,_⟩ | ⟨a,len,cap,elems,rest,n,rfl,rfl,_,hb,hlc,hcm,hel,hr,_,_⟩
 ·refine ⟨[],.slice none 0 0,rfl,by simp,?_⟩
  exact RepV.list false [] none 0 0 0 0 #[] 0 (0,0) (fun _ _=>undef) (by simp) (by simp) (by simp) (by simp) (by simp) (by simp)
 ·rw [he.c] at hr
  obtain ⟨L,hL,hp⟩:=pick (n:=len) (p:=fun i l=>okI3 l∧W.cells? base (a.add (i * 3)) 3 = some (val3 l)) (fun i hi=>by
   have q:=hr i hi
   rw [List.getElem?_eq_getElem (by omega)] at q
   obtain ⟨cs',h1,h2⟩:=Option.bind_eq_some_iff.1 q
   obtain ⟨l,k1,rfl⟩:=he.r h2
   exact ⟨l,k1,h1⟩)
  have hcell:∀ i (hi:i < L.length) j,j < 3→W.cell? (a.add (i * 3 + j)) = (val3 L[i])[j]?:=fun i hi j hj=>by
   have:=(World.cells?_some (hp i hi).2).2.2 j hj
   rwa [add_add] at this
  refine ⟨L,_,rfl,fun l hl=>by obtain ⟨i,hi,rfl⟩:=List.getElem_of_mem hl; exact (hp i hi).1,?_⟩
  have hlen:len = (L.map enc3).length:=by simp [hL]
  rw [hlen]
  by_cases h0:L = []
  ·subst h0
   exact RepV.list false [] (some a) cap 0 0 0 #[] 0 (0,0) (fun _ _=>undef) (by simp) (by simp) (by simp) (by simp) (by simp) (by simp)
  ·have hpos:0 < L.length:=List.length_pos_iff.2 h0
   have hc0:=hcell 0 hpos 0 (by omega)
   obtain ⟨arr,T,fz,hheap,hspot⟩:∃ arr T fz,W.heap[a.block]? = some (.cells arr T fz)∧a.spot = none:=by
    unfold World.cell? at hc0
    simp only [Addr.add,Nat.zero_mul,Nat.add_zero,if_true] at hc0
    split at hc0
    ·rename_i c T fz hh
     refine ⟨c,T,fz,hh,?_⟩
     cases hs:a.spot with
     | none=>rfl
     | some _=>simp [hs,val3] at hc0
    ·simp [val3] at hc0
   refine RepV.list false (L.map enc3) (some a) cap a.block a.off 3 arr T fz (fun i j=>((L[i]?.bind fun l=>(val3 l)[j]?)).getD undef) (by simpa [hL] using hlc) (by simp) ?_ ?_ ?_ ?_
   ·intro _
    refine ⟨?_,hheap⟩
    rw [← hspot]
   ·intro i hi; simp [enc3]
   ·intro i hi j hj
    simp at hi
    simp [enc3] at hj
    have hq:=hcell i hi j hj
    refine ⟨?_,?_⟩
    ·simp only [List.getElem?_eq_getElem hi,Option.bind_some]
     rw [Nat.add_assoc]
     match j,hj with
     | 0,_=>exact cell_of hq hheap
     | 1,_=>exact cell_of hq hheap
     | 2,_=>exact cell_of hq hheap
    ·match j,hj with
     | 0,_=>simp [enc3,V.isCell]
     | 1,_=>simp [enc3,V.isCell]
     | 2,_=>simp [enc3,V.isCell]
   ·intro i hi j hj
    simp at hi
    simp [enc3] at hj
    simp only [List.getElem?_eq_getElem hi,Option.bind_some]
    match j,hj with
    | 0,_=>simpa [enc3,val3] using RepV.int _ _
    | 1,_=>simpa [enc3,val3] using RepV.int _ _
    | 2,_=>simpa [enc3,val3] using RepV.int _ _
end
end Go.Pg
/- What a reader of the row's data finds: a book, a truth. No condition. -/
namespace Go.Proofs.Try.Op
open Go Go.Pg Go.RowKit
section
variable {H:Type} {enc:TypeId × Value→H} {W:World} {base:Nat} {sp:Nat→Bool} {held:Bool} {fuel:Nat}

theorem row3 {cs:List Value} {a b c:Int} (hl:cs.length = 3) (ha:(cs.drop 0).take 1 = [.int .i64 a]) (hb:(cs.drop 1).take 1 = [.int .i64 b]) (hc:(cs.drop 2).take 1 = [.int .i64 c]):cs = val3 (a,b,c):=by
 match cs,hl with
 | [x,y,z],_ =>
  simp at ha hb hc
  subst ha hb hc
  rfl
theorem row3' {cs:List Value} {a b c:Int} (hl:cs.length = 3) (ha:(cs.drop 0).take 1 = [.int .i64 a]) (hb:(((cs.drop 1).take 2).drop 0).take 1 = [.int .i64 b]) (hc:(((cs.drop 1).take 2).drop 1).take 1 = [.int .i64 c]):cs = val3 (a,b,c):=by
 match cs,hl with
 | [x,y,z],_ =>
  simp at ha hb hc
  subst ha hb hc
  rfl
theorem row5 {cs:List Value} {a b c:Int} {v w:Value} (hl:cs.length = 5) (ha:(cs.drop 0).take 1 = [.int .i64 a]) (hb:(cs.drop 1).take 1 = [.int .i64 b]) (hc:(cs.drop 2).take 1 = [.int .i64 c]) (hd:(cs.drop 3).take 1 = [v]) (he:(cs.drop 4).take 1 = [w]) :
  cs = [.int .i64 a,.int .i64 b,.int .i64 c,v,w]:=by
 match cs,hl with
 | [x,y,z,p,q],_ =>
  simp at ha hb hc hd he
  subst ha hb hc hd he
  rfl

theorem field_int {t:TypeId} {fs:Array Field} {cs:List Value} {x:DataW H × List MemPlace} (hu:Try.prog.underlying t = some (.struct fs)) (h:DataW.trod enc Try.prog W base sp held fuel t cs = some x) (i o:Nat) (nm:String) (em:Bool) (tg pk:String) (bo:Nat) (hf:fs[i]? = some ⟨nm,3,o,em,tg,pk,bo⟩) :
  ∃ n,(cs.drop o).take 1 = [.int .i64 n]∧(Lit.int .i64 n).wf = true:=by
 obtain ⟨m,y,hy⟩:=trod_field hu h i _ hf
 have hy:DataW.trod enc Try.prog W base sp held m 3 ((cs.drop o).take (Try.prog.cellsOf 3)) = some y:=hy
 rw [cells_3] at hy
 obtain ⟨n,h1,_,h2⟩:=DataW.trod_int Try.underlying3 hy
 exact ⟨n,h1,h2⟩

theorem three75:Three enc Try.prog W base sp held 75 where
 c:=by kernel_rfl
 r:=by
  intro fuel cs x h
  have hl:=trod_len Try.underlying75 h
  rw [cells_75] at hl
  obtain ⟨a,ha,wa⟩:=field_int Try.underlying75 h 0 _ _ _ _ _ _ rfl
  obtain ⟨b,hb,wb⟩:=field_int Try.underlying75 h 1 _ _ _ _ _ _ rfl
  obtain ⟨c,hc,wc⟩:=field_int Try.underlying75 h 2 _ _ _ _ _ _ rfl
  exact ⟨(a,b,c),⟨wa,wb,wc⟩,row3 hl ha hb hc⟩

theorem three78:Three enc Try.prog W base sp held 78 where
 c:=by kernel_rfl
 r:=by
  intro fuel cs x h
  have hl:=trod_len Try.underlying78 h
  rw [cells_78] at hl
  obtain ⟨a,ha,wa⟩:=field_int Try.underlying78 h 0 _ _ _ _ _ _ rfl
  obtain ⟨m,y,hy⟩:=trod_field Try.underlying78 h 1 _ rfl
  have hy:DataW.trod enc Try.prog W base sp held m 50 ((cs.drop 1).take (Try.prog.cellsOf 50)) = some y:=hy
  rw [cells_50] at hy
  obtain ⟨b,hb,wb⟩:=field_int Try.underlying50 hy 0 _ _ _ _ _ _ rfl
  obtain ⟨c,hc,wc⟩:=field_int Try.underlying50 hy 1 _ _ _ _ _ _ rfl
  exact ⟨(a,b,c),⟨wa,wb,wc⟩,row3' hl ha hb hc⟩

theorem okI_of_wf {n:Int} (h:(Lit.int .i64 n).wf = true):okI n:=by
 simp only [Lit.wf,Bool.and_eq_true,decide_eq_true_eq] at h
 obtain ⟨h1,h2⟩:=h
 have h1:(-9223372036854775808:Int)≤n:=h1
 have h2:n≤(9223372036854775807:Int):=h2
 exact ⟨h1,by omega⟩

theorem read_lines {cs:List Value} {x:DataW H × List MemPlace} (h:DataW.trod enc Try.prog W base sp held fuel 22 cs = some x) :
  ∃ (ts:List Line) (v:Value),cs = [v]∧(∀ t ∈ ts,okL t)∧RepV (startG W) (.list false (ts.map encL)) v:=by
 obtain ⟨L,v,h1,h2,h3⟩:=list3 Try.underlying22 three75 h
 refine ⟨L.map fun l=>⟨l.1,l.2.1,l.2.2⟩,v,h1,?_,?_⟩
 ·intro t ht
  obtain ⟨l,hl,rfl⟩:=List.mem_map.1 ht
  obtain ⟨w1,w2,w3⟩:=h2 l hl
  exact ⟨okI_of_wf w1,okI_of_wf w2,okI_of_wf w3⟩
 ·rw [List.map_map]
  exact h3

theorem read_counts {cs:List Value} {x:DataW H × List MemPlace} (h:DataW.trod enc Try.prog W base sp held fuel 23 cs = some x) :
  ∃ (ts:List Count) (v:Value),cs = [v]∧(∀ t ∈ ts,okI t.a∧okI t.lo∧okI t.hi)∧RepV (startG W) (.list false (ts.map encC)) v:=by
 obtain ⟨L,v,h1,h2,h3⟩:=list3 Try.underlying23 three78 h
 refine ⟨L.map fun l=>⟨l.1,l.2.1,l.2.2⟩,v,h1,?_,?_⟩
 ·intro t ht
  obtain ⟨l,hl,rfl⟩:=List.mem_map.1 ht
  obtain ⟨w1,w2,w3⟩:=h2 l hl
  exact ⟨okI_of_wf w1,okI_of_wf w2,okI_of_wf w3⟩
 ·rw [List.map_map]
  exact h3

structure okBk (b:Book):Prop where
 ch:okI b.chairs
 co:okI b.coin
 bx:okI b.box
 ls:∀ t ∈ b.lines,okL t
 cs:∀ t ∈ b.counts,okI t.a∧okI t.lo∧okI t.hi

theorem read_book {cs:List Value} {x:DataW H × List MemPlace} (h:DataW.trod enc Try.prog W base sp held fuel 25 cs = some x) :
  ∃ b:Book,okBk b∧RepL (startG W) (cellsB b) cs:=by
 have hl:=trod_len Try.underlying25 h
 rw [cells_25] at hl
 obtain ⟨n0,h0,w0⟩:=field_int Try.underlying25 h 0 _ _ _ _ _ _ rfl
 obtain ⟨n1,h1,w1⟩:=field_int Try.underlying25 h 1 _ _ _ _ _ _ rfl
 obtain ⟨n2,h2,w2⟩:=field_int Try.underlying25 h 2 _ _ _ _ _ _ rfl
 obtain ⟨m3,y3,k3⟩:=trod_field Try.underlying25 h 3 _ rfl
 obtain ⟨m4,y4,k4⟩:=trod_field Try.underlying25 h 4 _ rfl
 have k3:DataW.trod enc Try.prog W base sp held m3 22 ((cs.drop 3).take (Try.prog.cellsOf 22)) = some y3:=k3
 have k4:DataW.trod enc Try.prog W base sp held m4 23 ((cs.drop 4).take (Try.prog.cellsOf 23)) = some y4:=k4
 rw [cells_22] at k3
 rw [cells_23] at k4
 obtain ⟨ls,v3,e3,o3,r3⟩:=read_lines k3
 obtain ⟨ks,v4,e4,o4,r4⟩:=read_counts k4
 rw [row5 hl h0 h1 h2 e3 e4]
 refine ⟨⟨n0,n1,n2,ls,ks⟩,⟨okI_of_wf w0,okI_of_wf w1,okI_of_wf w2,o3,o4⟩,?_⟩
 exact RepL.cons rfl (.int _ _) (RepL.cons rfl (.int _ _) (RepL.cons rfl (.int _ _) (RepL.cons rfl r3 (RepL.cons rfl r4 ⟨rfl,fun i h1=>by simp at h1⟩))))

set_option maxRecDepth 100000 in
theorem arg_book {r:Reach} {b0:Nat} {v:Value} {d:DataW H} {ps:List MemPlace} (hval:Value.okWide Try.prog W r b0 25 v) (h:DataW.Trod enc Try.prog W base sp held 25 v d ps) :
  ∃ b:Book,okBk b∧RepV (startG W) (.agg (cellsB b)) v:=by
 obtain ⟨fuel,hf⟩:=h
 obtain ⟨b,hb,hr⟩:=read_book hf
 obtain ⟨cs,rfl,_⟩:=WideShapes.okWide_struct Try.underlying25 hval
 exact ⟨b,hb,hr.toAgg⟩

end
end Go.Proofs.Try.Op
