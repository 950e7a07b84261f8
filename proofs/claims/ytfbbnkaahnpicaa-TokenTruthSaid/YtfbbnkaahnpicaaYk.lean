/- The reader of a row of words. No condition. -/
import Derived.Test.YtfbbnkaahnpicaaYe
import Derived.Test.YtfbbnkaahnpicaaT3
namespace Go.Proofs.Try.Op
open Go Go.Pg Go.ChangeShapes Go.WideShapes Go.ChangeAt Go.RowKit
open Go.Proofs.Ytfbbnkaahnpicaa
section
variable {H:Type} {enc:TypeId × Value→H} {W:World} {base:Nat} {sp:Nat→Bool} {held:Bool}
set_option maxRecDepth 100000 in
theorem arg_words {r:Reach} {b0:Nat} {v:Value} {d:DataW H} {ps:List MemPlace} (hval:Value.okWide Try.prog W r b0 72 v) (h:DataW.Trod enc Try.prog W base sp held 72 v d ps) :
  ∃ ws:List Nat,(∀ w ∈ ws,w≤65535)∧RepV (startG W) (.list false (ws.map encW)) v:=by
 obtain ⟨fuel,hf⟩:=h
 obtain ⟨a0,len0,cap0,rfl⟩:=WideShapes.okWide_slice Try.underlying72 hval
 rcases open_ints Try.underlying72 Try.underlying73 (by kernel_rfl) hf with ⟨e,_⟩ | ⟨a,len,cap,zs,e,_,hlc,_,hzl,_,hcell,hwf⟩
 ·have e:[Value.slice a0 len0 cap0] = [Value.slice none 0 0]:=e
  cases e
  exact ⟨[],by simp,RepV.list false [] none 0 0 0 0 #[] 0 (0,0) (fun _ _=>undef) (by simp) (by simp) (by simp) (by simp) (by simp) (by simp)⟩
 ·have e:[Value.slice a0 len0 cap0] = [Value.slice (some a) len cap]:=e
  cases e
  have hz:len0≤zs.length:=by rw [hzl]; split <;> omega
  have hnn:∀ n ∈ zs,0≤n∧n≤65535:=fun n hn=>by
   have h2:=hwf n hn
   simp only [Lit.wf,Bool.and_eq_true,decide_eq_true_eq] at h2
   obtain ⟨l1,l2⟩:=h2
   have l1:(0:Int)≤n:=l1
   have l2:n≤(65535:Int):=l2
   exact ⟨l1,l2⟩
  refine ⟨(zs.take len0).map Int.toNat,fun w hw=>?_,?_⟩
  ·obtain ⟨n,hn,rfl⟩:=List.mem_map.1 hw
   have:=hnn n (List.mem_of_mem_take hn)
   omega
  ·have hlen:len0 = (((zs.take len0).map Int.toNat).map encW).length:=by simp; omega
   generalize hes:((zs.take len0).map Int.toNat).map encW = es at hlen
   have hget:∀ i (hi:i < es.length),es[i] = [.int .u16 (zs.getD i 0)]:=fun i hi=>by
    subst hes
    have h1:i < zs.length:=by omega
    have h0:=(hnn zs[i] (List.getElem_mem h1)).1
    simp [encW,List.getD_eq_getElem?_getD,h1]
    omega
   rw [hlen]
   by_cases h0:es = []
   ·subst h0
    exact RepV.list false [] (some a) cap0 0 0 0 #[] 0 (0,0) (fun _ _=>undef) (by simp) (by simp) (by simp) (by simp) (by simp) (by simp)
   ·have hpos:0 < es.length:=List.length_pos_iff.2 h0
    have hc0:=hcell 0 (by omega)
    obtain ⟨arr,T,fz,hheap,hspot⟩:∃ arr T fz,W.heap[a.block]? = some (.cells arr T fz)∧a.spot = none:=by
     unfold World.cell? at hc0
     simp only [Addr.add,Nat.add_zero] at hc0
     split at hc0
     ·rename_i c T fz hh
      refine ⟨c,T,fz,hh,?_⟩
      cases hs:a.spot with
      | none=>rfl
      | some _=>simp [hs] at hc0
     ·simp at hc0
    have hc:∀ i,i < es.length→arr[a.off + i]? = some (.int .u16 (zs.getD i 0)):=fun i hi=>by
     have q:=hcell i (by omega)
     unfold World.cell? at q
     by_cases hi0:i = 0
     ·subst hi0
      simpa [Addr.add,hheap,hspot] using q
     ·simpa [Addr.add,hheap,hspot,hi0] using q
    refine RepV.list false es (some a) cap0 a.block a.off 1 arr T fz (fun i j=>.int .u16 (zs.getD i 0)) (by omega) (by simp) ?_ ?_ ?_ ?_
    ·intro _
     exact ⟨by rw [← hspot],hheap⟩
    ·intro i hi; rw [hget i hi]; rfl
    ·intro i hi j hj
     have hj0:j = 0:=by rw [hget i hi] at hj; simpa using hj
     subst hj0
     refine ⟨by simpa using hc i hi,?_⟩
     simp only [hget i hi]; rfl
    ·intro i hi j hj
     have hj0:j = 0:=by rw [hget i hi] at hj; simpa using hj
     subst hj0
     simp only [hget i hi]
     exact .int _ _
theorem read72:Try.prog.readableRec 72 = true:=by kernel_rfl
theorem in72:72 < Try.prog.types.size:=of_decide_eq_true (by kernel_rfl)
end
end Go.Proofs.Try.Op
