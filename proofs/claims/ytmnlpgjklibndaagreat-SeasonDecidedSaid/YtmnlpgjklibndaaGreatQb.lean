/- From a call as the plain program sees it to what a row asks of a call: nothing that was there is changed. No condition. -/
import Derived.Test.YtmnlpgjklibndaaGreatQa
import Derived.WalkKit
import Derived.ProofKit
import Derived.OpenShut
namespace Go.Pg
open Go.RowKit
def IM(W:World):Gh:={ sl:=fun b=>W.heap[b]?,be:=fun _=>none,env:=(W.os,W.output,W.heap.size),mm:=fun _=>none }
theorem AAZ(W:World):CE (IM W) ⟨[],[]⟩ W where
 sl _ _ h:=h
 res l k g r h:=by simp[St.get]at h
 sep l k g r l' k' g' r' b h:=by simp[St.get]at h
 out l k g r b h:=by simp[St.get]at h
 fresh:=⟨0,fun _ _=>rfl⟩
 env:=⟨rfl,rfl,Nat.le_refl _,fun b c T fz h1 h2=>by
  have h3:=(Array.getElem?_eq_some_iff.1 h2).1;have h4:W.heap.size<=b:=h1;omega⟩
 me:=⟨fun _ _ h=>(by cases h),fun _ _ h=>(by cases h),fun _ _ _ _ _ _ _=>rfl,fun _ _ h=>by cases h⟩
theorem iZ{W w':World}{G':Gh}{s':St}(hle:(IM W).le G')(hI:CE G' s' w'):Grown W w':=by
 have he:G'.env=(W.os,W.output,W.heap.size):=hle.e;obtain⟨h1,h2,h3,h4⟩:=hI.env;rw[he]at h1 h2 h3 h4;have hold:∀i,i<W.heap.size->w'.heap[i]? = W.heap[i]?:=fun i hi=>by have:=hI.sl i W.heap[i] (hle.1 i _ (show W.heap[i]? = some W.heap[i] by simp));rw[this];simp
 refine⟨World.keptBut_none_iff.2 ⟨h1,h2,hold⟩,fun a=>?_,h3⟩;unfold World.frozen?;rcases Nat.lt_or_ge a.block W.heap.size with hl|hl
 ·rw[hold _ hl]
 ·rw[Array.getElem?_eq_none hl];cases hb:w'.heap[a.block]? with
  |none=>rfl
  |some o=>
   cases o with
   |cells c T fz=>
    rw[h4 _ _ _ _ hl hb]
    simp
   |_=>rfl
end Go.Pg
