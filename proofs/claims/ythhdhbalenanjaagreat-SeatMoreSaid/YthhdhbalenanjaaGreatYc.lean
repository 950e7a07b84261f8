/- Readers: a case of whose families the reach is known. No condition. -/
import Derived.Test.YthhdhbalenanjaaGreatYb
import Derived.SizedLaws
open Go.Proofs.Tryz renaming prog->bj,underlying31->bk
set_option maxRecDepth 100000
namespace Go.Proofs.Tryz.Op
open Go Go.Pg Go.ChangeShapes Go.WideShapes Go.ChangeAt Go.RowKit Go.Wind
open Go.Proofs.YthhdhbalenanjaaGreat
def APZ:Value->Nat
 |.slice _ len _=>len
 |_=>0
theorem AP0{G:Gh}{b:Bool}{es:List (List V)}{v:Value}(h:RepV G (.list b es) v):APZ v=es.length:=by cases h;rfl
section
variable {H:Type}{enc:TypeId×Value->H}{W:World}{base:Nat}{sp:Nat->Bool}{held:Bool}
theorem sT{fuel:Nat}{t e:TypeId}(ht:bj.underlying t=some (.slice e)){cs:List Value}{x:DataW H×List MemPlace}(h:DataW.trod enc bj W base sp held fuel t cs=some x){B:Nat}(hB:∀w∈x.1.weights bj t,w<=B):∃v,cs=[v]/\APZ v*bj.bytesOf e<=B:=by
 rcases DataW.trod_slice ht h with⟨rfl,rfl⟩|⟨a,len,cap,elems,rest,n,rfl,rfl,rfl,_,_,_,hel,_⟩
 ·exact⟨_,rfl,by simp[APZ]⟩
 ·refine⟨_,rfl,?_⟩;have:=hB ((elems.length+rest.length)*bj.bytesOf e) (by simp[DataW.weights,ht]);refine Nat.le_trans ?_ this;exact Nat.mul_le_mul_right _ (by simp only[APZ];omega)
theorem AK7:bj.bytesOf 57=24:=by kernel_rfl
theorem AEB{r:Reach}{b0:Nat}{v:Value}{d:DataW H}{ps:List MemPlace}(hval:Value.okWide bj W r b0 31 v)(h:DataW.Trod enc bj W base sp held 31 v d ps){B:Nat}(hB:∀w∈d.weights bj 31,w<=B) :
  ∃c:AO,okC c/\c.fams.length*24<=B/\RepV (IF W) (.agg (AD c)) v:=by
 obtain⟨c,hc,hr⟩:=AK6 hval h
 obtain⟨fuel,hf⟩:=h
 obtain⟨xs,m,e1,e2,_,hx,hh⟩:=DataW.trod_struct bk hf
 have hx:xs.length=4:=hx
 have k3:DataW.trod enc bj W base sp held m 29 ((v.cells.toList.drop 11).take (bj.cellsOf 29))=xs[3]?:=hh 3 _ rfl
 rw[nN,List.getElem?_eq_getElem (by omega)]at k3
 obtain⟨rfl,rfl⟩:=Prod.mk.inj e2
 simp only[DataW.weights,bk]at hB
 obtain⟨u3,g3,z3⟩:=sT (B:=B) Tryz.underlying29 k3 fun w hw=>hB w (DataW.weights_mem_each (j:=3) (t:=29) (d:=xs[3].1) rfl (by simp[hx]) w hw)
 rw[AK7]at z3
 obtain⟨cs,rfl,_⟩:=WideShapes.okWide_struct bk hval
 have hR:∃w,cs.toList[11]? = some w/\RepV (IF W) (.list false (c.fams.map AS)) w:=by
  cases hr with
  |agg _ _ hsz _ h=>
   have h11:11<cs.size:=by have:(AD c).length=12:=rfl;omega
   exact⟨cs[11],by rw[Array.getElem?_toList,Array.getElem?_eq_getElem h11],h 11 (by show 11<12;decide) h11⟩
 obtain⟨w,hw,hrep⟩:=hR
 have e:u3=w:=by have:=List.getElem?_take_of_lt (l:=(Value.cells (.agg cs)).toList.drop 11) (show 0<1 by decide);rw[g3]at this;simp only[List.getElem?_cons_zero,List.getElem?_drop,Nat.add_zero]at this;have hw':(Value.cells (.agg cs)).toList[11]? = some w:=hw;rw[hw']at this;exact(Option.some.inj this)
 subst e
 rw[AP0 hrep,List.length_map]at z3
 exact⟨c,hc,z3,hr⟩
end
end Go.Proofs.Tryz.Op
