/- Readers: a case whose rows' reach is known. No condition. -/
import Derived.Test.YtmnlpgjklibndaaGreatYe
import Derived.SizedLaws
open Go.Proofs.Tryz renaming prog->bq,underlying54->bw,underlying29->bx,underlying27->bz,underlying26->bc
set_option maxRecDepth 100000
namespace Go.Proofs.Tryz.Op
open Go Go.Pg Go.ChangeShapes Go.WideShapes Go.ChangeAt Go.RowKit Go.Season
open Go.Proofs.YtmnlpgjklibndaaGreat
def AFU:Value->Nat
 |.slice _ len _=>len
 |_=>0
theorem gW{G:Gh}{b:Bool}{es:List (List V)}{v:Value}(h:RepV G (.list b es) v):AFU v=es.length:=by cases h;rfl
section
variable {H:Type}{enc:TypeId×Value->H}{W:World}{base:Nat}{sp:Nat->Bool}{held:Bool}
theorem VA{fuel:Nat}{t e:TypeId}(ht:bq.underlying t=some (.slice e)){cs:List Value}{x:DataW H×List MemPlace}(h:DataW.trod enc bq W base sp held fuel t cs=some x){B:Nat}(hB:∀w∈x.1.weights bq t,w<=B):∃v,cs=[v]/\AFU v*bq.bytesOf e<=B:=by
 rcases DataW.trod_slice ht h with⟨rfl,rfl⟩|⟨a,len,cap,elems,rest,n,rfl,rfl,rfl,_,_,_,hel,_⟩
 ·exact⟨_,rfl,by simp[AFU]⟩
 ·refine⟨_,rfl,?_⟩;have:=hB ((elems.length+rest.length)*bq.bytesOf e) (by simp[DataW.weights,ht]);refine Nat.le_trans ?_ this;exact Nat.mul_le_mul_right _ (by simp only[AFU];omega)
theorem vQ{e:TypeId}:∀{l:List (DataW H)} {d:DataW H},d∈l->∀n∈d.weights bq e,n∈DataW.weightsAll bq e l
 |_::_,d,h,n,hn=>by
  simp only[DataW.weightsAll,List.mem_append];rcases List.mem_cons.1 h with rfl|h
  ·exact .inl hn
  ·exact .inr (vQ h n hn)
theorem nS{fuel:Nat}{t e f:TypeId}(ht:bq.underlying t=some (.slice e))(he:bq.underlying e=some (.slice f))(hc:bq.cellsOf e=1){v:Value}{x:DataW H×List MemPlace}(h:DataW.trod enc bq W base sp held fuel t [v]=some x){B:Nat}(hB:∀w∈x.1.weights bq t,w<=B)
  {es:List (List V)} (hr:RepV (FH W) (.list false es) v):∀l,[V.list false l]∈es->l.length*bq.bytesOf f<=B:=by
 intro l hl
 rcases DataW.trod_slice ht h with⟨e1,_⟩|⟨a,len,cap,elems,rest,n,rfl,e1,rfl,hb,hlc,hcm,hel,hr',_,_⟩
 ·obtain rfl:v=_:=by simpa using e1
  have:=gW hr;simp only[AFU]at this;rw[List.eq_nil_of_length_eq_zero this.symm]at hl;cases hl
 ·obtain rfl:v=_:=by simpa using e1
  obtain⟨i,hi,hli⟩:=List.getElem_of_mem hl;cases hr with
  |list _ _ _ _ b off sz arr T fz vs hcap hfull ha hsz hv hrr=>
   obtain⟨ea,hheap⟩:=ha (by intro h0;rw[h0]at hl;cases hl)
   obtain rfl:a=⟨b,off,none⟩:=Option.some.inj ea
   have hheap:W.heap[b]? = some (.cells arr T fz):=hheap
   have s1:=hsz i hi
   rw[hli]at s1
   have s1:sz=1:=s1.symm
   subst s1
   have q:=hr' i hi
   rw[List.getElem?_eq_getElem (by omega),hc]at q
   obtain⟨cs,h1,h2⟩:=Option.bind_eq_some_iff.1 q
   obtain⟨u,rfl,hu⟩:=VA (B:=B) he h2 fun w hw=>hB w (by
    simp only[DataW.weights,ht,List.mem_cons,List.mem_append];exact .inr (.inl (vQ (List.mem_map_of_mem (List.getElem_mem _)) w hw)))
   have hcell:=(World.cells?_some h1).2.2 0 (by omega)
   rw[vN]at hcell
   have hcell:W.cell? ((⟨b,off,none⟩:Addr).add (i*1+0))=some u:=hcell
   have e2:=vO hcell hheap
   have h0:0<es[i].length:=by rw[hli];simp
   have e3:=(hv i hi 0 h0).1
   have e4:=hrr i hi 0 h0
   have e5:es[i][0]=.list false l:=by simp[hli]
   rw[e5]at e4
   have e2:arr[off+i*1+0]? = some u:=by rw[Nat.add_assoc];exact e2
   rw[e2]at e3
   cases e3
   rw[<-gW e4]
   exact hu
theorem AJ3:bq.bytesOf 27=24:=by kernel_rfl
theorem ATN:bq.bytesOf 54=32:=by kernel_rfl
theorem AYT{r:Reach}{b0:Nat}{v:Value}{d:DataW H}{ps:List MemPlace}(hval:Value.okWide bq W r b0 29 v)(h:DataW.Trod enc bq W base sp held 29 v d ps){B:Nat}(hB:∀w∈d.weights bq 29,w<=B) :
  ∃c:BF,okC c/\(c.wits.length*24<=B/\∀l∈c.wits,l.length*32<=B)/\RepV (FH W) (.agg (AD c)) v:=by
 obtain⟨c,hc,hr⟩:=nR hval h
 obtain⟨fuel,hf⟩:=h
 obtain⟨xs,m,e1,e2,_,hx,hh⟩:=DataW.trod_struct bx hf
 have hx:xs.length=4:=hx
 have k3:DataW.trod enc bq W base sp held m 26 ((v.cells.toList.drop 5).take (bq.cellsOf 26))=xs[1]?:=hh 1 _ rfl
 rw[iV,List.getElem?_eq_getElem (by omega)]at k3
 obtain⟨rfl,rfl⟩:=Prod.mk.inj e2
 simp only[DataW.weights,bx]at hB
 have hB3:∀w∈xs[1].1.weights bq 26,w<=B:=fun w hw=>hB w (DataW.weights_mem_each (j:=1) (t:=26) (d:=xs[1].1) rfl (by simp[hx]) w hw)
 obtain⟨u3,g3,z3⟩:=VA (B:=B) bc k3 hB3
 rw[AJ3]at z3
 obtain⟨cs,rfl,_⟩:=WideShapes.okWide_struct bx hval
 have hR:∃w,cs.toList[5]? = some w/\RepV (FH W) (.list false (c.wits.map AM)) w:=by
  cases hr with
  |agg _ _ hsz _ h=>
   have h11:5<cs.size:=by have:(AD c).length=8:=rfl;omega
   exact⟨cs[5],by rw[Array.getElem?_toList,Array.getElem?_eq_getElem h11],h 5 (by show 5<8;decide) h11⟩
 obtain⟨w,hw,hrep⟩:=hR
 have e:u3=w:=by have:=List.getElem?_take_of_lt (l:=(Value.cells (.agg cs)).toList.drop 5) (show 0<1 by decide);rw[g3]at this;simp only[List.getElem?_cons_zero,List.getElem?_drop,Nat.add_zero]at this;have hw':(Value.cells (.agg cs)).toList[5]? = some w:=hw;rw[hw']at this;exact(Option.some.inj this)
 subst e
 rw[gW hrep,List.length_map]at z3
 refine⟨c,hc,⟨z3,fun l hl=>?_⟩,hr⟩
 rw[g3]at k3
 have q:=nS bc bz iW k3 hB3 hrep (l.map AJ) (List.mem_map.2 ⟨l,hl,rfl⟩)
 rw[ATN,List.length_map]at q
 exact q
set_option maxRecDepth 100000 in
theorem AYU{r:Reach}{b0:Nat}{v:Value}{d:DataW H}{ps:List MemPlace}(hval:Value.okWide bq W r b0 27 v)(h:DataW.Trod enc bq W base sp held 27 v d ps) :
  ∃l:List Wrd,(∀x∈l,zU x)/\RepV (FH W) (NH l) v:=by
 obtain⟨fuel,hf⟩:=h
 obtain⟨ts,w,h1,h2,h3⟩:=dL bz ATL hf
 refine⟨ts,h2,?_⟩
 obtain⟨a,len,cap,rfl⟩:=WideShapes.okWide_slice bz hval
 have h1:[Value.slice a len cap]=[w]:=h1
 cases h1
 exact h3
set_option maxRecDepth 100000 in
theorem A6S{r:Reach}{b0:Nat}{v:Value}{d:DataW H}{ps:List MemPlace}(hval:Value.okWide bq W r b0 54 v)(h:DataW.Trod enc bq W base sp held 54 v d ps) :
  ∃w:Wrd,zU w/\RepV (FH W) (.agg (AJ w)) v:=by
 obtain⟨fuel,h⟩:=h
 obtain⟨cs,rfl,_⟩:=WideShapes.okWide_struct bw hval
 have h:DataW.trod enc bq W base sp held fuel 54 cs.toList=some (d,ps):=h
 have hl:=J0 bw h
 rw[iX]at hl
 obtain⟨a,ha,wa⟩:=DQ bw h 0 _ _ _ _ _ _ rfl
 obtain⟨b,hb⟩:=M1 bw h 1 _ _ _ _ _ _ rfl
 obtain⟨c,hc,wc⟩:=DQ bw h 2 _ _ _ _ _ _ rfl
 obtain⟨e,he⟩:=M1 bw h 3 _ _ _ _ _ _ rfl
 refine⟨⟨a,b,c,e⟩,⟨wa,wc⟩,?_⟩
 have hR:RepL (FH W) (AJ ⟨a,b,c,e⟩) cs.toList:=by rw[A6P hl ha hb hc he];exact RepL.cons rfl (.int _ _) (RepL.cons rfl (.bool _) (RepL.cons rfl (.int _ _) (RepL.cons rfl (.bool _) ⟨rfl,fun i h1=>by simp at h1⟩)))
 exact hR.toAgg
end
theorem BET:bq.readableRec 27=true:=by kernel_rfl
theorem BLW:27<bq.types.size:=of_decide_eq_true (by kernel_rfl)
theorem BEU:bq.readableRec 54=true:=by kernel_rfl
theorem BLX:54<bq.types.size:=of_decide_eq_true (by kernel_rfl)
end Go.Proofs.Tryz.Op
