/- Readers of the rows' data: a case, spots, a family. No condition. -/
import Derived.Test.YtanlhbmliegjeaaGreatYe
import Derived.Test.YtanlhbmliegjeaaGreatA1
open Go.Proofs.Tryz renaming prog->bj,underlying31->bk,underlying68->bq
namespace Go.Proofs.Tryz.Op
open Go Go.Pg Go.ChangeShapes Go.WideShapes Go.ChangeAt Go.RowKit Go.Wind
open Go.Proofs.YtanlhbmliegjeaaGreat
section
variable {H:Type}{enc:TypeId×Value->H}{W:World}{base:Nat}{sp:Nat->Bool}{held:Bool}{fuel:Nat}
theorem bJ{t:TypeId}{fs:Array Field}{cs:List Value}{x:DataW H×List MemPlace}(hu:bj.underlying t=some (.struct fs))(h:DataW.trod enc bj W base sp held fuel t cs=some x)(i o:Nat)(nm:String)(em:Bool)(tg pk:String)(bo:Nat)(hf:fs[i]? = some ⟨nm,4,o,em,tg,pk,bo⟩) :
  ∃b,(cs.drop o).take 1=[.bool b]:=by
 obtain⟨m,y,hy⟩:=EC hu h i _ hf
 have hy:DataW.trod enc bj W base sp held m 4 ((cs.drop o).take (bj.cellsOf 4))=some y:=hy
 rw[AHV]at hy
 obtain⟨n,h1,_⟩:=DataW.trod_bool Tryz.underlying4 hy
 exact⟨n,h1⟩
theorem BEX:TA enc bj W base sp held 4 1 BD (fun _=>True) where
 c:=by kernel_rfl
 k0:=by decide
 len:=fun _=>rfl
 cell:=fun x v hv=>by simp[BD]at hv;subst hv;rfl
 r:=by
  intro fuel cs x h;obtain⟨n,h1,_⟩:=DataW.trod_bool Tryz.underlying4 h;refine⟨n,trivial,by rw[h1];rfl,fun j hj=>?_⟩;have:j=0:=by omega
  subst this;exact⟨.bool n,.bool n,rfl,by rw[h1];rfl,.bool _⟩
theorem BEY:TA enc bj W base sp held 63 1 AS (fun _=>True) where
 c:=by kernel_rfl
 k0:=by decide
 len:=fun _=>rfl
 cell:=fun x v hv=>by simp[AS]at hv;subst hv;rfl
 r:=by
  intro fuel cs x h;obtain⟨L,v,h1,_,h3⟩:=QD Tryz.underlying63 BEX h;refine⟨L,trivial,by rw[h1];rfl,fun j hj=>?_⟩;have:j=0:=by omega
  subst this;exact⟨lb L,v,rfl,by rw[h1];rfl,h3⟩
theorem A7A{cs:List Value}{a b:Int}{c d:Bool}(hl:cs.length=4)(h0:(cs.drop 0).take 1=[.int .i64 a])(h1:(cs.drop 1).take 1=[.int .i64 b])(h2:(cs.drop 2).take 1=[.bool c])(h3:(cs.drop 3).take 1=[.bool d]):cs=[.int .i64 a,.int .i64 b,.bool c,.bool d]:=by
 match cs,hl with
 |[c0,c1,c2,c3],_=>
  simp at h0 h1 h2 h3
  subst h0 h1 h2 h3
  rfl
theorem BEZ:TA enc bj W base sp held 68 4 AU okF where
 c:=by kernel_rfl
 k0:=by decide
 len:=fun _=>rfl
 cell:=fun x v hv=>by simp[AU]at hv;rcases hv with rfl|rfl|rfl|rfl<;>rfl
 r:=by
  intro fuel cs x h;have hl:=TB bq h;rw[AB9]at hl;obtain⟨a,ha,wa⟩:=GZ bq h 0 _ _ _ _ _ _ rfl;obtain⟨b,hb,wb⟩:=GZ bq h 1 _ _ _ _ _ _ rfl;obtain⟨c,hc⟩:=bJ bq h 2 _ _ _ _ _ _ rfl;obtain⟨d,hd⟩:=bJ bq h 3 _ _ _ _ _ _ rfl;have e:=A7A hl ha hb hc hd;subst e;refine⟨⟨a,b,c,d⟩,⟨wa,wb⟩,rfl,fun j hj=>?_⟩;match j,hj with
  |0,_=>exact⟨i a,.int .i64 a,rfl,rfl,.int _ _⟩
  |1,_=>exact⟨i b,.int .i64 b,rfl,rfl,.int _ _⟩
  |2,_=>exact⟨.bool c,.bool c,rfl,rfl,.bool _⟩
  |3,_=>exact⟨.bool d,.bool d,rfl,rfl,.bool _⟩
theorem A7B{cs bs:List Value}{x y z:Value}(hl:cs.length=12)(h0:(cs.drop 0).take 9=bs)(h1:(cs.drop 9).take 1=[x])(h2:(cs.drop 10).take 1=[y])(h3:(cs.drop 11).take 1=[z]):cs=bs++[x,y,z]:=by
 match cs,hl with
 |[c0,c1,c2,c3,c4,c5,c6,c7,c8,c9,c10,c11],_=>
  simp at h0 h1 h2 h3
  subst h0 h1 h2 h3
  rfl
set_option maxRecDepth 100000 in
theorem AGS{r:Reach}{b0:Nat}{v:Value}{d:DataW H}{ps:List MemPlace}(hval:Value.okWide bj W r b0 31 v)(h:DataW.Trod enc bj W base sp held 31 v d ps) :
  ∃c:A0,okC c/\RepV (KH W) (.agg (AF c)) v:=by
 obtain⟨fuel,h⟩:=h
 obtain⟨cs,rfl,_⟩:=WideShapes.okWide_struct bk hval
 have h:DataW.trod enc bj W base sp held fuel 31 cs.toList=some (d,ps):=h
 have hl:=TB bk h
 rw[AB8]at hl
 obtain⟨m0,y0,k0⟩:=EC bk h 0 _ rfl
 obtain⟨m1,y1,k1⟩:=EC bk h 1 _ rfl
 obtain⟨m2,y2,k2⟩:=EC bk h 2 _ rfl
 obtain⟨m3,y3,k3⟩:=EC bk h 3 _ rfl
 have k0:DataW.trod enc bj W base sp held m0 27 ((cs.toList.drop 0).take (bj.cellsOf 27))=some y0:=k0
 have k1:DataW.trod enc bj W base sp held m1 23 ((cs.toList.drop 9).take (bj.cellsOf 23))=some y1:=k1
 have k2:DataW.trod enc bj W base sp held m2 28 ((cs.toList.drop 10).take (bj.cellsOf 28))=some y2:=k2
 have k3:DataW.trod enc bj W base sp held m3 29 ((cs.toList.drop 11).take (bj.cellsOf 29))=some y3:=k3
 rw[jV]at k0
 rw[jU]at k1
 rw[AB6]at k2
 rw[AB7]at k3
 obtain⟨b,hb,hr⟩:=tB k0
 obtain⟨l1,v1,e1,o1,r1⟩:=QD Tryz.underlying23 elL k1
 obtain⟨l2,v2,e2,o2,r2⟩:=QD Tryz.underlying28 BEY k2
 obtain⟨l3,v3,e3,o3,r3⟩:=QD Tryz.underlying29 BEZ k3
 have e:=A7B hl rfl e1 e2 e3
 have hR:RepL (KH W) (AF ⟨b,l1,l2,l3⟩) cs.toList:=by rw[e];exact hr.append (RepL.cons rfl r1 (RepL.cons rfl r2 (RepL.cons rfl r3 ⟨rfl,fun i h1=>by simp at h1⟩)))
 exact⟨⟨b,l1,l2,l3⟩,⟨hb,o1,o3⟩,hR.toAgg⟩
end
theorem BE0:bj.mayEnter=true:=by kernel_rfl
theorem BE1:mapsRowed bj=true:=by kernel_rfl
theorem BE2:bj.stopsHeard=true:=by kernel_rfl
theorem BE3:bj.liftsFinal=false:=by kernel_rfl
theorem AUO:bj.readableRec 31=true:=by kernel_rfl
theorem BE4:31<bj.types.size:=of_decide_eq_true (by kernel_rfl)
end Go.Proofs.Tryz.Op
