/- Readers of the rows' data: a case, a book, lines, words, numbers; what serves each law. No condition. -/
import Derived.Test.YtmnlpgjklibndaaGreatRows
import Derived.Test.YtmnlpgjklibndaaGreatY0
import Derived.Test.YtmnlpgjklibndaaGreatY1
import Derived.Test.YtmnlpgjklibndaaGreatW2
import Derived.JoinedOf
import Derived.JoinedAt
open Go renaming Value->bh,TypeId->bn
open Go.Proofs.Tryz renaming prog->bj,underlying25->bq,underlying29->bw,underlying54->bx,underlying133->bz,underlying168->bc,underlying166->bf,underlying27->bg
set_option maxRecDepth 100000
namespace Go.Proofs.Tryz.Op
open Go Go.Pg Go.ChangeShapes Go.WideShapes Go.ChangeAt Go.RowKit
open Go.Proofs.YtmnlpgjklibndaaGreat
section
variable {H:Type}{enc:bn×bh->H}{W:World}{base:Nat}{sp:Nat->Bool}{held:Bool}{fuel:Nat}
theorem zT{n:Int}(h:(Lit.int .i64 n).wf=true):VN n:=by simp only[Lit.wf,Bool.and_eq_true,decide_eq_true_eq]at h;obtain⟨h1,h2⟩:=h;have h1:(-9223372036854775808:Int)<=n:=h1;have h2:n<=(9223372036854775807:Int):=h2;exact⟨h1,by omega⟩
theorem DQ{t:bn}{fs:Array Field}{cs:List bh}{x:DataW H×List MemPlace}(hu:bj.underlying t=some (.struct fs))(h:DataW.trod enc bj W base sp held fuel t cs=some x)(i o:Nat)(nm:String)(em:Bool)(tg pk:String)(bo:Nat)(hf:fs[i]? = some ⟨nm,3,o,em,tg,pk,bo⟩) :
  ∃n,(cs.drop o).take 1=[.int .i64 n]/\VN n:=by
 obtain⟨m,y,hy⟩:=FJ hu h i _ hf
 have hy:DataW.trod enc bj W base sp held m 3 ((cs.drop o).take (bj.cellsOf 3))=some y:=hy
 rw[RM]at hy
 obtain⟨n,h1,_,h2⟩:=DataW.trod_int Tryz.underlying3 hy
 exact⟨n,h1,zT h2⟩
theorem M1{t:bn}{fs:Array Field}{cs:List bh}{x:DataW H×List MemPlace}(hu:bj.underlying t=some (.struct fs))(h:DataW.trod enc bj W base sp held fuel t cs=some x)(i o:Nat)(nm:String)(em:Bool)(tg pk:String)(bo:Nat)(hf:fs[i]? = some ⟨nm,4,o,em,tg,pk,bo⟩) :
  ∃b,(cs.drop o).take 1=[.bool b]:=by
 obtain⟨m,y,hy⟩:=FJ hu h i _ hf
 have hy:DataW.trod enc bj W base sp held m 4 ((cs.drop o).take (bj.cellsOf 4))=some y:=hy
 rw[tL]at hy
 obtain⟨n,h1,_⟩:=DataW.trod_bool Tryz.underlying4 hy
 exact⟨n,h1⟩
theorem A6O{cs:List bh}{a b c:bh}(hl:cs.length=3)(h0:(cs.drop 0).take 1=[a])(h1:(cs.drop 1).take 1=[b])(h2:(cs.drop 2).take 1=[c]):cs=[a,b,c]:=by
 match cs,hl with
 |[c0,c1,c2],_=>
  simp at h0 h1 h2
  subst h0 h1 h2
  rfl
theorem A6P{cs:List bh}{a b c d:bh}(hl:cs.length=4)(h0:(cs.drop 0).take 1=[a])(h1:(cs.drop 1).take 1=[b])(h2:(cs.drop 2).take 1=[c])(h3:(cs.drop 3).take 1=[d]):cs=[a,b,c,d]:=by
 match cs,hl with
 |[c0,c1,c2,c3],_=>
  simp at h0 h1 h2 h3
  subst h0 h1 h2 h3
  rfl
theorem BEH{cs:List bh}{a b:bh}(hl:cs.length=2)(h0:(cs.drop 0).take 1=[a])(h1:(cs.drop 1).take 1=[b]):cs=[a,b]:=by
 match cs,hl with
 |[c0,c1],_=>
  simp at h0 h1
  subst h0 h1
  rfl
theorem BEI:nQ enc bj W base sp held 133 3 AB MY where
 c:=by kernel_rfl
 k0:=by decide
 len:=fun _=>rfl
 cell:=fun x v hv=>by simp[AB]at hv;rcases hv with rfl|rfl|rfl<;>rfl
 r:=by
  intro fuel cs x h;have hl:=J0 bz h;rw[wK]at hl;obtain⟨a,ha,wa⟩:=DQ bz h 0 _ _ _ _ _ _ rfl;obtain⟨b,hb,wb⟩:=DQ bz h 1 _ _ _ _ _ _ rfl;obtain⟨c,hc,wc⟩:=DQ bz h 2 _ _ _ _ _ _ rfl;have e:=A6O hl ha hb hc;subst e;refine⟨⟨a,b,c⟩,⟨wa,wb,wc⟩,rfl,fun j hj=>?_⟩;match j,hj with
  |0,_=>exact⟨i a,.int .i64 a,rfl,rfl,.int _ _⟩
  |1,_=>exact⟨i b,.int .i64 b,rfl,rfl,.int _ _⟩
  |2,_=>exact⟨i c,.int .i64 c,rfl,rfl,.int _ _⟩
def A6Q(c:FI):Prop:=VN c.a/\VN c.lo/\VN c.hi
theorem BEJ:nQ enc bj W base sp held 168 3 AN A6Q where
 c:=by kernel_rfl
 k0:=by decide
 len:=fun _=>rfl
 cell:=fun x v hv=>by simp[AN]at hv;rcases hv with rfl|rfl|rfl<;>rfl
 r:=by
  intro fuel cs x h;have hl:=J0 bc h;rw[wL]at hl;obtain⟨a,ha,wa⟩:=DQ bc h 0 _ _ _ _ _ _ rfl;obtain⟨m,y,hy⟩:=FJ bc h 1 _ rfl;have hy:DataW.trod enc bj W base sp held m 166 ((cs.drop 1).take (bj.cellsOf 166))=some y:=hy;rw[bJ]at hy;have hl2:=J0 bf hy;rw[bJ]at hl2;obtain⟨b,hb,wb⟩:=DQ bf hy 0 _ _ _ _ _ _ rfl;obtain⟨c,hc,wc⟩:=DQ bf hy 1 _ _ _ _ _ _ rfl;have e2:=BEH hl2 hb hc;have e:cs=[.int .i64 a,.int .i64 b,.int .i64 c]:=by
   match cs,hl with
   |[c0,c1,c2],_=>
    simp at ha e2
    obtain⟨rfl,rfl⟩:=e2
    subst ha
    rfl
  subst e;refine⟨⟨a,b,c⟩,⟨wa,wb,wc⟩,rfl,fun j hj=>?_⟩;match j,hj with
  |0,_=>exact⟨i a,.int .i64 a,rfl,rfl,.int _ _⟩
  |1,_=>exact⟨i b,.int .i64 b,rfl,rfl,.int _ _⟩
  |2,_=>exact⟨i c,.int .i64 c,rfl,rfl,.int _ _⟩
def zU(w:Wrd):Prop:=VN w.after/\VN w.num
theorem ATL:nQ enc bj W base sp held 54 4 AJ zU where
 c:=by kernel_rfl
 k0:=by decide
 len:=fun _=>rfl
 cell:=fun x v hv=>by simp[AJ]at hv;rcases hv with rfl|rfl|rfl|rfl<;>rfl
 r:=by
  intro fuel cs x h;have hl:=J0 bx h;rw[iX]at hl;obtain⟨a,ha,wa⟩:=DQ bx h 0 _ _ _ _ _ _ rfl;obtain⟨b,hb⟩:=M1 bx h 1 _ _ _ _ _ _ rfl;obtain⟨c,hc,wc⟩:=DQ bx h 2 _ _ _ _ _ _ rfl;obtain⟨d,hd⟩:=M1 bx h 3 _ _ _ _ _ _ rfl;have e:=A6P hl ha hb hc hd;subst e;refine⟨⟨a,b,c,d⟩,⟨wa,wc⟩,rfl,fun j hj=>?_⟩;match j,hj with
  |0,_=>exact⟨i a,.int .i64 a,rfl,rfl,.int _ _⟩
  |1,_=>exact⟨.bool b,.bool b,rfl,rfl,.bool _⟩
  |2,_=>exact⟨i c,.int .i64 c,rfl,rfl,.int _ _⟩
  |3,_=>exact⟨.bool d,.bool d,rfl,rfl,.bool _⟩
theorem BEK:nQ enc bj W base sp held 27 1 AM (fun l=>∀w∈l,zU w) where
 c:=by kernel_rfl
 k0:=by decide
 len:=fun _=>rfl
 cell:=fun x v hv=>by simp[AM]at hv;subst hv;rfl
 r:=by
  intro fuel cs x h;obtain⟨L,v,h1,h2,h3⟩:=dL bg ATL h;refine⟨L,h2,by rw[h1];rfl,fun j hj=>?_⟩;have:j=0:=by omega
  subst this;exact⟨NH L,v,rfl,by rw[h1];rfl,h3⟩
structure A6R(b:AY):Prop where
 c:VN b.chairs
 n:VN b.coin
 x:VN b.box
 l:∀l∈b.lines,MY l
 k:∀k∈b.counts,A6Q k
structure okC(c:BF):Prop where
 b:A6R c.book
 w:∀l∈c.wits,∀w∈l,zU w
 n:VN c.liars
 k:∀w∈c.claims,zU w
theorem BEL{cs:List bh}{a b c d e:bh}(hl:cs.length=5)(h0:(cs.drop 0).take 1=[a])(h1:(cs.drop 1).take 1=[b])(h2:(cs.drop 2).take 1=[c])(h3:(cs.drop 3).take 1=[d])(h4:(cs.drop 4).take 1=[e]):cs=[a,b,c,d,e]:=by
 match cs,hl with
 |[c0,c1,c2,c3,c4],_=>
  simp at h0 h1 h2 h3 h4
  subst h0 h1 h2 h3 h4
  rfl
theorem BEM{cs bs:List bh}{x y z:bh}(hl:cs.length=8)(h0:(cs.drop 0).take 5=bs)(h1:(cs.drop 5).take 1=[x])(h2:(cs.drop 6).take 1=[y])(h3:(cs.drop 7).take 1=[z]):cs=bs++[x,y,z]:=by
 match cs,hl with
 |[c0,c1,c2,c3,c4,c5,c6,c7],_=>
  simp at h0 h1 h2 h3
  subst h0 h1 h2 h3
  rfl
theorem zV{cs:List bh}{x:DataW H×List MemPlace}(h:DataW.trod enc bj W base sp held fuel 25 cs=some x) :
  ∃b:AY,A6R b/\RepL (FH W) (AC b) cs:=by
 have hl:=J0 bq h
 rw[iU]at hl
 obtain⟨n0,h0,w0⟩:=DQ bq h 0 _ _ _ _ _ _ rfl
 obtain⟨n1,h1,w1⟩:=DQ bq h 1 _ _ _ _ _ _ rfl
 obtain⟨n2,h2,w2⟩:=DQ bq h 2 _ _ _ _ _ _ rfl
 obtain⟨m3,y3,k3⟩:=FJ bq h 3 _ rfl
 obtain⟨m4,y4,k4⟩:=FJ bq h 4 _ rfl
 have k3:DataW.trod enc bj W base sp held m3 22 ((cs.drop 3).take (bj.cellsOf 22))=some y3:=k3
 have k4:DataW.trod enc bj W base sp held m4 23 ((cs.drop 4).take (bj.cellsOf 23))=some y4:=k4
 rw[AB9]at k3
 rw[ACA]at k4
 obtain⟨l3,v3,e3,o3,r3⟩:=dL Tryz.underlying22 BEI k3
 obtain⟨l4,v4,e4,o4,r4⟩:=dL Tryz.underlying23 BEJ k4
 rw[BEL hl h0 h1 h2 e3 e4]
 refine⟨⟨n0,n1,n2,l3,l4⟩,⟨w0,w1,w2,o3,o4⟩,?_⟩
 exact RepL.cons rfl (.int _ _) (RepL.cons rfl (.int _ _) (RepL.cons rfl (.int _ _) (RepL.cons rfl r3 (RepL.cons rfl r4 ⟨rfl,fun i h1=>by simp at h1⟩))))
set_option maxRecDepth 100000 in
theorem nR{r:Reach}{b0:Nat}{v:bh}{d:DataW H}{ps:List MemPlace}(hval:Value.okWide bj W r b0 29 v)(h:DataW.Trod enc bj W base sp held 29 v d ps) :
  ∃c:BF,okC c/\RepV (FH W) (.agg (AD c)) v:=by
 obtain⟨fuel,h⟩:=h
 obtain⟨cs,rfl,_⟩:=WideShapes.okWide_struct bw hval
 have h:DataW.trod enc bj W base sp held fuel 29 cs.toList=some (d,ps):=h
 have hl:=J0 bw h
 rw[ACB]at hl
 obtain⟨m0,y0,k0⟩:=FJ bw h 0 _ rfl
 obtain⟨m1,y1,k1⟩:=FJ bw h 1 _ rfl
 obtain⟨n2,h2,w2⟩:=DQ bw h 2 _ _ _ _ _ _ rfl
 obtain⟨m3,y3,k3⟩:=FJ bw h 3 _ rfl
 have k0:DataW.trod enc bj W base sp held m0 25 ((cs.toList.drop 0).take (bj.cellsOf 25))=some y0:=k0
 have k1:DataW.trod enc bj W base sp held m1 26 ((cs.toList.drop 5).take (bj.cellsOf 26))=some y1:=k1
 have k3:DataW.trod enc bj W base sp held m3 27 ((cs.toList.drop 7).take (bj.cellsOf 27))=some y3:=k3
 rw[iU]at k0
 rw[iV]at k1
 rw[iW]at k3
 obtain⟨b,hb,hr⟩:=zV k0
 obtain⟨l1,v1,e1,o1,r1⟩:=dL Tryz.underlying26 BEK k1
 obtain⟨l3,v3,e3,o3,r3⟩:=dL bg ATL k3
 have e:=BEM hl rfl e1 h2 e3
 have hR:RepL (FH W) (AD ⟨b,l1,n2,l3⟩) cs.toList:=by rw[e];exact hr.append (RepL.cons rfl r1 (RepL.cons rfl (.int _ _) (RepL.cons rfl r3 ⟨rfl,fun i h1=>by simp at h1⟩)))
 exact⟨⟨b,l1,n2,l3⟩,⟨hb,o1,w2,o3⟩,hR.toAgg⟩
end
theorem BEN:ownKnob bj.godebug=none:=by kernel_rfl
theorem vP:laidOutB bj=true:=by kernel_rfl
theorem zW{f:FuncId}{args:List V}{vals:Array bh}{W:World}{n:Nat}(h:EJ bj (AG bj ann kn n) f args=some (.bool true))(ha:RepA (FH W) args vals.toList) :
  Calls bj f vals W fun e w'=>e=.returned (.bool true)/\Grown W w':=by
 have q:=AEZ Kn.hP Kn.hkn h ⟨[],[]⟩
 refine callsIn_wide.1 (q.2 (FH W) vals W _ (yN W) ha fun G' r v w' s' hle hI hr _ hk=>?_)
 obtain⟨rfl,_⟩:=hk
 cases hr
 exact⟨rfl,gB hle hI⟩
theorem AJ2{W W':World}(h:Grown W W'){p:MemPlace}(hp:p.block<W.heap.size):W.sameAt W' p:=by
 have hk:=(World.keptBut_none_iff.1 h.1).2.2;cases p with
 |cell b o=>exact World.cell?_of_block (w:=W) (hk b hp)
 |map b=>exact hk b hp
theorem stays{H:Type}{enc:bn×bh->H}{t:bn}(hr:bj.readableRec t=true)(hrow:t<bj.types.size){W W':World}{v:bh}{d:DataW H}{ps:List MemPlace}
  (h:DataW.Trod enc bj W 0 (fun _=>true) true t v d ps) (hg:Grown W W') (hlt:∀x∈ps,x.block<W.heap.size) {sp:Nat->Bool} (hs:∀p∈ps,sp p.block=true) :
  DataW.Trod enc bj W' 0 sp true t v d ps :=
 WideElems.Trod_stays vP hr hrow h (fun x hx=>AJ2 hg (hlt x hx)) hs
section
variable {H:Type}{enc:bn×bh->H}{W:World}{base:Nat}{sp:Nat->Bool}{held:Bool}
set_option maxRecDepth 100000 in
theorem AFT{r:Reach}{b0:Nat}{v:bh}{d:DataW H}{ps:List MemPlace}(hval:Value.okWide bj W r b0 5 v)(h:DataW.Trod enc bj W base sp held 5 v d ps) :
  ∃n:Nat,n<=255/\RepV (FH W) (.int .u8 n) v:=by
 obtain⟨fuel,hf⟩:=h
 obtain⟨n,h1,_,h2⟩:=DataW.trod_int Tryz.underlying5 hf
 obtain⟨m,rfl⟩:=WideShapes.okWide_int Tryz.underlying5 hval
 have h1:[Value.int .u8 m]=[Value.int .u8 n]:=h1
 cases h1
 simp only[Lit.wf,Bool.and_eq_true,decide_eq_true_eq]at h2
 obtain⟨l1,l2⟩:=h2
 have l1:(0:Int)<=n:=l1
 have l2:n<=(255:Int):=l2
 obtain⟨k,rfl⟩:∃k:Nat,n=k:=⟨n.toNat,by omega⟩
 exact⟨k,by omega,.int _ _⟩
theorem ANG:bj.readableRec 5=true:=by kernel_rfl
theorem in5:5<bj.types.size:=of_decide_eq_true (by kernel_rfl)
end
theorem BEO:bj.mayEnter=true:=by kernel_rfl
theorem BEP:mapsRowed bj=true:=by kernel_rfl
theorem BEQ:bj.stopsHeard=true:=by kernel_rfl
theorem BER:bj.liftsFinal=false:=by kernel_rfl
theorem ATM:bj.readableRec 29=true:=by kernel_rfl
theorem BES:29<bj.types.size:=of_decide_eq_true (by kernel_rfl)
end Go.Proofs.Tryz.Op
