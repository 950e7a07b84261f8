/- Readers of the rows' data: a case, a book, lines, words, numbers; what serves each law. No condition. -/
import Derived.Test.YtmnlpgjklibndaaGreatRows
import Derived.Test.YtmnlpgjklibndaaGreatY0
import Derived.Test.YtmnlpgjklibndaaGreatY1
import Derived.Test.YtmnlpgjklibndaaGreatW2
import Derived.JoinedOf
import Derived.JoinedAt
open Go renaming Value->br,TypeId->bt
open Go.Proofs.Tryz renaming prog->bq,underlying25->bw,underlying29->bx,underlying54->bz,underlying133->bc,underlying3->bf,underlying168->bg,underlying166->bh,underlying27->bn,underlying78->bp
open Bool renaming and_eq_true->bj
set_option maxRecDepth 100000
namespace Go.Proofs.Tryz.Op
open Go Go.Pg Go.ChangeShapes Go.WideShapes Go.ChangeAt Go.RowKit
open Go.Proofs.YtmnlpgjklibndaaGreat
section
variable {H:Type}{enc:bt×br->H}{W:World}{base:Nat}{sp:Nat->Bool}{held:Bool}{fuel:Nat}
theorem fJ{n:Int}(h:(Lit.int .i64 n).wf=true):VZ n:=by simp only[Lit.wf,bj,decide_eq_true_eq]at h;obtain⟨h1,h2⟩:=h;have h1:(-9223372036854775808:Int)<=n:=h1;have h2:n<=(9223372036854775807:Int):=h2;exact⟨h1,by omega⟩
theorem EH{t:bt}{fs:Array Field}{cs:List br}{x:DataW H×List MemPlace}(hu:bq.underlying t=some (.struct fs))(h:DataW.trod enc bq W base sp held fuel t cs=some x)(i o:Nat)(nm:String)(em:Bool)(tg pk:String)(bo:Nat)(hf:fs[i]? = some ⟨nm,3,o,em,tg,pk,bo⟩) :
  ∃n,(cs.drop o).take 1=[.int .i64 n]/\VZ n:=by
 obtain⟨m,y,hy⟩:=FV hu h i _ hf
 have hy:DataW.trod enc bq W base sp held m 3 ((cs.drop o).take (bq.cellsOf 3))=some y:=hy
 rw[R4]at hy
 obtain⟨n,h1,_,h2⟩:=DataW.trod_int bf hy
 exact⟨n,h1,fJ h2⟩
theorem bA{t:bt}{fs:Array Field}{cs:List br}{x:DataW H×List MemPlace}(hu:bq.underlying t=some (.struct fs))(h:DataW.trod enc bq W base sp held fuel t cs=some x)(i o:Nat)(nm:String)(em:Bool)(tg pk:String)(bo:Nat)(hf:fs[i]? = some ⟨nm,4,o,em,tg,pk,bo⟩) :
  ∃b,(cs.drop o).take 1=[.bool b]:=by
 obtain⟨m,y,hy⟩:=FV hu h i _ hf
 have hy:DataW.trod enc bq W base sp held m 4 ((cs.drop o).take (bq.cellsOf 4))=some y:=hy
 rw[wD]at hy
 obtain⟨n,h1,_⟩:=DataW.trod_bool Tryz.underlying4 hy
 exact⟨n,h1⟩
theorem A94{cs:List br}{a b c:br}(hl:cs.length=3)(h0:(cs.drop 0).take 1=[a])(h1:(cs.drop 1).take 1=[b])(h2:(cs.drop 2).take 1=[c]):cs=[a,b,c]:=by
 match cs,hl with
 |[c0,c1,c2],_=>
  simp at h0 h1 h2
  subst h0 h1 h2
  rfl
theorem BH8{cs:List br}{a b c d:br}(hl:cs.length=4)(h0:(cs.drop 0).take 1=[a])(h1:(cs.drop 1).take 1=[b])(h2:(cs.drop 2).take 1=[c])(h3:(cs.drop 3).take 1=[d]):cs=[a,b,c,d]:=by
 match cs,hl with
 |[c0,c1,c2,c3],_=>
  simp at h0 h1 h2 h3
  subst h0 h1 h2 h3
  rfl
theorem BH9{cs:List br}{a b:br}(hl:cs.length=2)(h0:(cs.drop 0).take 1=[a])(h1:(cs.drop 1).take 1=[b]):cs=[a,b]:=by
 match cs,hl with
 |[c0,c1],_=>
  simp at h0 h1
  subst h0 h1
  rfl
theorem BIA:pU enc bq W base sp held 133 3 AB NJ where
 c:=by kernel_rfl
 k0:=by decide
 len:=fun _=>rfl
 cell:=fun x v hv=>by simp[AB]at hv;rcases hv with rfl|rfl|rfl<;>rfl
 r:=by
  intro fuel cs x h;have hl:=MD bc h;rw[yS]at hl;obtain⟨a,ha,wa⟩:=EH bc h 0 _ _ _ _ _ _ rfl;obtain⟨b,hb,wb⟩:=EH bc h 1 _ _ _ _ _ _ rfl;obtain⟨c,hc,wc⟩:=EH bc h 2 _ _ _ _ _ _ rfl;have e:=A94 hl ha hb hc;subst e;refine⟨⟨a,b,c⟩,⟨wa,wb,wc⟩,rfl,fun j hj=>?_⟩;match j,hj with
  |0,_=>exact⟨i a,.int .i64 a,rfl,rfl,.int _ _⟩
  |1,_=>exact⟨i b,.int .i64 b,rfl,rfl,.int _ _⟩
  |2,_=>exact⟨i c,.int .i64 c,rfl,rfl,.int _ _⟩
def A95(c:FK):Prop:=VZ c.a/\VZ c.lo/\VZ c.hi
theorem BIB:pU enc bq W base sp held 168 3 AM A95 where
 c:=by kernel_rfl
 k0:=by decide
 len:=fun _=>rfl
 cell:=fun x v hv=>by simp[AM]at hv;rcases hv with rfl|rfl|rfl<;>rfl
 r:=by
  intro fuel cs x h;have hl:=MD bg h;rw[yT]at hl;obtain⟨a,ha,wa⟩:=EH bg h 0 _ _ _ _ _ _ rfl;obtain⟨m,y,hy⟩:=FV bg h 1 _ rfl;have hy:DataW.trod enc bq W base sp held m 166 ((cs.drop 1).take (bq.cellsOf 166))=some y:=hy;rw[dH]at hy;have hl2:=MD bh hy;rw[dH]at hl2;obtain⟨b,hb,wb⟩:=EH bh hy 0 _ _ _ _ _ _ rfl;obtain⟨c,hc,wc⟩:=EH bh hy 1 _ _ _ _ _ _ rfl;have e2:=BH9 hl2 hb hc;have e:cs=[.int .i64 a,.int .i64 b,.int .i64 c]:=by
   match cs,hl with
   |[c0,c1,c2],_=>
    simp at ha e2
    obtain⟨rfl,rfl⟩:=e2
    subst ha
    rfl
  subst e;refine⟨⟨a,b,c⟩,⟨wa,wb,wc⟩,rfl,fun j hj=>?_⟩;match j,hj with
  |0,_=>exact⟨i a,.int .i64 a,rfl,rfl,.int _ _⟩
  |1,_=>exact⟨i b,.int .i64 b,rfl,rfl,.int _ _⟩
  |2,_=>exact⟨i c,.int .i64 c,rfl,rfl,.int _ _⟩
def AMQ(w:Wrd):Prop:=VZ w.after/\VZ w.num
theorem A96:pU enc bq W base sp held 54 4 AG AMQ where
 c:=by kernel_rfl
 k0:=by decide
 len:=fun _=>rfl
 cell:=fun x v hv=>by simp[AG]at hv;rcases hv with rfl|rfl|rfl|rfl<;>rfl
 r:=by
  intro fuel cs x h;have hl:=MD bz h;rw[AEF]at hl;obtain⟨a,ha,wa⟩:=EH bz h 0 _ _ _ _ _ _ rfl;obtain⟨b,hb⟩:=bA bz h 1 _ _ _ _ _ _ rfl;obtain⟨c,hc,wc⟩:=EH bz h 2 _ _ _ _ _ _ rfl;obtain⟨d,hd⟩:=bA bz h 3 _ _ _ _ _ _ rfl;have e:=BH8 hl ha hb hc hd;subst e;refine⟨⟨a,b,c,d⟩,⟨wa,wc⟩,rfl,fun j hj=>?_⟩;match j,hj with
  |0,_=>exact⟨i a,.int .i64 a,rfl,rfl,.int _ _⟩
  |1,_=>exact⟨.bool b,.bool b,rfl,rfl,.bool _⟩
  |2,_=>exact⟨i c,.int .i64 c,rfl,rfl,.int _ _⟩
  |3,_=>exact⟨.bool d,.bool d,rfl,rfl,.bool _⟩
theorem BIC:pU enc bq W base sp held 27 1 AL (fun l=>∀w∈l,AMQ w) where
 c:=by kernel_rfl
 k0:=by decide
 len:=fun _=>rfl
 cell:=fun x v hv=>by simp[AL]at hv;subst hv;rfl
 r:=by
  intro fuel cs x h;obtain⟨L,v,h1,h2,h3⟩:=pV bn A96 h;refine⟨L,h2,by rw[h1];rfl,fun j hj=>?_⟩;have:j=0:=by omega
  subst this;exact⟨J2 L,v,rfl,by rw[h1];rfl,h3⟩
structure A97(b:A5):Prop where
 c:VZ b.chairs
 n:VZ b.coin
 x:VZ b.box
 l:∀l∈b.lines,NJ l
 k:∀k∈b.counts,A95 k
structure okC(c:BC):Prop where
 b:A97 c.book
 w:∀l∈c.wits,∀w∈l,AMQ w
 n:VZ c.liars
 k:∀w∈c.claims,AMQ w
theorem BID{cs:List br}{a b c d e:br}(hl:cs.length=5)(h0:(cs.drop 0).take 1=[a])(h1:(cs.drop 1).take 1=[b])(h2:(cs.drop 2).take 1=[c])(h3:(cs.drop 3).take 1=[d])(h4:(cs.drop 4).take 1=[e]):cs=[a,b,c,d,e]:=by
 match cs,hl with
 |[c0,c1,c2,c3,c4],_=>
  simp at h0 h1 h2 h3 h4
  subst h0 h1 h2 h3 h4
  rfl
theorem BIE{cs bs:List br}{x y z:br}(hl:cs.length=8)(h0:(cs.drop 0).take 5=bs)(h1:(cs.drop 5).take 1=[x])(h2:(cs.drop 6).take 1=[y])(h3:(cs.drop 7).take 1=[z]):cs=bs++[x,y,z]:=by
 match cs,hl with
 |[c0,c1,c2,c3,c4,c5,c6,c7],_=>
  simp at h0 h1 h2 h3
  subst h0 h1 h2 h3
  rfl
theorem ABP{cs:List br}{x:DataW H×List MemPlace}(h:DataW.trod enc bq W base sp held fuel 25 cs=some x) :
  ∃b:A5,A97 b/\RepL (IM W) (AE b) cs:=by
 have hl:=MD bw h
 rw[lF]at hl
 obtain⟨n0,h0,w0⟩:=EH bw h 0 _ _ _ _ _ _ rfl
 obtain⟨n1,h1,w1⟩:=EH bw h 1 _ _ _ _ _ _ rfl
 obtain⟨n2,h2,w2⟩:=EH bw h 2 _ _ _ _ _ _ rfl
 obtain⟨m3,y3,k3⟩:=FV bw h 3 _ rfl
 obtain⟨m4,y4,k4⟩:=FV bw h 4 _ rfl
 have k3:DataW.trod enc bq W base sp held m3 22 ((cs.drop 3).take (bq.cellsOf 22))=some y3:=k3
 have k4:DataW.trod enc bq W base sp held m4 23 ((cs.drop 4).take (bq.cellsOf 23))=some y4:=k4
 rw[AEA]at k3
 rw[AEB]at k4
 obtain⟨l3,v3,e3,o3,r3⟩:=pV Tryz.underlying22 BIA k3
 obtain⟨l4,v4,e4,o4,r4⟩:=pV Tryz.underlying23 BIB k4
 rw[BID hl h0 h1 h2 e3 e4]
 refine⟨⟨n0,n1,n2,l3,l4⟩,⟨w0,w1,w2,o3,o4⟩,?_⟩
 exact RepL.cons rfl (.int _ _) (RepL.cons rfl (.int _ _) (RepL.cons rfl (.int _ _) (RepL.cons rfl r3 (RepL.cons rfl r4 ⟨rfl,fun i h1=>by simp at h1⟩))))
set_option maxRecDepth 100000 in
theorem AIA{r:Reach}{b0:Nat}{v:br}{d:DataW H}{ps:List MemPlace}(hval:Value.okWide bq W r b0 29 v)(h:DataW.Trod enc bq W base sp held 29 v d ps) :
  ∃c:BC,okC c/\RepV (IM W) (.agg (AC c)) v:=by
 obtain⟨fuel,h⟩:=h
 obtain⟨cs,rfl,_⟩:=WideShapes.okWide_struct bx hval
 have h:DataW.trod enc bq W base sp held fuel 29 cs.toList=some (d,ps):=h
 have hl:=MD bx h
 rw[AEE]at hl
 obtain⟨m0,y0,k0⟩:=FV bx h 0 _ rfl
 obtain⟨m1,y1,k1⟩:=FV bx h 1 _ rfl
 obtain⟨n2,h2,w2⟩:=EH bx h 2 _ _ _ _ _ _ rfl
 obtain⟨m3,y3,k3⟩:=FV bx h 3 _ rfl
 have k0:DataW.trod enc bq W base sp held m0 25 ((cs.toList.drop 0).take (bq.cellsOf 25))=some y0:=k0
 have k1:DataW.trod enc bq W base sp held m1 26 ((cs.toList.drop 5).take (bq.cellsOf 26))=some y1:=k1
 have k3:DataW.trod enc bq W base sp held m3 27 ((cs.toList.drop 7).take (bq.cellsOf 27))=some y3:=k3
 rw[lF]at k0
 rw[AEC]at k1
 rw[AED]at k3
 obtain⟨b,hb,hr⟩:=ABP k0
 obtain⟨l1,v1,e1,o1,r1⟩:=pV Tryz.underlying26 BIC k1
 obtain⟨l3,v3,e3,o3,r3⟩:=pV bn A96 k3
 have e:=BIE hl rfl e1 h2 e3
 have hR:RepL (IM W) (AC ⟨b,l1,n2,l3⟩) cs.toList:=by rw[e];exact hr.append (RepL.cons rfl r1 (RepL.cons rfl (.int _ _) (RepL.cons rfl r3 ⟨rfl,fun i h1=>by simp at h1⟩)))
 exact⟨⟨b,l1,n2,l3⟩,⟨hb,o1,w2,o3⟩,hR.toAgg⟩
end
theorem BIF:ownKnob bq.godebug=none:=by kernel_rfl
theorem xZ:laidOutB bq=true:=by kernel_rfl
theorem ABQ{f:FuncId}{args:List V}{vals:Array br}{W:World}{n:Nat}(h:ES bq (AH bq ann kn n) f args=some (.bool true))(ha:RepA (IM W) args vals.toList) :
  Calls bq f vals W fun e w'=>e=.returned (.bool true)/\Grown W w':=by
 have q:=AHG Kn.hP Kn.hkn h ⟨[],[]⟩
 refine callsIn_wide.1 (q.2 (IM W) vals W _ (AAZ W) ha fun G' r v w' s' hle hI hr _ hk=>?_)
 obtain⟨rfl,_⟩:=hk
 cases hr
 exact⟨rfl,iZ hle hI⟩
theorem AMR{W W':World}(h:Grown W W'){p:MemPlace}(hp:p.block<W.heap.size):W.sameAt W' p:=by
 have hk:=(World.keptBut_none_iff.1 h.1).2.2;cases p with
 |cell b o=>exact World.cell?_of_block (w:=W) (hk b hp)
 |map b=>exact hk b hp
theorem stays{H:Type}{enc:bt×br->H}{t:bt}(hr:bq.readableRec t=true)(hrow:t<bq.types.size){W W':World}{v:br}{d:DataW H}{ps:List MemPlace}
  (h:DataW.Trod enc bq W 0 (fun _=>true) true t v d ps) (hg:Grown W W') (hlt:∀x∈ps,x.block<W.heap.size) {sp:Nat->Bool} (hs:∀p∈ps,sp p.block=true) :
  DataW.Trod enc bq W' 0 sp true t v d ps :=
 WideElems.Trod_stays xZ hr hrow h (fun x hx=>AMR hg (hlt x hx)) hs
section
variable {H:Type}{enc:bt×br->H}{W:World}{base:Nat}{sp:Nat->Bool}{held:Bool}
set_option maxRecDepth 100000 in
theorem BDL{r:Reach}{b0:Nat}{v:br}{d:DataW H}{ps:List MemPlace}(hval:Value.okWide bq W r b0 3 v)(h:DataW.Trod enc bq W base sp held 3 v d ps) :
  ∃n:Int,VZ n/\RepV (IM W) (i n) v:=by
 obtain⟨fuel,hf⟩:=h
 obtain⟨n,h1,_,h2⟩:=DataW.trod_int bf hf
 obtain⟨m,rfl⟩:=WideShapes.okWide_int bf hval
 have h1:[Value.int .i64 m]=[Value.int .i64 n]:=h1
 cases h1
 exact⟨n,fJ h2,.int _ _⟩
set_option maxRecDepth 100000 in
theorem BIG{r:Reach}{b0:Nat}{v:br}{d:DataW H}{ps:List MemPlace}(hval:Value.okWide bq W r b0 5 v)(h:DataW.Trod enc bq W base sp held 5 v d ps) :
  ∃n:Nat,n<=255/\RepV (IM W) (.int .u8 n) v:=by
 obtain⟨fuel,hf⟩:=h
 obtain⟨n,h1,_,h2⟩:=DataW.trod_int Tryz.underlying5 hf
 obtain⟨m,rfl⟩:=WideShapes.okWide_int Tryz.underlying5 hval
 have h1:[Value.int .u8 m]=[Value.int .u8 n]:=h1
 cases h1
 simp only[Lit.wf,bj,decide_eq_true_eq]at h2
 obtain⟨l1,l2⟩:=h2
 have l1:(0:Int)<=n:=l1
 have l2:n<=(255:Int):=l2
 obtain⟨k,rfl⟩:∃k:Nat,n=k:=⟨n.toNat,by omega⟩
 exact⟨k,by omega,.int _ _⟩
theorem BL2:bq.readableRec 5=true:=by kernel_rfl
theorem in5:5<bq.types.size:=of_decide_eq_true (by kernel_rfl)
set_option maxRecDepth 100000 in
theorem BDM{r:Reach}{b0:Nat}{v:br}{d:DataW H}{ps:List MemPlace}(hval:Value.okWide bq W r b0 78 v)(h:DataW.Trod enc bq W base sp held 78 v d ps) :
  ∃n:Nat,n<=65535/\RepV (IM W) (.int .u16 n) v:=by
 obtain⟨fuel,hf⟩:=h
 obtain⟨n,h1,_,h2⟩:=DataW.trod_int bp hf
 obtain⟨m,rfl⟩:=WideShapes.okWide_int bp hval
 have h1:[Value.int .u16 m]=[Value.int .u16 n]:=h1
 cases h1
 simp only[Lit.wf,bj,decide_eq_true_eq]at h2
 obtain⟨l1,l2⟩:=h2
 have l1:(0:Int)<=n:=l1
 have l2:n<=(65535:Int):=l2
 obtain⟨k,rfl⟩:∃k:Nat,n=k:=⟨n.toNat,by omega⟩
 exact⟨k,by omega,.int _ _⟩
theorem BIH:bq.readableRec 78=true:=by kernel_rfl
theorem BQ3:78<bq.types.size:=of_decide_eq_true (by kernel_rfl)
end
theorem BII:bq.mayEnter=true:=by kernel_rfl
theorem BIJ:mapsRowed bq=true:=by kernel_rfl
theorem BIK:bq.stopsHeard=true:=by kernel_rfl
theorem BIL:bq.liftsFinal=false:=by kernel_rfl
theorem AWR:bq.readableRec 29=true:=by kernel_rfl
theorem BIM:29<bq.types.size:=of_decide_eq_true (by kernel_rfl)
theorem BL3:bq.readableRec 3=true:=by kernel_rfl
theorem in3:3<bq.types.size:=of_decide_eq_true (by kernel_rfl)
end Go.Proofs.Tryz.Op
