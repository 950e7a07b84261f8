/- Readers of the rows' data: a beach, lists, words, numbers; what serves each law. No condition. -/
import Derived.Test.YtanlhbmliegjeaaGreatRows
import Derived.Test.YtanlhbmliegjeaaGreatY0
import Derived.Test.YtanlhbmliegjeaaGreatY1
import Derived.JoinedOf
import Derived.JoinedAt
open Go renaming Value->bx,TypeId->bz
open Go.Proofs.Tryz renaming prog->bj,underlying27->bk,underlying22->bq,underlying32->bw
namespace Go.Proofs.Tryz.Op
open Go Go.Pg Go.ChangeShapes Go.WideShapes Go.ChangeAt Go.RowKit Go.Wind
open Go.Proofs.YtanlhbmliegjeaaGreat
section
variable {H:Type}{enc:bz×bx->H}{W:World}{base:Nat}{sp:Nat->Bool}{held:Bool}{fuel:Nat}
theorem fC{n:Int}(h:(Lit.int .i64 n).wf=true):NB n:=by simp only[Lit.wf,Bool.and_eq_true,decide_eq_true_eq]at h;obtain⟨h1,h2⟩:=h;have h1:(-9223372036854775808:Int)<=n:=h1;have h2:n<=(9223372036854775807:Int):=h2;exact⟨h1,by omega⟩
theorem GZ{t:bz}{fs:Array Field}{cs:List bx}{x:DataW H×List MemPlace}(hu:bj.underlying t=some (.struct fs))(h:DataW.trod enc bj W base sp held fuel t cs=some x)(i o:Nat)(nm:String)(em:Bool)(tg pk:String)(bo:Nat)(hf:fs[i]? = some ⟨nm,3,o,em,tg,pk,bo⟩) :
  ∃n,(cs.drop o).take 1=[.int .i64 n]/\NB n:=by
 obtain⟨m,y,hy⟩:=EC hu h i _ hf
 have hy:DataW.trod enc bj W base sp held m 3 ((cs.drop o).take (bj.cellsOf 3))=some y:=hy
 rw[AHU]at hy
 obtain⟨n,h1,_,h2⟩:=DataW.trod_int Tryz.underlying3 hy
 exact⟨n,h1,fC h2⟩
theorem elI:TA enc bj W base sp held 3 1 AH NB where
 c:=by kernel_rfl
 k0:=by decide
 len:=fun _=>rfl
 cell:=fun x v hv=>by simp[AH]at hv;subst hv;rfl
 r:=by
  intro fuel cs x h;obtain⟨n,h1,_,h2⟩:=DataW.trod_int Tryz.underlying3 h;refine⟨n,fC h2,by rw[h1];rfl,fun j hj=>?_⟩;have:j=0:=by omega
  subst this;exact⟨i n,.int .i64 n,rfl,by rw[h1];rfl,.int _ _⟩
theorem elL:TA enc bj W base sp held 22 1 AN (fun l=>∀n∈l,NB n) where
 c:=by kernel_rfl
 k0:=by decide
 len:=fun _=>rfl
 cell:=fun x v hv=>by simp[AN]at hv;subst hv;rfl
 r:=by
  intro fuel cs x h;obtain⟨L,v,h1,h2,h3⟩:=QD bq elI h;refine⟨L,h2,by rw[h1];rfl,fun j hj=>?_⟩;have:j=0:=by omega
  subst this;exact⟨li L,v,rfl,by rw[h1];rfl,h3⟩
theorem A7C{cs:List bx}{a b:Int}(hl:cs.length=2)(ha:(cs.drop 0).take 1=[.int .i64 a])(hb:(cs.drop 1).take 1=[.int .i64 b]):cs=[.int .i64 a,.int .i64 b]:=by
 match cs,hl with
 |[x,y],_=>
  simp at ha hb
  subst ha hb
  rfl
theorem elP(t:bz)(fs:Array Field)(hu:bj.underlying t=some (.struct fs))(hc:bj.cellsOf t=2)(n0 n1 tg0 tg1 pk0 pk1:String)(em0 em1:Bool)(bo0 bo1:Nat)(h0:fs[0]? = some ⟨n0,3,0,em0,tg0,pk0,bo0⟩)(h1:fs[1]? = some ⟨n1,3,1,em1,tg1,pk1,bo1⟩):TA enc bj W base sp held t 2 AM (fun p=>NB p.1/\NB p.2) where
 c:=hc
 k0:=by decide
 len:=fun _=>rfl
 cell:=fun x v hv=>by simp[AM]at hv;rcases hv with rfl|rfl<;>rfl
 r:=by
  intro fuel cs x h;have hl:=TB hu h;rw[hc]at hl;obtain⟨a,ha,wa⟩:=GZ hu h 0 _ _ _ _ _ _ h0;obtain⟨b,hb,wb⟩:=GZ hu h 1 _ _ _ _ _ _ h1;have e:=A7C hl ha hb;subst e;refine⟨(a,b),⟨wa,wb⟩,rfl,fun j hj=>?_⟩;match j,hj with
  |0,_=>exact⟨i a,.int .i64 a,rfl,rfl,.int _ _⟩
  |1,_=>exact⟨i b,.int .i64 b,rfl,rfl,.int _ _⟩
theorem elS:TA enc bj W base sp held 89 2 AM (fun p=>NB p.1/\NB p.2):=elP _ _ Tryz.underlying89 (by kernel_rfl) _ _ _ _ _ _ _ _ _ _ rfl rfl
theorem elN:TA enc bj W base sp held 91 2 AM (fun p=>NB p.1/\NB p.2):=elP _ _ Tryz.underlying91 (by kernel_rfl) _ _ _ _ _ _ _ _ _ _ rfl rfl
theorem BE6{cs:List bx}{a b c d:Int}{v w x y z:bx}(hl:cs.length=9)(h0:(cs.drop 0).take 1=[.int .i64 a])(h1:(cs.drop 1).take 1=[.int .i64 b])(h2:(cs.drop 2).take 1=[.int .i64 c])(h3:(cs.drop 3).take 1=[.int .i64 d])(h4:(cs.drop 4).take 1=[v])(h5:(cs.drop 5).take 1=[w])(h6:(cs.drop 6).take 1=[x])(h7:(cs.drop 7).take 1=[y])(h8:(cs.drop 8).take 1=[z]) :
  cs=[.int .i64 a,.int .i64 b,.int .i64 c,.int .i64 d,v,w,x,y,z]:=by
 match cs,hl with
 |[c0,c1,c2,c3,c4,c5,c6,c7,c8],_=>
  simp at h0 h1 h2 h3 h4 h5 h6 h7 h8
  subst h0 h1 h2 h3 h4 h5 h6 h7 h8
  rfl
theorem tB{cs:List bx}{x:DataW H×List MemPlace}(h:DataW.trod enc bj W base sp held fuel 27 cs=some x) :
  ∃b:AL,okB b/\RepL (KH W) (AB b) cs:=by
 have hl:=TB bk h
 rw[jV]at hl
 obtain⟨n0,h0,w0⟩:=GZ bk h 0 _ _ _ _ _ _ rfl
 obtain⟨n1,h1,w1⟩:=GZ bk h 1 _ _ _ _ _ _ rfl
 obtain⟨n2,h2,w2⟩:=GZ bk h 2 _ _ _ _ _ _ rfl
 obtain⟨n3,h3,w3⟩:=GZ bk h 3 _ _ _ _ _ _ rfl
 obtain⟨m4,y4,k4⟩:=EC bk h 4 _ rfl
 obtain⟨m5,y5,k5⟩:=EC bk h 5 _ rfl
 obtain⟨m6,y6,k6⟩:=EC bk h 6 _ rfl
 obtain⟨m7,y7,k7⟩:=EC bk h 7 _ rfl
 obtain⟨m8,y8,k8⟩:=EC bk h 8 _ rfl
 have k4:DataW.trod enc bj W base sp held m4 22 ((cs.drop 4).take (bj.cellsOf 22))=some y4:=k4
 have k5:DataW.trod enc bj W base sp held m5 22 ((cs.drop 5).take (bj.cellsOf 22))=some y5:=k5
 have k6:DataW.trod enc bj W base sp held m6 23 ((cs.drop 6).take (bj.cellsOf 23))=some y6:=k6
 have k7:DataW.trod enc bj W base sp held m7 24 ((cs.drop 7).take (bj.cellsOf 24))=some y7:=k7
 have k8:DataW.trod enc bj W base sp held m8 25 ((cs.drop 8).take (bj.cellsOf 25))=some y8:=k8
 rw[AB3]at k4 k5
 rw[jU]at k6
 rw[AB4]at k7
 rw[AB5]at k8
 obtain⟨l4,v4,e4,o4,r4⟩:=QD bq elI k4
 obtain⟨l5,v5,e5,o5,r5⟩:=QD bq elI k5
 obtain⟨l6,v6,e6,o6,r6⟩:=QD Tryz.underlying23 elL k6
 obtain⟨l7,v7,e7,o7,r7⟩:=QD Tryz.underlying24 elS k7
 obtain⟨l8,v8,e8,o8,r8⟩:=QD Tryz.underlying25 elN k8
 rw[BE6 hl h0 h1 h2 h3 e4 e5 e6 e7 e8]
 refine⟨⟨n0,n1,n2,n3,l4,l5,l6,l7,l8⟩,⟨w0,w1,w2,w3,o4,o5,o6,o7,o8⟩,?_⟩
 exact RepL.cons rfl (.int _ _) (RepL.cons rfl (.int _ _) (RepL.cons rfl (.int _ _) (RepL.cons rfl (.int _ _) (RepL.cons rfl r4 (RepL.cons rfl r5 (RepL.cons rfl r6 (RepL.cons rfl r7 (RepL.cons rfl r8 ⟨rfl,fun i h1=>by simp at h1⟩))))))))
end
theorem BE7:ownKnob bj.godebug=none:=by kernel_rfl
theorem wW:laidOutB bj=true:=by kernel_rfl
theorem AA4{f:FuncId}{args:List V}{vals:Array bx}{W:World}{n:Nat}(h:KD bj (AE bj ann kn n) f args=some (.bool true))(ha:RepA (KH W) args vals.toList) :
  Calls bj f vals W fun e w'=>e=.returned (.bool true)/\Grown W w':=by
 have q:=AFF Kn.hP Kn.hkn h ⟨[],[]⟩
 refine callsIn_wide.1 (q.2 (KH W) vals W _ (zN W) ha fun G' r v w' s' hle hI hr _ hk=>?_)
 obtain⟨rfl,_⟩:=hk
 cases hr
 exact⟨rfl,iD hle hI⟩
theorem AKU{W W':World}(h:Grown W W'){p:MemPlace}(hp:p.block<W.heap.size):W.sameAt W' p:=by
 have hk:=(World.keptBut_none_iff.1 h.1).2.2;cases p with
 |cell b o=>exact World.cell?_of_block (w:=W) (hk b hp)
 |map b=>exact hk b hp
theorem stays{H:Type}{enc:bz×bx->H}{t:bz}(hr:bj.readableRec t=true)(hrow:t<bj.types.size){W W':World}{v:bx}{d:DataW H}{ps:List MemPlace}
  (h:DataW.Trod enc bj W 0 (fun _=>true) true t v d ps) (hg:Grown W W') (hlt:∀x∈ps,x.block<W.heap.size) {sp:Nat->Bool} (hs:∀p∈ps,sp p.block=true) :
  DataW.Trod enc bj W' 0 sp true t v d ps :=
 WideElems.Trod_stays wW hr hrow h (fun x hx=>AKU hg (hlt x hx)) hs
section
variable {H:Type}{enc:bz×bx->H}{W:World}{base:Nat}{sp:Nat->Bool}{held:Bool}
set_option maxRecDepth 100000 in
theorem AKV{r:Reach}{b0:Nat}{v:bx}{d:DataW H}{ps:List MemPlace}(hval:Value.okWide bj W r b0 32 v)(h:DataW.Trod enc bj W base sp held 32 v d ps) :
  ∃n:Nat,n<=65535/\RepV (KH W) (.int .u16 n) v:=by
 obtain⟨fuel,hf⟩:=h
 obtain⟨n,h1,_,h2⟩:=DataW.trod_int bw hf
 obtain⟨m,rfl⟩:=WideShapes.okWide_int bw hval
 have h1:[Value.int .u16 m]=[Value.int .u16 n]:=h1
 cases h1
 simp only[Lit.wf,Bool.and_eq_true,decide_eq_true_eq]at h2
 obtain⟨l1,l2⟩:=h2
 have l1:(0:Int)<=n:=l1
 have l2:n<=(65535:Int):=l2
 obtain⟨k,rfl⟩:∃k:Nat,n=k:=⟨n.toNat,by omega⟩
 exact⟨k,by omega,.int _ _⟩
theorem AUP:bj.readableRec 32=true:=by kernel_rfl
theorem BE8:32<bj.types.size:=of_decide_eq_true (by kernel_rfl)
end
section
variable {H:Type}{enc:bz×bx->H}{W:World}{base:Nat}{sp:Nat->Bool}{held:Bool}
end
end Go.Proofs.Tryz.Op
