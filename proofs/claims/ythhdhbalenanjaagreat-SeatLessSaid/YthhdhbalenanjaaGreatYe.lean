/- Readers of the rows' data: a beach, lists, words, numbers; what serves each law. No condition. -/
import Derived.Test.YthhdhbalenanjaaGreatRows
import Derived.Test.YthhdhbalenanjaaGreatY0
import Derived.Test.YthhdhbalenanjaaGreatY1
import Derived.JoinedOf
import Derived.JoinedAt
open Go renaming Value->bw,TypeId->bx
open Go.Proofs.Tryz renaming prog->bj,underlying27->bk,underlying22->bq
namespace Go.Proofs.Tryz.Op
open Go Go.Pg Go.ChangeShapes Go.WideShapes Go.ChangeAt Go.RowKit Go.Wind
open Go.Proofs.YthhdhbalenanjaaGreat
section
variable {H:Type}{enc:bx×bw->H}{W:World}{base:Nat}{sp:Nat->Bool}{held:Bool}{fuel:Nat}
theorem fL{n:Int}(h:(Lit.int .i64 n).wf=true):NJ n:=by simp only[Lit.wf,Bool.and_eq_true,decide_eq_true_eq]at h;obtain⟨h1,h2⟩:=h;have h1:(-9223372036854775808:Int)<=n:=h1;have h2:n<=(9223372036854775807:Int):=h2;exact⟨h1,by omega⟩
theorem HO{t:bx}{fs:Array Field}{cs:List bw}{x:DataW H×List MemPlace}(hu:bj.underlying t=some (.struct fs))(h:DataW.trod enc bj W base sp held fuel t cs=some x)(i o:Nat)(nm:String)(em:Bool)(tg pk:String)(bo:Nat)(hf:fs[i]? = some ⟨nm,3,o,em,tg,pk,bo⟩) :
  ∃n,(cs.drop o).take 1=[.int .i64 n]/\NJ n:=by
 obtain⟨m,y,hy⟩:=EH hu h i _ hf
 have hy:DataW.trod enc bj W base sp held m 3 ((cs.drop o).take (bj.cellsOf 3))=some y:=hy
 rw[AI8]at hy
 obtain⟨n,h1,_,h2⟩:=DataW.trod_int Tryz.underlying3 hy
 exact⟨n,h1,fL h2⟩
theorem elI:UH enc bj W base sp held 3 1 AH NJ where
 c:=by kernel_rfl
 k0:=by decide
 len:=fun _=>rfl
 cell:=fun x v hv=>by simp[AH]at hv;subst hv;rfl
 r:=by
  intro fuel cs x h;obtain⟨n,h1,_,h2⟩:=DataW.trod_int Tryz.underlying3 h;refine⟨n,fL h2,by rw[h1];rfl,fun j hj=>?_⟩;have:j=0:=by omega
  subst this;exact⟨i n,.int .i64 n,rfl,by rw[h1];rfl,.int _ _⟩
theorem elL:UH enc bj W base sp held 22 1 AM (fun l=>∀n∈l,NJ n) where
 c:=by kernel_rfl
 k0:=by decide
 len:=fun _=>rfl
 cell:=fun x v hv=>by simp[AM]at hv;subst hv;rfl
 r:=by
  intro fuel cs x h;obtain⟨L,v,h1,h2,h3⟩:=QZ bq elI h;refine⟨L,h2,by rw[h1];rfl,fun j hj=>?_⟩;have:j=0:=by omega
  subst this;exact⟨li L,v,rfl,by rw[h1];rfl,h3⟩
theorem A8J{cs:List bw}{a b:Int}(hl:cs.length=2)(ha:(cs.drop 0).take 1=[.int .i64 a])(hb:(cs.drop 1).take 1=[.int .i64 b]):cs=[.int .i64 a,.int .i64 b]:=by
 match cs,hl with
 |[x,y],_=>
  simp at ha hb
  subst ha hb
  rfl
theorem elP(t:bx)(fs:Array Field)(hu:bj.underlying t=some (.struct fs))(hc:bj.cellsOf t=2)(n0 n1 tg0 tg1 pk0 pk1:String)(em0 em1:Bool)(bo0 bo1:Nat)(h0:fs[0]? = some ⟨n0,3,0,em0,tg0,pk0,bo0⟩)(h1:fs[1]? = some ⟨n1,3,1,em1,tg1,pk1,bo1⟩):UH enc bj W base sp held t 2 AL (fun p=>NJ p.1/\NJ p.2) where
 c:=hc
 k0:=by decide
 len:=fun _=>rfl
 cell:=fun x v hv=>by simp[AL]at hv;rcases hv with rfl|rfl<;>rfl
 r:=by
  intro fuel cs x h;have hl:=UI hu h;rw[hc]at hl;obtain⟨a,ha,wa⟩:=HO hu h 0 _ _ _ _ _ _ h0;obtain⟨b,hb,wb⟩:=HO hu h 1 _ _ _ _ _ _ h1;have e:=A8J hl ha hb;subst e;refine⟨(a,b),⟨wa,wb⟩,rfl,fun j hj=>?_⟩;match j,hj with
  |0,_=>exact⟨i a,.int .i64 a,rfl,rfl,.int _ _⟩
  |1,_=>exact⟨i b,.int .i64 b,rfl,rfl,.int _ _⟩
theorem elS:UH enc bj W base sp held 59 2 AL (fun p=>NJ p.1/\NJ p.2):=elP _ _ Tryz.underlying59 (by kernel_rfl) _ _ _ _ _ _ _ _ _ _ rfl rfl
theorem elN:UH enc bj W base sp held 188 2 AL (fun p=>NJ p.1/\NJ p.2):=elP _ _ Tryz.underlying188 (by kernel_rfl) _ _ _ _ _ _ _ _ _ _ rfl rfl
theorem BGD{cs:List bw}{a b c d:Int}{v w x y z:bw}(hl:cs.length=9)(h0:(cs.drop 0).take 1=[.int .i64 a])(h1:(cs.drop 1).take 1=[.int .i64 b])(h2:(cs.drop 2).take 1=[.int .i64 c])(h3:(cs.drop 3).take 1=[.int .i64 d])(h4:(cs.drop 4).take 1=[v])(h5:(cs.drop 5).take 1=[w])(h6:(cs.drop 6).take 1=[x])(h7:(cs.drop 7).take 1=[y])(h8:(cs.drop 8).take 1=[z]) :
  cs=[.int .i64 a,.int .i64 b,.int .i64 c,.int .i64 d,v,w,x,y,z]:=by
 match cs,hl with
 |[c0,c1,c2,c3,c4,c5,c6,c7,c8],_=>
  simp at h0 h1 h2 h3 h4 h5 h6 h7 h8
  subst h0 h1 h2 h3 h4 h5 h6 h7 h8
  rfl
theorem sP{cs:List bw}{x:DataW H×List MemPlace}(h:DataW.trod enc bj W base sp held fuel 27 cs=some x) :
  ∃b:AN,okB b/\RepL (KZ W) (AC b) cs:=by
 have hl:=UI bk h
 rw[jV]at hl
 obtain⟨n0,h0,w0⟩:=HO bk h 0 _ _ _ _ _ _ rfl
 obtain⟨n1,h1,w1⟩:=HO bk h 1 _ _ _ _ _ _ rfl
 obtain⟨n2,h2,w2⟩:=HO bk h 2 _ _ _ _ _ _ rfl
 obtain⟨n3,h3,w3⟩:=HO bk h 3 _ _ _ _ _ _ rfl
 obtain⟨m4,y4,k4⟩:=EH bk h 4 _ rfl
 obtain⟨m5,y5,k5⟩:=EH bk h 5 _ rfl
 obtain⟨m6,y6,k6⟩:=EH bk h 6 _ rfl
 obtain⟨m7,y7,k7⟩:=EH bk h 7 _ rfl
 obtain⟨m8,y8,k8⟩:=EH bk h 8 _ rfl
 have k4:DataW.trod enc bj W base sp held m4 22 ((cs.drop 4).take (bj.cellsOf 22))=some y4:=k4
 have k5:DataW.trod enc bj W base sp held m5 22 ((cs.drop 5).take (bj.cellsOf 22))=some y5:=k5
 have k6:DataW.trod enc bj W base sp held m6 23 ((cs.drop 6).take (bj.cellsOf 23))=some y6:=k6
 have k7:DataW.trod enc bj W base sp held m7 24 ((cs.drop 7).take (bj.cellsOf 24))=some y7:=k7
 have k8:DataW.trod enc bj W base sp held m8 25 ((cs.drop 8).take (bj.cellsOf 25))=some y8:=k8
 rw[AC1]at k4 k5
 rw[jU]at k6
 rw[AC2]at k7
 rw[AC3]at k8
 obtain⟨l4,v4,e4,o4,r4⟩:=QZ bq elI k4
 obtain⟨l5,v5,e5,o5,r5⟩:=QZ bq elI k5
 obtain⟨l6,v6,e6,o6,r6⟩:=QZ Tryz.underlying23 elL k6
 obtain⟨l7,v7,e7,o7,r7⟩:=QZ Tryz.underlying24 elS k7
 obtain⟨l8,v8,e8,o8,r8⟩:=QZ Tryz.underlying25 elN k8
 rw[BGD hl h0 h1 h2 h3 e4 e5 e6 e7 e8]
 refine⟨⟨n0,n1,n2,n3,l4,l5,l6,l7,l8⟩,⟨w0,w1,w2,w3,o4,o5,o6,o7,o8⟩,?_⟩
 exact RepL.cons rfl (.int _ _) (RepL.cons rfl (.int _ _) (RepL.cons rfl (.int _ _) (RepL.cons rfl (.int _ _) (RepL.cons rfl r4 (RepL.cons rfl r5 (RepL.cons rfl r6 (RepL.cons rfl r7 (RepL.cons rfl r8 ⟨rfl,fun i h1=>by simp at h1⟩))))))))
end
theorem BGE:ownKnob bj.godebug=none:=by kernel_rfl
theorem wR:laidOutB bj=true:=by kernel_rfl
theorem AAU{f:FuncId}{args:List V}{vals:Array bw}{W:World}{n:Nat}(h:EZ bj (AF bj ann kn n) f args=some (.bool true))(ha:RepA (KZ W) args vals.toList) :
  Calls bj f vals W fun e w'=>e=.returned (.bool true)/\Grown W w':=by
 have q:=AGA Kn.hP Kn.hkn h ⟨[],[]⟩
 refine callsIn_wide.1 (q.2 (KZ W) vals W _ (zK W) ha fun G' r v w' s' hle hI hr _ hk=>?_)
 obtain⟨rfl,_⟩:=hk
 cases hr
 exact⟨rfl,iP hle hI⟩
theorem AL3{W W':World}(h:Grown W W'){p:MemPlace}(hp:p.block<W.heap.size):W.sameAt W' p:=by
 have hk:=(World.keptBut_none_iff.1 h.1).2.2;cases p with
 |cell b o=>exact World.cell?_of_block (w:=W) (hk b hp)
 |map b=>exact hk b hp
theorem stays{H:Type}{enc:bx×bw->H}{t:bx}(hr:bj.readableRec t=true)(hrow:t<bj.types.size){W W':World}{v:bw}{d:DataW H}{ps:List MemPlace}
  (h:DataW.Trod enc bj W 0 (fun _=>true) true t v d ps) (hg:Grown W W') (hlt:∀x∈ps,x.block<W.heap.size) {sp:Nat->Bool} (hs:∀p∈ps,sp p.block=true) :
  DataW.Trod enc bj W' 0 sp true t v d ps :=
 WideElems.Trod_stays wR hr hrow h (fun x hx=>AL3 hg (hlt x hx)) hs
section
variable {H:Type}{enc:bx×bw->H}{W:World}{base:Nat}{sp:Nat->Bool}{held:Bool}
set_option maxRecDepth 100000 in
theorem sS{r:Reach}{b0:Nat}{v:bw}{d:DataW H}{ps:List MemPlace}(hval:Value.okWide bj W r b0 5 v)(h:DataW.Trod enc bj W base sp held 5 v d ps) :
  ∃n:Nat,n<=255/\RepV (KZ W) (.int .u8 n) v:=by
 obtain⟨fuel,hf⟩:=h
 obtain⟨n,h1,_,h2⟩:=DataW.trod_int Tryz.underlying5 hf
 obtain⟨m,rfl⟩:=WideShapes.okWide_int Tryz.underlying5 hval
 have h1:[Value.int .u8 m]=[Value.int .u8 n]:=h1
 cases h1
 simp only[Lit.wf,Bool.and_eq_true,decide_eq_true_eq]at h2
 obtain⟨l1,l2⟩:=h2
 have l1:(0:Int)<=n:=l1
 have l2:n<=(255:Int):=l2
 obtain⟨k,rfl⟩:∃k:Nat,n=k:=⟨n.toNat,by omega⟩
 exact⟨k,by omega,.int _ _⟩
theorem AHB:bj.readableRec 5=true:=by kernel_rfl
theorem in5:5<bj.types.size:=of_decide_eq_true (by kernel_rfl)
end
section
variable {H:Type}{enc:bx×bw->H}{W:World}{base:Nat}{sp:Nat->Bool}{held:Bool}
end
end Go.Proofs.Tryz.Op
