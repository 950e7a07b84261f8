/- Readers of the rows' data: a beach, lists, words, numbers; what serves each law. No condition. -/
import Derived.Test.YthhdhbalenanjaaGreatRows
import Derived.Test.YthhdhbalenanjaaGreatY0
import Derived.Test.YthhdhbalenanjaaGreatY1
import Derived.Test.YthhdhbalenanjaaGreatW1
import Derived.JoinedOf
import Derived.JoinedAt
namespace Go.Proofs.Tryz.Op
open Go Go.Pg Go.ChangeShapes Go.WideShapes Go.ChangeAt Go.RowKit Go.Wind
open Go.Proofs.YthhdhbalenanjaaGreat
section
variable {H:Type}{enc:TypeId×Value→H}{W:World}{base:Nat}{sp:Nat→Bool}{held:Bool}{fuel:Nat}
theorem kU{n:Int}(h:(Lit.int .i64 n).wf=true):LO n:=by simp only[Lit.wf,Bool.and_eq_true,decide_eq_true_eq]at h;obtain⟨h1,h2⟩:=h;have h1:(-9223372036854775808:Int)≤n:=h1;have h2:n≤(9223372036854775807:Int):=h2;exact⟨h1,by omega⟩
theorem HO{t:TypeId}{fs:Array Field}{cs:List Value}{x:DataW H×List MemPlace}(hu:Tryz.prog.underlying t=some (.struct fs))(h:DataW.trod enc Tryz.prog W base sp held fuel t cs=some x)(i o:Nat)(nm:String)(em:Bool)(tg pk:String)(bo:Nat)(hf:fs[i]? = some ⟨nm,3,o,em,tg,pk,bo⟩) :
  ∃n,(cs.drop o).take 1=[.int .i64 n]∧LO n:=by
 obtain⟨m,y,hy⟩:=EW hu h i _ hf
 have hy:DataW.trod enc Tryz.prog W base sp held m 3 ((cs.drop o).take (Tryz.prog.cellsOf 3))=some y:=hy
 rw[AN8]at hy
 obtain⟨n,h1,_,h2⟩:=DataW.trod_int Tryz.underlying3 hy
 exact⟨n,h1,kU h2⟩
theorem elI:WE enc Tryz.prog W base sp held 3 1 AJ LO where
 c:=by kernel_rfl
 k0:=by decide
 len:=fun _=>rfl
 cell:=fun x v hv=>by simp[AJ]at hv;subst hv;rfl
 r:=by
  intro fuel cs x h;obtain⟨n,h1,_,h2⟩:=DataW.trod_int Tryz.underlying3 h;refine⟨n,kU h2,by rw[h1];rfl,fun j hj=>?_⟩;have:j=0:=by omega
  subst this;exact⟨i n,.int .i64 n,rfl,by rw[h1];rfl,.int _ _⟩
theorem elL:WE enc Tryz.prog W base sp held 22 1 AM (fun l=>∀n∈l,LO n) where
 c:=by kernel_rfl
 k0:=by decide
 len:=fun _=>rfl
 cell:=fun x v hv=>by simp[AM]at hv;subst hv;rfl
 r:=by
  intro fuel cs x h;obtain⟨L,v,h1,h2,h3⟩:=SG Tryz.underlying22 elI h;refine⟨L,h2,by rw[h1];rfl,fun j hj=>?_⟩;have:j=0:=by omega
  subst this;exact⟨li L,v,rfl,by rw[h1];rfl,h3⟩
theorem BGK{cs:List Value}{a b:Int}(hl:cs.length=2)(ha:(cs.drop 0).take 1=[.int .i64 a])(hb:(cs.drop 1).take 1=[.int .i64 b]):cs=[.int .i64 a,.int .i64 b]:=by
 match cs,hl with
 |[x,y],_=>
  simp at ha hb
  subst ha hb
  rfl
theorem elP(t:TypeId)(fs:Array Field)(hu:Tryz.prog.underlying t=some (.struct fs))(hc:Tryz.prog.cellsOf t=2)(n0 n1 tg0 tg1 pk0 pk1:String)(em0 em1:Bool)(bo0 bo1:Nat)(h0:fs[0]? = some ⟨n0,3,0,em0,tg0,pk0,bo0⟩)(h1:fs[1]? = some ⟨n1,3,1,em1,tg1,pk1,bo1⟩):WE enc Tryz.prog W base sp held t 2 AF (fun p=>LO p.1∧LO p.2) where
 c:=hc
 k0:=by decide
 len:=fun _=>rfl
 cell:=fun x v hv=>by simp[AF]at hv;rcases hv with rfl|rfl<;>rfl
 r:=by
  intro fuel cs x h;have hl:=WF hu h;rw[hc]at hl;obtain⟨a,ha,wa⟩:=HO hu h 0 _ _ _ _ _ _ h0;obtain⟨b,hb,wb⟩:=HO hu h 1 _ _ _ _ _ _ h1;have e:=BGK hl ha hb;subst e;refine⟨(a,b),⟨wa,wb⟩,rfl,fun j hj=>?_⟩;match j,hj with
  |0,_=>exact⟨i a,.int .i64 a,rfl,rfl,.int _ _⟩
  |1,_=>exact⟨i b,.int .i64 b,rfl,rfl,.int _ _⟩
theorem elS:WE enc Tryz.prog W base sp held 59 2 AF (fun p=>LO p.1∧LO p.2):=elP _ _ Tryz.underlying59 (by kernel_rfl) _ _ _ _ _ _ _ _ _ _ rfl rfl
theorem elN:WE enc Tryz.prog W base sp held 188 2 AF (fun p=>LO p.1∧LO p.2):=elP _ _ Tryz.underlying188 (by kernel_rfl) _ _ _ _ _ _ _ _ _ _ rfl rfl
theorem BPQ{cs:List Value}{a b c d:Int}{v w x y z:Value}(hl:cs.length=9)(h0:(cs.drop 0).take 1=[.int .i64 a])(h1:(cs.drop 1).take 1=[.int .i64 b])(h2:(cs.drop 2).take 1=[.int .i64 c])(h3:(cs.drop 3).take 1=[.int .i64 d])(h4:(cs.drop 4).take 1=[v])(h5:(cs.drop 5).take 1=[w])(h6:(cs.drop 6).take 1=[x])(h7:(cs.drop 7).take 1=[y])(h8:(cs.drop 8).take 1=[z]) :
  cs=[.int .i64 a,.int .i64 b,.int .i64 c,.int .i64 d,v,w,x,y,z]:=by
 match cs,hl with
 |[c0,c1,c2,c3,c4,c5,c6,c7,c8],_=>
  simp at h0 h1 h2 h3 h4 h5 h6 h7 h8
  subst h0 h1 h2 h3 h4 h5 h6 h7 h8
  rfl
theorem yF{cs:List Value}{x:DataW H×List MemPlace}(h:DataW.trod enc Tryz.prog W base sp held fuel 27 cs=some x) :
  ∃b:AK,okB b∧RepL (LA W) (AC b) cs:=by
 have hl:=WF Tryz.underlying27 h
 rw[oQ]at hl
 obtain⟨n0,h0,w0⟩:=HO Tryz.underlying27 h 0 _ _ _ _ _ _ rfl
 obtain⟨n1,h1,w1⟩:=HO Tryz.underlying27 h 1 _ _ _ _ _ _ rfl
 obtain⟨n2,h2,w2⟩:=HO Tryz.underlying27 h 2 _ _ _ _ _ _ rfl
 obtain⟨n3,h3,w3⟩:=HO Tryz.underlying27 h 3 _ _ _ _ _ _ rfl
 obtain⟨m4,y4,k4⟩:=EW Tryz.underlying27 h 4 _ rfl
 obtain⟨m5,y5,k5⟩:=EW Tryz.underlying27 h 5 _ rfl
 obtain⟨m6,y6,k6⟩:=EW Tryz.underlying27 h 6 _ rfl
 obtain⟨m7,y7,k7⟩:=EW Tryz.underlying27 h 7 _ rfl
 obtain⟨m8,y8,k8⟩:=EW Tryz.underlying27 h 8 _ rfl
 have k4:DataW.trod enc Tryz.prog W base sp held m4 22 ((cs.drop 4).take (Tryz.prog.cellsOf 22))=some y4:=k4
 have k5:DataW.trod enc Tryz.prog W base sp held m5 22 ((cs.drop 5).take (Tryz.prog.cellsOf 22))=some y5:=k5
 have k6:DataW.trod enc Tryz.prog W base sp held m6 23 ((cs.drop 6).take (Tryz.prog.cellsOf 23))=some y6:=k6
 have k7:DataW.trod enc Tryz.prog W base sp held m7 24 ((cs.drop 7).take (Tryz.prog.cellsOf 24))=some y7:=k7
 have k8:DataW.trod enc Tryz.prog W base sp held m8 25 ((cs.drop 8).take (Tryz.prog.cellsOf 25))=some y8:=k8
 rw[AHF]at k4 k5
 rw[oP]at k6
 rw[AHG]at k7
 rw[AHH]at k8
 obtain⟨l4,v4,e4,o4,r4⟩:=SG Tryz.underlying22 elI k4
 obtain⟨l5,v5,e5,o5,r5⟩:=SG Tryz.underlying22 elI k5
 obtain⟨l6,v6,e6,o6,r6⟩:=SG Tryz.underlying23 elL k6
 obtain⟨l7,v7,e7,o7,r7⟩:=SG Tryz.underlying24 elS k7
 obtain⟨l8,v8,e8,o8,r8⟩:=SG Tryz.underlying25 elN k8
 rw[BPQ hl h0 h1 h2 h3 e4 e5 e6 e7 e8]
 refine⟨⟨n0,n1,n2,n3,l4,l5,l6,l7,l8⟩,⟨w0,w1,w2,w3,o4,o5,o6,o7,o8⟩,?_⟩
 exact RepL.cons rfl (.int _ _) (RepL.cons rfl (.int _ _) (RepL.cons rfl (.int _ _) (RepL.cons rfl (.int _ _) (RepL.cons rfl r4 (RepL.cons rfl r5 (RepL.cons rfl r6 (RepL.cons rfl r7 (RepL.cons rfl r8 ⟨rfl,fun i h1=>by simp at h1⟩))))))))
end
theorem BPR:ownKnob Tryz.prog.godebug=none:=by kernel_rfl
theorem ACA:laidOutB Tryz.prog=true:=by kernel_rfl
theorem AFC{f:FuncId}{args:List V}{vals:Array Value}{W:World}{n:Nat}(h:FB Tryz.prog (AE Tryz.prog ann kn n) f args=some (.bool true))(ha:RepA (LA W) args vals.toList) :
  Calls Tryz.prog f vals W fun e w'=>e=.returned (.bool true)∧Grown W w':=by
 have q:=AKS Kn.hP Kn.hkn h ⟨[],[]⟩
 refine callsIn_wide.1 (q.2 (LA W) vals W _ (AEC W) ha fun G' r v w' s' hle hI hr _ hk=>?_)
 obtain⟨rfl,_⟩:=hk
 cases hr
 exact⟨rfl,mW hle hI⟩
theorem ARB{W W':World}(h:Grown W W'){p:MemPlace}(hp:p.block<W.heap.size):W.sameAt W' p:=by
 have hk:=(World.keptBut_none_iff.1 h.1).2.2;cases p with
 |cell b o=>exact World.cell?_of_block (w:=W) (hk b hp)
 |map b=>exact hk b hp
theorem stays{H:Type}{enc:TypeId×Value→H}{t:TypeId}(hr:Tryz.prog.readableRec t=true)(hrow:t<Tryz.prog.types.size){W W':World}{v:Value}{d:DataW H}{ps:List MemPlace}
  (h:DataW.Trod enc Tryz.prog W 0 (fun _=>true) true t v d ps) (hg:Grown W W') (hlt:∀x∈ps,x.block<W.heap.size) {sp:Nat→Bool} (hs:∀p∈ps,sp p.block=true) :
  DataW.Trod enc Tryz.prog W' 0 sp true t v d ps :=
 WideElems.Trod_stays ACA hr hrow h (fun x hx=>ARB hg (hlt x hx)) hs
section
variable {H:Type}{enc:TypeId×Value→H}{W:World}{base:Nat}{sp:Nat→Bool}{held:Bool}
end
section
variable {H:Type}{enc:TypeId×Value→H}{W:World}{base:Nat}{sp:Nat→Bool}{held:Bool}
set_option maxRecDepth 100000 in
theorem AFD{r:Reach}{b0:Nat}{v:Value}{d:DataW H}{ps:List MemPlace}(hval:Value.okWide Tryz.prog W r b0 101 v)(h:DataW.Trod enc Tryz.prog W base sp held 101 v d ps) :
  ∃ws:List Nat,(∀w∈ws,w≤65535)∧RepV (LA W) (.list false (ws.map JF)) v:=by
 obtain⟨fuel,hf⟩:=h
 obtain⟨a0,len0,cap0,rfl⟩:=WideShapes.okWide_slice Tryz.underlying101 hval
 rcases open_ints Tryz.underlying101 Tryz.underlying100 (by kernel_rfl) hf with⟨e,_⟩|⟨a,len,cap,zs,e,_,hlc,_,hzl,_,hcell,hwf⟩
 ·have e:[Value.slice a0 len0 cap0]=[Value.slice none 0 0]:=e;cases e;exact⟨[],by simp,RepV.list false [] none 0 0 0 0 #[] 0 (0,0) (fun _ _=>undef) (by simp) (by simp) (by simp) (by simp) (by simp) (by simp)⟩
 ·have e:[Value.slice a0 len0 cap0]=[Value.slice (some a) len cap]:=e;cases e;have hz:len0≤zs.length:=by rw[hzl];split<;>omega
  have hnn:∀n∈zs,0≤n∧n≤65535:=fun n hn=>by have h2:=hwf n hn;simp only[Lit.wf,Bool.and_eq_true,decide_eq_true_eq]at h2;obtain⟨l1,l2⟩:=h2;have l1:(0:Int)≤n:=l1;have l2:n≤(65535:Int):=l2;exact⟨l1,l2⟩
  refine⟨(zs.take len0).map Int.toNat,fun w hw=>?_,?_⟩
  ·obtain⟨n,hn,rfl⟩:=List.mem_map.1 hw;have:=hnn n (List.mem_of_mem_take hn);omega
  ·have hlen:len0=(((zs.take len0).map Int.toNat).map JF).length:=by simp;omega
   generalize hes:((zs.take len0).map Int.toNat).map JF=es at hlen;have hget:∀i (hi:i<es.length),es[i]=[.int .u16 (zs.getD i 0)]:=fun i hi=>by
    subst hes;have h1:i<zs.length:=by omega
    have h0:=(hnn zs[i] (List.getElem_mem h1)).1;simp[JF,List.getD_eq_getElem?_getD,h1];omega
   rw[hlen];by_cases h0:es=[]
   ·subst h0;exact RepV.list false [] (some a) cap0 0 0 0 #[] 0 (0,0) (fun _ _=>undef) (by simp) (by simp) (by simp) (by simp) (by simp) (by simp)
   ·have hpos:0<es.length:=List.length_pos_iff.2 h0;have hc0:=hcell 0 (by omega);obtain⟨arr,T,fz,hheap,hspot⟩:∃arr T fz,W.heap[a.block]? = some (.cells arr T fz)∧a.spot=none:=by
     unfold World.cell? at hc0;simp only[Addr.add,Nat.add_zero]at hc0;split at hc0
     ·rename_i c T fz hh;refine⟨c,T,fz,hh,?_⟩;cases hs:a.spot with
      |none=>rfl
      |some _=>simp[hs]at hc0
     ·simp at hc0
    have hc:∀i,i<es.length→arr[a.off+i]? = some (.int .u16 (zs.getD i 0)):=fun i hi=>by
     have q:=hcell i (by omega);unfold World.cell? at q;by_cases hi0:i=0
     ·subst hi0;simpa [Addr.add,hheap,hspot]using q
     ·simpa [Addr.add,hheap,hspot,hi0]using q
    refine RepV.list false es (some a) cap0 a.block a.off 1 arr T fz (fun i j=>.int .u16 (zs.getD i 0)) (by omega) (by simp) ?_ ?_ ?_ ?_
    ·intro _;exact⟨by rw[←hspot],hheap⟩
    ·intro i hi;rw[hget i hi];rfl
    ·intro i hi j hj;have hj0:j=0:=by rw[hget i hi]at hj;simpa using hj
     subst hj0;refine⟨by simpa using hc i hi,?_⟩;simp only[hget i hi];rfl
    ·intro i hi j hj;have hj0:j=0:=by rw[hget i hi]at hj;simpa using hj
     subst hj0;simp only[hget i hi];exact .int _ _
theorem ARC:Tryz.prog.readableRec 101=true:=by kernel_rfl
theorem BGL:101<Tryz.prog.types.size:=of_decide_eq_true (by kernel_rfl)
end
end Go.Proofs.Tryz.Op
