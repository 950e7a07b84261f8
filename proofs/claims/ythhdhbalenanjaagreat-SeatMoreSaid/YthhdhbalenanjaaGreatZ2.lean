/- The contract of the law's some: a case without some families. No condition but few of them. -/
import Derived.Test.YthhdhbalenanjaaGreatA3
import Derived.Test.YthhdhbalenanjaaGreatZ1
import Derived.Test.YthhdhbalenanjaaGreatC3
import Derived.Test.YthhdhbalenanjaaGreatD3
open Go.Proofs.Tryz renaming prog->bb
open List renaming length_map->bj,map_append->bk,map_cons->bq,map_nil->bw,map_take->bx
set_option maxRecDepth 100000
set_option linter.unusedSimpArgs false
open Go Go.Pg Go.Proofs Go.Wind
namespace Go.Proofs.Tryz.Op
theorem M7{ss:List (Int×Int)}(f:Nat):∀e∈ss.map AJ,∀v∈e,AG (f+1) v=true:=fun e he v hv=>by obtain⟨l,_,rfl⟩:=List.mem_map.1 he;simp only[AJ,List.mem_cons,List.not_mem_nil,or_false]at hv;rcases hv with rfl|rfl<;>rfl
theorem sU{l:List K7}{m:Nat}(h:(l.length+m)*24<=140737488355327):B5 bb 57 m (l.map AS)=true:=by rw[B9 (by simp) (by simp)];simp[maxLen,AS];omega
theorem AP2{s:St}(l:List (List V)){j:Nat}(hj:j<=l.length):CD bb s 49 (.list false l) none (some (i j)) none=some (.list false (l.take j)):=by have:=eN (P:=bb) (s:=s) (T:=49) (e:=135) (es:=l) (h:=(j:Int)) (b:=false) (by kernel_rfl) (by simp) (by omega) (by omega);simpa using this
theorem AEE{G:List (Nat×Int)}(f:Nat):∀e∈G.map A9,∀v∈e,AG (f+1) v=true:=fun e he v hv=>by obtain⟨l,_,rfl⟩:=List.mem_map.1 he;simp only[A9,List.mem_cons,List.not_mem_nil,or_false]at hv;rcases hv with rfl|rfl<;>rfl
set_option maxHeartbeats 4000000 in
theorem AEF(n:Nat)(c:AO)(_:okC c)(hz:c.fams.length*24<=140737488351232)(f:K7)(_:okF f):E7 bb (AE bb ann kn (n+10000)) 12 [.agg (AD c),.agg (AS f)]=some (.bool true):=by
 rw[AQ Tryz.func12 b12 rfl (by simp[AD,AH,AN,AJ,AW,BH,AS])];have qr:=fun n=>AA4 n c;have qx:=fun n=>AA4 n (CK c f);have a1:B5 bb 57 0 (c.fams.map AS)=true:=sU (by omega);have a2:B5 bb 57 c.fams.length [[i f.size,i f.good,.bool f.dog,.bool f.shy]]=true:=by have:=sU (l:=[f]) (m:=c.fams.length) (by simp;omega);simpa [AS]using this
 have hpos:Nat.beq 2 1=false:=rfl;cases hR:fB c with
 |false=>
  rw[hR]at qr
  simp only[AD]at qr|-
  simp[c12,AF,qr,AH,AN,AJ,AW,BH,AS,DB,GU,a1,a2,V8,A0,BV,B8,BF,FD,EQ,hpos]
 |true=>
 rw[hR]at qr;cases hX:fB (CK c f)with
 |false=>
  rw[hX]at qx
  simp only[AD,CK,bk,bq,bw]at qr qx|-
  simp[AS]at qx
  simp[c12,AF,qr,qx,AH,AN,AJ,AW,BH,AS,DB,GU,a1,a2,V8,A0,BV,B8,BF,FD,EQ,hpos]
 |true=>
 rw[hX]at qx;simp only[fB,Bool.and_eq_true,decide_eq_true_eq]at hR hX;obtain⟨hT,h0⟩:=hR;obtain⟨hTx,h0x⟩:=hX;have hc:=QB h0;have hx:=QB h0x;obtain⟨t1,t2,t3,t4,t5,t6⟩:=SA hT;obtain⟨l1,l2,l3,l4,l5,l6⟩:=fA t1;have hfl:=hx.fl;rw[MF]at hfl;have hro:=hc.be.ro;have hpl:=hc.be.pl;have hch:=hc.ch;have qC:=fun n=>AFE n c hT;have qCx:=fun n=>AFE n (CK c f) hTx;have qL:=fun n=>xL n c l4 (by omega);have qM:=fun n=>xL n (CK c f) l4 (show c.chairs.length<=40 by omega);have qb:=fun n=>AE8 n c l4 (by omega);have qbx:=fun n=>AE8 n (CK c f) l4 (show c.chairs.length<=40 by omega);obtain⟨y,hy,hl⟩:=OV c;obtain⟨z,hz2,hm⟩:=OV (CK c f);unfold ZC at qL qM;rw[if_neg (by simp[h0]),hy,Option.getD_some]at qL;rw[if_neg (by simp[h0x]),hz2,Option.getD_some]at qM;rw[MF]at hm;obtain⟨g1,g2⟩:=tK hx hl hm;have hyl:y.length<=3:=by have:=TF hl.inc (Nat.zero_le _);omega
 have w1:IntKind.i64.wrap ((y.length:Int)+1)=(y.length:Int)+1:=AV (by omega) (by omega);have hn1:¬(z.length:Int)<(y.length:Int):=by omega
 have hn2:¬(y.length:Int)+1<(z.length:Int):=by omega
 unfold WF at qb qbx;rw[if_neg (by simp[h0])]at qb;rw[if_neg (by simp[h0x])]at qbx;cases hO:JG (CK c f)with
 |none=>
  rw[hO]at qbx
  simp only at qbx
  clear hy hz2 hl hm
  cases hOc:JG c with
  |none=>
   rw[hOc]at qb
   simp only at qb
   simp only[AD,TL,JA,CK,bk,bq,bw]at qr qx qC qCx qL qM qb qbx|-
   simp[AS,eH]at qx qCx qM qbx qb
   simp[c12,AF,qr,qx,qC,qCx,qL,qM,qb,qbx,w1,hn1,hn2,AH,AN,AJ,AW,BH,AS,DB,GU,a1,a2,V8,A0,BV,B8,BF,FD,EQ,hpos]
   done
  |some q=>
   rw[hOc]at qb
   simp only at qb
   have b7:=eq_true (M7 (ss:=q.1.map Q3) 6)
   have b8:=eq_true (M7 (ss:=q.1.map Q3) 7)
   generalize (q.1.map Q3).map AJ=QQ at *
   simp only[AD,TL,JA,CK,bk,bq,bw]at qr qx qC qCx qL qM qb qbx|-
   simp[AS,eH]at qx qCx qM qbx qb
   simp[c12,AF,qr,qx,qC,qCx,qL,qM,qb,qbx,w1,hn1,hn2,AH,AN,AJ,AW,BH,AS,DB,GU,a1,a2,V8,A0,BV,B8,BF,FD,EQ,hpos,b7,b8]
   done
 |some q=>
  obtain⟨b,t⟩:=q
  obtain⟨b',t',hOc,hsun⟩:=ABJ hx hO
  have hOk:mM (CK c f) (AX (CK c f)) (AR (CK c f) []) b:=QD.1 (WD hO).1
  have hb:=xG hOk
  have hbl:(b.map Q3).length=c.fams.length+1:=by rw[bj,<-bj (f:=ZX),hOk.gr,DE,MF]
  have hk2:mM c (AX c) (AR c []) (b.take c.fams.length):=by have:=jX hx hOk;rwa [DE]at this
  obtain⟨hs2,hs3⟩:=xG hk2
  rw[bx]at hs2 hs3
  have hR:=(A5Y hc hs2).1
  rw[hs3]at hR
  rw[hR]at hsun
  have hgm:∀g∈AR (CK c f) [],g.1<(CK c f).fams.length/\0<=g.2/\g.2<=4:=fun g hg=>by have:=IZ hx [] _ (Nat.le_refl _) g hg;exact⟨this.1,by omega,by omega⟩
  have hgc:∀g∈AR c [],g.1<c.fams.length/\0<=g.2/\g.2<=4:=fun g hg=>by have:=IZ hc [] _ (Nat.le_refl _) g hg;exact⟨this.1,by omega,by omega⟩
  have hGl:=DE (CK c f)
  rw[MF]at hGl
  have hGt:(AR (CK c f) []).take c.fams.length=AR c []:=by rw[OW,<-DE c,List.take_left]
  have qG:∀n,A3 bb kn (AE bb ann kn (n+200)) 26 [.agg (AD (CK c f)),i 0]=some (sl ((JC (CK c f) 0).map A9)):=fun n=>AFD n (CK c f) (by rw[MF];omega) 0
  rw[AED]at qG
  have qBk:=fun n=>AT4 n (b.map Q3) (by omega)
  have qI:=fun n=>tM n (CK c f) (show 0<=c.beach.rows/\c.beach.rows<=1000 by omega) (show 0<=c.beach.places/\c.beach.places<=1000 by omega) (show c.chairs.length<=100 by omega) (fun l hl=>by have:=hc.cr l hl;omega) (AR (CK c f) []) (by omega) (b.map Q3) hgm
  rw[kB hx,hb.1]at qI
  have qS:=fun n=>AT3 n c hc
  have qSun:∀n,A3 bb kn (AE bb ann kn (n+500)) 37 [HU (LI c),.list false ((AR c []).map A9),.list false (((b.map Q3).take c.fams.length).map AJ)]=some (i (AT0 c ((b.map Q3).take c.fams.length))):=fun n=>A5X c hc (LI c) (AFF hc) (AR c []) ((b.map Q3).take c.fams.length) hgc (by rw[DE,List.length_take];omega) (by rw[List.length_take];omega) (ATZ hs2) n
  rw[hOc]at qb
  rw[hO]at qbx
  simp only at qb qbx
  have b7:=eq_true (M7 (ss:=b'.map Q3) 6)
  have b8:=eq_true (M7 (ss:=b'.map Q3) 7)
  have x7:=eq_true (M7 (ss:=b.map Q3) 6)
  have x8:=eq_true (M7 (ss:=b.map Q3) 7)
  have hN:IntKind.i64.wrap (c.fams.length:Int)=(c.fams.length:Int):=AV (by omega) (by omega)
  have hGn:AR (CK c f) []≠[]:=fun e=>by rw[e]at hGl;cases hGl
  have hBn:b.map Q3≠[]:=fun e=>by rw[e]at hbl;cases hbl
  have hsG:sl ((AR (CK c f) []).map A9)=.list false ((AR (CK c f) []).map A9):=slX (by simpa using hGn)
  have hsB:sl ((b.map Q3).map AJ)=.list false ((b.map Q3).map AJ):=slX (by simpa using hBn)
  have tG:∀s:St,CD bb s 49 (.list false ((AR (CK c f) []).map A9)) none (some (i (c.fams.length:Int))) none=some (.list false ((AR c []).map A9)):=fun s=>by rw[AP2 _ (by rw[bj];omega),<-bx,hGt]
  have tB:∀s:St,CD bb s 24 (.list false ((b.map Q3).map AJ)) none (some (i (c.fams.length:Int))) none=some (.list false (((b.map Q3).take c.fams.length).map AJ)):=fun s=>by rw[X0 _ (by omega),<-bx]
  have g7:=eq_true (AEE (G:=AR (CK c f) []) 7)
  clear hy hz2 hl hm hOk hb hk2 hs2 hs3 hR hGt
  rw[hsG]at qG
  rw[hsB]at qbx qBk
  have lG:((AR (CK c f) []).map A9).length=c.fams.length+1:=by rw[bj,hGl]
  have lB:((b.map Q3).map AJ).length=c.fams.length+1:=by rw[bj,hbl]
  generalize ((b.map Q3).take c.fams.length).map AJ=SS at *
  generalize AT0 c ((b.map Q3).take c.fams.length)=SU at *
  generalize (AR (CK c f) []).map A9=GX at *
  generalize (AR c []).map A9=GC at *
  generalize (b.map Q3).map AJ=BX at *
  generalize (b'.map Q3).map AJ=BC at *
  generalize LI c=SR at *
  simp only[AD,TL,JA,CK,bk,bq,bw]at qr qx qC qCx qL qM qb qbx qG qI qS|-
  simp[AS]at qx qCx qM qbx qG qI
  simp[c12,AF,qr,qx,qC,qCx,qL,qM,qb,qbx,qG,qI,qS,qBk,qSun,w1,hn1,hn2,hN,lG,lB,tG,tB,SD,R9,FP,hsun,AH,AN,AJ,AW,BH,AS,DB,GU,a1,a2,V8,A0,BV,B8,BF,FD,EQ,hpos,b7,b8,x7,x8,g7]
  done
end Go.Proofs.Tryz.Op
