/- The walk of SeatPlays. No condition. -/
import Derived.Test.YthhdhbalenanjaaGreatD1
import Derived.Test.YthhdhbalenanjaaGreatC1
import Derived.Test.YthhdhbalenanjaaGreatV1
import Derived.Test.YthhdhbalenanjaaGreatFz
import Derived.Test.YthhdhbalenanjaaGreatS3
set_option maxRecDepth 100000
set_option linter.unusedSimpArgs false
open Go Go.Pg Go.Proofs Go.Wind
namespace Go.Proofs.Tryz.Op
theorem P4(n:Nat)(d:Option Tmp)(st:XS):G4 (BN Tryz.prog ann kn n) d st 19 []=DE d st (some (.bool true)):=by rw[bF d rfl (by simp)];rfl
theorem sI{b:AJ}(h:UG b=true):b.face.length≤100∧b.sun.length≤100∧b.winds.length≤100∧(∀l∈b.winds,l.length≤40)∧b.breaks.length≤100∧b.notes.length≤100:=by simp only[UG,Bool.and_eq_true,Bool.not_eq_true',Bool.or_eq_false_iff,Bool.not_eq_false',decide_eq_false_iff_not]at h;obtain⟨⟨⟨⟨⟨h1,h2⟩,h3⟩,h4⟩,h5⟩,_⟩:=h;obtain⟨h6,h7⟩:=VU h3;exact⟨by omega,by omega,by omega,fun l hl=>by have:=h7 l hl;omega,by omega,by omega⟩
theorem A9F(n:Nat)(c:A3)(f:L9)(H:List (List EI))(hg:∀l∈H,∀x∈l,0≤x.good∧x.good≤100)(s:Int×Int)(h1:0≤s.1)(hr:s.1.toNat<H.length)(h2:0≤s.2)(hf:0≤f.size∧f.size≤4)(hp:s.2+f.size≤((H.getD s.1.toNat []).length:Int))(hl:(H.getD s.1.toNat []).length≤100):AW Tryz.prog kn (AE Tryz.prog ann kn (n+300)) 29 [.agg (AD c),.agg (AO f),.agg (AG s),.list false (H.map BF)]=some (.tup [i (NW H s.1.toNat s.2.toNat f.size.toNat),.bool (EU H f.good s.1.toNat s.2.toNat f.size.toNat)]):=by
 have e:H.getD s.1.toNat []=H[s.1.toNat]:=by rw[List.getD_eq_getElem?_getD,List.getElem?_eq_getElem hr];rfl
 rw[e]at hp hl;have q:=A0S n c f H hg s.1.toNat s.2.toNat hr hf (by omega) hl;have e1:((s.1.toNat:Nat):Int)=s.1:=by omega
 have e2:((s.2.toNat:Nat):Int)=s.2:=by omega
 rw[e1,e2]at q;exact q
theorem AGK(n:Nat)(c:A3)(hc:DW c)(ss:List (Int×Int))(hs:DX c ss=true)(k:Nat)(hk:k<c.fams.length)(hks:k<ss.length):AW Tryz.prog kn (AE Tryz.prog ann kn (n+2600)) 32 [.agg (AD c),.agg (AO c.fams[k]),.agg (AG ss[k])]=some (.tup [.agg (DT ((EN c ss).getD k (0,0))),i ((EO c ss).getD k 0)]):=by
 have hsl:(AY c ss).length=c.fams.length:=C6 (EG hc hs).1;have hkq:k<(AY c ss).length:=by omega
 have hat:(AY c ss)[k]=⟨k,c.fams[k].size,ss[k].1,ss[k].2⟩:=by have e:=NP (k:=0) (fs:=c.fams) (ss:=ss) k hk hks hkq;rw[Nat.zero_add]at e;exact e
 obtain⟨x1,x2,x3,x4,x5⟩:=(EG hc hs).2 _ (List.getElem_mem hkq);rw[hat]at x1 x2 x3 x4 x5;simp only at x1 x2 x3 x4 x5;have hl5:=hc.be.hl;have hro:=hc.be.ro;have hpl:=hc.be.pl;have hpo:=fO hc.pl;have hT:∀t∈BJ c.beach,(E3 c t).length=c.beach.rows.toNat∧(∀l∈E3 c t,∀x∈l,0≤x.good∧x.good≤5)∧((E3 c t).getD ss[k].1.toNat []).length=c.beach.places.toNat:=fun t ht=>by have hlw:=BU (E5 ht);obtain⟨o1,o2,o3⟩:=RN hc t (by omega);have hrow:=XI hc t (by omega) x1 x2;exact⟨o1,fun l hl x hx=>by have:=o3 l hl x hx;omega,by omega⟩
 have q:=yS n c hc c.fams[k] ss[k] (E3 c) (fun t=>NW (E3 c t) ss[k].1.toNat ss[k].2.toNat c.fams[k].size.toNat) (fun t=>EU (E3 c t) c.fams[k].good ss[k].1.toNat ss[k].2.toNat c.fams[k].size.toNat) (fun n t ht=>by
  have qR:=AFW n c.beach hc.be c.plan hpo t (E5 ht);rw[AK9 hc.be hpo (E5 ht)]at qR;have hne:DH c.beach c.plan t c.beach.rows.toNat≠[]:=fun e=>by have e2:=congrArg List.length e;simp[DH]at e2;omega
  rw[slX hne]at qR;exact qR) (fun n t ht=>by
  obtain⟨o1,o3,hrow⟩:=hT t ht;exact A9F (n+1100) c c.fams[k] (E3 c t) (fun l hl x hx=>by have:=o3 l hl x hx; omega) ss[k] x1 (by rw[o1]; omega) x3 (by omega) (by rw[hrow]; omega) (by rw[hrow]; omega))
 rw[q,KA hc hs,RI hc hs,List.getD_eq_getElem?_getD,List.getD_eq_getElem?_getD,List.getElem?_map,List.getElem?_map,List.getElem?_range hk];simp only[Option.map_some,Option.getD_some];have e1:(BJ c.beach).map (fun t=>(FB c ss t).getD k 0)=(BJ c.beach).map fun t=>NW (E3 c t) ss[k].1.toNat ss[k].2.toNat c.fams[k].size.toNat:=by apply List.map_congr_left;intro t _;rw[FB,List.getD_eq_getElem?_getD,List.getElem?_map,List.getElem?_eq_getElem hkq,hat];rfl
 have e2:∀t∈BJ c.beach,WY c ss k t=EU (E3 c t) c.fams[k].good ss[k].1.toNat ss[k].2.toNat c.fams[k].size.toNat:=fun t ht=>by rw[WY,List.getD_eq_getElem?_getD,List.getD_eq_getElem?_getD,List.getElem?_map,List.getElem?_eq_getElem hk,List.getElem?_eq_getElem hkq,hat];simp only[Option.map_some,Option.getD_some];have hrow:=(hT t ht).2.2;exact AKJ (x:=⟨k,c.fams[k].size,ss[k].1,ss[k].2⟩) x3 (by simp only;omega) (by simp only;rw[hrow];omega)
 rw[e1,tL (l:=BJ c.beach) (m:=BJ c.beach) (q:=WY c ss k) (u:=fun t=>EU (E3 c t) c.fams[k].good ss[k].1.toNat ss[k].2.toNat c.fams[k].size.toNat) ⟨fun h t ht=>by rw[←e2 t ht];exact h t ht,fun h t ht=>by rw[e2 t ht];exact h t ht⟩ ⟨fun h t ht=>by rw[←e2 t ht];exact h t ht,fun h t ht=>by rw[e2 t ht];exact h t ht⟩]
theorem BIA(a1 a2 b1 b2:Int)(h1:K8 a1)(h2:K8 a2)(g1:K8 b1)(g2:K8 b2):OH Tryz.prog 69 [i a1,i a2] [i b1,i b2]=some (decide (a1=b1)&&decide (a2=b2)):=by
 have kl:∀a b:Int,K8 a→K8 b→Program.keyLits Tryz.prog 16 69 [.int .i64 a,.int .i64 b]=some [.int .i64 a,.int .i64 b]:=fun a b ha hb=>by unfold Program.keyLits;simp[Tryz.underlying69,k3I (wfI ha),k3I (wfI hb)]
 have kt:(wV Tryz.prog 69&&Program.keyTypeAt Tryz.prog 16 69&&!(Tryz.prog.eqGuardType Tryz.prog.depth 69))=true:=by kernel_rfl
 unfold OH;simp[D2,kl _ _ h1 h2,kl _ _ g1 g2];refine⟨⟨by simpa using kt,by simp[CT]⟩,?_⟩;simp only[JW,Bool.and_true];congr 1
theorem sJ{c:A3}(hc:DW c){ss:List (Int×Int)}(hs:DX c ss=true):∀x∈EN c ss,K8 x.1∧K8 x.2:=fun x hx=>by
 rw[KA hc hs]at hx;obtain⟨q,hq,rfl⟩:=List.mem_map.1 hx;have hq:q<c.fams.length:=by simpa using hq
 have hsl:(AY c ss).length=c.fams.length:=C6 (EG hc hs).1;have:=fK ((BJ c.beach).map fun t=>(FB c ss t).getD q 0) B6 (-1) 1099511627776 (fun y hy=>by
  obtain⟨t,ht,rfl⟩:=List.mem_map.1 hy;have:=aZ hc hs ((JL _ _).2 ht) ((FB c ss t).getD q 0) (by
   rw[List.getD_eq_getElem?_getD,List.getElem?_eq_getElem (by simp[FB,hsl]; exact hq)];exact List.getElem_mem _)
  omega) (by decide) (by decide)
 simp only[B6]at this⊢;exact⟨⟨by omega,by omega⟩,by omega,by omega⟩
theorem AO4(c:A3)(hc:DW c)(ss:List (Int×Int))(hs:DX c ss=true)(hne:ss≠[]):∀(d k g:Nat),k+d=ss.length→0<g→∃fr g',∀n m,d<m→BC (AE Tryz.prog ann kn (n+2700) 130) YN (ann 130 (BR YN)) m ⟨g,[(1,true,.list false (ss.map AG)),(2,true,.ptr 0 2 0 0),(5,true,.list false ((EN c ss).map DT)),(7,true,.list false ((EO c ss).map AH)),(10,true,i k)],⟨[],[(2,0,.box (AD c))]⟩⟩ =
  some (.exit 0,⟨g',fr,⟨[],[(2,0,.box (AD c))]⟩⟩)
 |0,k,g,hd,hg=>by
  obtain rfl:k=ss.length:=by omega
  have hB:(EN c ss).length=ss.length:=by rw[KA hc hs,(EG hc hs).1];simp
  refine⟨?fr,g,fun n m hm=>?g9⟩;case g9=>
   obtain⟨m,rfl⟩:∃m',m=m'+1:=⟨m-1,by omega⟩
   rw[←hB,AC]
   conv=>lhs;simp[AD]
   rfl
 |d+1,k,g,hd,hg=>by
  have hk:k<ss.length:=by omega
  have hkf:k<c.fams.length:=by rw[←(EG hc hs).1];exact hk
  have hw:=BH (k:=k) (by have:=hc.fl;omega);have qB:=fun n=>AGK n c hc ss hs k hkf hk;have hB:(EN c ss).length=ss.length:=by rw[KA hc hs,(EG hc hs).1];simp
  have hC:(EO c ss).length=ss.length:=by rw[RI hc hs,(EG hc hs).1];simp
  obtain⟨fr,g',ih⟩:=AO4 c hc ss hs hne d (k+1) (g+1) (by omega) (by omega);refine⟨fr,g',fun n m hm=>?_⟩;obtain⟨m,rfl⟩:∃m',m=m'+1:=⟨m-1,by omega⟩;have ih:=ih n m (by omega);have hkB:k<(EN c ss).length:=by omega
  have hkC:k<(EO c ss).length:=by omega
  rw[List.getD_eq_getElem?_getD,List.getD_eq_getElem?_getD,List.getElem?_eq_getElem hkB,List.getElem?_eq_getElem hkC]at qB;simp only[Option.getD_some]at qB;obtain⟨ok1,ok2⟩:=sJ hc hs _ (List.getElem_mem hkB);generalize hX:(EN c ss)[k]=X at *;have hE:=BIA X.1 X.2 X.1 X.2 ok1 ok2 ok1 ok2;generalize hY:(EO c ss)[k]=Y at *;generalize EN c ss=B at *;generalize EO c ss=C at *;rw[AC];simp only[AD,AO,AG,DT]at ih qB⊢;simp at ih;simp[hk,hkf,hkB,hkC,hB,hC,hw,hg,AO,AG,DT,AR,AH,AM,qB,hX,hY,hE,ET,ih];done
set_option maxHeartbeats 4000000 in
theorem oE(n:Nat)(c:A3)(_:okC c)(ss:List (Int×Int))(_:∀p∈ss,K8 p.1∧K8 p.2):E4 Tryz.prog (AE Tryz.prog ann kn (n+9600)) 4 [.agg (AD c),.list false (ss.map AG)]=some (.bool true):=by
 rw[AP Tryz.func4 b4 rfl (by simp[AD,AH,AM,AG,AR,A0,AO])];have qT:=fun n=>APE n c;cases hT:cS c with
 |false=>
  rw[hT]at qT
  simp only[AD]at qT⊢
  simp[c4,AF,qT,AH,AM,AG,AR,A0,AO,P4]
 |true=>
 rw[hT]at qT;by_cases h6:(6:Int)<ss.length
 ·simp only[AD]at qT⊢;simp[c4,AF,qT,h6,AH,AM,AG,AR,A0,AO,P4]
 obtain⟨t1,t2,t3,t4,t5,t6⟩:=XL hT;obtain⟨l1,l2,l3,l4,l5,l6⟩:=sI t1;have l100:∀l∈c.beach.winds,l.length≤100:=fun l hl=>by have:=l4 l hl;omega
 have qC:=fun n=>API n c hT;have qS:=fun n=>AG6 n ss (by omega);have qB:=fun n=>AEN n c l4 (by omega) ss;have qD:=fun n=>yR n c l4 (by omega) ss;have qf:=fun n=>AG9 n c l100 (by omega) (by omega);by_cases h0:DM c=0
 ·have hc:=K9 h0;rw[h0]at qf;have hro:=hc.be.ro;have hpl:=hc.be.pl;have hch:=hc.ch;have hfl:=hc.fl;have hb0:ID c 0=CO c []:=by
   have:∀N,IM 0 N=[]:=fun N=>by unfold IM;simp
   unfold ID;rw[this]
  have qG:∀n,AW Tryz.prog kn (AE Tryz.prog ann kn (n+200)) 26 [.agg (AD c),i 0]=some (sl ((ID c 0).map CD)):=fun n=>AAT n c (by omega) 0;rw[hb0]at qG;have qI:=fun n=>oS n c (by omega) (by omega) (by omega) (fun l hl=>by have:=hc.cr l hl;omega) (CO c []) (by rw[FJ];omega) ss (fun g hg=>by have:=QX hc [] _ (Nat.le_refl _) g hg;omega);rw[fE hc]at qI;have hcg:∀e∈(CO c []).map CD,∀v∈e,AK 8 v=true:=fun e he v hv=>by obtain⟨l,_,rfl⟩:=List.mem_map.1 he;simp only[CD,List.mem_cons,List.not_mem_nil,or_false]at hv;rcases hv with rfl|rfl<;>rfl
  by_cases hs:DX c ss=true
  ·have ha:DS c ss=0:=by simp[DS,h0,hs]
   rw[ha,if_pos rfl]at qB qD;rw[hs]at qI;have hBl:(EN c ss).length=ss.length:=by rw[KA hc hs,(EG hc hs).1];simp
   have hCl:(EO c ss).length=ss.length:=by rw[RI hc hs,(EG hc hs).1];simp
   by_cases hne:ss=[]
   ·subst hne;have b0:EN c []=[]:=List.eq_nil_of_length_eq_zero hBl;have c0:EO c []=[]:=List.eq_nil_of_length_eq_zero hCl;rw[b0]at qB;rw[c0]at qD;generalize (CO c []).map CD=GG at *;have hcg:=eq_true hcg;simp only[AD,AB,PK,HR]at qT qC qS qB qD qf qG qI⊢;simp[slN]at qB qD qS qI;simp[c4,AF,qT,h6,qC,qS,qB,qD,qf,qG,hcg,qI,slN,ET,AH,AM,AG,AR,A0,AO,DT,P4,AC];done
   ·obtain⟨fr,g',q⟩:=AO4 c hc ss hs hne ss.length 0 1 (by omega) (by omega);have q:=fun n m=>q n (m+101) (by omega);have hne2:EN c ss≠[]:=fun e=>by rw[e]at hBl;exact hne (List.eq_nil_of_length_eq_zero hBl.symm)
    rw[slX hne2]at qB;generalize EN c ss=B at *;generalize EO c ss=C at *;generalize (CO c []).map CD=GG at *;have hcg:=eq_true hcg;simp only[AD,AB,PK,HR]at qT qC qS qB qD qf qG qI q⊢;simp at q;simp[c4,AF,qT,h6,qC,qS,qB,qD,qf,qG,hcg,qI,hBl,hCl,q,slN,ET,AH,AM,AG,AR,A0,AO,DT,P4];done
  ·have hs:DX c ss=false:=by simpa using hs
   have ha:DS c ss=2:=by simp[DS,h0,hs]
   rw[ha,if_neg (by decide)]at qB qD;rw[hs]at qI;generalize (CO c []).map CD=GG at *;have hcg:=eq_true hcg;simp only[AD,AB,PK,HR]at qT qC qS qB qD qf qG qI⊢;simp[slN]at qB qD;simp[c4,AF,qT,h6,qC,qS,qB,qD,qf,qG,hcg,qI,slN,ET,AH,AM,AG,AR,A0,AO,P4];done
 ·have ha:DS c ss=DM c:=by simp[DS,h0]
  rw[ha,if_neg h0]at qB qD;generalize DM c=E at *;simp only[AD,PK,HR]at qT qC qS qB qD qf⊢;simp[slN]at qB qD;simp[c4,AF,qT,h6,qC,qS,qB,qD,qf,h0,slN,ET,AH,AM,AG,AR,A0,AO,P4];done
end Go.Proofs.Tryz.Op
