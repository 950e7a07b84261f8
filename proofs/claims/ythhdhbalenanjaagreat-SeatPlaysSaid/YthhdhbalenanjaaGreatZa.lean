/- The walk of SeatPlays. No condition. -/
import Derived.Test.YthhdhbalenanjaaGreatD1
import Derived.Test.YthhdhbalenanjaaGreatC1
import Derived.Test.YthhdhbalenanjaaGreatV1
import Derived.Test.YthhdhbalenanjaaGreatFz
open Go Go.Pg Go.Proofs Go.Wind
namespace Go.Proofs.Tryz.Op
set_option maxRecDepth 100000
set_option linter.unusedSimpArgs false
theorem KE(n:Nat)(d:Option Tmp)(st:XS):IQ (BQ Tryz.prog ann kn n) d st 19 []=C4 d st (some (.bool true)):=by
 rw[ZV d rfl (by simp)]; rfl
theorem pD{b:AJ}(h:TF b=true):b.face.length≤100∧b.sun.length≤100∧b.winds.length≤100∧(∀l∈b.winds,l.length≤40)∧b.breaks.length≤100∧b.notes.length≤100:=by
 simp only[TF,Bool.and_eq_true,Bool.not_eq_true',Bool.or_eq_false_iff,Bool.not_eq_false',decide_eq_false_iff_not]at h
 obtain⟨⟨⟨⟨⟨h1,h2⟩,h3⟩,h4⟩,h5⟩,_⟩:=h
 obtain⟨h6,h7⟩:=UV h3
 exact⟨by omega,by omega,by omega,fun l hl=>by have:=h7 l hl; omega,by omega,by omega⟩
theorem A5U(n:Nat)(c:BC)(f:MZ)(H:List (List GD))(hg:∀l∈H,∀x∈l,0≤x.good∧x.good≤100)(s:Int×Int)(h1:0≤s.1)(hr:s.1.toNat<H.length)(h2:0≤s.2)(hf:0≤f.size∧f.size≤4)(hp:s.2+f.size≤((H.getD s.1.toNat []).length:Int))(hl:(H.getD s.1.toNat []).length≤100):AY Tryz.prog kn (AE Tryz.prog ann kn (n+300)) 29 [.agg (AD c),.agg (AR f),.agg (AG s),.list false (H.map BO)]=some (.tup [i (O7 H s.1.toNat s.2.toNat f.size.toNat),.bool (FU H f.good s.1.toNat s.2.toNat f.size.toNat)]):=by
 have e:H.getD s.1.toNat []=H[s.1.toNat]:=by rw[List.getD_eq_getElem?_getD,List.getElem?_eq_getElem hr]; rfl
 rw[e]at hp hl
 have q:=AXC n c f H hg s.1.toNat s.2.toNat hr hf (by omega) hl
 have e1:((s.1.toNat:Nat):Int)=s.1:=by omega
 have e2:((s.2.toNat:Nat):Int)=s.2:=by omega
 rw[e1,e2]at q
 exact q
theorem ALT(c:BC)(hc:HL c)(ss:List (Int×Int))(hs:GI c ss=true)(t:List Int)(ht:AV t c.beach.winds=true)(g:Nat):∀(d k:Nat),k+d=ss.length→∃fr,∀n m,d<m→A9 (AE Tryz.prog ann kn (n+600) 118) XD (ann 118 (BN XD)) m ⟨g,[(1,true,.list false (ss.map AG)),(3,true,.ptr 0 3 0 0),(7,true,sl (((BA c ss).map (GJ (IU c t))).map AH)),(10,true,.list false ((IU c t).map BO)),(11,true,i k)],⟨[],[(3,0,.box (AD c)),(34,1,.dead)]⟩⟩ =
  some (.exit 0,⟨g,fr,⟨[],[(3,0,.box (AD c)),(34,1,.dead)]⟩⟩)
 | 0,k,hd=>by
  obtain rfl:k=ss.length:=by omega
  have hl:(BA c ss).length=ss.length:=by rw[show(BA c ss).length=c.fams.length from D0 (LC hc hs).1,(LC hc hs).1]
  have hO:(((BA c ss).map (GJ (IU c t))).map AH).length=ss.length:=by rw[List.length_map,List.length_map,hl]
  generalize ((BA c ss).map (GJ (IU c t))).map AH=O at *
  cases O with
  | nil =>
   obtain rfl:ss=[]:=List.eq_nil_of_length_eq_zero (by simpa using hO.symm)
   refine⟨?fr,fun n m hm=>?g9⟩
   case g9 =>
    obtain⟨m,rfl⟩:∃m',m=m'+1:=⟨m-1,by omega⟩
    rw[AC]
    conv=>lhs; simp[AD,tJ]
    rfl
  | cons x O =>
   refine⟨?fr2,fun n m hm=>?g8⟩
   case g8 =>
    obtain⟨m,rfl⟩:∃m',m=m'+1:=⟨m-1,by omega⟩
    rw[← hO,AC]
    conv=>lhs; simp[AD,slC]
    rfl
 | d+1,k,hd=>by
  have hk:k<ss.length:=by omega
  obtain⟨hsl,hin⟩:=LC hc hs
  have hsx:∀O:List Int,O.length=ss.length→sl (O.map AH)=.list false (O.map AH):=fun O h=>by
   cases O with
   | nil=>simp at h; omega
   | cons x O=>rfl
  have hl:(BA c ss).length=ss.length:=by rw[show(BA c ss).length=c.fams.length from D0 hsl,hsl]
  rw[hsx _ (by rw[List.length_map,hl])]
  have hkf:k<c.fams.length:=by omega
  have hw:=BH (k:=k) (by have:=hc.fl; omega)
  have hks:k<(BA c ss).length:=by omega
  have hat:(BA c ss)[k]=⟨k,c.fams[k].size,ss[k].1,ss[k].2⟩:=by
   have e:=M1 (k:=0) (fs:=c.fams) (ss:=ss) k hkf hk hks
   rw[Nat.zero_add]at e
   exact e
  obtain⟨x1,x2,x3,x4,x5⟩:=hin _ (List.getElem_mem hks)
  have hlw:=CE ht
  have hl5:=hc.be.hl
  have hro:=hc.be.ro
  have hpl:=hc.be.pl
  obtain⟨o1,o2,o3⟩:=dD hc t (by omega)
  have hrow:=fR hc t (by omega) x1 x2
  rw[hat]at x1 x2 x3 x4 x5 hrow
  simp only at x1 x2 x3 x4 x5 hrow
  have qH:=fun n=>A5U n c c.fams[k] (IU c t) (fun l hl x hx=>by have:=o3 l hl x hx; omega) ss[k] x1 (by rw[o1]; omega) x3 (by omega) (by rw[hrow]; omega) (by rw[hrow]; omega)
  have hsum:GJ (IU c t) (BA c ss)[k]=O7 (IU c t) ss[k].1.toNat ss[k].2.toNat c.fams[k].size.toNat:=by rw[hat]; rfl
  obtain⟨fr,ih⟩:=ALT c hc ss hs t ht g d (k+1) (by omega)
  refine⟨fr,fun n m hm=>?_⟩
  obtain⟨m,rfl⟩:∃m',m=m'+1:=⟨m-1,by omega⟩
  have ih:=ih n m (by omega)
  rw[hsx _ (by rw[List.length_map,hl])]at ih
  generalize hHN:O7 (IU c t) ss[k].1.toNat ss[k].2.toNat c.fams[k].size.toNat=HN at *
  generalize FU (IU c t) c.fams[k].good ss[k].1.toNat ss[k].2.toNat c.fams[k].size.toNat=HP at *
  generalize BA c ss=L at *
  simp only[IU]at ih qH hsum ⊢
  generalize DP c.beach c.plan t c.beach.rows.toNat=H at *
  rw[AC]
  simp only[AD,AR,AG]at ih qH ⊢
  simp at ih
  simp[hk,hw,hkf,hks,hl,hsum,AR,AG,AS,A4,BO,B7,AH,qH,EZ,ih]
set_option maxHeartbeats 4000000 in
theorem pE(n:Nat)(c:BC)(_:okC c)(ss:List (Int×Int))(_:∀p∈ss,MY p.1∧MY p.2)(t:List Int)(_:∀x∈t,MY x):EL Tryz.prog (AE Tryz.prog ann kn (n+9000)) 3 [.agg (AD c),.list false (ss.map AG),li t]=some (.bool true):=by
 rw[AO Tryz.func3 b3 rfl (by simp[AD,AH,AN,AG,AS,A4,AR])]
 have qT:=fun n=>AL3 n c
 cases hT:aV c with
 | false =>
  rw[hT]at qT
  simp only[AD]at qT ⊢
  simp[c3,AF,qT,AH,AN,AG,AS,A4,AR,KE]
 | true =>
 rw[hT]at qT
 by_cases h6:(6:Int)<ss.length
 ·simp only[AD]at qT ⊢
  simp[c3,AF,qT,h6,AH,AN,AG,AS,A4,AR,KE]
 by_cases h7:(7:Int)<t.length
 ·simp only[AD]at qT ⊢
  simp[c3,AF,qT,h6,h7,AH,AN,AG,AS,A4,AR,KE]
 obtain⟨t1,t2,t3,t4,t5,t6⟩:=WL hT
 obtain⟨l1,l2,l3,l4,l5,l6⟩:=pD t1
 have l100:∀l∈c.beach.winds,l.length≤100:=fun l hl=>by have:=l4 l hl; omega
 have qC:=fun n=>AL8 n c hT
 have qS:=fun n=>AED n ss (by omega)
 have qP:=fun n=>AL2 n c l4 (by omega) ss t
 have qf:=fun n=>AEH n c l100 (by omega) (by omega)
 have qk:=fun n=>WF n c l4 (by omega)
 have hai:=ARB (k:=0) (l:=t) (by omega)
 have hti:=fun fr (L:AB) h=>vN (t:=34) (c:=2) (l:=0) (q:=34) (γ:=1) (n:=t.length) (fr:=fr) (s:=⟨[],(34,1,.vec 3 (t.map AH)) :: L⟩) (U:=3) (es:=t.map AH) h (by simp) (by simp) (by omega)
 have htk:(t.map AH).take t.length=t.map AH:=List.take_of_length_le (by simp)
 rw[htk]at hti
 unfold pN at qP
 by_cases h0:EU c=0
 ·have hc:=TM h0
  rw[h0]at qf qk
  rw[if_neg (by simp[h0])]at qP
  have hro:=hc.be.ro
  have hpl:=hc.be.pl
  have hch:=hc.ch
  have hfl:=hc.fl
  have hb0:HX c 0=CJ c []:=by
   have:∀N,H5 0 N=[]:=fun N=>by
    unfold H5
    simp
   unfold HX
   rw[this]
  have qG:∀n,AY Tryz.prog kn (AE Tryz.prog ann kn (n+200)) 26 [.agg (AD c),i 0]=some (sl ((HX c 0).map B8)):=fun n=>xI n c (by omega) 0
  rw[hb0]at qG
  have qI:=fun n=>mC n c (by omega) (by omega) (by omega) (fun l hl=>by have:=hc.cr l hl; omega) (CJ c []) (by rw[E2]; omega) ss (fun g hg=>by have:=P1 hc [] _ (Nat.le_refl _) g hg; omega)
  rw[dF hc]at qI
  have qL:=fun n=>lC n c.beach hc.be t
  have hcg:∀e∈(CJ c []).map B8,∀v∈e,AL 8 v=true:=fun e he v hv=>by
   obtain⟨l,_,rfl⟩:=List.mem_map.1 he
   simp only[B8,List.mem_cons,List.not_mem_nil,or_false]at hv
   rcases hv with rfl | rfl <;> rfl
  by_cases hs:GI c ss=true
  ·by_cases ht:AV t c.beach.winds=true
   ·have hpo:=dN hc.pl
    have qR:=fun n=>AC7 n c.beach hc.be c.plan hpo t ht
    rw[AH6 hc.be hpo ht]at qR
    have hne:DP c.beach c.plan t c.beach.rows.toNat≠[]:=fun e=>by
     have e2:=congrArg List.length e
     simp[DP]at e2
     omega
    rw[if_pos ⟨hs,ht⟩]at qP
    obtain⟨fr,q⟩:=ALT c hc ss hs t ht 2 ss.length 0 (by omega)
    have q:=fun n m=>q n (m+101) (by omega)
    rw[hs]at qI
    rw[ht]at qL
    have hO:(((BA c ss).map (GJ (IU c t))).map AH).length=ss.length:=by rw[List.length_map,List.length_map,show(BA c ss).length=c.fams.length from D0 (LC hc hs).1,(LC hc hs).1]
    simp only[IU]at qP q hO
    rw[slX hne]at qR
    have hcO:∀e∈((BA c ss).map (GJ (DP c.beach c.plan t c.beach.rows.toNat))).map AH,∀v∈e,AL 8 v=true:=fun e he v hv=>by
     obtain⟨l,_,rfl⟩:=List.mem_map.1 he
     simp only[AH,List.mem_cons,List.not_mem_nil,or_false]at hv
     rcases hv with rfl; rfl
    generalize ((BA c ss).map (GJ (DP c.beach c.plan t c.beach.rows.toNat))).map AH=O at *
    generalize DP c.beach c.plan t c.beach.rows.toNat=H at *
    generalize (CJ c []).map B8=GG at *
    have hcg:=eq_true hcg
    simp only[AD,AA,OM,G8]at qT qC qS qP qf qk qG qI qL qR q ⊢
    cases O with
    | nil =>
     obtain rfl:ss=[]:=List.eq_nil_of_length_eq_zero (by simpa using hO.symm)
     simp[tJ]at q qP qS qI
     simp[c3,AF,qT,h6,h7,qC,qS,qP,qf,qk,qG,hcg,qI,qL,qR,q,hai,hti,tJ,EZ,AH,AN,AG,AS,A4,AR,BO,B7,KE]
    | cons x O =>
     simp[slC]at q qP hO
     simp[c3,AF,qT,h6,h7,qC,qS,qP,qf,qk,qG,hcg,qI,qL,qR,q,hai,hti,hO,slC,EZ,AH,AN,AG,AS,A4,AR,BO,B7,KE]
   ·have ht:AV t c.beach.winds=false:=by simpa using ht
    rw[if_neg (by simp[ht])]at qP
    rw[hs]at qI
    rw[ht]at qL
    generalize (CJ c []).map B8=GG at *
    have hcg:=eq_true hcg
    simp only[AD,AA,OM,G8]at qT qC qS qP qf qk qG qI qL ⊢
    simp[tJ]at qP
    simp[c3,AF,qT,h6,h7,qC,qS,qP,qf,qk,qG,hcg,qI,qL,hai,hti,tJ,EZ,AH,AN,AG,AS,A4,AR,KE]
  ·have hs:GI c ss=false:=by simpa using hs
   rw[if_neg (by simp[hs])]at qP
   rw[hs]at qI
   generalize (CJ c []).map B8=GG at *
   have hcg:=eq_true hcg
   simp only[AD,AA,OM,G8]at qT qC qS qP qf qk qG qI ⊢
   simp[tJ]at qP
   simp[c3,AF,qT,h6,h7,qC,qS,qP,qf,qk,qG,hcg,qI,hai,hti,tJ,EZ,AH,AN,AG,AS,A4,AR,KE]
 ·rw[if_pos h0]at qP
  generalize EU c=E at *
  simp only[AD,OM,G8]at qT qC qS qP qf qk ⊢
  simp[tJ]at qP
  simp[c3,AF,qT,h6,h7,qC,qS,qP,qf,qk,h0,hai,hti,tJ,EZ,AH,AN,AG,AS,A4,AR,KE]
  done
end Go.Proofs.Tryz.Op
