/- Contracts: a valid family, a row of chairs. No condition. -/
import Derived.Test.YthhdhbalenanjaaGreatA1
import Derived.Test.YthhdhbalenanjaaGreatFz
import Derived.Test.YthhdhbalenanjaaGreatW3
set_option maxRecDepth 100000
set_option linter.unusedSimpArgs false
open Go Go.Pg Go.Proofs Go.Wind
namespace Go.Proofs.Tryz.Op
theorem RJ(n:Nat)(x lo hi:Int):AW Tryz.prog kn (AE Tryz.prog ann kn (n+50)) 163 [i x,i lo,i hi]=some (.bool (FN x lo hi)):=by rw[AP rfl,AO Tryz.func163 BDB rfl (by simp)];unfold FN;generalize e1:decide (lo≤x)=z1;generalize e2:decide (x≤hi)=z2;cases z1<;>cases z2<;>simp[A1N,AG,e1,e2]
theorem sJ(n:Nat)(f:NL):AW Tryz.prog kn (AE Tryz.prog ann kn (n+200)) 121 [.agg (AQ f)]=some (.bool (KI f)):=by rw[AP rfl,AO Tryz.func121 BDC rfl (by simp[AQ])];have q1:=fun n=>RJ n f.size 1 4;have q2:=fun n=>RJ n f.good 0 5;unfold KI;generalize FN f.size 1 4=z1 at *;generalize FN f.good 0 5=z2 at *;cases z1<;>cases z2<;>simp[A1O,AG,AQ,q1,q2]
theorem ALB(n:Nat)(c:A0)(l:List Bool):AW Tryz.prog kn (AE Tryz.prog ann kn (n+200)) 118 [.agg (AD c),lb l]=some (.bool (decide ((l.length:Int)=c.beach.places))):=by rw[AP rfl,AO Tryz.func118 BDD rfl (by simp[AD,AH,AL,AF,AR,AY,AQ])];generalize e1:decide ((l.length:Int)=c.beach.places)=z1;cases z1<;>simp[A1P,AG,AD,e1]
theorem QP{b:AJ}:(EZ b [] b.winds []).isEmpty=true↔BU b=[]:=by
 rw[List.isEmpty_iff];constructor<;>intro h<;>refine List.eq_nil_iff_forall_not_mem.2 fun t ht=>?_
 ·have:=(iD b t).2 (H1.1 ht);rw[h]at this;cases this
 ·have:=H1.2 ((iD b t).1 ht);rw[h]at this;cases this
theorem W9(c:A0):(HL c.beach c.plan).2=if CI c.beach≠0 then CI c.beach else if DK c.beach c.plan=false then 2 else if BU c.beach=[] then 11 else 0:=by
 unfold HL;by_cases h:CI c.beach=0
 ·simp only[h,ne_eq,not_true_eq_false,if_true,if_false];cases hp:DK c.beach c.plan with
  |false=>rfl
  |true=>
   simp only[if_true,Bool.true_eq_false,if_false]
   by_cases ht:BU c.beach=[]
   ·rw[if_pos (QP.2 ht),if_pos ht]
   ·rw[if_neg fun hh=>ht (QP.1 hh),if_neg ht]
 ·rw[if_neg h,if_pos h]
theorem oA(c:A0)(h40:∀l∈c.beach.winds,l.length≤40)(hch:c.chairs.length≤40)(h:¬EJ c=0)(B:AA)(hB:∀t:St,1≤t.up.length→AN t B=B)(g d:Nat)(fr:Fr):∀n,H9 (BN Tryz.prog ann kn (n+8000)) (some d) ⟨g,fr,⟨[],B⟩⟩ 71 [.agg (AD c)] =
  some ⟨g+1,(d,true,.tup [.raw (.pointer none),i (EJ c)])::fr,⟨[],B⟩⟩:=by
 intro n
 rw[vA Tryz.func71 b71 rfl (by simp)]
 have q1:=fun n=>nR n c.beach h40 c.plan
 rw[W9]at q1
 unfold EJ at h⊢
 by_cases h3:3<c.fams.length
 ·have h3':(3:Int)<(c.fams.length:Int):=by omega
  rw[if_pos h3];simp[c71,AG,AD,h3',hB]
 ·have h3':¬(3:Int)<(c.fams.length:Int):=by omega
  rw[if_neg h3]at h⊢;have qa:=fun n=>ALA n 200 121 KI c.fams (by omega) (fun n f _=>sJ n f);have qr:=fun n=>AK9 n 200 c 118 (fun l=>decide ((l.length:Int)=c.beach.places)) c.chairs hch (fun n l _=>ALB n c l);by_cases h4:CI c.beach≠0
  ·rw[if_pos h4]at q1⊢;generalize (HL c.beach c.plan).1=R at q1;generalize CI c.beach=E at *;simp only[AC,AD]at q1⊢;simp[c71,AG,h3',q1,h4,hB]
  ·rw[if_neg h4]at q1 h⊢;cases h5:DK c.beach c.plan with
   |false=>
    rw[h5,if_pos rfl]at q1
    rw[if_pos rfl]
    generalize (HL c.beach c.plan).1=R at q1
    simp only[AC,AD]at q1⊢
    simp[c71,AG,h3',q1,hB]
   |true=>
    rw[h5,if_neg (by decide)]at q1 h
    rw[if_neg (by decide)]
    by_cases h6:BU c.beach=[]
    ·rw[if_pos h6]at q1⊢;generalize (HL c.beach c.plan).1=R at q1;simp only[AC,AD]at q1⊢;simp[c71,AG,h3',q1,hB]
    ·rw[if_neg h6]at q1 h⊢;have hc1:(if GS c=false then(1:Int) else if c.fams.all KI=false then 1 else 0)=1:=by
      split at h
      ·rw[if_pos (by assumption)]
      ·rw[if_neg (by assumption)];split at h
       ·rw[if_pos (by assumption)]
       ·exact absurd rfl h
     rw[hc1];simp only[Nat.add_assoc,Nat.reduceAdd]at qa qr;generalize (HL c.beach c.plan).1=R at q1;by_cases hl:(c.chairs.length:Int)=c.beach.rows
     ·cases hr:c.chairs.all (fun l=>decide ((l.length:Int)=c.beach.places))with
      |false=>
       rw[hr]at qr
       simp only[AC,AD]at q1 qr⊢
       simp[c71,AG,h3',q1,qr,hl,hB,AR,AY,AQ]
      |true=>
       rw[hr]at qr
       cases hf:c.fams.all KI with
       |true=>
        exfalso
        rw[if_neg (by simp[GS,hl,hr]),if_neg (by simp[hf])]at h
        exact h rfl
       |false=>
        rw[hf]at qa
        simp only[AC,AD]at q1 qr qa⊢
        simp[c71,AG,h3',q1,qr,qa,hl,hB,AR,AY,AQ]
     ·simp only[AC,AD]at q1⊢;simp[c71,AG,h3',q1,hl,hB]
def E2(l:List nX)(n:Nat):List Int:=(List.range 5).map fun p=>if p<n then(l.getD p ⟨0,(0,0),(0,0)⟩).good.1 else 0
def encA(l:List Int):List V:=l.map fun x=>i x
theorem vX(l:List nX)(n:Nat):∃a0 a1 a2 a3 a4:Int,encA (E2 l n)=[i a0,i a1,i a2,i a3,i a4]:=⟨_,_,_,_,_,rfl⟩
theorem EQ{P:Program}{fr:Fr}{s:St}(e d c:Nat)(y:List V)(ys:List (List V))(h:B4 P e 0 (y::ys)=true):rP P e d c fr s .nil (y::ys)=some (⟨c+1,(d,true,.vec s.up.length d c (ys.length+1))::fr,s.put s.up.length d c (.vec e (y::ys))⟩,[(s.up.length,d),(s.up.length,d+F9)]):=by unfold rP;simp[H4,h]
theorem BB3{k:Nat}(h:k≤1000)(a0 a1 a2 a3 a4:Int):B4 Tryz.prog 206 k [[i a0,i a1,i a2,i a3,i a4]]=true:=by rw[CA (by simp) (by simp)];simp[maxLen];omega
def rv(k γ:Nat):List (List V)→V
 |[]=>.nil
 |e::es=>.vec 1 k γ (e::es).length
abbrev bxW(c:A0)(g:Nat)(v:V):AX:=.box (AD c++[v,.mp 1 51 (g+1)])
theorem zX{l:List nX}{j:Nat}(hj:j<l.length):(encA (E2 l j)).set j (i l[j].good.1)=encA (E2 l (j+1)):=by
 apply List.ext_getElem (by simp[encA,E2]);intro p h1 h2;have hp:p<5:=by simpa [encA,E2]using h2
 rw[List.getElem_set];simp only[encA,E2,List.getElem_map,List.getElem_range];by_cases e:j=p
 ·subst e;rw[if_pos rfl,if_pos (by omega),List.getD_eq_getElem?_getD,List.getElem?_eq_getElem hj];rfl
 ·rw[if_neg e];by_cases hlt:p<j
  ·rw[if_pos hlt,if_pos (by omega)]
  ·rw[if_neg hlt,if_neg (by omega)]
theorem zY{l:List nX}{j:Nat}(hj:j<l.length)(h5:l.length≤5):(encA (E2 l j)).take j++i l[j].good.1::(encA (E2 l j)).drop (j+1)=encA (E2 l (j+1)):=by rw[←zX hj,List.set_eq_take_append_cons_drop,if_pos (by simp[encA,E2];omega)]
theorem iP(l:List nX)(j:Nat):(encA (E2 l j)).length=5:=by simp[encA,E2]
theorem ALD(B:AA)(g x γ:Nat)(X1 X53:AX)(S:List (List V))(l:List nX)(h5:l.length≤5)(v54 v55 v56:V):∀(e j y:Nat),j+e=l.length→x<y→∃(y':Nat),y≤y'∧∀n m,e<m→A9 (AE Tryz.prog ann kn (n+300) 85) SI (ann 85 (BS SI)) m ⟨y,[(7,true,.ptr 1 53 (g+2) 0),(10,true,.ptr 1 10 x 0),(54,true,v54),(55,true,v55),(56,true,v56),(60,true,.list false (l.map PA)),(61,true,i l.length),(62,true,i j)],⟨[B],(1,g,X1)::(10,x,.box (encA (E2 l j)))::(51,g+1,.map [])::(53,g+2,X53)::pl 80 γ 206 S⟩⟩ =
  some (.exit 2,⟨y',[(63,true,.bool false),(7,true,.ptr 1 53 (g+2) 0),(10,true,.ptr 1 10 x 0),(54,true,v54),(55,true,v55),(56,true,v56),(60,true,.list false (l.map PA)),(61,true,i l.length),(62,true,i l.length)],⟨[B],(1,g,X1)::(10,x,.box (encA (E2 l l.length)))::(51,g+1,.map [])::(53,g+2,X53)::pl 80 γ 206 S⟩⟩)
 |0,j,y,hm,hc=>by
  obtain rfl:j=l.length:=by omega
  refine⟨y,Nat.le_refl _,fun n m hm=>?_⟩;obtain⟨m,rfl⟩:∃m',m=m'+1:=⟨m-1,by omega⟩;generalize encA (E2 l l.length)=A;rw[AB];cases S<;>simp
 |e+1,j,y,hm,hc=>by
  have hj:j<l.length:=by omega
  have hw:=BJ (k:=j) (by omega);have hset:=zY hj h5;have hlen:=iP l j;obtain⟨y',hy,ih⟩:=ALD B g x γ X1 X53 S l h5 v54 v55 v56 e (j+1) (y+1) (by omega) (by omega);refine⟨y',by omega,fun n m hm=>?_⟩;obtain⟨m,rfl⟩:∃m',m=m'+1:=⟨m-1,by omega⟩;have ih:=ih n m (by omega);rw[←hset]at ih;generalize encA (E2 l l.length)=fin at *;generalize encA (E2 l j)=A at *;rw[AB];have hj5:(j:Int)<5:=by omega
  cases S<;>(simp[PA]at ih;simp[hj,hw,hj5,hlen,PA,BF,show j≤4 by omega,show x<y+1 by omega,ih])
theorem ALE(c:A0)(B:AA)(g:Nat)(R:List (List nX))(hR:R.length≤100)(hRl:∀l∈R,l.length≤5):∀(e k x γ:Nat),k+e=R.length→g+2<x→∃(x' γ':Nat),x≤x'∧∀n m,e<m→A9 (AE Tryz.prog ann kn (n+600) 85) SJ (ann 85 (BS SJ)) m ⟨x,[(7,true,.ptr 1 53 (g+2) 0),(54,true,.list false (R.map GO)),(55,true,i R.length),(56,true,i k)],⟨[B],(1,g,.box (AD c))::(51,g+1,.map [])::(53,g+2,bxW c g (rv 80 γ ((R.take k).map fun l=>encA (E2 l l.length))))::pl 80 γ 206 ((R.take k).map fun l=>encA (E2 l l.length))⟩⟩ =
  some (.exit 0,⟨x',[(57,true,.bool false),(7,true,.ptr 1 53 (g+2) 0),(54,true,.list false (R.map GO)),(55,true,i R.length),(56,true,i R.length)],⟨[B],(1,g,.box (AD c))::(51,g+1,.map [])::(53,g+2,bxW c g (rv 80 γ' (R.map fun l=>encA (E2 l l.length))))::pl 80 γ' 206 (R.map fun l=>encA (E2 l l.length))⟩⟩)
 |0,k,x,γ,hm,hc=>by
  obtain rfl:k=R.length:=by omega
  rw[List.take_length];refine⟨x,γ,Nat.le_refl _,fun n m hm=>?_⟩;obtain⟨m,rfl⟩:∃m',m=m'+1:=⟨m-1,by omega⟩;generalize hS:R.map (fun l=>encA (E2 l l.length))=S;rw[AB];cases S<;>simp[AD,rv]
 |e+1,k,x,γ,hm,hc=>by
  have hk:k<R.length:=by omega
  have hw:=BJ (k:=k) (by omega);have hl5:=hRl R[k] (List.getElem_mem hk);have hst:(R.take (k+1)).map (fun l=>encA (E2 l l.length))=(R.take k).map (fun l=>encA (E2 l l.length))++[encA (E2 R[k] R[k].length)]:=by rw[List.take_succ_eq_append_getElem hk,List.map_append];rfl
  have hSl:((R.take k).map fun l=>encA (E2 l l.length)).length=k:=by rw[List.length_map,List.length_take];omega
  obtain⟨y',hy,q15⟩:=ALD B g x γ (.box (AD c)) (bxW c g (rv 80 γ ((R.take k).map fun l=>encA (E2 l l.length)))) ((R.take k).map fun l=>encA (E2 l l.length)) R[k] hl5 (.list false (R.map GO)) (i R.length) (i k) R[k].length 0 (x+1) (by omega) (by omega);have q15:=fun n m=>q15 n (m+100) (by omega);have h0:encA (E2 R[k] 0)=[i 0,i 0,i 0,i 0,i 0]:=rfl;obtain⟨a0,a1,a2,a3,a4,hA⟩:=vX R[k] R[k].length;have hS5:∀e∈(R.take k).map (fun l=>encA (E2 l l.length)),e.length=5:=fun e he=>by obtain⟨l,_,rfl⟩:=List.mem_map.1 he;exact iP l _
  have hp5:Nat.beq 5 1=false:=rfl;have hap:=BB3 (k:=((R.take k).map fun l=>encA (E2 l l.length)).length) (by omega) a0 a1 a2 a3 a4;obtain⟨x',γ',hxx,ih⟩:=ALE c B g R hR hRl e (k+1) (y'+1) y' (by omega) (by omega);refine⟨x',γ',by omega,fun n m hm=>?_⟩;obtain⟨m,rfl⟩:∃m',m=m'+1:=⟨m-1,by omega⟩;have ih:=ih n m (by omega);rw[hst,hA]at ih;rw[hA,h0]at q15;generalize (R.take k).map (fun l=>encA (E2 l l.length))=S at *;generalize R.map (fun l=>encA (E2 l l.length))=fin at *;rw[AB];cases S with
  |nil=>
   simp[AD,rv,bxW]at ih q15 hap
   simp[AD,rv,bxW,hk,hw,GO,q15,ih,hap,E1,F9,BF,EQ,show x<y'+1 by omega,show g+2<y'+1 by omega,show g+1<y'+1 by omega,BR,BW,A8,D9,DY,hp5]
  |cons s S=>
   have hs5:=hS5 s (by simp)
   have hS6:∀e∈S,e.length=5:=fun e he=>hS5 e (by simp[he])
   have hS7:=eq_true hS6
   simp[AD,rv,bxW]at ih q15 hap
   simp[AD,rv,bxW,hk,hw,GO,q15,ih,hap,E1,F9,BF,show x<y'+1 by omega,show g+2<y'+1 by omega,show g+1<y'+1 by omega,BR,BW,A8,D9,DY,hp5,hs5,hS7]
theorem BB4(st:XS):LY [911051,912053] st=(fun s=>gQ 53 (OW 0 s) 911 [] s) (gQ 51 (OW 0 st) 910 [] st):=rfl
def ALF(c:A0):List (List Int):=(FM c.beach (FY c.beach) c.plan c.beach.rows.toNat).map fun l=>E2 l l.length
def eW(c:A0)(γ:Nat):List V:=AD c++[.list false ((ALF c).map encA),.mp 0 910 γ]
theorem AGE(c:A0)(hc:D8 c)(B:AA)(hB:∀t:St,1≤t.up.length→AN t B=B)(g d:Nat)(fr:Fr):∃g',g+3≤g'∧∀n,H9 (BN Tryz.prog ann kn (n+8000)) (some d) ⟨g,fr,⟨[],B⟩⟩ 71 [.agg (AD c)] =
  some ⟨g',(d,true,.tup [.ptr 0 911 (g+2) 0,i 0])::fr,⟨[],(911,g+2,.box (eW c (g+1)))::(910,g+1,.map [])::B⟩⟩:=by
 have hb:=hc.be
 have hbe:=W9 c
 rw[if_neg (by simp[JV hb]),if_neg (by simp[hc.pl]),if_neg hc.tr]at hbe
 have q1:=fun n=>nR n c.beach hb.w40 c.plan
 rw[hbe]at q1
 have hb1:(HL c.beach c.plan).1=FM c.beach (FY c.beach) c.plan c.beach.rows.toNat:=by unfold HL;rw[if_pos (JV hb),if_pos hc.pl,if_neg fun hh=>hc.tr (QP.1 hh)]
 have hro:=hb.ro
 have hpc:=hb.pl
 have hbl:(FM c.beach (FY c.beach) c.plan c.beach.rows.toNat).length=c.beach.rows.toNat:=by simp[FM]
 have hbn:FM c.beach (FY c.beach) c.plan c.beach.rows.toNat≠[]:=fun e=>by rw[e]at hbl;simp at hbl;omega
 have hb5:∀l∈FM c.beach (FY c.beach) c.plan c.beach.rows.toNat,l.length≤5:=fun l hl=>by obtain⟨r,_,rfl⟩:=List.mem_map.1 hl;simp[WT];omega
 rw[hb1,slX hbn]at q1
 have hfl:=hc.fl
 have hch:=hc.ch
 have h3':¬(3:Int)<(c.fams.length:Int):=by omega
 have qa:=fun n=>ALA n 200 121 KI c.fams (by omega) (fun n f _=>sJ n f)
 have qr:=fun n=>AK9 n 200 c 118 (fun l=>decide ((l.length:Int)=c.beach.places)) c.chairs (by omega) (fun n l _=>ALB n c l)
 rw[List.all_eq_true.2 fun f hf=>by
  have:=hc.fo f hf;simp only[KI,Bool.and_eq_true,DS];exact this]at qa
 rw[List.all_eq_true.2 fun l hl=>decide_eq_true (hc.cr l hl)]at qr
 simp only[Nat.add_assoc,Nat.reduceAdd]at qa qr
 unfold eW ALF
 generalize FM c.beach (FY c.beach) c.plan c.beach.rows.toNat=R at *
 obtain⟨g',γ',hg',q11⟩:=ALE c B g R (by omega) hb5 R.length 0 (g+3) 0 (by omega) (by omega)
 have q11:=fun n m=>q11 n (m+100) (by omega)
 refine⟨g',by omega,fun n=>?_⟩
 have hS:(R.map fun l=>E2 l l.length).map encA=R.map fun l=>encA (E2 l l.length):=by rw[List.map_map];rfl
 rw[hS]
 obtain⟨s0,S,hSS⟩:∃s0 S,R.map (fun l=>encA (E2 l l.length))=s0::S:=List.exists_cons_of_ne_nil (fun e:R.map (fun l=>encA (E2 l l.length))=[]=>hbn (List.map_eq_nil_iff.1 e))
 rw[hSS]at q11⊢
 rw[vA Tryz.func71 b71 rfl (by simp)]
 simp only[AC,AD,List.take_zero,List.map_nil]at q1 qr qa q11⊢
 simp[rv,bxW,AD]at q11
 simp[c71,AG,h3',q1,qr,qa,hch,AR,AY,AQ,hB,q11,Nat.add_assoc,BB4,LL,UL,UK,JQ,dI,PF,LI,PH,LJ,LK,JR,PI,UN,KQ,MC,PJ,KR,JP,JK]
theorem ALG(c:A0)(k γ:Nat)(t:St):AN t [(k,γ,.box (AD c))]=[(k,γ,.box (AD c))]:=by simp[AD,AH,AL,AF,AR,AY,AQ]
theorem oB(n:Nat)(c:A0)(h40:∀l∈c.beach.winds,l.length≤40)(hch:c.chairs.length≤40):AW Tryz.prog kn (AE Tryz.prog ann kn (n+8200)) 24 [.agg (AD c)]=some (i (EJ c)):=by
 rw[AP rfl,AO Tryz.func24 b24 rfl (by simp[AD,AH,AL,AF,AR,AY,AQ])];by_cases h:EJ c=0
 ·obtain⟨g',hg,q⟩:=AGE c (PD h) [(1,0,.box (AD c))] (fun t _=>ALG c 1 0 t) 1 7 [(6,true,.agg (AD c)),(1,true,.ptr 0 1 0 0)];have q:=fun n=>q (n+197);rw[h];simp only[AD,eW,Nat.add_assoc,Nat.reduceAdd]at q⊢;simp[c24,AG,AR,AY,AQ,q]
 ·have q:=oA c h40 hch h [(1,0,.box (AD c))] (fun t _=>ALG c 1 0 t) 1 7 [(6,true,.agg (AD c)),(1,true,.ptr 0 1 0 0)];have q:=fun n=>q (n+197);generalize EJ c=E at *;simp only[AD,Nat.add_assoc,Nat.reduceAdd]at q⊢;simp[c24,AG,AR,AY,AQ,q]
theorem WU{c:A0}{k:Nat}(h:k<c.fams.length):KJ c k=c.fams[k]:=by unfold KJ;rw[List.getD_eq_getElem?_getD,List.getElem?_eq_getElem h];rfl
theorem AZK(n:Nat)(c:A0)(a b:Nat)(ha:a<c.fams.length)(hb:b<c.fams.length):AW Tryz.prog kn (AE Tryz.prog ann kn (n+300)) 173 [.agg (AD c),i a,i b]=some (.bool (KK c a b)):=by
 rw[AP rfl,AO Tryz.func173 BDG rfl (by simp[AD,AH,AL,AF,AR,AY,AQ])];unfold KK;rw[WU ha,WU hb];have e:decide ((a:Int)=(b:Int))=decide (a=b):=decide_eq_decide.2 (by omega);have e2:decide (a≠b)=!decide (a=b):=by simp
 rw[e2];generalize decide (a=b)=z at *;rcases hF1:c.fams[a]with⟨s1,g1,d1,h1⟩;rcases hF2:c.fams[b]with⟨s2,g2,d2,h2⟩;simp only[AD];have p1:Nat.beq 4 1=false:=rfl;cases z<;>cases d1<;>cases h1<;>cases d2<;>cases h2<;>simp[A1T,AG,e,ha,hb,hF1,hF2,AQ,BF,BR,BW,A8,D9,DY,E1,F9,p1]
theorem AZL(n:Nat)(c:A0)(x:Sp)(h1:0≤c.beach.rows∧c.beach.rows≤1000)(h2:0≤c.beach.places∧c.beach.places≤1000)(h3:0≤x.size∧x.size≤1000):AW Tryz.prog kn (AE Tryz.prog ann kn (n+300)) 136 [.agg (AD c),.agg (A1 x)]=some (.bool (F2 c x)):=by rw[AP rfl,AO Tryz.func136 BDH rfl (by simp[AD,AH,AL,AF,AR,AY,AQ,A1])];have w1:IntKind.i64.wrap (c.beach.rows-1)=c.beach.rows-1:=AS (by omega) (by omega);have w2:IntKind.i64.wrap (c.beach.places-x.size)=c.beach.places-x.size:=AS (by omega) (by omega);have q1:=fun n=>RJ n x.row 0 (c.beach.rows-1);have q2:=fun n=>RJ n x.place 0 (c.beach.places-x.size);unfold F2;generalize FN x.row 0 (c.beach.rows-1)=z1 at *;generalize FN x.place 0 (c.beach.places-x.size)=z2 at *;simp only[AD];cases z1<;>cases z2<;>simp[A1U,AG,A1,w1,w2,q1,q2]
theorem AOT(n:Nat)(c:A0)(x y:Sp)(hx:x.fam<c.fams.length)(hy:y.fam<c.fams.length)(p1:-1000≤x.place∧x.place≤1000)(p2:-1000≤y.place∧y.place≤1000)(s1:0≤x.size∧x.size≤1000)(s2:0≤y.size∧y.size≤1000):AW Tryz.prog kn (AE Tryz.prog ann kn (n+400)) 139 [.agg (AD c),.agg (A1 x),.agg (A1 y)]=some (.bool (GA c x y)):=by
 rw[AP rfl,AO Tryz.func139 BDI rfl (by simp[AD,AH,AL,AF,AR,AY,AQ,A1])];have qm:=fun n=>AZK n c x.fam y.fam hx hy;have w1:IntKind.i64.wrap (x.place-y.place)=x.place-y.place:=AS (by omega) (by omega);have w2:IntKind.i64.wrap (x.place-y.place-y.size)=x.place-y.place-y.size:=AS (by omega) (by omega);have w3:IntKind.i64.wrap (y.place-x.place)=y.place-x.place:=AS (by omega) (by omega);have w4:IntKind.i64.wrap (y.place-x.place-x.size)=y.place-x.place-x.size:=AS (by omega) (by omega);unfold GA;by_cases hr:x.row=y.row
 ·rw[show decide (x.row≠y.row)=false from decide_eq_false (by simpa using hr),Bool.false_or];have e:eV x y=(if x.place-y.place-y.size<y.place-x.place-x.size then y.place-x.place-x.size else x.place-y.place-y.size):=by unfold eV;split<;>omega
  generalize KK c x.fam y.fam=z at *;generalize eV x y=m at *;by_cases h0:0<m
  ·simp only[AD]at qm⊢;simp[AA8,AG,A1,w1,w2,w3,w4,qm,hr,←e,h0]
  ·by_cases h1:m=0
   ·simp only[AD]at qm⊢;cases z<;>simp[AA8,AG,A1,AR,AY,AQ,w1,w2,w3,w4,qm,hr,←e,h0,h1]
   ·simp only[AD]at qm⊢;simp[AA8,AG,A1,w1,w2,w3,w4,qm,hr,←e,h0,h1]
 ·rw[show decide (x.row≠y.row)=true from decide_eq_true hr,Bool.true_or];simp only[AD];simp[AA8,AG,A1,hr]
theorem XA(l:List Bool){j:Nat}(hj:j<l.length):(l.take (j+1)).count true=(l.take j).count true+(if l[j]=true then 1 else 0):=by rw[List.take_succ_eq_append_getElem hj,List.count_append];congr 1;cases l[j]<;>rfl
theorem AZM(cs:List (List Bool))(l:List Bool)(hl:l.length≤100)(N r c:Nat)(hN:N≤100000)(X1:AX):∀(d j:Nat),j+d=l.length→∀n m,d<m→A9 (AE Tryz.prog ann kn (n+200) 26) SL (ann 26 (BS SL)) m ⟨c,[(2,true,i ((N+(l.take j).count true:Nat):Int)),(8,true,.list false (cs.map AR)),(9,true,i cs.length),(10,true,i r),(14,true,lb l),(15,true,i l.length),(16,true,i j)],⟨[],[(1,0,X1)]⟩⟩ =
  some (.exit 2,⟨c,[(17,true,.bool false),(2,true,i ((N+l.count true:Nat):Int)),(8,true,.list false (cs.map AR)),(9,true,i cs.length),(10,true,i r),(14,true,lb l),(15,true,i l.length),(16,true,i l.length)],⟨[],[(1,0,X1)]⟩⟩)
 |0,j,hd,n,m+1,hm=>by
  obtain rfl:j=l.length:=by omega
  rw[List.take_length,AB];simp
 |d+1,j,hd,n,m+1,hm=>by
  have hj:j<l.length:=by omega
  have hw:=BJ (k:=j) (by omega);have ih:=AZM cs l hl N r c hN X1 d (j+1) (by omega) n m (by omega);rw[XA l hj]at ih;have hcl:(l.take j).count true≤100:=by have:=List.count_le_length (a:=true) (l:=l.take j);rw[List.length_take]at this;omega
  generalize (l.take j).count true=C at *;have hwC:IntKind.i64.wrap (((N+C:Nat):Int)+1)=((N+(C+1):Nat):Int):=by rw[AS (by omega) (by omega)];omega
  have hwC2:IntKind.i64.wrap ((N:Int)+(C:Int)+1)=((N:Int)+((C:Int)+1)):=by rw[AS (by omega) (by omega)];omega
  generalize l.count true=T at *;rw[AB];cases hz:l[j]with
  |true=>
   rw[hz,if_pos rfl]at ih
   simp at ih
   simp[hj,hw,hz,AY,hwC,hwC2,ih]
  |false=>
   rw[hz,if_neg (by decide),Nat.add_zero]at ih
   simp at ih
   simp[hj,hw,hz,AY,ih]
theorem AZN(cs:List (List Bool))(hl:cs.length≤100)(hr:∀l∈cs,l.length≤100)(c:Nat)(X1:AX):∀(d j N:Nat),j+d=cs.length→N≤100*j→∀n m,d<m→A9 (AE Tryz.prog ann kn (n+400) 26) SN (ann 26 (BS SN)) m ⟨c,[(2,true,i N),(8,true,.list false (cs.map AR)),(9,true,i cs.length),(10,true,i j)],⟨[],[(1,0,X1)]⟩⟩ =
  some (.exit 0,⟨c,[(11,true,.bool false),(2,true,i ((N+((cs.drop j).map fun l=>l.count true).sum:Nat):Int)),(8,true,.list false (cs.map AR)),(9,true,i cs.length),(10,true,i cs.length)],⟨[],[(1,0,X1)]⟩⟩)
 |0,j,N,hd,hN,n,m+1,hm=>by
  obtain rfl:j=cs.length:=by omega
  rw[AB];simp
 |d+1,j,N,hd,hN,n,m+1,hm=>by
  have hj:j<cs.length:=by omega
  have hw:=BJ (k:=j) (by omega);have hlj:=hr cs[j] (List.getElem_mem hj);have q:=fun n m=>AZM cs cs[j] hlj N j c (by omega) X1 cs[j].length 0 (by omega) n (m+101) (by omega);have hcl:=List.count_le_length (a:=true) (l:=cs[j]);have ih:=AZN cs hl hr c X1 d (j+1) (N+cs[j].count true) (by omega) (by omega) n m (by omega);have hs:N+cs[j].count true+((cs.drop (j+1)).map fun l=>l.count true).sum=N+((cs.drop j).map fun l=>l.count true).sum:=by rw[List.drop_eq_getElem_cons hj,List.map_cons,List.sum_cons];omega
  rw[hs]at ih;generalize ((cs.drop j).map fun l=>l.count true).sum=T at *;generalize cs[j].count true=C at *;simp only[List.take_zero,List.count_nil,Nat.add_zero]at q;rw[AB];simp at ih q;simp[hj,hw,AR,q,ih]
theorem AGF(n:Nat)(c:A0)(hl:c.chairs.length≤100)(hr:∀l∈c.chairs,l.length≤100):AW Tryz.prog kn (AE Tryz.prog ann kn (n+600)) 140 [.agg (AD c)]=some (i (F7 c)):=by rw[AP rfl,AO Tryz.func140 BDJ rfl (by simp[AD,AH,AL,AF,AR,AY,AQ])];have q:=fun n m=>AZN c.chairs hl hr 1 (.box (AD c)) c.chairs.length 0 0 (by omega) (by omega) n (m+101) (by omega);have e:((c.chairs.drop 0).map fun l=>l.count true).sum=F7 c:=rfl;rw[e,Nat.zero_add]at q;generalize F7 c=T at *;simp only[AD]at q⊢;simp at q;simp[A1V,AG,q]
def B0(g:Nat×Int):List V:=[i (g.1:Int),i g.2]
def B5(fs:List NL)(out:List Int):Nat→List (Nat×Int)
 |0=>[]
 |k+1=>B5 fs out k++(if decide ((k:Int)∈out)=true then[] else[(k,(fs.getD k ⟨0,0,false,false⟩).size)])
def B6(c:A0)(out:List Int):List (Nat×Int):=B5 c.fams out c.fams.length
theorem NP(fs:List NL)(out:List Int):∀k,(B5 fs out k).length≤k
 |0=>Nat.le_refl _
 |k+1=>by have:=NP fs out k;simp only[B5,List.length_append];split<;>simp<;>omega
theorem BB5{k:Nat}{l:List (Nat×Int)}(h:k+l.length≤1000):B4 Tryz.prog 151 k (l.map B0)=true:=by rw[CA (by simp) (by simp)];simp[maxLen,B0];omega
theorem AOU(fs:List NL)(hl:fs.length≤30)(out:List Int)(ho:out.length≤40)(X2:AX):∀(d k c γ:Nat),k+d=fs.length→∃c' γ',∀n m,d<m→A9 (AE Tryz.prog ann kn (n+1600) 28) XM (ann 28 (BS XM)) m ⟨c,[(1,true,li out),(4,true,pv 25 γ ((B5 fs out k).map B0)),(8,true,.list false (fs.map AQ)),(9,true,i fs.length),(10,true,i k)],⟨[],(2,0,X2)::pl 25 γ 151 ((B5 fs out k).map B0)⟩⟩ =
  some (.exit 0,⟨c',[(11,true,.bool false),(1,true,li out),(4,true,pv 25 γ' ((B5 fs out fs.length).map B0)),(8,true,.list false (fs.map AQ)),(9,true,i fs.length),(10,true,i fs.length)],⟨[],(2,0,X2)::pl 25 γ' 151 ((B5 fs out fs.length).map B0)⟩⟩)
 |0,k,c,γ,hd=>by
  obtain rfl:k=fs.length:=by omega
  refine⟨c,γ,fun n m hm=>?_⟩;obtain⟨m,rfl⟩:∃m',m=m'+1:=⟨m-1,by omega⟩;generalize B5 fs out fs.length=R;rw[AB];cases R<;>simp
 |d+1,k,c,γ,hd=>by
  have hk:k<fs.length:=by omega
  have hw:=BJ (k:=k) (by omega);have hgl:=NP fs out k;have qC:=fun n=>PZ n out (k:Int) (by omega);have hg:fs.getD k ⟨0,0,false,false⟩=fs[k]:=by rw[List.getD_eq_getElem?_getD,List.getElem?_eq_getElem hk];rfl
  have hst:B5 fs out (k+1)=B5 fs out k++(if decide ((k:Int)∈out)=true then[] else[(k,fs[k].size)]):=by rw[←hg];rfl
  have hap:=BB5 (k:=(B5 fs out k).length) (l:=[(k,fs[k].size)]) (by rw[List.length_singleton];omega);generalize decide ((k:Int)∈out)=z at *;generalize hfk:fs[k]=f at *;cases z with
  |true=>
   obtain⟨c',γ',ih⟩:=AOU fs hl out ho X2 d (k+1) (c+1) γ (by omega)
   refine⟨c',γ',fun n m hm=>?_⟩
   obtain⟨m,rfl⟩:∃m',m=m'+1:=⟨m-1,by omega⟩
   have ih:=ih n m (by omega)
   rw[hst,if_pos rfl,List.append_nil]at ih
   generalize B5 fs out fs.length=fin at *
   generalize B5 fs out k=R at *
   rw[AB]
   cases R<;>(simp[B0]at ih;simp[hk,hw,hfk,AQ,B0,qC,BF,ih])
  |false=>
   obtain⟨c',γ',ih⟩:=AOU fs hl out ho X2 d (k+1) (c+2) (c+1) (by omega)
   refine⟨c',γ',fun n m hm=>?_⟩
   obtain⟨m,rfl⟩:∃m',m=m'+1:=⟨m-1,by omega⟩
   have ih:=ih n m (by omega)
   rw[hst,if_neg (by decide)]at ih
   generalize B5 fs out fs.length=fin at *
   generalize B5 fs out k=R at *
   rw[AB]
   cases R with
   |nil=>simp[B0,pv]at ih hap;simp[hk,hw,hfk,AQ,B0,qC,hap,BF,ih,pv]
   |cons r R=>simp[B0]at ih hap;simp[hk,hw,hfk,AQ,B0,qC,hap,BF,ih]
theorem AGG(n:Nat)(c:A0)(hl:c.fams.length≤30)(out:List Int)(ho:out.length≤40):AW Tryz.prog kn (AE Tryz.prog ann kn (n+2000)) 92 [.agg (AD c),li out]=some (sl ((B6 c out).map B0)):=by
 rw[AP rfl,AO Tryz.func92 b92 rfl (by simp[AD,AH,AL,AF,AR,AY,AQ])];obtain⟨c',γ',q⟩:=AOU c.fams hl out ho (.box (AD c)) c.fams.length 0 1 0 (by omega);have q:=fun n m=>q n (m+100) (by omega);have e:B5 c.fams out c.fams.length=B6 c out:=rfl;rw[e,show B5 c.fams out 0=[] from rfl]at q;generalize hG:B6 c out=G at *;have hcl:(G.map B0).all (fun e=>e.all (AK 8))=true:=by simp[B0]
 generalize G.map B0=R at *;simp only[AD,List.map_nil]at q⊢;simp at q;simp[c92,AG,q];exact fun e he v hv=>List.all_eq_true.1 (List.all_eq_true.1 hcl e he) v hv
def l7:Option (Nat×List V)→AA
 |none=>[]
 |some (γ,cs)=>[(7,γ,.box cs)]
theorem zZ{s:St}(l:List Sp){j:Nat}(hj:j≤l.length):B8 Tryz.prog s 120 (.list false (l.map A1)) none (some (i j)) none=some (.list false ((l.map A1).take j)):=by have:=aS (P:=Tryz.prog) (s:=s) (T:=120) (e:=153) (es:=l.map A1) (h:=(j:Int)) (b:=false) (by kernel_rfl) (by simp) (by omega) (by rw[List.length_map];omega);simpa using this
theorem vY(n:Nat)(c:A0)(x:Sp)(l:List Sp)(hl:l.length≤10)(hx:x.fam<c.fams.length∧(0≤x.size∧x.size≤1000)∧-1000≤x.place∧x.place≤1000)(hy:∀y∈l,y.fam<c.fams.length∧(0≤y.size∧y.size≤1000)∧-1000≤y.place∧y.place≤1000)(g d:Nat)(fr:Fr):∃g',g+1≤g'∧H9 (BN Tryz.prog ann kn (n+900)) (some d) ⟨g+1,fr,⟨[],[(2,0,.box (AD c)),(7,g,.box (A1 x))]⟩⟩ 137 [.list false (l.map A1),.fn 138 [] [.ptr 0 2 0 0,.ptr 0 7 g 0]] =
  some ⟨g',(d,true,.bool (l.all (GA c x)))::fr,⟨[],[(2,0,.box (AD c)),(7,g,.box (A1 x))]⟩⟩:=by
 obtain⟨c',h1,q⟩:=AOS n 600 0 (fun _=>[]) (fun _=>[(2,0,.box (AD c)),(7,g,.box (A1 x))]) (by simp) (fun _=>True) 138 [.ptr 0 2 0 0,.ptr 0 7 g 0] (by simp) (by simp) (fun (_:Unit) y=>GA c x y) (fun _ _=>()) l (by omega) (by simp[AD,AH,AL,AF,AR,AY,AQ,A1]) (by
   intro t γ ht;obtain⟨up,loc⟩:=t;have h0:¬0=up.length:=by simp at ht;omega
   simp[h0]) (g+1) (by
   intro n c1 γ fr s y hc hs hm;refine⟨fun h=>trivial,c1+1,by omega,?_⟩;obtain⟨y1,y2,y3⟩:=hy y hm;have qa:=fun n=>AOT n c x y hx.1 y1 hx.2.2 y3 hx.2.1 y2;simp only[List.nil_append,List.cons_append];rw[BG Tryz.func138 b138 rfl (by simp)];generalize GA c x y=z at *;simp only[AD,A1]at qa ⊢;simp[A1W,AG,AH,AL,AF,AR,AY,AQ,qa]) d fr () trivial
 rw[E5]at q
 have hn:=JJ (GA c x) l
 have e:n+600+300=n+900:=by omega
 rw[e]at q
 simp only at q
 rw[hn]at q
 exact⟨c',h1,q⟩
theorem AZO(n:Nat)(c:A0)(hc:D8 c)(l:List Sp)(hl:l.length≤10)(hs:∀x∈l,x.fam<c.fams.length∧1≤x.size∧x.size≤4):∀(d j g:Nat) (o:Option (Nat×List V)),j+d=l.length→0<g→EK c [] (l.take j)=true→∃g' o',∀m,d<m→A9 (AE Tryz.prog ann kn (n+1200) 37) SO (ann 37 (BS SO)) m ⟨g,[(1,true,.list false (l.map A1)),(2,true,.ptr 0 2 0 0),(5,true,i (EO (l.take j))),(8,true,.list false (l.map A1)),(9,true,i l.length),(10,true,i j)],⟨[],(2,0,.box (AD c))::l7 o⟩⟩ =
  bif EK c [] l then some (.exit 0,⟨g',[(11,true,.bool false),(1,true,.list false (l.map A1)),(2,true,.ptr 0 2 0 0),(5,true,i (EO l)),(8,true,.list false (l.map A1)),(9,true,i l.length),(10,true,i l.length)],⟨[],(2,0,.box (AD c))::l7 o'⟩⟩) else some (.ret,⟨g',[(4,true,.bool false)],⟨[],[]⟩⟩)
 |0,j,g,o,hd,hg,hok=>by
  obtain rfl:j=l.length:=by omega
  rw[List.take_length]at hok⊢;refine⟨g,o,fun m hm=>?_⟩;obtain⟨m,rfl⟩:∃m',m=m'+1:=⟨m-1,by omega⟩;rw[hok,AB];rcases o with _|⟨γ,cs⟩<;>simp[AD,l7]
 |d+1,j,g,o,hd,hg,hok=>by
  have hj:j<l.length:=by omega
  have hw:=BJ (k:=j) (by omega);have hro:=hc.be.ro;have hpl:=hc.be.pl;obtain⟨x1,x2⟩:=hs l[j] (List.getElem_mem hj);have hps:=UH (l.take j) fun y hy=>by have:=(hs y (List.mem_of_mem_take hy)).2;omega
  have htl:(l.take j).length≤10:=by rw[List.length_take];omega
  have hwp:IntKind.i64.wrap (EO (l.take j)+l[j].size)=EO (l.take j)+l[j].size:=AS (by omega) (by omega);have qf:=fun n=>AZL n c l[j] (by omega) (by omega) (by omega);have ht:=iN c l hj;rw[hok,Bool.true_and]at ht;cases hf:F2 c l[j]with
  |false=>
   rw[hf]at qf
   rw[hf,Bool.false_and]at ht
   have hno:=W8 c l (j+1) ht
   simp only[AD,A1]at qf
   refine⟨g+1,none,fun m hm=>?_⟩
   obtain⟨m,rfl⟩:∃m',m=m'+1:=⟨m-1,by omega⟩
   rw[hno,AB]
   simp only[AD]
   rcases o with _|⟨γ,cs⟩<;>simp[hj,hw,hwp,A1,AR,AY,AQ,qf,BF,l7]
  |true=>
   rw[hf]at qf
   rw[hf,Bool.true_and]at ht
   have hfits:=NO c (l.take j) [] hok
   have hfx:(0≤l[j].row∧l[j].row≤c.beach.rows-1)∧0≤l[j].place∧l[j].place≤c.beach.places-l[j].size:=by simpa only[F2,Bool.and_eq_true,DS]using hf
   have hyy:∀y∈l.take j,y.fam<c.fams.length∧(0≤y.size∧y.size≤1000)∧-1000≤y.place∧y.place≤1000:=fun y hy=>by have h1:=hs y (List.mem_of_mem_take hy);have h2:=hfits y hy;simp only[F2,Bool.and_eq_true,DS]at h2;exact⟨h1.1,by omega,by omega⟩
   obtain⟨g1,hg1,qa⟩:=vY (n+292) c l[j] (l.take j) htl ⟨x1,by omega,by omega⟩ hyy g 29 [(28,true,.fn 138 [] [.ptr 0 2 0 0,.ptr 0 7 g 0]),(27,true,.list false ((l.take j).map A1)),(26,true,i j),(25,true,.list false (l.map A1)),(24,true,.bool false),(23,true,.bool false),(22,true,.bool true),(21,true,.agg (A1 l[j])),(20,true,.agg (AD c)),(1,true,.list false (l.map A1)),(2,true,.ptr 0 2 0 0),(5,true,i (EO (l.take j)+l[j].size)),(6,true,i j),(7,true,.ptr 0 7 g 0),(8,true,.list false (l.map A1)),(9,true,i l.length),(10,true,i j)]
   have qsl:=fun s=>zZ (s:=s) l (Nat.le_of_lt hj)
   rw[List.map_take]at qa
   simp only[AD,A1,Nat.add_assoc,Nat.reduceAdd]at qf qa
   cases hz:(l.take j).all (GA c l[j])with
   |false=>
    rw[hz]at ht qa
    have hno:=W8 c l (j+1) ht
    refine⟨g1,none,fun m hm=>?_⟩
    obtain⟨m,rfl⟩:∃m',m=m'+1:=⟨m-1,by omega⟩
    rw[hno,AB]
    simp only[AD]
    rcases o with _|⟨γ,cs⟩<;>simp[hj,hw,hwp,A1,AR,AY,AQ,qf,BF,l7,qsl,qa]
   |true=>
    rw[hz]at ht qa
    obtain⟨g',o',ih⟩:=AZO n c hc l hl hs d (j+1) g1 (some (g,A1 l[j])) (by omega) (by omega) ht
    refine⟨g',o',fun m hm=>?_⟩
    obtain⟨m,rfl⟩:∃m',m=m'+1:=⟨m-1,by omega⟩
    have ih:=ih m (by omega)
    rw[iO l hj]at ih
    generalize EK c [] l=Z at *
    generalize EO l=PL at *
    rw[AB]
    simp only[AD,A1,l7]at ih⊢
    simp at ih
    rcases o with _|⟨γ,cs⟩<;>simp[hj,hw,hwp,A1,AR,AY,AQ,qf,BF,l7,qsl,qa,ih]
theorem AGH(n:Nat)(c:A0)(hc:D8 c)(l:List Sp)(hl:l.length≤10)(hs:∀x∈l,x.fam<c.fams.length∧1≤x.size∧x.size≤4):AW Tryz.prog kn (AE Tryz.prog ann kn (n+1500)) 109 [.agg (AD c),.list false (l.map A1)]=some (.bool (KL c l)):=by
 rw[AP rfl,AO Tryz.func109 BDK rfl (by simp[AD,AH,AL,AF,AR,AY,AQ,A1])];obtain⟨g',o',q⟩:=AZO (n+294) c hc l hl hs l.length 0 1 none (by omega) (by omega) rfl;have q:=q (n+1494) (by omega);have hro:=hc.be.ro;have hpl:=hc.be.pl;have hch:=hc.ch;have qc:=fun n=>AGF n c (by omega) (fun l hl=>by have:=hc.cr l hl;omega);unfold KL;have hps:=UH l fun y hy=>by have:=(hs y hy).2;omega
 rw[show EO (l.take 0)=0 from rfl]at q;generalize EK c [] l=Z at *;generalize EO l=PL at *;generalize F7 c=CN at *;generalize e1:decide (PL≤(CN:Int))=z1;simp only[AD,l7,Nat.add_assoc,Nat.reduceAdd]at q qc⊢;simp at q;cases Z with
 |false=>
  simp at q
  simp[APK,AG,q]
 |true=>
  simp at q
  rcases o' with _|⟨γ,cs⟩<;>simp[l7]at q<;>simp[APK,AG,q,AR,AY,AQ,qc,e1]
end Go.Proofs.Tryz.Op
namespace Go.Wind
theorem WH{c:A0}{ss:List (Int×Int)}(h:ss.length=c.fams.length){k:Nat}(hk:k<c.fams.length):(BA c ss).take (k+1)=(BA c ss).take k++[⟨k,c.fams[k].size,(ss[k]'(by omega)).1,(ss[k]'(by omega)).2⟩]:=by have hl:(BA c ss).length=c.fams.length:=D0 h;rw[List.take_succ_eq_append_getElem (by omega)];have:=K9 (k:=0) (fs:=c.fams) (ss:=ss) k hk (by omega) (by show k<(BA c ss).length;omega);rw[Nat.zero_add]at this;exact congrArg (fun y=>(BA c ss).take k++[y]) this
end Go.Wind
namespace Go.Proofs.Tryz.Op
theorem NQ(fs:List NL):∀k,k≤fs.length→B5 fs [] k=(List.range k).map fun j=>(j,(fs.getD j ⟨0,0,false,false⟩).size)
 |0,_=>rfl
 |k+1,h=>by rw[B5,NQ fs k (by omega),List.range_succ,List.map_append];simp
theorem cJ{c:A0}{k:Nat}(hk:k<c.fams.length)(h:k<(B6 c []).length):(B6 c [])[k]=(k,c.fams[k].size):=by have e:B6 c []=(List.range c.fams.length).map fun j=>(j,(c.fams.getD j ⟨0,0,false,false⟩).size):=NQ c.fams _ (Nat.le_refl _);simp only[e,List.getElem_map,List.getElem_range,List.getD_eq_getElem?_getD,List.getElem?_eq_getElem hk];rfl
theorem FC(c:A0):(B6 c []).length=c.fams.length:=by have e:B6 c []=(List.range c.fams.length).map fun j=>(j,(c.fams.getD j ⟨0,0,false,false⟩).size):=NQ c.fams _ (Nat.le_refl _);rw[e];simp
theorem BB6{k:Nat}{l:List Sp}(h:k+l.length≤1000):B4 Tryz.prog 153 k (l.map A1)=true:=by rw[CA (by simp) (by simp)];simp[maxLen,A1];omega
theorem AZP(c:A0)(hf:c.fams.length≤10)(ss:List (Int×Int))(hs:ss.length=c.fams.length)(X2:AX):∀(d k g γ:Nat),k+d=c.fams.length→∃g' γ',∀n m,d<m→A9 (AE Tryz.prog ann kn (n+1200) 37) XN (ann 37 (BS XN)) m ⟨g,[(1,true,.list false (ss.map AF)),(2,true,.ptr 0 2 0 0),(6,true,pv 31 γ (((BA c ss).take k).map A1)),(16,true,.list false ((B6 c []).map B0)),(17,true,i c.fams.length),(18,true,i k)],⟨[],(2,0,X2)::pl 31 γ 153 (((BA c ss).take k).map A1)⟩⟩ =
  some (.exit 0,⟨g',[(19,true,.bool false),(1,true,.list false (ss.map AF)),(2,true,.ptr 0 2 0 0),(6,true,pv 31 γ' ((BA c ss).map A1)),(16,true,.list false ((B6 c []).map B0)),(17,true,i c.fams.length),(18,true,i c.fams.length)],⟨[],(2,0,X2)::pl 31 γ' 153 ((BA c ss).map A1)⟩⟩)
 |0,k,g,γ,hd=>by
  obtain rfl:k=c.fams.length:=by omega
  have hl:(BA c ss).length=c.fams.length:=D0 hs;rw[←hl,List.take_length,hl];refine⟨g,γ,fun n m hm=>?_⟩;obtain⟨m,rfl⟩:∃m',m=m'+1:=⟨m-1,by omega⟩;generalize BA c ss=R;rw[AB];cases R<;>simp
 |d+1,k,g,γ,hd=>by
  have hk:k<c.fams.length:=by omega
  have hks:k<ss.length:=by omega
  have hw:=BJ (k:=k) (by omega);have hgk:k<(B6 c []).length:=by rw[FC];omega
  have hg:=cJ hk hgk;have hst:=WH hs hk;have hl:(BA c ss).length=c.fams.length:=D0 hs;have htl:((BA c ss).take k).length=k:=by rw[List.length_take];omega
  have hap:=BB6 (k:=((BA c ss).take k).length) (l:=[⟨k,c.fams[k].size,ss[k].1,ss[k].2⟩]) (by rw[List.length_singleton];omega);obtain⟨g',γ',ih⟩:=AZP c hf ss hs X2 d (k+1) (g+2) (g+1) (by omega);refine⟨g',γ',fun n m hm=>?_⟩;obtain⟨m,rfl⟩:∃m',m=m'+1:=⟨m-1,by omega⟩;have ih:=ih n m (by omega);rw[hst]at ih;generalize BA c ss=fin at *;generalize fin.take k=R at *;generalize hG:B6 c []=G at *;generalize c.fams[k].size=sz at *;rw[AB];cases R with
  |nil=>simp[B0,A1,AF,pv,pl]at ih hap;simp[hk,hks,hgk,hg,hw,B0,A1,AF,hap,BF,ih,pv,pl,E1,F9,EQ,BR,BW,A8,D9,DY,show Nat.beq 2 1=false from rfl]
  |cons r R=>simp[B0,A1,AF,pv,pl]at ih hap;simp[hk,hks,hgk,hg,hw,B0,A1,AF,hap,BF,ih,pv,pl,E1,F9,EQ,BR,BW,A8,D9,DY,show Nat.beq 2 1=false from rfl]
def NR(c:A0)(ss:List (Int×Int)):List Sp×Bool:=if ss.length=c.fams.length then(BA c ss,KL c (BA c ss)) else([],false)
theorem VS{c:A0}(hc:D8 c){ss:List (Int×Int)}(hs:ss.length=c.fams.length):∀x∈BA c ss,x.fam<c.fams.length∧1≤x.size∧x.size≤4:=fun x hx=>by have hl:(BA c ss).length=c.fams.length:=D0 hs;obtain⟨j,hj,rfl⟩:=List.getElem_of_mem hx;have:=K9 (k:=0) (fs:=c.fams) (ss:=ss) j (by omega) (by omega) hj;have e:(BA c ss)[j]=⟨0+j,(c.fams[j]'(by omega)).size,(ss[j]'(by omega)).1,(ss[j]'(by omega)).2⟩:=this;rw[e];have hf:=hc.fo _ (List.getElem_mem (show j<c.fams.length by omega));exact⟨by simp only;omega,by simp only;omega,by simp only;omega⟩
theorem AOV(n:Nat)(c:A0)(hc:D8 c)(ss:List (Int×Int)):AW Tryz.prog kn (AE Tryz.prog ann kn (n+2200)) 65 [.agg (AD c),.list false (ss.map AF)]=some (.tup [sl ((NR c ss).1.map A1),.bool (NR c ss).2]):=by
 rw[AP rfl,AO Tryz.func65 b65 rfl (by simp[AD,AH,AL,AF,AR,AY,AQ])];have slnil:sl ([]:List (List V))=.nil:=rfl;unfold NR;by_cases hs:ss.length=c.fams.length
 ·rw[if_pos hs];have hfl:=hc.fl;have hl:(BA c ss).length=c.fams.length:=D0 hs;have hsI:(ss.length:Int)=c.fams.length:=by omega
  have qS:=fun n=>AGH n c hc (BA c ss) (by omega) (VS hc hs);have qG:∀n,AW Tryz.prog kn (AE Tryz.prog ann kn (n+2000)) 92 [.agg (AD c),.list false []]=some (sl ((B6 c []).map B0)):=fun n=>AGG n c (by omega) [] (by simp);by_cases hG:B6 c []=[]
  ·have h0:c.fams=[]:=List.eq_nil_of_length_eq_zero (by rw[←FC,hG];rfl);have hL:BA c ss=[]:=List.eq_nil_of_length_eq_zero (by rw[hl,h0];rfl);rw[hG]at qG;rw[hL]at qS⊢;generalize KL c []=Z at *;rw[h0]at hsI;simp only[AD,h0]at qS qG⊢;simp at qS qG;simp[c65,AG,slnil,qG,qS,hsI,AF,AR,AY,AQ,AB]
  ·obtain⟨g',γ',q⟩:=AZP c (by omega) ss hs (.box (AD c)) c.fams.length 0 1 0 (by omega);have q:=fun n m=>q n (m+100) (by omega);rw[slX hG]at qG;have gl:=FC c;rw[show(BA c ss).take 0=[] from rfl]at q;generalize BA c ss=L at *;generalize KL c L=Z at *;generalize B6 c []=G at *;simp only[AD]at q qS qG⊢;simp at q qS qG;have hLn:L≠[]:=fun e=>hG (List.eq_nil_of_length_eq_zero (by rw[gl,←hl,e];rfl));have hsl:=slX (f:=A1) hLn;rw[hsl];simp[c65,AG,slnil,hsl,A1,qG,qS,hsI,gl,AF,AR,AY,AQ,q]
 ·have hsI:¬(ss.length:Int)=c.fams.length:=by omega
  rw[if_neg hs];simp only[AD];simp[c65,AG,slnil,hsI,AF,AR,AY,AQ]
end Go.Proofs.Tryz.Op
namespace Go.Wind
def GH(l:List FW):Int:=(l.map FW.good).sum
theorem XB(l:List FW)(x:FW):GH (l++[x])=GH l+x.good:=by unfold GH;rw[List.map_append,List.sum_append];simp
theorem oC{l:List FW}{k:Nat}(h:k<l.length):GH (l.take (k+1))=GH (l.take k)+l[k].good:=by rw[List.take_succ_eq_append_getElem h,XB]
theorem AAA{l:List FW}(h:∀x∈l,0≤x.good∧x.good≤100):0≤GH l∧GH l≤100*l.length:=by
 unfold GH;induction l with
 |nil=>simp
 |cons x l ih=>
  have h1:=h x (by simp)
  have h2:=ih fun y hy=>h y (by simp[hy])
  simp only[List.map_cons,List.sum_cons,List.length_cons]
  omega
theorem cK{l:List FW}{a:Nat}:∀{n:Nat},a+n≤l.length→GH ((l.take (a+n)).drop a)=H0 (fun p=>(l.getD (a+p) ⟨0,0,0⟩).good) n
 |0,h=>by rw[Nat.add_zero,List.drop_eq_nil_of_le (by rw[List.length_take];omega)];rfl
 |n+1,h=>by have ih:=cK (l:=l) (a:=a) (n:=n) (by omega);rw[H0,←ih,←Nat.add_assoc,List.take_succ_eq_append_getElem (by omega),List.drop_append_of_le_length (by rw[List.length_take];omega),XB];rw[List.getD_eq_getElem?_getD,List.getElem?_eq_getElem (by omega)];rfl
end Go.Wind
namespace Go.Proofs.Tryz.Op
theorem XC{P:Program}{s:St}{r:Operand→Option V}(T:TypeId)(x l h:Operand):IL P (eI (.slice T x (some l) (some h) none)) s r=(r x).bind fun a=>(r l).bind fun b=>(r h).bind fun c=>B8 P s T a (some b) (some c) none:=by show((r x).bind fun a=>((r l).map some).bind fun l=>((r h).map some).bind fun h=>(some none).bind fun m=>B8 P s T a l h m)=_;cases r x<;>cases r l<;>cases r h<;>rfl
theorem MA{P:Program}{r:Operand→Option V}(T:TypeId)(x:Operand)(l h m:Option Operand):HI P (.oth (.slice T x l h m)) r=EV (r x):=rfl
theorem AZQ(L:List Sp)(H:List (List FW))(O:List Int)(j γ:Nat)(M:List FW)(hM:M.length≤10)(hg:∀x∈M,0≤x.good∧x.good≤100):∀(d k c:Nat),k+d=M.length→∃c',c≤c'∧∀n m,d<m→A9 (AE Tryz.prog ann kn (n+600) 51) XO (ann 51 (BS XO)) m ⟨c,[(2,true,.list false (H.map BO)),(6,true,pv 48 γ (O.map AH)),(9,true,i (GH (M.take k))),(12,true,.list false (L.map A1)),(13,true,i L.length),(14,true,i j),(34,true,.list false (M.map CH)),(35,true,i M.length),(36,true,i k)],⟨[],pl 48 γ 3 (O.map AH)⟩⟩ =
  some (.exit 2,⟨c',[(37,true,.bool false),(2,true,.list false (H.map BO)),(6,true,pv 48 γ (O.map AH)),(9,true,i (GH M)),(12,true,.list false (L.map A1)),(13,true,i L.length),(14,true,i j),(34,true,.list false (M.map CH)),(35,true,i M.length),(36,true,i M.length)],⟨[],pl 48 γ 3 (O.map AH)⟩⟩)
 |0,k,c,hd=>by
  obtain rfl:k=M.length:=by omega
  rw[List.take_length];refine⟨c,Nat.le_refl _,fun n m hm=>?_⟩;obtain⟨m,rfl⟩:∃m',m=m'+1:=⟨m-1,by omega⟩;generalize GH M=S;rw[AB];cases O<;>simp
 |d+1,k,c,hd=>by
  have hk:k<M.length:=by omega
  have hw:=BJ (k:=k) (by omega);have h1:=hg M[k] (List.getElem_mem hk);have h2:=AAA (l:=M.take k) fun x hx=>hg x (List.mem_of_mem_take hx);have h3:(M.take k).length≤10:=by rw[List.length_take];omega
  have hwg:IntKind.i64.wrap (GH (M.take k)+M[k].good)=GH (M.take k)+M[k].good:=AS (by omega) (by omega);obtain⟨c',hc,ih⟩:=AZQ L H O j γ M hM hg d (k+1) (c+1) (by omega);refine⟨c',by omega,fun n m hm=>?_⟩;obtain⟨m,rfl⟩:∃m',m=m'+1:=⟨m-1,by omega⟩;have ih:=ih n m (by omega);rw[oC hk]at ih;generalize GH (M.take k)=S at *;generalize GH M=SS at *;rw[AB];cases O<;>(simp[CH]at ih;simp[hk,hw,hwg,CH,BF,ih])
theorem vZ{s:St}(l:List FW){a b:Int}(h1:0≤a)(h2:a≤b)(h3:b≤l.length):B8 Tryz.prog s 156 (.list false (l.map CH)) (some (i a)) (some (i b)) none=some (.list false (((l.take b.toNat).drop a.toNat).map CH)):=by
 have hT:BM Tryz.prog 156=some (none,155):=by kernel_rfl
 simp only[B8,hT];rw[if_pos ⟨h1,h2,by rw[List.length_map];exact h3,by simp,by rw[List.all_map,List.all_eq_true];intro x _;simp[CH]⟩,←List.map_take,←List.map_drop]
theorem AZR(L:List Sp)(hL:L.length≤10)(H:List (List FW))(hH:∀l∈H,l.length≤10)(hg:∀l∈H,∀x∈l,0≤x.good∧x.good≤100)(hr:H.length≤100)(hx:∀x∈L,0≤x.row∧x.row<H.length∧0≤x.place∧0≤x.size∧x.place+x.size≤(H.getD x.row.toNat []).length):∀(d j c γ:Nat),j+d=L.length→∃c' γ',∀n m,d<m→A9 (AE Tryz.prog ann kn (n+900) 51) XP (ann 51 (BS XP)) m ⟨c,[(2,true,.list false (H.map BO)),(6,true,pv 48 γ (((L.take j).map (JN H)).map AH)),(12,true,.list false (L.map A1)),(13,true,i L.length),(14,true,i j)],⟨[],pl 48 γ 3 (((L.take j).map (JN H)).map AH)⟩⟩ =
  some (.exit 0,⟨c',[(15,true,.bool false),(2,true,.list false (H.map BO)),(6,true,pv 48 γ' ((L.map (JN H)).map AH)),(12,true,.list false (L.map A1)),(13,true,i L.length),(14,true,i L.length)],⟨[],pl 48 γ' 3 ((L.map (JN H)).map AH)⟩⟩)
 |0,j,c,γ,hd=>by
  obtain rfl:j=L.length:=by omega
  rw[List.take_length];refine⟨c,γ,fun n m hm=>?_⟩;obtain⟨m,rfl⟩:∃m',m=m'+1:=⟨m-1,by omega⟩;generalize L.map (JN H)=O;rw[AB];cases O<;>simp
 |d+1,j,c,γ,hd=>by
  have hj:j<L.length:=by omega
  have hw:=BJ (k:=j) (by omega);obtain⟨x1,x2,x3,x4,x5⟩:=hx L[j] (List.getElem_mem hj);have hst:(L.take (j+1)).map (JN H)=(L.take j).map (JN H)++[JN H L[j]]:=by rw[List.take_succ_eq_append_getElem hj,List.map_append];rfl
  have hOl:((L.take j).map (JN H)).length=j:=by rw[List.length_map,List.length_take];omega
  have hrl:L[j].row.toNat<H.length:=by omega
  have hHe:H.getD L[j].row.toNat []=H[L[j].row.toNat]:=by rw[List.getD_eq_getElem?_getD,List.getElem?_eq_getElem hrl];rfl
  have hH1:=hH H[L[j].row.toNat] (List.getElem_mem hrl);have hG1:=hg H[L[j].row.toNat] (List.getElem_mem hrl);have hS:JN H L[j]=GH (((H[L[j].row.toNat]).take (L[j].place+L[j].size).toNat).drop L[j].place.toNat):=by unfold JN;rw[hHe]at x5⊢;rw[show(L[j].place+L[j].size).toNat=L[j].place.toNat+L[j].size.toNat by omega,cK (by omega)]
  rw[hHe]at x5;have hwp:IntKind.i64.wrap (L[j].place+L[j].size)=L[j].place+L[j].size:=AS (by omega) (by omega);have qs:=fun s=>vZ (s:=s) H[L[j].row.toNat] x3 (show L[j].place≤L[j].place+L[j].size by omega) x5;rw[hS]at hst;generalize hM:((H[L[j].row.toNat]).take (L[j].place+L[j].size).toNat).drop L[j].place.toNat=M at *;have hMl:M.length≤10:=by rw[←hM,List.length_drop,List.length_take];omega
  have hMg:∀x∈M,0≤x.good∧x.good≤100:=fun x hx=>hG1 x (List.mem_of_mem_take (List.mem_of_mem_drop (hM▸hx)));obtain⟨c1,hc1,q⟩:=AZQ L H ((L.take j).map (JN H)) j γ M hMl hMg M.length 0 (c+1) (by omega);have q:=fun n m=>q n (m+100) (by omega);obtain⟨c',γ',ih⟩:=AZR L hL H hH hg hr hx d (j+1) (c1+1) c1 (by omega);have hap:=AOG (k:=((L.take j).map (JN H)).length) (x:=GH M) (by omega);refine⟨c',γ',fun n m hm=>?_⟩;obtain⟨m,rfl⟩:∃m',m=m'+1:=⟨m-1,by omega⟩;have ih:=ih n m (by omega);rw[hst]at ih;rw[show GH (M.take 0)=0 from rfl]at q;generalize L.map (JN H)=fin at *;generalize (L.take j).map (JN H)=O at *;generalize GH M=SM at *;generalize hX:L[j]=X at *;rw[AB];cases O with
  |nil=>simp[A1,AH,pv,pl]at ih hap q;simp[hj,hX,hw,hwp,x1,x2,hrl,qs,XC,MA,EV,q,A1,BO,AH,hap,BF,ih,pv,pl,E1,F9,EQ,BR,BW,A8,D9,DY]
  |cons r R=>simp[A1,AH,pv,pl]at ih hap q;simp[hj,hX,hw,hwp,x1,x2,hrl,qs,XC,MA,EV,q,A1,BO,AH,hap,BF,ih,pv,pl,E1,F9,BR,BW,A8,D9,DY]
theorem AZS(n:Nat)(c:A0)(L:List Sp)(hL:L.length≤10)(H:List (List FW))(hH:∀l∈H,l.length≤10)(hg:∀l∈H,∀x∈l,0≤x.good∧x.good≤100)(hr:H.length≤100)(hx:∀x∈L,0≤x.row∧x.row<H.length∧0≤x.place∧0≤x.size∧x.place+x.size≤(H.getD x.row.toNat []).length):AW Tryz.prog kn (AE Tryz.prog ann kn (n+1000)) 67 [.agg (AD c),.list false (L.map A1),.list false (H.map BO)]=some (sl ((L.map (JN H)).map AH)):=by rw[AP rfl,AO Tryz.func67 b67 rfl (by simp[AD,AH,AL,AF,AR,AY,AQ,A1,BO,CH])];obtain⟨c',γ',q⟩:=AZR L hL H hH hg hr hx L.length 0 1 0 (by omega);have q:=fun n m=>q n (m+100) (by omega);rw[show((L.take 0).map (JN H))=[] from rfl]at q;generalize L.map (JN H)=O at *;simp only[AD]at q⊢;simp at q;simp[c67,AG,q,AR,AY,AQ,A1,BO,CH]
abbrev HY(c:A0)(t:List Int):List (List FW):=DC c.beach c.plan t c.beach.rows.toNat
def BHU(c:A0)(ss:List (Int×Int))(t:List Int):List Int×Int :=
 if EJ c≠0 then([],EJ c) else if EP c ss=true∧AV t c.beach.winds=true then((BA c ss).map (JN (HY c t)),0) else([],2)
theorem WV{c:A0}(_:D8 c)(t:List Int)(_:t.length≤5):(HY c t).length=c.beach.rows.toNat∧(∀l∈HY c t,l.length=c.beach.places.toNat)∧∀l∈HY c t,∀x∈l,0≤x.good∧x.good≤t.length:=by
 refine⟨by simp[HY,DC],fun l hl=>?_,fun l hl x hx=>?_⟩
 ·simp only[HY,DC,List.mem_map]at hl;obtain⟨r,_,rfl⟩:=hl;simp[UB]
 ·simp only[HY,DC,List.mem_map]at hl;obtain⟨r,_,rfl⟩:=hl;simp only[UB,List.mem_map]at hx;obtain⟨q,_,rfl⟩:=hx;have:=aZ (IY c.beach c.plan t r q) (IH c.beach c.plan r) t.length;change 0≤(DD c.beach c.plan t r q).sun∧(DD c.beach c.plan t r q).sun≤t.length∧0≤(DD c.beach c.plan t r q).calm∧(DD c.beach c.plan t r q).calm≤t.length∧0≤(DD c.beach c.plan t r q).good∧(DD c.beach c.plan t r q).good≤t.length at this;exact⟨by omega,by omega⟩
theorem GU{c:A0}(hc:D8 c){ss:List (Int×Int)}(h:EP c ss=true):ss.length=c.fams.length∧∀x∈BA c ss,0≤x.row∧x.row<c.beach.rows∧0≤x.place∧(1≤x.size∧x.size≤4)∧x.place+x.size≤c.beach.places:=by simp only[EP,KL,Bool.and_eq_true,decide_eq_true_eq]at h;refine⟨h.1,fun x hx=>?_⟩;have h1:=NO c (BA c ss) [] h.2.1 x hx;have h2:=(VS hc h.1 x hx).2;simp only[F2,Bool.and_eq_true,DS]at h1;omega
theorem iQ{c:A0}(hc:D8 c)(t:List Int)(h5:t.length≤5){r:Int}(h0:0≤r)(h1:r<c.beach.rows):((HY c t).getD r.toNat []).length=c.beach.places.toNat:=by
 obtain⟨o1,o2,_⟩:=WV hc t h5;have hr:r.toNat<(HY c t).length:=by omega
 rw[List.getD_eq_getElem?_getD,List.getElem?_eq_getElem hr];exact o2 _ (List.getElem_mem hr)
theorem AOW(n:Nat)(c:A0)(hc:D8 c)(ss:List (Int×Int))(hs:EP c ss=true)(t:List Int)(ht:AV t c.beach.winds=true):AW Tryz.prog kn (AE Tryz.prog ann kn (n+1000)) 67 [.agg (AD c),.list false ((BA c ss).map A1),.list false ((HY c t).map BO)]=some (sl (((BA c ss).map (JN (HY c t))).map AH)):=by obtain⟨h1,h2⟩:=GU hc hs;have hlw:=BZ ht;have hl5:=hc.be.hl;have hro:=hc.be.ro;have hpl:=hc.be.pl;have hfl:=hc.fl;obtain⟨o1,o2,o3⟩:=WV hc t (by omega);refine AZS n c _ (by rw[show(BA c ss).length=c.fams.length from D0 h1];omega) _ (fun l hl=>by rw[o2 l hl];omega) (fun l hl x hx=>by have:=o3 l hl x hx;omega) (by omega) fun x hx=>?_;obtain⟨x1,x2,x3,x4,x5⟩:=h2 x hx;rw[iQ hc t (by omega) x1 x2];omega
end Go.Proofs.Tryz.Op
