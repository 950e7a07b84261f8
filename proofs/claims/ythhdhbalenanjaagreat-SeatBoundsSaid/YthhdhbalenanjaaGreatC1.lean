/- Contracts: a valid family, a row of chairs. No condition. -/
import Derived.Test.YthhdhbalenanjaaGreatA1
import Derived.Test.YthhdhbalenanjaaGreatFz
import Derived.Test.YthhdhbalenanjaaGreatW3
set_option maxRecDepth 100000
set_option linter.unusedSimpArgs false
open Go Go.Pg Go.Proofs Go.Wind
namespace Go.Proofs.Tryz.Op
theorem RM(n:Nat)(x lo hi:Int):AW Tryz.prog kn (AE Tryz.prog ann kn (n+50)) 163 [i x,i lo,i hi]=some (.bool (FU x lo hi)):=by rw[AQ rfl,AP Tryz.func163 BDY rfl (by simp)];unfold FU;generalize e1:decide (lo≤x)=z1;generalize e2:decide (x≤hi)=z2;cases z1<;>cases z2<;>simp[A19,AF,e1,e2]
theorem sT(n:Nat)(f:L9):AW Tryz.prog kn (AE Tryz.prog ann kn (n+200)) 121 [.agg (AO f)]=some (.bool (KJ f)):=by rw[AQ rfl,AP Tryz.func121 BDZ rfl (by simp[AO])];have q1:=fun n=>RM n f.size 1 4;have q2:=fun n=>RM n f.good 0 5;unfold KJ;generalize FU f.size 1 4=z1 at *;generalize FU f.good 0 5=z2 at *;cases z1<;>cases z2<;>simp[A2A,AF,AO,q1,q2]
theorem ALS(n:Nat)(c:A3)(l:List Bool):AW Tryz.prog kn (AE Tryz.prog ann kn (n+200)) 118 [.agg (AD c),lb l]=some (.bool (decide ((l.length:Int)=c.beach.places))):=by rw[AQ rfl,AP Tryz.func118 BD0 rfl (by simp[AD,AH,AM,AG,AR,A0,AO])];generalize e1:decide ((l.length:Int)=c.beach.places)=z1;cases z1<;>simp[A2B,AF,AD,e1]
theorem QW{b:AJ}:(E6 b [] b.winds []).isEmpty=true↔BJ b=[]:=by
 rw[List.isEmpty_iff];constructor<;>intro h<;>refine List.eq_nil_iff_forall_not_mem.2 fun t ht=>?_
 ·have:=(iK b t).2 (GI.1 ht);rw[h]at this;cases this
 ·have:=GI.2 ((iK b t).1 ht);rw[h]at this;cases this
theorem XF(c:A3):(HU c.beach c.plan).2=if CE c.beach≠0 then CE c.beach else if DJ c.beach c.plan=false then 2 else if BJ c.beach=[] then 11 else 0:=by
 unfold HU;by_cases h:CE c.beach=0
 ·simp only[h,ne_eq,not_true_eq_false,if_true,if_false];cases hp:DJ c.beach c.plan with
  |false=>rfl
  |true=>
   simp only[if_true,Bool.true_eq_false,if_false]
   by_cases ht:BJ c.beach=[]
   ·rw[if_pos (QW.2 ht),if_pos ht]
   ·rw[if_neg fun hh=>ht (QW.1 hh),if_neg ht]
 ·rw[if_neg h,if_pos h]
theorem oN(c:A3)(h40:∀l∈c.beach.winds,l.length≤40)(hch:c.chairs.length≤40)(h:¬DM c=0)(B:AA)(hB:∀t:St,1≤t.up.length→AL t B=B)(g d:Nat)(fr:Fr):∀n,G4 (BN Tryz.prog ann kn (n+8000)) (some d) ⟨g,fr,⟨[],B⟩⟩ 71 [.agg (AD c)] =
  some ⟨g+1,(d,true,.tup [.raw (.pointer none),i (DM c)])::fr,⟨[],B⟩⟩:=by
 intro n
 rw[vO Tryz.func71 b71 rfl (by simp)]
 have q1:=fun n=>oD n c.beach h40 c.plan
 rw[XF]at q1
 unfold DM at h⊢
 by_cases h3:3<c.fams.length
 ·have h3':(3:Int)<(c.fams.length:Int):=by omega
  rw[if_pos h3];simp[c71,AF,AD,h3',hB]
 ·have h3':¬(3:Int)<(c.fams.length:Int):=by omega
  rw[if_neg h3]at h⊢;have qa:=fun n=>ALR n 200 121 KJ c.fams (by omega) (fun n f _=>sT n f);have qr:=fun n=>ALQ n 200 c 118 (fun l=>decide ((l.length:Int)=c.beach.places)) c.chairs hch (fun n l _=>ALS n c l);by_cases h4:CE c.beach≠0
  ·rw[if_pos h4]at q1⊢;generalize (HU c.beach c.plan).1=R at q1;generalize CE c.beach=E at *;simp only[AB,AD]at q1⊢;simp[c71,AF,h3',q1,h4,hB]
  ·rw[if_neg h4]at q1 h⊢;cases h5:DJ c.beach c.plan with
   |false=>
    rw[h5,if_pos rfl]at q1
    rw[if_pos rfl]
    generalize (HU c.beach c.plan).1=R at q1
    simp only[AB,AD]at q1⊢
    simp[c71,AF,h3',q1,hB]
   |true=>
    rw[h5,if_neg (by decide)]at q1 h
    rw[if_neg (by decide)]
    by_cases h6:BJ c.beach=[]
    ·rw[if_pos h6]at q1⊢;generalize (HU c.beach c.plan).1=R at q1;simp only[AB,AD]at q1⊢;simp[c71,AF,h3',q1,hB]
    ·rw[if_neg h6]at q1 h⊢;have hc1:(if G5 c=false then(1:Int) else if c.fams.all KJ=false then 1 else 0)=1:=by
      split at h
      ·rw[if_pos (by assumption)]
      ·rw[if_neg (by assumption)];split at h
       ·rw[if_pos (by assumption)]
       ·exact absurd rfl h
     rw[hc1];simp only[Nat.add_assoc,Nat.reduceAdd]at qa qr;generalize (HU c.beach c.plan).1=R at q1;by_cases hl:(c.chairs.length:Int)=c.beach.rows
     ·cases hr:c.chairs.all (fun l=>decide ((l.length:Int)=c.beach.places))with
      |false=>
       rw[hr]at qr
       simp only[AB,AD]at q1 qr⊢
       simp[c71,AF,h3',q1,qr,hl,hB,AR,A0,AO]
      |true=>
       rw[hr]at qr
       cases hf:c.fams.all KJ with
       |true=>
        exfalso
        rw[if_neg (by simp[G5,hl,hr]),if_neg (by simp[hf])]at h
        exact h rfl
       |false=>
        rw[hf]at qa
        simp only[AB,AD]at q1 qr qa⊢
        simp[c71,AF,h3',q1,qr,qa,hl,hB,AR,A0,AO]
     ·simp only[AB,AD]at q1⊢;simp[c71,AF,h3',q1,hl,hB]
def FA(l:List oK)(n:Nat):List Int:=(List.range 5).map fun p=>if p<n then(l.getD p ⟨0,(0,0),(0,0)⟩).good.1 else 0
def encA(l:List Int):List V:=l.map fun x=>i x
theorem wL(l:List oK)(n:Nat):∃a0 a1 a2 a3 a4:Int,encA (FA l n)=[i a0,i a1,i a2,i a3,i a4]:=⟨_,_,_,_,_,rfl⟩
theorem EW{P:Program}{fr:Fr}{s:St}(e d c:Nat)(y:List V)(ys:List (List V))(h:CA P e 0 (y::ys)=true):zM P e d c fr s .nil (y::ys)=some (⟨c+1,(d,true,.vec s.up.length d c (ys.length+1))::fr,s.put s.up.length d c (.vec e (y::ys))⟩,[(s.up.length,d),(s.up.length,d+HV)]):=by unfold zM;simp[IV,h]
theorem BCQ{k:Nat}(h:k≤1000)(a0 a1 a2 a3 a4:Int):CA Tryz.prog 206 k [[i a0,i a1,i a2,i a3,i a4]]=true:=by rw[CH (by simp) (by simp)];simp[maxLen];omega
def rv(k γ:Nat):List (List V)→V
 |[]=>.nil
 |e::es=>.vec 1 k γ (e::es).length
abbrev bxW(c:A3)(g:Nat)(v:V):AZ:=.box (AD c++[v,.mp 1 51 (g+1)])
theorem AAM{l:List oK}{j:Nat}(hj:j<l.length):(encA (FA l j)).set j (i l[j].good.1)=encA (FA l (j+1)):=by
 apply List.ext_getElem (by simp[encA,FA]);intro p h1 h2;have hp:p<5:=by simpa [encA,FA]using h2
 rw[List.getElem_set];simp only[encA,FA,List.getElem_map,List.getElem_range];by_cases e:j=p
 ·subst e;rw[if_pos rfl,if_pos (by omega),List.getD_eq_getElem?_getD,List.getElem?_eq_getElem hj];rfl
 ·rw[if_neg e];by_cases hlt:p<j
  ·rw[if_pos hlt,if_pos (by omega)]
  ·rw[if_neg hlt,if_neg (by omega)]
theorem AAN{l:List oK}{j:Nat}(hj:j<l.length)(h5:l.length≤5):(encA (FA l j)).take j++i l[j].good.1::(encA (FA l j)).drop (j+1)=encA (FA l (j+1)):=by rw[←AAM hj,List.set_eq_take_append_cons_drop,if_pos (by simp[encA,FA];omega)]
theorem iX(l:List oK)(j:Nat):(encA (FA l j)).length=5:=by simp[encA,FA]
theorem ALU(B:AA)(g x γ:Nat)(X1 X53:AZ)(S:List (List V))(l:List oK)(h5:l.length≤5)(v54 v55 v56:V):∀(e j y:Nat),j+e=l.length→x<y→∃(y':Nat),y≤y'∧∀n m,e<m→BC (AE Tryz.prog ann kn (n+300) 85) SN (ann 85 (BR SN)) m ⟨y,[(7,true,.ptr 1 53 (g+2) 0),(10,true,.ptr 1 10 x 0),(54,true,v54),(55,true,v55),(56,true,v56),(60,true,.list false (l.map PH)),(61,true,i l.length),(62,true,i j)],⟨[B],(1,g,X1)::(10,x,.box (encA (FA l j)))::(51,g+1,.map [])::(53,g+2,X53)::pl 80 γ 206 S⟩⟩ =
  some (.exit 2,⟨y',[(63,true,.bool false),(7,true,.ptr 1 53 (g+2) 0),(10,true,.ptr 1 10 x 0),(54,true,v54),(55,true,v55),(56,true,v56),(60,true,.list false (l.map PH)),(61,true,i l.length),(62,true,i l.length)],⟨[B],(1,g,X1)::(10,x,.box (encA (FA l l.length)))::(51,g+1,.map [])::(53,g+2,X53)::pl 80 γ 206 S⟩⟩)
 |0,j,y,hm,hc=>by
  obtain rfl:j=l.length:=by omega
  refine⟨y,Nat.le_refl _,fun n m hm=>?_⟩;obtain⟨m,rfl⟩:∃m',m=m'+1:=⟨m-1,by omega⟩;generalize encA (FA l l.length)=A;rw[AC];cases S<;>simp
 |e+1,j,y,hm,hc=>by
  have hj:j<l.length:=by omega
  have hw:=BH (k:=j) (by omega);have hset:=AAN hj h5;have hlen:=iX l j;obtain⟨y',hy,ih⟩:=ALU B g x γ X1 X53 S l h5 v54 v55 v56 e (j+1) (y+1) (by omega) (by omega);refine⟨y',by omega,fun n m hm=>?_⟩;obtain⟨m,rfl⟩:∃m',m=m'+1:=⟨m-1,by omega⟩;have ih:=ih n m (by omega);rw[←hset]at ih;generalize encA (FA l l.length)=fin at *;generalize encA (FA l j)=A at *;rw[AC];have hj5:(j:Int)<5:=by omega
  cases S<;>(simp[PH]at ih;simp[hj,hw,hj5,hlen,PH,BO,show j≤4 by omega,show x<y+1 by omega,ih])
theorem ALV(c:A3)(B:AA)(g:Nat)(R:List (List oK))(hR:R.length≤100)(hRl:∀l∈R,l.length≤5):∀(e k x γ:Nat),k+e=R.length→g+2<x→∃(x' γ':Nat),x≤x'∧∀n m,e<m→BC (AE Tryz.prog ann kn (n+600) 85) SO (ann 85 (BR SO)) m ⟨x,[(7,true,.ptr 1 53 (g+2) 0),(54,true,.list false (R.map GW)),(55,true,i R.length),(56,true,i k)],⟨[B],(1,g,.box (AD c))::(51,g+1,.map [])::(53,g+2,bxW c g (rv 80 γ ((R.take k).map fun l=>encA (FA l l.length))))::pl 80 γ 206 ((R.take k).map fun l=>encA (FA l l.length))⟩⟩ =
  some (.exit 0,⟨x',[(57,true,.bool false),(7,true,.ptr 1 53 (g+2) 0),(54,true,.list false (R.map GW)),(55,true,i R.length),(56,true,i R.length)],⟨[B],(1,g,.box (AD c))::(51,g+1,.map [])::(53,g+2,bxW c g (rv 80 γ' (R.map fun l=>encA (FA l l.length))))::pl 80 γ' 206 (R.map fun l=>encA (FA l l.length))⟩⟩)
 |0,k,x,γ,hm,hc=>by
  obtain rfl:k=R.length:=by omega
  rw[List.take_length];refine⟨x,γ,Nat.le_refl _,fun n m hm=>?_⟩;obtain⟨m,rfl⟩:∃m',m=m'+1:=⟨m-1,by omega⟩;generalize hS:R.map (fun l=>encA (FA l l.length))=S;rw[AC];cases S<;>simp[AD,rv]
 |e+1,k,x,γ,hm,hc=>by
  have hk:k<R.length:=by omega
  have hw:=BH (k:=k) (by omega);have hl5:=hRl R[k] (List.getElem_mem hk);have hst:(R.take (k+1)).map (fun l=>encA (FA l l.length))=(R.take k).map (fun l=>encA (FA l l.length))++[encA (FA R[k] R[k].length)]:=by rw[List.take_succ_eq_append_getElem hk,List.map_append];rfl
  have hSl:((R.take k).map fun l=>encA (FA l l.length)).length=k:=by rw[List.length_map,List.length_take];omega
  obtain⟨y',hy,q15⟩:=ALU B g x γ (.box (AD c)) (bxW c g (rv 80 γ ((R.take k).map fun l=>encA (FA l l.length)))) ((R.take k).map fun l=>encA (FA l l.length)) R[k] hl5 (.list false (R.map GW)) (i R.length) (i k) R[k].length 0 (x+1) (by omega) (by omega);have q15:=fun n m=>q15 n (m+100) (by omega);have h0:encA (FA R[k] 0)=[i 0,i 0,i 0,i 0,i 0]:=rfl;obtain⟨a0,a1,a2,a3,a4,hA⟩:=wL R[k] R[k].length;have hS5:∀e∈(R.take k).map (fun l=>encA (FA l l.length)),e.length=5:=fun e he=>by obtain⟨l,_,rfl⟩:=List.mem_map.1 he;exact iX l _
  have hp5:Nat.beq 5 1=false:=rfl;have hap:=BCQ (k:=((R.take k).map fun l=>encA (FA l l.length)).length) (by omega) a0 a1 a2 a3 a4;obtain⟨x',γ',hxx,ih⟩:=ALV c B g R hR hRl e (k+1) (y'+1) y' (by omega) (by omega);refine⟨x',γ',by omega,fun n m hm=>?_⟩;obtain⟨m,rfl⟩:∃m',m=m'+1:=⟨m-1,by omega⟩;have ih:=ih n m (by omega);rw[hst,hA]at ih;rw[hA,h0]at q15;generalize (R.take k).map (fun l=>encA (FA l l.length))=S at *;generalize R.map (fun l=>encA (FA l l.length))=fin at *;rw[AC];cases S with
  |nil=>
   simp[AD,rv,bxW]at ih q15 hap
   simp[AD,rv,bxW,hk,hw,GW,q15,ih,hap,ET,HV,BO,EW,show x<y'+1 by omega,show g+2<y'+1 by omega,show g+1<y'+1 by omega,BV,CB,BK,E7,EQ,hp5]
  |cons s S=>
   have hs5:=hS5 s (by simp)
   have hS6:∀e∈S,e.length=5:=fun e he=>hS5 e (by simp[he])
   have hS7:=eq_true hS6
   simp[AD,rv,bxW]at ih q15 hap
   simp[AD,rv,bxW,hk,hw,GW,q15,ih,hap,ET,HV,BO,show x<y'+1 by omega,show g+2<y'+1 by omega,show g+1<y'+1 by omega,BV,CB,BK,E7,EQ,hp5,hs5,hS7]
theorem BCR(st:XS):L8 [911051,912053] st=(fun s=>gW 53 (O1 0 s) 911 [] s) (gW 51 (O1 0 st) 910 [] st):=rfl
def ALW(c:A3):List (List Int):=(FT c.beach (F5 c.beach) c.plan c.beach.rows.toNat).map fun l=>FA l l.length
def fC(c:A3)(γ:Nat):List V:=AD c++[.list false ((ALW c).map encA),.mp 0 910 γ]
theorem AGX(c:A3)(hc:DW c)(B:AA)(hB:∀t:St,1≤t.up.length→AL t B=B)(g d:Nat)(fr:Fr):∃g',g+3≤g'∧∀n,G4 (BN Tryz.prog ann kn (n+8000)) (some d) ⟨g,fr,⟨[],B⟩⟩ 71 [.agg (AD c)] =
  some ⟨g',(d,true,.tup [.ptr 0 911 (g+2) 0,i 0])::fr,⟨[],(911,g+2,.box (fC c (g+1)))::(910,g+1,.map [])::B⟩⟩:=by
 have hb:=hc.be
 have hbe:=XF c
 rw[if_neg (by simp[JV hb]),if_neg (by simp[hc.pl]),if_neg hc.tr]at hbe
 have q1:=fun n=>oD n c.beach hb.w40 c.plan
 rw[hbe]at q1
 have hb1:(HU c.beach c.plan).1=FT c.beach (F5 c.beach) c.plan c.beach.rows.toNat:=by unfold HU;rw[if_pos (JV hb),if_pos hc.pl,if_neg fun hh=>hc.tr (QW.1 hh)]
 have hro:=hb.ro
 have hpc:=hb.pl
 have hbl:(FT c.beach (F5 c.beach) c.plan c.beach.rows.toNat).length=c.beach.rows.toNat:=by simp[FT]
 have hbn:FT c.beach (F5 c.beach) c.plan c.beach.rows.toNat≠[]:=fun e=>by rw[e]at hbl;simp at hbl;omega
 have hb5:∀l∈FT c.beach (F5 c.beach) c.plan c.beach.rows.toNat,l.length≤5:=fun l hl=>by obtain⟨r,_,rfl⟩:=List.mem_map.1 hl;simp[W0];omega
 rw[hb1,slX hbn]at q1
 have hfl:=hc.fl
 have hch:=hc.ch
 have h3':¬(3:Int)<(c.fams.length:Int):=by omega
 have qa:=fun n=>ALR n 200 121 KJ c.fams (by omega) (fun n f _=>sT n f)
 have qr:=fun n=>ALQ n 200 c 118 (fun l=>decide ((l.length:Int)=c.beach.places)) c.chairs (by omega) (fun n l _=>ALS n c l)
 rw[List.all_eq_true.2 fun f hf=>by
  have:=hc.fo f hf;simp only[KJ,Bool.and_eq_true,DV];exact this]at qa
 rw[List.all_eq_true.2 fun l hl=>decide_eq_true (hc.cr l hl)]at qr
 simp only[Nat.add_assoc,Nat.reduceAdd]at qa qr
 unfold fC ALW
 generalize FT c.beach (F5 c.beach) c.plan c.beach.rows.toNat=R at *
 obtain⟨g',γ',hg',q11⟩:=ALV c B g R (by omega) hb5 R.length 0 (g+3) 0 (by omega) (by omega)
 have q11:=fun n m=>q11 n (m+100) (by omega)
 refine⟨g',by omega,fun n=>?_⟩
 have hS:(R.map fun l=>FA l l.length).map encA=R.map fun l=>encA (FA l l.length):=by rw[List.map_map];rfl
 rw[hS]
 obtain⟨s0,S,hSS⟩:∃s0 S,R.map (fun l=>encA (FA l l.length))=s0::S:=List.exists_cons_of_ne_nil (fun e:R.map (fun l=>encA (FA l l.length))=[]=>hbn (List.map_eq_nil_iff.1 e))
 rw[hSS]at q11⊢
 rw[vO Tryz.func71 b71 rfl (by simp)]
 simp only[AB,AD,List.take_zero,List.map_nil]at q1 qr qa q11⊢
 simp[rv,bxW,AD]at q11
 simp[c71,AF,h3',q1,qr,qa,hch,AR,A0,AO,hB,q11,Nat.add_assoc,BCR,LL,UR,UQ,JQ,dP,PM,LI,PN,LJ,LK,JR,PO,UT,KQ,MD,PQ,KR,JP,JI]
theorem ALX(c:A3)(k γ:Nat)(t:St):AL t [(k,γ,.box (AD c))]=[(k,γ,.box (AD c))]:=by simp[AD,AH,AM,AG,AR,A0,AO]
theorem oO(n:Nat)(c:A3)(h40:∀l∈c.beach.winds,l.length≤40)(hch:c.chairs.length≤40):AW Tryz.prog kn (AE Tryz.prog ann kn (n+8200)) 24 [.agg (AD c)]=some (i (DM c)):=by
 rw[AQ rfl,AP Tryz.func24 b24 rfl (by simp[AD,AH,AM,AG,AR,A0,AO])];by_cases h:DM c=0
 ·obtain⟨g',hg,q⟩:=AGX c (K9 h) [(1,0,.box (AD c))] (fun t _=>ALX c 1 0 t) 1 7 [(6,true,.agg (AD c)),(1,true,.ptr 0 1 0 0)];have q:=fun n=>q (n+197);rw[h];simp only[AD,fC,Nat.add_assoc,Nat.reduceAdd]at q⊢;simp[c24,AF,AR,A0,AO,q]
 ·have q:=oN c h40 hch h [(1,0,.box (AD c))] (fun t _=>ALX c 1 0 t) 1 7 [(6,true,.agg (AD c)),(1,true,.ptr 0 1 0 0)];have q:=fun n=>q (n+197);generalize DM c=E at *;simp only[AD,Nat.add_assoc,Nat.reduceAdd]at q⊢;simp[c24,AF,AR,A0,AO,q]
theorem W1{c:A3}{k:Nat}(h:k<c.fams.length):NO c k=c.fams[k]:=by unfold NO;rw[List.getD_eq_getElem?_getD,List.getElem?_eq_getElem h];rfl
theorem AZ5(n:Nat)(c:A3)(a b:Nat)(ha:a<c.fams.length)(hb:b<c.fams.length):AW Tryz.prog kn (AE Tryz.prog ann kn (n+300)) 173 [.agg (AD c),i a,i b]=some (.bool (KK c a b)):=by
 rw[AQ rfl,AP Tryz.func173 BD3 rfl (by simp[AD,AH,AM,AG,AR,A0,AO])];unfold KK;rw[W1 ha,W1 hb];have e:decide ((a:Int)=(b:Int))=decide (a=b):=decide_eq_decide.2 (by omega);have e2:decide (a≠b)=!decide (a=b):=by simp
 rw[e2];generalize decide (a=b)=z at *;rcases hF1:c.fams[a]with⟨s1,g1,d1,h1⟩;rcases hF2:c.fams[b]with⟨s2,g2,d2,h2⟩;simp only[AD];have p1:Nat.beq 4 1=false:=rfl;cases z<;>cases d1<;>cases h1<;>cases d2<;>cases h2<;>simp[A2F,AF,e,ha,hb,hF1,hF2,AO,BO,BV,CB,BK,E7,EQ,ET,HV,p1]
theorem AZ6(n:Nat)(c:A3)(x:Sp)(h1:0≤c.beach.rows∧c.beach.rows≤1000)(h2:0≤c.beach.places∧c.beach.places≤1000)(h3:0≤x.size∧x.size≤1000):AW Tryz.prog kn (AE Tryz.prog ann kn (n+300)) 136 [.agg (AD c),.agg (AX x)]=some (.bool (F8 c x)):=by rw[AQ rfl,AP Tryz.func136 BD4 rfl (by simp[AD,AH,AM,AG,AR,A0,AO,AX])];have w1:IntKind.i64.wrap (c.beach.rows-1)=c.beach.rows-1:=AV (by omega) (by omega);have w2:IntKind.i64.wrap (c.beach.places-x.size)=c.beach.places-x.size:=AV (by omega) (by omega);have q1:=fun n=>RM n x.row 0 (c.beach.rows-1);have q2:=fun n=>RM n x.place 0 (c.beach.places-x.size);unfold F8;generalize FU x.row 0 (c.beach.rows-1)=z1 at *;generalize FU x.place 0 (c.beach.places-x.size)=z2 at *;simp only[AD];cases z1<;>cases z2<;>simp[A2G,AF,AX,w1,w2,q1,q2]
theorem APA(n:Nat)(c:A3)(x y:Sp)(hx:x.fam<c.fams.length)(hy:y.fam<c.fams.length)(p1:-1000≤x.place∧x.place≤1000)(p2:-1000≤y.place∧y.place≤1000)(s1:0≤x.size∧x.size≤1000)(s2:0≤y.size∧y.size≤1000):AW Tryz.prog kn (AE Tryz.prog ann kn (n+400)) 139 [.agg (AD c),.agg (AX x),.agg (AX y)]=some (.bool (GH c x y)):=by
 rw[AQ rfl,AP Tryz.func139 BD5 rfl (by simp[AD,AH,AM,AG,AR,A0,AO,AX])];have qm:=fun n=>AZ5 n c x.fam y.fam hx hy;have w1:IntKind.i64.wrap (x.place-y.place)=x.place-y.place:=AV (by omega) (by omega);have w2:IntKind.i64.wrap (x.place-y.place-y.size)=x.place-y.place-y.size:=AV (by omega) (by omega);have w3:IntKind.i64.wrap (y.place-x.place)=y.place-x.place:=AV (by omega) (by omega);have w4:IntKind.i64.wrap (y.place-x.place-x.size)=y.place-x.place-x.size:=AV (by omega) (by omega);unfold GH;by_cases hr:x.row=y.row
 ·rw[show decide (x.row≠y.row)=false from decide_eq_false (by simpa using hr),Bool.false_or];have e:fB x y=(if x.place-y.place-y.size<y.place-x.place-x.size then y.place-x.place-x.size else x.place-y.place-y.size):=by unfold fB;split<;>omega
  generalize KK c x.fam y.fam=z at *;generalize fB x y=m at *;by_cases h0:0<m
  ·simp only[AD]at qm⊢;simp[ABO,AF,AX,w1,w2,w3,w4,qm,hr,←e,h0]
  ·by_cases h1:m=0
   ·simp only[AD]at qm⊢;cases z<;>simp[ABO,AF,AX,AR,A0,AO,w1,w2,w3,w4,qm,hr,←e,h0,h1]
   ·simp only[AD]at qm⊢;simp[ABO,AF,AX,w1,w2,w3,w4,qm,hr,←e,h0,h1]
 ·rw[show decide (x.row≠y.row)=true from decide_eq_true hr,Bool.true_or];simp only[AD];simp[ABO,AF,AX,hr]
theorem XG(l:List Bool){j:Nat}(hj:j<l.length):(l.take (j+1)).count true=(l.take j).count true+(if l[j]=true then 1 else 0):=by rw[List.take_succ_eq_append_getElem hj,List.count_append];congr 1;cases l[j]<;>rfl
theorem AZ7(cs:List (List Bool))(l:List Bool)(hl:l.length≤100)(N r c:Nat)(hN:N≤100000)(X1:AZ):∀(d j:Nat),j+d=l.length→∀n m,d<m→BC (AE Tryz.prog ann kn (n+200) 26) SQ (ann 26 (BR SQ)) m ⟨c,[(2,true,i ((N+(l.take j).count true:Nat):Int)),(8,true,.list false (cs.map AR)),(9,true,i cs.length),(10,true,i r),(14,true,lb l),(15,true,i l.length),(16,true,i j)],⟨[],[(1,0,X1)]⟩⟩ =
  some (.exit 2,⟨c,[(17,true,.bool false),(2,true,i ((N+l.count true:Nat):Int)),(8,true,.list false (cs.map AR)),(9,true,i cs.length),(10,true,i r),(14,true,lb l),(15,true,i l.length),(16,true,i l.length)],⟨[],[(1,0,X1)]⟩⟩)
 |0,j,hd,n,m+1,hm=>by
  obtain rfl:j=l.length:=by omega
  rw[List.take_length,AC];simp
 |d+1,j,hd,n,m+1,hm=>by
  have hj:j<l.length:=by omega
  have hw:=BH (k:=j) (by omega);have ih:=AZ7 cs l hl N r c hN X1 d (j+1) (by omega) n m (by omega);rw[XG l hj]at ih;have hcl:(l.take j).count true≤100:=by have:=List.count_le_length (a:=true) (l:=l.take j);rw[List.length_take]at this;omega
  generalize (l.take j).count true=C at *;have hwC:IntKind.i64.wrap (((N+C:Nat):Int)+1)=((N+(C+1):Nat):Int):=by rw[AV (by omega) (by omega)];omega
  have hwC2:IntKind.i64.wrap ((N:Int)+(C:Int)+1)=((N:Int)+((C:Int)+1)):=by rw[AV (by omega) (by omega)];omega
  generalize l.count true=T at *;rw[AC];cases hz:l[j]with
  |true=>
   rw[hz,if_pos rfl]at ih
   simp at ih
   simp[hj,hw,hz,A0,hwC,hwC2,ih]
  |false=>
   rw[hz,if_neg (by decide),Nat.add_zero]at ih
   simp at ih
   simp[hj,hw,hz,A0,ih]
theorem AZ8(cs:List (List Bool))(hl:cs.length≤100)(hr:∀l∈cs,l.length≤100)(c:Nat)(X1:AZ):∀(d j N:Nat),j+d=cs.length→N≤100*j→∀n m,d<m→BC (AE Tryz.prog ann kn (n+400) 26) SR (ann 26 (BR SR)) m ⟨c,[(2,true,i N),(8,true,.list false (cs.map AR)),(9,true,i cs.length),(10,true,i j)],⟨[],[(1,0,X1)]⟩⟩ =
  some (.exit 0,⟨c,[(11,true,.bool false),(2,true,i ((N+((cs.drop j).map fun l=>l.count true).sum:Nat):Int)),(8,true,.list false (cs.map AR)),(9,true,i cs.length),(10,true,i cs.length)],⟨[],[(1,0,X1)]⟩⟩)
 |0,j,N,hd,hN,n,m+1,hm=>by
  obtain rfl:j=cs.length:=by omega
  rw[AC];simp
 |d+1,j,N,hd,hN,n,m+1,hm=>by
  have hj:j<cs.length:=by omega
  have hw:=BH (k:=j) (by omega);have hlj:=hr cs[j] (List.getElem_mem hj);have q:=fun n m=>AZ7 cs cs[j] hlj N j c (by omega) X1 cs[j].length 0 (by omega) n (m+101) (by omega);have hcl:=List.count_le_length (a:=true) (l:=cs[j]);have ih:=AZ8 cs hl hr c X1 d (j+1) (N+cs[j].count true) (by omega) (by omega) n m (by omega);have hs:N+cs[j].count true+((cs.drop (j+1)).map fun l=>l.count true).sum=N+((cs.drop j).map fun l=>l.count true).sum:=by rw[List.drop_eq_getElem_cons hj,List.map_cons,List.sum_cons];omega
  rw[hs]at ih;generalize ((cs.drop j).map fun l=>l.count true).sum=T at *;generalize cs[j].count true=C at *;simp only[List.take_zero,List.count_nil,Nat.add_zero]at q;rw[AC];simp at ih q;simp[hj,hw,AR,q,ih]
theorem AGY(n:Nat)(c:A3)(hl:c.chairs.length≤100)(hr:∀l∈c.chairs,l.length≤100):AW Tryz.prog kn (AE Tryz.prog ann kn (n+600)) 140 [.agg (AD c)]=some (i (GF c)):=by rw[AQ rfl,AP Tryz.func140 BD6 rfl (by simp[AD,AH,AM,AG,AR,A0,AO])];have q:=fun n m=>AZ8 c.chairs hl hr 1 (.box (AD c)) c.chairs.length 0 0 (by omega) (by omega) n (m+101) (by omega);have e:((c.chairs.drop 0).map fun l=>l.count true).sum=GF c:=rfl;rw[e,Nat.zero_add]at q;generalize GF c=T at *;simp only[AD]at q⊢;simp at q;simp[A2H,AF,q]
def CD(g:Nat×Int):List V:=[i (g.1:Int),i g.2]
def B0(fs:List L9)(out:List Int):Nat→List (Nat×Int)
 |0=>[]
 |k+1=>B0 fs out k++(if decide ((k:Int)∈out)=true then[] else[(k,(fs.getD k ⟨0,0,false,false⟩).size)])
def CO(c:A3)(out:List Int):List (Nat×Int):=B0 c.fams out c.fams.length
theorem NR(fs:List L9)(out:List Int):∀k,(B0 fs out k).length≤k
 |0=>Nat.le_refl _
 |k+1=>by have:=NR fs out k;simp only[B0,List.length_append];split<;>simp<;>omega
theorem BCS{k:Nat}{l:List (Nat×Int)}(h:k+l.length≤1000):CA Tryz.prog 151 k (l.map CD)=true:=by rw[CH (by simp) (by simp)];simp[maxLen,CD];omega
theorem APB(fs:List L9)(hl:fs.length≤30)(out:List Int)(ho:out.length≤40)(X2:AZ):∀(d k c γ:Nat),k+d=fs.length→∃c' γ',∀n m,d<m→BC (AE Tryz.prog ann kn (n+1600) 28) XR (ann 28 (BR XR)) m ⟨c,[(1,true,li out),(4,true,pv 25 γ ((B0 fs out k).map CD)),(8,true,.list false (fs.map AO)),(9,true,i fs.length),(10,true,i k)],⟨[],(2,0,X2)::pl 25 γ 151 ((B0 fs out k).map CD)⟩⟩ =
  some (.exit 0,⟨c',[(11,true,.bool false),(1,true,li out),(4,true,pv 25 γ' ((B0 fs out fs.length).map CD)),(8,true,.list false (fs.map AO)),(9,true,i fs.length),(10,true,i fs.length)],⟨[],(2,0,X2)::pl 25 γ' 151 ((B0 fs out fs.length).map CD)⟩⟩)
 |0,k,c,γ,hd=>by
  obtain rfl:k=fs.length:=by omega
  refine⟨c,γ,fun n m hm=>?_⟩;obtain⟨m,rfl⟩:∃m',m=m'+1:=⟨m-1,by omega⟩;generalize B0 fs out fs.length=R;rw[AC];cases R<;>simp
 |d+1,k,c,γ,hd=>by
  have hk:k<fs.length:=by omega
  have hw:=BH (k:=k) (by omega);have hgl:=NR fs out k;have qC:=fun n=>P3 n out (k:Int) (by omega);have hg:fs.getD k ⟨0,0,false,false⟩=fs[k]:=by rw[List.getD_eq_getElem?_getD,List.getElem?_eq_getElem hk];rfl
  have hst:B0 fs out (k+1)=B0 fs out k++(if decide ((k:Int)∈out)=true then[] else[(k,fs[k].size)]):=by rw[←hg];rfl
  have hap:=BCS (k:=(B0 fs out k).length) (l:=[(k,fs[k].size)]) (by rw[List.length_singleton];omega);generalize decide ((k:Int)∈out)=z at *;generalize hfk:fs[k]=f at *;cases z with
  |true=>
   obtain⟨c',γ',ih⟩:=APB fs hl out ho X2 d (k+1) (c+1) γ (by omega)
   refine⟨c',γ',fun n m hm=>?_⟩
   obtain⟨m,rfl⟩:∃m',m=m'+1:=⟨m-1,by omega⟩
   have ih:=ih n m (by omega)
   rw[hst,if_pos rfl,List.append_nil]at ih
   generalize B0 fs out fs.length=fin at *
   generalize B0 fs out k=R at *
   rw[AC]
   cases R<;>(simp[CD]at ih;simp[hk,hw,hfk,AO,CD,qC,BO,ih])
  |false=>
   obtain⟨c',γ',ih⟩:=APB fs hl out ho X2 d (k+1) (c+2) (c+1) (by omega)
   refine⟨c',γ',fun n m hm=>?_⟩
   obtain⟨m,rfl⟩:∃m',m=m'+1:=⟨m-1,by omega⟩
   have ih:=ih n m (by omega)
   rw[hst,if_neg (by decide)]at ih
   generalize B0 fs out fs.length=fin at *
   generalize B0 fs out k=R at *
   rw[AC]
   cases R with
   |nil=>simp[CD,pv]at ih hap;simp[hk,hw,hfk,AO,CD,qC,hap,BO,ih,pv]
   |cons r R=>simp[CD]at ih hap;simp[hk,hw,hfk,AO,CD,qC,hap,BO,ih]
theorem AGZ(n:Nat)(c:A3)(hl:c.fams.length≤30)(out:List Int)(ho:out.length≤40):AW Tryz.prog kn (AE Tryz.prog ann kn (n+2000)) 92 [.agg (AD c),li out]=some (sl ((CO c out).map CD)):=by
 rw[AQ rfl,AP Tryz.func92 b92 rfl (by simp[AD,AH,AM,AG,AR,A0,AO])];obtain⟨c',γ',q⟩:=APB c.fams hl out ho (.box (AD c)) c.fams.length 0 1 0 (by omega);have q:=fun n m=>q n (m+100) (by omega);have e:B0 c.fams out c.fams.length=CO c out:=rfl;rw[e,show B0 c.fams out 0=[] from rfl]at q;generalize hG:CO c out=G at *;have hcl:(G.map CD).all (fun e=>e.all (AK 8))=true:=by simp[CD]
 generalize G.map CD=R at *;simp only[AD,List.map_nil]at q⊢;simp at q;simp[c92,AF,q];exact fun e he v hv=>List.all_eq_true.1 (List.all_eq_true.1 hcl e he) v hv
def l7:Option (Nat×List V)→AA
 |none=>[]
 |some (γ,cs)=>[(7,γ,.box cs)]
theorem AAO{s:St}(l:List Sp){j:Nat}(hj:j≤l.length):B4 Tryz.prog s 120 (.list false (l.map AX)) none (some (i j)) none=some (.list false ((l.map AX).take j)):=by have:=bA (P:=Tryz.prog) (s:=s) (T:=120) (e:=153) (es:=l.map AX) (h:=(j:Int)) (b:=false) (by kernel_rfl) (by simp) (by omega) (by rw[List.length_map];omega);simpa using this
theorem wM(n:Nat)(c:A3)(x:Sp)(l:List Sp)(hl:l.length≤10)(hx:x.fam<c.fams.length∧(0≤x.size∧x.size≤1000)∧-1000≤x.place∧x.place≤1000)(hy:∀y∈l,y.fam<c.fams.length∧(0≤y.size∧y.size≤1000)∧-1000≤y.place∧y.place≤1000)(g d:Nat)(fr:Fr):∃g',g+1≤g'∧G4 (BN Tryz.prog ann kn (n+900)) (some d) ⟨g+1,fr,⟨[],[(2,0,.box (AD c)),(7,g,.box (AX x))]⟩⟩ 137 [.list false (l.map AX),.fn 138 [] [.ptr 0 2 0 0,.ptr 0 7 g 0]] =
  some ⟨g',(d,true,.bool (l.all (GH c x)))::fr,⟨[],[(2,0,.box (AD c)),(7,g,.box (AX x))]⟩⟩:=by
 obtain⟨c',h1,q⟩:=AO8 n 600 0 (fun _=>[]) (fun _=>[(2,0,.box (AD c)),(7,g,.box (AX x))]) (by simp) (fun _=>True) 138 [.ptr 0 2 0 0,.ptr 0 7 g 0] (by simp) (by simp) (fun (_:Unit) y=>GH c x y) (fun _ _=>()) l (by omega) (by simp[AD,AH,AM,AG,AR,A0,AO,AX]) (by
   intro t γ ht;obtain⟨up,loc⟩:=t;have h0:¬0=up.length:=by simp at ht;omega
   simp[h0]) (g+1) (by
   intro n c1 γ fr s y hc hs hm;refine⟨fun h=>trivial,c1+1,by omega,?_⟩;obtain⟨y1,y2,y3⟩:=hy y hm;have qa:=fun n=>APA n c x y hx.1 y1 hx.2.2 y3 hx.2.1 y2;simp only[List.nil_append,List.cons_append];rw[A7 Tryz.func138 b138 rfl (by simp)];generalize GH c x y=z at *;simp only[AD,AX]at qa ⊢;simp[A2J,AF,AH,AM,AG,AR,A0,AO,qa]) d fr () trivial
 rw[E2]at q
 have hn:=IG (GH c x) l
 have e:n+600+300=n+900:=by omega
 rw[e]at q
 simp only at q
 rw[hn]at q
 exact⟨c',h1,q⟩
theorem AZ9(n:Nat)(c:A3)(hc:DW c)(l:List Sp)(hl:l.length≤10)(hs:∀x∈l,x.fam<c.fams.length∧1≤x.size∧x.size≤4):∀(d j g:Nat) (o:Option (Nat×List V)),j+d=l.length→0<g→EP c [] (l.take j)=true→∃g' o',∀m,d<m→BC (AE Tryz.prog ann kn (n+1200) 37) SW (ann 37 (BR SW)) m ⟨g,[(1,true,.list false (l.map AX)),(2,true,.ptr 0 2 0 0),(5,true,i (EV (l.take j))),(8,true,.list false (l.map AX)),(9,true,i l.length),(10,true,i j)],⟨[],(2,0,.box (AD c))::l7 o⟩⟩ =
  bif EP c [] l then some (.exit 0,⟨g',[(11,true,.bool false),(1,true,.list false (l.map AX)),(2,true,.ptr 0 2 0 0),(5,true,i (EV l)),(8,true,.list false (l.map AX)),(9,true,i l.length),(10,true,i l.length)],⟨[],(2,0,.box (AD c))::l7 o'⟩⟩) else some (.ret,⟨g',[(4,true,.bool false)],⟨[],[]⟩⟩)
 |0,j,g,o,hd,hg,hok=>by
  obtain rfl:j=l.length:=by omega
  rw[List.take_length]at hok⊢;refine⟨g,o,fun m hm=>?_⟩;obtain⟨m,rfl⟩:∃m',m=m'+1:=⟨m-1,by omega⟩;rw[hok,AC];rcases o with _|⟨γ,cs⟩<;>simp[AD,l7]
 |d+1,j,g,o,hd,hg,hok=>by
  have hj:j<l.length:=by omega
  have hw:=BH (k:=j) (by omega);have hro:=hc.be.ro;have hpl:=hc.be.pl;obtain⟨x1,x2⟩:=hs l[j] (List.getElem_mem hj);have hps:=UN (l.take j) fun y hy=>by have:=(hs y (List.mem_of_mem_take hy)).2;omega
  have htl:(l.take j).length≤10:=by rw[List.length_take];omega
  have hwp:IntKind.i64.wrap (EV (l.take j)+l[j].size)=EV (l.take j)+l[j].size:=AV (by omega) (by omega);have qf:=fun n=>AZ6 n c l[j] (by omega) (by omega) (by omega);have ht:=iV c l hj;rw[hok,Bool.true_and]at ht;cases hf:F8 c l[j]with
  |false=>
   rw[hf]at qf
   rw[hf,Bool.false_and]at ht
   have hno:=XD c l (j+1) ht
   simp only[AD,AX]at qf
   refine⟨g+1,none,fun m hm=>?_⟩
   obtain⟨m,rfl⟩:∃m',m=m'+1:=⟨m-1,by omega⟩
   rw[hno,AC]
   simp only[AD]
   rcases o with _|⟨γ,cs⟩<;>simp[hj,hw,hwp,AX,AR,A0,AO,qf,BO,l7]
  |true=>
   rw[hf]at qf
   rw[hf,Bool.true_and]at ht
   have hfits:=NQ c (l.take j) [] hok
   have hfx:(0≤l[j].row∧l[j].row≤c.beach.rows-1)∧0≤l[j].place∧l[j].place≤c.beach.places-l[j].size:=by simpa only[F8,Bool.and_eq_true,DV]using hf
   have hyy:∀y∈l.take j,y.fam<c.fams.length∧(0≤y.size∧y.size≤1000)∧-1000≤y.place∧y.place≤1000:=fun y hy=>by have h1:=hs y (List.mem_of_mem_take hy);have h2:=hfits y hy;simp only[F8,Bool.and_eq_true,DV]at h2;exact⟨h1.1,by omega,by omega⟩
   obtain⟨g1,hg1,qa⟩:=wM (n+292) c l[j] (l.take j) htl ⟨x1,by omega,by omega⟩ hyy g 29 [(28,true,.fn 138 [] [.ptr 0 2 0 0,.ptr 0 7 g 0]),(27,true,.list false ((l.take j).map AX)),(26,true,i j),(25,true,.list false (l.map AX)),(24,true,.bool false),(23,true,.bool false),(22,true,.bool true),(21,true,.agg (AX l[j])),(20,true,.agg (AD c)),(1,true,.list false (l.map AX)),(2,true,.ptr 0 2 0 0),(5,true,i (EV (l.take j)+l[j].size)),(6,true,i j),(7,true,.ptr 0 7 g 0),(8,true,.list false (l.map AX)),(9,true,i l.length),(10,true,i j)]
   have qsl:=fun s=>AAO (s:=s) l (Nat.le_of_lt hj)
   rw[List.map_take]at qa
   simp only[AD,AX,Nat.add_assoc,Nat.reduceAdd]at qf qa
   cases hz:(l.take j).all (GH c l[j])with
   |false=>
    rw[hz]at ht qa
    have hno:=XD c l (j+1) ht
    refine⟨g1,none,fun m hm=>?_⟩
    obtain⟨m,rfl⟩:∃m',m=m'+1:=⟨m-1,by omega⟩
    rw[hno,AC]
    simp only[AD]
    rcases o with _|⟨γ,cs⟩<;>simp[hj,hw,hwp,AX,AR,A0,AO,qf,BO,l7,qsl,qa]
   |true=>
    rw[hz]at ht qa
    obtain⟨g',o',ih⟩:=AZ9 n c hc l hl hs d (j+1) g1 (some (g,AX l[j])) (by omega) (by omega) ht
    refine⟨g',o',fun m hm=>?_⟩
    obtain⟨m,rfl⟩:∃m',m=m'+1:=⟨m-1,by omega⟩
    have ih:=ih m (by omega)
    rw[iW l hj]at ih
    generalize EP c [] l=Z at *
    generalize EV l=PL at *
    rw[AC]
    simp only[AD,AX,l7]at ih⊢
    simp at ih
    rcases o with _|⟨γ,cs⟩<;>simp[hj,hw,hwp,AX,AR,A0,AO,qf,BO,l7,qsl,qa,ih]
theorem AG0(n:Nat)(c:A3)(hc:DW c)(l:List Sp)(hl:l.length≤10)(hs:∀x∈l,x.fam<c.fams.length∧1≤x.size∧x.size≤4):AW Tryz.prog kn (AE Tryz.prog ann kn (n+1500)) 109 [.agg (AD c),.list false (l.map AX)]=some (.bool (KL c l)):=by
 rw[AQ rfl,AP Tryz.func109 BD9 rfl (by simp[AD,AH,AM,AG,AR,A0,AO,AX])];obtain⟨g',o',q⟩:=AZ9 (n+294) c hc l hl hs l.length 0 1 none (by omega) (by omega) rfl;have q:=q (n+1494) (by omega);have hro:=hc.be.ro;have hpl:=hc.be.pl;have hch:=hc.ch;have qc:=fun n=>AGY n c (by omega) (fun l hl=>by have:=hc.cr l hl;omega);unfold KL;have hps:=UN l fun y hy=>by have:=(hs y hy).2;omega
 rw[show EV (l.take 0)=0 from rfl]at q;generalize EP c [] l=Z at *;generalize EV l=PL at *;generalize GF c=CN at *;generalize e1:decide (PL≤(CN:Int))=z1;simp only[AD,l7,Nat.add_assoc,Nat.reduceAdd]at q qc⊢;simp at q;cases Z with
 |false=>
  simp at q
  simp[AP1,AF,q]
 |true=>
  simp at q
  rcases o' with _|⟨γ,cs⟩<;>simp[l7]at q<;>simp[AP1,AF,q,AR,A0,AO,qc,e1]
end Go.Proofs.Tryz.Op
namespace Go.Wind
theorem WM{c:A3}{ss:List (Int×Int)}(h:ss.length=c.fams.length){k:Nat}(hk:k<c.fams.length):(AY c ss).take (k+1)=(AY c ss).take k++[⟨k,c.fams[k].size,(ss[k]'(by omega)).1,(ss[k]'(by omega)).2⟩]:=by have hl:(AY c ss).length=c.fams.length:=C6 h;rw[List.take_succ_eq_append_getElem (by omega)];have:=NP (k:=0) (fs:=c.fams) (ss:=ss) k hk (by omega) (by show k<(AY c ss).length;omega);rw[Nat.zero_add]at this;exact congrArg (fun y=>(AY c ss).take k++[y]) this
end Go.Wind
namespace Go.Proofs.Tryz.Op
theorem NS(fs:List L9):∀k,k≤fs.length→B0 fs [] k=(List.range k).map fun j=>(j,(fs.getD j ⟨0,0,false,false⟩).size)
 |0,_=>rfl
 |k+1,h=>by rw[B0,NS fs k (by omega),List.range_succ,List.map_append];simp
theorem cO{c:A3}{k:Nat}(hk:k<c.fams.length)(h:k<(CO c []).length):(CO c [])[k]=(k,c.fams[k].size):=by have e:CO c []=(List.range c.fams.length).map fun j=>(j,(c.fams.getD j ⟨0,0,false,false⟩).size):=NS c.fams _ (Nat.le_refl _);simp only[e,List.getElem_map,List.getElem_range,List.getD_eq_getElem?_getD,List.getElem?_eq_getElem hk];rfl
theorem FJ(c:A3):(CO c []).length=c.fams.length:=by have e:CO c []=(List.range c.fams.length).map fun j=>(j,(c.fams.getD j ⟨0,0,false,false⟩).size):=NS c.fams _ (Nat.le_refl _);rw[e];simp
theorem BCT{k:Nat}{l:List Sp}(h:k+l.length≤1000):CA Tryz.prog 153 k (l.map AX)=true:=by rw[CH (by simp) (by simp)];simp[maxLen,AX];omega
theorem A0A(c:A3)(hf:c.fams.length≤10)(ss:List (Int×Int))(hs:ss.length=c.fams.length)(X2:AZ):∀(d k g γ:Nat),k+d=c.fams.length→∃g' γ',∀n m,d<m→BC (AE Tryz.prog ann kn (n+1200) 37) XY (ann 37 (BR XY)) m ⟨g,[(1,true,.list false (ss.map AG)),(2,true,.ptr 0 2 0 0),(6,true,pv 31 γ (((AY c ss).take k).map AX)),(16,true,.list false ((CO c []).map CD)),(17,true,i c.fams.length),(18,true,i k)],⟨[],(2,0,X2)::pl 31 γ 153 (((AY c ss).take k).map AX)⟩⟩ =
  some (.exit 0,⟨g',[(19,true,.bool false),(1,true,.list false (ss.map AG)),(2,true,.ptr 0 2 0 0),(6,true,pv 31 γ' ((AY c ss).map AX)),(16,true,.list false ((CO c []).map CD)),(17,true,i c.fams.length),(18,true,i c.fams.length)],⟨[],(2,0,X2)::pl 31 γ' 153 ((AY c ss).map AX)⟩⟩)
 |0,k,g,γ,hd=>by
  obtain rfl:k=c.fams.length:=by omega
  have hl:(AY c ss).length=c.fams.length:=C6 hs;rw[←hl,List.take_length,hl];refine⟨g,γ,fun n m hm=>?_⟩;obtain⟨m,rfl⟩:∃m',m=m'+1:=⟨m-1,by omega⟩;generalize AY c ss=R;rw[AC];cases R<;>simp
 |d+1,k,g,γ,hd=>by
  have hk:k<c.fams.length:=by omega
  have hks:k<ss.length:=by omega
  have hw:=BH (k:=k) (by omega);have hgk:k<(CO c []).length:=by rw[FJ];omega
  have hg:=cO hk hgk;have hst:=WM hs hk;have hl:(AY c ss).length=c.fams.length:=C6 hs;have htl:((AY c ss).take k).length=k:=by rw[List.length_take];omega
  have hap:=BCT (k:=((AY c ss).take k).length) (l:=[⟨k,c.fams[k].size,ss[k].1,ss[k].2⟩]) (by rw[List.length_singleton];omega);obtain⟨g',γ',ih⟩:=A0A c hf ss hs X2 d (k+1) (g+2) (g+1) (by omega);refine⟨g',γ',fun n m hm=>?_⟩;obtain⟨m,rfl⟩:∃m',m=m'+1:=⟨m-1,by omega⟩;have ih:=ih n m (by omega);rw[hst]at ih;generalize AY c ss=fin at *;generalize fin.take k=R at *;generalize hG:CO c []=G at *;generalize c.fams[k].size=sz at *;rw[AC];cases R with
  |nil=>simp[CD,AX,AG,pv,pl]at ih hap;simp[hk,hks,hgk,hg,hw,CD,AX,AG,hap,BO,ih,pv,pl,ET,HV,EW,BV,CB,BK,E7,EQ,show Nat.beq 2 1=false from rfl]
  |cons r R=>simp[CD,AX,AG,pv,pl]at ih hap;simp[hk,hks,hgk,hg,hw,CD,AX,AG,hap,BO,ih,pv,pl,ET,HV,EW,BV,CB,BK,E7,EQ,show Nat.beq 2 1=false from rfl]
def NU(c:A3)(ss:List (Int×Int)):List Sp×Bool:=if ss.length=c.fams.length then(AY c ss,KL c (AY c ss)) else([],false)
theorem VY{c:A3}(hc:DW c){ss:List (Int×Int)}(hs:ss.length=c.fams.length):∀x∈AY c ss,x.fam<c.fams.length∧1≤x.size∧x.size≤4:=fun x hx=>by have hl:(AY c ss).length=c.fams.length:=C6 hs;obtain⟨j,hj,rfl⟩:=List.getElem_of_mem hx;have:=NP (k:=0) (fs:=c.fams) (ss:=ss) j (by omega) (by omega) hj;have e:(AY c ss)[j]=⟨0+j,(c.fams[j]'(by omega)).size,(ss[j]'(by omega)).1,(ss[j]'(by omega)).2⟩:=this;rw[e];have hf:=hc.fo _ (List.getElem_mem (show j<c.fams.length by omega));exact⟨by simp only;omega,by simp only;omega,by simp only;omega⟩
theorem APC(n:Nat)(c:A3)(hc:DW c)(ss:List (Int×Int)):AW Tryz.prog kn (AE Tryz.prog ann kn (n+2200)) 65 [.agg (AD c),.list false (ss.map AG)]=some (.tup [sl ((NU c ss).1.map AX),.bool (NU c ss).2]):=by
 rw[AQ rfl,AP Tryz.func65 b65 rfl (by simp[AD,AH,AM,AG,AR,A0,AO])];have slnil:sl ([]:List (List V))=.nil:=rfl;unfold NU;by_cases hs:ss.length=c.fams.length
 ·rw[if_pos hs];have hfl:=hc.fl;have hl:(AY c ss).length=c.fams.length:=C6 hs;have hsI:(ss.length:Int)=c.fams.length:=by omega
  have qS:=fun n=>AG0 n c hc (AY c ss) (by omega) (VY hc hs);have qG:∀n,AW Tryz.prog kn (AE Tryz.prog ann kn (n+2000)) 92 [.agg (AD c),.list false []]=some (sl ((CO c []).map CD)):=fun n=>AGZ n c (by omega) [] (by simp);by_cases hG:CO c []=[]
  ·have h0:c.fams=[]:=List.eq_nil_of_length_eq_zero (by rw[←FJ,hG];rfl);have hL:AY c ss=[]:=List.eq_nil_of_length_eq_zero (by rw[hl,h0];rfl);rw[hG]at qG;rw[hL]at qS⊢;generalize KL c []=Z at *;rw[h0]at hsI;simp only[AD,h0]at qS qG⊢;simp at qS qG;simp[c65,AF,slnil,qG,qS,hsI,AG,AR,A0,AO,AC]
  ·obtain⟨g',γ',q⟩:=A0A c (by omega) ss hs (.box (AD c)) c.fams.length 0 1 0 (by omega);have q:=fun n m=>q n (m+100) (by omega);rw[slX hG]at qG;have gl:=FJ c;rw[show(AY c ss).take 0=[] from rfl]at q;generalize AY c ss=L at *;generalize KL c L=Z at *;generalize CO c []=G at *;simp only[AD]at q qS qG⊢;simp at q qS qG;have hLn:L≠[]:=fun e=>hG (List.eq_nil_of_length_eq_zero (by rw[gl,←hl,e];rfl));have hsl:=slX (f:=AX) hLn;rw[hsl];simp[c65,AF,slnil,hsl,AX,qG,qS,hsI,gl,AG,AR,A0,AO,q]
 ·have hsI:¬(ss.length:Int)=c.fams.length:=by omega
  rw[if_neg hs];simp only[AD];simp[c65,AF,slnil,hsI,AG,AR,A0,AO]
end Go.Proofs.Tryz.Op
namespace Go.Wind
def GO(l:List EI):Int:=(l.map EI.good).sum
theorem XH(l:List EI)(x:EI):GO (l++[x])=GO l+x.good:=by unfold GO;rw[List.map_append,List.sum_append];simp
theorem oP{l:List EI}{k:Nat}(h:k<l.length):GO (l.take (k+1))=GO (l.take k)+l[k].good:=by rw[List.take_succ_eq_append_getElem h,XH]
theorem AAP{l:List EI}(h:∀x∈l,0≤x.good∧x.good≤100):0≤GO l∧GO l≤100*l.length:=by
 unfold GO;induction l with
 |nil=>simp
 |cons x l ih=>
  have h1:=h x (by simp)
  have h2:=ih fun y hy=>h y (by simp[hy])
  simp only[List.map_cons,List.sum_cons,List.length_cons]
  omega
theorem cP{l:List EI}{a:Nat}:∀{n:Nat},a+n≤l.length→GO ((l.take (a+n)).drop a)=H7 (fun p=>(l.getD (a+p) ⟨0,0,0⟩).good) n
 |0,h=>by rw[Nat.add_zero,List.drop_eq_nil_of_le (by rw[List.length_take];omega)];rfl
 |n+1,h=>by have ih:=cP (l:=l) (a:=a) (n:=n) (by omega);rw[H7,←ih,←Nat.add_assoc,List.take_succ_eq_append_getElem (by omega),List.drop_append_of_le_length (by rw[List.length_take];omega),XH];rw[List.getD_eq_getElem?_getD,List.getElem?_eq_getElem (by omega)];rfl
end Go.Wind
namespace Go.Proofs.Tryz.Op
theorem MB{P:Program}{s:St}{r:Operand→Option V}(T:TypeId)(x l h:Operand):IQ P (eP (.slice T x (some l) (some h) none)) s r=(r x).bind fun a=>(r l).bind fun b=>(r h).bind fun c=>B4 P s T a (some b) (some c) none:=by show((r x).bind fun a=>((r l).map some).bind fun l=>((r h).map some).bind fun h=>(some none).bind fun m=>B4 P s T a l h m)=_;cases r x<;>cases r l<;>cases r h<;>rfl
theorem H5{P:Program}{r:Operand→Option V}(T:TypeId)(x:Operand)(l h m:Option Operand):HQ P (.oth (.slice T x l h m)) r=EC (r x):=rfl
theorem A0B(L:List Sp)(H:List (List EI))(O:List Int)(j γ:Nat)(M:List EI)(hM:M.length≤10)(hg:∀x∈M,0≤x.good∧x.good≤100):∀(d k c:Nat),k+d=M.length→∃c',c≤c'∧∀n m,d<m→BC (AE Tryz.prog ann kn (n+600) 51) X7 (ann 51 (BR X7)) m ⟨c,[(2,true,.list false (H.map BF)),(6,true,pv 48 γ (O.map AH)),(9,true,i (GO (M.take k))),(12,true,.list false (L.map AX)),(13,true,i L.length),(14,true,i j),(34,true,.list false (M.map BI)),(35,true,i M.length),(36,true,i k)],⟨[],pl 48 γ 3 (O.map AH)⟩⟩ =
  some (.exit 2,⟨c',[(37,true,.bool false),(2,true,.list false (H.map BF)),(6,true,pv 48 γ (O.map AH)),(9,true,i (GO M)),(12,true,.list false (L.map AX)),(13,true,i L.length),(14,true,i j),(34,true,.list false (M.map BI)),(35,true,i M.length),(36,true,i M.length)],⟨[],pl 48 γ 3 (O.map AH)⟩⟩)
 |0,k,c,hd=>by
  obtain rfl:k=M.length:=by omega
  rw[List.take_length];refine⟨c,Nat.le_refl _,fun n m hm=>?_⟩;obtain⟨m,rfl⟩:∃m',m=m'+1:=⟨m-1,by omega⟩;generalize GO M=S;rw[AC];cases O<;>simp
 |d+1,k,c,hd=>by
  have hk:k<M.length:=by omega
  have hw:=BH (k:=k) (by omega);have h1:=hg M[k] (List.getElem_mem hk);have h2:=AAP (l:=M.take k) fun x hx=>hg x (List.mem_of_mem_take hx);have h3:(M.take k).length≤10:=by rw[List.length_take];omega
  have hwg:IntKind.i64.wrap (GO (M.take k)+M[k].good)=GO (M.take k)+M[k].good:=AV (by omega) (by omega);obtain⟨c',hc,ih⟩:=A0B L H O j γ M hM hg d (k+1) (c+1) (by omega);refine⟨c',by omega,fun n m hm=>?_⟩;obtain⟨m,rfl⟩:∃m',m=m'+1:=⟨m-1,by omega⟩;have ih:=ih n m (by omega);rw[oP hk]at ih;generalize GO (M.take k)=S at *;generalize GO M=SS at *;rw[AC];cases O<;>(simp[BI]at ih;simp[hk,hw,hwg,BI,BO,ih])
theorem cQ{s:St}(l:List EI){a b:Int}(h1:0≤a)(h2:a≤b)(h3:b≤l.length):B4 Tryz.prog s 156 (.list false (l.map BI)) (some (i a)) (some (i b)) none=some (.list false (((l.take b.toNat).drop a.toNat).map BI)):=by
 have hT:BQ Tryz.prog 156=some (none,155):=by kernel_rfl
 simp only[B4,hT];rw[if_pos ⟨h1,h2,by rw[List.length_map];exact h3,by simp,by rw[List.all_map,List.all_eq_true];intro x _;simp[BI]⟩,←List.map_take,←List.map_drop]
theorem A0C(L:List Sp)(hL:L.length≤10)(H:List (List EI))(hH:∀l∈H,l.length≤10)(hg:∀l∈H,∀x∈l,0≤x.good∧x.good≤100)(hr:H.length≤100)(hx:∀x∈L,0≤x.row∧x.row<H.length∧0≤x.place∧0≤x.size∧x.place+x.size≤(H.getD x.row.toNat []).length):∀(d j c γ:Nat),j+d=L.length→∃c' γ',∀n m,d<m→BC (AE Tryz.prog ann kn (n+900) 51) X9 (ann 51 (BR X9)) m ⟨c,[(2,true,.list false (H.map BF)),(6,true,pv 48 γ (((L.take j).map (JM H)).map AH)),(12,true,.list false (L.map AX)),(13,true,i L.length),(14,true,i j)],⟨[],pl 48 γ 3 (((L.take j).map (JM H)).map AH)⟩⟩ =
  some (.exit 0,⟨c',[(15,true,.bool false),(2,true,.list false (H.map BF)),(6,true,pv 48 γ' ((L.map (JM H)).map AH)),(12,true,.list false (L.map AX)),(13,true,i L.length),(14,true,i L.length)],⟨[],pl 48 γ' 3 ((L.map (JM H)).map AH)⟩⟩)
 |0,j,c,γ,hd=>by
  obtain rfl:j=L.length:=by omega
  rw[List.take_length];refine⟨c,γ,fun n m hm=>?_⟩;obtain⟨m,rfl⟩:∃m',m=m'+1:=⟨m-1,by omega⟩;generalize L.map (JM H)=O;rw[AC];cases O<;>simp
 |d+1,j,c,γ,hd=>by
  have hj:j<L.length:=by omega
  have hw:=BH (k:=j) (by omega);obtain⟨x1,x2,x3,x4,x5⟩:=hx L[j] (List.getElem_mem hj);have hst:(L.take (j+1)).map (JM H)=(L.take j).map (JM H)++[JM H L[j]]:=by rw[List.take_succ_eq_append_getElem hj,List.map_append];rfl
  have hOl:((L.take j).map (JM H)).length=j:=by rw[List.length_map,List.length_take];omega
  have hrl:L[j].row.toNat<H.length:=by omega
  have hHe:H.getD L[j].row.toNat []=H[L[j].row.toNat]:=by rw[List.getD_eq_getElem?_getD,List.getElem?_eq_getElem hrl];rfl
  have hH1:=hH H[L[j].row.toNat] (List.getElem_mem hrl);have hG1:=hg H[L[j].row.toNat] (List.getElem_mem hrl);have hS:JM H L[j]=GO (((H[L[j].row.toNat]).take (L[j].place+L[j].size).toNat).drop L[j].place.toNat):=by unfold JM;rw[hHe]at x5⊢;rw[show(L[j].place+L[j].size).toNat=L[j].place.toNat+L[j].size.toNat by omega,cP (by omega)]
  rw[hHe]at x5;have hwp:IntKind.i64.wrap (L[j].place+L[j].size)=L[j].place+L[j].size:=AV (by omega) (by omega);have qs:=fun s=>cQ (s:=s) H[L[j].row.toNat] x3 (show L[j].place≤L[j].place+L[j].size by omega) x5;rw[hS]at hst;generalize hM:((H[L[j].row.toNat]).take (L[j].place+L[j].size).toNat).drop L[j].place.toNat=M at *;have hMl:M.length≤10:=by rw[←hM,List.length_drop,List.length_take];omega
  have hMg:∀x∈M,0≤x.good∧x.good≤100:=fun x hx=>hG1 x (List.mem_of_mem_take (List.mem_of_mem_drop (hM▸hx)));obtain⟨c1,hc1,q⟩:=A0B L H ((L.take j).map (JM H)) j γ M hMl hMg M.length 0 (c+1) (by omega);have q:=fun n m=>q n (m+100) (by omega);obtain⟨c',γ',ih⟩:=A0C L hL H hH hg hr hx d (j+1) (c1+1) c1 (by omega);have hap:=AOX (k:=((L.take j).map (JM H)).length) (x:=GO M) (by omega);refine⟨c',γ',fun n m hm=>?_⟩;obtain⟨m,rfl⟩:∃m',m=m'+1:=⟨m-1,by omega⟩;have ih:=ih n m (by omega);rw[hst]at ih;rw[show GO (M.take 0)=0 from rfl]at q;generalize L.map (JM H)=fin at *;generalize (L.take j).map (JM H)=O at *;generalize GO M=SM at *;generalize hX:L[j]=X at *;rw[AC];cases O with
  |nil=>simp[AX,AH,pv,pl]at ih hap q;simp[hj,hX,hw,hwp,x1,x2,hrl,qs,MB,H5,EC,q,AX,BF,AH,hap,BO,ih,pv,pl,ET,HV,EW,BV,CB,BK,E7,EQ]
  |cons r R=>simp[AX,AH,pv,pl]at ih hap q;simp[hj,hX,hw,hwp,x1,x2,hrl,qs,MB,H5,EC,q,AX,BF,AH,hap,BO,ih,pv,pl,ET,HV,BV,CB,BK,E7,EQ]
theorem A0D(n:Nat)(c:A3)(L:List Sp)(hL:L.length≤10)(H:List (List EI))(hH:∀l∈H,l.length≤10)(hg:∀l∈H,∀x∈l,0≤x.good∧x.good≤100)(hr:H.length≤100)(hx:∀x∈L,0≤x.row∧x.row<H.length∧0≤x.place∧0≤x.size∧x.place+x.size≤(H.getD x.row.toNat []).length):AW Tryz.prog kn (AE Tryz.prog ann kn (n+1000)) 67 [.agg (AD c),.list false (L.map AX),.list false (H.map BF)]=some (sl ((L.map (JM H)).map AH)):=by rw[AQ rfl,AP Tryz.func67 b67 rfl (by simp[AD,AH,AM,AG,AR,A0,AO,AX,BF,BI])];obtain⟨c',γ',q⟩:=A0C L hL H hH hg hr hx L.length 0 1 0 (by omega);have q:=fun n m=>q n (m+100) (by omega);rw[show((L.take 0).map (JM H))=[] from rfl]at q;generalize L.map (JM H)=O at *;simp only[AD]at q⊢;simp at q;simp[c67,AF,q,AR,A0,AO,AX,BF,BI]
abbrev E3(c:A3)(t:List Int):List (List EI):=DH c.beach c.plan t c.beach.rows.toNat
def BIE(c:A3)(ss:List (Int×Int))(t:List Int):List Int×Int :=
 if DM c≠0 then([],DM c) else if DX c ss=true∧AU t c.beach.winds=true then((AY c ss).map (JM (E3 c t)),0) else([],2)
theorem RN{c:A3}(_:DW c)(t:List Int)(_:t.length≤5):(E3 c t).length=c.beach.rows.toNat∧(∀l∈E3 c t,l.length=c.beach.places.toNat)∧∀l∈E3 c t,∀x∈l,0≤x.good∧x.good≤t.length:=by
 refine⟨by simp[E3,DH],fun l hl=>?_,fun l hl x hx=>?_⟩
 ·simp only[E3,DH,List.mem_map]at hl;obtain⟨r,_,rfl⟩:=hl;simp[UH]
 ·simp only[E3,DH,List.mem_map]at hl;obtain⟨r,_,rfl⟩:=hl;simp only[UH,List.mem_map]at hx;obtain⟨q,_,rfl⟩:=hx;have:=bH (I1 c.beach c.plan t r q) (IL c.beach c.plan r) t.length;change 0≤(DC c.beach c.plan t r q).sun∧(DC c.beach c.plan t r q).sun≤t.length∧0≤(DC c.beach c.plan t r q).calm∧(DC c.beach c.plan t r q).calm≤t.length∧0≤(DC c.beach c.plan t r q).good∧(DC c.beach c.plan t r q).good≤t.length at this;exact⟨by omega,by omega⟩
theorem EG{c:A3}(hc:DW c){ss:List (Int×Int)}(h:DX c ss=true):ss.length=c.fams.length∧∀x∈AY c ss,0≤x.row∧x.row<c.beach.rows∧0≤x.place∧(1≤x.size∧x.size≤4)∧x.place+x.size≤c.beach.places:=by simp only[DX,KL,Bool.and_eq_true,decide_eq_true_eq]at h;refine⟨h.1,fun x hx=>?_⟩;have h1:=NQ c (AY c ss) [] h.2.1 x hx;have h2:=(VY hc h.1 x hx).2;simp only[F8,Bool.and_eq_true,DV]at h1;omega
theorem XI{c:A3}(hc:DW c)(t:List Int)(h5:t.length≤5){r:Int}(h0:0≤r)(h1:r<c.beach.rows):((E3 c t).getD r.toNat []).length=c.beach.places.toNat:=by
 obtain⟨o1,o2,_⟩:=RN hc t h5;have hr:r.toNat<(E3 c t).length:=by omega
 rw[List.getD_eq_getElem?_getD,List.getElem?_eq_getElem hr];exact o2 _ (List.getElem_mem hr)
theorem APD(n:Nat)(c:A3)(hc:DW c)(ss:List (Int×Int))(hs:DX c ss=true)(t:List Int)(ht:AU t c.beach.winds=true):AW Tryz.prog kn (AE Tryz.prog ann kn (n+1000)) 67 [.agg (AD c),.list false ((AY c ss).map AX),.list false ((E3 c t).map BF)]=some (sl (((AY c ss).map (JM (E3 c t))).map AH)):=by obtain⟨h1,h2⟩:=EG hc hs;have hlw:=BU ht;have hl5:=hc.be.hl;have hro:=hc.be.ro;have hpl:=hc.be.pl;have hfl:=hc.fl;obtain⟨o1,o2,o3⟩:=RN hc t (by omega);refine A0D n c _ (by rw[show(AY c ss).length=c.fams.length from C6 h1];omega) _ (fun l hl=>by rw[o2 l hl];omega) (fun l hl x hx=>by have:=o3 l hl x hx;omega) (by omega) fun x hx=>?_;obtain⟨x1,x2,x3,x4,x5⟩:=h2 x hx;rw[XI hc t (by omega) x1 x2];omega
end Go.Proofs.Tryz.Op
