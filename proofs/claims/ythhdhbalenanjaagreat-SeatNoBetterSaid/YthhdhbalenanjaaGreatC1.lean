/- Contracts: a valid family, a row of chairs. No condition. -/
import Derived.Test.YthhdhbalenanjaaGreatA1
import Derived.Test.YthhdhbalenanjaaGreatFz
import Derived.Test.YthhdhbalenanjaaGreatW3
set_option maxRecDepth 100000
set_option linter.unusedSimpArgs false
open Go Go.Pg Go.Proofs Go.Wind
namespace Go.Proofs.Tryz.Op
theorem TS(n:Nat)(x lo hi:Int):A0 Tryz.prog kn (AE Tryz.prog ann kn (n+50)) 163 [i x,i lo,i hi]=some (.bool (GI x lo hi)):=by rw[AP rfl,AR Tryz.func163 BK6 rfl (by simp)];unfold GI;generalize e1:decide (lo≤x)=z1;generalize e2:decide (x≤hi)=z2;cases z1<;>cases z2<;>simp[A9H,AG,e1,e2]
theorem yQ(n:Nat)(f:RJ):A0 Tryz.prog kn (AE Tryz.prog ann kn (n+200)) 121 [.agg (AU f)]=some (.bool (LP f)):=by rw[AP rfl,AR Tryz.func121 BK7 rfl (by simp[AU])];have q1:=fun n=>TS n f.size 1 4;have q2:=fun n=>TS n f.good 0 5;unfold LP;generalize GI f.size 1 4=z1 at *;generalize GI f.good 0 5=z2 at *;cases z1<;>cases z2<;>simp[A9I,AG,AU,q1,q2]
theorem ARI(n:Nat)(c:AO)(l:List Bool):A0 Tryz.prog kn (AE Tryz.prog ann kn (n+200)) 118 [.agg (AD c),lb l]=some (.bool (decide ((l.length:Int)=c.beach.places))):=by rw[AP rfl,AR Tryz.func118 BK8 rfl (by simp[AD,AJ,AM,AF,AS,A3,AU])];generalize e1:decide ((l.length:Int)=c.beach.places)=z1;cases z1<;>simp[A9J,AG,AD,e1]
theorem NI{b:AK}:(FE b [] b.winds []).isEmpty=true↔BO b=[]:=by
 rw[List.isEmpty_iff];constructor<;>intro h<;>refine List.eq_nil_iff_forall_not_mem.2 fun t ht=>?_
 ·have:=(ZY b t).2 (EU.1 ht);rw[h]at this;cases this
 ·have:=EU.2 ((ZY b t).1 ht);rw[h]at this;cases this
theorem Z7(c:AO):(IM c.beach c.plan).2=if CV c.beach≠0 then CV c.beach else if EF c.beach c.plan=false then 2 else if BO c.beach=[] then 11 else 0:=by
 unfold IM;by_cases h:CV c.beach=0
 ·simp only[h,ne_eq,not_true_eq_false,if_true,if_false];cases hp:EF c.beach c.plan with
  |false=>rfl
  |true=>
   simp only[if_true,Bool.true_eq_false,if_false]
   by_cases ht:BO c.beach=[]
   ·rw[if_pos (NI.2 ht),if_pos ht]
   ·rw[if_neg fun hh=>ht (NI.1 hh),if_neg ht]
 ·rw[if_neg h,if_pos h]
theorem Z8(c:AO)(h40:∀l∈c.beach.winds,l.length≤40)(hch:c.chairs.length≤40)(h:¬DZ c=0)(B:AA)(hB:∀t:St,1≤t.up.length→AL t B=B)(g d:Nat)(fr:Fr):∀n,G4 (BN Tryz.prog ann kn (n+8000)) (some d) ⟨g,fr,⟨[],B⟩⟩ 71 [.agg (AD c)] =
  some ⟨g+1,(d,true,.tup [.raw (.pointer none),i (DZ c)])::fr,⟨[],B⟩⟩:=by
 intro n
 rw[ABS Tryz.func71 b71 rfl (by simp)]
 have q1:=fun n=>tX n c.beach h40 c.plan
 rw[Z7]at q1
 unfold DZ at h⊢
 by_cases h3:3<c.fams.length
 ·have h3':(3:Int)<(c.fams.length:Int):=by omega
  rw[if_pos h3];simp[c71,AG,AD,h3',hB]
 ·have h3':¬(3:Int)<(c.fams.length:Int):=by omega
  rw[if_neg h3]at h⊢;have qa:=fun n=>ARG n 200 121 LP c.fams (by omega) (fun n f _=>yQ n f);have qr:=fun n=>ARF n 200 c 118 (fun l=>decide ((l.length:Int)=c.beach.places)) c.chairs hch (fun n l _=>ARI n c l);by_cases h4:CV c.beach≠0
  ·rw[if_pos h4]at q1⊢;generalize (IM c.beach c.plan).1=R at q1;generalize CV c.beach=E at *;simp only[AC,AD]at q1⊢;simp[c71,AG,h3',q1,h4,hB]
  ·rw[if_neg h4]at q1 h⊢;cases h5:EF c.beach c.plan with
   |false=>
    rw[h5,if_pos rfl]at q1
    rw[if_pos rfl]
    generalize (IM c.beach c.plan).1=R at q1
    simp only[AC,AD]at q1⊢
    simp[c71,AG,h3',q1,hB]
   |true=>
    rw[h5,if_neg (by decide)]at q1 h
    rw[if_neg (by decide)]
    by_cases h6:BO c.beach=[]
    ·rw[if_pos h6]at q1⊢;generalize (IM c.beach c.plan).1=R at q1;simp only[AC,AD]at q1⊢;simp[c71,AG,h3',q1,hB]
    ·rw[if_neg h6]at q1 h⊢;have hc1:(if HQ c=false then(1:Int) else if c.fams.all LP=false then 1 else 0)=1:=by
      split at h
      ·rw[if_pos (by assumption)]
      ·rw[if_neg (by assumption)];split at h
       ·rw[if_pos (by assumption)]
       ·exact absurd rfl h
     rw[hc1];simp only[Nat.add_assoc,Nat.reduceAdd]at qa qr;generalize (IM c.beach c.plan).1=R at q1;by_cases hl:(c.chairs.length:Int)=c.beach.rows
     ·cases hr:c.chairs.all (fun l=>decide ((l.length:Int)=c.beach.places))with
      |false=>
       rw[hr]at qr
       simp only[AC,AD]at q1 qr⊢
       simp[c71,AG,h3',q1,qr,hl,hB,AS,A3,AU]
      |true=>
       rw[hr]at qr
       cases hf:c.fams.all LP with
       |true=>
        exfalso
        rw[if_neg (by simp[HQ,hl,hr]),if_neg (by simp[hf])]at h
        exact h rfl
       |false=>
        rw[hf]at qa
        simp only[AC,AD]at q1 qr qa⊢
        simp[c71,AG,h3',q1,qr,qa,hl,hB,AS,A3,AU]
     ·simp only[AC,AD]at q1⊢;simp[c71,AG,h3',q1,hl,hB]
def FC(l:List uF)(n:Nat):List Int:=(List.range 5).map fun p=>if p<n then(l.getD p ⟨0,(0,0),(0,0)⟩).good.1 else 0
def encA(l:List Int):List V:=l.map fun x=>i x
theorem ACL(l:List uF)(n:Nat):∃a0 a1 a2 a3 a4:Int,encA (FC l n)=[i a0,i a1,i a2,i a3,i a4]:=⟨_,_,_,_,_,rfl⟩
theorem DW{P:Program}{fr:Fr}{s:St}(e d c:Nat)(y:List V)(ys:List (List V))(h:B9 P e 0 (y::ys)=true):xY P e d c fr s .nil (y::ys)=some (⟨c+1,(d,true,.vec s.up.length d c (ys.length+1))::fr,s.put s.up.length d c (.vec e (y::ys))⟩,[(s.up.length,d),(s.up.length,d+GD)]):=by unfold xY;simp[JA,h]
theorem BJY{k:Nat}(h:k≤1000)(a0 a1 a2 a3 a4:Int):B9 Tryz.prog 206 k [[i a0,i a1,i a2,i a3,i a4]]=true:=by rw[CA (by simp) (by simp)];simp[maxLen];omega
def rv(k γ:Nat):List (List V)→V
 |[]=>.nil
 |e::es=>.vec 1 k γ (e::es).length
abbrev bxW(c:AO)(g:Nat)(v:V):A6:=.box (AD c++[v,.mp 1 51 (g+1)])
theorem AFR{l:List uF}{j:Nat}(hj:j<l.length):(encA (FC l j)).set j (i l[j].good.1)=encA (FC l (j+1)):=by
 apply List.ext_getElem (by simp[encA,FC]);intro p h1 h2;have hp:p<5:=by simpa [encA,FC]using h2
 rw[List.getElem_set];simp only[encA,FC,List.getElem_map,List.getElem_range];by_cases e:j=p
 ·subst e;rw[if_pos rfl,if_pos (by omega),List.getD_eq_getElem?_getD,List.getElem?_eq_getElem hj];rfl
 ·rw[if_neg e];by_cases hlt:p<j
  ·rw[if_pos hlt,if_pos (by omega)]
  ·rw[if_neg hlt,if_neg (by omega)]
theorem AFS{l:List uF}{j:Nat}(hj:j<l.length)(h5:l.length≤5):(encA (FC l j)).take j++i l[j].good.1::(encA (FC l j)).drop (j+1)=encA (FC l (j+1)):=by rw[←AFR hj,List.set_eq_take_append_cons_drop,if_pos (by simp[encA,FC];omega)]
theorem oA(l:List uF)(j:Nat):(encA (FC l j)).length=5:=by simp[encA,FC]
theorem ARK(B:AA)(g x γ:Nat)(X1 X53:A6)(S:List (List V))(l:List uF)(h5:l.length≤5)(v54 v55 v56:V):∀(e j y:Nat),j+e=l.length→x<y→∃(y':Nat),y≤y'∧∀n m,e<m→BF (AE Tryz.prog ann kn (n+300) 85) UN (ann 85 (BW UN)) m ⟨y,[(7,true,.ptr 1 53 (g+2) 0),(10,true,.ptr 1 10 x 0),(54,true,v54),(55,true,v55),(56,true,v56),(60,true,.list false (l.map QR)),(61,true,i l.length),(62,true,i j)],⟨[B],(1,g,X1)::(10,x,.box (encA (FC l j)))::(51,g+1,.map [])::(53,g+2,X53)::pl 80 γ 206 S⟩⟩ =
  some (.exit 2,⟨y',[(63,true,.bool false),(7,true,.ptr 1 53 (g+2) 0),(10,true,.ptr 1 10 x 0),(54,true,v54),(55,true,v55),(56,true,v56),(60,true,.list false (l.map QR)),(61,true,i l.length),(62,true,i l.length)],⟨[B],(1,g,X1)::(10,x,.box (encA (FC l l.length)))::(51,g+1,.map [])::(53,g+2,X53)::pl 80 γ 206 S⟩⟩)
 |0,j,y,hm,hc=>by
  obtain rfl:j=l.length:=by omega
  refine⟨y,Nat.le_refl _,fun n m hm=>?_⟩;obtain⟨m,rfl⟩:∃m',m=m'+1:=⟨m-1,by omega⟩;generalize encA (FC l l.length)=A;rw[AB];cases S<;>simp
 |e+1,j,y,hm,hc=>by
  have hj:j<l.length:=by omega
  have hw:=BM (k:=j) (by omega);have hset:=AFS hj h5;have hlen:=oA l j;obtain⟨y',hy,ih⟩:=ARK B g x γ X1 X53 S l h5 v54 v55 v56 e (j+1) (y+1) (by omega) (by omega);refine⟨y',by omega,fun n m hm=>?_⟩;obtain⟨m,rfl⟩:∃m',m=m'+1:=⟨m-1,by omega⟩;have ih:=ih n m (by omega);rw[←hset]at ih;generalize encA (FC l l.length)=fin at *;generalize encA (FC l j)=A at *;rw[AB];have hj5:(j:Int)<5:=by omega
  cases S<;>(simp[QR]at ih;simp[hj,hw,hj5,hlen,QR,AZ,show j≤4 by omega,show x<y+1 by omega,ih])
theorem ARL(c:AO)(B:AA)(g:Nat)(R:List (List uF))(hR:R.length≤100)(hRl:∀l∈R,l.length≤5):∀(e k x γ:Nat),k+e=R.length→g+2<x→∃(x' γ':Nat),x≤x'∧∀n m,e<m→BF (AE Tryz.prog ann kn (n+600) 85) UO (ann 85 (BW UO)) m ⟨x,[(7,true,.ptr 1 53 (g+2) 0),(54,true,.list false (R.map HN)),(55,true,i R.length),(56,true,i k)],⟨[B],(1,g,.box (AD c))::(51,g+1,.map [])::(53,g+2,bxW c g (rv 80 γ ((R.take k).map fun l=>encA (FC l l.length))))::pl 80 γ 206 ((R.take k).map fun l=>encA (FC l l.length))⟩⟩ =
  some (.exit 0,⟨x',[(57,true,.bool false),(7,true,.ptr 1 53 (g+2) 0),(54,true,.list false (R.map HN)),(55,true,i R.length),(56,true,i R.length)],⟨[B],(1,g,.box (AD c))::(51,g+1,.map [])::(53,g+2,bxW c g (rv 80 γ' (R.map fun l=>encA (FC l l.length))))::pl 80 γ' 206 (R.map fun l=>encA (FC l l.length))⟩⟩)
 |0,k,x,γ,hm,hc=>by
  obtain rfl:k=R.length:=by omega
  rw[List.take_length];refine⟨x,γ,Nat.le_refl _,fun n m hm=>?_⟩;obtain⟨m,rfl⟩:∃m',m=m'+1:=⟨m-1,by omega⟩;generalize hS:R.map (fun l=>encA (FC l l.length))=S;rw[AB];cases S<;>simp[AD,rv]
 |e+1,k,x,γ,hm,hc=>by
  have hk:k<R.length:=by omega
  have hw:=BM (k:=k) (by omega);have hl5:=hRl R[k] (List.getElem_mem hk);have hst:(R.take (k+1)).map (fun l=>encA (FC l l.length))=(R.take k).map (fun l=>encA (FC l l.length))++[encA (FC R[k] R[k].length)]:=by rw[List.take_succ_eq_append_getElem hk,List.map_append];rfl
  have hSl:((R.take k).map fun l=>encA (FC l l.length)).length=k:=by rw[List.length_map,List.length_take];omega
  obtain⟨y',hy,q15⟩:=ARK B g x γ (.box (AD c)) (bxW c g (rv 80 γ ((R.take k).map fun l=>encA (FC l l.length)))) ((R.take k).map fun l=>encA (FC l l.length)) R[k] hl5 (.list false (R.map HN)) (i R.length) (i k) R[k].length 0 (x+1) (by omega) (by omega);have q15:=fun n m=>q15 n (m+100) (by omega);have h0:encA (FC R[k] 0)=[i 0,i 0,i 0,i 0,i 0]:=rfl;obtain⟨a0,a1,a2,a3,a4,hA⟩:=ACL R[k] R[k].length;have hS5:∀e∈(R.take k).map (fun l=>encA (FC l l.length)),e.length=5:=fun e he=>by obtain⟨l,_,rfl⟩:=List.mem_map.1 he;exact oA l _
  have hp5:Nat.beq 5 1=false:=rfl;have hap:=BJY (k:=((R.take k).map fun l=>encA (FC l l.length)).length) (by omega) a0 a1 a2 a3 a4;obtain⟨x',γ',hxx,ih⟩:=ARL c B g R hR hRl e (k+1) (y'+1) y' (by omega) (by omega);refine⟨x',γ',by omega,fun n m hm=>?_⟩;obtain⟨m,rfl⟩:∃m',m=m'+1:=⟨m-1,by omega⟩;have ih:=ih n m (by omega);rw[hst,hA]at ih;rw[hA,h0]at q15;generalize (R.take k).map (fun l=>encA (FC l l.length))=S at *;generalize R.map (fun l=>encA (FC l l.length))=fin at *;rw[AB];cases S with
  |nil=>
   simp[AD,rv,bxW]at ih q15 hap
   simp[AD,rv,bxW,hk,hw,HN,q15,ih,hap,C5,GD,AZ,DW,show x<y'+1 by omega,show g+2<y'+1 by omega,show g+1<y'+1 by omega,BU,B5,BD,EZ,EK,hp5]
  |cons s S=>
   have hs5:=hS5 s (by simp)
   have hS6:∀e∈S,e.length=5:=fun e he=>hS5 e (by simp[he])
   have hS7:=eq_true hS6
   simp[AD,rv,bxW]at ih q15 hap
   simp[AD,rv,bxW,hk,hw,HN,q15,ih,hap,C5,GD,AZ,show x<y'+1 by omega,show g+2<y'+1 by omega,show g+1<y'+1 by omega,BU,B5,BD,EZ,EK,hp5,hs5,hS7]
theorem BJZ(st:XS):KI [911051,912053] st=(fun s=>eO 53 (K9 0 s) 911 [] s) (eO 51 (K9 0 st) 910 [] st):=rfl
def A4(c:AO):List (List Int):=(FO c.beach (FD c.beach) c.plan c.beach.rows.toNat).map fun l=>FC l l.length
def EE(c:AO)(γ:Nat):List V:=AD c++[.list false ((A4 c).map encA),.mp 0 910 γ]
theorem yR(c:AO)(hc:BZ c)(B:AA)(hB:∀t:St,1≤t.up.length→AL t B=B)(g d:Nat)(fr:Fr):∃g',g+3≤g'∧∀n,G4 (BN Tryz.prog ann kn (n+8000)) (some d) ⟨g,fr,⟨[],B⟩⟩ 71 [.agg (AD c)] =
  some ⟨g',(d,true,.tup [.ptr 0 911 (g+2) 0,i 0])::fr,⟨[],(911,g+2,.box (EE c (g+1)))::(910,g+1,.map [])::B⟩⟩:=by
 have hb:=hc.be
 have hbe:=Z7 c
 rw[if_neg (by simp[PT hb]),if_neg (by simp[hc.pl]),if_neg hc.tr]at hbe
 have q1:=fun n=>tX n c.beach hb.w40 c.plan
 rw[hbe]at q1
 have hb1:(IM c.beach c.plan).1=FO c.beach (FD c.beach) c.plan c.beach.rows.toNat:=by unfold IM;rw[if_pos (PT hb),if_pos hc.pl,if_neg fun hh=>hc.tr (NI.1 hh)]
 have hro:=hb.ro
 have hpc:=hb.pl
 have hbl:(FO c.beach (FD c.beach) c.plan c.beach.rows.toNat).length=c.beach.rows.toNat:=by simp[FO]
 have hbn:FO c.beach (FD c.beach) c.plan c.beach.rows.toNat≠[]:=fun e=>by rw[e]at hbl;simp at hbl;omega
 have hb5:∀l∈FO c.beach (FD c.beach) c.plan c.beach.rows.toNat,l.length≤5:=fun l hl=>by obtain⟨r,_,rfl⟩:=List.mem_map.1 hl;simp[OM];omega
 rw[hb1,slX hbn]at q1
 have hfl:=hc.fl
 have hch:=hc.ch
 have h3':¬(3:Int)<(c.fams.length:Int):=by omega
 have qa:=fun n=>ARG n 200 121 LP c.fams (by omega) (fun n f _=>yQ n f)
 have qr:=fun n=>ARF n 200 c 118 (fun l=>decide ((l.length:Int)=c.beach.places)) c.chairs (by omega) (fun n l _=>ARI n c l)
 rw[List.all_eq_true.2 fun f hf=>by
  have:=hc.fo f hf;simp only[LP,Bool.and_eq_true,DC];exact this]at qa
 rw[List.all_eq_true.2 fun l hl=>decide_eq_true (hc.cr l hl)]at qr
 simp only[Nat.add_assoc,Nat.reduceAdd]at qa qr
 unfold EE A4
 generalize FO c.beach (FD c.beach) c.plan c.beach.rows.toNat=R at *
 obtain⟨g',γ',hg',q11⟩:=ARL c B g R (by omega) hb5 R.length 0 (g+3) 0 (by omega) (by omega)
 have q11:=fun n m=>q11 n (m+100) (by omega)
 refine⟨g',by omega,fun n=>?_⟩
 have hS:(R.map fun l=>FC l l.length).map encA=R.map fun l=>encA (FC l l.length):=by rw[List.map_map];rfl
 rw[hS]
 obtain⟨s0,S,hSS⟩:∃s0 S,R.map (fun l=>encA (FC l l.length))=s0::S:=List.exists_cons_of_ne_nil (fun e:R.map (fun l=>encA (FC l l.length))=[]=>hbn (List.map_eq_nil_iff.1 e))
 rw[hSS]at q11⊢
 rw[ABS Tryz.func71 b71 rfl (by simp)]
 simp only[AC,AD,List.take_zero,List.map_nil]at q1 qr qa q11⊢
 simp[rv,bxW,AD]at q11
 simp[c71,AG,h3',q1,qr,qa,hch,AS,A3,AU,hB,q11,Nat.add_assoc,BJZ,MY,WV,WU,KT,gA,QV,MV,QW,MW,MX,F4,QX,WX,GF,G6,QY,GH,KS,I9]
theorem yS(c:AO)(k γ:Nat)(t:St):AL t [(k,γ,.box (AD c))]=[(k,γ,.box (AD c))]:=by simp[AD,AJ,AM,AF,AS,A3,AU]
theorem ZI{c:AO}{k:Nat}(h:k<c.fams.length):EN c k=c.fams[k]:=by unfold EN;rw[List.getD_eq_getElem?_getD,List.getElem?_eq_getElem h];rfl
theorem A61(n:Nat)(c:AO)(a b:Nat)(ha:a<c.fams.length)(hb:b<c.fams.length):A0 Tryz.prog kn (AE Tryz.prog ann kn (n+300)) 173 [.agg (AD c),i a,i b]=some (.bool (JL c a b)):=by
 rw[AP rfl,AR Tryz.func173 BLA rfl (by simp[AD,AJ,AM,AF,AS,A3,AU])];unfold JL;rw[ZI ha,ZI hb];have e:decide ((a:Int)=(b:Int))=decide (a=b):=decide_eq_decide.2 (by omega);have e2:decide (a≠b)=!decide (a=b):=by simp
 rw[e2];generalize decide (a=b)=z at *;rcases hF1:c.fams[a]with⟨s1,g1,d1,h1⟩;rcases hF2:c.fams[b]with⟨s2,g2,d2,h2⟩;simp only[AD];have p1:Nat.beq 4 1=false:=rfl;cases z<;>cases d1<;>cases h1<;>cases d2<;>cases h2<;>simp[A9K,AG,e,ha,hb,hF1,hF2,AU,AZ,BU,B5,BD,EZ,EK,C5,GD,p1]
theorem A62(n:Nat)(c:AO)(x:Sp)(h1:0≤c.beach.rows∧c.beach.rows≤1000)(h2:0≤c.beach.places∧c.beach.places≤1000)(h3:0≤x.size∧x.size≤1000):A0 Tryz.prog kn (AE Tryz.prog ann kn (n+300)) 136 [.agg (AD c),.agg (AQ x)]=some (.bool (CQ c x)):=by rw[AP rfl,AR Tryz.func136 BLB rfl (by simp[AD,AJ,AM,AF,AS,A3,AU,AQ])];have w1:IntKind.i64.wrap (c.beach.rows-1)=c.beach.rows-1:=AV (by omega) (by omega);have w2:IntKind.i64.wrap (c.beach.places-x.size)=c.beach.places-x.size:=AV (by omega) (by omega);have q1:=fun n=>TS n x.row 0 (c.beach.rows-1);have q2:=fun n=>TS n x.place 0 (c.beach.places-x.size);unfold CQ;generalize GI x.row 0 (c.beach.rows-1)=z1 at *;generalize GI x.place 0 (c.beach.places-x.size)=z2 at *;simp only[AD];cases z1<;>cases z2<;>simp[A9L,AG,AQ,w1,w2,q1,q2]
theorem AFT(n:Nat)(c:AO)(x y:Sp)(hx:x.fam<c.fams.length)(hy:y.fam<c.fams.length)(p1:-1000≤x.place∧x.place≤1000)(p2:-1000≤y.place∧y.place≤1000)(s1:0≤x.size∧x.size≤1000)(s2:0≤y.size∧y.size≤1000):A0 Tryz.prog kn (AE Tryz.prog ann kn (n+400)) 139 [.agg (AD c),.agg (AQ x),.agg (AQ y)]=some (.bool (D0 c x y)):=by
 rw[AP rfl,AR Tryz.func139 BLC rfl (by simp[AD,AJ,AM,AF,AS,A3,AU,AQ])];have qm:=fun n=>A61 n c x.fam y.fam hx hy;have w1:IntKind.i64.wrap (x.place-y.place)=x.place-y.place:=AV (by omega) (by omega);have w2:IntKind.i64.wrap (x.place-y.place-y.size)=x.place-y.place-y.size:=AV (by omega) (by omega);have w3:IntKind.i64.wrap (y.place-x.place)=y.place-x.place:=AV (by omega) (by omega);have w4:IntKind.i64.wrap (y.place-x.place-x.size)=y.place-x.place-x.size:=AV (by omega) (by omega);unfold D0;by_cases hr:x.row=y.row
 ·rw[show decide (x.row≠y.row)=false from decide_eq_false (by simpa using hr),Bool.false_or];have e:ZZ x y=(if x.place-y.place-y.size<y.place-x.place-x.size then y.place-x.place-x.size else x.place-y.place-y.size):=by unfold ZZ;split<;>omega
  generalize JL c x.fam y.fam=z at *;generalize ZZ x y=m at *;by_cases h0:0<m
  ·simp only[AD]at qm⊢;simp[AGX,AG,AQ,w1,w2,w3,w4,qm,hr,←e,h0]
  ·by_cases h1:m=0
   ·simp only[AD]at qm⊢;cases z<;>simp[AGX,AG,AQ,AS,A3,AU,w1,w2,w3,w4,qm,hr,←e,h0,h1]
   ·simp only[AD]at qm⊢;simp[AGX,AG,AQ,w1,w2,w3,w4,qm,hr,←e,h0,h1]
 ·rw[show decide (x.row≠y.row)=true from decide_eq_true hr,Bool.true_or];simp only[AD];simp[AGX,AG,AQ,hr]
theorem Z9(l:List Bool){j:Nat}(hj:j<l.length):(l.take (j+1)).count true=(l.take j).count true+(if l[j]=true then 1 else 0):=by rw[List.take_succ_eq_append_getElem hj,List.count_append];congr 1;cases l[j]<;>rfl
theorem A63(cs:List (List Bool))(l:List Bool)(hl:l.length≤100)(N r c:Nat)(hN:N≤100000)(X1:A6):∀(d j:Nat),j+d=l.length→∀n m,d<m→BF (AE Tryz.prog ann kn (n+200) 26) UP (ann 26 (BW UP)) m ⟨c,[(2,true,i ((N+(l.take j).count true:Nat):Int)),(8,true,.list false (cs.map AS)),(9,true,i cs.length),(10,true,i r),(14,true,lb l),(15,true,i l.length),(16,true,i j)],⟨[],[(1,0,X1)]⟩⟩ =
  some (.exit 2,⟨c,[(17,true,.bool false),(2,true,i ((N+l.count true:Nat):Int)),(8,true,.list false (cs.map AS)),(9,true,i cs.length),(10,true,i r),(14,true,lb l),(15,true,i l.length),(16,true,i l.length)],⟨[],[(1,0,X1)]⟩⟩)
 |0,j,hd,n,m+1,hm=>by
  obtain rfl:j=l.length:=by omega
  rw[List.take_length,AB];simp
 |d+1,j,hd,n,m+1,hm=>by
  have hj:j<l.length:=by omega
  have hw:=BM (k:=j) (by omega);have ih:=A63 cs l hl N r c hN X1 d (j+1) (by omega) n m (by omega);rw[Z9 l hj]at ih;have hcl:(l.take j).count true≤100:=by have:=List.count_le_length (a:=true) (l:=l.take j);rw[List.length_take]at this;omega
  generalize (l.take j).count true=C at *;have hwC:IntKind.i64.wrap (((N+C:Nat):Int)+1)=((N+(C+1):Nat):Int):=by rw[AV (by omega) (by omega)];omega
  have hwC2:IntKind.i64.wrap ((N:Int)+(C:Int)+1)=((N:Int)+((C:Int)+1)):=by rw[AV (by omega) (by omega)];omega
  generalize l.count true=T at *;rw[AB];cases hz:l[j]with
  |true=>
   rw[hz,if_pos rfl]at ih
   simp at ih
   simp[hj,hw,hz,A3,hwC,hwC2,ih]
  |false=>
   rw[hz,if_neg (by decide),Nat.add_zero]at ih
   simp at ih
   simp[hj,hw,hz,A3,ih]
theorem A64(cs:List (List Bool))(hl:cs.length≤100)(hr:∀l∈cs,l.length≤100)(c:Nat)(X1:A6):∀(d j N:Nat),j+d=cs.length→N≤100*j→∀n m,d<m→BF (AE Tryz.prog ann kn (n+400) 26) UQ (ann 26 (BW UQ)) m ⟨c,[(2,true,i N),(8,true,.list false (cs.map AS)),(9,true,i cs.length),(10,true,i j)],⟨[],[(1,0,X1)]⟩⟩ =
  some (.exit 0,⟨c,[(11,true,.bool false),(2,true,i ((N+((cs.drop j).map fun l=>l.count true).sum:Nat):Int)),(8,true,.list false (cs.map AS)),(9,true,i cs.length),(10,true,i cs.length)],⟨[],[(1,0,X1)]⟩⟩)
 |0,j,N,hd,hN,n,m+1,hm=>by
  obtain rfl:j=cs.length:=by omega
  rw[AB];simp
 |d+1,j,N,hd,hN,n,m+1,hm=>by
  have hj:j<cs.length:=by omega
  have hw:=BM (k:=j) (by omega);have hlj:=hr cs[j] (List.getElem_mem hj);have q:=fun n m=>A63 cs cs[j] hlj N j c (by omega) X1 cs[j].length 0 (by omega) n (m+101) (by omega);have hcl:=List.count_le_length (a:=true) (l:=cs[j]);have ih:=A64 cs hl hr c X1 d (j+1) (N+cs[j].count true) (by omega) (by omega) n m (by omega);have hs:N+cs[j].count true+((cs.drop (j+1)).map fun l=>l.count true).sum=N+((cs.drop j).map fun l=>l.count true).sum:=by rw[List.drop_eq_getElem_cons hj,List.map_cons,List.sum_cons];omega
  rw[hs]at ih;generalize ((cs.drop j).map fun l=>l.count true).sum=T at *;generalize cs[j].count true=C at *;simp only[List.take_zero,List.count_nil,Nat.add_zero]at q;rw[AB];simp at ih q;simp[hj,hw,AS,q,ih]
theorem yT(n:Nat)(c:AO)(hl:c.chairs.length≤100)(hr:∀l∈c.chairs,l.length≤100):A0 Tryz.prog kn (AE Tryz.prog ann kn (n+600)) 140 [.agg (AD c)]=some (i (D5 c)):=by rw[AP rfl,AR Tryz.func140 BLD rfl (by simp[AD,AJ,AM,AF,AS,A3,AU])];have q:=fun n m=>A64 c.chairs hl hr 1 (.box (AD c)) c.chairs.length 0 0 (by omega) (by omega) n (m+101) (by omega);have e:((c.chairs.drop 0).map fun l=>l.count true).sum=D5 c:=rfl;rw[e,Nat.zero_add]at q;generalize D5 c=T at *;simp only[AD]at q⊢;simp at q;simp[A9M,AG,q]
def A7(g:Nat×Int):List V:=[i (g.1:Int),i g.2]
def CB(fs:List RJ)(out:List Int):Nat→List (Nat×Int)
 |0=>[]
 |k+1=>CB fs out k++(if decide ((k:Int)∈out)=true then[] else[(k,(fs.getD k ⟨0,0,false,false⟩).size)])
def AY(c:AO)(out:List Int):List (Nat×Int):=CB c.fams out c.fams.length
theorem PB(fs:List RJ)(out:List Int):∀k,(CB fs out k).length≤k
 |0=>Nat.le_refl _
 |k+1=>by have:=PB fs out k;simp only[CB,List.length_append];split<;>simp<;>omega
theorem BJ0{k:Nat}{l:List (Nat×Int)}(h:k+l.length≤1000):B9 Tryz.prog 151 k (l.map A7)=true:=by rw[CA (by simp) (by simp)];simp[maxLen,A7];omega
theorem AVF(fs:List RJ)(hl:fs.length≤30)(out:List Int)(ho:out.length≤40)(X2:A6):∀(d k c γ:Nat),k+d=fs.length→∃c' γ',∀n m,d<m→BF (AE Tryz.prog ann kn (n+1600) 28) aL (ann 28 (BW aL)) m ⟨c,[(1,true,li out),(4,true,pv 25 γ ((CB fs out k).map A7)),(8,true,.list false (fs.map AU)),(9,true,i fs.length),(10,true,i k)],⟨[],(2,0,X2)::pl 25 γ 151 ((CB fs out k).map A7)⟩⟩ =
  some (.exit 0,⟨c',[(11,true,.bool false),(1,true,li out),(4,true,pv 25 γ' ((CB fs out fs.length).map A7)),(8,true,.list false (fs.map AU)),(9,true,i fs.length),(10,true,i fs.length)],⟨[],(2,0,X2)::pl 25 γ' 151 ((CB fs out fs.length).map A7)⟩⟩)
 |0,k,c,γ,hd=>by
  obtain rfl:k=fs.length:=by omega
  refine⟨c,γ,fun n m hm=>?_⟩;obtain⟨m,rfl⟩:∃m',m=m'+1:=⟨m-1,by omega⟩;generalize CB fs out fs.length=R;rw[AB];cases R<;>simp
 |d+1,k,c,γ,hd=>by
  have hk:k<fs.length:=by omega
  have hw:=BM (k:=k) (by omega);have hgl:=PB fs out k;have qC:=fun n=>YB n out (k:Int) (by omega);have hg:fs.getD k ⟨0,0,false,false⟩=fs[k]:=by rw[List.getD_eq_getElem?_getD,List.getElem?_eq_getElem hk];rfl
  have hst:CB fs out (k+1)=CB fs out k++(if decide ((k:Int)∈out)=true then[] else[(k,fs[k].size)]):=by rw[←hg];rfl
  have hap:=BJ0 (k:=(CB fs out k).length) (l:=[(k,fs[k].size)]) (by rw[List.length_singleton];omega);generalize decide ((k:Int)∈out)=z at *;generalize hfk:fs[k]=f at *;cases z with
  |true=>
   obtain⟨c',γ',ih⟩:=AVF fs hl out ho X2 d (k+1) (c+1) γ (by omega)
   refine⟨c',γ',fun n m hm=>?_⟩
   obtain⟨m,rfl⟩:∃m',m=m'+1:=⟨m-1,by omega⟩
   have ih:=ih n m (by omega)
   rw[hst,if_pos rfl,List.append_nil]at ih
   generalize CB fs out fs.length=fin at *
   generalize CB fs out k=R at *
   rw[AB]
   cases R<;>(simp[A7]at ih;simp[hk,hw,hfk,AU,A7,qC,AZ,ih])
  |false=>
   obtain⟨c',γ',ih⟩:=AVF fs hl out ho X2 d (k+1) (c+2) (c+1) (by omega)
   refine⟨c',γ',fun n m hm=>?_⟩
   obtain⟨m,rfl⟩:∃m',m=m'+1:=⟨m-1,by omega⟩
   have ih:=ih n m (by omega)
   rw[hst,if_neg (by decide)]at ih
   generalize CB fs out fs.length=fin at *
   generalize CB fs out k=R at *
   rw[AB]
   cases R with
   |nil=>simp[A7,pv]at ih hap;simp[hk,hw,hfk,AU,A7,qC,hap,AZ,ih,pv]
   |cons r R=>simp[A7]at ih hap;simp[hk,hw,hfk,AU,A7,qC,hap,AZ,ih]
theorem yU(n:Nat)(c:AO)(hl:c.fams.length≤30)(out:List Int)(ho:out.length≤40):A0 Tryz.prog kn (AE Tryz.prog ann kn (n+2000)) 92 [.agg (AD c),li out]=some (sl ((AY c out).map A7)):=by
 rw[AP rfl,AR Tryz.func92 b92 rfl (by simp[AD,AJ,AM,AF,AS,A3,AU])];obtain⟨c',γ',q⟩:=AVF c.fams hl out ho (.box (AD c)) c.fams.length 0 1 0 (by omega);have q:=fun n m=>q n (m+100) (by omega);have e:CB c.fams out c.fams.length=AY c out:=rfl;rw[e,show CB c.fams out 0=[] from rfl]at q;generalize hG:AY c out=G at *;have hcl:(G.map A7).all (fun e=>e.all (AH 8))=true:=by simp[A7]
 generalize G.map A7=R at *;simp only[AD,List.map_nil]at q⊢;simp at q;simp[c92,AG,q];exact fun e he v hv=>List.all_eq_true.1 (List.all_eq_true.1 hcl e he) v hv
def l7:Option (Nat×List V)→AA
 |none=>[]
 |some (γ,cs)=>[(7,γ,.box cs)]
theorem AFU{s:St}(l:List Sp){j:Nat}(hj:j≤l.length):CC Tryz.prog s 120 (.list false (l.map AQ)) none (some (i j)) none=some (.list false ((l.map AQ).take j)):=by have:=fF (P:=Tryz.prog) (s:=s) (T:=120) (e:=153) (es:=l.map AQ) (h:=(j:Int)) (b:=false) (by kernel_rfl) (by simp) (by omega) (by rw[List.length_map];omega);simpa using this
theorem ACM(n:Nat)(c:AO)(x:Sp)(l:List Sp)(hl:l.length≤10)(hx:x.fam<c.fams.length∧(0≤x.size∧x.size≤1000)∧-1000≤x.place∧x.place≤1000)(hy:∀y∈l,y.fam<c.fams.length∧(0≤y.size∧y.size≤1000)∧-1000≤y.place∧y.place≤1000)(g d:Nat)(fr:Fr):∃g',g+1≤g'∧G4 (BN Tryz.prog ann kn (n+900)) (some d) ⟨g+1,fr,⟨[],[(2,0,.box (AD c)),(7,g,.box (AQ x))]⟩⟩ 137 [.list false (l.map AQ),.fn 138 [] [.ptr 0 2 0 0,.ptr 0 7 g 0]] =
  some ⟨g',(d,true,.bool (l.all (D0 c x)))::fr,⟨[],[(2,0,.box (AD c)),(7,g,.box (AQ x))]⟩⟩:=by
 obtain⟨c',h1,q⟩:=AVD n 600 0 (fun _=>[]) (fun _=>[(2,0,.box (AD c)),(7,g,.box (AQ x))]) (by simp) (fun _=>True) 138 [.ptr 0 2 0 0,.ptr 0 7 g 0] (by simp) (by simp) (fun (_:Unit) y=>D0 c x y) (fun _ _=>()) l (by omega) (by simp[AD,AJ,AM,AF,AS,A3,AU,AQ]) (by
   intro t γ ht;obtain⟨up,loc⟩:=t;have h0:¬0=up.length:=by simp at ht;omega
   simp[h0]) (g+1) (by
   intro n c1 γ fr s y hc hs hm;refine⟨fun h=>trivial,c1+1,by omega,?_⟩;obtain⟨y1,y2,y3⟩:=hy y hm;have qa:=fun n=>AFT n c x y hx.1 y1 hx.2.2 y3 hx.2.1 y2;simp only[List.nil_append,List.cons_append];rw[BA Tryz.func138 b138 rfl (by simp)];generalize D0 c x y=z at *;simp only[AD,AQ]at qa ⊢;simp[A9N,AG,AJ,AM,AF,AS,A3,AU,qa]) d fr () trivial
 rw[FV]at q
 have hn:=KJ (D0 c x) l
 have e:n+600+300=n+900:=by omega
 rw[e]at q
 simp only at q
 rw[hn]at q
 exact⟨c',h1,q⟩
theorem A65(n:Nat)(c:AO)(hc:BZ c)(l:List Sp)(hl:l.length≤10)(hs:∀x∈l,x.fam<c.fams.length∧1≤x.size∧x.size≤4):∀(d j g:Nat) (o:Option (Nat×List V)),j+d=l.length→0<g→DR c [] (l.take j)=true→∃g' o',∀m,d<m→BF (AE Tryz.prog ann kn (n+1200) 37) UR (ann 37 (BW UR)) m ⟨g,[(1,true,.list false (l.map AQ)),(2,true,.ptr 0 2 0 0),(5,true,i (C7 (l.take j))),(8,true,.list false (l.map AQ)),(9,true,i l.length),(10,true,i j)],⟨[],(2,0,.box (AD c))::l7 o⟩⟩ =
  bif DR c [] l then some (.exit 0,⟨g',[(11,true,.bool false),(1,true,.list false (l.map AQ)),(2,true,.ptr 0 2 0 0),(5,true,i (C7 l)),(8,true,.list false (l.map AQ)),(9,true,i l.length),(10,true,i l.length)],⟨[],(2,0,.box (AD c))::l7 o'⟩⟩) else some (.ret,⟨g',[(4,true,.bool false)],⟨[],[]⟩⟩)
 |0,j,g,o,hd,hg,hok=>by
  obtain rfl:j=l.length:=by omega
  rw[List.take_length]at hok⊢;refine⟨g,o,fun m hm=>?_⟩;obtain⟨m,rfl⟩:∃m',m=m'+1:=⟨m-1,by omega⟩;rw[hok,AB];rcases o with _|⟨γ,cs⟩<;>simp[AD,l7]
 |d+1,j,g,o,hd,hg,hok=>by
  have hj:j<l.length:=by omega
  have hw:=BM (k:=j) (by omega);have hro:=hc.be.ro;have hpl:=hc.be.pl;obtain⟨x1,x2⟩:=hs l[j] (List.getElem_mem hj);have hps:=WL (l.take j) fun y hy=>by have:=(hs y (List.mem_of_mem_take hy)).2;omega
  have htl:(l.take j).length≤10:=by rw[List.length_take];omega
  have hwp:IntKind.i64.wrap (C7 (l.take j)+l[j].size)=C7 (l.take j)+l[j].size:=AV (by omega) (by omega);have qf:=fun n=>A62 n c l[j] (by omega) (by omega) (by omega);have ht:=nT c l hj;rw[hok,Bool.true_and]at ht;cases hf:CQ c l[j]with
  |false=>
   rw[hf]at qf
   rw[hf,Bool.false_and]at ht
   have hno:=Z1 c l (j+1) ht
   simp only[AD,AQ]at qf
   refine⟨g+1,none,fun m hm=>?_⟩
   obtain⟨m,rfl⟩:∃m',m=m'+1:=⟨m-1,by omega⟩
   rw[hno,AB]
   simp only[AD]
   rcases o with _|⟨γ,cs⟩<;>simp[hj,hw,hwp,AQ,AS,A3,AU,qf,AZ,l7]
  |true=>
   rw[hf]at qf
   rw[hf,Bool.true_and]at ht
   have hfits:=LQ c (l.take j) [] hok
   have hfx:(0≤l[j].row∧l[j].row≤c.beach.rows-1)∧0≤l[j].place∧l[j].place≤c.beach.places-l[j].size:=by simpa only[CQ,Bool.and_eq_true,DC]using hf
   have hyy:∀y∈l.take j,y.fam<c.fams.length∧(0≤y.size∧y.size≤1000)∧-1000≤y.place∧y.place≤1000:=fun y hy=>by have h1:=hs y (List.mem_of_mem_take hy);have h2:=hfits y hy;simp only[CQ,Bool.and_eq_true,DC]at h2;exact⟨h1.1,by omega,by omega⟩
   obtain⟨g1,hg1,qa⟩:=ACM (n+292) c l[j] (l.take j) htl ⟨x1,by omega,by omega⟩ hyy g 29 [(28,true,.fn 138 [] [.ptr 0 2 0 0,.ptr 0 7 g 0]),(27,true,.list false ((l.take j).map AQ)),(26,true,i j),(25,true,.list false (l.map AQ)),(24,true,.bool false),(23,true,.bool false),(22,true,.bool true),(21,true,.agg (AQ l[j])),(20,true,.agg (AD c)),(1,true,.list false (l.map AQ)),(2,true,.ptr 0 2 0 0),(5,true,i (C7 (l.take j)+l[j].size)),(6,true,i j),(7,true,.ptr 0 7 g 0),(8,true,.list false (l.map AQ)),(9,true,i l.length),(10,true,i j)]
   have qsl:=fun s=>AFU (s:=s) l (Nat.le_of_lt hj)
   rw[List.map_take]at qa
   simp only[AD,AQ,Nat.add_assoc,Nat.reduceAdd]at qf qa
   cases hz:(l.take j).all (D0 c l[j])with
   |false=>
    rw[hz]at ht qa
    have hno:=Z1 c l (j+1) ht
    refine⟨g1,none,fun m hm=>?_⟩
    obtain⟨m,rfl⟩:∃m',m=m'+1:=⟨m-1,by omega⟩
    rw[hno,AB]
    simp only[AD]
    rcases o with _|⟨γ,cs⟩<;>simp[hj,hw,hwp,AQ,AS,A3,AU,qf,AZ,l7,qsl,qa]
   |true=>
    rw[hz]at ht qa
    obtain⟨g',o',ih⟩:=A65 n c hc l hl hs d (j+1) g1 (some (g,AQ l[j])) (by omega) (by omega) ht
    refine⟨g',o',fun m hm=>?_⟩
    obtain⟨m,rfl⟩:∃m',m=m'+1:=⟨m-1,by omega⟩
    have ih:=ih m (by omega)
    rw[nU l hj]at ih
    generalize DR c [] l=Z at *
    generalize C7 l=PL at *
    rw[AB]
    simp only[AD,AQ,l7]at ih⊢
    simp at ih
    rcases o with _|⟨γ,cs⟩<;>simp[hj,hw,hwp,AQ,AS,A3,AU,qf,AZ,l7,qsl,qa,ih]
theorem AMA(n:Nat)(c:AO)(hc:BZ c)(l:List Sp)(hl:l.length≤10)(hs:∀x∈l,x.fam<c.fams.length∧1≤x.size∧x.size≤4):A0 Tryz.prog kn (AE Tryz.prog ann kn (n+1500)) 109 [.agg (AD c),.list false (l.map AQ)]=some (.bool (JG c l)):=by
 rw[AP rfl,AR Tryz.func109 BLE rfl (by simp[AD,AJ,AM,AF,AS,A3,AU,AQ])];obtain⟨g',o',q⟩:=A65 (n+294) c hc l hl hs l.length 0 1 none (by omega) (by omega) rfl;have q:=q (n+1494) (by omega);have hro:=hc.be.ro;have hpl:=hc.be.pl;have hch:=hc.ch;have qc:=fun n=>yT n c (by omega) (fun l hl=>by have:=hc.cr l hl;omega);unfold JG;have hps:=WL l fun y hy=>by have:=(hs y hy).2;omega
 rw[show C7 (l.take 0)=0 from rfl]at q;generalize DR c [] l=Z at *;generalize C7 l=PL at *;generalize D5 c=CN at *;generalize e1:decide (PL≤(CN:Int))=z1;simp only[AD,l7,Nat.add_assoc,Nat.reduceAdd]at q qc⊢;simp at q;cases Z with
 |false=>
  simp at q
  simp[AWC,AG,q]
 |true=>
  simp at q
  rcases o' with _|⟨γ,cs⟩<;>simp[l7]at q<;>simp[AWC,AG,q,AS,A3,AU,qc,e1]
end Go.Proofs.Tryz.Op
namespace Go.Wind
theorem Y7{c:AO}{ss:List (Int×Int)}(h:ss.length=c.fams.length){k:Nat}(hk:k<c.fams.length):(A2 c ss).take (k+1)=(A2 c ss).take k++[⟨k,c.fams[k].size,(ss[k]'(by omega)).1,(ss[k]'(by omega)).2⟩]:=by have hl:(A2 c ss).length=c.fams.length:=DO h;rw[List.take_succ_eq_append_getElem (by omega)];have:=KO (k:=0) (fs:=c.fams) (ss:=ss) k hk (by omega) (by show k<(A2 c ss).length;omega);rw[Nat.zero_add]at this;exact congrArg (fun y=>(A2 c ss).take k++[y]) this
end Go.Wind
namespace Go.Proofs.Tryz.Op
theorem PC(fs:List RJ):∀k,k≤fs.length→CB fs [] k=(List.range k).map fun j=>(j,(fs.getD j ⟨0,0,false,false⟩).size)
 |0,_=>rfl
 |k+1,h=>by rw[CB,PC fs k (by omega),List.range_succ,List.map_append];simp
theorem iH{c:AO}{k:Nat}(hk:k<c.fams.length)(h:k<(AY c []).length):(AY c [])[k]=(k,c.fams[k].size):=by have e:AY c []=(List.range c.fams.length).map fun j=>(j,(c.fams.getD j ⟨0,0,false,false⟩).size):=PC c.fams _ (Nat.le_refl _);simp only[e,List.getElem_map,List.getElem_range,List.getD_eq_getElem?_getD,List.getElem?_eq_getElem hk];rfl
theorem C9(c:AO):(AY c []).length=c.fams.length:=by have e:AY c []=(List.range c.fams.length).map fun j=>(j,(c.fams.getD j ⟨0,0,false,false⟩).size):=PC c.fams _ (Nat.le_refl _);rw[e];simp
theorem BJ1{k:Nat}{l:List Sp}(h:k+l.length≤1000):B9 Tryz.prog 153 k (l.map AQ)=true:=by rw[CA (by simp) (by simp)];simp[maxLen,AQ];omega
theorem A66(c:AO)(hf:c.fams.length≤10)(ss:List (Int×Int))(hs:ss.length=c.fams.length)(X2:A6):∀(d k g γ:Nat),k+d=c.fams.length→∃g' γ',∀n m,d<m→BF (AE Tryz.prog ann kn (n+1200) 37) aM (ann 37 (BW aM)) m ⟨g,[(1,true,.list false (ss.map AF)),(2,true,.ptr 0 2 0 0),(6,true,pv 31 γ (((A2 c ss).take k).map AQ)),(16,true,.list false ((AY c []).map A7)),(17,true,i c.fams.length),(18,true,i k)],⟨[],(2,0,X2)::pl 31 γ 153 (((A2 c ss).take k).map AQ)⟩⟩ =
  some (.exit 0,⟨g',[(19,true,.bool false),(1,true,.list false (ss.map AF)),(2,true,.ptr 0 2 0 0),(6,true,pv 31 γ' ((A2 c ss).map AQ)),(16,true,.list false ((AY c []).map A7)),(17,true,i c.fams.length),(18,true,i c.fams.length)],⟨[],(2,0,X2)::pl 31 γ' 153 ((A2 c ss).map AQ)⟩⟩)
 |0,k,g,γ,hd=>by
  obtain rfl:k=c.fams.length:=by omega
  have hl:(A2 c ss).length=c.fams.length:=DO hs;rw[←hl,List.take_length,hl];refine⟨g,γ,fun n m hm=>?_⟩;obtain⟨m,rfl⟩:∃m',m=m'+1:=⟨m-1,by omega⟩;generalize A2 c ss=R;rw[AB];cases R<;>simp
 |d+1,k,g,γ,hd=>by
  have hk:k<c.fams.length:=by omega
  have hks:k<ss.length:=by omega
  have hw:=BM (k:=k) (by omega);have hgk:k<(AY c []).length:=by rw[C9];omega
  have hg:=iH hk hgk;have hst:=Y7 hs hk;have hl:(A2 c ss).length=c.fams.length:=DO hs;have htl:((A2 c ss).take k).length=k:=by rw[List.length_take];omega
  have hap:=BJ1 (k:=((A2 c ss).take k).length) (l:=[⟨k,c.fams[k].size,ss[k].1,ss[k].2⟩]) (by rw[List.length_singleton];omega);obtain⟨g',γ',ih⟩:=A66 c hf ss hs X2 d (k+1) (g+2) (g+1) (by omega);refine⟨g',γ',fun n m hm=>?_⟩;obtain⟨m,rfl⟩:∃m',m=m'+1:=⟨m-1,by omega⟩;have ih:=ih n m (by omega);rw[hst]at ih;generalize A2 c ss=fin at *;generalize fin.take k=R at *;generalize hG:AY c []=G at *;generalize c.fams[k].size=sz at *;rw[AB];cases R with
  |nil=>simp[A7,AQ,AF,pv,pl]at ih hap;simp[hk,hks,hgk,hg,hw,A7,AQ,AF,hap,AZ,ih,pv,pl,C5,GD,DW,BU,B5,BD,EZ,EK,show Nat.beq 2 1=false from rfl]
  |cons r R=>simp[A7,AQ,AF,pv,pl]at ih hap;simp[hk,hks,hgk,hg,hw,A7,AQ,AF,hap,AZ,ih,pv,pl,C5,GD,DW,BU,B5,BD,EZ,EK,show Nat.beq 2 1=false from rfl]
def PD(c:AO)(ss:List (Int×Int)):List Sp×Bool:=if ss.length=c.fams.length then(A2 c ss,JG c (A2 c ss)) else([],false)
theorem PE{c:AO}(hc:BZ c){ss:List (Int×Int)}(hs:ss.length=c.fams.length):∀x∈A2 c ss,x.fam<c.fams.length∧1≤x.size∧x.size≤4:=fun x hx=>by have hl:(A2 c ss).length=c.fams.length:=DO hs;obtain⟨j,hj,rfl⟩:=List.getElem_of_mem hx;have:=KO (k:=0) (fs:=c.fams) (ss:=ss) j (by omega) (by omega) hj;have e:(A2 c ss)[j]=⟨0+j,(c.fams[j]'(by omega)).size,(ss[j]'(by omega)).1,(ss[j]'(by omega)).2⟩:=this;rw[e];have hf:=hc.fo _ (List.getElem_mem (show j<c.fams.length by omega));exact⟨by simp only;omega,by simp only;omega,by simp only;omega⟩
theorem AVG(n:Nat)(c:AO)(hc:BZ c)(ss:List (Int×Int)):A0 Tryz.prog kn (AE Tryz.prog ann kn (n+2200)) 65 [.agg (AD c),.list false (ss.map AF)]=some (.tup [sl ((PD c ss).1.map AQ),.bool (PD c ss).2]):=by
 rw[AP rfl,AR Tryz.func65 b65 rfl (by simp[AD,AJ,AM,AF,AS,A3,AU])];have slnil:sl ([]:List (List V))=.nil:=rfl;unfold PD;by_cases hs:ss.length=c.fams.length
 ·rw[if_pos hs];have hfl:=hc.fl;have hl:(A2 c ss).length=c.fams.length:=DO hs;have hsI:(ss.length:Int)=c.fams.length:=by omega
  have qS:=fun n=>AMA n c hc (A2 c ss) (by omega) (PE hc hs);have qG:∀n,A0 Tryz.prog kn (AE Tryz.prog ann kn (n+2000)) 92 [.agg (AD c),.list false []]=some (sl ((AY c []).map A7)):=fun n=>yU n c (by omega) [] (by simp);by_cases hG:AY c []=[]
  ·have h0:c.fams=[]:=List.eq_nil_of_length_eq_zero (by rw[←C9,hG];rfl);have hL:A2 c ss=[]:=List.eq_nil_of_length_eq_zero (by rw[hl,h0];rfl);rw[hG]at qG;rw[hL]at qS⊢;generalize JG c []=Z at *;rw[h0]at hsI;simp only[AD,h0]at qS qG⊢;simp at qS qG;simp[c65,AG,slnil,qG,qS,hsI,AF,AS,A3,AU,AB]
  ·obtain⟨g',γ',q⟩:=A66 c (by omega) ss hs (.box (AD c)) c.fams.length 0 1 0 (by omega);have q:=fun n m=>q n (m+100) (by omega);rw[slX hG]at qG;have gl:=C9 c;rw[show(A2 c ss).take 0=[] from rfl]at q;generalize A2 c ss=L at *;generalize JG c L=Z at *;generalize AY c []=G at *;simp only[AD]at q qS qG⊢;simp at q qS qG;have hLn:L≠[]:=fun e=>hG (List.eq_nil_of_length_eq_zero (by rw[gl,←hl,e];rfl));have hsl:=slX (f:=AQ) hLn;rw[hsl];simp[c65,AG,slnil,hsl,AQ,qG,qS,hsI,gl,AF,AS,A3,AU,q]
 ·have hsI:¬(ss.length:Int)=c.fams.length:=by omega
  rw[if_neg hs];simp only[AD];simp[c65,AG,slnil,hsI,AF,AS,A3,AU]
end Go.Proofs.Tryz.Op
namespace Go.Wind
def HF(l:List JO):Int:=(l.map JO.good).sum
theorem aA(l:List JO)(x:JO):HF (l++[x])=HF l+x.good:=by unfold HF;rw[List.map_append,List.sum_append];simp
theorem uM{l:List JO}{k:Nat}(h:k<l.length):HF (l.take (k+1))=HF (l.take k)+l[k].good:=by rw[List.take_succ_eq_append_getElem h,aA]
theorem AFV{l:List JO}(h:∀x∈l,0≤x.good∧x.good≤100):0≤HF l∧HF l≤100*l.length:=by
 unfold HF;induction l with
 |nil=>simp
 |cons x l ih=>
  have h1:=h x (by simp)
  have h2:=ih fun y hy=>h y (by simp[hy])
  simp only[List.map_cons,List.sum_cons,List.length_cons]
  omega
theorem iI{l:List JO}{a:Nat}:∀{n:Nat},a+n≤l.length→HF ((l.take (a+n)).drop a)=DJ (fun p=>(l.getD (a+p) ⟨0,0,0⟩).good) n
 |0,h=>by rw[Nat.add_zero,List.drop_eq_nil_of_le (by rw[List.length_take];omega)];rfl
 |n+1,h=>by have ih:=iI (l:=l) (a:=a) (n:=n) (by omega);rw[DJ,←ih,←Nat.add_assoc,List.take_succ_eq_append_getElem (by omega),List.drop_append_of_le_length (by rw[List.length_take];omega),aA];rw[List.getD_eq_getElem?_getD,List.getElem?_eq_getElem (by omega)];rfl
end Go.Wind
namespace Go.Proofs.Tryz.Op
theorem aB{P:Program}{s:St}{r:Operand→Option V}(T:TypeId)(x l h:Operand):JR P (kL (.slice T x (some l) (some h) none)) s r=(r x).bind fun a=>(r l).bind fun b=>(r h).bind fun c=>CC P s T a (some b) (some c) none:=by show((r x).bind fun a=>((r l).map some).bind fun l=>((r h).map some).bind fun h=>(some none).bind fun m=>CC P s T a l h m)=_;cases r x<;>cases r l<;>cases r h<;>rfl
theorem NJ{P:Program}{r:Operand→Option V}(T:TypeId)(x:Operand)(l h m:Option Operand):II P (.oth (.slice T x l h m)) r=FK (r x):=rfl
theorem A67(L:List Sp)(H:List (List JO))(O:List Int)(j γ:Nat)(M:List JO)(hM:M.length≤10)(hg:∀x∈M,0≤x.good∧x.good≤100):∀(d k c:Nat),k+d=M.length→∃c',c≤c'∧∀n m,d<m→BF (AE Tryz.prog ann kn (n+600) 51) aN (ann 51 (BW aN)) m ⟨c,[(2,true,.list false (H.map FN)),(6,true,pv 48 γ (O.map AJ)),(9,true,i (HF (M.take k))),(12,true,.list false (L.map AQ)),(13,true,i L.length),(14,true,i j),(34,true,.list false (M.map EV)),(35,true,i M.length),(36,true,i k)],⟨[],pl 48 γ 3 (O.map AJ)⟩⟩ =
  some (.exit 2,⟨c',[(37,true,.bool false),(2,true,.list false (H.map FN)),(6,true,pv 48 γ (O.map AJ)),(9,true,i (HF M)),(12,true,.list false (L.map AQ)),(13,true,i L.length),(14,true,i j),(34,true,.list false (M.map EV)),(35,true,i M.length),(36,true,i M.length)],⟨[],pl 48 γ 3 (O.map AJ)⟩⟩)
 |0,k,c,hd=>by
  obtain rfl:k=M.length:=by omega
  rw[List.take_length];refine⟨c,Nat.le_refl _,fun n m hm=>?_⟩;obtain⟨m,rfl⟩:∃m',m=m'+1:=⟨m-1,by omega⟩;generalize HF M=S;rw[AB];cases O<;>simp
 |d+1,k,c,hd=>by
  have hk:k<M.length:=by omega
  have hw:=BM (k:=k) (by omega);have h1:=hg M[k] (List.getElem_mem hk);have h2:=AFV (l:=M.take k) fun x hx=>hg x (List.mem_of_mem_take hx);have h3:(M.take k).length≤10:=by rw[List.length_take];omega
  have hwg:IntKind.i64.wrap (HF (M.take k)+M[k].good)=HF (M.take k)+M[k].good:=AV (by omega) (by omega);obtain⟨c',hc,ih⟩:=A67 L H O j γ M hM hg d (k+1) (c+1) (by omega);refine⟨c',by omega,fun n m hm=>?_⟩;obtain⟨m,rfl⟩:∃m',m=m'+1:=⟨m-1,by omega⟩;have ih:=ih n m (by omega);rw[uM hk]at ih;generalize HF (M.take k)=S at *;generalize HF M=SS at *;rw[AB];cases O<;>(simp[EV]at ih;simp[hk,hw,hwg,EV,AZ,ih])
theorem ACN{s:St}(l:List JO){a b:Int}(h1:0≤a)(h2:a≤b)(h3:b≤l.length):CC Tryz.prog s 156 (.list false (l.map EV)) (some (i a)) (some (i b)) none=some (.list false (((l.take b.toNat).drop a.toNat).map EV)):=by
 have hT:B0 Tryz.prog 156=some (none,155):=by kernel_rfl
 simp only[CC,hT];rw[if_pos ⟨h1,h2,by rw[List.length_map];exact h3,by simp,by rw[List.all_map,List.all_eq_true];intro x _;simp[EV]⟩,←List.map_take,←List.map_drop]
theorem A68(L:List Sp)(hL:L.length≤10)(H:List (List JO))(hH:∀l∈H,l.length≤10)(hg:∀l∈H,∀x∈l,0≤x.good∧x.good≤100)(hr:H.length≤100)(hx:∀x∈L,0≤x.row∧x.row<H.length∧0≤x.place∧0≤x.size∧x.place+x.size≤(H.getD x.row.toNat []).length):∀(d j c γ:Nat),j+d=L.length→∃c' γ',∀n m,d<m→BF (AE Tryz.prog ann kn (n+900) 51) aO (ann 51 (BW aO)) m ⟨c,[(2,true,.list false (H.map FN)),(6,true,pv 48 γ (((L.take j).map (LI H)).map AJ)),(12,true,.list false (L.map AQ)),(13,true,i L.length),(14,true,i j)],⟨[],pl 48 γ 3 (((L.take j).map (LI H)).map AJ)⟩⟩ =
  some (.exit 0,⟨c',[(15,true,.bool false),(2,true,.list false (H.map FN)),(6,true,pv 48 γ' ((L.map (LI H)).map AJ)),(12,true,.list false (L.map AQ)),(13,true,i L.length),(14,true,i L.length)],⟨[],pl 48 γ' 3 ((L.map (LI H)).map AJ)⟩⟩)
 |0,j,c,γ,hd=>by
  obtain rfl:j=L.length:=by omega
  rw[List.take_length];refine⟨c,γ,fun n m hm=>?_⟩;obtain⟨m,rfl⟩:∃m',m=m'+1:=⟨m-1,by omega⟩;generalize L.map (LI H)=O;rw[AB];cases O<;>simp
 |d+1,j,c,γ,hd=>by
  have hj:j<L.length:=by omega
  have hw:=BM (k:=j) (by omega);obtain⟨x1,x2,x3,x4,x5⟩:=hx L[j] (List.getElem_mem hj);have hst:(L.take (j+1)).map (LI H)=(L.take j).map (LI H)++[LI H L[j]]:=by rw[List.take_succ_eq_append_getElem hj,List.map_append];rfl
  have hOl:((L.take j).map (LI H)).length=j:=by rw[List.length_map,List.length_take];omega
  have hrl:L[j].row.toNat<H.length:=by omega
  have hHe:H.getD L[j].row.toNat []=H[L[j].row.toNat]:=by rw[List.getD_eq_getElem?_getD,List.getElem?_eq_getElem hrl];rfl
  have hH1:=hH H[L[j].row.toNat] (List.getElem_mem hrl);have hG1:=hg H[L[j].row.toNat] (List.getElem_mem hrl);have hS:LI H L[j]=HF (((H[L[j].row.toNat]).take (L[j].place+L[j].size).toNat).drop L[j].place.toNat):=by unfold LI;rw[hHe]at x5⊢;rw[show(L[j].place+L[j].size).toNat=L[j].place.toNat+L[j].size.toNat by omega,iI (by omega)]
  rw[hHe]at x5;have hwp:IntKind.i64.wrap (L[j].place+L[j].size)=L[j].place+L[j].size:=AV (by omega) (by omega);have qs:=fun s=>ACN (s:=s) H[L[j].row.toNat] x3 (show L[j].place≤L[j].place+L[j].size by omega) x5;rw[hS]at hst;generalize hM:((H[L[j].row.toNat]).take (L[j].place+L[j].size).toNat).drop L[j].place.toNat=M at *;have hMl:M.length≤10:=by rw[←hM,List.length_drop,List.length_take];omega
  have hMg:∀x∈M,0≤x.good∧x.good≤100:=fun x hx=>hG1 x (List.mem_of_mem_take (List.mem_of_mem_drop (hM▸hx)));obtain⟨c1,hc1,q⟩:=A67 L H ((L.take j).map (LI H)) j γ M hMl hMg M.length 0 (c+1) (by omega);have q:=fun n m=>q n (m+100) (by omega);obtain⟨c',γ',ih⟩:=A68 L hL H hH hg hr hx d (j+1) (c1+1) c1 (by omega);have hap:=AU4 (k:=((L.take j).map (LI H)).length) (x:=HF M) (by omega);refine⟨c',γ',fun n m hm=>?_⟩;obtain⟨m,rfl⟩:∃m',m=m'+1:=⟨m-1,by omega⟩;have ih:=ih n m (by omega);rw[hst]at ih;rw[show HF (M.take 0)=0 from rfl]at q;generalize L.map (LI H)=fin at *;generalize (L.take j).map (LI H)=O at *;generalize HF M=SM at *;generalize hX:L[j]=X at *;rw[AB];cases O with
  |nil=>simp[AQ,AJ,pv,pl]at ih hap q;simp[hj,hX,hw,hwp,x1,x2,hrl,qs,aB,NJ,FK,q,AQ,FN,AJ,hap,AZ,ih,pv,pl,C5,GD,DW,BU,B5,BD,EZ,EK]
  |cons r R=>simp[AQ,AJ,pv,pl]at ih hap q;simp[hj,hX,hw,hwp,x1,x2,hrl,qs,aB,NJ,FK,q,AQ,FN,AJ,hap,AZ,ih,pv,pl,C5,GD,BU,B5,BD,EZ,EK]
theorem A69(n:Nat)(c:AO)(L:List Sp)(hL:L.length≤10)(H:List (List JO))(hH:∀l∈H,l.length≤10)(hg:∀l∈H,∀x∈l,0≤x.good∧x.good≤100)(hr:H.length≤100)(hx:∀x∈L,0≤x.row∧x.row<H.length∧0≤x.place∧0≤x.size∧x.place+x.size≤(H.getD x.row.toNat []).length):A0 Tryz.prog kn (AE Tryz.prog ann kn (n+1000)) 67 [.agg (AD c),.list false (L.map AQ),.list false (H.map FN)]=some (sl ((L.map (LI H)).map AJ)):=by rw[AP rfl,AR Tryz.func67 b67 rfl (by simp[AD,AJ,AM,AF,AS,A3,AU,AQ,FN,EV])];obtain⟨c',γ',q⟩:=A68 L hL H hH hg hr hx L.length 0 1 0 (by omega);have q:=fun n m=>q n (m+100) (by omega);rw[show((L.take 0).map (LI H))=[] from rfl]at q;generalize L.map (LI H)=O at *;simp only[AD]at q⊢;simp at q;simp[c67,AG,q,AS,A3,AU,AQ,FN,EV]
abbrev O1(c:AO)(t:List Int):List (List JO):=MI c.beach c.plan t c.beach.rows.toNat
def BPX(c:AO)(ss:List (Int×Int))(t:List Int):List Int×Int :=
 if DZ c≠0 then([],DZ c) else if DL c ss=true∧A5 t c.beach.winds=true then((A2 c ss).map (LI (O1 c t)),0) else([],2)
theorem yV{c:AO}(_:BZ c)(t:List Int)(_:t.length≤5):(O1 c t).length=c.beach.rows.toNat∧(∀l∈O1 c t,l.length=c.beach.places.toNat)∧∀l∈O1 c t,∀x∈l,0≤x.good∧x.good≤t.length:=by
 refine⟨by simp[O1,MI],fun l hl=>?_,fun l hl x hx=>?_⟩
 ·simp only[O1,MI,List.mem_map]at hl;obtain⟨r,_,rfl⟩:=hl;simp[fN]
 ·simp only[O1,MI,List.mem_map]at hl;obtain⟨r,_,rfl⟩:=hl;simp only[fN,List.mem_map]at hx;obtain⟨q,_,rfl⟩:=hx;have:=ALP (WZ c.beach c.plan t r q) (MK c.beach c.plan r) t.length;change 0≤(B8 c.beach c.plan t r q).sun∧(B8 c.beach c.plan t r q).sun≤t.length∧0≤(B8 c.beach c.plan t r q).calm∧(B8 c.beach c.plan t r q).calm≤t.length∧0≤(B8 c.beach c.plan t r q).good∧(B8 c.beach c.plan t r q).good≤t.length at this;exact⟨by omega,by omega⟩
theorem LV{c:AO}(hc:BZ c){ss:List (Int×Int)}(h:DL c ss=true):ss.length=c.fams.length∧∀x∈A2 c ss,0≤x.row∧x.row<c.beach.rows∧0≤x.place∧(1≤x.size∧x.size≤4)∧x.place+x.size≤c.beach.places:=by simp only[DL,JG,Bool.and_eq_true,decide_eq_true_eq]at h;refine⟨h.1,fun x hx=>?_⟩;have h1:=LQ c (A2 c ss) [] h.2.1 x hx;have h2:=(PE hc h.1 x hx).2;simp only[CQ,Bool.and_eq_true,DC]at h1;omega
theorem AFW{c:AO}(hc:BZ c)(t:List Int)(h5:t.length≤5){r:Int}(h0:0≤r)(h1:r<c.beach.rows):((O1 c t).getD r.toNat []).length=c.beach.places.toNat:=by
 obtain⟨o1,o2,_⟩:=yV hc t h5;have hr:r.toNat<(O1 c t).length:=by omega
 rw[List.getD_eq_getElem?_getD,List.getElem?_eq_getElem hr];exact o2 _ (List.getElem_mem hr)
theorem AVH(n:Nat)(c:AO)(hc:BZ c)(ss:List (Int×Int))(hs:DL c ss=true)(t:List Int)(ht:A5 t c.beach.winds=true):A0 Tryz.prog kn (AE Tryz.prog ann kn (n+1000)) 67 [.agg (AD c),.list false ((A2 c ss).map AQ),.list false ((O1 c t).map FN)]=some (sl (((A2 c ss).map (LI (O1 c t))).map AJ)):=by obtain⟨h1,h2⟩:=LV hc hs;have hlw:=CS ht;have hl5:=hc.be.hl;have hro:=hc.be.ro;have hpl:=hc.be.pl;have hfl:=hc.fl;obtain⟨o1,o2,o3⟩:=yV hc t (by omega);refine A69 n c _ (by rw[show(A2 c ss).length=c.fams.length from DO h1];omega) _ (fun l hl=>by rw[o2 l hl];omega) (fun l hl x hx=>by have:=o3 l hl x hx;omega) (by omega) fun x hx=>?_;obtain⟨x1,x2,x3,x4,x5⟩:=h2 x hx;rw[AFW hc t (by omega) x1 x2];omega
end Go.Proofs.Tryz.Op
