/- Contracts: a valid family, a row of chairs. No condition. -/
import Derived.Test.YthhdhbalenanjaaGreatA1
open Go.Proofs.Tryz renaming prog->cw
open List renaming getD_eq_getElem?_getD->bj,take_succ_eq_append_getElem->bk,getElem?_eq_getElem->bq,eq_nil_of_length_eq_zero->bw,take_length->bb,getElem_mem->bc,length_take->bf,all_eq_true->bg,length_singleton->bn,count_le_length->bp,mem_of_mem_take->cj,getElem_range->ck,range->cq
open Bool renaming and_eq_true->bx
open Nat renaming add_assoc->bz,reduceAdd->bh,le_refl->bm
set_option maxRecDepth 100000
set_option linter.unusedSimpArgs false
open Go Go.Pg Go.Proofs Go.Wind
namespace Go.Proofs.Tryz.Op
theorem S4(n:Nat)(x lo hi:Int):A2 cw kn (AE cw ann kn (n+50)) 163 [i x,i lo,i hi]=some (.bool (F7 x lo hi)):=by rw[AO rfl,AP Tryz.func163 BHX rfl (by simp)];unfold F7;generalize e1:decide (lo<=x)=z1;generalize e2:decide (x<=hi)=z2;cases z1<;>cases z2<;>simp[A6W,AG,e1,e2]
theorem wQ(n:Nat)(f:Q8):A2 cw kn (AE cw ann kn (n+200)) 121 [.agg (AS f)]=some (.bool (LD f)):=by rw[AO rfl,AP Tryz.func121 BHY rfl (by simp[AS])];have q1:=fun n=>S4 n f.size 1 4;have q2:=fun n=>S4 n f.good 0 5;unfold LD;generalize F7 f.size 1 4=z1 at *;generalize F7 f.good 0 5=z2 at *;cases z1<;>cases z2<;>simp[A6X,AG,AS,q1,q2]
theorem APH(n:Nat)(c:AV)(l:List Bool):A2 cw kn (AE cw ann kn (n+200)) 118 [.agg (AD c),lb l]=some (.bool (decide ((l.length:Int)=c.beach.places))):=by rw[AO rfl,AP Tryz.func118 BHZ rfl (by simp[AD,AJ,AL,AF,AR,A4,AS])];generalize e1:decide ((l.length:Int)=c.beach.places)=z1;cases z1<;>simp[A6Y,AG,AD,e1]
theorem M3{b:AN}:(FQ b [] b.winds []).isEmpty=true↔BU b=[]:=by
 rw[List.isEmpty_iff];constructor<;>intro h<;>refine List.eq_nil_iff_forall_not_mem.2 fun t ht=>?_
 ·have:=(Y5 b t).2 (E1.1 ht);rw[h]at this;cases this
 ·have:=E1.2 ((Y5 b t).1 ht);rw[h]at this;cases this
theorem ZA(c:AV):(IF c.beach c.plan).2=if D4 c.beach≠0 then D4 c.beach else if EV c.beach c.plan=false then 2 else if BU c.beach=[] then 11 else 0:=by
 unfold IF;by_cases h:D4 c.beach=0
 ·simp only[h,ne_eq,not_true_eq_false,if_true,if_false];cases hp:EV c.beach c.plan with
  |false=>rfl
  |true=>
   simp only[if_true,Bool.true_eq_false,if_false]
   by_cases ht:BU c.beach=[]
   ·rw[if_pos (M3.2 ht),if_pos ht]
   ·rw[if_neg fun hh=>ht (M3.1 hh),if_neg ht]
 ·rw[if_neg h,if_pos h]
theorem ZB(c:AV)(h40:∀l∈c.beach.winds,l.length<=40)(hch:c.chairs.length<=40)(h:¬FG c=0)(B:AA)(hB:∀t:St,1<=t.up.length->AK t B=B)(g d:Nat)(fr:Fr):∀n,G6 (BO cw ann kn (n+8000)) (some d) ⟨g,fr,⟨[],B⟩⟩ 71 [.agg (AD c)] =
  some ⟨g+1,(d,true,.tup [.raw (.pointer none),i (FG c)])::fr,⟨[],B⟩⟩:=by
 intro n
 rw[zV Tryz.func71 b71 rfl (by simp)]
 have q1:=fun n=>sC n c.beach h40 c.plan
 rw[ZA]at q1
 unfold FG at h|-
 by_cases h3:3<c.fams.length
 ·have h3':(3:Int)<(c.fams.length:Int):=by omega
  rw[if_pos h3];simp[c71,AG,AD,h3',hB]
 ·have h3':¬(3:Int)<(c.fams.length:Int):=by omega
  rw[if_neg h3]at h|-;have qa:=fun n=>APG n 200 121 LD c.fams (by omega) (fun n f _=>wQ n f);have qr:=fun n=>APF n 200 c 118 (fun l=>decide ((l.length:Int)=c.beach.places)) c.chairs hch (fun n l _=>APH n c l);by_cases h4:D4 c.beach≠0
  ·rw[if_pos h4]at q1|-;generalize (IF c.beach c.plan).1=R at q1;generalize D4 c.beach=E at *;simp only[AC,AD]at q1|-;simp[c71,AG,h3',q1,h4,hB]
  ·rw[if_neg h4]at q1 h|-;cases h5:EV c.beach c.plan with
   |false=>
    rw[h5,if_pos rfl]at q1
    rw[if_pos rfl]
    generalize (IF c.beach c.plan).1=R at q1
    simp only[AC,AD]at q1|-
    simp[c71,AG,h3',q1,hB]
   |true=>
    rw[h5,if_neg (by decide)]at q1 h
    rw[if_neg (by decide)]
    by_cases h6:BU c.beach=[]
    ·rw[if_pos h6]at q1|-;generalize (IF c.beach c.plan).1=R at q1;simp only[AC,AD]at q1|-;simp[c71,AG,h3',q1,hB]
    ·rw[if_neg h6]at q1 h|-;have hc1:(if HK c=false then(1:Int) else if c.fams.all LD=false then 1 else 0)=1:=by
      split at h
      ·rw[if_pos (by assumption)]
      ·rw[if_neg (by assumption)];split at h
       ·rw[if_pos (by assumption)]
       ·exact absurd rfl h
     rw[hc1];simp only[bz,bh]at qa qr;generalize (IF c.beach c.plan).1=R at q1;by_cases hl:(c.chairs.length:Int)=c.beach.rows
     ·cases hr:c.chairs.all (fun l=>decide ((l.length:Int)=c.beach.places))with
      |false=>
       rw[hr]at qr
       simp only[AC,AD]at q1 qr|-
       simp[c71,AG,h3',q1,qr,hl,hB,AR,A4,AS]
      |true=>
       rw[hr]at qr
       cases hf:c.fams.all LD with
       |true=>
        exfalso
        rw[if_neg (by simp[HK,hl,hr]),if_neg (by simp[hf])]at h
        exact h rfl
       |false=>
        rw[hf]at qa
        simp only[AC,AD]at q1 qr qa|-
        simp[c71,AG,h3',q1,qr,qa,hl,hB,AR,A4,AS]
     ·simp only[AC,AD]at q1|-;simp[c71,AG,h3',q1,hl,hB]
def E6(l:List sK)(n:Nat):List Int:=(cq 5).map fun p=>if p<n then(l.getD p ⟨0,(0,0),(0,0)⟩).good.1 else 0
def encA(l:List Int):List V:=l.map fun x=>i x
theorem AAX(l:List sK)(n:Nat):∃a0 a1 a2 a3 a4:Int,encA (E6 l n)=[i a0,i a1,i a2,i a3,i a4]:=⟨_,_,_,_,_,rfl⟩
theorem D9{P:Program}{fr:Fr}{s:St}(e d c:Nat)(y:List V)(ys:List (List V))(h:B9 P e 0 (y::ys)=true):vZ P e d c fr s .nil (y::ys)=some (⟨c+1,(d,true,.vec s.up.length d c (ys.length+1))::fr,s.put s.up.length d c (.vec e (y::ys))⟩,[(s.up.length,d),(s.up.length,d+GK)]):=by unfold vZ;simp[IZ,h]
theorem BGQ{k:Nat}(h:k<=1000)(a0 a1 a2 a3 a4:Int):B9 cw 206 k [[i a0,i a1,i a2,i a3,i a4]]=true:=by rw[CB (by simp) (by simp)];simp[maxLen];omega
def rv(k γ:Nat):List (List V)->V
 |[]=>.nil
 |e::es=>.vec 1 k γ (e::es).length
abbrev bxW(c:AV)(g:Nat)(v:V):A0:=.box (AD c++[v,.mp 1 51 (g+1)])
theorem AD2{l:List sK}{j:Nat}(hj:j<l.length):(encA (E6 l j)).set j (i l[j].good.1)=encA (E6 l (j+1)):=by
 apply List.ext_getElem (by simp[encA,E6]);intro p h1 h2;have hp:p<5:=by simpa [encA,E6]using h2
 rw[List.getElem_set];simp only[encA,E6,List.getElem_map,ck];by_cases e:j=p
 ·subst e;rw[if_pos rfl,if_pos (by omega),bj,bq hj];rfl
 ·rw[if_neg e];by_cases hlt:p<j
  ·rw[if_pos hlt,if_pos (by omega)]
  ·rw[if_neg hlt,if_neg (by omega)]
theorem AD3{l:List sK}{j:Nat}(hj:j<l.length)(h5:l.length<=5):(encA (E6 l j)).take j++i l[j].good.1::(encA (E6 l j)).drop (j+1)=encA (E6 l (j+1)):=by rw[<-AD2 hj,List.set_eq_take_append_cons_drop,if_pos (by simp[encA,E6];omega)]
theorem mP(l:List sK)(j:Nat):(encA (E6 l j)).length=5:=by simp[encA,E6]
theorem APJ(B:AA)(g x γ:Nat)(X1 X53:A0)(S:List (List V))(l:List sK)(h5:l.length<=5)(v54 v55 v56:V):∀(e j y:Nat),j+e=l.length->x<y->∃(y':Nat),y<=y'/\∀n m,e<m->BF (AE cw ann kn (n+300) 85) TX (ann 85 (BW TX)) m ⟨y,[(7,true,.ptr 1 53 (g+2) 0),(10,true,.ptr 1 10 x 0),(54,true,v54),(55,true,v55),(56,true,v56),(60,true,.list false (l.map P3)),(61,true,i l.length),(62,true,i j)],⟨[B],(1,g,X1)::(10,x,.box (encA (E6 l j)))::(51,g+1,.map [])::(53,g+2,X53)::pl 80 γ 206 S⟩⟩ =
  some (.exit 2,⟨y',[(63,true,.bool false),(7,true,.ptr 1 53 (g+2) 0),(10,true,.ptr 1 10 x 0),(54,true,v54),(55,true,v55),(56,true,v56),(60,true,.list false (l.map P3)),(61,true,i l.length),(62,true,i l.length)],⟨[B],(1,g,X1)::(10,x,.box (encA (E6 l l.length)))::(51,g+1,.map [])::(53,g+2,X53)::pl 80 γ 206 S⟩⟩)
 |0,j,y,hm,hc=>by
  obtain rfl:j=l.length:=by omega
  refine⟨y,bm _,fun n m hm=>?_⟩;obtain⟨m,rfl⟩:=qNz m (by omega);generalize encA (E6 l l.length)=A;rw[AB];cases S<;>simp
 |e+1,j,y,hm,hc=>by
  have hj:j<l.length:=by omega
  have hw:=BM (k:=j) (by omega);have hset:=AD3 hj h5;have hlen:=mP l j;obtain⟨y',hy,ih⟩:=APJ B g x γ X1 X53 S l h5 v54 v55 v56 e (j+1) (y+1) (by omega) (by omega);refine⟨y',by omega,fun n m hm=>?_⟩;obtain⟨m,rfl⟩:=qNz m (by omega);have ih:=ih n m (by omega);rw[<-hset]at ih;generalize encA (E6 l l.length)=fin at *;generalize encA (E6 l j)=A at *;rw[AB];have hj5:(j:Int)<5:=by omega
  cases S<;>(simp[P3]at ih;simp[hj,hw,hj5,hlen,P3,A3,show j<=4 by omega,show x<y+1 by omega,ih])
theorem APK(c:AV)(B:AA)(g:Nat)(R:List (List sK))(hR:R.length<=100)(hRl:∀l∈R,l.length<=5):∀(e k x γ:Nat),k+e=R.length->g+2<x->∃(x' γ':Nat),x<=x'/\∀n m,e<m->BF (AE cw ann kn (n+600) 85) TY (ann 85 (BW TY)) m ⟨x,[(7,true,.ptr 1 53 (g+2) 0),(54,true,.list false (R.map HG)),(55,true,i R.length),(56,true,i k)],⟨[B],(1,g,.box (AD c))::(51,g+1,.map [])::(53,g+2,bxW c g (rv 80 γ ((R.take k).map fun l=>encA (E6 l l.length))))::pl 80 γ 206 ((R.take k).map fun l=>encA (E6 l l.length))⟩⟩ =
  some (.exit 0,⟨x',[(57,true,.bool false),(7,true,.ptr 1 53 (g+2) 0),(54,true,.list false (R.map HG)),(55,true,i R.length),(56,true,i R.length)],⟨[B],(1,g,.box (AD c))::(51,g+1,.map [])::(53,g+2,bxW c g (rv 80 γ' (R.map fun l=>encA (E6 l l.length))))::pl 80 γ' 206 (R.map fun l=>encA (E6 l l.length))⟩⟩)
 |0,k,x,γ,hm,hc=>by
  obtain rfl:k=R.length:=by omega
  rw[bb];refine⟨x,γ,bm _,fun n m hm=>?_⟩;obtain⟨m,rfl⟩:=qNz m (by omega);generalize hS:R.map (fun l=>encA (E6 l l.length))=S;rw[AB];cases S<;>simp[AD,rv]
 |e+1,k,x,γ,hm,hc=>by
  have hk:k<R.length:=by omega
  have hw:=BM (k:=k) (by omega);have hl5:=hRl R[k] (bc hk);have hst:(R.take (k+1)).map (fun l=>encA (E6 l l.length))=(R.take k).map (fun l=>encA (E6 l l.length))++[encA (E6 R[k] R[k].length)]:=by rw[bk hk,List.map_append];rfl
  have hSl:((R.take k).map fun l=>encA (E6 l l.length)).length=k:=by rw[List.length_map,bf];omega
  obtain⟨y',hy,q15⟩:=APJ B g x γ (.box (AD c)) (bxW c g (rv 80 γ ((R.take k).map fun l=>encA (E6 l l.length)))) ((R.take k).map fun l=>encA (E6 l l.length)) R[k] hl5 (.list false (R.map HG)) (i R.length) (i k) R[k].length 0 (x+1) (by omega) (by omega);have q15:=fun n m=>q15 n (m+100) (by omega);have h0:encA (E6 R[k] 0)=[i 0,i 0,i 0,i 0,i 0]:=rfl;obtain⟨a0,a1,a2,a3,a4,hA⟩:=AAX R[k] R[k].length;have hS5:∀e∈(R.take k).map (fun l=>encA (E6 l l.length)),e.length=5:=fun e he=>by obtain⟨l,_,rfl⟩:=List.mem_map.1 he;exact mP l _
  have hp5:Nat.beq 5 1=false:=rfl;have hap:=BGQ (k:=((R.take k).map fun l=>encA (E6 l l.length)).length) (by omega) a0 a1 a2 a3 a4;obtain⟨x',γ',hxx,ih⟩:=APK c B g R hR hRl e (k+1) (y'+1) y' (by omega) (by omega);refine⟨x',γ',by omega,fun n m hm=>?_⟩;obtain⟨m,rfl⟩:=qNz m (by omega);have ih:=ih n m (by omega);rw[hst,hA]at ih;rw[hA,h0]at q15;generalize (R.take k).map (fun l=>encA (E6 l l.length))=S at *;generalize R.map (fun l=>encA (E6 l l.length))=fin at *;rw[AB];cases S with
  |nil=>
   simp[AD,rv,bxW]at ih q15 hap
   simp[AD,rv,bxW,hk,hw,HG,q15,ih,hap,C0,GK,A3,D9,show x<y'+1 by omega,show g+2<y'+1 by omega,show g+1<y'+1 by omega,BV,B7,BD,EX,EG,hp5]
  |cons s S=>
   have hs5:=hS5 s (by simp)
   have hS6:∀e∈S,e.length=5:=fun e he=>hS5 e (by simp[he])
   have hS7:=eq_true hS6
   simp[AD,rv,bxW]at ih q15 hap
   simp[AD,rv,bxW,hk,hw,HG,q15,ih,hap,C0,GK,A3,show x<y'+1 by omega,show g+2<y'+1 by omega,show g+1<y'+1 by omega,BV,B7,BD,EX,EG,hp5,hs5,hS7]
theorem BGR(st:XS):LU [911051,912053] st=(fun s=>fO 53 (MW 0 s) 911 [] s) (fO 51 (MW 0 st) 910 [] st):=rfl
def A1(c:AV):List (List Int):=(FE c.beach (FH c.beach) c.plan c.beach.rows.toNat).map fun l=>E6 l l.length
def D2(c:AV)(γ:Nat):List V:=AD c++[.list false ((A1 c).map encA),.mp 0 910 γ]
theorem wR(c:AV)(hc:B5 c)(B:AA)(hB:∀t:St,1<=t.up.length->AK t B=B)(g d:Nat)(fr:Fr):∃g',g+3<=g'/\∀n,G6 (BO cw ann kn (n+8000)) (some d) ⟨g,fr,⟨[],B⟩⟩ 71 [.agg (AD c)] =
  some ⟨g',(d,true,.tup [.ptr 0 911 (g+2) 0,i 0])::fr,⟨[],(911,g+2,.box (D2 c (g+1)))::(910,g+1,.map [])::B⟩⟩:=by
 have hb:=hc.be
 have hbe:=ZA c
 rw[if_neg (by simp[O6 hb]),if_neg (by simp[hc.pl]),if_neg hc.tr]at hbe
 have q1:=fun n=>sC n c.beach hb.w40 c.plan
 rw[hbe]at q1
 have hb1:(IF c.beach c.plan).1=FE c.beach (FH c.beach) c.plan c.beach.rows.toNat:=by unfold IF;rw[if_pos (O6 hb),if_pos hc.pl,if_neg fun hh=>hc.tr (M3.1 hh)]
 have hro:=hb.ro
 have hpc:=hb.pl
 have hbl:(FE c.beach (FH c.beach) c.plan c.beach.rows.toNat).length=c.beach.rows.toNat:=by simp[FE]
 have hbn:FE c.beach (FH c.beach) c.plan c.beach.rows.toNat≠[]:=fun e=>by rw[e]at hbl;simp at hbl;omega
 have hb5:∀l∈FE c.beach (FH c.beach) c.plan c.beach.rows.toNat,l.length<=5:=fun l hl=>by obtain⟨r,_,rfl⟩:=List.mem_map.1 hl;simp[N4];omega
 rw[hb1,slX hbn]at q1
 have hfl:=hc.fl
 have hch:=hc.ch
 have h3':¬(3:Int)<(c.fams.length:Int):=by omega
 have qa:=fun n=>APG n 200 121 LD c.fams (by omega) (fun n f _=>wQ n f)
 have qr:=fun n=>APF n 200 c 118 (fun l=>decide ((l.length:Int)=c.beach.places)) c.chairs (by omega) (fun n l _=>APH n c l)
 rw[bg.2 fun f hf=>by
  have:=hc.fo f hf;simp only[LD,bx,C5];exact this]at qa
 rw[bg.2 fun l hl=>decide_eq_true (hc.cr l hl)]at qr
 simp only[bz,bh]at qa qr
 unfold D2 A1
 generalize FE c.beach (FH c.beach) c.plan c.beach.rows.toNat=R at *
 obtain⟨g',γ',hg',q11⟩:=APK c B g R (by omega) hb5 R.length 0 (g+3) 0 (by omega) (by omega)
 have q11:=fun n m=>q11 n (m+100) (by omega)
 refine⟨g',by omega,fun n=>?_⟩
 have hS:(R.map fun l=>E6 l l.length).map encA=R.map fun l=>encA (E6 l l.length):=by rw[List.map_map];rfl
 rw[hS]
 obtain⟨s0,S,hSS⟩:∃s0 S,R.map (fun l=>encA (E6 l l.length))=s0::S:=List.exists_cons_of_ne_nil (fun e:R.map (fun l=>encA (E6 l l.length))=[]=>hbn (List.map_eq_nil_iff.1 e))
 rw[hSS]at q11|-
 rw[zV Tryz.func71 b71 rfl (by simp)]
 simp only[AC,AD,List.take_zero,List.map_nil]at q1 qr qa q11|-
 simp[rv,bxW,AD]at q11
 simp[c71,AG,h3',q1,qr,qa,hch,AR,A4,AS,hB,q11,bz,BGR,MK,V8,V7,KJ,fL,P8,MH,P9,MI,MJ,GL,QA,WA,GR,HR,QB,GS,KI,IX]
theorem wS(c:AV)(k γ:Nat)(t:St):AK t [(k,γ,.box (AD c))]=[(k,γ,.box (AD c))]:=by simp[AD,AJ,AL,AF,AR,A4,AS]
theorem YQ{c:AV}{k:Nat}(h:k<c.fams.length):E4 c k=c.fams[k]:=by unfold E4;rw[bj,bq h];rfl
theorem A4K(n:Nat)(c:AV)(a b:Nat)(ha:a<c.fams.length)(hb:b<c.fams.length):A2 cw kn (AE cw ann kn (n+300)) 173 [.agg (AD c),i a,i b]=some (.bool (JY c a b)):=by
 rw[AO rfl,AP Tryz.func173 BH1 rfl (by simp[AD,AJ,AL,AF,AR,A4,AS])];unfold JY;rw[YQ ha,YQ hb];have e:decide ((a:Int)=(b:Int))=decide (a=b):=decide_eq_decide.2 (by omega);have e2:decide (a≠b)=!decide (a=b):=by simp
 rw[e2];generalize decide (a=b)=z at *;rcases hF1:c.fams[a]with⟨s1,g1,d1,h1⟩;rcases hF2:c.fams[b]with⟨s2,g2,d2,h2⟩;simp only[AD];have p1:Nat.beq 4 1=false:=rfl;cases z<;>cases d1<;>cases h1<;>cases d2<;>cases h2<;>simp[A6Z,AG,e,ha,hb,hF1,hF2,AS,A3,BV,B7,BD,EX,EG,C0,GK,p1]
theorem A4L(n:Nat)(c:AV)(x:Sp)(h1:0<=c.beach.rows/\c.beach.rows<=1000)(h2:0<=c.beach.places/\c.beach.places<=1000)(h3:0<=x.size/\x.size<=1000):A2 cw kn (AE cw ann kn (n+300)) 136 [.agg (AD c),.agg (AQ x)]=some (.bool (C6 c x)):=by rw[AO rfl,AP Tryz.func136 BH2 rfl (by simp[AD,AJ,AL,AF,AR,A4,AS,AQ])];have w1:IntKind.i64.wrap (c.beach.rows-1)=c.beach.rows-1:=AU (by omega) (by omega);have w2:IntKind.i64.wrap (c.beach.places-x.size)=c.beach.places-x.size:=AU (by omega) (by omega);have q1:=fun n=>S4 n x.row 0 (c.beach.rows-1);have q2:=fun n=>S4 n x.place 0 (c.beach.places-x.size);unfold C6;generalize F7 x.row 0 (c.beach.rows-1)=z1 at *;generalize F7 x.place 0 (c.beach.places-x.size)=z2 at *;simp only[AD];cases z1<;>cases z2<;>simp[A60,AG,AQ,w1,w2,q1,q2]
theorem AD4(n:Nat)(c:AV)(x y:Sp)(hx:x.fam<c.fams.length)(hy:y.fam<c.fams.length)(p1:-1000<=x.place/\x.place<=1000)(p2:-1000<=y.place/\y.place<=1000)(s1:0<=x.size/\x.size<=1000)(s2:0<=y.size/\y.size<=1000):A2 cw kn (AE cw ann kn (n+400)) 139 [.agg (AD c),.agg (AQ x),.agg (AQ y)]=some (.bool (EH c x y)):=by
 rw[AO rfl,AP Tryz.func139 BH3 rfl (by simp[AD,AJ,AL,AF,AR,A4,AS,AQ])];have qm:=fun n=>A4K n c x.fam y.fam hx hy;have w1:IntKind.i64.wrap (x.place-y.place)=x.place-y.place:=AU (by omega) (by omega);have w2:IntKind.i64.wrap (x.place-y.place-y.size)=x.place-y.place-y.size:=AU (by omega) (by omega);have w3:IntKind.i64.wrap (y.place-x.place)=y.place-x.place:=AU (by omega) (by omega);have w4:IntKind.i64.wrap (y.place-x.place-x.size)=y.place-x.place-x.size:=AU (by omega) (by omega);unfold EH;by_cases hr:x.row=y.row
 ·rw[show decide (x.row≠y.row)=false from decide_eq_false (by simpa using hr),Bool.false_or];have e:jG x y=(if x.place-y.place-y.size<y.place-x.place-x.size then y.place-x.place-x.size else x.place-y.place-y.size):=by unfold jG;split<;>omega
  generalize JY c x.fam y.fam=z at *;generalize jG x y=m at *;by_cases h0:0<m
  ·simp only[AD]at qm|-;simp[AE5,AG,AQ,w1,w2,w3,w4,qm,hr,<-e,h0]
  ·by_cases h1:m=0
   ·simp only[AD]at qm|-;cases z<;>simp[AE5,AG,AQ,AR,A4,AS,w1,w2,w3,w4,qm,hr,<-e,h0,h1]
   ·simp only[AD]at qm|-;simp[AE5,AG,AQ,w1,w2,w3,w4,qm,hr,<-e,h0,h1]
 ·rw[show decide (x.row≠y.row)=true from decide_eq_true hr,Bool.true_or];simp only[AD];simp[AE5,AG,AQ,hr]
theorem ZC(l:List Bool){j:Nat}(hj:j<l.length):(l.take (j+1)).count true=(l.take j).count true+(if l[j]=true then 1 else 0):=by rw[bk hj,List.count_append];congr 1;cases l[j]<;>rfl
theorem A4M(cs:List (List Bool))(l:List Bool)(hl:l.length<=100)(N r c:Nat)(hN:N<=100000)(X1:A0):∀(d j:Nat),j+d=l.length->∀n m,d<m->BF (AE cw ann kn (n+200) 26) TZ (ann 26 (BW TZ)) m ⟨c,[(2,true,i ((N+(l.take j).count true:Nat):Int)),(8,true,.list false (cs.map AR)),(9,true,i cs.length),(10,true,i r),(14,true,lb l),(15,true,i l.length),(16,true,i j)],⟨[],[(1,0,X1)]⟩⟩ =
  some (.exit 2,⟨c,[(17,true,.bool false),(2,true,i ((N+l.count true:Nat):Int)),(8,true,.list false (cs.map AR)),(9,true,i cs.length),(10,true,i r),(14,true,lb l),(15,true,i l.length),(16,true,i l.length)],⟨[],[(1,0,X1)]⟩⟩)
 |0,j,hd,n,m+1,hm=>by
  obtain rfl:j=l.length:=by omega
  rw[bb,AB];simp
 |d+1,j,hd,n,m+1,hm=>by
  have hj:j<l.length:=by omega
  have hw:=BM (k:=j) (by omega);have ih:=A4M cs l hl N r c hN X1 d (j+1) (by omega) n m (by omega);rw[ZC l hj]at ih;have hcl:(l.take j).count true<=100:=by have:=bp (a:=true) (l:=l.take j);rw[bf]at this;omega
  generalize (l.take j).count true=C at *;have hwC:IntKind.i64.wrap (((N+C:Nat):Int)+1)=((N+(C+1):Nat):Int):=by rw[AU (by omega) (by omega)];omega
  have hwC2:IntKind.i64.wrap ((N:Int)+(C:Int)+1)=((N:Int)+((C:Int)+1)):=by rw[AU (by omega) (by omega)];omega
  generalize l.count true=T at *;rw[AB];cases hz:l[j]with
  |true=>
   rw[hz,if_pos rfl]at ih
   simp at ih
   simp[hj,hw,hz,A4,hwC,hwC2,ih]
  |false=>
   rw[hz,if_neg (by decide),Nat.add_zero]at ih
   simp at ih
   simp[hj,hw,hz,A4,ih]
theorem A4N(cs:List (List Bool))(hl:cs.length<=100)(hr:∀l∈cs,l.length<=100)(c:Nat)(X1:A0):∀(d j N:Nat),j+d=cs.length->N<=100*j->∀n m,d<m->BF (AE cw ann kn (n+400) 26) T1 (ann 26 (BW T1)) m ⟨c,[(2,true,i N),(8,true,.list false (cs.map AR)),(9,true,i cs.length),(10,true,i j)],⟨[],[(1,0,X1)]⟩⟩ =
  some (.exit 0,⟨c,[(11,true,.bool false),(2,true,i ((N+((cs.drop j).map fun l=>l.count true).sum:Nat):Int)),(8,true,.list false (cs.map AR)),(9,true,i cs.length),(10,true,i cs.length)],⟨[],[(1,0,X1)]⟩⟩)
 |0,j,N,hd,hN,n,m+1,hm=>by
  obtain rfl:j=cs.length:=by omega
  rw[AB];simp
 |d+1,j,N,hd,hN,n,m+1,hm=>by
  have hj:j<cs.length:=by omega
  have hw:=BM (k:=j) (by omega);have hlj:=hr cs[j] (bc hj);have q:=fun n m=>A4M cs cs[j] hlj N j c (by omega) X1 cs[j].length 0 (by omega) n (m+101) (by omega);have hcl:=bp (a:=true) (l:=cs[j]);have ih:=A4N cs hl hr c X1 d (j+1) (N+cs[j].count true) (by omega) (by omega) n m (by omega);have hs:N+cs[j].count true+((cs.drop (j+1)).map fun l=>l.count true).sum=N+((cs.drop j).map fun l=>l.count true).sum:=by rw[List.drop_eq_getElem_cons hj,List.map_cons,List.sum_cons];omega
  rw[hs]at ih;generalize ((cs.drop j).map fun l=>l.count true).sum=T at *;generalize cs[j].count true=C at *;simp only[List.take_zero,List.count_nil,Nat.add_zero]at q;rw[AB];simp at ih q;simp[hj,hw,AR,q,ih]
theorem wT(n:Nat)(c:AV)(hl:c.chairs.length<=100)(hr:∀l∈c.chairs,l.length<=100):A2 cw kn (AE cw ann kn (n+600)) 140 [.agg (AD c)]=some (i (EB c)):=by rw[AO rfl,AP Tryz.func140 BH4 rfl (by simp[AD,AJ,AL,AF,AR,A4,AS])];have q:=fun n m=>A4N c.chairs hl hr 1 (.box (AD c)) c.chairs.length 0 0 (by omega) (by omega) n (m+101) (by omega);have e:((c.chairs.drop 0).map fun l=>l.count true).sum=EB c:=rfl;rw[e,Nat.zero_add]at q;generalize EB c=T at *;simp only[AD]at q|-;simp at q;simp[A61,AG,q]
def AZ(g:Nat×Int):List V:=[i (g.1:Int),i g.2]
def B8(fs:List Q8)(out:List Int):Nat->List (Nat×Int)
 |0=>[]
 |k+1=>B8 fs out k++(if decide ((k:Int)∈out)=true then[] else[(k,(fs.getD k ⟨0,0,false,false⟩).size)])
def AY(c:AV)(out:List Int):List (Nat×Int):=B8 c.fams out c.fams.length
theorem OS(fs:List Q8)(out:List Int):∀k,(B8 fs out k).length<=k
 |0=>bm _
 |k+1=>by have:=OS fs out k;simp only[B8,List.length_append];split<;>simp<;>omega
theorem BGS{k:Nat}{l:List (Nat×Int)}(h:k+l.length<=1000):B9 cw 151 k (l.map AZ)=true:=by rw[CB (by simp) (by simp)];simp[maxLen,AZ];omega
theorem AS4(fs:List Q8)(hl:fs.length<=30)(out:List Int)(ho:out.length<=40)(X2:A0):∀(d k c γ:Nat),k+d=fs.length->∃c' γ',∀n m,d<m->BF (AE cw ann kn (n+1600) 28) ZN (ann 28 (BW ZN)) m ⟨c,[(1,true,li out),(4,true,pv 25 γ ((B8 fs out k).map AZ)),(8,true,.list false (fs.map AS)),(9,true,i fs.length),(10,true,i k)],⟨[],(2,0,X2)::pl 25 γ 151 ((B8 fs out k).map AZ)⟩⟩ =
  some (.exit 0,⟨c',[(11,true,.bool false),(1,true,li out),(4,true,pv 25 γ' ((B8 fs out fs.length).map AZ)),(8,true,.list false (fs.map AS)),(9,true,i fs.length),(10,true,i fs.length)],⟨[],(2,0,X2)::pl 25 γ' 151 ((B8 fs out fs.length).map AZ)⟩⟩)
 |0,k,c,γ,hd=>by
  obtain rfl:k=fs.length:=by omega
  refine⟨c,γ,fun n m hm=>?_⟩;obtain⟨m,rfl⟩:=qNz m (by omega);generalize B8 fs out fs.length=R;rw[AB];cases R<;>simp
 |d+1,k,c,γ,hd=>by
  have hk:k<fs.length:=by omega
  have hw:=BM (k:=k) (by omega);have hgl:=OS fs out k;have qC:=fun n=>XI n out (k:Int) (by omega);have hg:fs.getD k ⟨0,0,false,false⟩=fs[k]:=by rw[bj,bq hk];rfl
  have hst:B8 fs out (k+1)=B8 fs out k++(if decide ((k:Int)∈out)=true then[] else[(k,fs[k].size)]):=by rw[<-hg];rfl
  have hap:=BGS (k:=(B8 fs out k).length) (l:=[(k,fs[k].size)]) (by rw[bn];omega);generalize decide ((k:Int)∈out)=z at *;generalize hfk:fs[k]=f at *;cases z with
  |true=>
   obtain⟨c',γ',ih⟩:=AS4 fs hl out ho X2 d (k+1) (c+1) γ (by omega)
   refine⟨c',γ',fun n m hm=>?_⟩
   obtain⟨m,rfl⟩:=qNz m (by omega)
   have ih:=ih n m (by omega)
   rw[hst,if_pos rfl,List.append_nil]at ih
   generalize B8 fs out fs.length=fin at *
   generalize B8 fs out k=R at *
   rw[AB]
   cases R<;>(simp[AZ]at ih;simp[hk,hw,hfk,AS,AZ,qC,A3,ih])
  |false=>
   obtain⟨c',γ',ih⟩:=AS4 fs hl out ho X2 d (k+1) (c+2) (c+1) (by omega)
   refine⟨c',γ',fun n m hm=>?_⟩
   obtain⟨m,rfl⟩:=qNz m (by omega)
   have ih:=ih n m (by omega)
   rw[hst,if_neg (by decide)]at ih
   generalize B8 fs out fs.length=fin at *
   generalize B8 fs out k=R at *
   rw[AB]
   cases R with
   |nil=>simp[AZ,pv]at ih hap;simp[hk,hw,hfk,AS,AZ,qC,hap,A3,ih,pv]
   |cons r R=>simp[AZ]at ih hap;simp[hk,hw,hfk,AS,AZ,qC,hap,A3,ih]
theorem wU(n:Nat)(c:AV)(hl:c.fams.length<=30)(out:List Int)(ho:out.length<=40):A2 cw kn (AE cw ann kn (n+2000)) 92 [.agg (AD c),li out]=some (sl ((AY c out).map AZ)):=by
 rw[AO rfl,AP Tryz.func92 b92 rfl (by simp[AD,AJ,AL,AF,AR,A4,AS])];obtain⟨c',γ',q⟩:=AS4 c.fams hl out ho (.box (AD c)) c.fams.length 0 1 0 (by omega);have q:=fun n m=>q n (m+100) (by omega);have e:B8 c.fams out c.fams.length=AY c out:=rfl;rw[e,show B8 c.fams out 0=[] from rfl]at q;generalize hG:AY c out=G at *;have hcl:(G.map AZ).all (fun e=>e.all (AH 8))=true:=by simp[AZ]
 generalize G.map AZ=R at *;simp only[AD,List.map_nil]at q|-;simp at q;simp[c92,AG,q];exact fun e he v hv=>bg.1 (bg.1 hcl e he) v hv
def l7:Option (Nat×List V)->AA
 |none=>[]
 |some (γ,cs)=>[(7,γ,.box cs)]
theorem AD5{s:St}(l:List Sp){j:Nat}(hj:j<=l.length):CH cw s 120 (.list false (l.map AQ)) none (some (i j)) none=some (.list false ((l.map AQ).take j)):=by have:=dV (P:=cw) (s:=s) (T:=120) (e:=153) (es:=l.map AQ) (h:=(j:Int)) (b:=false) (by kernel_rfl) (by simp) (by omega) (by rw[List.length_map];omega);simpa using this
theorem AAY(n:Nat)(c:AV)(x:Sp)(l:List Sp)(hl:l.length<=10)(hx:x.fam<c.fams.length/\(0<=x.size/\x.size<=1000)/\-1000<=x.place/\x.place<=1000)(hy:∀y∈l,y.fam<c.fams.length/\(0<=y.size/\y.size<=1000)/\-1000<=y.place/\y.place<=1000)(g d:Nat)(fr:Fr):∃g',g+1<=g'/\G6 (BO cw ann kn (n+900)) (some d) ⟨g+1,fr,⟨[],[(2,0,.box (AD c)),(7,g,.box (AQ x))]⟩⟩ 137 [.list false (l.map AQ),.fn 138 [] [.ptr 0 2 0 0,.ptr 0 7 g 0]] =
  some ⟨g',(d,true,.bool (l.all (EH c x)))::fr,⟨[],[(2,0,.box (AD c)),(7,g,.box (AQ x))]⟩⟩:=by
 obtain⟨c',h1,q⟩:=AS2 n 600 0 (fun _=>[]) (fun _=>[(2,0,.box (AD c)),(7,g,.box (AQ x))]) (by simp) (fun _=>True) 138 [.ptr 0 2 0 0,.ptr 0 7 g 0] (by simp) (by simp) (fun (_:Unit) y=>EH c x y) (fun _ _=>()) l (by omega) (by simp[AD,AJ,AL,AF,AR,A4,AS,AQ]) (by
   intro t γ ht;obtain⟨up,loc⟩:=t;have h0:¬0=up.length:=by simp at ht;omega
   simp[h0]) (g+1) (by
   intro n c1 γ fr s y hc hs hm;refine⟨fun h=>trivial,c1+1,by omega,?_⟩;obtain⟨y1,y2,y3⟩:=hy y hm;have qa:=fun n=>AD4 n c x y hx.1 y1 hx.2.2 y3 hx.2.1 y2;simp only[List.nil_append,List.cons_append];rw[BA Tryz.func138 b138 rfl (by simp)];generalize EH c x y=z at *;simp only[AD,AQ]at qa |-;simp[A62,AG,AJ,AL,AF,AR,A4,AS,qa]) d fr () trivial
 rw[FN]at q
 have hn:=KB (EH c x) l
 have e:n+600+300=n+900:=by omega
 rw[e]at q
 simp only at q
 rw[hn]at q
 exact⟨c',h1,q⟩
theorem A4O(n:Nat)(c:AV)(hc:B5 c)(l:List Sp)(hl:l.length<=10)(hs:∀x∈l,x.fam<c.fams.length/\1<=x.size/\x.size<=4):∀(d j g:Nat) (o:Option (Nat×List V)),j+d=l.length->0<g->DJ c [] (l.take j)=true->∃g' o',∀m,d<m->BF (AE cw ann kn (n+1200) 37) T3 (ann 37 (BW T3)) m ⟨g,[(1,true,.list false (l.map AQ)),(2,true,.ptr 0 2 0 0),(5,true,i (EC (l.take j))),(8,true,.list false (l.map AQ)),(9,true,i l.length),(10,true,i j)],⟨[],(2,0,.box (AD c))::l7 o⟩⟩ =
  bif DJ c [] l then some (.exit 0,⟨g',[(11,true,.bool false),(1,true,.list false (l.map AQ)),(2,true,.ptr 0 2 0 0),(5,true,i (EC l)),(8,true,.list false (l.map AQ)),(9,true,i l.length),(10,true,i l.length)],⟨[],(2,0,.box (AD c))::l7 o'⟩⟩) else some (.ret,⟨g',[(4,true,.bool false)],⟨[],[]⟩⟩)
 |0,j,g,o,hd,hg,hok=>by
  obtain rfl:j=l.length:=by omega
  rw[bb]at hok|-;refine⟨g,o,fun m hm=>?_⟩;obtain⟨m,rfl⟩:=qNz m (by omega);rw[hok,AB];rcases o with _|⟨γ,cs⟩<;>simp[AD,l7]
 |d+1,j,g,o,hd,hg,hok=>by
  have hj:j<l.length:=by omega
  have hw:=BM (k:=j) (by omega);have hro:=hc.be.ro;have hpl:=hc.be.pl;obtain⟨x1,x2⟩:=hs l[j] (bc hj);have hps:=VX (l.take j) fun y hy=>by have:=(hs y (cj hy)).2;omega
  have htl:(l.take j).length<=10:=by rw[bf];omega
  have hwp:IntKind.i64.wrap (EC (l.take j)+l[j].size)=EC (l.take j)+l[j].size:=AU (by omega) (by omega);have qf:=fun n=>A4L n c l[j] (by omega) (by omega) (by omega);have ht:=mH c l hj;rw[hok,Bool.true_and]at ht;cases hf:C6 c l[j]with
  |false=>
   rw[hf]at qf
   rw[hf,Bool.false_and]at ht
   have hno:=Y7 c l (j+1) ht
   simp only[AD,AQ]at qf
   refine⟨g+1,none,fun m hm=>?_⟩
   obtain⟨m,rfl⟩:=qNz m (by omega)
   rw[hno,AB]
   simp only[AD]
   rcases o with _|⟨γ,cs⟩<;>simp[hj,hw,hwp,AQ,AR,A4,AS,qf,A3,l7]
  |true=>
   rw[hf]at qf
   rw[hf,Bool.true_and]at ht
   have hfits:=LF c (l.take j) [] hok
   have hfx:(0<=l[j].row/\l[j].row<=c.beach.rows-1)/\0<=l[j].place/\l[j].place<=c.beach.places-l[j].size:=by simpa only[C6,bx,C5]using hf
   have hyy:∀y∈l.take j,y.fam<c.fams.length/\(0<=y.size/\y.size<=1000)/\-1000<=y.place/\y.place<=1000:=fun y hy=>by have h1:=hs y (cj hy);have h2:=hfits y hy;simp only[C6,bx,C5]at h2;exact⟨h1.1,by omega,by omega⟩
   obtain⟨g1,hg1,qa⟩:=AAY (n+292) c l[j] (l.take j) htl ⟨x1,by omega,by omega⟩ hyy g 29 [(28,true,.fn 138 [] [.ptr 0 2 0 0,.ptr 0 7 g 0]),(27,true,.list false ((l.take j).map AQ)),(26,true,i j),(25,true,.list false (l.map AQ)),(24,true,.bool false),(23,true,.bool false),(22,true,.bool true),(21,true,.agg (AQ l[j])),(20,true,.agg (AD c)),(1,true,.list false (l.map AQ)),(2,true,.ptr 0 2 0 0),(5,true,i (EC (l.take j)+l[j].size)),(6,true,i j),(7,true,.ptr 0 7 g 0),(8,true,.list false (l.map AQ)),(9,true,i l.length),(10,true,i j)]
   have qsl:=fun s=>AD5 (s:=s) l (Nat.le_of_lt hj)
   rw[List.map_take]at qa
   simp only[AD,AQ,bz,bh]at qf qa
   cases hz:(l.take j).all (EH c l[j])with
   |false=>
    rw[hz]at ht qa
    have hno:=Y7 c l (j+1) ht
    refine⟨g1,none,fun m hm=>?_⟩
    obtain⟨m,rfl⟩:=qNz m (by omega)
    rw[hno,AB]
    simp only[AD]
    rcases o with _|⟨γ,cs⟩<;>simp[hj,hw,hwp,AQ,AR,A4,AS,qf,A3,l7,qsl,qa]
   |true=>
    rw[hz]at ht qa
    obtain⟨g',o',ih⟩:=A4O n c hc l hl hs d (j+1) g1 (some (g,AQ l[j])) (by omega) (by omega) ht
    refine⟨g',o',fun m hm=>?_⟩
    obtain⟨m,rfl⟩:=qNz m (by omega)
    have ih:=ih m (by omega)
    rw[mI l hj]at ih
    generalize DJ c [] l=Z at *
    generalize EC l=PL at *
    rw[AB]
    simp only[AD,AQ,l7]at ih|-
    simp at ih
    rcases o with _|⟨γ,cs⟩<;>simp[hj,hw,hwp,AQ,AR,A4,AS,qf,A3,l7,qsl,qa,ih]
theorem AKF(n:Nat)(c:AV)(hc:B5 c)(l:List Sp)(hl:l.length<=10)(hs:∀x∈l,x.fam<c.fams.length/\1<=x.size/\x.size<=4):A2 cw kn (AE cw ann kn (n+1500)) 109 [.agg (AD c),.list false (l.map AQ)]=some (.bool (I5 c l)):=by
 rw[AO rfl,AP Tryz.func109 BH5 rfl (by simp[AD,AJ,AL,AF,AR,A4,AS,AQ])];obtain⟨g',o',q⟩:=A4O (n+294) c hc l hl hs l.length 0 1 none (by omega) (by omega) rfl;have q:=q (n+1494) (by omega);have hro:=hc.be.ro;have hpl:=hc.be.pl;have hch:=hc.ch;have qc:=fun n=>wT n c (by omega) (fun l hl=>by have:=hc.cr l hl;omega);unfold I5;have hps:=VX l fun y hy=>by have:=(hs y hy).2;omega
 rw[show EC (l.take 0)=0 from rfl]at q;generalize DJ c [] l=Z at *;generalize EC l=PL at *;generalize EB c=CN at *;generalize e1:decide (PL<=(CN:Int))=z1;simp only[AD,l7,bz,bh]at q qc|-;simp at q;cases Z with
 |false=>
  simp at q
  simp[ATZ,AG,q]
 |true=>
  simp at q
  rcases o' with _|⟨γ,cs⟩<;>simp[l7]at q<;>simp[ATZ,AG,q,AR,A4,AS,qc,e1]
end Go.Proofs.Tryz.Op
namespace Go.Wind
theorem YG{c:AV}{ss:List (Int×Int)}(h:ss.length=c.fams.length){k:Nat}(hk:k<c.fams.length):(A8 c ss).take (k+1)=(A8 c ss).take k++[⟨k,c.fams[k].size,(ss[k]'(by omega)).1,(ss[k]'(by omega)).2⟩]:=by have hl:(A8 c ss).length=c.fams.length:=D0 h;rw[bk (by omega)];have:=KG (k:=0) (fs:=c.fams) (ss:=ss) k hk (by omega) (by show k<(A8 c ss).length;omega);rw[Nat.zero_add]at this;exact congrArg (fun y=>(A8 c ss).take k++[y]) this
end Go.Wind
namespace Go.Proofs.Tryz.Op
theorem OT(fs:List Q8):∀k,k<=fs.length->B8 fs [] k=(cq k).map fun j=>(j,(fs.getD j ⟨0,0,false,false⟩).size)
 |0,_=>rfl
 |k+1,h=>by rw[B8,OT fs k (by omega),List.range_succ,List.map_append];simp
theorem fY{c:AV}{k:Nat}(hk:k<c.fams.length)(h:k<(AY c []).length):(AY c [])[k]=(k,c.fams[k].size):=by have e:AY c []=(cq c.fams.length).map fun j=>(j,(c.fams.getD j ⟨0,0,false,false⟩).size):=OT c.fams _ (bm _);simp only[e,List.getElem_map,ck,bj,bq hk];rfl
theorem C3(c:AV):(AY c []).length=c.fams.length:=by have e:AY c []=(cq c.fams.length).map fun j=>(j,(c.fams.getD j ⟨0,0,false,false⟩).size):=OT c.fams _ (bm _);rw[e];simp
theorem BGT{k:Nat}{l:List Sp}(h:k+l.length<=1000):B9 cw 153 k (l.map AQ)=true:=by rw[CB (by simp) (by simp)];simp[maxLen,AQ];omega
theorem A4P(c:AV)(hf:c.fams.length<=10)(ss:List (Int×Int))(hs:ss.length=c.fams.length)(X2:A0):∀(d k g γ:Nat),k+d=c.fams.length->∃g' γ',∀n m,d<m->BF (AE cw ann kn (n+1200) 37) ZO (ann 37 (BW ZO)) m ⟨g,[(1,true,.list false (ss.map AF)),(2,true,.ptr 0 2 0 0),(6,true,pv 31 γ (((A8 c ss).take k).map AQ)),(16,true,.list false ((AY c []).map AZ)),(17,true,i c.fams.length),(18,true,i k)],⟨[],(2,0,X2)::pl 31 γ 153 (((A8 c ss).take k).map AQ)⟩⟩ =
  some (.exit 0,⟨g',[(19,true,.bool false),(1,true,.list false (ss.map AF)),(2,true,.ptr 0 2 0 0),(6,true,pv 31 γ' ((A8 c ss).map AQ)),(16,true,.list false ((AY c []).map AZ)),(17,true,i c.fams.length),(18,true,i c.fams.length)],⟨[],(2,0,X2)::pl 31 γ' 153 ((A8 c ss).map AQ)⟩⟩)
 |0,k,g,γ,hd=>by
  obtain rfl:k=c.fams.length:=by omega
  have hl:(A8 c ss).length=c.fams.length:=D0 hs;rw[<-hl,bb,hl];refine⟨g,γ,fun n m hm=>?_⟩;obtain⟨m,rfl⟩:=qNz m (by omega);generalize A8 c ss=R;rw[AB];cases R<;>simp
 |d+1,k,g,γ,hd=>by
  have hk:k<c.fams.length:=by omega
  have hks:k<ss.length:=by omega
  have hw:=BM (k:=k) (by omega);have hgk:k<(AY c []).length:=by rw[C3];omega
  have hg:=fY hk hgk;have hst:=YG hs hk;have hl:(A8 c ss).length=c.fams.length:=D0 hs;have htl:((A8 c ss).take k).length=k:=by rw[bf];omega
  have hap:=BGT (k:=((A8 c ss).take k).length) (l:=[⟨k,c.fams[k].size,ss[k].1,ss[k].2⟩]) (by rw[bn];omega);obtain⟨g',γ',ih⟩:=A4P c hf ss hs X2 d (k+1) (g+2) (g+1) (by omega);refine⟨g',γ',fun n m hm=>?_⟩;obtain⟨m,rfl⟩:=qNz m (by omega);have ih:=ih n m (by omega);rw[hst]at ih;generalize A8 c ss=fin at *;generalize fin.take k=R at *;generalize hG:AY c []=G at *;generalize c.fams[k].size=sz at *;rw[AB];cases R with
  |nil=>simp[AZ,AQ,AF,pv,pl]at ih hap;simp[hk,hks,hgk,hg,hw,AZ,AQ,AF,hap,A3,ih,pv,pl,C0,GK,D9,BV,B7,BD,EX,EG,show Nat.beq 2 1=false from rfl]
  |cons r R=>simp[AZ,AQ,AF,pv,pl]at ih hap;simp[hk,hks,hgk,hg,hw,AZ,AQ,AF,hap,A3,ih,pv,pl,C0,GK,D9,BV,B7,BD,EX,EG,show Nat.beq 2 1=false from rfl]
def OU(c:AV)(ss:List (Int×Int)):List Sp×Bool:=if ss.length=c.fams.length then(A8 c ss,I5 c (A8 c ss)) else([],false)
theorem OV{c:AV}(hc:B5 c){ss:List (Int×Int)}(hs:ss.length=c.fams.length):∀x∈A8 c ss,x.fam<c.fams.length/\1<=x.size/\x.size<=4:=fun x hx=>by have hl:(A8 c ss).length=c.fams.length:=D0 hs;obtain⟨j,hj,rfl⟩:=List.getElem_of_mem hx;have:=KG (k:=0) (fs:=c.fams) (ss:=ss) j (by omega) (by omega) hj;have e:(A8 c ss)[j]=⟨0+j,(c.fams[j]'(by omega)).size,(ss[j]'(by omega)).1,(ss[j]'(by omega)).2⟩:=this;rw[e];have hf:=hc.fo _ (bc (show j<c.fams.length by omega));exact⟨by simp only;omega,by simp only;omega,by simp only;omega⟩
theorem AS5(n:Nat)(c:AV)(hc:B5 c)(ss:List (Int×Int)):A2 cw kn (AE cw ann kn (n+2200)) 65 [.agg (AD c),.list false (ss.map AF)]=some (.tup [sl ((OU c ss).1.map AQ),.bool (OU c ss).2]):=by
 rw[AO rfl,AP Tryz.func65 b65 rfl (by simp[AD,AJ,AL,AF,AR,A4,AS])];have slnil:sl ([]:List (List V))=.nil:=rfl;unfold OU;by_cases hs:ss.length=c.fams.length
 ·rw[if_pos hs];have hfl:=hc.fl;have hl:(A8 c ss).length=c.fams.length:=D0 hs;have hsI:(ss.length:Int)=c.fams.length:=by omega
  have qS:=fun n=>AKF n c hc (A8 c ss) (by omega) (OV hc hs);have qG:∀n,A2 cw kn (AE cw ann kn (n+2000)) 92 [.agg (AD c),.list false []]=some (sl ((AY c []).map AZ)):=fun n=>wU n c (by omega) [] (by simp);by_cases hG:AY c []=[]
  ·have h0:c.fams=[]:=bw (by rw[<-C3,hG];rfl);have hL:A8 c ss=[]:=bw (by rw[hl,h0];rfl);rw[hG]at qG;rw[hL]at qS|-;generalize I5 c []=Z at *;rw[h0]at hsI;simp only[AD,h0]at qS qG|-;simp at qS qG;simp[c65,AG,slnil,qG,qS,hsI,AF,AR,A4,AS,AB]
  ·obtain⟨g',γ',q⟩:=A4P c (by omega) ss hs (.box (AD c)) c.fams.length 0 1 0 (by omega);have q:=fun n m=>q n (m+100) (by omega);rw[slX hG]at qG;have gl:=C3 c;rw[show(A8 c ss).take 0=[] from rfl]at q;generalize A8 c ss=L at *;generalize I5 c L=Z at *;generalize AY c []=G at *;simp only[AD]at q qS qG|-;simp at q qS qG;have hLn:L≠[]:=fun e=>hG (bw (by rw[gl,<-hl,e];rfl));have hsl:=slX (f:=AQ) hLn;rw[hsl];simp[c65,AG,slnil,hsl,AQ,qG,qS,hsI,gl,AF,AR,A4,AS,q]
 ·have hsI:¬(ss.length:Int)=c.fams.length:=by omega
  rw[if_neg hs];simp only[AD];simp[c65,AG,slnil,hsI,AF,AR,A4,AS]
end Go.Proofs.Tryz.Op
namespace Go.Wind
end Go.Wind
namespace Go.Proofs.Tryz.Op
theorem ZD{P:Program}{r:Operand->Option V}(T:TypeId)(x:Operand)(l h m:Option Operand):IC P (.oth (.slice T x l h m)) r=FS (r x):=rfl
theorem P5{c:AV}(hc:B5 c){ss:List (Int×Int)}(h:D3 c ss=true):ss.length=c.fams.length/\∀x∈A8 c ss,0<=x.row/\x.row<c.beach.rows/\0<=x.place/\(1<=x.size/\x.size<=4)/\x.place+x.size<=c.beach.places:=by simp only[D3,I5,bx,decide_eq_true_eq]at h;refine⟨h.1,fun x hx=>?_⟩;have h1:=LF c (A8 c ss) [] h.2.1 x hx;have h2:=(OV hc h.1 x hx).2;simp only[C6,bx,C5]at h1;omega
end Go.Proofs.Tryz.Op
