/- Contracts: a valid family, a row of chairs. No condition. -/
import Derived.Test.YthhdhbalenanjaaGreatA1
open Go.Proofs.Tryz renaming prog->cw
open List renaming getD_eq_getElem?_getD->bj,take_succ_eq_append_getElem->bk,getElem?_eq_getElem->bq,eq_nil_of_length_eq_zero->bw,take_length->bb,getElem_mem->bc,length_take->bf,all_eq_true->bg,length_singleton->bn,count_le_length->bp,mem_of_mem_take->cj,getElem_range->ck,range->cq
open Bool renaming and_eq_true->bx
open Nat renaming add_assoc->bz,reduceAdd->bh,le_refl->bm
set_option maxRecDepth 100000
set_option linter.unusedSimpArgs false
open Go Go.Pg Go.Proofs Go.Wind
namespace Go.Proofs.Tryz.Op
theorem SW(n:Nat)(x lo hi:Int):AY cw kn (AE cw ann kn (n+50)) 163 [i x,i lo,i hi]=some (.bool (F1 x lo hi)):=by rw[AN rfl,AO Tryz.func163 BFJ rfl (by simp)];unfold F1;generalize e1:decide (lo<=x)=z1;generalize e2:decide (x<=hi)=z2;cases z1<;>cases z2<;>simp[A49,AF,e1,e2]
theorem wQ(n:Nat)(f:Q9):AY cw kn (AE cw ann kn (n+200)) 121 [.agg (AU f)]=some (.bool (K2 f)):=by rw[AN rfl,AO Tryz.func121 BFK rfl (by simp[AU])];have q1:=fun n=>SW n f.size 1 4;have q2:=fun n=>SW n f.good 0 5;unfold K2;generalize F1 f.size 1 4=z1 at *;generalize F1 f.good 0 5=z2 at *;cases z1<;>cases z2<;>simp[A5A,AF,AU,q1,q2]
theorem APC(n:Nat)(c:AQ)(l:List Bool):AY cw kn (AE cw ann kn (n+200)) 118 [.agg (AD c),lb l]=some (.bool (decide ((l.length:Int)=c.beach.places))):=by rw[AN rfl,AO Tryz.func118 BFL rfl (by simp[AD,AS,A6,AU])];generalize e1:decide ((l.length:Int)=c.beach.places)=z1;cases z1<;>simp[A5B,AF,AD,e1]
theorem M2{b:AL}:(FM b [] b.winds []).isEmpty=true↔BS b=[]:=by
 rw[List.isEmpty_iff];constructor<;>intro h<;>refine List.eq_nil_iff_forall_not_mem.2 fun t ht=>?_
 ·have:=(Y8 b t).2 (EZ.1 ht);rw[h]at this;cases this
 ·have:=EZ.2 ((Y8 b t).1 ht);rw[h]at this;cases this
theorem ZD(c:AQ):(H6 c.beach c.plan).2=if D2 c.beach≠0 then D2 c.beach else if ES c.beach c.plan=false then 2 else if BS c.beach=[] then 11 else 0:=by
 unfold H6;by_cases h:D2 c.beach=0
 ·simp only[h,ne_eq,not_true_eq_false,if_true,if_false];cases hp:ES c.beach c.plan with
  |false=>rfl
  |true=>
   simp only[if_true,Bool.true_eq_false,if_false]
   by_cases ht:BS c.beach=[]
   ·rw[if_pos (M2.2 ht),if_pos ht]
   ·rw[if_neg fun hh=>ht (M2.1 hh),if_neg ht]
 ·rw[if_neg h,if_pos h]
theorem ZE(c:AQ)(h40:∀l∈c.beach.winds,l.length<=40)(hch:c.chairs.length<=40)(h:¬EC c=0)(B:AA)(hB:∀t:St,1<=t.up.length->AH t B=B)(g d:Nat)(fr:Fr):∀n,GW (BT cw ann kn (n+8000)) (some d) ⟨g,fr,⟨[],B⟩⟩ 71 [.agg (AD c)] =
  some ⟨g+1,(d,true,.tup [.raw (.pointer none),i (EC c)])::fr,⟨[],B⟩⟩:=by
 intro n
 rw[zY Tryz.func71 b71 rfl (by simp)]
 have q1:=fun n=>sE n c.beach h40 c.plan
 rw[ZD]at q1
 unfold EC at h|-
 by_cases h3:3<c.fams.length
 ·have h3':(3:Int)<(c.fams.length:Int):=by omega
  rw[if_pos h3];simp[c71,AF,AD,h3',hB]
 ·have h3':¬(3:Int)<(c.fams.length:Int):=by omega
  rw[if_neg h3]at h|-;have qa:=fun n=>APB n 200 121 K2 c.fams (by omega) (fun n f _=>wQ n f);have qr:=fun n=>APA n 200 c 118 (fun l=>decide ((l.length:Int)=c.beach.places)) c.chairs hch (fun n l _=>APC n c l);by_cases h4:D2 c.beach≠0
  ·rw[if_pos h4]at q1|-;generalize (H6 c.beach c.plan).1=R at q1;generalize D2 c.beach=E at *;simp only[AC,AD]at q1|-;simp[c71,AF,h3',q1,h4,hB]
  ·rw[if_neg h4]at q1 h|-;cases h5:ES c.beach c.plan with
   |false=>
    rw[h5,if_pos rfl]at q1
    rw[if_pos rfl]
    generalize (H6 c.beach c.plan).1=R at q1
    simp only[AC,AD]at q1|-
    simp[c71,AF,h3',q1,hB]
   |true=>
    rw[h5,if_neg (by decide)]at q1 h
    rw[if_neg (by decide)]
    by_cases h6:BS c.beach=[]
    ·rw[if_pos h6]at q1|-;generalize (H6 c.beach c.plan).1=R at q1;simp only[AC,AD]at q1|-;simp[c71,AF,h3',q1,hB]
    ·rw[if_neg h6]at q1 h|-;have hc1:(if HE c=false then(1:Int) else if c.fams.all K2=false then 1 else 0)=1:=by
      split at h
      ·rw[if_pos (by assumption)]
      ·rw[if_neg (by assumption)];split at h
       ·rw[if_pos (by assumption)]
       ·exact absurd rfl h
     rw[hc1];simp only[bz,bh]at qa qr;generalize (H6 c.beach c.plan).1=R at q1;by_cases hl:(c.chairs.length:Int)=c.beach.rows
     ·cases hr:c.chairs.all (fun l=>decide ((l.length:Int)=c.beach.places))with
      |false=>
       rw[hr]at qr
       simp only[AC,AD]at q1 qr|-
       simp[c71,AF,h3',q1,qr,hl,hB,AS,A6,AU]
      |true=>
       rw[hr]at qr
       cases hf:c.fams.all K2 with
       |true=>
        exfalso
        rw[if_neg (by simp[HE,hl,hr]),if_neg (by simp[hf])]at h
        exact h rfl
       |false=>
        rw[hf]at qa
        simp only[AC,AD]at q1 qr qa|-
        simp[c71,AF,h3',q1,qr,qa,hl,hB,AS,A6,AU]
     ·simp only[AC,AD]at q1|-;simp[c71,AF,h3',q1,hl,hB]
def E4(l:List sP)(n:Nat):List Int:=(cq 5).map fun p=>if p<n then(l.getD p ⟨0,(0,0),(0,0)⟩).good.1 else 0
def encA(l:List Int):List V:=l.map fun x=>i x
theorem AA1(l:List sP)(n:Nat):∃a0 a1 a2 a3 a4:Int,encA (E4 l n)=[i a0,i a1,i a2,i a3,i a4]:=⟨_,_,_,_,_,rfl⟩
theorem ZF{P:Program}{fr:Fr}{s:St}(e d c:Nat)(y:List V)(ys:List (List V))(h:B5 P e 0 (y::ys)=true):adV P e d c fr s .nil (y::ys)=some (⟨c+1,(d,true,.vec s.up.length d c (ys.length+1))::fr,s.put s.up.length d c (.vec e (y::ys))⟩,[(s.up.length,d),(s.up.length,d+MO)]):=by unfold adV;simp[I9,h]
theorem BEA{k:Nat}(h:k<=1000)(a0 a1 a2 a3 a4:Int):B5 cw 206 k [[i a0,i a1,i a2,i a3,i a4]]=true:=by rw[BZ (by simp) (by simp)];simp[maxLen];omega
def rv(k γ:Nat):List (List V)->V
 |[]=>.nil
 |e::es=>.vec 1 k γ (e::es).length
abbrev bxW(c:AQ)(g:Nat)(v:V):A1:=.box (AD c++[v,.mp 1 51 (g+1)])
theorem AD5{l:List sP}{j:Nat}(hj:j<l.length):(encA (E4 l j)).set j (i l[j].good.1)=encA (E4 l (j+1)):=by
 apply List.ext_getElem (by simp[encA,E4]);intro p h1 h2;have hp:p<5:=by simpa [encA,E4]using h2
 rw[List.getElem_set];simp only[encA,E4,List.getElem_map,ck];by_cases e:j=p
 ·subst e;rw[if_pos rfl,if_pos (by omega),bj,bq hj];rfl
 ·rw[if_neg e];by_cases hlt:p<j
  ·rw[if_pos hlt,if_pos (by omega)]
  ·rw[if_neg hlt,if_neg (by omega)]
theorem AD6{l:List sP}{j:Nat}(hj:j<l.length)(h5:l.length<=5):(encA (E4 l j)).take j++i l[j].good.1::(encA (E4 l j)).drop (j+1)=encA (E4 l (j+1)):=by rw[<-AD5 hj,List.set_eq_take_append_cons_drop,if_pos (by simp[encA,E4];omega)]
theorem mQ(l:List sP)(j:Nat):(encA (E4 l j)).length=5:=by simp[encA,E4]
theorem APE(B:AA)(g x γ:Nat)(X1 X53:A1)(S:List (List V))(l:List sP)(h5:l.length<=5)(v54 v55 v56:V):∀(e j y:Nat),j+e=l.length->x<y->∃(y':Nat),y<=y'/\∀n m,e<m->BA (AE cw ann kn (n+300) 85) TW (ann 85 (BU TW)) m ⟨y,[(7,true,.ptr 1 53 (g+2) 0),(10,true,.ptr 1 10 x 0),(54,true,v54),(55,true,v55),(56,true,v56),(60,true,.list false (l.map Q8)),(61,true,i l.length),(62,true,i j)],⟨[B],(1,g,X1)::(10,x,.box (encA (E4 l j)))::(51,g+1,.map [])::(53,g+2,X53)::pl 80 γ 206 S⟩⟩ =
  some (.exit 2,⟨y',[(63,true,.bool false),(7,true,.ptr 1 53 (g+2) 0),(10,true,.ptr 1 10 x 0),(54,true,v54),(55,true,v55),(56,true,v56),(60,true,.list false (l.map Q8)),(61,true,i l.length),(62,true,i l.length)],⟨[B],(1,g,X1)::(10,x,.box (encA (E4 l l.length)))::(51,g+1,.map [])::(53,g+2,X53)::pl 80 γ 206 S⟩⟩)
 |0,j,y,hm,hc=>by
  obtain rfl:j=l.length:=by omega
  refine⟨y,bm _,fun n m hm=>?_⟩;obtain⟨m,rfl⟩:=qNz m (by omega);generalize encA (E4 l l.length)=A;rw[AB];cases S<;>simp
 |e+1,j,y,hm,hc=>by
  have hj:j<l.length:=by omega
  have hw:=BJ (k:=j) (by omega);have hset:=AD6 hj h5;have hlen:=mQ l j;obtain⟨y',hy,ih⟩:=APE B g x γ X1 X53 S l h5 v54 v55 v56 e (j+1) (y+1) (by omega) (by omega);refine⟨y',by omega,fun n m hm=>?_⟩;obtain⟨m,rfl⟩:=qNz m (by omega);have ih:=ih n m (by omega);rw[<-hset]at ih;generalize encA (E4 l l.length)=fin at *;generalize encA (E4 l j)=A at *;rw[AB];have hj5:(j:Int)<5:=by omega
  cases S<;>(simp at ih;simp[hj,hw,hj5,hlen,Q8,show j<=4 by omega,show x<y+1 by omega,ih])
theorem APF(c:AQ)(B:AA)(g:Nat)(R:List (List sP))(hR:R.length<=100)(hRl:∀l∈R,l.length<=5):∀(e k x γ:Nat),k+e=R.length->g+2<x->∃(x' γ':Nat),x<=x'/\∀n m,e<m->BA (AE cw ann kn (n+600) 85) TX (ann 85 (BU TX)) m ⟨x,[(7,true,.ptr 1 53 (g+2) 0),(54,true,.list false (R.map H5)),(55,true,i R.length),(56,true,i k)],⟨[B],(1,g,.box (AD c))::(51,g+1,.map [])::(53,g+2,bxW c g (rv 80 γ ((R.take k).map fun l=>encA (E4 l l.length))))::pl 80 γ 206 ((R.take k).map fun l=>encA (E4 l l.length))⟩⟩ =
  some (.exit 0,⟨x',[(57,true,.bool false),(7,true,.ptr 1 53 (g+2) 0),(54,true,.list false (R.map H5)),(55,true,i R.length),(56,true,i R.length)],⟨[B],(1,g,.box (AD c))::(51,g+1,.map [])::(53,g+2,bxW c g (rv 80 γ' (R.map fun l=>encA (E4 l l.length))))::pl 80 γ' 206 (R.map fun l=>encA (E4 l l.length))⟩⟩)
 |0,k,x,γ,hm,hc=>by
  obtain rfl:k=R.length:=by omega
  rw[bb];refine⟨x,γ,bm _,fun n m hm=>?_⟩;obtain⟨m,rfl⟩:=qNz m (by omega);generalize hS:R.map (fun l=>encA (E4 l l.length))=S;rw[AB];cases S<;>simp[AD,rv]
 |e+1,k,x,γ,hm,hc=>by
  have hk:k<R.length:=by omega
  have hw:=BJ (k:=k) (by omega);have hl5:=hRl R[k] (bc hk);have hst:(R.take (k+1)).map (fun l=>encA (E4 l l.length))=(R.take k).map (fun l=>encA (E4 l l.length))++[encA (E4 R[k] R[k].length)]:=by rw[bk hk,List.map_append];rfl
  have hSl:((R.take k).map fun l=>encA (E4 l l.length)).length=k:=by rw[List.length_map,bf];omega
  obtain⟨y',hy,q15⟩:=APE B g x γ (.box (AD c)) (bxW c g (rv 80 γ ((R.take k).map fun l=>encA (E4 l l.length)))) ((R.take k).map fun l=>encA (E4 l l.length)) R[k] hl5 (.list false (R.map H5)) (i R.length) (i k) R[k].length 0 (x+1) (by omega) (by omega);have q15:=fun n m=>q15 n (m+100) (by omega);have h0:encA (E4 R[k] 0)=[i 0,i 0,i 0,i 0,i 0]:=rfl;obtain⟨a0,a1,a2,a3,a4,hA⟩:=AA1 R[k] R[k].length;have hS5:∀e∈(R.take k).map (fun l=>encA (E4 l l.length)),e.length=5:=fun e he=>by obtain⟨l,_,rfl⟩:=List.mem_map.1 he;exact mQ l _
  have hp5:Nat.beq 5 1=false:=rfl;have hap:=BEA (k:=((R.take k).map fun l=>encA (E4 l l.length)).length) (by omega) a0 a1 a2 a3 a4;obtain⟨x',γ',hxx,ih⟩:=APF c B g R hR hRl e (k+1) (y'+1) y' (by omega) (by omega);refine⟨x',γ',by omega,fun n m hm=>?_⟩;obtain⟨m,rfl⟩:=qNz m (by omega);have ih:=ih n m (by omega);rw[hst,hA]at ih;rw[hA,h0]at q15;generalize (R.take k).map (fun l=>encA (E4 l l.length))=S at *;generalize R.map (fun l=>encA (E4 l l.length))=fin at *;rw[AB];cases S with
  |nil=>
   simp[AD,rv,bxW]at ih q15 hap
   simp[AD,rv,bxW,hk,hw,H5,q15,ih,hap,MO,ZF,show g+2<y'+1 by omega,CI,GF,B7,JO,hp5]
  |cons s S=>
   have hs5:=hS5 s (by simp)
   have hS6:∀e∈S,e.length=5:=fun e he=>hS5 e (by simp[he])
   have hS7:=eq_true hS6
   simp[AD,rv,bxW]at ih q15 hap
   simp[AD,rv,bxW,hk,hw,H5,q15,ih,hap,MO,show g+2<y'+1 by omega,CI,GF,B7,JO,hp5,hs5,hS7]
theorem BEB(st:XS):LJ [911051,912053] st=(fun s=>fO 53 (MU 0 s) 911 [] s) (fO 51 (MU 0 st) 910 [] st):=rfl
def A0(c:AQ):List (List Int):=(FA c.beach (FC c.beach) c.plan c.beach.rows.toNat).map fun l=>E4 l l.length
def DZ(c:AQ)(γ:Nat):List V:=AD c++[.list false ((A0 c).map encA),.mp 0 910 γ]
theorem wR(c:AQ)(hc:BN c)(B:AA)(hB:∀t:St,1<=t.up.length->AH t B=B)(g d:Nat)(fr:Fr):∃g',g+3<=g'/\∀n,GW (BT cw ann kn (n+8000)) (some d) ⟨g,fr,⟨[],B⟩⟩ 71 [.agg (AD c)] =
  some ⟨g',(d,true,.tup [.ptr 0 911 (g+2) 0,i 0])::fr,⟨[],(911,g+2,.box (DZ c (g+1)))::(910,g+1,.map [])::B⟩⟩:=by
 have hb:=hc.be
 have hbe:=ZD c
 rw[if_neg (by simp[O7 hb]),if_neg (by simp[hc.pl]),if_neg hc.tr]at hbe
 have q1:=fun n=>sE n c.beach hb.w40 c.plan
 rw[hbe]at q1
 have hb1:(H6 c.beach c.plan).1=FA c.beach (FC c.beach) c.plan c.beach.rows.toNat:=by unfold H6;rw[if_pos (O7 hb),if_pos hc.pl,if_neg fun hh=>hc.tr (M2.1 hh)]
 have hro:=hb.ro
 have hpc:=hb.pl
 have hbl:(FA c.beach (FC c.beach) c.plan c.beach.rows.toNat).length=c.beach.rows.toNat:=by simp[FA]
 have hbn:FA c.beach (FC c.beach) c.plan c.beach.rows.toNat≠[]:=fun e=>by rw[e]at hbl;simp at hbl;omega
 have hb5:∀l∈FA c.beach (FC c.beach) c.plan c.beach.rows.toNat,l.length<=5:=fun l hl=>by obtain⟨r,_,rfl⟩:=List.mem_map.1 hl;simp[N5];omega
 rw[hb1,slX hbn]at q1
 have hfl:=hc.fl
 have hch:=hc.ch
 have h3':¬(3:Int)<(c.fams.length:Int):=by omega
 have qa:=fun n=>APB n 200 121 K2 c.fams (by omega) (fun n f _=>wQ n f)
 have qr:=fun n=>APA n 200 c 118 (fun l=>decide ((l.length:Int)=c.beach.places)) c.chairs (by omega) (fun n l _=>APC n c l)
 rw[bg.2 fun f hf=>by
  have:=hc.fo f hf;simp only[K2,bx,C6];exact this]at qa
 rw[bg.2 fun l hl=>decide_eq_true (hc.cr l hl)]at qr
 simp only[bz,bh]at qa qr
 unfold DZ A0
 generalize FA c.beach (FC c.beach) c.plan c.beach.rows.toNat=R at *
 obtain⟨g',γ',hg',q11⟩:=APF c B g R (by omega) hb5 R.length 0 (g+3) 0 (by omega) (by omega)
 have q11:=fun n m=>q11 n (m+100) (by omega)
 refine⟨g',by omega,fun n=>?_⟩
 have hS:(R.map fun l=>E4 l l.length).map encA=R.map fun l=>encA (E4 l l.length):=by rw[List.map_map];rfl
 rw[hS]
 obtain⟨s0,S,hSS⟩:∃s0 S,R.map (fun l=>encA (E4 l l.length))=s0::S:=List.exists_cons_of_ne_nil (fun e:R.map (fun l=>encA (E4 l l.length))=[]=>hbn (List.map_eq_nil_iff.1 e))
 rw[hSS]at q11|-
 rw[zY Tryz.func71 b71 rfl (by simp)]
 simp only[AC,AD,List.take_zero,List.map_nil]at q1 qr qa q11|-
 simp[rv,bxW,AD]at q11
 simp[c71,AF,h3',q1,qr,qa,hch,AS,A6,AU,hB,q11,bz,BEB,WA,V9,KF,fL,QA,ME,QB,MF,MG,MH,QC,WB,GN,HK,QD,II]
theorem wS(c:AQ)(k γ:Nat)(t:St):AH t [(k,γ,.box (AD c))]=[(k,γ,.box (AD c))]:=by simp[AD]
theorem YT{c:AQ}{k:Nat}(h:k<c.fams.length):ED c k=c.fams[k]:=by unfold ED;rw[bj,bq h];rfl
theorem A2U(n:Nat)(c:AQ)(a b:Nat)(ha:a<c.fams.length)(hb:b<c.fams.length):AY cw kn (AE cw ann kn (n+300)) 173 [.agg (AD c),i a,i b]=some (.bool (JT c a b)):=by
 rw[AN rfl,AO Tryz.func173 BFN rfl (by simp[AD,AS,A6,AU])];unfold JT;rw[YT ha,YT hb];have e:decide ((a:Int)=(b:Int))=decide (a=b):=decide_eq_decide.2 (by omega);have e2:decide (a≠b)=!decide (a=b):=by simp
 rw[e2];generalize decide (a=b)=z at *;rcases hF1:c.fams[a]with⟨s1,g1,d1,h1⟩;rcases hF2:c.fams[b]with⟨s2,g2,d2,h2⟩;simp only[AD];have p1:Nat.beq 4 1=false:=rfl;cases z<;>cases d1<;>cases h1<;>cases d2<;>cases h2<;>simp[A5C,AF,e,ha,hb,hF1,hF2,AU,CI,GF,B7,MP,JO,MO,p1]
theorem A2V(n:Nat)(c:AQ)(x:Sp)(h1:0<=c.beach.rows/\c.beach.rows<=1000)(h2:0<=c.beach.places/\c.beach.places<=1000)(h3:0<=x.size/\x.size<=1000):AY cw kn (AE cw ann kn (n+300)) 136 [.agg (AD c),.agg (AP x)]=some (.bool (C4 c x)):=by rw[AN rfl,AO Tryz.func136 BFO rfl (by simp[AD,AS,A6,AU,AP])];have w1:IntKind.i64.wrap (c.beach.rows-1)=c.beach.rows-1:=AW (by omega) (by omega);have w2:IntKind.i64.wrap (c.beach.places-x.size)=c.beach.places-x.size:=AW (by omega) (by omega);have q1:=fun n=>SW n x.row 0 (c.beach.rows-1);have q2:=fun n=>SW n x.place 0 (c.beach.places-x.size);unfold C4;generalize F1 x.row 0 (c.beach.rows-1)=z1 at *;generalize F1 x.place 0 (c.beach.places-x.size)=z2 at *;simp only[AD];cases z1<;>cases z2<;>simp[A5D,AF,AP,w1,w2,q1,q2]
theorem AD7(n:Nat)(c:AQ)(x y:Sp)(hx:x.fam<c.fams.length)(hy:y.fam<c.fams.length)(p1:-1000<=x.place/\x.place<=1000)(p2:-1000<=y.place/\y.place<=1000)(s1:0<=x.size/\x.size<=1000)(s2:0<=y.size/\y.size<=1000):AY cw kn (AE cw ann kn (n+400)) 139 [.agg (AD c),.agg (AP x),.agg (AP y)]=some (.bool (E3 c x y)):=by
 rw[AN rfl,AO Tryz.func139 BFP rfl (by simp[AD,AS,A6,AU,AP])];have qm:=fun n=>A2U n c x.fam y.fam hx hy;have w1:IntKind.i64.wrap (x.place-y.place)=x.place-y.place:=AW (by omega) (by omega);have w2:IntKind.i64.wrap (x.place-y.place-y.size)=x.place-y.place-y.size:=AW (by omega) (by omega);have w3:IntKind.i64.wrap (y.place-x.place)=y.place-x.place:=AW (by omega) (by omega);have w4:IntKind.i64.wrap (y.place-x.place-x.size)=y.place-x.place-x.size:=AW (by omega) (by omega);unfold E3;by_cases hr:x.row=y.row
 ·rw[show decide (x.row≠y.row)=false from decide_eq_false (by simpa using hr),Bool.false_or];have e:jH x y=(if x.place-y.place-y.size<y.place-x.place-x.size then y.place-x.place-x.size else x.place-y.place-y.size):=by unfold jH;split<;>omega
  generalize JT c x.fam y.fam=z at *;generalize jH x y=m at *;by_cases h0:0<m
  ·simp only[AD]at qm|-;simp[AFA,AF,AP,w1,w2,w3,w4,hr,<-e,h0]
  ·by_cases h1:m=0
   ·simp only[AD]at qm|-;cases z<;>simp[AFA,AF,AP,AS,A6,AU,w1,w2,w3,w4,qm,hr,<-e,h1]
   ·simp only[AD]at qm|-;simp[AFA,AF,AP,w1,w2,w3,w4,hr,<-e,h0,h1]
 ·rw[show decide (x.row≠y.row)=true from decide_eq_true hr,Bool.true_or];simp only[AD];simp[AFA,AF,AP,hr]
theorem ZG(l:List Bool){j:Nat}(hj:j<l.length):(l.take (j+1)).count true=(l.take j).count true+(if l[j]=true then 1 else 0):=by rw[bk hj,List.count_append];congr 1;cases l[j]<;>rfl
theorem A2W(cs:List (List Bool))(l:List Bool)(hl:l.length<=100)(N r c:Nat)(hN:N<=100000)(X1:A1):∀(d j:Nat),j+d=l.length->∀n m,d<m->BA (AE cw ann kn (n+200) 26) TY (ann 26 (BU TY)) m ⟨c,[(2,true,i ((N+(l.take j).count true:Nat):Int)),(8,true,.list false (cs.map AS)),(9,true,i cs.length),(10,true,i r),(14,true,lb l),(15,true,i l.length),(16,true,i j)],⟨[],[(1,0,X1)]⟩⟩ =
  some (.exit 2,⟨c,[(17,true,.bool false),(2,true,i ((N+l.count true:Nat):Int)),(8,true,.list false (cs.map AS)),(9,true,i cs.length),(10,true,i r),(14,true,lb l),(15,true,i l.length),(16,true,i l.length)],⟨[],[(1,0,X1)]⟩⟩)
 |0,j,hd,n,m+1,hm=>by
  obtain rfl:j=l.length:=by omega
  rw[bb,AB];simp
 |d+1,j,hd,n,m+1,hm=>by
  have hj:j<l.length:=by omega
  have hw:=BJ (k:=j) (by omega);have ih:=A2W cs l hl N r c hN X1 d (j+1) (by omega) n m (by omega);rw[ZG l hj]at ih;have hcl:(l.take j).count true<=100:=by have:=bp (a:=true) (l:=l.take j);rw[bf]at this;omega
  generalize (l.take j).count true=C at *;have hwC:IntKind.i64.wrap (((N+C:Nat):Int)+1)=((N+(C+1):Nat):Int):=by rw[AW (by omega) (by omega)];omega
  have hwC2:IntKind.i64.wrap ((N:Int)+(C:Int)+1)=((N:Int)+((C:Int)+1)):=by rw[AW (by omega) (by omega)];omega
  generalize l.count true=T at *;rw[AB];cases hz:l[j]with
  |true=>
   rw[hz,if_pos rfl]at ih
   simp at ih
   simp[hj,hw,hz,A6,hwC2,ih]
  |false=>
   rw[hz,if_neg (by decide),Nat.add_zero]at ih
   simp at ih
   simp[hj,hw,hz,A6,ih]
theorem A2X(cs:List (List Bool))(hl:cs.length<=100)(hr:∀l∈cs,l.length<=100)(c:Nat)(X1:A1):∀(d j N:Nat),j+d=cs.length->N<=100*j->∀n m,d<m->BA (AE cw ann kn (n+400) 26) TZ (ann 26 (BU TZ)) m ⟨c,[(2,true,i N),(8,true,.list false (cs.map AS)),(9,true,i cs.length),(10,true,i j)],⟨[],[(1,0,X1)]⟩⟩ =
  some (.exit 0,⟨c,[(11,true,.bool false),(2,true,i ((N+((cs.drop j).map fun l=>l.count true).sum:Nat):Int)),(8,true,.list false (cs.map AS)),(9,true,i cs.length),(10,true,i cs.length)],⟨[],[(1,0,X1)]⟩⟩)
 |0,j,N,hd,hN,n,m+1,hm=>by
  obtain rfl:j=cs.length:=by omega
  rw[AB];simp
 |d+1,j,N,hd,hN,n,m+1,hm=>by
  have hj:j<cs.length:=by omega
  have hw:=BJ (k:=j) (by omega);have hlj:=hr cs[j] (bc hj);have q:=fun n m=>A2W cs cs[j] hlj N j c (by omega) X1 cs[j].length 0 (by omega) n (m+101) (by omega);have hcl:=bp (a:=true) (l:=cs[j]);have ih:=A2X cs hl hr c X1 d (j+1) (N+cs[j].count true) (by omega) (by omega) n m (by omega);have hs:N+cs[j].count true+((cs.drop (j+1)).map fun l=>l.count true).sum=N+((cs.drop j).map fun l=>l.count true).sum:=by rw[List.drop_eq_getElem_cons hj,List.map_cons,List.sum_cons];omega
  rw[hs]at ih;generalize ((cs.drop j).map fun l=>l.count true).sum=T at *;generalize cs[j].count true=C at *;simp only[List.take_zero,List.count_nil,Nat.add_zero]at q;rw[AB];simp at ih q;simp[hj,hw,AS,q,ih]
theorem wT(n:Nat)(c:AQ)(hl:c.chairs.length<=100)(hr:∀l∈c.chairs,l.length<=100):AY cw kn (AE cw ann kn (n+600)) 140 [.agg (AD c)]=some (i (CP c)):=by rw[AN rfl,AO Tryz.func140 BFQ rfl (by simp[AD,AS,A6,AU])];have q:=fun n m=>A2X c.chairs hl hr 1 (.box (AD c)) c.chairs.length 0 0 (by omega) (by omega) n (m+101) (by omega);have e:((c.chairs.drop 0).map fun l=>l.count true).sum=CP c:=rfl;rw[e,Nat.zero_add]at q;generalize CP c=T at *;simp only[AD]at q|-;simp at q;simp[A5E,AF,q]
def A2(g:Nat×Int):List V:=[i (g.1:Int),i g.2]
def B0(fs:List Q9)(out:List Int):Nat->List (Nat×Int)
 |0=>[]
 |k+1=>B0 fs out k++(if decide ((k:Int)∈out)=true then[] else[(k,(fs.getD k ⟨0,0,false,false⟩).size)])
def AK(c:AQ)(out:List Int):List (Nat×Int):=B0 c.fams out c.fams.length
theorem OR(fs:List Q9)(out:List Int):∀k,(B0 fs out k).length<=k
 |0=>bm _
 |k+1=>by have:=OR fs out k;simp only[B0,List.length_append];split<;>simp<;>omega
theorem BEC{k:Nat}{l:List (Nat×Int)}(h:k+l.length<=1000):B5 cw 151 k (l.map A2)=true:=by rw[BZ (by simp) (by simp)];simp[maxLen,A2];omega
theorem ASP(fs:List Q9)(hl:fs.length<=30)(out:List Int)(ho:out.length<=40)(X2:A1):∀(d k c γ:Nat),k+d=fs.length->∃c' γ',∀n m,d<m->BA (AE cw ann kn (n+1600) 28) ZR (ann 28 (BU ZR)) m ⟨c,[(1,true,li out),(4,true,pv 25 γ ((B0 fs out k).map A2)),(8,true,.list false (fs.map AU)),(9,true,i fs.length),(10,true,i k)],⟨[],(2,0,X2)::pl 25 γ 151 ((B0 fs out k).map A2)⟩⟩ =
  some (.exit 0,⟨c',[(11,true,.bool false),(1,true,li out),(4,true,pv 25 γ' ((B0 fs out fs.length).map A2)),(8,true,.list false (fs.map AU)),(9,true,i fs.length),(10,true,i fs.length)],⟨[],(2,0,X2)::pl 25 γ' 151 ((B0 fs out fs.length).map A2)⟩⟩)
 |0,k,c,γ,hd=>by
  obtain rfl:k=fs.length:=by omega
  refine⟨c,γ,fun n m hm=>?_⟩;obtain⟨m,rfl⟩:=qNz m (by omega);generalize B0 fs out fs.length=R;rw[AB];cases R<;>simp
 |d+1,k,c,γ,hd=>by
  have hk:k<fs.length:=by omega
  have hw:=BJ (k:=k) (by omega);have hgl:=OR fs out k;have qC:=fun n=>XI n out (k:Int) (by omega);have hg:fs.getD k ⟨0,0,false,false⟩=fs[k]:=by rw[bj,bq hk];rfl
  have hst:B0 fs out (k+1)=B0 fs out k++(if decide ((k:Int)∈out)=true then[] else[(k,fs[k].size)]):=by rw[<-hg];rfl
  have hap:=BEC (k:=(B0 fs out k).length) (l:=[(k,fs[k].size)]) (by rw[bn];omega);generalize decide ((k:Int)∈out)=z at *;generalize hfk:fs[k]=f at *;cases z with
  |true=>
   obtain⟨c',γ',ih⟩:=ASP fs hl out ho X2 d (k+1) (c+1) γ (by omega)
   refine⟨c',γ',fun n m hm=>?_⟩
   obtain⟨m,rfl⟩:=qNz m (by omega)
   have ih:=ih n m (by omega)
   rw[hst,if_pos rfl,List.append_nil]at ih
   generalize B0 fs out fs.length=fin at *
   generalize B0 fs out k=R at *
   rw[AB]
   cases R<;>(simp[A2]at ih;simp[hk,hw,hfk,AU,A2,qC,ih])
  |false=>
   obtain⟨c',γ',ih⟩:=ASP fs hl out ho X2 d (k+1) (c+2) (c+1) (by omega)
   refine⟨c',γ',fun n m hm=>?_⟩
   obtain⟨m,rfl⟩:=qNz m (by omega)
   have ih:=ih n m (by omega)
   rw[hst,if_neg (by decide)]at ih
   generalize B0 fs out fs.length=fin at *
   generalize B0 fs out k=R at *
   rw[AB]
   cases R with
   |nil=>simp[A2,pv]at ih hap;simp[hk,hw,hfk,AU,qC,hap,ih,pv]
   |cons r R=>simp[A2]at ih hap;simp[hk,hw,hfk,AU,A2,qC,hap,ih]
theorem wU(n:Nat)(c:AQ)(hl:c.fams.length<=30)(out:List Int)(ho:out.length<=40):AY cw kn (AE cw ann kn (n+2000)) 92 [.agg (AD c),li out]=some (sl ((AK c out).map A2)):=by
 rw[AN rfl,AO Tryz.func92 b92 rfl (by simp[AD,AS,A6,AU])];obtain⟨c',γ',q⟩:=ASP c.fams hl out ho (.box (AD c)) c.fams.length 0 1 0 (by omega);have q:=fun n m=>q n (m+100) (by omega);have e:B0 c.fams out c.fams.length=AK c out:=rfl;rw[e,show B0 c.fams out 0=[] from rfl]at q;generalize hG:AK c out=G at *;have hcl:(G.map A2).all (fun e=>e.all (AG 8))=true:=by simp[A2]
 generalize G.map A2=R at *;simp only[AD,List.map_nil]at q|-;simp at q;simp[c92,AF,q];exact fun e he v hv=>bg.1 (bg.1 hcl e he) v hv
def l7:Option (Nat×List V)->AA
 |none=>[]
 |some (γ,cs)=>[(7,γ,.box cs)]
theorem AD8{s:St}(l:List Sp){j:Nat}(hj:j<=l.length):CR cw s 120 (.list false (l.map AP)) none (some (i j)) none=some (.list false ((l.map AP).take j)):=by have:=dZ (P:=cw) (s:=s) (T:=120) (e:=153) (es:=l.map AP) (h:=(j:Int)) (b:=false) (by kernel_rfl) (by simp) (by omega) (by rw[List.length_map];omega);simpa using this
theorem AA2(n:Nat)(c:AQ)(x:Sp)(l:List Sp)(hl:l.length<=10)(hx:x.fam<c.fams.length/\(0<=x.size/\x.size<=1000)/\-1000<=x.place/\x.place<=1000)(hy:∀y∈l,y.fam<c.fams.length/\(0<=y.size/\y.size<=1000)/\-1000<=y.place/\y.place<=1000)(g d:Nat)(fr:Fr):∃g',g+1<=g'/\GW (BT cw ann kn (n+900)) (some d) ⟨g+1,fr,⟨[],[(2,0,.box (AD c)),(7,g,.box (AP x))]⟩⟩ 137 [.list false (l.map AP),.fn 138 [] [.ptr 0 2 0 0,.ptr 0 7 g 0]] =
  some ⟨g',(d,true,.bool (l.all (E3 c x)))::fr,⟨[],[(2,0,.box (AD c)),(7,g,.box (AP x))]⟩⟩:=by
 obtain⟨c',h1,q⟩:=ASN n 600 0 (fun _=>[]) (fun _=>[(2,0,.box (AD c)),(7,g,.box (AP x))]) (by simp) (fun _=>True) 138 [.ptr 0 2 0 0,.ptr 0 7 g 0] (by simp) (by simp) (fun (_:Unit) y=>E3 c x y) (fun _ _=>()) l (by omega) (by simp[AD,AP]) (by
   intro t γ ht;obtain⟨up,loc⟩:=t;have h0:¬0=up.length:=by simp at ht;omega
   simp[h0]) (g+1) (by
   intro n c1 γ fr s y hc hs hm;refine⟨fun h=>trivial,c1+1,by omega,?_⟩;obtain⟨y1,y2,y3⟩:=hy y hm;have qa:=fun n=>AD7 n c x y hx.1 y1 hx.2.2 y3 hx.2.1 y2;simp only[List.nil_append,List.cons_append];rw[A9 Tryz.func138 b138 rfl (by simp)];generalize E3 c x y=z at *;simp only[AD,AP]at qa |-;simp[A5F,AF,AS,A6,AU,qa]) d fr () trivial
 rw[FJ]at q
 have hn:=J6 (E3 c x) l
 have e:n+600+300=n+900:=by omega
 rw[e]at q
 simp only at q
 rw[hn]at q
 exact⟨c',h1,q⟩
theorem A2Y(n:Nat)(c:AQ)(hc:BN c)(l:List Sp)(hl:l.length<=10)(hs:∀x∈l,x.fam<c.fams.length/\1<=x.size/\x.size<=4):∀(d j g:Nat) (o:Option (Nat×List V)),j+d=l.length->0<g->D0 c [] (l.take j)=true->∃g' o',∀m,d<m->BA (AE cw ann kn (n+1200) 37) T1 (ann 37 (BU T1)) m ⟨g,[(1,true,.list false (l.map AP)),(2,true,.ptr 0 2 0 0),(5,true,i (EE (l.take j))),(8,true,.list false (l.map AP)),(9,true,i l.length),(10,true,i j)],⟨[],(2,0,.box (AD c))::l7 o⟩⟩ =
  bif D0 c [] l then some (.exit 0,⟨g',[(11,true,.bool false),(1,true,.list false (l.map AP)),(2,true,.ptr 0 2 0 0),(5,true,i (EE l)),(8,true,.list false (l.map AP)),(9,true,i l.length),(10,true,i l.length)],⟨[],(2,0,.box (AD c))::l7 o'⟩⟩) else some (.ret,⟨g',[(4,true,.bool false)],⟨[],[]⟩⟩)
 |0,j,g,o,hd,hg,hok=>by
  obtain rfl:j=l.length:=by omega
  rw[bb]at hok|-;refine⟨g,o,fun m hm=>?_⟩;obtain⟨m,rfl⟩:=qNz m (by omega);rw[hok,AB];rcases o with _|⟨γ,cs⟩<;>simp[AD,l7]
 |d+1,j,g,o,hd,hg,hok=>by
  have hj:j<l.length:=by omega
  have hw:=BJ (k:=j) (by omega);have hro:=hc.be.ro;have hpl:=hc.be.pl;obtain⟨x1,x2⟩:=hs l[j] (bc hj);have hps:=V0 (l.take j) fun y hy=>by have:=(hs y (cj hy)).2;omega
  have htl:(l.take j).length<=10:=by rw[bf];omega
  have hwp:IntKind.i64.wrap (EE (l.take j)+l[j].size)=EE (l.take j)+l[j].size:=AW (by omega) (by omega);have qf:=fun n=>A2V n c l[j] (by omega) (by omega) (by omega);have ht:=mH c l hj;rw[hok,Bool.true_and]at ht;cases hf:C4 c l[j]with
  |false=>
   rw[hf]at qf
   rw[hf,Bool.false_and]at ht
   have hno:=ZA c l (j+1) ht
   simp only[AD,AP]at qf
   refine⟨g+1,none,fun m hm=>?_⟩
   obtain⟨m,rfl⟩:=qNz m (by omega)
   rw[hno,AB]
   simp only[AD]
   rcases o with _|⟨γ,cs⟩<;>simp[hj,hwp,AP,AS,A6,AU,qf,l7]
  |true=>
   rw[hf]at qf
   rw[hf,Bool.true_and]at ht
   have hfits:=K3 c (l.take j) [] hok
   have hfx:(0<=l[j].row/\l[j].row<=c.beach.rows-1)/\0<=l[j].place/\l[j].place<=c.beach.places-l[j].size:=by simpa only[C4,bx,C6]using hf
   have hyy:∀y∈l.take j,y.fam<c.fams.length/\(0<=y.size/\y.size<=1000)/\-1000<=y.place/\y.place<=1000:=fun y hy=>by have h1:=hs y (cj hy);have h2:=hfits y hy;simp only[C4,bx,C6]at h2;exact⟨h1.1,by omega,by omega⟩
   obtain⟨g1,hg1,qa⟩:=AA2 (n+292) c l[j] (l.take j) htl ⟨x1,by omega,by omega⟩ hyy g 29 [(28,true,.fn 138 [] [.ptr 0 2 0 0,.ptr 0 7 g 0]),(27,true,.list false ((l.take j).map AP)),(26,true,i j),(25,true,.list false (l.map AP)),(24,true,.bool false),(23,true,.bool false),(22,true,.bool true),(21,true,.agg (AP l[j])),(20,true,.agg (AD c)),(1,true,.list false (l.map AP)),(2,true,.ptr 0 2 0 0),(5,true,i (EE (l.take j)+l[j].size)),(6,true,i j),(7,true,.ptr 0 7 g 0),(8,true,.list false (l.map AP)),(9,true,i l.length),(10,true,i j)]
   have qsl:=fun s=>AD8 (s:=s) l (Nat.le_of_lt hj)
   rw[List.map_take]at qa
   simp only[AD,AP,bz,bh]at qf qa
   cases hz:(l.take j).all (E3 c l[j])with
   |false=>
    rw[hz]at ht qa
    have hno:=ZA c l (j+1) ht
    refine⟨g1,none,fun m hm=>?_⟩
    obtain⟨m,rfl⟩:=qNz m (by omega)
    rw[hno,AB]
    simp only[AD]
    rcases o with _|⟨γ,cs⟩<;>simp[hj,hwp,AP,AS,A6,AU,qf,l7,qsl,qa]
   |true=>
    rw[hz]at ht qa
    obtain⟨g',o',ih⟩:=A2Y n c hc l hl hs d (j+1) g1 (some (g,AP l[j])) (by omega) (by omega) ht
    refine⟨g',o',fun m hm=>?_⟩
    obtain⟨m,rfl⟩:=qNz m (by omega)
    have ih:=ih m (by omega)
    rw[mI l hj]at ih
    generalize D0 c [] l=Z at *
    generalize EE l=PL at *
    rw[AB]
    simp only[AD,AP,l7]at ih|-
    simp at ih
    rcases o with _|⟨γ,cs⟩<;>simp[hj,hw,hwp,AP,AS,A6,AU,qf,qsl,qa,ih]
theorem AKL(n:Nat)(c:AQ)(hc:BN c)(l:List Sp)(hl:l.length<=10)(hs:∀x∈l,x.fam<c.fams.length/\1<=x.size/\x.size<=4):AY cw kn (AE cw ann kn (n+1500)) 109 [.agg (AD c),.list false (l.map AP)]=some (.bool (HF c l)):=by
 rw[AN rfl,AO Tryz.func109 BFR rfl (by simp[AD,AS,A6,AU,AP])];obtain⟨g',o',q⟩:=A2Y (n+294) c hc l hl hs l.length 0 1 none (by omega) (by omega) rfl;have q:=q (n+1494) (by omega);have hro:=hc.be.ro;have hpl:=hc.be.pl;have hch:=hc.ch;have qc:=fun n=>wT n c (by omega) (fun l hl=>by have:=hc.cr l hl;omega);unfold HF;have hps:=V0 l fun y hy=>by have:=(hs y hy).2;omega
 rw[show EE (l.take 0)=0 from rfl]at q;generalize D0 c [] l=Z at *;generalize EE l=PL at *;generalize CP c=CN at *;generalize e1:decide (PL<=(CN:Int))=z1;simp only[AD,l7,bz,bh]at q qc|-;simp at q;cases Z with
 |false=>
  simp at q
  simp[ATM,AF,q]
 |true=>
  simp at q
  rcases o' with _|⟨γ,cs⟩<;>simp at q<;>simp[ATM,AF,q,AS,A6,AU,qc,e1]
end Go.Proofs.Tryz.Op
namespace Go.Wind
theorem YG{c:AQ}{ss:List (Int×Int)}(h:ss.length=c.fams.length){k:Nat}(hk:k<c.fams.length):(A5 c ss).take (k+1)=(A5 c ss).take k++[⟨k,c.fams[k].size,(ss[k]'(by omega)).1,(ss[k]'(by omega)).2⟩]:=by have hl:(A5 c ss).length=c.fams.length:=DL h;rw[bk (by omega)];have:=I0 (k:=0) (fs:=c.fams) (ss:=ss) k hk (by omega) (by show k<(A5 c ss).length;omega);rw[Nat.zero_add]at this;exact congrArg (fun y=>(A5 c ss).take k++[y]) this
end Go.Wind
namespace Go.Proofs.Tryz.Op
theorem OS(fs:List Q9):∀k,k<=fs.length->B0 fs [] k=(cq k).map fun j=>(j,(fs.getD j ⟨0,0,false,false⟩).size)
 |0,_=>rfl
 |k+1,h=>by rw[B0,OS fs k (by omega),List.range_succ,List.map_append];simp
theorem fW{c:AQ}{k:Nat}(hk:k<c.fams.length)(h:k<(AK c []).length):(AK c [])[k]=(k,c.fams[k].size):=by have e:AK c []=(cq c.fams.length).map fun j=>(j,(c.fams.getD j ⟨0,0,false,false⟩).size):=OS c.fams _ (bm _);simp only[e,List.getElem_map,ck,bj,bq hk];rfl
theorem CL(c:AQ):(AK c []).length=c.fams.length:=by have e:AK c []=(cq c.fams.length).map fun j=>(j,(c.fams.getD j ⟨0,0,false,false⟩).size):=OS c.fams _ (bm _);rw[e];simp
theorem BED{k:Nat}{l:List Sp}(h:k+l.length<=1000):B5 cw 153 k (l.map AP)=true:=by rw[BZ (by simp) (by simp)];simp[maxLen,AP];omega
theorem A2Z(c:AQ)(hf:c.fams.length<=10)(ss:List (Int×Int))(hs:ss.length=c.fams.length)(X2:A1):∀(d k g γ:Nat),k+d=c.fams.length->∃g' γ',∀n m,d<m->BA (AE cw ann kn (n+1200) 37) ZS (ann 37 (BU ZS)) m ⟨g,[(1,true,.list false (ss.map AJ)),(2,true,.ptr 0 2 0 0),(6,true,pv 31 γ (((A5 c ss).take k).map AP)),(16,true,.list false ((AK c []).map A2)),(17,true,i c.fams.length),(18,true,i k)],⟨[],(2,0,X2)::pl 31 γ 153 (((A5 c ss).take k).map AP)⟩⟩ =
  some (.exit 0,⟨g',[(19,true,.bool false),(1,true,.list false (ss.map AJ)),(2,true,.ptr 0 2 0 0),(6,true,pv 31 γ' ((A5 c ss).map AP)),(16,true,.list false ((AK c []).map A2)),(17,true,i c.fams.length),(18,true,i c.fams.length)],⟨[],(2,0,X2)::pl 31 γ' 153 ((A5 c ss).map AP)⟩⟩)
 |0,k,g,γ,hd=>by
  obtain rfl:k=c.fams.length:=by omega
  have hl:(A5 c ss).length=c.fams.length:=DL hs;rw[<-hl,bb,hl];refine⟨g,γ,fun n m hm=>?_⟩;obtain⟨m,rfl⟩:=qNz m (by omega);generalize A5 c ss=R;rw[AB];cases R<;>simp
 |d+1,k,g,γ,hd=>by
  have hk:k<c.fams.length:=by omega
  have hks:k<ss.length:=by omega
  have hw:=BJ (k:=k) (by omega);have hgk:k<(AK c []).length:=by rw[CL];omega
  have hg:=fW hk hgk;have hst:=YG hs hk;have hl:(A5 c ss).length=c.fams.length:=DL hs;have htl:((A5 c ss).take k).length=k:=by rw[bf];omega
  have hap:=BED (k:=((A5 c ss).take k).length) (l:=[⟨k,c.fams[k].size,ss[k].1,ss[k].2⟩]) (by rw[bn];omega);obtain⟨g',γ',ih⟩:=A2Z c hf ss hs X2 d (k+1) (g+2) (g+1) (by omega);refine⟨g',γ',fun n m hm=>?_⟩;obtain⟨m,rfl⟩:=qNz m (by omega);have ih:=ih n m (by omega);rw[hst]at ih;generalize A5 c ss=fin at *;generalize fin.take k=R at *;generalize hG:AK c []=G at *;generalize c.fams[k].size=sz at *;rw[AB];cases R with
  |nil=>simp[AP,pv,pl]at ih hap;simp[hk,hks,hgk,hg,hw,A2,AJ,hap,ih,pv,pl,MO,ZF,CI,B7,show Nat.beq 2 1=false from rfl]
  |cons r R=>simp[AP,pv,pl]at ih hap;simp[hk,hks,hgk,hg,hw,A2,AP,AJ,hap,ih,pv,pl,MO,CI,B7,show Nat.beq 2 1=false from rfl]
def OT(c:AQ)(ss:List (Int×Int)):List Sp×Bool:=if ss.length=c.fams.length then(A5 c ss,HF c (A5 c ss)) else([],false)
theorem OU{c:AQ}(hc:BN c){ss:List (Int×Int)}(hs:ss.length=c.fams.length):∀x∈A5 c ss,x.fam<c.fams.length/\1<=x.size/\x.size<=4:=fun x hx=>by have hl:(A5 c ss).length=c.fams.length:=DL hs;obtain⟨j,hj,rfl⟩:=List.getElem_of_mem hx;have:=I0 (k:=0) (fs:=c.fams) (ss:=ss) j (by omega) (by omega) hj;have e:(A5 c ss)[j]=⟨0+j,(c.fams[j]'(by omega)).size,(ss[j]'(by omega)).1,(ss[j]'(by omega)).2⟩:=this;rw[e];have hf:=hc.fo _ (bc (show j<c.fams.length by omega));exact⟨by simp only;omega,by simp only;omega,by simp only;omega⟩
theorem ASQ(n:Nat)(c:AQ)(hc:BN c)(ss:List (Int×Int)):AY cw kn (AE cw ann kn (n+2200)) 65 [.agg (AD c),.list false (ss.map AJ)]=some (.tup [sl ((OT c ss).1.map AP),.bool (OT c ss).2]):=by
 rw[AN rfl,AO Tryz.func65 b65 rfl (by simp[AD,AS,A6,AU])];have slnil:sl ([]:List (List V))=.nil:=rfl;unfold OT;by_cases hs:ss.length=c.fams.length
 ·rw[if_pos hs];have hfl:=hc.fl;have hl:(A5 c ss).length=c.fams.length:=DL hs;have hsI:(ss.length:Int)=c.fams.length:=by omega
  have qS:=fun n=>AKL n c hc (A5 c ss) (by omega) (OU hc hs);have qG:∀n,AY cw kn (AE cw ann kn (n+2000)) 92 [.agg (AD c),.list false []]=some (sl ((AK c []).map A2)):=fun n=>wU n c (by omega) [] (by simp);by_cases hG:AK c []=[]
  ·have h0:c.fams=[]:=bw (by rw[<-CL,hG];rfl);have hL:A5 c ss=[]:=bw (by rw[hl,h0];rfl);rw[hG]at qG;rw[hL]at qS|-;generalize HF c []=Z at *;rw[h0]at hsI;simp only[AD,h0]at qS qG|-;simp at qS qG;simp[c65,AF,slnil,qG,qS,hsI,AS,A6,AB]
  ·obtain⟨g',γ',q⟩:=A2Z c (by omega) ss hs (.box (AD c)) c.fams.length 0 1 0 (by omega);have q:=fun n m=>q n (m+100) (by omega);rw[slX hG]at qG;have gl:=CL c;rw[show(A5 c ss).take 0=[] from rfl]at q;generalize A5 c ss=L at *;generalize HF c L=Z at *;generalize AK c []=G at *;simp only[AD]at q qS qG|-;simp at q qS qG;have hLn:L≠[]:=fun e=>hG (bw (by rw[gl,<-hl,e];rfl));have hsl:=slX (f:=AP) hLn;rw[hsl];simp[c65,AF,hsl,AP,qG,qS,hsI,gl,AS,A6,AU,q]
 ·have hsI:¬(ss.length:Int)=c.fams.length:=by omega
  rw[if_neg hs];simp only[AD];simp[c65,AF,slnil,hsI]
end Go.Proofs.Tryz.Op
namespace Go.Wind
end Go.Wind
namespace Go.Proofs.Tryz.Op
theorem ZH{P:Program}{r:Operand->Option V}(T:TypeId)(x:Operand)(l h m:Option Operand):H2 P (.oth (.slice T x l h m)) r=GU (r x):=rfl
theorem M3{c:AQ}(hc:BN c){ss:List (Int×Int)}(h:D1 c ss=true):ss.length=c.fams.length/\∀x∈A5 c ss,0<=x.row/\x.row<c.beach.rows/\0<=x.place/\(1<=x.size/\x.size<=4)/\x.place+x.size<=c.beach.places:=by simp only[D1,HF,bx,decide_eq_true_eq]at h;refine⟨h.1,fun x hx=>?_⟩;have h1:=K3 c (A5 c ss) [] h.2.1 x hx;have h2:=(OU hc h.1 x hx).2;simp only[C4,bx,C6]at h1;omega
end Go.Proofs.Tryz.Op
