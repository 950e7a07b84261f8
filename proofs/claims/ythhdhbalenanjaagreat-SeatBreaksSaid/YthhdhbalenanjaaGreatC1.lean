/- Contracts: a valid family, a row of chairs. No condition. -/
import Derived.Test.YthhdhbalenanjaaGreatA1
open Go.Proofs.Tryz renaming prog->bm
open List renaming getD_eq_getElem?_getD->bj,getElem?_eq_getElem->bk,take_succ_eq_append_getElem->bq,all_eq_true->bw,getElem_mem->bz,count_le_length->bc,getElem_range->bg,range->bh
open Nat renaming le_refl->bx,add_assoc->bf
open Bool renaming and_eq_true->bb
set_option maxRecDepth 100000
set_option linter.unusedSimpArgs false
open Go Go.Pg Go.Proofs Go.Wind
namespace Go.Proofs.Tryz.Op
theorem mX(n:Nat)(x lo hi:Int):AZ bm kn (AE bm ann kn (n+50)) 163 [i x,i lo,i hi]=some (.bool (GF x lo hi)):=by rw[AN rfl,AO Tryz.func163 BFU rfl (by simp)];unfold GF;generalize e1:decide (lo<=x)=z1;generalize e2:decide (x<=hi)=z2;cases z1<;>cases z2<;>simp[A5G,AF,e1,e2]
theorem wY(n:Nat)(f:Q8):AZ bm kn (AE bm ann kn (n+200)) 121 [.agg (AS f)]=some (.bool (IB f)):=by rw[AN rfl,AO Tryz.func121 BFV rfl (by simp[AS])];have q1:=fun n=>mX n f.size 1 4;have q2:=fun n=>mX n f.good 0 5;unfold IB;generalize GF f.size 1 4=z1 at *;generalize GF f.good 0 5=z2 at *;cases z1<;>cases z2<;>simp[A5H,AF,AS,q1,q2]
theorem APS(n:Nat)(c:AM)(l:List Bool):AZ bm kn (AE bm ann kn (n+200)) 118 [.agg (AD c),lb l]=some (.bool (decide ((l.length:Int)=c.beach.places))):=by rw[AN rfl,AO Tryz.func118 BFW rfl (by simp[AD,AR,A7,AS])];generalize e1:decide ((l.length:Int)=c.beach.places)=z1;cases z1<;>simp[A5I,AF,AD,e1]
theorem M1{b:AK}:(FM b [] b.winds []).isEmpty=true↔BK b=[]:=by
 rw[List.isEmpty_iff];constructor<;>intro h<;>refine List.eq_nil_iff_forall_not_mem.2 fun t ht=>?_
 ·have:=(ZJ b t).2 (EY.1 ht);rw[h]at this;cases this
 ·have:=EY.2 ((ZJ b t).1 ht);rw[h]at this;cases this
theorem ZS(c:AM):(H5 c.beach c.plan).2=if DU c.beach≠0 then DU c.beach else if D6 c.beach c.plan=false then 2 else if BK c.beach=[] then 11 else 0:=by
 unfold H5;by_cases h:DU c.beach=0
 ·simp only[h,ne_eq,not_true_eq_false,if_true,if_false];cases hp:D6 c.beach c.plan with
  |false=>rfl
  |true=>
   simp only[if_true,Bool.true_eq_false,if_false]
   by_cases ht:BK c.beach=[]
   ·rw[if_pos (M1.2 ht),if_pos ht]
   ·rw[if_neg fun hh=>ht (M1.1 hh),if_neg ht]
 ·rw[if_neg h,if_pos h]
theorem tG(c:AM)(h40:∀l∈c.beach.winds,l.length<=40)(hch:c.chairs.length<=40)(h:¬DT c=0)(B:AA)(hB:∀t:St,1<=t.up.length->AJ t B=B)(g d:Nat)(fr:Fr):∀n,H9 (BS bm ann kn (n+8000)) (some d) ⟨g,fr,⟨[],B⟩⟩ 71 [.agg (AD c)] =
  some ⟨g+1,(d,true,.tup [.raw (.pointer none),i (DT c)])::fr,⟨[],B⟩⟩:=by
 intro n
 rw[AAE Tryz.func71 b71 rfl (by simp)]
 have q1:=fun n=>sO n c.beach h40 c.plan
 rw[ZS]at q1
 unfold DT at h|-
 by_cases h3:3<c.fams.length
 ·have h3':(3:Int)<(c.fams.length:Int):=by omega
  rw[if_pos h3];simp[c71,AF,AD,h3',hB]
 ·have h3':¬(3:Int)<(c.fams.length:Int):=by omega
  rw[if_neg h3]at h|-;have qa:=fun n=>APQ n 200 121 IB c.fams (by omega) (fun n f _=>wY n f);have qr:=fun n=>APP n 200 c 118 (fun l=>decide ((l.length:Int)=c.beach.places)) c.chairs hch (fun n l _=>APS n c l);by_cases h4:DU c.beach≠0
  ·rw[if_pos h4]at q1|-;generalize (H5 c.beach c.plan).1=R at q1;generalize DU c.beach=E at *;simp only[AC,AD]at q1|-;simp[c71,AF,h3',q1,h4,hB]
  ·rw[if_neg h4]at q1 h|-;cases h5:D6 c.beach c.plan with
   |false=>
    rw[h5,if_pos rfl]at q1
    rw[if_pos rfl]
    generalize (H5 c.beach c.plan).1=R at q1
    simp only[AC,AD]at q1|-
    simp[c71,AF,h3',q1,hB]
   |true=>
    rw[h5,if_neg (by decide)]at q1 h
    rw[if_neg (by decide)]
    by_cases h6:BK c.beach=[]
    ·rw[if_pos h6]at q1|-;generalize (H5 c.beach c.plan).1=R at q1;simp only[AC,AD]at q1|-;simp[c71,AF,h3',q1,hB]
    ·rw[if_neg h6]at q1 h|-;have hc1:(if E2 c=false then(1:Int) else if c.fams.all IB=false then 1 else 0)=1:=by
      split at h
      ·rw[if_pos (by assumption)]
      ·rw[if_neg (by assumption)];split at h
       ·rw[if_pos (by assumption)]
       ·exact absurd rfl h
     rw[hc1];simp only[bf,Nat.reduceAdd]at qa qr;generalize (H5 c.beach c.plan).1=R at q1;by_cases hl:(c.chairs.length:Int)=c.beach.rows
     ·cases hr:c.chairs.all (fun l=>decide ((l.length:Int)=c.beach.places))with
      |false=>
       rw[hr]at qr
       simp only[AC,AD]at q1 qr|-
       simp[c71,AF,h3',q1,qr,hl,hB,AR,A7,AS]
      |true=>
       rw[hr]at qr
       cases hf:c.fams.all IB with
       |true=>
        exfalso
        rw[if_neg (by simp[E2,hl,hr]),if_neg (by simp[hf])]at h
        exact h rfl
       |false=>
        rw[hf]at qa
        simp only[AC,AD]at q1 qr qa|-
        simp[c71,AF,h3',q1,qr,qa,hl,hB,AR,A7,AS]
     ·simp only[AC,AD]at q1|-;simp[c71,AF,h3',q1,hl,hB]
def E3(l:List tB)(n:Nat):List Int:=(bh 5).map fun p=>if p<n then(l.getD p ⟨0,(0,0),(0,0)⟩).good.1 else 0
def encA(l:List Int):List V:=l.map fun x=>i x
theorem AA7(l:List tB)(n:Nat):∃a0 a1 a2 a3 a4:Int,encA (E3 l n)=[i a0,i a1,i a2,i a3,i a4]:=⟨_,_,_,_,_,rfl⟩
theorem AD9{P:Program}{fr:Fr}{s:St}(e d c:Nat)(y:List V)(ys:List (List V))(h:BZ P e 0 (y::ys)=true):wE P e d c fr s .nil (y::ys)=some (⟨c+1,(d,true,.vec s.up.length d c (ys.length+1))::fr,s.put s.up.length d c (.vec e (y::ys))⟩,[(s.up.length,d),(s.up.length,d+JE)]):=by unfold wE;simp[IQ,h]
theorem BEK{k:Nat}(h:k<=1000)(a0 a1 a2 a3 a4:Int):BZ bm 206 k [[i a0,i a1,i a2,i a3,i a4]]=true:=by rw[BT (by simp) (by simp)];simp[maxLen];omega
def rv(k γ:Nat):List (List V)->V
 |[]=>.nil
 |e::es=>.vec 1 k γ (e::es).length
abbrev bxW(c:AM)(g:Nat)(v:V):A0:=.box (AD c++[v,.mp 1 51 (g+1)])
theorem AEA{l:List tB}{j:Nat}(hj:j<l.length):(encA (E3 l j)).set j (i l[j].good.1)=encA (E3 l (j+1)):=by
 apply List.ext_getElem (by simp[encA,E3]);intro p h1 h2;have hp:p<5:=by simpa [encA,E3]using h2
 rw[List.getElem_set];simp only[encA,E3,List.getElem_map,bg];by_cases e:j=p
 ·subst e;rw[if_pos rfl,if_pos (by omega),bj,bk hj];rfl
 ·rw[if_neg e];by_cases hlt:p<j
  ·rw[if_pos hlt,if_pos (by omega)]
  ·rw[if_neg hlt,if_neg (by omega)]
theorem AEB{l:List tB}{j:Nat}(hj:j<l.length)(h5:l.length<=5):(encA (E3 l j)).take j++i l[j].good.1::(encA (E3 l j)).drop (j+1)=encA (E3 l (j+1)):=by rw[<-AEA hj,List.set_eq_take_append_cons_drop,if_pos (by simp[encA,E3];omega)]
theorem mY(l:List tB)(j:Nat):(encA (E3 l j)).length=5:=by simp[encA,E3]
theorem APU(B:AA)(g x γ:Nat)(X1 X53:A0)(S:List (List V))(l:List tB)(h5:l.length<=5)(v54 v55 v56:V):∀(e j y:Nat),j+e=l.length->x<y->∃(y':Nat),y<=y'/\∀n m,e<m->A9 (AE bm ann kn (n+300) 85) TV (ann 85 (BV TV)) m ⟨y,[(7,true,.ptr 1 53 (g+2) 0),(10,true,.ptr 1 10 x 0),(54,true,v54),(55,true,v55),(56,true,v56),(60,true,.list false (l.map Q7)),(61,true,i l.length),(62,true,i j)],⟨[B],(1,g,X1)::(10,x,.box (encA (E3 l j)))::(51,g+1,.map [])::(53,g+2,X53)::pl 80 γ 206 S⟩⟩ =
  some (.exit 2,⟨y',[(63,true,.bool false),(7,true,.ptr 1 53 (g+2) 0),(10,true,.ptr 1 10 x 0),(54,true,v54),(55,true,v55),(56,true,v56),(60,true,.list false (l.map Q7)),(61,true,i l.length),(62,true,i l.length)],⟨[B],(1,g,X1)::(10,x,.box (encA (E3 l l.length)))::(51,g+1,.map [])::(53,g+2,X53)::pl 80 γ 206 S⟩⟩)
 |0,j,y,hm,hc=>by
  obtain rfl:j=l.length:=by omega
  refine⟨y,bx _,fun n m hm=>?_⟩;obtain⟨m,rfl⟩:=qNz m (by omega);generalize encA (E3 l l.length)=A;rw[AB];cases S<;>simp
 |e+1,j,y,hm,hc=>by
  have hj:j<l.length:=by omega
  have hw:=BH (k:=j) (by omega);have hset:=AEB hj h5;have hlen:=mY l j;obtain⟨y',hy,ih⟩:=APU B g x γ X1 X53 S l h5 v54 v55 v56 e (j+1) (y+1) (by omega) (by omega);refine⟨y',by omega,fun n m hm=>?_⟩;obtain⟨m,rfl⟩:=qNz m (by omega);have ih:=ih n m (by omega);rw[<-hset]at ih;generalize encA (E3 l l.length)=fin at *;generalize encA (E3 l j)=A at *;rw[AB];have hj5:(j:Int)<5:=by omega
  cases S<;>(simp at ih;simp[hj,hw,hj5,hlen,Q7,show j<=4 by omega,show x<y+1 by omega,ih])
theorem APV(c:AM)(B:AA)(g:Nat)(R:List (List tB))(hR:R.length<=100)(hRl:∀l∈R,l.length<=5):∀(e k x γ:Nat),k+e=R.length->g+2<x->∃(x' γ':Nat),x<=x'/\∀n m,e<m->A9 (AE bm ann kn (n+600) 85) TW (ann 85 (BV TW)) m ⟨x,[(7,true,.ptr 1 53 (g+2) 0),(54,true,.list false (R.map H4)),(55,true,i R.length),(56,true,i k)],⟨[B],(1,g,.box (AD c))::(51,g+1,.map [])::(53,g+2,bxW c g (rv 80 γ ((R.take k).map fun l=>encA (E3 l l.length))))::pl 80 γ 206 ((R.take k).map fun l=>encA (E3 l l.length))⟩⟩ =
  some (.exit 0,⟨x',[(57,true,.bool false),(7,true,.ptr 1 53 (g+2) 0),(54,true,.list false (R.map H4)),(55,true,i R.length),(56,true,i R.length)],⟨[B],(1,g,.box (AD c))::(51,g+1,.map [])::(53,g+2,bxW c g (rv 80 γ' (R.map fun l=>encA (E3 l l.length))))::pl 80 γ' 206 (R.map fun l=>encA (E3 l l.length))⟩⟩)
 |0,k,x,γ,hm,hc=>by
  obtain rfl:k=R.length:=by omega
  rw[List.take_length];refine⟨x,γ,bx _,fun n m hm=>?_⟩;obtain⟨m,rfl⟩:=qNz m (by omega);generalize hS:R.map (fun l=>encA (E3 l l.length))=S;rw[AB];cases S<;>simp[AD,rv]
 |e+1,k,x,γ,hm,hc=>by
  have hk:k<R.length:=by omega
  have hw:=BH (k:=k) (by omega);have hl5:=hRl R[k] (bz hk);have hst:(R.take (k+1)).map (fun l=>encA (E3 l l.length))=(R.take k).map (fun l=>encA (E3 l l.length))++[encA (E3 R[k] R[k].length)]:=by rw[bq hk,List.map_append];rfl
  have hSl:((R.take k).map fun l=>encA (E3 l l.length)).length=k:=by rw[List.length_map,List.length_take];omega
  obtain⟨y',hy,q15⟩:=APU B g x γ (.box (AD c)) (bxW c g (rv 80 γ ((R.take k).map fun l=>encA (E3 l l.length)))) ((R.take k).map fun l=>encA (E3 l l.length)) R[k] hl5 (.list false (R.map H4)) (i R.length) (i k) R[k].length 0 (x+1) (by omega) (by omega);have q15:=fun n m=>q15 n (m+100) (by omega);have h0:encA (E3 R[k] 0)=[i 0,i 0,i 0,i 0,i 0]:=rfl;obtain⟨a0,a1,a2,a3,a4,hA⟩:=AA7 R[k] R[k].length;have hS5:∀e∈(R.take k).map (fun l=>encA (E3 l l.length)),e.length=5:=fun e he=>by obtain⟨l,_,rfl⟩:=List.mem_map.1 he;exact mY l _
  have hp5:Nat.beq 5 1=false:=rfl;have hap:=BEK (k:=((R.take k).map fun l=>encA (E3 l l.length)).length) (by omega) a0 a1 a2 a3 a4;obtain⟨x',γ',hxx,ih⟩:=APV c B g R hR hRl e (k+1) (y'+1) y' (by omega) (by omega);refine⟨x',γ',by omega,fun n m hm=>?_⟩;obtain⟨m,rfl⟩:=qNz m (by omega);have ih:=ih n m (by omega);rw[hst,hA]at ih;rw[hA,h0]at q15;generalize (R.take k).map (fun l=>encA (E3 l l.length))=S at *;generalize R.map (fun l=>encA (E3 l l.length))=fin at *;rw[AB];cases S with
  |nil=>
   simp[AD,rv,bxW]at ih q15 hap
   simp[AD,rv,bxW,hk,hw,H4,q15,ih,hap,JE,AD9,show g+2<y'+1 by omega,BR,C4,BG,E7,hp5]
  |cons s S=>
   have hs5:=hS5 s (by simp)
   have hS6:∀e∈S,e.length=5:=fun e he=>hS5 e (by simp[he])
   have hS7:=eq_true hS6
   simp[AD,rv,bxW]at ih q15 hap
   simp[AD,rv,bxW,hk,hw,H4,q15,ih,hap,JE,show g+2<y'+1 by omega,BR,C4,BG,E7,hp5,hs5,hS7]
theorem BEL(st:XS):LD [911051,912053] st=(fun s=>fS 53 (MT 0 s) 911 [] s) (fS 51 (MT 0 st) 910 [] st):=rfl
def AV(c:AM):List (List Int):=(E9 c.beach (FA c.beach) c.plan c.beach.rows.toNat).map fun l=>E3 l l.length
def CQ(c:AM)(γ:Nat):List V:=AD c++[.list false ((AV c).map encA),.mp 0 910 γ]
theorem wZ(c:AM)(hc:BQ c)(B:AA)(hB:∀t:St,1<=t.up.length->AJ t B=B)(g d:Nat)(fr:Fr):∃g',g+3<=g'/\∀n,H9 (BS bm ann kn (n+8000)) (some d) ⟨g,fr,⟨[],B⟩⟩ 71 [.agg (AD c)] =
  some ⟨g',(d,true,.tup [.ptr 0 911 (g+2) 0,i 0])::fr,⟨[],(911,g+2,.box (CQ c (g+1)))::(910,g+1,.map [])::B⟩⟩:=by
 have hb:=hc.be
 have hbe:=ZS c
 rw[if_neg (by simp[MK hb]),if_neg (by simp[hc.pl]),if_neg hc.tr]at hbe
 have q1:=fun n=>sO n c.beach hb.w40 c.plan
 rw[hbe]at q1
 have hb1:(H5 c.beach c.plan).1=E9 c.beach (FA c.beach) c.plan c.beach.rows.toNat:=by unfold H5;rw[if_pos (MK hb),if_pos hc.pl,if_neg fun hh=>hc.tr (M1.1 hh)]
 have hro:=hb.ro
 have hpc:=hb.pl
 have hbl:(E9 c.beach (FA c.beach) c.plan c.beach.rows.toNat).length=c.beach.rows.toNat:=by simp[E9]
 have hbn:E9 c.beach (FA c.beach) c.plan c.beach.rows.toNat≠[]:=fun e=>by rw[e]at hbl;simp at hbl;omega
 have hb5:∀l∈E9 c.beach (FA c.beach) c.plan c.beach.rows.toNat,l.length<=5:=fun l hl=>by obtain⟨r,_,rfl⟩:=List.mem_map.1 hl;simp[N4];omega
 rw[hb1,slX hbn]at q1
 have hfl:=hc.fl
 have hch:=hc.ch
 have h3':¬(3:Int)<(c.fams.length:Int):=by omega
 have qa:=fun n=>APQ n 200 121 IB c.fams (by omega) (fun n f _=>wY n f)
 have qr:=fun n=>APP n 200 c 118 (fun l=>decide ((l.length:Int)=c.beach.places)) c.chairs (by omega) (fun n l _=>APS n c l)
 rw[bw.2 fun f hf=>by
  have:=hc.fo f hf;simp only[IB,bb,C6];exact this]at qa
 rw[bw.2 fun l hl=>decide_eq_true (hc.cr l hl)]at qr
 simp only[bf,Nat.reduceAdd]at qa qr
 unfold CQ AV
 generalize E9 c.beach (FA c.beach) c.plan c.beach.rows.toNat=R at *
 obtain⟨g',γ',hg',q11⟩:=APV c B g R (by omega) hb5 R.length 0 (g+3) 0 (by omega) (by omega)
 have q11:=fun n m=>q11 n (m+100) (by omega)
 refine⟨g',by omega,fun n=>?_⟩
 have hS:(R.map fun l=>E3 l l.length).map encA=R.map fun l=>encA (E3 l l.length):=by rw[List.map_map];rfl
 rw[hS]
 obtain⟨s0,S,hSS⟩:∃s0 S,R.map (fun l=>encA (E3 l l.length))=s0::S:=List.exists_cons_of_ne_nil (fun e:R.map (fun l=>encA (E3 l l.length))=[]=>hbn (List.map_eq_nil_iff.1 e))
 rw[hSS]at q11|-
 rw[AAE Tryz.func71 b71 rfl (by simp)]
 simp only[AC,AD,List.take_zero,List.map_nil]at q1 qr qa q11|-
 simp[rv,bxW,AD]at q11
 simp[c71,AF,h3',q1,qr,qa,hch,AR,A7,AS,hB,q11,bf,BEL,WH,WG,KD,eU,P9,ME,QA,MF,MG,MH,QB,WI,GR,HJ,QC,IL]
theorem Y3{c:AM}{k:Nat}(h:k<c.fams.length):EC c k=c.fams[k]:=by unfold EC;rw[bj,bk h];rfl
theorem A25(n:Nat)(c:AM)(a b:Nat)(ha:a<c.fams.length)(hb:b<c.fams.length):AZ bm kn (AE bm ann kn (n+300)) 173 [.agg (AD c),i a,i b]=some (.bool (JT c a b)):=by
 rw[AN rfl,AO Tryz.func173 BFY rfl (by simp[AD,AR,A7,AS])];unfold JT;rw[Y3 ha,Y3 hb];have e:decide ((a:Int)=(b:Int))=decide (a=b):=decide_eq_decide.2 (by omega);have e2:decide (a≠b)=!decide (a=b):=by simp
 rw[e2];generalize decide (a=b)=z at *;rcases hF1:c.fams[a]with⟨s1,g1,d1,h1⟩;rcases hF2:c.fams[b]with⟨s2,g2,d2,h2⟩;simp only[AD];have p1:Nat.beq 4 1=false:=rfl;cases z<;>cases d1<;>cases h1<;>cases d2<;>cases h2<;>simp[A5K,AF,e,ha,hb,hF1,hF2,AS,BR,C4,BG,FU,E7,JE,p1]
theorem AS1(n:Nat)(c:AM)(x y:Sp)(hx:x.fam<c.fams.length)(hy:y.fam<c.fams.length)(p1:-1000<=x.place/\x.place<=1000)(p2:-1000<=y.place/\y.place<=1000)(s1:0<=x.size/\x.size<=1000)(s2:0<=y.size/\y.size<=1000):AZ bm kn (AE bm ann kn (n+400)) 139 [.agg (AD c),.agg (BB x),.agg (BB y)]=some (.bool (HE c x y)):=by
 rw[AN rfl,AO Tryz.func139 BFZ rfl (by simp[AD,AR,A7,AS,BB])];have qm:=fun n=>A25 n c x.fam y.fam hx hy;have w1:IntKind.i64.wrap (x.place-y.place)=x.place-y.place:=AX (by omega) (by omega);have w2:IntKind.i64.wrap (x.place-y.place-y.size)=x.place-y.place-y.size:=AX (by omega) (by omega);have w3:IntKind.i64.wrap (y.place-x.place)=y.place-x.place:=AX (by omega) (by omega);have w4:IntKind.i64.wrap (y.place-x.place-x.size)=y.place-x.place-x.size:=AX (by omega) (by omega);unfold HE;by_cases hr:x.row=y.row
 ·rw[show decide (x.row≠y.row)=false from decide_eq_false (by simpa using hr),Bool.false_or];have e:jP x y=(if x.place-y.place-y.size<y.place-x.place-x.size then y.place-x.place-x.size else x.place-y.place-y.size):=by unfold jP;split<;>omega
  generalize JT c x.fam y.fam=z at *;generalize jP x y=m at *;by_cases h0:0<m
  ·simp only[AD]at qm|-;simp[AFI,AF,BB,w1,w2,w3,w4,hr,<-e,h0]
  ·by_cases h1:m=0
   ·simp only[AD]at qm|-;cases z<;>simp[AFI,AF,BB,AR,A7,AS,w1,w2,w3,w4,qm,hr,<-e,h1]
   ·simp only[AD]at qm|-;simp[AFI,AF,BB,w1,w2,w3,w4,hr,<-e,h0,h1]
 ·rw[show decide (x.row≠y.row)=true from decide_eq_true hr,Bool.true_or];simp only[AD];simp[AFI,AF,BB,hr]
theorem ZT(l:List Bool){j:Nat}(hj:j<l.length):(l.take (j+1)).count true=(l.take j).count true+(if l[j]=true then 1 else 0):=by rw[bq hj,List.count_append];congr 1;cases l[j]<;>rfl
theorem A26(cs:List (List Bool))(l:List Bool)(hl:l.length<=100)(N r c:Nat)(hN:N<=100000)(X1:A0):∀(d j:Nat),j+d=l.length->∀n m,d<m->A9 (AE bm ann kn (n+200) 26) TY (ann 26 (BV TY)) m ⟨c,[(2,true,i ((N+(l.take j).count true:Nat):Int)),(8,true,.list false (cs.map AR)),(9,true,i cs.length),(10,true,i r),(14,true,lb l),(15,true,i l.length),(16,true,i j)],⟨[],[(1,0,X1)]⟩⟩ =
  some (.exit 2,⟨c,[(17,true,.bool false),(2,true,i ((N+l.count true:Nat):Int)),(8,true,.list false (cs.map AR)),(9,true,i cs.length),(10,true,i r),(14,true,lb l),(15,true,i l.length),(16,true,i l.length)],⟨[],[(1,0,X1)]⟩⟩)
 |0,j,hd,n,m+1,hm=>by
  obtain rfl:j=l.length:=by omega
  rw[List.take_length,AB];simp
 |d+1,j,hd,n,m+1,hm=>by
  have hj:j<l.length:=by omega
  have hw:=BH (k:=j) (by omega);have ih:=A26 cs l hl N r c hN X1 d (j+1) (by omega) n m (by omega);rw[ZT l hj]at ih;have hcl:(l.take j).count true<=100:=by have:=bc (a:=true) (l:=l.take j);rw[List.length_take]at this;omega
  generalize (l.take j).count true=C at *;have hwC:IntKind.i64.wrap (((N+C:Nat):Int)+1)=((N+(C+1):Nat):Int):=by rw[AX (by omega) (by omega)];omega
  have hwC2:IntKind.i64.wrap ((N:Int)+(C:Int)+1)=((N:Int)+((C:Int)+1)):=by rw[AX (by omega) (by omega)];omega
  generalize l.count true=T at *;rw[AB];cases hz:l[j]with
  |true=>
   rw[hz,if_pos rfl]at ih
   simp at ih
   simp[hj,hw,hz,A7,hwC2,ih]
  |false=>
   rw[hz,if_neg (by decide),Nat.add_zero]at ih
   simp at ih
   simp[hj,hw,hz,A7,ih]
theorem A27(cs:List (List Bool))(hl:cs.length<=100)(hr:∀l∈cs,l.length<=100)(c:Nat)(X1:A0):∀(d j N:Nat),j+d=cs.length->N<=100*j->∀n m,d<m->A9 (AE bm ann kn (n+400) 26) TZ (ann 26 (BV TZ)) m ⟨c,[(2,true,i N),(8,true,.list false (cs.map AR)),(9,true,i cs.length),(10,true,i j)],⟨[],[(1,0,X1)]⟩⟩ =
  some (.exit 0,⟨c,[(11,true,.bool false),(2,true,i ((N+((cs.drop j).map fun l=>l.count true).sum:Nat):Int)),(8,true,.list false (cs.map AR)),(9,true,i cs.length),(10,true,i cs.length)],⟨[],[(1,0,X1)]⟩⟩)
 |0,j,N,hd,hN,n,m+1,hm=>by
  obtain rfl:j=cs.length:=by omega
  rw[AB];simp
 |d+1,j,N,hd,hN,n,m+1,hm=>by
  have hj:j<cs.length:=by omega
  have hw:=BH (k:=j) (by omega);have hlj:=hr cs[j] (bz hj);have q:=fun n m=>A26 cs cs[j] hlj N j c (by omega) X1 cs[j].length 0 (by omega) n (m+101) (by omega);have hcl:=bc (a:=true) (l:=cs[j]);have ih:=A27 cs hl hr c X1 d (j+1) (N+cs[j].count true) (by omega) (by omega) n m (by omega);have hs:N+cs[j].count true+((cs.drop (j+1)).map fun l=>l.count true).sum=N+((cs.drop j).map fun l=>l.count true).sum:=by rw[List.drop_eq_getElem_cons hj,List.map_cons,List.sum_cons];omega
  rw[hs]at ih;generalize ((cs.drop j).map fun l=>l.count true).sum=T at *;generalize cs[j].count true=C at *;simp only[List.take_zero,List.count_nil,Nat.add_zero]at q;rw[AB];simp at ih q;simp[hj,hw,AR,q,ih]
theorem AKY(n:Nat)(c:AM)(hl:c.chairs.length<=100)(hr:∀l∈c.chairs,l.length<=100):AZ bm kn (AE bm ann kn (n+600)) 140 [.agg (AD c)]=some (i (CZ c)):=by rw[AN rfl,AO Tryz.func140 BF0 rfl (by simp[AD,AR,A7,AS])];have q:=fun n m=>A27 c.chairs hl hr 1 (.box (AD c)) c.chairs.length 0 0 (by omega) (by omega) n (m+101) (by omega);have e:((c.chairs.drop 0).map fun l=>l.count true).sum=CZ c:=rfl;rw[e,Nat.zero_add]at q;generalize CZ c=T at *;simp only[AD]at q|-;simp at q;simp[A5L,AF,q]
def A4(g:Nat×Int):List V:=[i (g.1:Int),i g.2]
def B8(fs:List Q8)(out:List Int):Nat->List (Nat×Int)
 |0=>[]
 |k+1=>B8 fs out k++(if decide ((k:Int)∈out)=true then[] else[(k,(fs.getD k ⟨0,0,false,false⟩).size)])
def AP(c:AM)(out:List Int):List (Nat×Int):=B8 c.fams out c.fams.length
theorem OT(fs:List Q8)(out:List Int):∀k,(B8 fs out k).length<=k
 |0=>bx _
 |k+1=>by have:=OT fs out k;simp only[B8,List.length_append];split<;>simp<;>omega
theorem BEM{k:Nat}{l:List (Nat×Int)}(h:k+l.length<=1000):BZ bm 151 k (l.map A4)=true:=by rw[BT (by simp) (by simp)];simp[maxLen,A4];omega
theorem AS2(fs:List Q8)(hl:fs.length<=30)(out:List Int)(ho:out.length<=40)(X2:A0):∀(d k c γ:Nat),k+d=fs.length->∃c' γ',∀n m,d<m->A9 (AE bm ann kn (n+1600) 28) Z6 (ann 28 (BV Z6)) m ⟨c,[(1,true,li out),(4,true,pv 25 γ ((B8 fs out k).map A4)),(8,true,.list false (fs.map AS)),(9,true,i fs.length),(10,true,i k)],⟨[],(2,0,X2)::pl 25 γ 151 ((B8 fs out k).map A4)⟩⟩ =
  some (.exit 0,⟨c',[(11,true,.bool false),(1,true,li out),(4,true,pv 25 γ' ((B8 fs out fs.length).map A4)),(8,true,.list false (fs.map AS)),(9,true,i fs.length),(10,true,i fs.length)],⟨[],(2,0,X2)::pl 25 γ' 151 ((B8 fs out fs.length).map A4)⟩⟩)
 |0,k,c,γ,hd=>by
  obtain rfl:k=fs.length:=by omega
  refine⟨c,γ,fun n m hm=>?_⟩;obtain⟨m,rfl⟩:=qNz m (by omega);generalize B8 fs out fs.length=R;rw[AB];cases R<;>simp
 |d+1,k,c,γ,hd=>by
  have hk:k<fs.length:=by omega
  have hw:=BH (k:=k) (by omega);have hgl:=OT fs out k;have qC:=fun n=>XP n out (k:Int) (by omega);have hg:fs.getD k ⟨0,0,false,false⟩=fs[k]:=by rw[bj,bk hk];rfl
  have hst:B8 fs out (k+1)=B8 fs out k++(if decide ((k:Int)∈out)=true then[] else[(k,fs[k].size)]):=by rw[<-hg];rfl
  have hap:=BEM (k:=(B8 fs out k).length) (l:=[(k,fs[k].size)]) (by rw[List.length_singleton];omega);generalize decide ((k:Int)∈out)=z at *;generalize hfk:fs[k]=f at *;cases z with
  |true=>
   obtain⟨c',γ',ih⟩:=AS2 fs hl out ho X2 d (k+1) (c+1) γ (by omega)
   refine⟨c',γ',fun n m hm=>?_⟩
   obtain⟨m,rfl⟩:=qNz m (by omega)
   have ih:=ih n m (by omega)
   rw[hst,if_pos rfl,List.append_nil]at ih
   generalize B8 fs out fs.length=fin at *
   generalize B8 fs out k=R at *
   rw[AB]
   cases R<;>(simp[A4]at ih;simp[hk,hw,hfk,AS,A4,qC,ih])
  |false=>
   obtain⟨c',γ',ih⟩:=AS2 fs hl out ho X2 d (k+1) (c+2) (c+1) (by omega)
   refine⟨c',γ',fun n m hm=>?_⟩
   obtain⟨m,rfl⟩:=qNz m (by omega)
   have ih:=ih n m (by omega)
   rw[hst,if_neg (by decide)]at ih
   generalize B8 fs out fs.length=fin at *
   generalize B8 fs out k=R at *
   rw[AB]
   cases R with
   |nil=>simp[A4,pv]at ih hap;simp[hk,hw,hfk,AS,qC,hap,ih,pv]
   |cons r R=>simp[A4]at ih hap;simp[hk,hw,hfk,AS,A4,qC,hap,ih]
theorem AKZ(n:Nat)(c:AM)(hl:c.fams.length<=30)(out:List Int)(ho:out.length<=40):AZ bm kn (AE bm ann kn (n+2000)) 92 [.agg (AD c),li out]=some (sl ((AP c out).map A4)):=by
 rw[AN rfl,AO Tryz.func92 b92 rfl (by simp[AD,AR,A7,AS])];obtain⟨c',γ',q⟩:=AS2 c.fams hl out ho (.box (AD c)) c.fams.length 0 1 0 (by omega);have q:=fun n m=>q n (m+100) (by omega);have e:B8 c.fams out c.fams.length=AP c out:=rfl;rw[e,show B8 c.fams out 0=[] from rfl]at q;generalize hG:AP c out=G at *;have hcl:(G.map A4).all (fun e=>e.all (AG 8))=true:=by simp[A4]
 generalize G.map A4=R at *;simp only[AD,List.map_nil]at q|-;simp at q;simp[c92,AF,q];exact fun e he v hv=>bw.1 (bw.1 hcl e he) v hv
def l7:Option (Nat×List V)->AA
 |none=>[]
 |some (γ,cs)=>[(7,γ,.box cs)]
end Go.Proofs.Tryz.Op
namespace Go.Wind
end Go.Wind
namespace Go.Proofs.Tryz.Op
theorem OU(fs:List Q8):∀k,k<=fs.length->B8 fs [] k=(bh k).map fun j=>(j,(fs.getD j ⟨0,0,false,false⟩).size)
 |0,_=>rfl
 |k+1,h=>by rw[B8,OU fs k (by omega),List.range_succ,List.map_append];simp
theorem AA8{c:AM}{k:Nat}(hk:k<c.fams.length)(h:k<(AP c []).length):(AP c [])[k]=(k,c.fams[k].size):=by have e:AP c []=(bh c.fams.length).map fun j=>(j,(c.fams.getD j ⟨0,0,false,false⟩).size):=OU c.fams _ (bx _);simp only[e,List.getElem_map,bg,bj,bk hk];rfl
theorem ED(c:AM):(AP c []).length=c.fams.length:=by have e:AP c []=(bh c.fams.length).map fun j=>(j,(c.fams.getD j ⟨0,0,false,false⟩).size):=OU c.fams _ (bx _);rw[e];simp
theorem mZ{c:AM}(hc:BQ c){ss:List (Int×Int)}(hs:ss.length=c.fams.length):∀x∈CJ c ss,x.fam<c.fams.length/\1<=x.size/\x.size<=4:=fun x hx=>by have hl:(CJ c ss).length=c.fams.length:=FJ hs;obtain⟨j,hj,rfl⟩:=List.getElem_of_mem hx;have:=KA (k:=0) (fs:=c.fams) (ss:=ss) j (by omega) (by omega) hj;have e:(CJ c ss)[j]=⟨0+j,(c.fams[j]'(by omega)).size,(ss[j]'(by omega)).1,(ss[j]'(by omega)).2⟩:=this;rw[e];have hf:=hc.fo _ (bz (show j<c.fams.length by omega));exact⟨by simp only;omega,by simp only;omega,by simp only;omega⟩
end Go.Proofs.Tryz.Op
namespace Go.Wind
end Go.Wind
namespace Go.Proofs.Tryz.Op
theorem AK0{c:AM}(hc:BQ c){ss:List (Int×Int)}(h:FP c ss=true):ss.length=c.fams.length/\∀x∈CJ c ss,0<=x.row/\x.row<c.beach.rows/\0<=x.place/\(1<=x.size/\x.size<=4)/\x.place+x.size<=c.beach.places:=by simp only[FP,P3,bb,decide_eq_true_eq]at h;refine⟨h.1,fun x hx=>?_⟩;have h1:=OR c (CJ c ss) [] h.2.1 x hx;have h2:=(mZ hc h.1 x hx).2;simp only[D9,bb,C6]at h1;omega
end Go.Proofs.Tryz.Op
