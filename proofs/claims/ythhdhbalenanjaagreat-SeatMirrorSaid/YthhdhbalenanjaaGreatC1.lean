/- Contracts: a valid family, a row of chairs. No condition. -/
import Derived.Test.YthhdhbalenanjaaGreatA1
open Go.Proofs.Tryz renaming prog->bf
open List renaming getD_eq_getElem?_getD->bj,getElem?_eq_getElem->bk,take_succ_eq_append_getElem->bq,all_eq_true->bw,count_le_length->bx,range->bc
open Nat renaming le_refl->bz,add_assoc->bb
set_option maxRecDepth 100000
set_option linter.unusedSimpArgs false
open Go Go.Pg Go.Proofs Go.Wind
namespace Go.Proofs.Tryz.Op
theorem kT(n:Nat)(x lo hi:Int):A5 bf kn (AE bf ann kn (n+50)) 163 [i x,i lo,i hi]=some (.bool (HH x lo hi)):=by rw[AN rfl,AP Tryz.func163 BB7 rfl (by simp)];unfold HH;generalize e1:decide (lo<=x)=z1;generalize e2:decide (x<=hi)=z2;cases z1<;>cases z2<;>simp[A1Z,AD,e1,e2]
theorem uX(n:Nat)(f:U5):A5 bf kn (AE bf ann kn (n+200)) 121 [.agg (AY f)]=some (.bool (GY f)):=by rw[AN rfl,AP Tryz.func121 BB8 rfl (by simp[AY])];have q1:=fun n=>kT n f.size 1 4;have q2:=fun n=>kT n f.good 0 5;unfold GY;generalize HH f.size 1 4=z1 at *;generalize HH f.good 0 5=z2 at *;cases z1<;>cases z2<;>simp[A10,AD,AY,q1,q2]
theorem ANI(n:Nat)(c:AR)(l:List Bool):A5 bf kn (AE bf ann kn (n+200)) 118 [.agg (AF c),lb l]=some (.bool (decide ((l.length:Int)=c.beach.places))):=by rw[AN rfl,AP Tryz.func118 BB9 rfl (by simp[AF,AS,BF,AY])];generalize e1:decide ((l.length:Int)=c.beach.places)=z1;cases z1<;>simp[A11,AD,AF,e1]
theorem MM{b:AL}:(FH b [] b.winds []).isEmpty=true↔BQ b=[]:=by
 rw[List.isEmpty_iff];constructor<;>intro h<;>refine List.eq_nil_iff_forall_not_mem.2 fun t ht=>?_
 ·have:=(YG b t).2 (DT.1 ht);rw[h]at this;cases this
 ·have:=DT.2 ((YG b t).1 ht);rw[h]at this;cases this
theorem YQ(c:AR):(H5 c.beach c.plan).2=if DH c.beach≠0 then DH c.beach else if CP c.beach c.plan=false then 2 else if BQ c.beach=[] then 11 else 0:=by
 unfold H5;by_cases h:DH c.beach=0
 ·simp only[h,ne_eq,not_true_eq_false,if_true,if_false];cases hp:CP c.beach c.plan with
  |false=>rfl
  |true=>
   simp only[if_true,Bool.true_eq_false,if_false]
   by_cases ht:BQ c.beach=[]
   ·rw[if_pos (MM.2 ht),if_pos ht]
   ·rw[if_neg fun hh=>ht (MM.1 hh),if_neg ht]
 ·rw[if_neg h,if_pos h]
theorem Q6(c:AR)(h40:∀l∈c.beach.winds,l.length<=40)(hch:c.chairs.length<=40)(h:¬B5 c=0)(B:AA)(hB:∀t:St,1<=t.up.length->AH t B=B)(g d:Nat)(fr:Fr):∀n,HC (BG bf ann kn (n+8000)) (some d) ⟨g,fr,⟨[],B⟩⟩ 71 [.agg (AF c)] =
  some ⟨g+1,(d,true,.tup [.raw (.pointer none),i (B5 c)])::fr,⟨[],B⟩⟩:=by
 intro n
 rw[xP Tryz.func71 b71 rfl (by simp)]
 have q1:=fun n=>pN n c.beach h40 c.plan
 rw[YQ]at q1
 unfold B5 at h|-
 by_cases h3:3<c.fams.length
 ·have h3':(3:Int)<(c.fams.length:Int):=by omega
  rw[if_pos h3];simp[c71,AD,AF,h3',hB]
 ·have h3':¬(3:Int)<(c.fams.length:Int):=by omega
  rw[if_neg h3]at h|-;have qa:=fun n=>ANH n 200 121 GY c.fams (by omega) (fun n f _=>uX n f);have qr:=fun n=>ANG n 200 c 118 (fun l=>decide ((l.length:Int)=c.beach.places)) c.chairs hch (fun n l _=>ANI n c l);by_cases h4:DH c.beach≠0
  ·rw[if_pos h4]at q1|-;generalize (H5 c.beach c.plan).1=R at q1;generalize DH c.beach=E at *;simp only[AC,AF]at q1|-;simp[c71,AD,h3',q1,h4,hB]
  ·rw[if_neg h4]at q1 h|-;cases h5:CP c.beach c.plan with
   |false=>
    rw[h5,if_pos rfl]at q1
    rw[if_pos rfl]
    generalize (H5 c.beach c.plan).1=R at q1
    simp only[AC,AF]at q1|-
    simp[c71,AD,h3',q1,hB]
   |true=>
    rw[h5,if_neg (by decide)]at q1 h
    rw[if_neg (by decide)]
    by_cases h6:BQ c.beach=[]
    ·rw[if_pos h6]at q1|-;generalize (H5 c.beach c.plan).1=R at q1;simp only[AC,AF]at q1|-;simp[c71,AD,h3',q1,hB]
    ·rw[if_neg h6]at q1 h|-;have hc1:(if D5 c=false then(1:Int) else if c.fams.all GY=false then 1 else 0)=1:=by
      split at h
      ·rw[if_pos (by assumption)]
      ·rw[if_neg (by assumption)];split at h
       ·rw[if_pos (by assumption)]
       ·exact absurd rfl h
     rw[hc1];simp only[bb,Nat.reduceAdd]at qa qr;generalize (H5 c.beach c.plan).1=R at q1;by_cases hl:(c.chairs.length:Int)=c.beach.rows
     ·cases hr:c.chairs.all (fun l=>decide ((l.length:Int)=c.beach.places))with
      |false=>
       rw[hr]at qr
       simp only[AC,AF]at q1 qr|-
       simp[c71,AD,h3',q1,qr,hl,hB,AS,BF,AY]
      |true=>
       rw[hr]at qr
       cases hf:c.fams.all GY with
       |true=>
        exfalso
        rw[if_neg (by simp[D5,hl,hr]),if_neg (by simp[hf])]at h
        exact h rfl
       |false=>
        rw[hf]at qa
        simp only[AC,AF]at q1 qr qa|-
        simp[c71,AD,h3',q1,qr,qa,hl,hB,AS,BF,AY]
     ·simp only[AC,AF]at q1|-;simp[c71,AD,h3',q1,hl,hB]
def ER(l:List pY)(n:Nat):List Int:=(bc 5).map fun p=>if p<n then(l.getD p ⟨0,(0,0),(0,0)⟩).good.1 else 0
def encA(l:List Int):List V:=l.map fun x=>i x
theorem yR(l:List pY)(n:Nat):∃a0 a1 a2 a3 a4:Int,encA (ER l n)=[i a0,i a1,i a2,i a3,i a4]:=⟨_,_,_,_,_,rfl⟩
theorem N8{P:Program}{fr:Fr}{s:St}(e d c:Nat)(y:List V)(ys:List (List V))(h:BV P e 0 (y::ys)=true):adV P e d c fr s .nil (y::ys)=some (⟨c+1,(d,true,.vec s.up.length d c (ys.length+1))::fr,s.put s.up.length d c (.vec e (y::ys))⟩,[(s.up.length,d),(s.up.length,d+JF)]):=by unfold adV;simp[I6,h]
theorem BAV{k:Nat}(h:k<=1000)(a0 a1 a2 a3 a4:Int):BV bf 206 k [[i a0,i a1,i a2,i a3,i a4]]=true:=by rw[BS (by simp) (by simp)];simp[maxLen];omega
def rv(k γ:Nat):List (List V)->V
 |[]=>.nil
 |e::es=>.vec 1 k γ (e::es).length
abbrev bxW(c:AR)(g:Nat)(v:V):AX:=.box (AF c++[v,.mp 1 51 (g+1)])
theorem ACN{l:List pY}{j:Nat}(hj:j<l.length):(encA (ER l j)).set j (i l[j].good.1)=encA (ER l (j+1)):=by
 apply List.ext_getElem (by simp[encA,ER]);intro p h1 h2;have hp:p<5:=by simpa [encA,ER]using h2
 rw[List.getElem_set];simp only[encA,ER,List.getElem_map,List.getElem_range];by_cases e:j=p
 ·subst e;rw[if_pos rfl,if_pos (by omega),bj,bk hj];rfl
 ·rw[if_neg e];by_cases hlt:p<j
  ·rw[if_pos hlt,if_pos (by omega)]
  ·rw[if_neg hlt,if_neg (by omega)]
theorem ACO{l:List pY}{j:Nat}(hj:j<l.length)(h5:l.length<=5):(encA (ER l j)).take j++i l[j].good.1::(encA (ER l j)).drop (j+1)=encA (ER l (j+1)):=by rw[<-ACN hj,List.set_eq_take_append_cons_drop,if_pos (by simp[encA,ER];omega)]
theorem kU(l:List pY)(j:Nat):(encA (ER l j)).length=5:=by simp[encA,ER]
theorem ANK(B:AA)(g x γ:Nat)(X1 X53:AX)(S:List (List V))(l:List pY)(h5:l.length<=5)(v54 v55 v56:V):∀(e j y:Nat),j+e=l.length->x<y->∃(y':Nat),y<=y'/\∀n m,e<m->BJ (AE bf ann kn (n+300) 85) S0 (ann 85 (B9 S0)) m ⟨y,[(7,true,.ptr 1 53 (g+2) 0),(10,true,.ptr 1 10 x 0),(54,true,v54),(55,true,v55),(56,true,v56),(60,true,.list false (l.map QO)),(61,true,i l.length),(62,true,i j)],⟨[B],(1,g,X1)::(10,x,.box (encA (ER l j)))::(51,g+1,.map [])::(53,g+2,X53)::pl 80 γ 206 S⟩⟩ =
  some (.exit 2,⟨y',[(63,true,.bool false),(7,true,.ptr 1 53 (g+2) 0),(10,true,.ptr 1 10 x 0),(54,true,v54),(55,true,v55),(56,true,v56),(60,true,.list false (l.map QO)),(61,true,i l.length),(62,true,i l.length)],⟨[B],(1,g,X1)::(10,x,.box (encA (ER l l.length)))::(51,g+1,.map [])::(53,g+2,X53)::pl 80 γ 206 S⟩⟩)
 |0,j,y,hm,hc=>by
  obtain rfl:j=l.length:=by omega
  refine⟨y,bz _,fun n m hm=>?_⟩;obtain⟨m,rfl⟩:=qNz m (by omega);generalize encA (ER l l.length)=A;rw[AB];cases S<;>simp
 |e+1,j,y,hm,hc=>by
  have hj:j<l.length:=by omega
  have hw:=BW (k:=j) (by omega);have hset:=ACO hj h5;have hlen:=kU l j;obtain⟨y',hy,ih⟩:=ANK B g x γ X1 X53 S l h5 v54 v55 v56 e (j+1) (y+1) (by omega) (by omega);refine⟨y',by omega,fun n m hm=>?_⟩;obtain⟨m,rfl⟩:=qNz m (by omega);have ih:=ih n m (by omega);rw[<-hset]at ih;generalize encA (ER l l.length)=fin at *;generalize encA (ER l j)=A at *;rw[AB];have hj5:(j:Int)<5:=by omega
  cases S<;>(simp at ih;simp[hj,hw,hj5,hlen,QO,show j<=4 by omega,show x<y+1 by omega,ih])
theorem ANL(c:AR)(B:AA)(g:Nat)(R:List (List pY))(hR:R.length<=100)(hRl:∀l∈R,l.length<=5):∀(e k x γ:Nat),k+e=R.length->g+2<x->∃(x' γ':Nat),x<=x'/\∀n m,e<m->BJ (AE bf ann kn (n+600) 85) S4 (ann 85 (B9 S4)) m ⟨x,[(7,true,.ptr 1 53 (g+2) 0),(54,true,.list false (R.map H4)),(55,true,i R.length),(56,true,i k)],⟨[B],(1,g,.box (AF c))::(51,g+1,.map [])::(53,g+2,bxW c g (rv 80 γ ((R.take k).map fun l=>encA (ER l l.length))))::pl 80 γ 206 ((R.take k).map fun l=>encA (ER l l.length))⟩⟩ =
  some (.exit 0,⟨x',[(57,true,.bool false),(7,true,.ptr 1 53 (g+2) 0),(54,true,.list false (R.map H4)),(55,true,i R.length),(56,true,i R.length)],⟨[B],(1,g,.box (AF c))::(51,g+1,.map [])::(53,g+2,bxW c g (rv 80 γ' (R.map fun l=>encA (ER l l.length))))::pl 80 γ' 206 (R.map fun l=>encA (ER l l.length))⟩⟩)
 |0,k,x,γ,hm,hc=>by
  obtain rfl:k=R.length:=by omega
  rw[List.take_length];refine⟨x,γ,bz _,fun n m hm=>?_⟩;obtain⟨m,rfl⟩:=qNz m (by omega);generalize hS:R.map (fun l=>encA (ER l l.length))=S;rw[AB];cases S<;>simp[AF,rv]
 |e+1,k,x,γ,hm,hc=>by
  have hk:k<R.length:=by omega
  have hw:=BW (k:=k) (by omega);have hl5:=hRl R[k] (List.getElem_mem hk);have hst:(R.take (k+1)).map (fun l=>encA (ER l l.length))=(R.take k).map (fun l=>encA (ER l l.length))++[encA (ER R[k] R[k].length)]:=by rw[bq hk,List.map_append];rfl
  have hSl:((R.take k).map fun l=>encA (ER l l.length)).length=k:=by rw[List.length_map,List.length_take];omega
  obtain⟨y',hy,q15⟩:=ANK B g x γ (.box (AF c)) (bxW c g (rv 80 γ ((R.take k).map fun l=>encA (ER l l.length)))) ((R.take k).map fun l=>encA (ER l l.length)) R[k] hl5 (.list false (R.map H4)) (i R.length) (i k) R[k].length 0 (x+1) (by omega) (by omega);have q15:=fun n m=>q15 n (m+100) (by omega);have h0:encA (ER R[k] 0)=[i 0,i 0,i 0,i 0,i 0]:=rfl;obtain⟨a0,a1,a2,a3,a4,hA⟩:=yR R[k] R[k].length;have hS5:∀e∈(R.take k).map (fun l=>encA (ER l l.length)),e.length=5:=fun e he=>by obtain⟨l,_,rfl⟩:=List.mem_map.1 he;exact kU l _
  have hp5:Nat.beq 5 1=false:=rfl;have hap:=BAV (k:=((R.take k).map fun l=>encA (ER l l.length)).length) (by omega) a0 a1 a2 a3 a4;obtain⟨x',γ',hxx,ih⟩:=ANL c B g R hR hRl e (k+1) (y'+1) y' (by omega) (by omega);refine⟨x',γ',by omega,fun n m hm=>?_⟩;obtain⟨m,rfl⟩:=qNz m (by omega);have ih:=ih n m (by omega);rw[hst,hA]at ih;rw[hA,h0]at q15;generalize (R.take k).map (fun l=>encA (ER l l.length))=S at *;generalize R.map (fun l=>encA (ER l l.length))=fin at *;rw[AB];cases S with
  |nil=>
   simp[AF,rv,bxW]at ih q15 hap
   simp[AF,rv,bxW,hk,hw,H4,q15,ih,hap,JF,N8,show g+2<y'+1 by omega,CE,DV,CH,GS,hp5]
  |cons s S=>
   have hs5:=hS5 s (by simp)
   have hS6:∀e∈S,e.length=5:=fun e he=>hS5 e (by simp[he])
   have hS7:=eq_true hS6
   simp[AF,rv,bxW]at ih q15 hap
   simp[AF,rv,bxW,hk,hw,H4,q15,ih,hap,JF,show g+2<y'+1 by omega,CE,DV,CH,GS,hp5,hs5,hS7]
theorem BAW(st:XS):MC [911051,912053] st=(fun s=>dN 53 (MB 0 s) 911 [] s) (dN 51 (MB 0 st) 910 [] st):=rfl
def AU(c:AR):List (List Int):=(EY c.beach (E1 c.beach) c.plan c.beach.rows.toNat).map fun l=>ER l l.length
def CJ(c:AR)(γ:Nat):List V:=AF c++[.list false ((AU c).map encA),.mp 0 910 γ]
theorem gO(c:AR)(hc:B7 c)(B:AA)(hB:∀t:St,1<=t.up.length->AH t B=B)(g d:Nat)(fr:Fr):∃g',g+3<=g'/\∀n,HC (BG bf ann kn (n+8000)) (some d) ⟨g,fr,⟨[],B⟩⟩ 71 [.agg (AF c)] =
  some ⟨g',(d,true,.tup [.ptr 0 911 (g+2) 0,i 0])::fr,⟨[],(911,g+2,.box (CJ c (g+1)))::(910,g+1,.map [])::B⟩⟩:=by
 have hb:=hc.be
 have hbe:=YQ c
 rw[if_neg (by simp[I0 hb]),if_neg (by simp[hc.pl]),if_neg hc.tr]at hbe
 have q1:=fun n=>pN n c.beach hb.w40 c.plan
 rw[hbe]at q1
 have hb1:(H5 c.beach c.plan).1=EY c.beach (E1 c.beach) c.plan c.beach.rows.toNat:=by unfold H5;rw[if_pos (I0 hb),if_pos hc.pl,if_neg fun hh=>hc.tr (MM.1 hh)]
 have hro:=hb.ro
 have hpc:=hb.pl
 have hbl:(EY c.beach (E1 c.beach) c.plan c.beach.rows.toNat).length=c.beach.rows.toNat:=by simp[EY]
 have hbn:EY c.beach (E1 c.beach) c.plan c.beach.rows.toNat≠[]:=fun e=>by rw[e]at hbl;simp at hbl;omega
 have hb5:∀l∈EY c.beach (E1 c.beach) c.plan c.beach.rows.toNat,l.length<=5:=fun l hl=>by obtain⟨r,_,rfl⟩:=List.mem_map.1 hl;simp[NL];omega
 rw[hb1,slX hbn]at q1
 have hfl:=hc.fl
 have hch:=hc.ch
 have h3':¬(3:Int)<(c.fams.length:Int):=by omega
 have qa:=fun n=>ANH n 200 121 GY c.fams (by omega) (fun n f _=>uX n f)
 have qr:=fun n=>ANG n 200 c 118 (fun l=>decide ((l.length:Int)=c.beach.places)) c.chairs (by omega) (fun n l _=>ANI n c l)
 rw[bw.2 fun f hf=>by
  have:=hc.fo f hf;simp only[GY,Bool.and_eq_true,BU];exact this]at qa
 rw[bw.2 fun l hl=>decide_eq_true (hc.cr l hl)]at qr
 simp only[bb,Nat.reduceAdd]at qa qr
 unfold CJ AU
 generalize EY c.beach (E1 c.beach) c.plan c.beach.rows.toNat=R at *
 obtain⟨g',γ',hg',q11⟩:=ANL c B g R (by omega) hb5 R.length 0 (g+3) 0 (by omega) (by omega)
 have q11:=fun n m=>q11 n (m+100) (by omega)
 refine⟨g',by omega,fun n=>?_⟩
 have hS:(R.map fun l=>ER l l.length).map encA=R.map fun l=>encA (ER l l.length):=by rw[List.map_map];rfl
 rw[hS]
 obtain⟨s0,S,hSS⟩:∃s0 S,R.map (fun l=>encA (ER l l.length))=s0::S:=List.exists_cons_of_ne_nil (fun e:R.map (fun l=>encA (ER l l.length))=[]=>hbn (List.map_eq_nil_iff.1 e))
 rw[hSS]at q11|-
 rw[xP Tryz.func71 b71 rfl (by simp)]
 simp only[AC,AF,List.take_zero,List.map_nil]at q1 qr qa q11|-
 simp[rv,bxW,AF]at q11
 simp[c71,AD,h3',q1,qr,qa,hch,AS,BF,AY,hB,q11,bb,BAW,VF,VE,J8,dK,PM,LO,PN,LP,LQ,LR,PO,VG,GL,HG,PQ,IF]
theorem eC(c:AR)(k γ:Nat)(t:St):AH t [(k,γ,.box (AF c))]=[(k,γ,.box (AF c))]:=by simp[AF]
theorem uY{c:AR}{k:Nat}(h:k<c.fams.length):CK c k=c.fams[k]:=by unfold CK;rw[bj,bk h];rfl
theorem AZ0(n:Nat)(c:AR)(a b:Nat)(ha:a<c.fams.length)(hb:b<c.fams.length):A5 bf kn (AE bf ann kn (n+300)) 173 [.agg (AF c),i a,i b]=some (.bool (R3 c a b)):=by
 rw[AN rfl,AP Tryz.func173 BCB rfl (by simp[AF,AS,BF,AY])];unfold R3;rw[uY ha,uY hb];have e:decide ((a:Int)=(b:Int))=decide (a=b):=decide_eq_decide.2 (by omega);have e2:decide (a≠b)=!decide (a=b):=by simp
 rw[e2];generalize decide (a=b)=z at *;rcases hF1:c.fams[a]with⟨s1,g1,d1,h1⟩;rcases hF2:c.fams[b]with⟨s2,g2,d2,h2⟩;simp only[AF];have p1:Nat.beq 4 1=false:=rfl;cases z<;>cases d1<;>cases h1<;>cases d2<;>cases h2<;>simp[A13,AD,e,ha,hb,hF1,hF2,AY,CE,DV,CH,JG,GS,JF,p1]
theorem AQA(n:Nat)(c:AR)(x y:Sp)(hx:x.fam<c.fams.length)(hy:y.fam<c.fams.length)(p1:-1000<=x.place/\x.place<=1000)(p2:-1000<=y.place/\y.place<=1000)(s1:0<=x.size/\x.size<=1000)(s2:0<=y.size/\y.size<=1000):A5 bf kn (AE bf ann kn (n+400)) 139 [.agg (AF c),.agg (A7 x),.agg (A7 y)]=some (.bool (FO c x y)):=by
 rw[AN rfl,AP Tryz.func139 BCC rfl (by simp[AF,AS,BF,AY,A7])];have qm:=fun n=>AZ0 n c x.fam y.fam hx hy;have w1:IntKind.i64.wrap (x.place-y.place)=x.place-y.place:=AW (by omega) (by omega);have w2:IntKind.i64.wrap (x.place-y.place-y.size)=x.place-y.place-y.size:=AW (by omega) (by omega);have w3:IntKind.i64.wrap (y.place-x.place)=y.place-x.place:=AW (by omega) (by omega);have w4:IntKind.i64.wrap (y.place-x.place-x.size)=y.place-x.place-x.size:=AW (by omega) (by omega);unfold FO;by_cases hr:x.row=y.row
 ·rw[show decide (x.row≠y.row)=false from decide_eq_false (by simpa using hr),Bool.false_or];have e:kH x y=(if x.place-y.place-y.size<y.place-x.place-x.size then y.place-x.place-x.size else x.place-y.place-y.size):=by unfold kH;split<;>omega
  generalize R3 c x.fam y.fam=z at *;generalize kH x y=m at *;by_cases h0:0<m
  ·simp only[AF]at qm|-;simp[ADW,AD,A7,w1,w2,w3,w4,hr,<-e,h0]
  ·by_cases h1:m=0
   ·simp only[AF]at qm|-;cases z<;>simp[ADW,AD,A7,AS,BF,AY,w1,w2,w3,w4,qm,hr,<-e,h1]
   ·simp only[AF]at qm|-;simp[ADW,AD,A7,w1,w2,w3,w4,hr,<-e,h0,h1]
 ·rw[show decide (x.row≠y.row)=true from decide_eq_true hr,Bool.true_or];simp only[AF];simp[ADW,AD,A7,hr]
theorem qO(l:List Bool){j:Nat}(hj:j<l.length):(l.take (j+1)).count true=(l.take j).count true+(if l[j]=true then 1 else 0):=by rw[bq hj,List.count_append];congr 1;cases l[j]<;>rfl
theorem AZ1(cs:List (List Bool))(l:List Bool)(hl:l.length<=100)(N r c:Nat)(hN:N<=100000)(X1:AX):∀(d j:Nat),j+d=l.length->∀n m,d<m->BJ (AE bf ann kn (n+200) 26) S6 (ann 26 (B9 S6)) m ⟨c,[(2,true,i ((N+(l.take j).count true:Nat):Int)),(8,true,.list false (cs.map AS)),(9,true,i cs.length),(10,true,i r),(14,true,lb l),(15,true,i l.length),(16,true,i j)],⟨[],[(1,0,X1)]⟩⟩ =
  some (.exit 2,⟨c,[(17,true,.bool false),(2,true,i ((N+l.count true:Nat):Int)),(8,true,.list false (cs.map AS)),(9,true,i cs.length),(10,true,i r),(14,true,lb l),(15,true,i l.length),(16,true,i l.length)],⟨[],[(1,0,X1)]⟩⟩)
 |0,j,hd,n,m+1,hm=>by
  obtain rfl:j=l.length:=by omega
  rw[List.take_length,AB];simp
 |d+1,j,hd,n,m+1,hm=>by
  have hj:j<l.length:=by omega
  have hw:=BW (k:=j) (by omega);have ih:=AZ1 cs l hl N r c hN X1 d (j+1) (by omega) n m (by omega);rw[qO l hj]at ih;have hcl:(l.take j).count true<=100:=by have:=bx (a:=true) (l:=l.take j);rw[List.length_take]at this;omega
  generalize (l.take j).count true=C at *;have hwC:IntKind.i64.wrap (((N+C:Nat):Int)+1)=((N+(C+1):Nat):Int):=by rw[AW (by omega) (by omega)];omega
  have hwC2:IntKind.i64.wrap ((N:Int)+(C:Int)+1)=((N:Int)+((C:Int)+1)):=by rw[AW (by omega) (by omega)];omega
  generalize l.count true=T at *;rw[AB];cases hz:l[j]with
  |true=>
   rw[hz,if_pos rfl]at ih
   simp at ih
   simp[hj,hw,hz,BF,hwC2,ih]
  |false=>
   rw[hz,if_neg (by decide),Nat.add_zero]at ih
   simp at ih
   simp[hj,hw,hz,BF,ih]
theorem AZ2(cs:List (List Bool))(hl:cs.length<=100)(hr:∀l∈cs,l.length<=100)(c:Nat)(X1:AX):∀(d j N:Nat),j+d=cs.length->N<=100*j->∀n m,d<m->BJ (AE bf ann kn (n+400) 26) S7 (ann 26 (B9 S7)) m ⟨c,[(2,true,i N),(8,true,.list false (cs.map AS)),(9,true,i cs.length),(10,true,i j)],⟨[],[(1,0,X1)]⟩⟩ =
  some (.exit 0,⟨c,[(11,true,.bool false),(2,true,i ((N+((cs.drop j).map fun l=>l.count true).sum:Nat):Int)),(8,true,.list false (cs.map AS)),(9,true,i cs.length),(10,true,i cs.length)],⟨[],[(1,0,X1)]⟩⟩)
 |0,j,N,hd,hN,n,m+1,hm=>by
  obtain rfl:j=cs.length:=by omega
  rw[AB];simp
 |d+1,j,N,hd,hN,n,m+1,hm=>by
  have hj:j<cs.length:=by omega
  have hw:=BW (k:=j) (by omega);have hlj:=hr cs[j] (List.getElem_mem hj);have q:=fun n m=>AZ1 cs cs[j] hlj N j c (by omega) X1 cs[j].length 0 (by omega) n (m+101) (by omega);have hcl:=bx (a:=true) (l:=cs[j]);have ih:=AZ2 cs hl hr c X1 d (j+1) (N+cs[j].count true) (by omega) (by omega) n m (by omega);have hs:N+cs[j].count true+((cs.drop (j+1)).map fun l=>l.count true).sum=N+((cs.drop j).map fun l=>l.count true).sum:=by rw[List.drop_eq_getElem_cons hj,List.map_cons,List.sum_cons];omega
  rw[hs]at ih;generalize ((cs.drop j).map fun l=>l.count true).sum=T at *;generalize cs[j].count true=C at *;simp only[List.take_zero,List.count_nil,Nat.add_zero]at q;rw[AB];simp at ih q;simp[hj,hw,AS,q,ih]
theorem AI2(n:Nat)(c:AR)(hl:c.chairs.length<=100)(hr:∀l∈c.chairs,l.length<=100):A5 bf kn (AE bf ann kn (n+600)) 140 [.agg (AF c)]=some (i (EZ c)):=by rw[AN rfl,AP Tryz.func140 BCD rfl (by simp[AF,AS,BF,AY])];have q:=fun n m=>AZ2 c.chairs hl hr 1 (.box (AF c)) c.chairs.length 0 0 (by omega) (by omega) n (m+101) (by omega);have e:((c.chairs.drop 0).map fun l=>l.count true).sum=EZ c:=rfl;rw[e,Nat.zero_add]at q;generalize EZ c=T at *;simp only[AF]at q|-;simp at q;simp[A14,AD,q]
def BL(g:Nat×Int):List V:=[i (g.1:Int),i g.2]
def CV(fs:List U5)(out:List Int):Nat->List (Nat×Int)
 |0=>[]
 |k+1=>CV fs out k++(if decide ((k:Int)∈out)=true then[] else[(k,(fs.getD k ⟨0,0,false,false⟩).size)])
def AV(c:AR)(out:List Int):List (Nat×Int):=CV c.fams out c.fams.length
theorem WP(fs:List U5)(out:List Int):∀k,(CV fs out k).length<=k
 |0=>bz _
 |k+1=>by have:=WP fs out k;simp only[CV,List.length_append];split<;>simp<;>omega
theorem BAX{k:Nat}{l:List (Nat×Int)}(h:k+l.length<=1000):BV bf 151 k (l.map BL)=true:=by rw[BS (by simp) (by simp)];simp[maxLen,BL];omega
theorem AI3(fs:List U5)(hl:fs.length<=30)(out:List Int)(ho:out.length<=40)(X2:AX):∀(d k c γ:Nat),k+d=fs.length->∃c' γ',∀n m,d<m->BJ (AE bf ann kn (n+1600) 28) YX (ann 28 (B9 YX)) m ⟨c,[(1,true,li out),(4,true,pv 25 γ ((CV fs out k).map BL)),(8,true,.list false (fs.map AY)),(9,true,i fs.length),(10,true,i k)],⟨[],(2,0,X2)::pl 25 γ 151 ((CV fs out k).map BL)⟩⟩ =
  some (.exit 0,⟨c',[(11,true,.bool false),(1,true,li out),(4,true,pv 25 γ' ((CV fs out fs.length).map BL)),(8,true,.list false (fs.map AY)),(9,true,i fs.length),(10,true,i fs.length)],⟨[],(2,0,X2)::pl 25 γ' 151 ((CV fs out fs.length).map BL)⟩⟩)
 |0,k,c,γ,hd=>by
  obtain rfl:k=fs.length:=by omega
  refine⟨c,γ,fun n m hm=>?_⟩;obtain⟨m,rfl⟩:=qNz m (by omega);generalize CV fs out fs.length=R;rw[AB];cases R<;>simp
 |d+1,k,c,γ,hd=>by
  have hk:k<fs.length:=by omega
  have hw:=BW (k:=k) (by omega);have hgl:=WP fs out k;have qC:=fun n=>WJ n out (k:Int) (by omega);have hg:fs.getD k ⟨0,0,false,false⟩=fs[k]:=by rw[bj,bk hk];rfl
  have hst:CV fs out (k+1)=CV fs out k++(if decide ((k:Int)∈out)=true then[] else[(k,fs[k].size)]):=by rw[<-hg];rfl
  have hap:=BAX (k:=(CV fs out k).length) (l:=[(k,fs[k].size)]) (by rw[List.length_singleton];omega);generalize decide ((k:Int)∈out)=z at *;generalize hfk:fs[k]=f at *;cases z with
  |true=>
   obtain⟨c',γ',ih⟩:=AI3 fs hl out ho X2 d (k+1) (c+1) γ (by omega)
   refine⟨c',γ',fun n m hm=>?_⟩
   obtain⟨m,rfl⟩:=qNz m (by omega)
   have ih:=ih n m (by omega)
   rw[hst,if_pos rfl,List.append_nil]at ih
   generalize CV fs out fs.length=fin at *
   generalize CV fs out k=R at *
   rw[AB]
   cases R<;>(simp[BL]at ih;simp[hk,hw,hfk,AY,BL,qC,ih])
  |false=>
   obtain⟨c',γ',ih⟩:=AI3 fs hl out ho X2 d (k+1) (c+2) (c+1) (by omega)
   refine⟨c',γ',fun n m hm=>?_⟩
   obtain⟨m,rfl⟩:=qNz m (by omega)
   have ih:=ih n m (by omega)
   rw[hst,if_neg (by decide)]at ih
   generalize CV fs out fs.length=fin at *
   generalize CV fs out k=R at *
   rw[AB]
   cases R with
   |nil=>simp[BL,pv]at ih hap;simp[hk,hw,hfk,AY,qC,hap,ih,pv]
   |cons r R=>simp[BL]at ih hap;simp[hk,hw,hfk,AY,BL,qC,hap,ih]
theorem gP(n:Nat)(c:AR)(hl:c.fams.length<=30)(out:List Int)(ho:out.length<=40):A5 bf kn (AE bf ann kn (n+2000)) 92 [.agg (AF c),li out]=some (sl ((AV c out).map BL)):=by
 rw[AN rfl,AP Tryz.func92 b92 rfl (by simp[AF,AS,BF,AY])];obtain⟨c',γ',q⟩:=AI3 c.fams hl out ho (.box (AF c)) c.fams.length 0 1 0 (by omega);have q:=fun n m=>q n (m+100) (by omega);have e:CV c.fams out c.fams.length=AV c out:=rfl;rw[e,show CV c.fams out 0=[] from rfl]at q;generalize hG:AV c out=G at *;have hcl:(G.map BL).all (fun e=>e.all (AG 8))=true:=by simp[BL]
 generalize G.map BL=R at *;simp only[AF,List.map_nil]at q|-;simp at q;simp[c92,AD,q];exact fun e he v hv=>bw.1 (bw.1 hcl e he) v hv
def l7:Option (Nat×List V)->AA
 |none=>[]
 |some (γ,cs)=>[(7,γ,.box cs)]
end Go.Proofs.Tryz.Op
namespace Go.Wind
end Go.Wind
namespace Go.Proofs.Tryz.Op
theorem WQ(fs:List U5):∀k,k<=fs.length->CV fs [] k=(bc k).map fun j=>(j,(fs.getD j ⟨0,0,false,false⟩).size)
 |0,_=>rfl
 |k+1,h=>by rw[CV,WQ fs k (by omega),List.range_succ,List.map_append];simp
theorem N9(c:AR):(AV c []).length=c.fams.length:=by have e:AV c []=(bc c.fams.length).map fun j=>(j,(c.fams.getD j ⟨0,0,false,false⟩).size):=WQ c.fams _ (bz _);rw[e];simp
end Go.Proofs.Tryz.Op
namespace Go.Wind
end Go.Wind
namespace Go.Proofs.Tryz.Op
end Go.Proofs.Tryz.Op
