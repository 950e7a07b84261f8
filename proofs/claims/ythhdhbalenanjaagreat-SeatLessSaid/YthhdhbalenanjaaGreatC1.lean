/- Contracts: a valid family, a row of chairs. No condition. -/
import Derived.Test.YthhdhbalenanjaaGreatA1
open Go.Proofs.Tryz renaming prog->bg
open List renaming getD_eq_getElem?_getD->bj,getElem?_eq_getElem->bk,take_succ_eq_append_getElem->bq,all_eq_true->bw,count_le_length->bx,range->bf
open Nat renaming le_refl->bz,add_assoc->bc
set_option maxRecDepth 100000
set_option linter.unusedSimpArgs false
open Go Go.Pg Go.Proofs Go.Wind
namespace Go.Proofs.Tryz.Op
theorem jR(n:Nat)(x lo hi:Int):BA bg kn (AF bg ann kn (n+50)) 163 [i x,i lo,i hi]=some (.bool (IJ x lo hi)):=by rw[AR rfl,AS Tryz.func163 BCR rfl (by simp)];unfold IJ;generalize e1:decide (lo<=x)=z1;generalize e2:decide (x<=hi)=z2;cases z1<;>cases z2<;>simp[A1X,AD,e1,e2]
theorem tL(n:Nat)(f:QN):BA bg kn (AF bg ann kn (n+200)) 121 [.agg (AP f)]=some (.bool (HF f)):=by rw[AR rfl,AS Tryz.func121 BCS rfl (by simp[AP])];have q1:=fun n=>jR n f.size 1 4;have q2:=fun n=>jR n f.good 0 5;unfold HF;generalize IJ f.size 1 4=z1 at *;generalize IJ f.good 0 5=z2 at *;cases z1<;>cases z2<;>simp[A1Y,AD,AP,q1,q2]
theorem AL8(n:Nat)(c:AU)(l:List Bool):BA bg kn (AF bg ann kn (n+200)) 118 [.agg (AE c),lb l]=some (.bool (decide ((l.length:Int)=c.beach.places))):=by rw[AR rfl,AS Tryz.func118 BCT rfl (by simp[AE,AH,AM,AL,AO,AZ,AP])];generalize e1:decide ((l.length:Int)=c.beach.places)=z1;cases z1<;>simp[A1Z,AD,AE,e1]
theorem MQ{b:AN}:(FK b [] b.winds []).isEmpty=true↔CE b=[]:=by
 rw[List.isEmpty_iff];constructor<;>intro h<;>refine List.eq_nil_iff_forall_not_mem.2 fun t ht=>?_
 ·have:=(XX b t).2 (EW.1 ht);rw[h]at this;cases this
 ·have:=EW.2 ((XX b t).1 ht);rw[h]at this;cases this
theorem YB(c:AU):(IC c.beach c.plan).2=if DZ c.beach≠0 then DZ c.beach else if EP c.beach c.plan=false then 2 else if CE c.beach=[] then 11 else 0:=by
 unfold IC;by_cases h:DZ c.beach=0
 ·simp only[h,ne_eq,not_true_eq_false,if_true,if_false];cases hp:EP c.beach c.plan with
  |false=>rfl
  |true=>
   simp only[if_true,Bool.true_eq_false,if_false]
   by_cases ht:CE c.beach=[]
   ·rw[if_pos (MQ.2 ht),if_pos ht]
   ·rw[if_neg fun hh=>ht (MQ.1 hh),if_neg ht]
 ·rw[if_neg h,if_pos h]
theorem YC(c:AU)(h40:∀l∈c.beach.winds,l.length<=40)(hch:c.chairs.length<=40)(h:¬DE c=0)(B:AA)(hB:∀t:St,1<=t.up.length->AJ t B=B)(g d:Nat)(fr:Fr):∀n,HQ (BL bg ann kn (n+8000)) (some d) ⟨g,fr,⟨[],B⟩⟩ 71 [.agg (AE c)] =
  some ⟨g+1,(d,true,.tup [.raw (.pointer none),i (DE c)])::fr,⟨[],B⟩⟩:=by
 intro n
 rw[wC Tryz.func71 b71 rfl (by simp)]
 have q1:=fun n=>oH n c.beach h40 c.plan
 rw[YB]at q1
 unfold DE at h|-
 by_cases h3:3<c.fams.length
 ·have h3':(3:Int)<(c.fams.length:Int):=by omega
  rw[if_pos h3];simp[c71,AD,AE,h3',hB]
 ·have h3':¬(3:Int)<(c.fams.length:Int):=by omega
  rw[if_neg h3]at h|-;have qa:=fun n=>AL7 n 200 121 HF c.fams (by omega) (fun n f _=>tL n f);have qr:=fun n=>AL6 n 200 c 118 (fun l=>decide ((l.length:Int)=c.beach.places)) c.chairs hch (fun n l _=>AL8 n c l);by_cases h4:DZ c.beach≠0
  ·rw[if_pos h4]at q1|-;generalize (IC c.beach c.plan).1=R at q1;generalize DZ c.beach=E at *;simp only[AC,AE]at q1|-;simp[c71,AD,h3',q1,h4,hB]
  ·rw[if_neg h4]at q1 h|-;cases h5:EP c.beach c.plan with
   |false=>
    rw[h5,if_pos rfl]at q1
    rw[if_pos rfl]
    generalize (IC c.beach c.plan).1=R at q1
    simp only[AC,AE]at q1|-
    simp[c71,AD,h3',q1,hB]
   |true=>
    rw[h5,if_neg (by decide)]at q1 h
    rw[if_neg (by decide)]
    by_cases h6:CE c.beach=[]
    ·rw[if_pos h6]at q1|-;generalize (IC c.beach c.plan).1=R at q1;simp only[AC,AE]at q1|-;simp[c71,AD,h3',q1,hB]
    ·rw[if_neg h6]at q1 h|-;have hc1:(if FB c=false then(1:Int) else if c.fams.all HF=false then 1 else 0)=1:=by
      split at h
      ·rw[if_pos (by assumption)]
      ·rw[if_neg (by assumption)];split at h
       ·rw[if_pos (by assumption)]
       ·exact absurd rfl h
     rw[hc1];simp only[bc,Nat.reduceAdd]at qa qr;generalize (IC c.beach c.plan).1=R at q1;by_cases hl:(c.chairs.length:Int)=c.beach.rows
     ·cases hr:c.chairs.all (fun l=>decide ((l.length:Int)=c.beach.places))with
      |false=>
       rw[hr]at qr
       simp only[AC,AE]at q1 qr|-
       simp[c71,AD,h3',q1,qr,hl,hB,AO,AZ,AP]
      |true=>
       rw[hr]at qr
       cases hf:c.fams.all HF with
       |true=>
        exfalso
        rw[if_neg (by simp[FB,hl,hr]),if_neg (by simp[hf])]at h
        exact h rfl
       |false=>
        rw[hf]at qa
        simp only[AC,AE]at q1 qr qa|-
        simp[c71,AD,h3',q1,qr,qa,hl,hB,AO,AZ,AP]
     ·simp only[AC,AE]at q1|-;simp[c71,AD,h3',q1,hl,hB]
def E5(l:List oP)(n:Nat):List Int:=(bf 5).map fun p=>if p<n then(l.getD p ⟨0,(0,0),(0,0)⟩).good.1 else 0
def encA(l:List Int):List V:=l.map fun x=>i x
theorem xD(l:List oP)(n:Nat):∃a0 a1 a2 a3 a4:Int,encA (E5 l n)=[i a0,i a1,i a2,i a3,i a4]:=⟨_,_,_,_,_,rfl⟩
theorem GP{P:Program}{fr:Fr}{s:St}(e d c:Nat)(y:List V)(ys:List (List V))(h:BZ P e 0 (y::ys)=true):sH P e d c fr s .nil (y::ys)=some (⟨c+1,(d,true,.vec s.up.length d c (ys.length+1))::fr,s.put s.up.length d c (.vec e (y::ys))⟩,[(s.up.length,d),(s.up.length,d+FE)]):=by unfold sH;simp[I3,h]
theorem BBI{k:Nat}(h:k<=1000)(a0 a1 a2 a3 a4:Int):BZ bg 206 k [[i a0,i a1,i a2,i a3,i a4]]=true:=by rw[CC (by simp) (by simp)];simp[maxLen];omega
def rv(k γ:Nat):List (List V)->V
 |[]=>.nil
 |e::es=>.vec 1 k γ (e::es).length
abbrev bxW(c:AU)(g:Nat)(v:V):AX:=.box (AE c++[v,.mp 1 51 (g+1)])
theorem ABP{l:List oP}{j:Nat}(hj:j<l.length):(encA (E5 l j)).set j (i l[j].good.1)=encA (E5 l (j+1)):=by
 apply List.ext_getElem (by simp[encA,E5]);intro p h1 h2;have hp:p<5:=by simpa [encA,E5]using h2
 rw[List.getElem_set];simp only[encA,E5,List.getElem_map,List.getElem_range];by_cases e:j=p
 ·subst e;rw[if_pos rfl,if_pos (by omega),bj,bk hj];rfl
 ·rw[if_neg e];by_cases hlt:p<j
  ·rw[if_pos hlt,if_pos (by omega)]
  ·rw[if_neg hlt,if_neg (by omega)]
theorem ABQ{l:List oP}{j:Nat}(hj:j<l.length)(h5:l.length<=5):(encA (E5 l j)).take j++i l[j].good.1::(encA (E5 l j)).drop (j+1)=encA (E5 l (j+1)):=by rw[<-ABP hj,List.set_eq_take_append_cons_drop,if_pos (by simp[encA,E5];omega)]
theorem jS(l:List oP)(j:Nat):(encA (E5 l j)).length=5:=by simp[encA,E5]
theorem AMA(B:AA)(g x γ:Nat)(X1 X53:AX)(S:List (List V))(l:List oP)(h5:l.length<=5)(v54 v55 v56:V):∀(e j y:Nat),j+e=l.length->x<y->∃(y':Nat),y<=y'/\∀n m,e<m->BT (AF bg ann kn (n+300) 85) SP (ann 85 (CA SP)) m ⟨y,[(7,true,.ptr 1 53 (g+2) 0),(10,true,.ptr 1 10 x 0),(54,true,v54),(55,true,v55),(56,true,v56),(60,true,.list false (l.map PH)),(61,true,i l.length),(62,true,i j)],⟨[B],(1,g,X1)::(10,x,.box (encA (E5 l j)))::(51,g+1,.map [])::(53,g+2,X53)::pl 80 γ 206 S⟩⟩ =
  some (.exit 2,⟨y',[(63,true,.bool false),(7,true,.ptr 1 53 (g+2) 0),(10,true,.ptr 1 10 x 0),(54,true,v54),(55,true,v55),(56,true,v56),(60,true,.list false (l.map PH)),(61,true,i l.length),(62,true,i l.length)],⟨[B],(1,g,X1)::(10,x,.box (encA (E5 l l.length)))::(51,g+1,.map [])::(53,g+2,X53)::pl 80 γ 206 S⟩⟩)
 |0,j,y,hm,hc=>by
  obtain rfl:j=l.length:=by omega
  refine⟨y,bz _,fun n m hm=>?_⟩;obtain⟨m,rfl⟩:=qNz m (by omega);generalize encA (E5 l l.length)=A;rw[AB];cases S<;>simp
 |e+1,j,y,hm,hc=>by
  have hj:j<l.length:=by omega
  have hw:=CB (k:=j) (by omega);have hset:=ABQ hj h5;have hlen:=jS l j;obtain⟨y',hy,ih⟩:=AMA B g x γ X1 X53 S l h5 v54 v55 v56 e (j+1) (y+1) (by omega) (by omega);refine⟨y',by omega,fun n m hm=>?_⟩;obtain⟨m,rfl⟩:=qNz m (by omega);have ih:=ih n m (by omega);rw[<-hset]at ih;generalize encA (E5 l l.length)=fin at *;generalize encA (E5 l j)=A at *;rw[AB];have hj5:(j:Int)<5:=by omega
  cases S<;>(simp[PH]at ih;simp[hj,hw,hj5,hlen,PH,AW,show j<=4 by omega,show x<y+1 by omega,ih])
theorem AMB(c:AU)(B:AA)(g:Nat)(R:List (List oP))(hR:R.length<=100)(hRl:∀l∈R,l.length<=5):∀(e k x γ:Nat),k+e=R.length->g+2<x->∃(x' γ':Nat),x<=x'/\∀n m,e<m->BT (AF bg ann kn (n+600) 85) SQ (ann 85 (CA SQ)) m ⟨x,[(7,true,.ptr 1 53 (g+2) 0),(54,true,.list false (R.map HN)),(55,true,i R.length),(56,true,i k)],⟨[B],(1,g,.box (AE c))::(51,g+1,.map [])::(53,g+2,bxW c g (rv 80 γ ((R.take k).map fun l=>encA (E5 l l.length))))::pl 80 γ 206 ((R.take k).map fun l=>encA (E5 l l.length))⟩⟩ =
  some (.exit 0,⟨x',[(57,true,.bool false),(7,true,.ptr 1 53 (g+2) 0),(54,true,.list false (R.map HN)),(55,true,i R.length),(56,true,i R.length)],⟨[B],(1,g,.box (AE c))::(51,g+1,.map [])::(53,g+2,bxW c g (rv 80 γ' (R.map fun l=>encA (E5 l l.length))))::pl 80 γ' 206 (R.map fun l=>encA (E5 l l.length))⟩⟩)
 |0,k,x,γ,hm,hc=>by
  obtain rfl:k=R.length:=by omega
  rw[List.take_length];refine⟨x,γ,bz _,fun n m hm=>?_⟩;obtain⟨m,rfl⟩:=qNz m (by omega);generalize hS:R.map (fun l=>encA (E5 l l.length))=S;rw[AB];cases S<;>simp[AE,rv]
 |e+1,k,x,γ,hm,hc=>by
  have hk:k<R.length:=by omega
  have hw:=CB (k:=k) (by omega);have hl5:=hRl R[k] (List.getElem_mem hk);have hst:(R.take (k+1)).map (fun l=>encA (E5 l l.length))=(R.take k).map (fun l=>encA (E5 l l.length))++[encA (E5 R[k] R[k].length)]:=by rw[bq hk,List.map_append];rfl
  have hSl:((R.take k).map fun l=>encA (E5 l l.length)).length=k:=by rw[List.length_map,List.length_take];omega
  obtain⟨y',hy,q15⟩:=AMA B g x γ (.box (AE c)) (bxW c g (rv 80 γ ((R.take k).map fun l=>encA (E5 l l.length)))) ((R.take k).map fun l=>encA (E5 l l.length)) R[k] hl5 (.list false (R.map HN)) (i R.length) (i k) R[k].length 0 (x+1) (by omega) (by omega);have q15:=fun n m=>q15 n (m+100) (by omega);have h0:encA (E5 R[k] 0)=[i 0,i 0,i 0,i 0,i 0]:=rfl;obtain⟨a0,a1,a2,a3,a4,hA⟩:=xD R[k] R[k].length;have hS5:∀e∈(R.take k).map (fun l=>encA (E5 l l.length)),e.length=5:=fun e he=>by obtain⟨l,_,rfl⟩:=List.mem_map.1 he;exact jS l _
  have hp5:Nat.beq 5 1=false:=rfl;have hap:=BBI (k:=((R.take k).map fun l=>encA (E5 l l.length)).length) (by omega) a0 a1 a2 a3 a4;obtain⟨x',γ',hxx,ih⟩:=AMB c B g R hR hRl e (k+1) (y'+1) y' (by omega) (by omega);refine⟨x',γ',by omega,fun n m hm=>?_⟩;obtain⟨m,rfl⟩:=qNz m (by omega);have ih:=ih n m (by omega);rw[hst,hA]at ih;rw[hA,h0]at q15;generalize (R.take k).map (fun l=>encA (E5 l l.length))=S at *;generalize R.map (fun l=>encA (E5 l l.length))=fin at *;rw[AB];cases S with
  |nil=>
   simp[AE,rv,bxW]at ih q15 hap
   simp[AE,rv,bxW,hk,hw,HN,q15,ih,hap,DJ,FE,AW,GP,show x<y'+1 by omega,show g+2<y'+1 by omega,show g+1<y'+1 by omega,BH,BJ,A0,D3,DO,hp5]
  |cons s S=>
   have hs5:=hS5 s (by simp)
   have hS6:∀e∈S,e.length=5:=fun e he=>hS5 e (by simp[he])
   have hS7:=eq_true hS6
   simp[AE,rv,bxW]at ih q15 hap
   simp[AE,rv,bxW,hk,hw,HN,q15,ih,hap,DJ,FE,AW,show x<y'+1 by omega,show g+2<y'+1 by omega,show g+1<y'+1 by omega,BH,BJ,A0,D3,DO,hp5,hs5,hS7]
theorem BBJ(st:XS):LR [911051,912053] st=(fun s=>aW 53 (KY 0 s) 911 [] s) (aW 51 (KY 0 st) 910 [] st):=rfl
def AV(c:AU):List (List Int):=(FG c.beach (FJ c.beach) c.plan c.beach.rows.toNat).map fun l=>E5 l l.length
def DH(c:AU)(γ:Nat):List V:=AE c++[.list false ((AV c).map encA),.mp 0 910 γ]
theorem tM(c:AU)(hc:CW c)(B:AA)(hB:∀t:St,1<=t.up.length->AJ t B=B)(g d:Nat)(fr:Fr):∃g',g+3<=g'/\∀n,HQ (BL bg ann kn (n+8000)) (some d) ⟨g,fr,⟨[],B⟩⟩ 71 [.agg (AE c)] =
  some ⟨g',(d,true,.tup [.ptr 0 911 (g+2) 0,i 0])::fr,⟨[],(911,g+2,.box (DH c (g+1)))::(910,g+1,.map [])::B⟩⟩:=by
 have hb:=hc.be
 have hbe:=YB c
 rw[if_neg (by simp[MB hb]),if_neg (by simp[hc.pl]),if_neg hc.tr]at hbe
 have q1:=fun n=>oH n c.beach hb.w40 c.plan
 rw[hbe]at q1
 have hb1:(IC c.beach c.plan).1=FG c.beach (FJ c.beach) c.plan c.beach.rows.toNat:=by unfold IC;rw[if_pos (MB hb),if_pos hc.pl,if_neg fun hh=>hc.tr (MQ.1 hh)]
 have hro:=hb.ro
 have hpc:=hb.pl
 have hbl:(FG c.beach (FJ c.beach) c.plan c.beach.rows.toNat).length=c.beach.rows.toNat:=by simp[FG]
 have hbn:FG c.beach (FJ c.beach) c.plan c.beach.rows.toNat≠[]:=fun e=>by rw[e]at hbl;simp at hbl;omega
 have hb5:∀l∈FG c.beach (FJ c.beach) c.plan c.beach.rows.toNat,l.length<=5:=fun l hl=>by obtain⟨r,_,rfl⟩:=List.mem_map.1 hl;simp[QM];omega
 rw[hb1,slX hbn]at q1
 have hfl:=hc.fl
 have hch:=hc.ch
 have h3':¬(3:Int)<(c.fams.length:Int):=by omega
 have qa:=fun n=>AL7 n 200 121 HF c.fams (by omega) (fun n f _=>tL n f)
 have qr:=fun n=>AL6 n 200 c 118 (fun l=>decide ((l.length:Int)=c.beach.places)) c.chairs (by omega) (fun n l _=>AL8 n c l)
 rw[bw.2 fun f hf=>by
  have:=hc.fo f hf;simp only[HF,Bool.and_eq_true,D7];exact this]at qa
 rw[bw.2 fun l hl=>decide_eq_true (hc.cr l hl)]at qr
 simp only[bc,Nat.reduceAdd]at qa qr
 unfold DH AV
 generalize FG c.beach (FJ c.beach) c.plan c.beach.rows.toNat=R at *
 obtain⟨g',γ',hg',q11⟩:=AMB c B g R (by omega) hb5 R.length 0 (g+3) 0 (by omega) (by omega)
 have q11:=fun n m=>q11 n (m+100) (by omega)
 refine⟨g',by omega,fun n=>?_⟩
 have hS:(R.map fun l=>E5 l l.length).map encA=R.map fun l=>encA (E5 l l.length):=by rw[List.map_map];rfl
 rw[hS]
 obtain⟨s0,S,hSS⟩:∃s0 S,R.map (fun l=>encA (E5 l l.length))=s0::S:=List.exists_cons_of_ne_nil (fun e:R.map (fun l=>encA (E5 l l.length))=[]=>hbn (List.map_eq_nil_iff.1 e))
 rw[hSS]at q11|-
 rw[wC Tryz.func71 b71 rfl (by simp)]
 simp only[AC,AE,List.take_zero,List.map_nil]at q1 qr qa q11|-
 simp[rv,bxW,AE]at q11
 simp[c71,AD,h3',q1,qr,qa,hch,AO,AZ,AP,hB,q11,bc,BBJ,L8,UU,UT,KJ,cA,PJ,L6,PK,L7,CT,CD,DY,UW,CO,CZ,PL,CV,KI,I0]
theorem tN(c:AU)(k γ:Nat)(t:St):AJ t [(k,γ,.box (AE c))]=[(k,γ,.box (AE c))]:=by simp[AE,AH,AM,AL,AO,AZ,AP]
theorem tO{c:AU}{k:Nat}(h:k<c.fams.length):DS c k=c.fams[k]:=by unfold DS;rw[bj,bk h];rfl
theorem AZ2(n:Nat)(c:AU)(a b:Nat)(ha:a<c.fams.length)(hb:b<c.fams.length):BA bg kn (AF bg ann kn (n+300)) 173 [.agg (AE c),i a,i b]=some (.bool (RP c a b)):=by
 rw[AR rfl,AS Tryz.func173 BCV rfl (by simp[AE,AH,AM,AL,AO,AZ,AP])];unfold RP;rw[tO ha,tO hb];have e:decide ((a:Int)=(b:Int))=decide (a=b):=decide_eq_decide.2 (by omega);have e2:decide (a≠b)=!decide (a=b):=by simp
 rw[e2];generalize decide (a=b)=z at *;rcases hF1:c.fams[a]with⟨s1,g1,d1,h1⟩;rcases hF2:c.fams[b]with⟨s2,g2,d2,h2⟩;simp only[AE];have p1:Nat.beq 4 1=false:=rfl;cases z<;>cases d1<;>cases h1<;>cases d2<;>cases h2<;>simp[A11,AD,e,ha,hb,hF1,hF2,AP,AW,BH,BJ,A0,D3,DO,DJ,FE,p1]
theorem AO4(n:Nat)(c:AU)(x y:Sp)(hx:x.fam<c.fams.length)(hy:y.fam<c.fams.length)(p1:-1000<=x.place/\x.place<=1000)(p2:-1000<=y.place/\y.place<=1000)(s1:0<=x.size/\x.size<=1000)(s2:0<=y.size/\y.size<=1000):BA bg kn (AF bg ann kn (n+400)) 139 [.agg (AE c),.agg (A6 x),.agg (A6 y)]=some (.bool (GI c x y)):=by
 rw[AR rfl,AS Tryz.func139 BCW rfl (by simp[AE,AH,AM,AL,AO,AZ,AP,A6])];have qm:=fun n=>AZ2 n c x.fam y.fam hx hy;have w1:IntKind.i64.wrap (x.place-y.place)=x.place-y.place:=AY (by omega) (by omega);have w2:IntKind.i64.wrap (x.place-y.place-y.size)=x.place-y.place-y.size:=AY (by omega) (by omega);have w3:IntKind.i64.wrap (y.place-x.place)=y.place-x.place:=AY (by omega) (by omega);have w4:IntKind.i64.wrap (y.place-x.place-x.size)=y.place-x.place-x.size:=AY (by omega) (by omega);unfold GI;by_cases hr:x.row=y.row
 ·rw[show decide (x.row≠y.row)=false from decide_eq_false (by simpa using hr),Bool.false_or];have e:oQ x y=(if x.place-y.place-y.size<y.place-x.place-x.size then y.place-x.place-x.size else x.place-y.place-y.size):=by unfold oQ;split<;>omega
  generalize RP c x.fam y.fam=z at *;generalize oQ x y=m at *;by_cases h0:0<m
  ·simp only[AE]at qm|-;simp[ACM,AD,A6,w1,w2,w3,w4,qm,hr,<-e,h0]
  ·by_cases h1:m=0
   ·simp only[AE]at qm|-;cases z<;>simp[ACM,AD,A6,AO,AZ,AP,w1,w2,w3,w4,qm,hr,<-e,h0,h1]
   ·simp only[AE]at qm|-;simp[ACM,AD,A6,w1,w2,w3,w4,qm,hr,<-e,h0,h1]
 ·rw[show decide (x.row≠y.row)=true from decide_eq_true hr,Bool.true_or];simp only[AE];simp[ACM,AD,A6,hr]
theorem oW(l:List Bool){j:Nat}(hj:j<l.length):(l.take (j+1)).count true=(l.take j).count true+(if l[j]=true then 1 else 0):=by rw[bq hj,List.count_append];congr 1;cases l[j]<;>rfl
theorem AZ3(cs:List (List Bool))(l:List Bool)(hl:l.length<=100)(N r c:Nat)(hN:N<=100000)(X1:AX):∀(d j:Nat),j+d=l.length->∀n m,d<m->BT (AF bg ann kn (n+200) 26) SS (ann 26 (CA SS)) m ⟨c,[(2,true,i ((N+(l.take j).count true:Nat):Int)),(8,true,.list false (cs.map AO)),(9,true,i cs.length),(10,true,i r),(14,true,lb l),(15,true,i l.length),(16,true,i j)],⟨[],[(1,0,X1)]⟩⟩ =
  some (.exit 2,⟨c,[(17,true,.bool false),(2,true,i ((N+l.count true:Nat):Int)),(8,true,.list false (cs.map AO)),(9,true,i cs.length),(10,true,i r),(14,true,lb l),(15,true,i l.length),(16,true,i l.length)],⟨[],[(1,0,X1)]⟩⟩)
 |0,j,hd,n,m+1,hm=>by
  obtain rfl:j=l.length:=by omega
  rw[List.take_length,AB];simp
 |d+1,j,hd,n,m+1,hm=>by
  have hj:j<l.length:=by omega
  have hw:=CB (k:=j) (by omega);have ih:=AZ3 cs l hl N r c hN X1 d (j+1) (by omega) n m (by omega);rw[oW l hj]at ih;have hcl:(l.take j).count true<=100:=by have:=bx (a:=true) (l:=l.take j);rw[List.length_take]at this;omega
  generalize (l.take j).count true=C at *;have hwC:IntKind.i64.wrap (((N+C:Nat):Int)+1)=((N+(C+1):Nat):Int):=by rw[AY (by omega) (by omega)];omega
  have hwC2:IntKind.i64.wrap ((N:Int)+(C:Int)+1)=((N:Int)+((C:Int)+1)):=by rw[AY (by omega) (by omega)];omega
  generalize l.count true=T at *;rw[AB];cases hz:l[j]with
  |true=>
   rw[hz,if_pos rfl]at ih
   simp at ih
   simp[hj,hw,hz,AZ,hwC,hwC2,ih]
  |false=>
   rw[hz,if_neg (by decide),Nat.add_zero]at ih
   simp at ih
   simp[hj,hw,hz,AZ,ih]
theorem AZ4(cs:List (List Bool))(hl:cs.length<=100)(hr:∀l∈cs,l.length<=100)(c:Nat)(X1:AX):∀(d j N:Nat),j+d=cs.length->N<=100*j->∀n m,d<m->BT (AF bg ann kn (n+400) 26) SU (ann 26 (CA SU)) m ⟨c,[(2,true,i N),(8,true,.list false (cs.map AO)),(9,true,i cs.length),(10,true,i j)],⟨[],[(1,0,X1)]⟩⟩ =
  some (.exit 0,⟨c,[(11,true,.bool false),(2,true,i ((N+((cs.drop j).map fun l=>l.count true).sum:Nat):Int)),(8,true,.list false (cs.map AO)),(9,true,i cs.length),(10,true,i cs.length)],⟨[],[(1,0,X1)]⟩⟩)
 |0,j,N,hd,hN,n,m+1,hm=>by
  obtain rfl:j=cs.length:=by omega
  rw[AB];simp
 |d+1,j,N,hd,hN,n,m+1,hm=>by
  have hj:j<cs.length:=by omega
  have hw:=CB (k:=j) (by omega);have hlj:=hr cs[j] (List.getElem_mem hj);have q:=fun n m=>AZ3 cs cs[j] hlj N j c (by omega) X1 cs[j].length 0 (by omega) n (m+101) (by omega);have hcl:=bx (a:=true) (l:=cs[j]);have ih:=AZ4 cs hl hr c X1 d (j+1) (N+cs[j].count true) (by omega) (by omega) n m (by omega);have hs:N+cs[j].count true+((cs.drop (j+1)).map fun l=>l.count true).sum=N+((cs.drop j).map fun l=>l.count true).sum:=by rw[List.drop_eq_getElem_cons hj,List.map_cons,List.sum_cons];omega
  rw[hs]at ih;generalize ((cs.drop j).map fun l=>l.count true).sum=T at *;generalize cs[j].count true=C at *;simp only[List.take_zero,List.count_nil,Nat.add_zero]at q;rw[AB];simp at ih q;simp[hj,hw,AO,q,ih]
theorem AHN(n:Nat)(c:AU)(hl:c.chairs.length<=100)(hr:∀l∈c.chairs,l.length<=100):BA bg kn (AF bg ann kn (n+600)) 140 [.agg (AE c)]=some (i (G5 c)):=by rw[AR rfl,AS Tryz.func140 BCX rfl (by simp[AE,AH,AM,AL,AO,AZ,AP])];have q:=fun n m=>AZ4 c.chairs hl hr 1 (.box (AE c)) c.chairs.length 0 0 (by omega) (by omega) n (m+101) (by omega);have e:((c.chairs.drop 0).map fun l=>l.count true).sum=G5 c:=rfl;rw[e,Nat.zero_add]at q;generalize G5 c=T at *;simp only[AE]at q|-;simp at q;simp[A12,AD,q]
def CN(g:Nat×Int):List V:=[i (g.1:Int),i g.2]
def C7(fs:List QN)(out:List Int):Nat->List (Nat×Int)
 |0=>[]
 |k+1=>C7 fs out k++(if decide ((k:Int)∈out)=true then[] else[(k,(fs.getD k ⟨0,0,false,false⟩).size)])
def BG(c:AU)(out:List Int):List (Nat×Int):=C7 c.fams out c.fams.length
theorem WB(fs:List QN)(out:List Int):∀k,(C7 fs out k).length<=k
 |0=>bz _
 |k+1=>by have:=WB fs out k;simp only[C7,List.length_append];split<;>simp<;>omega
theorem BBK{k:Nat}{l:List (Nat×Int)}(h:k+l.length<=1000):BZ bg 151 k (l.map CN)=true:=by rw[CC (by simp) (by simp)];simp[maxLen,CN];omega
theorem AO5(fs:List QN)(hl:fs.length<=30)(out:List Int)(ho:out.length<=40)(X2:AX):∀(d k c γ:Nat),k+d=fs.length->∃c' γ',∀n m,d<m->BT (AF bg ann kn (n+1600) 28) YO (ann 28 (CA YO)) m ⟨c,[(1,true,li out),(4,true,pv 25 γ ((C7 fs out k).map CN)),(8,true,.list false (fs.map AP)),(9,true,i fs.length),(10,true,i k)],⟨[],(2,0,X2)::pl 25 γ 151 ((C7 fs out k).map CN)⟩⟩ =
  some (.exit 0,⟨c',[(11,true,.bool false),(1,true,li out),(4,true,pv 25 γ' ((C7 fs out fs.length).map CN)),(8,true,.list false (fs.map AP)),(9,true,i fs.length),(10,true,i fs.length)],⟨[],(2,0,X2)::pl 25 γ' 151 ((C7 fs out fs.length).map CN)⟩⟩)
 |0,k,c,γ,hd=>by
  obtain rfl:k=fs.length:=by omega
  refine⟨c,γ,fun n m hm=>?_⟩;obtain⟨m,rfl⟩:=qNz m (by omega);generalize C7 fs out fs.length=R;rw[AB];cases R<;>simp
 |d+1,k,c,γ,hd=>by
  have hk:k<fs.length:=by omega
  have hw:=CB (k:=k) (by omega);have hgl:=WB fs out k;have qC:=fun n=>V4 n out (k:Int) (by omega);have hg:fs.getD k ⟨0,0,false,false⟩=fs[k]:=by rw[bj,bk hk];rfl
  have hst:C7 fs out (k+1)=C7 fs out k++(if decide ((k:Int)∈out)=true then[] else[(k,fs[k].size)]):=by rw[<-hg];rfl
  have hap:=BBK (k:=(C7 fs out k).length) (l:=[(k,fs[k].size)]) (by rw[List.length_singleton];omega);generalize decide ((k:Int)∈out)=z at *;generalize hfk:fs[k]=f at *;cases z with
  |true=>
   obtain⟨c',γ',ih⟩:=AO5 fs hl out ho X2 d (k+1) (c+1) γ (by omega)
   refine⟨c',γ',fun n m hm=>?_⟩
   obtain⟨m,rfl⟩:=qNz m (by omega)
   have ih:=ih n m (by omega)
   rw[hst,if_pos rfl,List.append_nil]at ih
   generalize C7 fs out fs.length=fin at *
   generalize C7 fs out k=R at *
   rw[AB]
   cases R<;>(simp[CN]at ih;simp[hk,hw,hfk,AP,CN,qC,AW,ih])
  |false=>
   obtain⟨c',γ',ih⟩:=AO5 fs hl out ho X2 d (k+1) (c+2) (c+1) (by omega)
   refine⟨c',γ',fun n m hm=>?_⟩
   obtain⟨m,rfl⟩:=qNz m (by omega)
   have ih:=ih n m (by omega)
   rw[hst,if_neg (by decide)]at ih
   generalize C7 fs out fs.length=fin at *
   generalize C7 fs out k=R at *
   rw[AB]
   cases R with
   |nil=>simp[CN,pv]at ih hap;simp[hk,hw,hfk,AP,CN,qC,hap,AW,ih,pv]
   |cons r R=>simp[CN]at ih hap;simp[hk,hw,hfk,AP,CN,qC,hap,AW,ih]
theorem tP(n:Nat)(c:AU)(hl:c.fams.length<=30)(out:List Int)(ho:out.length<=40):BA bg kn (AF bg ann kn (n+2000)) 92 [.agg (AE c),li out]=some (sl ((BG c out).map CN)):=by
 rw[AR rfl,AS Tryz.func92 b92 rfl (by simp[AE,AH,AM,AL,AO,AZ,AP])];obtain⟨c',γ',q⟩:=AO5 c.fams hl out ho (.box (AE c)) c.fams.length 0 1 0 (by omega);have q:=fun n m=>q n (m+100) (by omega);have e:C7 c.fams out c.fams.length=BG c out:=rfl;rw[e,show C7 c.fams out 0=[] from rfl]at q;generalize hG:BG c out=G at *;have hcl:(G.map CN).all (fun e=>e.all (AG 8))=true:=by simp[CN]
 generalize G.map CN=R at *;simp only[AE,List.map_nil]at q|-;simp at q;simp[c92,AD,q];exact fun e he v hv=>bw.1 (bw.1 hcl e he) v hv
def l7:Option (Nat×List V)->AA
 |none=>[]
 |some (γ,cs)=>[(7,γ,.box cs)]
end Go.Proofs.Tryz.Op
namespace Go.Wind
end Go.Wind
namespace Go.Proofs.Tryz.Op
theorem WC(fs:List QN):∀k,k<=fs.length->C7 fs [] k=(bf k).map fun j=>(j,(fs.getD j ⟨0,0,false,false⟩).size)
 |0,_=>rfl
 |k+1,h=>by rw[C7,WC fs k (by omega),List.range_succ,List.map_append];simp
theorem YD(c:AU):(BG c []).length=c.fams.length:=by have e:BG c []=(bf c.fams.length).map fun j=>(j,(c.fams.getD j ⟨0,0,false,false⟩).size):=WC c.fams _ (bz _);rw[e];simp
end Go.Proofs.Tryz.Op
namespace Go.Wind
end Go.Wind
namespace Go.Proofs.Tryz.Op
end Go.Proofs.Tryz.Op
