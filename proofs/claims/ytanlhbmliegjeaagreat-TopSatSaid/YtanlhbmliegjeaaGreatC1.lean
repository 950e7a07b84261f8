/- Contracts: a valid family, a row of chairs. No condition. -/
import Derived.Test.YtanlhbmliegjeaaGreatA1
open Go.Proofs.Tryz renaming prog->cg
open List renaming take_succ_eq_append_getElem->bj,getD_eq_getElem?_getD->bk,getElem?_eq_getElem->bq,getElem_mem->bw,length_take->bx,eq_nil_of_length_eq_zero->bb,take_length->bc,mem_of_mem_take->bf,all_eq_true->bg,map_append->bp,length_map->cj,mem_map->ck,length_singleton->cq,count_le_length->cw,getElem_range->cx,range->cd
open Nat renaming add_assoc->bz,reduceAdd->bm,le_refl->bn,add_zero->cz
open Bool renaming and_eq_true->bh
set_option maxRecDepth 100000
set_option linter.unusedSimpArgs false
open Go Go.Pg Go.Proofs Go.Wind
namespace Go.Proofs.Tryz.Op
theorem RB(n:Nat)(x lo hi:Int):AZ cg kn (AE cg ann kn (n+50)) 75 [i x,i lo,i hi]=some (.bool (HB x lo hi)):=by rw[AP rfl,AQ Tryz.func75 b75 rfl (by simp)];unfold HB;generalize e1:decide (lo<=x)=z1;generalize e2:decide (x<=hi)=z2;cases z1<;>cases z2<;>simp[c75,AD,e1,e2]
theorem tN(n:Nat)(f:TD):AZ cg kn (AE cg ann kn (n+200)) 44 [.agg (AU f)]=some (.bool (KO f)):=by rw[AP rfl,AQ Tryz.func44 b44 rfl (by simp[AU])];have q1:=fun n=>RB n f.size 1 4;have q2:=fun n=>RB n f.good 0 5;unfold KO;generalize HB f.size 1 4=z1 at *;generalize HB f.good 0 5=z2 at *;cases z1<;>cases z2<;>simp[c44,AD,AU,q1,q2]
theorem AK1(n:Nat)(c:A0)(l:List Bool):AZ cg kn (AE cg ann kn (n+200)) 41 [.agg (AF c),lb l]=some (.bool (decide ((l.length:Int)=c.beach.places))):=by rw[AP rfl,AQ Tryz.func41 b41 rfl (by simp[AF,AH,AN,AM,AS,BD,AU])];generalize e1:decide ((l.length:Int)=c.beach.places)=z1;cases z1<;>simp[c41,AD,AF,e1]
theorem ME{b:AL}:(EU b [] b.winds []).isEmpty=true↔BC b=[]:=by
 rw[List.isEmpty_iff];constructor<;>intro h<;>refine List.eq_nil_iff_forall_not_mem.2 fun t ht=>?_
 ·have:=(WR b t).2 (EM.1 ht);rw[h]at this;cases this
 ·have:=EM.2 ((WR b t).1 ht);rw[h]at this;cases this
theorem WY(c:A0):(HW c.beach c.plan).2=if C6 c.beach≠0 then C6 c.beach else if C5 c.beach c.plan=false then 2 else if BC c.beach=[] then 11 else 0:=by
 unfold HW;by_cases h:C6 c.beach=0
 ·simp only[h,ne_eq,not_true_eq_false,if_true,if_false];cases hp:C5 c.beach c.plan with
  |false=>rfl
  |true=>
   simp only[if_true,Bool.true_eq_false,if_false]
   by_cases ht:BC c.beach=[]
   ·rw[if_pos (ME.2 ht),if_pos ht]
   ·rw[if_neg fun hh=>ht (ME.1 hh),if_neg ht]
 ·rw[if_neg h,if_pos h]
theorem WZ(c:A0)(h40:∀l∈c.beach.winds,l.length<=40)(hch:c.chairs.length<=40)(h:¬EQ c=0)(B:AA)(hB:∀t:St,1<=t.up.length->AJ t B=B)(g d:Nat)(fr:Fr):∀n,GH (BH cg ann kn (n+8000)) (some d) ⟨g,fr,⟨[],B⟩⟩ 18 [.agg (AF c)] =
  some ⟨g+1,(d,true,.tup [.raw (.pointer none),i (EQ c)])::fr,⟨[],B⟩⟩:=by
 intro n
 rw[wG Tryz.func18 b18 rfl (by simp)]
 have q1:=fun n=>oK n c.beach h40 c.plan
 rw[WY]at q1
 unfold EQ at h|-
 by_cases h3:3<c.fams.length
 ·have h3':(3:Int)<(c.fams.length:Int):=by omega
  rw[if_pos h3];simp[c18,AD,AF,h3',hB]
 ·have h3':¬(3:Int)<(c.fams.length:Int):=by omega
  rw[if_neg h3]at h|-;have qa:=fun n=>AK0 n 200 44 KO c.fams (by omega) (fun n f _=>tN n f);have qr:=fun n=>AKZ n 200 c 41 (fun l=>decide ((l.length:Int)=c.beach.places)) c.chairs hch (fun n l _=>AK1 n c l);by_cases h4:C6 c.beach≠0
  ·rw[if_pos h4]at q1|-;generalize (HW c.beach c.plan).1=R at q1;generalize C6 c.beach=E at *;simp only[AB,AF]at q1|-;simp[c18,AD,h3',q1,h4,hB]
  ·rw[if_neg h4]at q1 h|-;cases h5:C5 c.beach c.plan with
   |false=>
    rw[h5,if_pos rfl]at q1
    rw[if_pos rfl]
    generalize (HW c.beach c.plan).1=R at q1
    simp only[AB,AF]at q1|-
    simp[c18,AD,h3',q1,hB]
   |true=>
    rw[h5,if_neg (by decide)]at q1 h
    rw[if_neg (by decide)]
    by_cases h6:BC c.beach=[]
    ·rw[if_pos h6]at q1|-;generalize (HW c.beach c.plan).1=R at q1;simp only[AB,AF]at q1|-;simp[c18,AD,h3',q1,hB]
    ·rw[if_neg h6]at q1 h|-;have hc1:(if G7 c=false then(1:Int) else if c.fams.all KO=false then 1 else 0)=1:=by
      split at h
      ·rw[if_pos (by assumption)]
      ·rw[if_neg (by assumption)];split at h
       ·rw[if_pos (by assumption)]
       ·exact absurd rfl h
     rw[hc1];simp only[bz,bm]at qa qr;generalize (HW c.beach c.plan).1=R at q1;by_cases hl:(c.chairs.length:Int)=c.beach.rows
     ·cases hr:c.chairs.all (fun l=>decide ((l.length:Int)=c.beach.places))with
      |false=>
       rw[hr]at qr
       simp only[AB,AF]at q1 qr|-
       simp[c18,AD,h3',q1,qr,hl,hB,AS,BD,AU]
      |true=>
       rw[hr]at qr
       cases hf:c.fams.all KO with
       |true=>
        exfalso
        rw[if_neg (by simp[G7,hl,hr]),if_neg (by simp[hf])]at h
        exact h rfl
       |false=>
        rw[hf]at qa
        simp only[AB,AF]at q1 qr qa|-
        simp[c18,AD,h3',q1,qr,qa,hl,hB,AS,BD,AU]
     ·simp only[AB,AF]at q1|-;simp[c18,AD,h3',q1,hl,hB]
def ER(l:List oU)(n:Nat):List Int:=(cd 5).map fun p=>if p<n then(l.getD p ⟨0,(0,0),(0,0)⟩).good.1 else 0
def encA(l:List Int):List V:=l.map fun x=>i x
theorem xC(l:List oU)(n:Nat):∃a0 a1 a2 a3 a4:Int,encA (ER l n)=[i a0,i a1,i a2,i a3,i a4]:=⟨_,_,_,_,_,rfl⟩
theorem ES{P:Program}{fr:Fr}{s:St}(e d c:Nat)(y:List V)(ys:List (List V))(h:CG P e 0 (y::ys)=true):adV P e d c fr s .nil (y::ys)=some (⟨c+1,(d,true,.vec s.up.length d c (ys.length+1))::fr,s.put s.up.length d c (.vec e (y::ys))⟩,[(s.up.length,d),(s.up.length,d+IL)]):=by unfold adV;simp[I2,h]
theorem BBF{k:Nat}(h:k<=1000)(a0 a1 a2 a3 a4:Int):CG cg 117 k [[i a0,i a1,i a2,i a3,i a4]]=true:=by rw[C3 (by simp) (by simp)];simp[maxLen];omega
def rv(k γ:Nat):List (List V)->V
 |[]=>.nil
 |e::es=>.vec 1 k γ (e::es).length
abbrev bxW(c:A0)(g:Nat)(v:V):AX:=.box (AF c++[v,.mp 1 51 (g+1)])
theorem ABD{l:List oU}{j:Nat}(hj:j<l.length):(encA (ER l j)).set j (i l[j].good.1)=encA (ER l (j+1)):=by
 apply List.ext_getElem (by simp[encA,ER]);intro p h1 h2;have hp:p<5:=by simpa [encA,ER]using h2
 rw[List.getElem_set];simp only[encA,ER,List.getElem_map,cx];by_cases e:j=p
 ·subst e;rw[if_pos rfl,if_pos (by omega),bk,bq hj];rfl
 ·rw[if_neg e];by_cases hlt:p<j
  ·rw[if_pos hlt,if_pos (by omega)]
  ·rw[if_neg hlt,if_neg (by omega)]
theorem ABE{l:List oU}{j:Nat}(hj:j<l.length)(h5:l.length<=5):(encA (ER l j)).take j++i l[j].good.1::(encA (ER l j)).drop (j+1)=encA (ER l (j+1)):=by rw[<-ABD hj,List.set_eq_take_append_cons_drop,if_pos (by simp[encA,ER];omega)]
theorem jO(l:List oU)(j:Nat):(encA (ER l j)).length=5:=by simp[encA,ER]
theorem AK3(B:AA)(g x γ:Nat)(X1 X53:AX)(S:List (List V))(l:List oU)(h5:l.length<=5)(v54 v55 v56:V):∀(e j y:Nat),j+e=l.length->x<y->∃(y':Nat),y<=y'/\∀n m,e<m->BG (AE cg ann kn (n+300) 85) RO (ann 85 (BX RO)) m ⟨y,[(7,true,.ptr 1 53 (g+2) 0),(10,true,.ptr 1 10 x 0),(54,true,v54),(55,true,v55),(56,true,v56),(60,true,.list false (l.map OZ)),(61,true,i l.length),(62,true,i j)],⟨[B],(1,g,X1)::(10,x,.box (encA (ER l j)))::(51,g+1,.map [])::(53,g+2,X53)::pl 80 γ 117 S⟩⟩ =
  some (.exit 2,⟨y',[(63,true,.bool false),(7,true,.ptr 1 53 (g+2) 0),(10,true,.ptr 1 10 x 0),(54,true,v54),(55,true,v55),(56,true,v56),(60,true,.list false (l.map OZ)),(61,true,i l.length),(62,true,i l.length)],⟨[B],(1,g,X1)::(10,x,.box (encA (ER l l.length)))::(51,g+1,.map [])::(53,g+2,X53)::pl 80 γ 117 S⟩⟩)
 |0,j,y,hm,hc=>by
  obtain rfl:j=l.length:=by omega
  refine⟨y,bn _,fun n m hm=>?_⟩;obtain⟨m,rfl⟩:=qNz m (by omega);generalize encA (ER l l.length)=A;rw[AC];cases S<;>simp
 |e+1,j,y,hm,hc=>by
  have hj:j<l.length:=by omega
  have hw:=BS (k:=j) (by omega);have hset:=ABE hj h5;have hlen:=jO l j;obtain⟨y',hy,ih⟩:=AK3 B g x γ X1 X53 S l h5 v54 v55 v56 e (j+1) (y+1) (by omega) (by omega);refine⟨y',by omega,fun n m hm=>?_⟩;obtain⟨m,rfl⟩:=qNz m (by omega);have ih:=ih n m (by omega);rw[<-hset]at ih;generalize encA (ER l l.length)=fin at *;generalize encA (ER l j)=A at *;rw[AC];have hj5:(j:Int)<5:=by omega
  cases S<;>(simp[OZ]at ih;simp[hj,hw,hj5,hlen,OZ,A2,show j<=4 by omega,show x<y+1 by omega,ih])
theorem AK4(c:A0)(B:AA)(g:Nat)(R:List (List oU))(hR:R.length<=100)(hRl:∀l∈R,l.length<=5):∀(e k x γ:Nat),k+e=R.length->g+2<x->∃(x' γ':Nat),x<=x'/\∀n m,e<m->BG (AE cg ann kn (n+600) 85) RP (ann 85 (BX RP)) m ⟨x,[(7,true,.ptr 1 53 (g+2) 0),(54,true,.list false (R.map GY)),(55,true,i R.length),(56,true,i k)],⟨[B],(1,g,.box (AF c))::(51,g+1,.map [])::(53,g+2,bxW c g (rv 80 γ ((R.take k).map fun l=>encA (ER l l.length))))::pl 80 γ 117 ((R.take k).map fun l=>encA (ER l l.length))⟩⟩ =
  some (.exit 0,⟨x',[(57,true,.bool false),(7,true,.ptr 1 53 (g+2) 0),(54,true,.list false (R.map GY)),(55,true,i R.length),(56,true,i R.length)],⟨[B],(1,g,.box (AF c))::(51,g+1,.map [])::(53,g+2,bxW c g (rv 80 γ' (R.map fun l=>encA (ER l l.length))))::pl 80 γ' 117 (R.map fun l=>encA (ER l l.length))⟩⟩)
 |0,k,x,γ,hm,hc=>by
  obtain rfl:k=R.length:=by omega
  rw[bc];refine⟨x,γ,bn _,fun n m hm=>?_⟩;obtain⟨m,rfl⟩:=qNz m (by omega);generalize hS:R.map (fun l=>encA (ER l l.length))=S;rw[AC];cases S<;>simp[AF,rv]
 |e+1,k,x,γ,hm,hc=>by
  have hk:k<R.length:=by omega
  have hw:=BS (k:=k) (by omega);have hl5:=hRl R[k] (bw hk);have hst:(R.take (k+1)).map (fun l=>encA (ER l l.length))=(R.take k).map (fun l=>encA (ER l l.length))++[encA (ER R[k] R[k].length)]:=by rw[bj hk,bp];rfl
  have hSl:((R.take k).map fun l=>encA (ER l l.length)).length=k:=by rw[cj,bx];omega
  obtain⟨y',hy,q15⟩:=AK3 B g x γ (.box (AF c)) (bxW c g (rv 80 γ ((R.take k).map fun l=>encA (ER l l.length)))) ((R.take k).map fun l=>encA (ER l l.length)) R[k] hl5 (.list false (R.map GY)) (i R.length) (i k) R[k].length 0 (x+1) (by omega) (by omega);have q15:=fun n m=>q15 n (m+100) (by omega);have h0:encA (ER R[k] 0)=[i 0,i 0,i 0,i 0,i 0]:=rfl;obtain⟨a0,a1,a2,a3,a4,hA⟩:=xC R[k] R[k].length;have hS5:∀e∈(R.take k).map (fun l=>encA (ER l l.length)),e.length=5:=fun e he=>by obtain⟨l,_,rfl⟩:=ck.1 he;exact jO l _
  have hp5:Nat.beq 5 1=false:=rfl;have hap:=BBF (k:=((R.take k).map fun l=>encA (ER l l.length)).length) (by omega) a0 a1 a2 a3 a4;obtain⟨x',γ',hxx,ih⟩:=AK4 c B g R hR hRl e (k+1) (y'+1) y' (by omega) (by omega);refine⟨x',γ',by omega,fun n m hm=>?_⟩;obtain⟨m,rfl⟩:=qNz m (by omega);have ih:=ih n m (by omega);rw[hst,hA]at ih;rw[hA,h0]at q15;generalize (R.take k).map (fun l=>encA (ER l l.length))=S at *;generalize R.map (fun l=>encA (ER l l.length))=fin at *;rw[AC];cases S with
  |nil=>
   simp[AF,rv,bxW]at ih q15 hap
   simp[AF,rv,bxW,hk,hw,GY,q15,ih,hap,ED,IL,A2,ES,show x<y'+1 by omega,show g+2<y'+1 by omega,show g+1<y'+1 by omega,B8,CL,BM,F3,FD,hp5]
  |cons s S=>
   have hs5:=hS5 s (by simp)
   have hS6:∀e∈S,e.length=5:=fun e he=>hS5 e (by simp[he])
   have hS7:=eq_true hS6
   simp[AF,rv,bxW]at ih q15 hap
   simp[AF,rv,bxW,hk,hw,GY,q15,ih,hap,ED,IL,A2,show x<y'+1 by omega,show g+2<y'+1 by omega,show g+1<y'+1 by omega,B8,CL,BM,F3,FD,hp5,hs5,hS7]
theorem BBG(st:XS):K7 [911051,912053] st=(fun s=>cI 53 (L7 0 s) 911 [] s) (cI 51 (L7 0 st) 910 [] st):=rfl
def AY(c:A0):List (List Int):=(E0 c.beach (DZ c.beach) c.plan c.beach.rows.toNat).map fun l=>ER l l.length
def D4(c:A0)(γ:Nat):List V:=AF c++[.list false ((AY c).map encA),.mp 0 910 γ]
theorem tO(c:A0)(hc:CJ c)(B:AA)(hB:∀t:St,1<=t.up.length->AJ t B=B)(g d:Nat)(fr:Fr):∃g',g+3<=g'/\∀n,GH (BH cg ann kn (n+8000)) (some d) ⟨g,fr,⟨[],B⟩⟩ 18 [.agg (AF c)] =
  some ⟨g',(d,true,.tup [.ptr 0 911 (g+2) 0,i 0])::fr,⟨[],(911,g+2,.box (D4 c (g+1)))::(910,g+1,.map [])::B⟩⟩:=by
 have hb:=hc.be
 have hbe:=WY c
 rw[if_neg (by simp[IX hb]),if_neg (by simp[hc.pl]),if_neg hc.tr]at hbe
 have q1:=fun n=>oK n c.beach hb.w40 c.plan
 rw[hbe]at q1
 have hb1:(HW c.beach c.plan).1=E0 c.beach (DZ c.beach) c.plan c.beach.rows.toNat:=by unfold HW;rw[if_pos (IX hb),if_pos hc.pl,if_neg fun hh=>hc.tr (ME.1 hh)]
 have hro:=hb.ro
 have hpc:=hb.pl
 have hbl:(E0 c.beach (DZ c.beach) c.plan c.beach.rows.toNat).length=c.beach.rows.toNat:=by simp[E0]
 have hbn:E0 c.beach (DZ c.beach) c.plan c.beach.rows.toNat≠[]:=fun e=>by rw[e]at hbl;simp at hbl;omega
 have hb5:∀l∈E0 c.beach (DZ c.beach) c.plan c.beach.rows.toNat,l.length<=5:=fun l hl=>by obtain⟨r,_,rfl⟩:=ck.1 hl;simp[NC];omega
 rw[hb1,slX hbn]at q1
 have hfl:=hc.fl
 have hch:=hc.ch
 have h3':¬(3:Int)<(c.fams.length:Int):=by omega
 have qa:=fun n=>AK0 n 200 44 KO c.fams (by omega) (fun n f _=>tN n f)
 have qr:=fun n=>AKZ n 200 c 41 (fun l=>decide ((l.length:Int)=c.beach.places)) c.chairs (by omega) (fun n l _=>AK1 n c l)
 rw[bg.2 fun f hf=>by
  have:=hc.fo f hf;simp only[KO,bh,DV];exact this]at qa
 rw[bg.2 fun l hl=>decide_eq_true (hc.cr l hl)]at qr
 simp only[bz,bm]at qa qr
 unfold D4 AY
 generalize E0 c.beach (DZ c.beach) c.plan c.beach.rows.toNat=R at *
 obtain⟨g',γ',hg',q11⟩:=AK4 c B g R (by omega) hb5 R.length 0 (g+3) 0 (by omega) (by omega)
 have q11:=fun n m=>q11 n (m+100) (by omega)
 refine⟨g',by omega,fun n=>?_⟩
 have hS:(R.map fun l=>ER l l.length).map encA=R.map fun l=>encA (ER l l.length):=by rw[List.map_map];rfl
 rw[hS]
 obtain⟨s0,S,hSS⟩:∃s0 S,R.map (fun l=>encA (ER l l.length))=s0::S:=List.exists_cons_of_ne_nil (fun e:R.map (fun l=>encA (ER l l.length))=[]=>hbn (List.map_eq_nil_iff.1 e))
 rw[hSS]at q11|-
 rw[wG Tryz.func18 b18 rfl (by simp)]
 simp only[AB,AF,List.take_zero,List.map_nil]at q1 qr qa q11|-
 simp[rv,bxW,AF]at q11
 simp[c18,AD,h3',q1,qr,qa,hch,AS,BD,AU,hB,q11,bz,BBG,LM,TN,TM,JY,bN,O1,LJ,O2,LK,LL,F5,O3,TP,GF,G9,O4,GG,JX,H8]
theorem tP(c:A0)(k γ:Nat)(t:St):AJ t [(k,γ,.box (AF c))]=[(k,γ,.box (AF c))]:=by simp[AF,AH,AN,AM,AS,BD,AU]
theorem oZ(n:Nat)(c:A0)(h40:∀l∈c.beach.winds,l.length<=40)(hch:c.chairs.length<=40):AZ cg kn (AE cg ann kn (n+8200)) 31 [.agg (AF c)]=some (i (EQ c)):=by
 rw[AP rfl,AQ Tryz.func31 b31 rfl (by simp[AF,AH,AN,AM,AS,BD,AU])];by_cases h:EQ c=0
 ·obtain⟨g',hg,q⟩:=tO c (K9 h) [(1,0,.box (AF c))] (fun t _=>tP c 1 0 t) 1 7 [(6,true,.agg (AF c)),(1,true,.ptr 0 1 0 0)];have q:=fun n=>q (n+197);rw[h];simp only[AF,D4,bz,bm]at q|-;simp[c31,AD,AS,BD,AU,q]
 ·have q:=WZ c h40 hch h [(1,0,.box (AF c))] (fun t _=>tP c 1 0 t) 1 7 [(6,true,.agg (AF c)),(1,true,.ptr 0 1 0 0)];have q:=fun n=>q (n+197);generalize EQ c=E at *;simp only[AF,bz,bm]at q|-;simp[c31,AD,AS,BD,AU,q]
theorem tQ{c:A0}{k:Nat}(h:k<c.fams.length):GO c k=c.fams[k]:=by unfold GO;rw[bk,bq h];rfl
theorem AZH(n:Nat)(c:A0)(a b:Nat)(ha:a<c.fams.length)(hb:b<c.fams.length):AZ cg kn (AE cg ann kn (n+300)) 106 [.agg (AF c),i a,i b]=some (.bool (cS c a b)):=by
 rw[AP rfl,AQ Tryz.func106 BB6 rfl (by simp[AF,AH,AN,AM,AS,BD,AU])];unfold cS;rw[tQ ha,tQ hb];have e:decide ((a:Int)=(b:Int))=decide (a=b):=decide_eq_decide.2 (by omega);have e2:decide (a≠b)=!decide (a=b):=by simp
 rw[e2];generalize decide (a=b)=z at *;rcases hF1:c.fams[a]with⟨s1,g1,d1,h1⟩;rcases hF2:c.fams[b]with⟨s2,g2,d2,h2⟩;simp only[AF];have p1:Nat.beq 4 1=false:=rfl;cases z<;>cases d1<;>cases h1<;>cases d2<;>cases h2<;>simp[A0F,AD,e,ha,hb,hF1,hF2,AU,A2,B8,CL,BM,F3,FD,ED,IL,p1]
theorem AZI(n:Nat)(c:A0)(x:Sp)(h1:0<=c.beach.rows/\c.beach.rows<=1000)(h2:0<=c.beach.places/\c.beach.places<=1000)(h3:0<=x.size/\x.size<=1000):AZ cg kn (AE cg ann kn (n+300)) 93 [.agg (AF c),.agg (AO x)]=some (.bool (JJ c x)):=by rw[AP rfl,AQ Tryz.func93 b93 rfl (by simp[AF,AH,AN,AM,AS,BD,AU,AO])];have w1:IntKind.i64.wrap (c.beach.rows-1)=c.beach.rows-1:=AW (by omega) (by omega);have w2:IntKind.i64.wrap (c.beach.places-x.size)=c.beach.places-x.size:=AW (by omega) (by omega);have q1:=fun n=>RB n x.row 0 (c.beach.rows-1);have q2:=fun n=>RB n x.place 0 (c.beach.places-x.size);unfold JJ;generalize HB x.row 0 (c.beach.rows-1)=z1 at *;generalize HB x.place 0 (c.beach.places-x.size)=z2 at *;simp only[AF];cases z1<;>cases z2<;>simp[c93,AD,AO,w1,w2,q1,q2]
theorem ABF(n:Nat)(c:A0)(x y:Sp)(hx:x.fam<c.fams.length)(hy:y.fam<c.fams.length)(p1:-1000<=x.place/\x.place<=1000)(p2:-1000<=y.place/\y.place<=1000)(s1:0<=x.size/\x.size<=1000)(s2:0<=y.size/\y.size<=1000):AZ cg kn (AE cg ann kn (n+400)) 82 [.agg (AF c),.agg (AO x),.agg (AO y)]=some (.bool (FA c x y)):=by
 rw[AP rfl,AQ Tryz.func82 b82 rfl (by simp[AF,AH,AN,AM,AS,BD,AU,AO])];have qm:=fun n=>AZH n c x.fam y.fam hx hy;have w1:IntKind.i64.wrap (x.place-y.place)=x.place-y.place:=AW (by omega) (by omega);have w2:IntKind.i64.wrap (x.place-y.place-y.size)=x.place-y.place-y.size:=AW (by omega) (by omega);have w3:IntKind.i64.wrap (y.place-x.place)=y.place-x.place:=AW (by omega) (by omega);have w4:IntKind.i64.wrap (y.place-x.place-x.size)=y.place-x.place-x.size:=AW (by omega) (by omega);unfold FA;by_cases hr:x.row=y.row
 ·rw[show decide (x.row≠y.row)=false from decide_eq_false (by simpa using hr),Bool.false_or];have e:wX x y=(if x.place-y.place-y.size<y.place-x.place-x.size then y.place-x.place-x.size else x.place-y.place-y.size):=by unfold wX;split<;>omega
  generalize cS c x.fam y.fam=z at *;generalize wX x y=m at *;by_cases h0:0<m
  ·simp only[AF]at qm|-;simp[c82,AD,AO,w1,w2,w3,w4,qm,hr,<-e,h0]
  ·by_cases h1:m=0
   ·simp only[AF]at qm|-;cases z<;>simp[c82,AD,AO,AS,BD,AU,w1,w2,w3,w4,qm,hr,<-e,h0,h1]
   ·simp only[AF]at qm|-;simp[c82,AD,AO,w1,w2,w3,w4,qm,hr,<-e,h0,h1]
 ·rw[show decide (x.row≠y.row)=true from decide_eq_true hr,Bool.true_or];simp only[AF];simp[c82,AD,AO,hr]
theorem pA(l:List Bool){j:Nat}(hj:j<l.length):(l.take (j+1)).count true=(l.take j).count true+(if l[j]=true then 1 else 0):=by rw[bj hj,List.count_append];congr 1;cases l[j]<;>rfl
theorem AZJ(cs:List (List Bool))(l:List Bool)(hl:l.length<=100)(N r c:Nat)(hN:N<=100000)(X1:AX):∀(d j:Nat),j+d=l.length->∀n m,d<m->BG (AE cg ann kn (n+200) 26) XW (ann 26 (BX XW)) m ⟨c,[(2,true,i ((N+(l.take j).count true:Nat):Int)),(8,true,.list false (cs.map AS)),(9,true,i cs.length),(10,true,i r),(14,true,lb l),(15,true,i l.length),(16,true,i j)],⟨[],[(1,0,X1)]⟩⟩ =
  some (.exit 2,⟨c,[(17,true,.bool false),(2,true,i ((N+l.count true:Nat):Int)),(8,true,.list false (cs.map AS)),(9,true,i cs.length),(10,true,i r),(14,true,lb l),(15,true,i l.length),(16,true,i l.length)],⟨[],[(1,0,X1)]⟩⟩)
 |0,j,hd,n,m+1,hm=>by
  obtain rfl:j=l.length:=by omega
  rw[bc,AC];simp
 |d+1,j,hd,n,m+1,hm=>by
  have hj:j<l.length:=by omega
  have hw:=BS (k:=j) (by omega);have ih:=AZJ cs l hl N r c hN X1 d (j+1) (by omega) n m (by omega);rw[pA l hj]at ih;have hcl:(l.take j).count true<=100:=by have:=cw (a:=true) (l:=l.take j);rw[bx]at this;omega
  generalize (l.take j).count true=C at *;have hwC:IntKind.i64.wrap (((N+C:Nat):Int)+1)=((N+(C+1):Nat):Int):=by rw[AW (by omega) (by omega)];omega
  have hwC2:IntKind.i64.wrap ((N:Int)+(C:Int)+1)=((N:Int)+((C:Int)+1)):=by rw[AW (by omega) (by omega)];omega
  generalize l.count true=T at *;rw[AC];cases hz:l[j]with
  |true=>
   rw[hz,if_pos rfl]at ih
   simp at ih
   simp[hj,hw,hz,BD,hwC,hwC2,ih]
  |false=>
   rw[hz,if_neg (by decide),cz]at ih
   simp at ih
   simp[hj,hw,hz,BD,ih]
theorem AZK(cs:List (List Bool))(hl:cs.length<=100)(hr:∀l∈cs,l.length<=100)(c:Nat)(X1:AX):∀(d j N:Nat),j+d=cs.length->N<=100*j->∀n m,d<m->BG (AE cg ann kn (n+400) 26) XX (ann 26 (BX XX)) m ⟨c,[(2,true,i N),(8,true,.list false (cs.map AS)),(9,true,i cs.length),(10,true,i j)],⟨[],[(1,0,X1)]⟩⟩ =
  some (.exit 0,⟨c,[(11,true,.bool false),(2,true,i ((N+((cs.drop j).map fun l=>l.count true).sum:Nat):Int)),(8,true,.list false (cs.map AS)),(9,true,i cs.length),(10,true,i cs.length)],⟨[],[(1,0,X1)]⟩⟩)
 |0,j,N,hd,hN,n,m+1,hm=>by
  obtain rfl:j=cs.length:=by omega
  rw[AC];simp
 |d+1,j,N,hd,hN,n,m+1,hm=>by
  have hj:j<cs.length:=by omega
  have hw:=BS (k:=j) (by omega);have hlj:=hr cs[j] (bw hj);have q:=fun n m=>AZJ cs cs[j] hlj N j c (by omega) X1 cs[j].length 0 (by omega) n (m+101) (by omega);have hcl:=cw (a:=true) (l:=cs[j]);have ih:=AZK cs hl hr c X1 d (j+1) (N+cs[j].count true) (by omega) (by omega) n m (by omega);have hs:N+cs[j].count true+((cs.drop (j+1)).map fun l=>l.count true).sum=N+((cs.drop j).map fun l=>l.count true).sum:=by rw[List.drop_eq_getElem_cons hj,List.map_cons,List.sum_cons];omega
  rw[hs]at ih;generalize ((cs.drop j).map fun l=>l.count true).sum=T at *;generalize cs[j].count true=C at *;simp only[List.take_zero,List.count_nil,cz]at q;rw[AC];simp at ih q;simp[hj,hw,AS,q,ih]
theorem tR(n:Nat)(c:A0)(hl:c.chairs.length<=100)(hr:∀l∈c.chairs,l.length<=100):AZ cg kn (AE cg ann kn (n+600)) 77 [.agg (AF c)]=some (i (GD c)):=by rw[AP rfl,AQ Tryz.func77 b77 rfl (by simp[AF,AH,AN,AM,AS,BD,AU])];have q:=fun n m=>AZK c.chairs hl hr 1 (.box (AF c)) c.chairs.length 0 0 (by omega) (by omega) n (m+101) (by omega);have e:((c.chairs.drop 0).map fun l=>l.count true).sum=GD c:=rfl;rw[e,Nat.zero_add]at q;generalize GD c=T at *;simp only[AF]at q|-;simp at q;simp[c77,AD,q]
def CT(g:Nat×Int):List V:=[i (g.1:Int),i g.2]
def DA(fs:List TD)(out:List Int):Nat->List (Nat×Int)
 |0=>[]
 |k+1=>DA fs out k++(if decide ((k:Int)∈out)=true then[] else[(k,(fs.getD k ⟨0,0,false,false⟩).size)])
def BT(c:A0)(out:List Int):List (Nat×Int):=DA c.fams out c.fams.length
theorem U7(fs:List TD)(out:List Int):∀k,(DA fs out k).length<=k
 |0=>bn _
 |k+1=>by have:=U7 fs out k;simp only[DA,List.length_append];split<;>simp<;>omega
theorem BBH{k:Nat}{l:List (Nat×Int)}(h:k+l.length<=1000):CG cg 127 k (l.map CT)=true:=by rw[C3 (by simp) (by simp)];simp[maxLen,CT];omega
theorem AOV(fs:List TD)(hl:fs.length<=30)(out:List Int)(ho:out.length<=40)(X2:AX):∀(d k c γ:Nat),k+d=fs.length->∃c' γ',∀n m,d<m->BG (AE cg ann kn (n+1600) 28) XY (ann 28 (BX XY)) m ⟨c,[(1,true,li out),(4,true,pv 25 γ ((DA fs out k).map CT)),(8,true,.list false (fs.map AU)),(9,true,i fs.length),(10,true,i k)],⟨[],(2,0,X2)::pl 25 γ 127 ((DA fs out k).map CT)⟩⟩ =
  some (.exit 0,⟨c',[(11,true,.bool false),(1,true,li out),(4,true,pv 25 γ' ((DA fs out fs.length).map CT)),(8,true,.list false (fs.map AU)),(9,true,i fs.length),(10,true,i fs.length)],⟨[],(2,0,X2)::pl 25 γ' 127 ((DA fs out fs.length).map CT)⟩⟩)
 |0,k,c,γ,hd=>by
  obtain rfl:k=fs.length:=by omega
  refine⟨c,γ,fun n m hm=>?_⟩;obtain⟨m,rfl⟩:=qNz m (by omega);generalize DA fs out fs.length=R;rw[AC];cases R<;>simp
 |d+1,k,c,γ,hd=>by
  have hk:k<fs.length:=by omega
  have hw:=BS (k:=k) (by omega);have hgl:=U7 fs out k;have qC:=fun n=>PN n out (k:Int) (by omega);have hg:fs.getD k ⟨0,0,false,false⟩=fs[k]:=by rw[bk,bq hk];rfl
  have hst:DA fs out (k+1)=DA fs out k++(if decide ((k:Int)∈out)=true then[] else[(k,fs[k].size)]):=by rw[<-hg];rfl
  have hap:=BBH (k:=(DA fs out k).length) (l:=[(k,fs[k].size)]) (by rw[cq];omega);generalize decide ((k:Int)∈out)=z at *;generalize hfk:fs[k]=f at *;cases z with
  |true=>
   obtain⟨c',γ',ih⟩:=AOV fs hl out ho X2 d (k+1) (c+1) γ (by omega)
   refine⟨c',γ',fun n m hm=>?_⟩
   obtain⟨m,rfl⟩:=qNz m (by omega)
   have ih:=ih n m (by omega)
   rw[hst,if_pos rfl,List.append_nil]at ih
   generalize DA fs out fs.length=fin at *
   generalize DA fs out k=R at *
   rw[AC]
   cases R<;>(simp[CT]at ih;simp[hk,hw,hfk,AU,CT,qC,A2,ih])
  |false=>
   obtain⟨c',γ',ih⟩:=AOV fs hl out ho X2 d (k+1) (c+2) (c+1) (by omega)
   refine⟨c',γ',fun n m hm=>?_⟩
   obtain⟨m,rfl⟩:=qNz m (by omega)
   have ih:=ih n m (by omega)
   rw[hst,if_neg (by decide)]at ih
   generalize DA fs out fs.length=fin at *
   generalize DA fs out k=R at *
   rw[AC]
   cases R with
   |nil=>simp[CT,pv]at ih hap;simp[hk,hw,hfk,AU,CT,qC,hap,A2,ih,pv]
   |cons r R=>simp[CT]at ih hap;simp[hk,hw,hfk,AU,CT,qC,hap,A2,ih]
theorem tS(n:Nat)(c:A0)(hl:c.fams.length<=30)(out:List Int)(ho:out.length<=40):AZ cg kn (AE cg ann kn (n+2000)) 46 [.agg (AF c),li out]=some (sl ((BT c out).map CT)):=by
 rw[AP rfl,AQ Tryz.func46 b46 rfl (by simp[AF,AH,AN,AM,AS,BD,AU])];obtain⟨c',γ',q⟩:=AOV c.fams hl out ho (.box (AF c)) c.fams.length 0 1 0 (by omega);have q:=fun n m=>q n (m+100) (by omega);have e:DA c.fams out c.fams.length=BT c out:=rfl;rw[e,show DA c.fams out 0=[] from rfl]at q;generalize hG:BT c out=G at *;have hcl:(G.map CT).all (fun e=>e.all (AG 8))=true:=by simp[CT]
 generalize G.map CT=R at *;simp only[AF,List.map_nil]at q|-;simp at q;simp[c46,AD,q];exact fun e he v hv=>bg.1 (bg.1 hcl e he) v hv
def l7:Option (Nat×List V)->AA
 |none=>[]
 |some (γ,cs)=>[(7,γ,.box cs)]
theorem ABG{s:St}(l:List Sp){j:Nat}(hj:j<=l.length):B0 cg s 94 (.list false (l.map AO)) none (some (i j)) none=some (.list false ((l.map AO).take j)):=by have:=sD (P:=cg) (s:=s) (T:=94) (e:=129) (es:=l.map AO) (h:=(j:Int)) (b:=false) (by kernel_rfl) (by simp) (by omega) (by rw[cj];omega);simpa using this
theorem xD(n:Nat)(c:A0)(x:Sp)(l:List Sp)(hl:l.length<=10)(hx:x.fam<c.fams.length/\(0<=x.size/\x.size<=1000)/\-1000<=x.place/\x.place<=1000)(hy:∀y∈l,y.fam<c.fams.length/\(0<=y.size/\y.size<=1000)/\-1000<=y.place/\y.place<=1000)(g d:Nat)(fr:Fr):∃g',g+1<=g'/\GH (BH cg ann kn (n+900)) (some d) ⟨g+1,fr,⟨[],[(2,0,.box (AF c)),(7,g,.box (AO x))]⟩⟩ 80 [.list false (l.map AO),.fn 94 [] [.ptr 0 2 0 0,.ptr 0 7 g 0]] =
  some ⟨g',(d,true,.bool (l.all (FA c x)))::fr,⟨[],[(2,0,.box (AF c)),(7,g,.box (AO x))]⟩⟩:=by
 obtain⟨c',h1,q⟩:=AOT n 600 0 (fun _=>[]) (fun _=>[(2,0,.box (AF c)),(7,g,.box (AO x))]) (by simp) (fun _=>True) 94 [.ptr 0 2 0 0,.ptr 0 7 g 0] (by simp) (by simp) (fun (_:Unit) y=>FA c x y) (fun _ _=>()) l (by omega) (by simp[AF,AH,AN,AM,AS,BD,AU,AO]) (by
   intro t γ ht;obtain⟨up,loc⟩:=t;have h0:¬0=up.length:=by simp at ht;omega
   simp[h0]) (g+1) (by
   intro n c1 γ fr s y hc hs hm;refine⟨fun h=>trivial,c1+1,by omega,?_⟩;obtain⟨y1,y2,y3⟩:=hy y hm;have qa:=fun n=>ABF n c x y hx.1 y1 hx.2.2 y3 hx.2.1 y2;simp only[List.nil_append,List.cons_append];rw[A3 Tryz.func94 b94 rfl (by simp)];generalize FA c x y=z at *;simp only[AF,AO]at qa |-;simp[c94,AD,AH,AN,AM,AS,BD,AU,qa]) d fr () trivial
 rw[E9]at q
 have hn:=JS (FA c x) l
 have e:n+600+300=n+900:=by omega
 rw[e]at q
 simp only at q
 rw[hn]at q
 exact⟨c',h1,q⟩
theorem AZL(n:Nat)(c:A0)(hc:CJ c)(l:List Sp)(hl:l.length<=10)(hs:∀x∈l,x.fam<c.fams.length/\1<=x.size/\x.size<=4):∀(d j g:Nat) (o:Option (Nat×List V)),j+d=l.length->0<g->DY c [] (l.take j)=true->∃g' o',∀m,d<m->BG (AE cg ann kn (n+1200) 37) XZ (ann 37 (BX XZ)) m ⟨g,[(1,true,.list false (l.map AO)),(2,true,.ptr 0 2 0 0),(5,true,i (E1 (l.take j))),(8,true,.list false (l.map AO)),(9,true,i l.length),(10,true,i j)],⟨[],(2,0,.box (AF c))::l7 o⟩⟩ =
  bif DY c [] l then some (.exit 0,⟨g',[(11,true,.bool false),(1,true,.list false (l.map AO)),(2,true,.ptr 0 2 0 0),(5,true,i (E1 l)),(8,true,.list false (l.map AO)),(9,true,i l.length),(10,true,i l.length)],⟨[],(2,0,.box (AF c))::l7 o'⟩⟩) else some (.ret,⟨g',[(4,true,.bool false)],⟨[],[]⟩⟩)
 |0,j,g,o,hd,hg,hok=>by
  obtain rfl:j=l.length:=by omega
  rw[bc]at hok|-;refine⟨g,o,fun m hm=>?_⟩;obtain⟨m,rfl⟩:=qNz m (by omega);rw[hok,AC];rcases o with _|⟨γ,cs⟩<;>simp[AF,l7]
 |d+1,j,g,o,hd,hg,hok=>by
  have hj:j<l.length:=by omega
  have hw:=BS (k:=j) (by omega);have hro:=hc.be.ro;have hpl:=hc.be.pl;obtain⟨x1,x2⟩:=hs l[j] (bw hj);have hps:=TG (l.take j) fun y hy=>by have:=(hs y (bf hy)).2;omega
  have htl:(l.take j).length<=10:=by rw[bx];omega
  have hwp:IntKind.i64.wrap (E1 (l.take j)+l[j].size)=E1 (l.take j)+l[j].size:=AW (by omega) (by omega);have qf:=fun n=>AZI n c l[j] (by omega) (by omega) (by omega);have ht:=jE c l hj;rw[hok,Bool.true_and]at ht;cases hf:JJ c l[j]with
  |false=>
   rw[hf]at qf
   rw[hf,Bool.false_and]at ht
   have hno:=WT c l (j+1) ht
   simp only[AF,AO]at qf
   refine⟨g+1,none,fun m hm=>?_⟩
   obtain⟨m,rfl⟩:=qNz m (by omega)
   rw[hno,AC]
   simp only[AF]
   rcases o with _|⟨γ,cs⟩<;>simp[hj,hw,hwp,AO,AS,BD,AU,qf,A2,l7]
  |true=>
   rw[hf]at qf
   rw[hf,Bool.true_and]at ht
   have hfits:=NS c (l.take j) [] hok
   have hfx:(0<=l[j].row/\l[j].row<=c.beach.rows-1)/\0<=l[j].place/\l[j].place<=c.beach.places-l[j].size:=by simpa only[JJ,bh,DV]using hf
   have hyy:∀y∈l.take j,y.fam<c.fams.length/\(0<=y.size/\y.size<=1000)/\-1000<=y.place/\y.place<=1000:=fun y hy=>by have h1:=hs y (bf hy);have h2:=hfits y hy;simp only[JJ,bh,DV]at h2;exact⟨h1.1,by omega,by omega⟩
   obtain⟨g1,hg1,qa⟩:=xD (n+292) c l[j] (l.take j) htl ⟨x1,by omega,by omega⟩ hyy g 29 [(28,true,.fn 94 [] [.ptr 0 2 0 0,.ptr 0 7 g 0]),(27,true,.list false ((l.take j).map AO)),(26,true,i j),(25,true,.list false (l.map AO)),(24,true,.bool false),(23,true,.bool false),(22,true,.bool true),(21,true,.agg (AO l[j])),(20,true,.agg (AF c)),(1,true,.list false (l.map AO)),(2,true,.ptr 0 2 0 0),(5,true,i (E1 (l.take j)+l[j].size)),(6,true,i j),(7,true,.ptr 0 7 g 0),(8,true,.list false (l.map AO)),(9,true,i l.length),(10,true,i j)]
   have qsl:=fun s=>ABG (s:=s) l (Nat.le_of_lt hj)
   rw[List.map_take]at qa
   simp only[AF,AO,bz,bm]at qf qa
   cases hz:(l.take j).all (FA c l[j])with
   |false=>
    rw[hz]at ht qa
    have hno:=WT c l (j+1) ht
    refine⟨g1,none,fun m hm=>?_⟩
    obtain⟨m,rfl⟩:=qNz m (by omega)
    rw[hno,AC]
    simp only[AF]
    rcases o with _|⟨γ,cs⟩<;>simp[hj,hw,hwp,AO,AS,BD,AU,qf,A2,l7,qsl,qa]
   |true=>
    rw[hz]at ht qa
    obtain⟨g',o',ih⟩:=AZL n c hc l hl hs d (j+1) g1 (some (g,AO l[j])) (by omega) (by omega) ht
    refine⟨g',o',fun m hm=>?_⟩
    obtain⟨m,rfl⟩:=qNz m (by omega)
    have ih:=ih m (by omega)
    rw[jF l hj]at ih
    generalize DY c [] l=Z at *
    generalize E1 l=PL at *
    rw[AC]
    simp only[AF,AO,l7]at ih|-
    simp at ih
    rcases o with _|⟨γ,cs⟩<;>simp[hj,hw,hwp,AO,AS,BD,AU,qf,A2,l7,qsl,qa,ih]
theorem AHE(n:Nat)(c:A0)(hc:CJ c)(l:List Sp)(hl:l.length<=10)(hs:∀x∈l,x.fam<c.fams.length/\1<=x.size/\x.size<=4):AZ cg kn (AE cg ann kn (n+1500)) 57 [.agg (AF c),.list false (l.map AO)]=some (.bool (JM c l)):=by
 rw[AP rfl,AQ Tryz.func57 b57 rfl (by simp[AF,AH,AN,AM,AS,BD,AU,AO])];obtain⟨g',o',q⟩:=AZL (n+294) c hc l hl hs l.length 0 1 none (by omega) (by omega) rfl;have q:=q (n+1494) (by omega);have hro:=hc.be.ro;have hpl:=hc.be.pl;have hch:=hc.ch;have qc:=fun n=>tR n c (by omega) (fun l hl=>by have:=hc.cr l hl;omega);unfold JM;have hps:=TG l fun y hy=>by have:=(hs y hy).2;omega
 rw[show E1 (l.take 0)=0 from rfl]at q;generalize DY c [] l=Z at *;generalize E1 l=PL at *;generalize GD c=CN at *;generalize e1:decide (PL<=(CN:Int))=z1;simp only[AF,l7,bz,bm]at q qc|-;simp at q;cases Z with
 |false=>
  simp at q
  simp[c57,AD,q]
 |true=>
  simp at q
  rcases o' with _|⟨γ,cs⟩<;>simp[l7]at q<;>simp[c57,AD,q,AS,BD,AU,qc,e1]
end Go.Proofs.Tryz.Op
namespace Go.Wind
theorem V1{c:A0}{ss:List (Int×Int)}(h:ss.length=c.fams.length){k:Nat}(hk:k<c.fams.length):(BF c ss).take (k+1)=(BF c ss).take k++[⟨k,c.fams[k].size,(ss[k]'(by omega)).1,(ss[k]'(by omega)).2⟩]:=by have hl:(BF c ss).length=c.fams.length:=FQ h;rw[bj (by omega)];have:=Q8 (k:=0) (fs:=c.fams) (ss:=ss) k hk (by omega) (by show k<(BF c ss).length;omega);rw[Nat.zero_add]at this;exact congrArg (fun y=>(BF c ss).take k++[y]) this
end Go.Wind
namespace Go.Proofs.Tryz.Op
theorem NT(fs:List TD):∀k,k<=fs.length->DA fs [] k=(cd k).map fun j=>(j,(fs.getD j ⟨0,0,false,false⟩).size)
 |0,_=>rfl
 |k+1,h=>by rw[DA,NT fs k (by omega),List.range_succ,bp];simp
theorem xE{c:A0}{k:Nat}(hk:k<c.fams.length)(h:k<(BT c []).length):(BT c [])[k]=(k,c.fams[k].size):=by have e:BT c []=(cd c.fams.length).map fun j=>(j,(c.fams.getD j ⟨0,0,false,false⟩).size):=NT c.fams _ (bn _);simp only[e,List.getElem_map,cx,bk,bq hk];rfl
theorem G8(c:A0):(BT c []).length=c.fams.length:=by have e:BT c []=(cd c.fams.length).map fun j=>(j,(c.fams.getD j ⟨0,0,false,false⟩).size):=NT c.fams _ (bn _);rw[e];simp
theorem appS{k:Nat}{l:List Sp}(h:k+l.length<=1000):CG cg 129 k (l.map AO)=true:=by rw[C3 (by simp) (by simp)];simp[maxLen,AO];omega
theorem AZM(c:A0)(hf:c.fams.length<=10)(ss:List (Int×Int))(hs:ss.length=c.fams.length)(X2:AX):∀(d k g γ:Nat),k+d=c.fams.length->∃g' γ',∀n m,d<m->BG (AE cg ann kn (n+1200) 37) X0 (ann 37 (BX X0)) m ⟨g,[(1,true,.list false (ss.map AM)),(2,true,.ptr 0 2 0 0),(6,true,pv 31 γ (((BF c ss).take k).map AO)),(16,true,.list false ((BT c []).map CT)),(17,true,i c.fams.length),(18,true,i k)],⟨[],(2,0,X2)::pl 31 γ 129 (((BF c ss).take k).map AO)⟩⟩ =
  some (.exit 0,⟨g',[(19,true,.bool false),(1,true,.list false (ss.map AM)),(2,true,.ptr 0 2 0 0),(6,true,pv 31 γ' ((BF c ss).map AO)),(16,true,.list false ((BT c []).map CT)),(17,true,i c.fams.length),(18,true,i c.fams.length)],⟨[],(2,0,X2)::pl 31 γ' 129 ((BF c ss).map AO)⟩⟩)
 |0,k,g,γ,hd=>by
  obtain rfl:k=c.fams.length:=by omega
  have hl:(BF c ss).length=c.fams.length:=FQ hs;rw[<-hl,bc,hl];refine⟨g,γ,fun n m hm=>?_⟩;obtain⟨m,rfl⟩:=qNz m (by omega);generalize BF c ss=R;rw[AC];cases R<;>simp
 |d+1,k,g,γ,hd=>by
  have hk:k<c.fams.length:=by omega
  have hks:k<ss.length:=by omega
  have hw:=BS (k:=k) (by omega);have hgk:k<(BT c []).length:=by rw[G8];omega
  have hg:=xE hk hgk;have hst:=V1 hs hk;have hl:(BF c ss).length=c.fams.length:=FQ hs;have htl:((BF c ss).take k).length=k:=by rw[bx];omega
  have hap:=appS (k:=((BF c ss).take k).length) (l:=[⟨k,c.fams[k].size,ss[k].1,ss[k].2⟩]) (by rw[cq];omega);obtain⟨g',γ',ih⟩:=AZM c hf ss hs X2 d (k+1) (g+2) (g+1) (by omega);refine⟨g',γ',fun n m hm=>?_⟩;obtain⟨m,rfl⟩:=qNz m (by omega);have ih:=ih n m (by omega);rw[hst]at ih;generalize BF c ss=fin at *;generalize fin.take k=R at *;generalize hG:BT c []=G at *;generalize c.fams[k].size=sz at *;rw[AC];cases R with
  |nil=>simp[CT,AO,AM,pv,pl]at ih hap;simp[hk,hks,hgk,hg,hw,CT,AO,AM,hap,A2,ih,pv,pl,ED,IL,ES,B8,CL,BM,F3,FD,show Nat.beq 2 1=false from rfl]
  |cons r R=>simp[CT,AO,AM,pv,pl]at ih hap;simp[hk,hks,hgk,hg,hw,CT,AO,AM,hap,A2,ih,pv,pl,ED,IL,ES,B8,CL,BM,F3,FD,show Nat.beq 2 1=false from rfl]
def MF(c:A0)(ss:List (Int×Int)):List Sp×Bool:=if ss.length=c.fams.length then(BF c ss,JM c (BF c ss)) else([],false)
theorem U8{c:A0}(hc:CJ c){ss:List (Int×Int)}(hs:ss.length=c.fams.length):∀x∈BF c ss,x.fam<c.fams.length/\1<=x.size/\x.size<=4:=fun x hx=>by have hl:(BF c ss).length=c.fams.length:=FQ hs;obtain⟨j,hj,rfl⟩:=List.getElem_of_mem hx;have:=Q8 (k:=0) (fs:=c.fams) (ss:=ss) j (by omega) (by omega) hj;have e:(BF c ss)[j]=⟨0+j,(c.fams[j]'(by omega)).size,(ss[j]'(by omega)).1,(ss[j]'(by omega)).2⟩:=this;rw[e];have hf:=hc.fo _ (bw (show j<c.fams.length by omega));exact⟨by simp only;omega,by simp only;omega,by simp only;omega⟩
theorem AOW(n:Nat)(c:A0)(hc:CJ c)(ss:List (Int×Int)):AZ cg kn (AE cg ann kn (n+2200)) 32 [.agg (AF c),.list false (ss.map AM)]=some (.tup [sl ((MF c ss).1.map AO),.bool (MF c ss).2]):=by
 rw[AP rfl,AQ Tryz.func32 b32 rfl (by simp[AF,AH,AN,AM,AS,BD,AU])];have slnil:sl ([]:List (List V))=.nil:=rfl;unfold MF;by_cases hs:ss.length=c.fams.length
 ·rw[if_pos hs];have hfl:=hc.fl;have hl:(BF c ss).length=c.fams.length:=FQ hs;have hsI:(ss.length:Int)=c.fams.length:=by omega
  have qS:=fun n=>AHE n c hc (BF c ss) (by omega) (U8 hc hs);have qG:∀n,AZ cg kn (AE cg ann kn (n+2000)) 46 [.agg (AF c),.list false []]=some (sl ((BT c []).map CT)):=fun n=>tS n c (by omega) [] (by simp);by_cases hG:BT c []=[]
  ·have h0:c.fams=[]:=bb (by rw[<-G8,hG];rfl);have hL:BF c ss=[]:=bb (by rw[hl,h0];rfl);rw[hG]at qG;rw[hL]at qS|-;generalize JM c []=Z at *;rw[h0]at hsI;simp only[AF,h0]at qS qG|-;simp at qS qG;simp[c32,AD,slnil,qG,qS,hsI,AM,AS,BD,AU,AC]
  ·obtain⟨g',γ',q⟩:=AZM c (by omega) ss hs (.box (AF c)) c.fams.length 0 1 0 (by omega);have q:=fun n m=>q n (m+100) (by omega);rw[slX hG]at qG;have gl:=G8 c;rw[show(BF c ss).take 0=[] from rfl]at q;generalize BF c ss=L at *;generalize JM c L=Z at *;generalize BT c []=G at *;simp only[AF]at q qS qG|-;simp at q qS qG;have hLn:L≠[]:=fun e=>hG (bb (by rw[gl,<-hl,e];rfl));have hsl:=slX (f:=AO) hLn;rw[hsl];simp[c32,AD,slnil,hsl,AO,qG,qS,hsI,gl,AM,AS,BD,AU,q]
 ·have hsI:¬(ss.length:Int)=c.fams.length:=by omega
  rw[if_neg hs];simp only[AF];simp[c32,AD,slnil,hsI,AM,AS,BD,AU]
end Go.Proofs.Tryz.Op
namespace Go.Wind
def GP(l:List IY):Int:=(l.map IY.good).sum
theorem W0(l:List IY)(x:IY):GP (l++[x])=GP l+x.good:=by unfold GP;rw[bp,List.sum_append];simp
theorem pB{l:List IY}{k:Nat}(h:k<l.length):GP (l.take (k+1))=GP (l.take k)+l[k].good:=by rw[bj h,W0]
theorem ABH{l:List IY}(h:∀x∈l,0<=x.good/\x.good<=100):0<=GP l/\GP l<=100*l.length:=by
 unfold GP;induction l with
 |nil=>simp
 |cons x l ih=>
  have h1:=h x (by simp)
  have h2:=ih fun y hy=>h y (by simp[hy])
  simp only[List.map_cons,List.sum_cons,List.length_cons]
  omega
theorem cX{l:List IY}{a:Nat}:∀{n:Nat},a+n<=l.length->GP ((l.take (a+n)).drop a)=BZ (fun p=>(l.getD (a+p) ⟨0,0,0⟩).good) n
 |0,h=>by rw[cz,List.drop_eq_nil_of_le (by rw[bx];omega)];rfl
 |n+1,h=>by have ih:=cX (l:=l) (a:=a) (n:=n) (by omega);rw[BZ,<-ih,<-bz,bj (by omega),List.drop_append_of_le_length (by rw[bx];omega),W0];rw[bk,bq (by omega)];rfl
end Go.Wind
namespace Go.Proofs.Tryz.Op
theorem W1{P:Program}{s:St}{r:Operand->Option V}(T:TypeId)(x l h:Operand):IA P (cQ (.slice T x (some l) (some h) none)) s r=(r x).bind fun a=>(r l).bind fun b=>(r h).bind fun c=>B0 P s T a (some b) (some c) none:=by show((r x).bind fun a=>((r l).map some).bind fun l=>((r h).map some).bind fun h=>(some none).bind fun m=>B0 P s T a l h m)=_;cases r x<;>cases r l<;>cases r h<;>rfl
theorem W2{P:Program}{r:Operand->Option V}(T:TypeId)(x:Operand)(l h m:Option Operand):GN P (.oth (.slice T x l h m)) r=E4 (r x):=rfl
theorem AZN(L:List Sp)(H:List (List IY))(O:List Int)(j γ:Nat)(M:List IY)(hM:M.length<=10)(hg:∀x∈M,0<=x.good/\x.good<=100):∀(d k c:Nat),k+d=M.length->∃c',c<=c'/\∀n m,d<m->BG (AE cg ann kn (n+600) 51) X3 (ann 51 (BX X3)) m ⟨c,[(2,true,.list false (H.map CR)),(6,true,pv 48 γ (O.map AH)),(9,true,i (GP (M.take k))),(12,true,.list false (L.map AO)),(13,true,i L.length),(14,true,i j),(34,true,.list false (M.map DS)),(35,true,i M.length),(36,true,i k)],⟨[],pl 48 γ 3 (O.map AH)⟩⟩ =
  some (.exit 2,⟨c',[(37,true,.bool false),(2,true,.list false (H.map CR)),(6,true,pv 48 γ (O.map AH)),(9,true,i (GP M)),(12,true,.list false (L.map AO)),(13,true,i L.length),(14,true,i j),(34,true,.list false (M.map DS)),(35,true,i M.length),(36,true,i M.length)],⟨[],pl 48 γ 3 (O.map AH)⟩⟩)
 |0,k,c,hd=>by
  obtain rfl:k=M.length:=by omega
  rw[bc];refine⟨c,bn _,fun n m hm=>?_⟩;obtain⟨m,rfl⟩:=qNz m (by omega);generalize GP M=S;rw[AC];cases O<;>simp
 |d+1,k,c,hd=>by
  have hk:k<M.length:=by omega
  have hw:=BS (k:=k) (by omega);have h1:=hg M[k] (bw hk);have h2:=ABH (l:=M.take k) fun x hx=>hg x (bf hx);have h3:(M.take k).length<=10:=by rw[bx];omega
  have hwg:IntKind.i64.wrap (GP (M.take k)+M[k].good)=GP (M.take k)+M[k].good:=AW (by omega) (by omega);obtain⟨c',hc,ih⟩:=AZN L H O j γ M hM hg d (k+1) (c+1) (by omega);refine⟨c',by omega,fun n m hm=>?_⟩;obtain⟨m,rfl⟩:=qNz m (by omega);have ih:=ih n m (by omega);rw[pB hk]at ih;generalize GP (M.take k)=S at *;generalize GP M=SS at *;rw[AC];cases O<;>(simp[DS]at ih;simp[hk,hw,hwg,DS,A2,ih])
theorem xF{s:St}(l:List IY){a b:Int}(h1:0<=a)(h2:a<=b)(h3:b<=l.length):B0 cg s 58 (.list false (l.map DS)) (some (i a)) (some (i b)) none=some (.list false (((l.take b.toNat).drop a.toNat).map DS)):=by
 have hT:BO cg 58=some (none,60):=by kernel_rfl
 simp only[B0,hT];rw[if_pos ⟨h1,h2,by rw[cj];exact h3,by simp,by rw[List.all_map,bg];intro x _;simp[DS]⟩,<-List.map_take,<-List.map_drop]
theorem AZO(L:List Sp)(hL:L.length<=10)(H:List (List IY))(hH:∀l∈H,l.length<=10)(hg:∀l∈H,∀x∈l,0<=x.good/\x.good<=100)(hr:H.length<=100)(hx:∀x∈L,0<=x.row/\x.row<H.length/\0<=x.place/\0<=x.size/\x.place+x.size<=(H.getD x.row.toNat []).length):∀(d j c γ:Nat),j+d=L.length->∃c' γ',∀n m,d<m->BG (AE cg ann kn (n+900) 51) X4 (ann 51 (BX X4)) m ⟨c,[(2,true,.list false (H.map CR)),(6,true,pv 48 γ (((L.take j).map (G4 H)).map AH)),(12,true,.list false (L.map AO)),(13,true,i L.length),(14,true,i j)],⟨[],pl 48 γ 3 (((L.take j).map (G4 H)).map AH)⟩⟩ =
  some (.exit 0,⟨c',[(15,true,.bool false),(2,true,.list false (H.map CR)),(6,true,pv 48 γ' ((L.map (G4 H)).map AH)),(12,true,.list false (L.map AO)),(13,true,i L.length),(14,true,i L.length)],⟨[],pl 48 γ' 3 ((L.map (G4 H)).map AH)⟩⟩)
 |0,j,c,γ,hd=>by
  obtain rfl:j=L.length:=by omega
  rw[bc];refine⟨c,γ,fun n m hm=>?_⟩;obtain⟨m,rfl⟩:=qNz m (by omega);generalize L.map (G4 H)=O;rw[AC];cases O<;>simp
 |d+1,j,c,γ,hd=>by
  have hj:j<L.length:=by omega
  have hw:=BS (k:=j) (by omega);obtain⟨x1,x2,x3,x4,x5⟩:=hx L[j] (bw hj);have hst:(L.take (j+1)).map (G4 H)=(L.take j).map (G4 H)++[G4 H L[j]]:=by rw[bj hj,bp];rfl
  have hOl:((L.take j).map (G4 H)).length=j:=by rw[cj,bx];omega
  have hrl:L[j].row.toNat<H.length:=by omega
  have hHe:H.getD L[j].row.toNat []=H[L[j].row.toNat]:=by rw[bk,bq hrl];rfl
  have hH1:=hH H[L[j].row.toNat] (bw hrl);have hG1:=hg H[L[j].row.toNat] (bw hrl);have hS:G4 H L[j]=GP (((H[L[j].row.toNat]).take (L[j].place+L[j].size).toNat).drop L[j].place.toNat):=by unfold G4;rw[hHe]at x5|-;rw[show(L[j].place+L[j].size).toNat=L[j].place.toNat+L[j].size.toNat by omega,cX (by omega)]
  rw[hHe]at x5;have hwp:IntKind.i64.wrap (L[j].place+L[j].size)=L[j].place+L[j].size:=AW (by omega) (by omega);have qs:=fun s=>xF (s:=s) H[L[j].row.toNat] x3 (show L[j].place<=L[j].place+L[j].size by omega) x5;rw[hS]at hst;generalize hM:((H[L[j].row.toNat]).take (L[j].place+L[j].size).toNat).drop L[j].place.toNat=M at *;have hMl:M.length<=10:=by rw[<-hM,List.length_drop,bx];omega
  have hMg:∀x∈M,0<=x.good/\x.good<=100:=fun x hx=>hG1 x (bf (List.mem_of_mem_drop (hM▸hx)));obtain⟨c1,hc1,q⟩:=AZN L H ((L.take j).map (G4 H)) j γ M hMl hMg M.length 0 (c+1) (by omega);have q:=fun n m=>q n (m+100) (by omega);obtain⟨c',γ',ih⟩:=AZO L hL H hH hg hr hx d (j+1) (c1+1) c1 (by omega);have hap:=AOK (k:=((L.take j).map (G4 H)).length) (x:=GP M) (by omega);refine⟨c',γ',fun n m hm=>?_⟩;obtain⟨m,rfl⟩:=qNz m (by omega);have ih:=ih n m (by omega);rw[hst]at ih;rw[show GP (M.take 0)=0 from rfl]at q;generalize L.map (G4 H)=fin at *;generalize (L.take j).map (G4 H)=O at *;generalize GP M=SM at *;generalize hX:L[j]=X at *;rw[AC];cases O with
  |nil=>simp[AO,AH,pv,pl]at ih hap q;simp[hj,hX,hw,hwp,x1,x2,hrl,qs,W1,W2,E4,q,AO,CR,AH,hap,A2,ih,pv,pl,ED,IL,ES,B8,CL,BM,F3,FD]
  |cons r R=>simp[AO,AH,pv,pl]at ih hap q;simp[hj,hX,hw,hwp,x1,x2,hrl,qs,W1,W2,E4,q,AO,CR,AH,hap,A2,ih,pv,pl,ED,IL,B8,CL,BM,F3,FD]
theorem AZP(n:Nat)(c:A0)(L:List Sp)(hL:L.length<=10)(H:List (List IY))(hH:∀l∈H,l.length<=10)(hg:∀l∈H,∀x∈l,0<=x.good/\x.good<=100)(hr:H.length<=100)(hx:∀x∈L,0<=x.row/\x.row<H.length/\0<=x.place/\0<=x.size/\x.place+x.size<=(H.getD x.row.toNat []).length):AZ cg kn (AE cg ann kn (n+1000)) 33 [.agg (AF c),.list false (L.map AO),.list false (H.map CR)]=some (sl ((L.map (G4 H)).map AH)):=by rw[AP rfl,AQ Tryz.func33 b33 rfl (by simp[AF,AH,AN,AM,AS,BD,AU,AO,CR,DS])];obtain⟨c',γ',q⟩:=AZO L hL H hH hg hr hx L.length 0 1 0 (by omega);have q:=fun n m=>q n (m+100) (by omega);rw[show((L.take 0).map (G4 H))=[] from rfl]at q;generalize L.map (G4 H)=O at *;simp only[AF]at q|-;simp at q;simp[c33,AD,q,AS,BD,AU,AO,CR,DS]
abbrev JW(c:A0)(t:List Int):List (List IY):=D6 c.beach c.plan t c.beach.rows.toNat
def tT(c:A0)(ss:List (Int×Int))(t:List Int):List Int×Int :=
 if EQ c≠0 then([],EQ c) else if FB c ss=true/\AV t c.beach.winds=true then((BF c ss).map (G4 (JW c t)),0) else([],2)
theorem fH{c:A0}(_:CJ c)(t:List Int)(_:t.length<=5):(JW c t).length=c.beach.rows.toNat/\(∀l∈JW c t,l.length=c.beach.places.toNat)/\∀l∈JW c t,∀x∈l,0<=x.good/\x.good<=t.length:=by
 refine⟨by simp[JW,D6],fun l hl=>?_,fun l hl x hx=>?_⟩
 ·simp only[JW,D6,ck]at hl;obtain⟨r,_,rfl⟩:=hl;simp[P1]
 ·simp only[JW,D6,ck]at hl;obtain⟨r,_,rfl⟩:=hl;simp only[P1,ck]at hx;obtain⟨q,_,rfl⟩:=hx;have:=iO (JC c.beach c.plan t r q) (K3 c.beach c.plan r) t.length;change 0<=(B7 c.beach c.plan t r q).sun/\(B7 c.beach c.plan t r q).sun<=t.length/\0<=(B7 c.beach c.plan t r q).calm/\(B7 c.beach c.plan t r q).calm<=t.length/\0<=(B7 c.beach c.plan t r q).good/\(B7 c.beach c.plan t r q).good<=t.length at this;exact⟨by omega,by omega⟩
theorem JN{c:A0}(hc:CJ c){ss:List (Int×Int)}(h:FB c ss=true):ss.length=c.fams.length/\∀x∈BF c ss,0<=x.row/\x.row<c.beach.rows/\0<=x.place/\(1<=x.size/\x.size<=4)/\x.place+x.size<=c.beach.places:=by simp only[FB,JM,bh,decide_eq_true_eq]at h;refine⟨h.1,fun x hx=>?_⟩;have h1:=NS c (BF c ss) [] h.2.1 x hx;have h2:=(U8 hc h.1 x hx).2;simp only[JJ,bh,DV]at h1;omega
theorem ABI{c:A0}(hc:CJ c)(t:List Int)(h5:t.length<=5){r:Int}(h0:0<=r)(h1:r<c.beach.rows):((JW c t).getD r.toNat []).length=c.beach.places.toNat:=by
 obtain⟨o1,o2,_⟩:=fH hc t h5;have hr:r.toNat<(JW c t).length:=by omega
 rw[bk,bq hr];exact o2 _ (bw hr)
theorem AOX(n:Nat)(c:A0)(hc:CJ c)(ss:List (Int×Int))(hs:FB c ss=true)(t:List Int)(ht:AV t c.beach.winds=true):AZ cg kn (AE cg ann kn (n+1000)) 33 [.agg (AF c),.list false ((BF c ss).map AO),.list false ((JW c t).map CR)]=some (sl (((BF c ss).map (G4 (JW c t))).map AH)):=by obtain⟨h1,h2⟩:=JN hc hs;have hlw:=CK ht;have hl5:=hc.be.hl;have hro:=hc.be.ro;have hpl:=hc.be.pl;have hfl:=hc.fl;obtain⟨o1,o2,o3⟩:=fH hc t (by omega);refine AZP n c _ (by rw[show(BF c ss).length=c.fams.length from FQ h1];omega) _ (fun l hl=>by rw[o2 l hl];omega) (fun l hl x hx=>by have:=o3 l hl x hx;omega) (by omega) fun x hx=>?_;obtain⟨x1,x2,x3,x4,x5⟩:=h2 x hx;rw[ABI hc t (by omega) x1 x2];omega
theorem AOY(n:Nat)(c:A0)(h40:∀l∈c.beach.winds,l.length<=40)(hch:c.chairs.length<=40)(ss:List (Int×Int))(t:List Int):AZ cg kn (AE cg ann kn (n+8400)) 12 [.agg (AF c),.list false (ss.map AM),li t]=some (.tup [sl ((tT c ss t).1.map AH),i (tT c ss t).2]):=by
 rw[AP rfl,AQ Tryz.func12 b12 rfl (by simp[AF,AH,AN,AM,AS,BD,AU])];have slnil:sl ([]:List (List V))=.nil:=rfl;have qc:=fun n=>oZ n c h40 hch;unfold tT;by_cases h:EQ c=0
 ·rw[if_neg (by simp[h])];have hc:=K9 h;have hfl:=hc.fl;have qs:=fun n=>AOW n c hc ss;have qp:=fun n=>AGE n c.beach h40 c.plan t;have hsv:(MF c ss).2=FB c ss:=by unfold MF FB;by_cases hs:ss.length=c.fams.length<;>simp[hs]
  rw[hsv]at qs;unfold oH at qp;rw[if_neg (by simp[IX hc.be])]at qp;rw[h]at qc;by_cases hs:FB c ss=true
  ·by_cases ht:AV t c.beach.winds=true
   ·have qu:=fun n=>AOX n c hc ss hs t ht;rw[if_pos ⟨hs,ht⟩];rw[if_pos ⟨hc.pl,ht⟩]at qp;rw[hs]at qs;have hsp:(MF c ss).1=BF c ss:=by unfold MF;rw[if_pos (JN hc hs).1]
    rw[hsp]at qs;simp only[JW]at qu|-;have hcl:∀v∈(((BF c ss).map (G4 (D6 c.beach c.plan t c.beach.rows.toNat))).map AH),∀x∈v,AG 8 x=true:=by simp[AH]
    generalize (BF c ss).map (G4 (D6 c.beach c.plan t c.beach.rows.toNat))=O at *;generalize BF c ss=L at *;generalize D6 c.beach c.plan t c.beach.rows.toNat=H at *;simp only[AF,AB]at qc qs qp qu|-;simp[c12,AD,slnil,qc,qs,qp,qu,AM,AS,BD,AU,AO,CR,DS]
   ·have ht:AV t c.beach.winds=false:=by simpa using ht
    rw[if_neg (by simp[ht])];rw[if_neg (by simp[ht])]at qp;generalize (MF c ss).1=L at *;generalize FB c ss=z at *;simp only[AF,AB]at qc qs qp|-;cases z<;>simp[c12,AD,slnil,qc,qs,qp,AM,AS,BD,AU,AO,CR,DS]
  ·have hs:FB c ss=false:=by simpa using hs
   rw[if_neg (by simp[hs])];rw[hs]at qs;generalize (MF c ss).1=L at *;by_cases ht:C5 c.beach c.plan=true/\AV t c.beach.winds=true
   ·rw[if_pos ht]at qp;generalize D6 c.beach c.plan t c.beach.rows.toNat=H at *;simp only[AF,AB]at qc qs qp|-;simp[c12,AD,slnil,qc,qs,qp,AM,AS,BD,AU,AO,CR,DS]
   ·rw[if_neg ht]at qp;simp only[AF,AB]at qc qs qp|-;simp[c12,AD,slnil,qc,qs,qp,AM,AS,BD,AU,AO,CR,DS]
 ·rw[if_pos h];generalize EQ c=E at *;simp only[AF]at qc|-;simp[c12,AD,slnil,qc,h,AM,AS,BD,AU]
end Go.Proofs.Tryz.Op
