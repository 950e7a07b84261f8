/- Contracts: a valid family, a row of chairs. No condition. -/
import Derived.Test.YthhdhbalenanjaaGreatA1
import Derived.Test.YthhdhbalenanjaaGreatFz
import Derived.Test.YthhdhbalenanjaaGreatW3
open Go Go.Pg Go.Proofs Go.Wind
namespace Go.Proofs.Tryz.Op
set_option maxRecDepth 100000
set_option linter.unusedSimpArgs false
theorem QS(n:Nat)(x lo hi:Int):AY Tryz.prog kn (AE Tryz.prog ann kn (n+50)) 163 [i x,i lo,i hi]=some (.bool (FB x lo hi)):=by
 rw[AP rfl,AO Tryz.func163 A96 rfl (by simp)]
 unfold FB
 generalize e1:decide (lo≤x)=z1
 generalize e2:decide (x≤hi)=z2
 cases z1 <;> cases z2 <;> simp[AYW,AF,e1,e2]
theorem pM(n:Nat)(f:MZ):AY Tryz.prog kn (AE Tryz.prog ann kn (n+200)) 121 [.agg (AR f)]=some (.bool (JV f)):=by
 rw[AP rfl,AO Tryz.func121 A97 rfl (by simp[AR])]
 have q1:=fun n=>QS n f.size 1 4
 have q2:=fun n=>QS n f.good 0 5
 unfold JV
 generalize FB f.size 1 4=z1 at *
 generalize FB f.good 0 5=z2 at *
 cases z1 <;> cases z2 <;> simp[AYX,AF,AR,q1,q2]
theorem AIP(n:Nat)(c:BC)(l:List Bool):AY Tryz.prog kn (AE Tryz.prog ann kn (n+200)) 118 [.agg (AD c),lb l]=some (.bool (decide ((l.length:Int)=c.beach.places))):=by
 rw[AP rfl,AO Tryz.func118 A98 rfl (by simp[AD,AH,AN,AG,AS,A4,AR])]
 generalize e1:decide ((l.length:Int)=c.beach.places)=z1
 cases z1 <;> simp[AYY,AF,AD,e1]
end Go.Proofs.Tryz.Op
open Go Go.Pg Go.Proofs Go.Wind
namespace Go.Proofs.Tryz.Op
set_option maxRecDepth 100000
set_option linter.unusedSimpArgs false
theorem P0{b:AJ}:(EM b [] b.winds []).isEmpty=true↔DE b=[]:=by
 rw[List.isEmpty_iff]
 constructor <;> intro h <;> refine List.eq_nil_iff_forall_not_mem.2 fun t ht=>?_
 ·have:=(fG b t).2 (XI.1 ht)
  rw[h]at this; cases this
 ·have:=XI.2 ((fG b t).1 ht)
  rw[h]at this; cases this
theorem WE(c:BC):(HA c.beach c.plan).2=if CD c.beach≠0 then CD c.beach else if CV c.beach c.plan=false then 2 else if DE c.beach=[] then 11 else 0:=by
 unfold HA
 by_cases h:CD c.beach=0
 ·simp only[h,ne_eq,not_true_eq_false,if_true,if_false]
  cases hp:CV c.beach c.plan with
  | false=>rfl
  | true =>
   simp only[if_true,Bool.true_eq_false,if_false]
   by_cases ht:DE c.beach=[]
   ·rw[if_pos (P0.2 ht),if_pos ht]
   ·rw[if_neg fun hh=>ht (P0.1 hh),if_neg ht]
 ·rw[if_neg h,if_pos h]
theorem lY(c:BC)(h40:∀l∈c.beach.winds,l.length≤40)(hch:c.chairs.length≤40)(h:¬EU c=0)(B:AB)(hB:∀t:St,1≤t.up.length→AQ t B=B)(g d:Nat)(fr:Fr):∀n,IQ (BQ Tryz.prog ann kn (n+8000)) (some d) ⟨g,fr,⟨[],B⟩⟩ 71 [.agg (AD c)] =
  some ⟨g+1,(d,true,.tup [.raw (.pointer none),i (EU c)]) :: fr,⟨[],B⟩⟩:=by
 intro n
 rw[sG Tryz.func71 b71 rfl (by simp)]
 have q1:=fun n=>lK n c.beach h40 c.plan
 rw[WE]at q1
 unfold EU at h ⊢
 by_cases h3:3<c.fams.length
 ·have h3':(3:Int)<(c.fams.length:Int):=by omega
  rw[if_pos h3]
  simp[c71,AF,AD,h3',hB]
 ·have h3':¬(3:Int)<(c.fams.length:Int):=by omega
  rw[if_neg h3]at h ⊢
  have qa:=fun n=>AIO n 200 121 JV c.fams (by omega) (fun n f _=>pM n f)
  have qr:=fun n=>AIN n 200 c 118 (fun l=>decide ((l.length:Int)=c.beach.places)) c.chairs hch (fun n l _=>AIP n c l)
  by_cases h4:CD c.beach≠0
  ·rw[if_pos h4]at q1 ⊢
   generalize (HA c.beach c.plan).1=R at q1
   generalize CD c.beach=E at *
   simp only[AA,AD]at q1 ⊢
   simp[c71,AF,h3',q1,h4,hB]
  ·rw[if_neg h4]at q1 h ⊢
   cases h5:CV c.beach c.plan with
   | false =>
    rw[h5,if_pos rfl]at q1
    rw[if_pos rfl]
    generalize (HA c.beach c.plan).1=R at q1
    simp only[AA,AD]at q1 ⊢
    simp[c71,AF,h3',q1,hB]
   | true =>
    rw[h5,if_neg (by decide)]at q1 h
    rw[if_neg (by decide)]
    by_cases h6:DE c.beach=[]
    ·rw[if_pos h6]at q1 ⊢
     generalize (HA c.beach c.plan).1=R at q1
     simp only[AA,AD]at q1 ⊢
     simp[c71,AF,h3',q1,hB]
    ·rw[if_neg h6]at q1 h ⊢
     have hc1:(if GH c=false then(1:Int) else if c.fams.all JV=false then 1 else 0)=1:=by
      split at h
      ·rw[if_pos (by assumption)]
      ·rw[if_neg (by assumption)]
       split at h
       ·rw[if_pos (by assumption)]
       ·exact absurd rfl h
     rw[hc1]
     simp only[Nat.add_assoc,Nat.reduceAdd]at qa qr
     generalize (HA c.beach c.plan).1=R at q1
     by_cases hl:(c.chairs.length:Int)=c.beach.rows
     ·cases hr:c.chairs.all (fun l=>decide ((l.length:Int)=c.beach.places))with
      | false =>
       rw[hr]at qr
       simp only[AA,AD]at q1 qr ⊢
       simp[c71,AF,h3',q1,qr,hl,hB,AS,A4,AR]
      | true =>
       rw[hr]at qr
       cases hf:c.fams.all JV with
       | true =>
        exfalso
        rw[if_neg (by simp[GH,hl,hr]),if_neg (by simp[hf])]at h
        exact h rfl
       | false =>
        rw[hf]at qa
        simp only[AA,AD]at q1 qr qa ⊢
        simp[c71,AF,h3',q1,qr,qa,hl,hB,AS,A4,AR]
     ·simp only[AA,AD]at q1 ⊢
      simp[c71,AF,h3',q1,hl,hB]
end Go.Proofs.Tryz.Op
open Go Go.Pg Go.Proofs Go.Wind
namespace Go.Proofs.Tryz.Op
set_option maxRecDepth 100000
set_option linter.unusedSimpArgs false
def EQ(l:List lV)(n:Nat):List Int:=(List.range 5).map fun p=>if p<n then(l.getD p ⟨0,(0,0),(0,0)⟩).good.1 else 0
def encA(l:List Int):List V:=l.map fun x=>i x
theorem tE(l:List lV)(n:Nat):∃a0 a1 a2 a3 a4:Int,encA (EQ l n)=[i a0,i a1,i a2,i a3,i a4]:=⟨_,_,_,_,_,rfl⟩
theorem ER{P:Program}{fr:Fr}{s:St}(e d c:Nat)(y:List V)(ys:List (List V))(h:B4 P e 0 (y :: ys)=true):oU P e d c fr s .nil (y :: ys)=some (⟨c+1,(d,true,.vec s.up.length d c (ys.length+1)) :: fr,s.put s.up.length d c (.vec e (y :: ys))⟩,[(s.up.length,d),(s.up.length,d+HD)]):=by
 unfold oU
 simp[HQ,h]
theorem A8Y{k:Nat}(h:k≤1000)(a0 a1 a2 a3 a4:Int):B4 Tryz.prog 206 k [[i a0,i a1,i a2,i a3,i a4]]=true:=by
 rw[CO (by simp) (by simp)]
 simp[maxLen]
 omega
def rv(k γ:Nat):List (List V)→V
 | []=>.nil
 | e :: es=>.vec 1 k γ (e :: es).length
abbrev bxW(c:BC)(g:Nat)(v:V):AX:=.box (AD c++[v,.mp 1 51 (g+1)])
theorem xC{l:List lV}{j:Nat}(hj:j<l.length)(h5:l.length≤5):(encA (EQ l j)).set j (i l[j].good.1)=encA (EQ l (j+1)):=by
 apply List.ext_getElem (by simp[encA,EQ])
 intro p h1 h2
 have hp:p<5:=by simpa [encA,EQ]using h2
 rw[List.getElem_set]
 simp only[encA,EQ,List.getElem_map,List.getElem_range]
 by_cases e:j=p
 ·subst e
  rw[if_pos rfl,if_pos (by omega),List.getD_eq_getElem?_getD,List.getElem?_eq_getElem hj]
  rfl
 ·rw[if_neg e]
  by_cases hlt:p<j
  ·rw[if_pos hlt,if_pos (by omega)]
  ·rw[if_neg hlt,if_neg (by omega)]
theorem xD{l:List lV}{j:Nat}(hj:j<l.length)(h5:l.length≤5):(encA (EQ l j)).take j++i l[j].good.1 :: (encA (EQ l j)).drop (j+1)=encA (EQ l (j+1)):=by
 rw[← xC hj h5,List.set_eq_take_append_cons_drop,if_pos (by simp[encA,EQ]; omega)]
theorem fQ(l:List lV)(j:Nat):(encA (EQ l j)).length=5:=by simp[encA,EQ]
theorem AIR(B:AB)(g x γ:Nat)(X1 X53:AX)(S:List (List V))(l:List lV)(h5:l.length≤5)(v54 v55 v56:V):∀(e j y:Nat),j+e=l.length→x<y→∃(y':Nat),y≤y'∧∀n m,e<m→A9 (AE Tryz.prog ann kn (n+300) 85) RL (ann 85 (BN RL)) m ⟨y,[(7,true,.ptr 1 53 (g+2) 0),(10,true,.ptr 1 10 x 0),(54,true,v54),(55,true,v55),(56,true,v56),(60,true,.list false (l.map OK)),(61,true,i l.length),(62,true,i j)],⟨[B],(1,g,X1) :: (10,x,.box (encA (EQ l j))) :: (51,g+1,.map []) :: (53,g+2,X53) :: pl 80 γ 206 S⟩⟩ =
  some (.exit 2,⟨y',[(63,true,.bool false),(7,true,.ptr 1 53 (g+2) 0),(10,true,.ptr 1 10 x 0),(54,true,v54),(55,true,v55),(56,true,v56),(60,true,.list false (l.map OK)),(61,true,i l.length),(62,true,i l.length)],⟨[B],(1,g,X1) :: (10,x,.box (encA (EQ l l.length))) :: (51,g+1,.map []) :: (53,g+2,X53) :: pl 80 γ 206 S⟩⟩)
 | 0,j,y,hm,hc=>by
  obtain rfl:j=l.length:=by omega
  refine⟨y,Nat.le_refl _,fun n m hm=>?_⟩
  obtain⟨m,rfl⟩:∃m',m=m'+1:=⟨m-1,by omega⟩
  generalize encA (EQ l l.length)=A
  rw[AC]
  cases S <;> simp
 | e+1,j,y,hm,hc=>by
  have hj:j<l.length:=by omega
  have hw:=BH (k:=j) (by omega)
  have hset:=xD hj h5
  have hlen:=fQ l j
  obtain⟨y',hy,ih⟩:=AIR B g x γ X1 X53 S l h5 v54 v55 v56 e (j+1) (y+1) (by omega) (by omega)
  refine⟨y',by omega,fun n m hm=>?_⟩
  obtain⟨m,rfl⟩:∃m',m=m'+1:=⟨m-1,by omega⟩
  have ih:=ih n m (by omega)
  rw[← hset]at ih
  generalize encA (EQ l l.length)=fin at *
  generalize encA (EQ l j)=A at *
  rw[AC]
  have hj5:(j:Int)<5:=by omega
  cases S <;> (simp[OK]at ih; simp[hj,hw,hj5,hlen,OK,BG,show j≤4 by omega,show x<y+1 by omega,ih])
theorem AIS(c:BC)(B:AB)(g:Nat)(R:List (List lV))(hR:R.length≤100)(hRl:∀l∈R,l.length≤5):∀(e k x γ:Nat),k+e=R.length→g+2<x→∃(x' γ':Nat),x≤x'∧∀n m,e<m→A9 (AE Tryz.prog ann kn (n+600) 85) RM (ann 85 (BN RM)) m ⟨x,[(7,true,.ptr 1 53 (g+2) 0),(54,true,.list false (R.map GB)),(55,true,i R.length),(56,true,i k)],⟨[B],(1,g,.box (AD c)) :: (51,g+1,.map []) :: (53,g+2,bxW c g (rv 80 γ ((R.take k).map fun l=>encA (EQ l l.length)))) :: pl 80 γ 206 ((R.take k).map fun l=>encA (EQ l l.length))⟩⟩ =
  some (.exit 0,⟨x',[(57,true,.bool false),(7,true,.ptr 1 53 (g+2) 0),(54,true,.list false (R.map GB)),(55,true,i R.length),(56,true,i R.length)],⟨[B],(1,g,.box (AD c)) :: (51,g+1,.map []) :: (53,g+2,bxW c g (rv 80 γ' (R.map fun l=>encA (EQ l l.length)))) :: pl 80 γ' 206 (R.map fun l=>encA (EQ l l.length))⟩⟩)
 | 0,k,x,γ,hm,hc=>by
  obtain rfl:k=R.length:=by omega
  rw[List.take_length]
  refine⟨x,γ,Nat.le_refl _,fun n m hm=>?_⟩
  obtain⟨m,rfl⟩:∃m',m=m'+1:=⟨m-1,by omega⟩
  generalize hS:R.map (fun l=>encA (EQ l l.length))=S
  rw[AC]
  cases S <;> simp[AD,rv]
 | e+1,k,x,γ,hm,hc=>by
  have hk:k<R.length:=by omega
  have hw:=BH (k:=k) (by omega)
  have hl5:=hRl R[k] (List.getElem_mem hk)
  have hst:(R.take (k+1)).map (fun l=>encA (EQ l l.length))=(R.take k).map (fun l=>encA (EQ l l.length))++[encA (EQ R[k] R[k].length)]:=by rw[List.take_succ_eq_append_getElem hk,List.map_append]; rfl
  have hSl:((R.take k).map fun l=>encA (EQ l l.length)).length=k:=by rw[List.length_map,List.length_take]; omega
  obtain⟨y',hy,q15⟩:=AIR B g x γ (.box (AD c)) (bxW c g (rv 80 γ ((R.take k).map fun l=>encA (EQ l l.length)))) ((R.take k).map fun l=>encA (EQ l l.length)) R[k] hl5 (.list false (R.map GB)) (i R.length) (i k) R[k].length 0 (x+1) (by omega) (by omega)
  have q15:=fun n m=>q15 n (m+100) (by omega)
  have h0:encA (EQ R[k] 0)=[i 0,i 0,i 0,i 0,i 0]:=rfl
  obtain⟨a0,a1,a2,a3,a4,hA⟩:=tE R[k] R[k].length
  have hS5:∀e∈(R.take k).map (fun l=>encA (EQ l l.length)),e.length=5:=fun e he=>by
   obtain⟨l,_,rfl⟩:=List.mem_map.1 he
   exact fQ l _
  have hp5:Nat.beq 5 1=false:=rfl
  have hap:=A8Y (k:=((R.take k).map fun l=>encA (EQ l l.length)).length) (by omega) a0 a1 a2 a3 a4
  obtain⟨x',γ',hxx,ih⟩:=AIS c B g R hR hRl e (k+1) (y'+1) y' (by omega) (by omega)
  refine⟨x',γ',by omega,fun n m hm=>?_⟩
  obtain⟨m,rfl⟩:∃m',m=m'+1:=⟨m-1,by omega⟩
  have ih:=ih n m (by omega)
  rw[hst,hA]at ih
  rw[hA,h0]at q15
  generalize (R.take k).map (fun l=>encA (EQ l l.length))=S at *
  generalize R.map (fun l=>encA (EQ l l.length))=fin at *
  rw[AC]
  cases S with
  | nil =>
   simp[AD,rv,bxW]at ih q15 hap
   simp[AD,rv,bxW,hk,hw,GB,q15,ih,hap,EZ,HD,BG,ER,show x<y'+1 by omega,show g+2<y'+1 by omega,show g+1<y'+1 by omega,BR,B6,BD,EN,D8,hp5]
  | cons s S =>
   have hs5:=hS5 s (by simp)
   have hS6:∀e∈S,e.length=5:=fun e he=>hS5 e (by simp[he])
   have hS7:=eq_true hS6
   simp[AD,rv,bxW]at ih q15 hap
   simp[AD,rv,bxW,hk,hw,GB,q15,ih,hap,EZ,HD,BG,show x<y'+1 by omega,show g+2<y'+1 by omega,show g+1<y'+1 by omega,BR,B6,BD,EN,D8,hp5,hs5,hS7]
theorem A8Z(st:XS):N6 [911051,912053] st=(fun s=>jT 53 (S6 0 s) 911 [] s) (jT 51 (S6 0 st) 910 [] st):=rfl
def AIT(c:BC):List (List Int):=(FA c.beach (FK c.beach) c.plan c.beach.rows.toNat).map fun l=>EQ l l.length
def dC(c:BC)(γ:Nat):List V:=AD c++[.list false ((AIT c).map encA),.mp 0 910 γ]
theorem AD4(c:BC)(hc:HL c)(B:AB)(hB:∀t:St,1≤t.up.length→AQ t B=B)(g d:Nat)(fr:Fr):∃g',g+3≤g'∧∀n,IQ (BQ Tryz.prog ann kn (n+8000)) (some d) ⟨g,fr,⟨[],B⟩⟩ 71 [.agg (AD c)] =
  some ⟨g',(d,true,.tup [.ptr 0 911 (g+2) 0,i 0]) :: fr,⟨[],(911,g+2,.box (dC c (g+1))) :: (910,g+1,.map []) :: B⟩⟩:=by
 have hb:=hc.be
 have hbe:=WE c
 rw[if_neg (by simp[KW hb]),if_neg (by simp[hc.pl]),if_neg hc.tr]at hbe
 have q1:=fun n=>lK n c.beach hb.w40 c.plan
 rw[hbe]at q1
 have hb1:(HA c.beach c.plan).1=FA c.beach (FK c.beach) c.plan c.beach.rows.toNat:=by
  unfold HA
  rw[if_pos (KW hb),if_pos hc.pl,if_neg fun hh=>hc.tr (P0.1 hh)]
 have hro:=hb.ro
 have hpc:=hb.pl
 have hbl:(FA c.beach (FK c.beach) c.plan c.beach.rows.toNat).length=c.beach.rows.toNat:=by simp[FA]
 have hbn:FA c.beach (FK c.beach) c.plan c.beach.rows.toNat≠[]:=fun e=>by
  rw[e]at hbl
  simp at hbl
  omega
 have hb5:∀l∈FA c.beach (FK c.beach) c.plan c.beach.rows.toNat,l.length≤5:=fun l hl=>by
  obtain⟨r,_,rfl⟩:=List.mem_map.1 hl
  simp[VY]
  omega
 rw[hb1,slX hbn]at q1
 have hfl:=hc.fl
 have hch:=hc.ch
 have h3':¬(3:Int)<(c.fams.length:Int):=by omega
 have qa:=fun n=>AIO n 200 121 JV c.fams (by omega) (fun n f _=>pM n f)
 have qr:=fun n=>AIN n 200 c 118 (fun l=>decide ((l.length:Int)=c.beach.places)) c.chairs (by omega) (fun n l _=>AIP n c l)
 rw[List.all_eq_true.2 fun f hf=>by
  have:=hc.fo f hf
  simp only[JV,Bool.and_eq_true,DM]
  exact this]at qa
 rw[List.all_eq_true.2 fun l hl=>decide_eq_true (hc.cr l hl)]at qr
 simp only[Nat.add_assoc,Nat.reduceAdd]at qa qr
 unfold dC AIT
 generalize FA c.beach (FK c.beach) c.plan c.beach.rows.toNat=R at *
 obtain⟨g',γ',hg',q11⟩:=AIS c B g R (by omega) hb5 R.length 0 (g+3) 0 (by omega) (by omega)
 have q11:=fun n m=>q11 n (m+100) (by omega)
 refine⟨g',by omega,fun n=>?_⟩
 have hS:(R.map fun l=>EQ l l.length).map encA=R.map fun l=>encA (EQ l l.length):=by rw[List.map_map]; rfl
 rw[hS]
 obtain⟨s0,S,hSS⟩:∃s0 S,R.map (fun l=>encA (EQ l l.length))=s0 :: S:=List.exists_cons_of_ne_nil (fun e:R.map (fun l=>encA (EQ l l.length))=[]=>hbn (List.map_eq_nil_iff.1 e))
 rw[hSS]at q11 ⊢
 rw[sG Tryz.func71 b71 rfl (by simp)]
 simp only[AA,AD,List.take_zero,List.map_nil]at q1 qr qa q11 ⊢
 simp[rv,bxW,AD]at q11
 simp[c71,AF,h3',q1,qr,qa,hch,AS,A4,AR,hB,q11,Nat.add_assoc,A8Z,KT,TR,TQ,I9,eF,ON,KP,OO,KQ,KR,KS,OP,TU,LF,OQ,OR,LG,I8,I3]
end Go.Proofs.Tryz.Op
open Go Go.Pg Go.Proofs Go.Wind
namespace Go.Proofs.Tryz.Op
set_option maxRecDepth 100000
set_option linter.unusedSimpArgs false
theorem AIU(c:BC)(k γ:Nat)(t:St):AQ t [(k,γ,.box (AD c))]=[(k,γ,.box (AD c))]:=by
 simp[AD,AH,AN,AG,AS,A4,AR]
theorem WF(n:Nat)(c:BC)(h40:∀l∈c.beach.winds,l.length≤40)(hch:c.chairs.length≤40):AY Tryz.prog kn (AE Tryz.prog ann kn (n+8200)) 24 [.agg (AD c)]=some (i (EU c)):=by
 rw[AP rfl,AO Tryz.func24 b24 rfl (by simp[AD,AH,AN,AG,AS,A4,AR])]
 by_cases h:EU c=0
 ·obtain⟨g',hg,q⟩:=AD4 c (TM h) [(1,0,.box (AD c))] (fun t _=>AIU c 1 0 t) 1 7 [(6,true,.agg (AD c)),(1,true,.ptr 0 1 0 0)]
  have q:=fun n=>q (n+197)
  rw[h]
  simp only[AD,dC,Nat.add_assoc,Nat.reduceAdd]at q ⊢
  simp[c24,AF,AS,A4,AR,q]
 ·have q:=lY c h40 hch h [(1,0,.box (AD c))] (fun t _=>AIU c 1 0 t) 1 7 [(6,true,.agg (AD c)),(1,true,.ptr 0 1 0 0)]
  have q:=fun n=>q (n+197)
  generalize EU c=E at *
  simp only[AD,Nat.add_assoc,Nat.reduceAdd]at q ⊢
  simp[c24,AF,AS,A4,AR,q]
end Go.Proofs.Tryz.Op
open Go Go.Pg Go.Proofs Go.Wind
namespace Go.Proofs.Tryz.Op
set_option maxRecDepth 100000
set_option linter.unusedSimpArgs false
theorem V0{c:BC}{k:Nat}(h:k<c.fams.length):M0 c k=c.fams[k]:=by
 unfold M0
 rw[List.getD_eq_getElem?_getD,List.getElem?_eq_getElem h]
 rfl
theorem AWP(n:Nat)(c:BC)(a b:Nat)(ha:a<c.fams.length)(hb:b<c.fams.length):AY Tryz.prog kn (AE Tryz.prog ann kn (n+300)) 173 [.agg (AD c),i a,i b]=some (.bool (JW c a b)):=by
 rw[AP rfl,AO Tryz.func173 BAB rfl (by simp[AD,AH,AN,AG,AS,A4,AR])]
 unfold JW
 rw[V0 ha,V0 hb]
 have e:decide ((a:Int)=(b:Int))=decide (a=b):=decide_eq_decide.2 (by omega)
 have e2:decide (a≠b)=!decide (a=b):=by simp
 rw[e2]
 generalize decide (a=b)=z at *
 rcases hF1:c.fams[a]with⟨s1,g1,d1,h1⟩
 rcases hF2:c.fams[b]with⟨s2,g2,d2,h2⟩
 simp only[AD]
 have p1:Nat.beq 4 1=false:=rfl
 cases z <;> cases d1 <;> cases h1 <;> cases d2 <;> cases h2 <;> simp[AY2,AF,e,ha,hb,hF1,hF2,AR,BG,BR,B6,BD,EN,D8,EZ,HD,p1]
theorem AWQ(n:Nat)(c:BC)(x:Sp)(h1:0≤c.beach.rows∧c.beach.rows≤1000)(h2:0≤c.beach.places∧c.beach.places≤1000)(h3:0≤x.size∧x.size≤1000):AY Tryz.prog kn (AE Tryz.prog ann kn (n+300)) 136 [.agg (AD c),.agg (A2 x)]=some (.bool (FN c x)):=by
 rw[AP rfl,AO Tryz.func136 BAC rfl (by simp[AD,AH,AN,AG,AS,A4,AR,A2])]
 have w1:IntKind.i64.wrap (c.beach.rows-1)=c.beach.rows-1:=AW (by omega) (by omega)
 have w2:IntKind.i64.wrap (c.beach.places-x.size)=c.beach.places-x.size:=AW (by omega) (by omega)
 have q1:=fun n=>QS n x.row 0 (c.beach.rows-1)
 have q2:=fun n=>QS n x.place 0 (c.beach.places-x.size)
 unfold FN
 generalize FB x.row 0 (c.beach.rows-1)=z1 at *
 generalize FB x.place 0 (c.beach.places-x.size)=z2 at *
 simp only[AD]
 cases z1 <;> cases z2 <;> simp[AY3,AF,A2,w1,w2,q1,q2]
theorem ALY(n:Nat)(c:BC)(x y:Sp)(hx:x.fam<c.fams.length)(hy:y.fam<c.fams.length)(p1:-1000≤x.place∧x.place≤1000)(p2:-1000≤y.place∧y.place≤1000)(s1:0≤x.size∧x.size≤1000)(s2:0≤y.size∧y.size≤1000):AY Tryz.prog kn (AE Tryz.prog ann kn (n+400)) 139 [.agg (AD c),.agg (A2 x),.agg (A2 y)]=some (.bool (FV c x y)):=by
 rw[AP rfl,AO Tryz.func139 BAD rfl (by simp[AD,AH,AN,AG,AS,A4,AR,A2])]
 have qm:=fun n=>AWP n c x.fam y.fam hx hy
 have w1:IntKind.i64.wrap (x.place-y.place)=x.place-y.place:=AW (by omega) (by omega)
 have w2:IntKind.i64.wrap (x.place-y.place-y.size)=x.place-y.place-y.size:=AW (by omega) (by omega)
 have w3:IntKind.i64.wrap (y.place-x.place)=y.place-x.place:=AW (by omega) (by omega)
 have w4:IntKind.i64.wrap (y.place-x.place-x.size)=y.place-x.place-x.size:=AW (by omega) (by omega)
 unfold FV
 by_cases hr:x.row=y.row
 ·rw[show decide (x.row≠y.row)=false from decide_eq_false (by simpa using hr),Bool.false_or]
  have e:dB x y=(if x.place-y.place-y.size<y.place-x.place-x.size then y.place-x.place-x.size else x.place-y.place-y.size):=by
   unfold dB
   split <;> omega
  generalize JW c x.fam y.fam=z at *
  generalize dB x y=m at *
  by_cases h0:0<m
  ·simp only[AD]at qm ⊢
   simp[yN,AF,A2,w1,w2,w3,w4,qm,hr,← e,h0]
  ·by_cases h1:m=0
   ·simp only[AD]at qm ⊢
    cases z <;> simp[yN,AF,A2,AS,A4,AR,w1,w2,w3,w4,qm,hr,← e,h0,h1]
   ·simp only[AD]at qm ⊢
    simp[yN,AF,A2,w1,w2,w3,w4,qm,hr,← e,h0,h1]
 ·rw[show decide (x.row≠y.row)=true from decide_eq_true hr,Bool.true_or]
  simp only[AD]
  simp[yN,AF,A2,hr]
end Go.Proofs.Tryz.Op
open Go Go.Pg Go.Proofs Go.Wind
namespace Go.Proofs.Tryz.Op
set_option maxRecDepth 100000
set_option linter.unusedSimpArgs false
theorem WG(l:List Bool){j:Nat}(hj:j<l.length):(l.take (j+1)).count true=(l.take j).count true+(if l[j]=true then 1 else 0):=by
 rw[List.take_succ_eq_append_getElem hj,List.count_append]
 congr 1
 cases l[j] <;> rfl
theorem AWR(cs:List (List Bool))(l:List Bool)(hl:l.length≤100)(N r c:Nat)(hN:N≤100000)(X1:AX):∀(d j:Nat),j+d=l.length→∀n m,d<m→A9 (AE Tryz.prog ann kn (n+200) 26) RO (ann 26 (BN RO)) m ⟨c,[(2,true,i ((N+(l.take j).count true:Nat):Int)),(8,true,.list false (cs.map AS)),(9,true,i cs.length),(10,true,i r),(14,true,lb l),(15,true,i l.length),(16,true,i j)],⟨[],[(1,0,X1)]⟩⟩ =
  some (.exit 2,⟨c,[(17,true,.bool false),(2,true,i ((N+l.count true:Nat):Int)),(8,true,.list false (cs.map AS)),(9,true,i cs.length),(10,true,i r),(14,true,lb l),(15,true,i l.length),(16,true,i l.length)],⟨[],[(1,0,X1)]⟩⟩)
 | 0,j,hd,n,m+1,hm=>by
  obtain rfl:j=l.length:=by omega
  rw[List.take_length,AC]
  simp
 | d+1,j,hd,n,m+1,hm=>by
  have hj:j<l.length:=by omega
  have hw:=BH (k:=j) (by omega)
  have ih:=AWR cs l hl N r c hN X1 d (j+1) (by omega) n m (by omega)
  rw[WG l hj]at ih
  have hcl:(l.take j).count true≤100:=by
   have:=List.count_le_length (a:=true) (l:=l.take j)
   rw[List.length_take]at this
   omega
  generalize (l.take j).count true=C at *
  have hwC:IntKind.i64.wrap (((N+C:Nat):Int)+1)=((N+(C+1):Nat):Int):=by rw[AW (by omega) (by omega)]; omega
  have hwC2:IntKind.i64.wrap ((N:Int)+(C:Int)+1)=((N:Int)+((C:Int)+1)):=by rw[AW (by omega) (by omega)]; omega
  generalize l.count true=T at *
  rw[AC]
  cases hz:l[j]with
  | true =>
   rw[hz,if_pos rfl]at ih
   simp at ih
   simp[hj,hw,hz,A4,hwC,hwC2,ih]
  | false =>
   rw[hz,if_neg (by decide),Nat.add_zero]at ih
   simp at ih
   simp[hj,hw,hz,A4,ih]
theorem AWS(cs:List (List Bool))(hl:cs.length≤100)(hr:∀l∈cs,l.length≤100)(c:Nat)(X1:AX):∀(d j N:Nat),j+d=cs.length→N≤100*j→∀n m,d<m→A9 (AE Tryz.prog ann kn (n+400) 26) RP (ann 26 (BN RP)) m ⟨c,[(2,true,i N),(8,true,.list false (cs.map AS)),(9,true,i cs.length),(10,true,i j)],⟨[],[(1,0,X1)]⟩⟩ =
  some (.exit 0,⟨c,[(11,true,.bool false),(2,true,i ((N+((cs.drop j).map fun l=>l.count true).sum:Nat):Int)),(8,true,.list false (cs.map AS)),(9,true,i cs.length),(10,true,i cs.length)],⟨[],[(1,0,X1)]⟩⟩)
 | 0,j,N,hd,hN,n,m+1,hm=>by
  obtain rfl:j=cs.length:=by omega
  rw[AC]
  simp
 | d+1,j,N,hd,hN,n,m+1,hm=>by
  have hj:j<cs.length:=by omega
  have hw:=BH (k:=j) (by omega)
  have hlj:=hr cs[j] (List.getElem_mem hj)
  have q:=fun n m=>AWR cs cs[j] hlj N j c (by omega) X1 cs[j].length 0 (by omega) n (m+101) (by omega)
  have hcl:=List.count_le_length (a:=true) (l:=cs[j])
  have ih:=AWS cs hl hr c X1 d (j+1) (N+cs[j].count true) (by omega) (by omega) n m (by omega)
  have hs:N+cs[j].count true+((cs.drop (j+1)).map fun l=>l.count true).sum=N+((cs.drop j).map fun l=>l.count true).sum:=by
   rw[List.drop_eq_getElem_cons hj,List.map_cons,List.sum_cons]
   omega
  rw[hs]at ih
  generalize ((cs.drop j).map fun l=>l.count true).sum=T at *
  generalize cs[j].count true=C at *
  simp only[List.take_zero,List.count_nil,Nat.add_zero]at q
  rw[AC]
  simp at ih q
  simp[hj,hw,AS,q,ih]
theorem AD5(n:Nat)(c:BC)(hl:c.chairs.length≤100)(hr:∀l∈c.chairs,l.length≤100):AY Tryz.prog kn (AE Tryz.prog ann kn (n+600)) 140 [.agg (AD c)]=some (i (FT c)):=by
 rw[AP rfl,AO Tryz.func140 BAE rfl (by simp[AD,AH,AN,AG,AS,A4,AR])]
 have q:=fun n m=>AWS c.chairs hl hr 1 (.box (AD c)) c.chairs.length 0 0 (by omega) (by omega) n (m+101) (by omega)
 have e:((c.chairs.drop 0).map fun l=>l.count true).sum=FT c:=rfl
 rw[e,Nat.zero_add]at q
 generalize FT c=T at *
 simp only[AD]at q ⊢
 simp at q
 simp[AY4,AF,q]
end Go.Proofs.Tryz.Op
open Go Go.Pg Go.Proofs Go.Wind
namespace Go.Proofs.Tryz.Op
set_option maxRecDepth 100000
set_option linter.unusedSimpArgs false
def B8(g:Nat×Int):List V:=[i (g.1:Int),i g.2]
def BS(fs:List MZ)(out:List Int):Nat→List (Nat×Int)
 | 0=>[]
 | k+1=>BS fs out k++(if decide ((k:Int)∈out)=true then[] else[(k,(fs.getD k ⟨0,0,false,false⟩).size)])
def CJ(c:BC)(out:List Int):List (Nat×Int):=BS c.fams out c.fams.length
theorem M3(fs:List MZ)(out:List Int):∀k,(BS fs out k).length≤k
 | 0=>Nat.le_refl _
 | k+1=>by
  have:=M3 fs out k
  simp only[BS,List.length_append]
  split <;> simp <;> omega
theorem A80{k:Nat}{l:List (Nat×Int)}(h:k+l.length≤1000):B4 Tryz.prog 151 k (l.map B8)=true:=by
 rw[CO (by simp) (by simp)]
 simp[maxLen,B8]
 omega
theorem ALZ(fs:List MZ)(hl:fs.length≤30)(out:List Int)(ho:out.length≤40)(X2:AX):∀(d k c γ:Nat),k+d=fs.length→∃c' γ',∀n m,d<m→A9 (AE Tryz.prog ann kn (n+1600) 28) WR (ann 28 (BN WR)) m ⟨c,[(1,true,li out),(4,true,pv 25 γ ((BS fs out k).map B8)),(8,true,.list false (fs.map AR)),(9,true,i fs.length),(10,true,i k)],⟨[],(2,0,X2) :: pl 25 γ 151 ((BS fs out k).map B8)⟩⟩ =
  some (.exit 0,⟨c',[(11,true,.bool false),(1,true,li out),(4,true,pv 25 γ' ((BS fs out fs.length).map B8)),(8,true,.list false (fs.map AR)),(9,true,i fs.length),(10,true,i fs.length)],⟨[],(2,0,X2) :: pl 25 γ' 151 ((BS fs out fs.length).map B8)⟩⟩)
 | 0,k,c,γ,hd=>by
  obtain rfl:k=fs.length:=by omega
  refine⟨c,γ,fun n m hm=>?_⟩
  obtain⟨m,rfl⟩:∃m',m=m'+1:=⟨m-1,by omega⟩
  generalize BS fs out fs.length=R
  rw[AC]
  cases R <;> simp
 | d+1,k,c,γ,hd=>by
  have hk:k<fs.length:=by omega
  have hw:=BH (k:=k) (by omega)
  have hgl:=M3 fs out k
  have qC:=fun n=>O6 n out (k:Int) (by omega)
  have hg:fs.getD k ⟨0,0,false,false⟩=fs[k]:=by rw[List.getD_eq_getElem?_getD,List.getElem?_eq_getElem hk]; rfl
  have hst:BS fs out (k+1)=BS fs out k++(if decide ((k:Int)∈out)=true then[] else[(k,fs[k].size)]):=by rw[← hg]; rfl
  have hap:=A80 (k:=(BS fs out k).length) (l:=[(k,fs[k].size)]) (by rw[List.length_singleton]; omega)
  generalize decide ((k:Int)∈out)=z at *
  generalize hfk:fs[k]=f at *
  cases z with
  | true =>
   obtain⟨c',γ',ih⟩:=ALZ fs hl out ho X2 d (k+1) (c+1) γ (by omega)
   refine⟨c',γ',fun n m hm=>?_⟩
   obtain⟨m,rfl⟩:∃m',m=m'+1:=⟨m-1,by omega⟩
   have ih:=ih n m (by omega)
   rw[hst,if_pos rfl,List.append_nil]at ih
   generalize BS fs out fs.length=fin at *
   generalize BS fs out k=R at *
   rw[AC]
   cases R <;> (simp[B8]at ih; simp[hk,hw,hfk,AR,B8,qC,BG,ih])
  | false =>
   obtain⟨c',γ',ih⟩:=ALZ fs hl out ho X2 d (k+1) (c+2) (c+1) (by omega)
   refine⟨c',γ',fun n m hm=>?_⟩
   obtain⟨m,rfl⟩:∃m',m=m'+1:=⟨m-1,by omega⟩
   have ih:=ih n m (by omega)
   rw[hst,if_neg (by decide)]at ih
   generalize BS fs out fs.length=fin at *
   generalize BS fs out k=R at *
   rw[AC]
   cases R with
   | nil=>simp[B8,pv]at ih hap; simp[hk,hw,hfk,AR,B8,qC,hap,BG,ih,pv]
   | cons r R=>simp[B8]at ih hap; simp[hk,hw,hfk,AR,B8,qC,hap,BG,ih]
theorem AD6(n:Nat)(c:BC)(hl:c.fams.length≤30)(out:List Int)(ho:out.length≤40):AY Tryz.prog kn (AE Tryz.prog ann kn (n+2000)) 92 [.agg (AD c),li out]=some (sl ((CJ c out).map B8)):=by
 rw[AP rfl,AO Tryz.func92 b92 rfl (by simp[AD,AH,AN,AG,AS,A4,AR])]
 obtain⟨c',γ',q⟩:=ALZ c.fams hl out ho (.box (AD c)) c.fams.length 0 1 0 (by omega)
 have q:=fun n m=>q n (m+100) (by omega)
 have e:BS c.fams out c.fams.length=CJ c out:=rfl
 rw[e,show BS c.fams out 0=[] from rfl]at q
 generalize hG:CJ c out=G at *
 have hcl:(G.map B8).all (fun e=>e.all (AL 8))=true:=by simp[B8]
 generalize G.map B8=R at *
 simp only[AD,List.map_nil]at q ⊢
 simp at q
 simp[c92,AF,q]
 exact fun e he v hv=>List.all_eq_true.1 (List.all_eq_true.1 hcl e he) v hv
end Go.Proofs.Tryz.Op
open Go Go.Pg Go.Proofs Go.Wind
namespace Go.Proofs.Tryz.Op
set_option maxRecDepth 100000
set_option linter.unusedSimpArgs false
def l7:Option (Nat×List V)→AB
 | none=>[]
 | some (γ,cs)=>[(7,γ,.box cs)]
theorem xE{s:St}(l:List Sp){j:Nat}(hj:j≤l.length):BU Tryz.prog s 120 (.list false (l.map A2)) none (some (i j)) none=some (.list false ((l.map A2).take j)):=by
 have:=ZP (P:=Tryz.prog) (s:=s) (T:=120) (e:=153) (es:=l.map A2) (h:=(j:Int)) (b:=false) (by kernel_rfl) (by simp) (by omega) (by rw[List.length_map]; omega)
 simpa using this
theorem tF(n:Nat)(c:BC)(x:Sp)(l:List Sp)(hl:l.length≤10)(hx:x.fam<c.fams.length∧(0≤x.size∧x.size≤1000)∧-1000≤x.place∧x.place≤1000)(hy:∀y∈l,y.fam<c.fams.length∧(0≤y.size∧y.size≤1000)∧-1000≤y.place∧y.place≤1000)(g d:Nat)(fr:Fr):∃g',g+1≤g'∧IQ (BQ Tryz.prog ann kn (n+900)) (some d) ⟨g+1,fr,⟨[],[(2,0,.box (AD c)),(7,g,.box (A2 x))]⟩⟩ 137 [.list false (l.map A2),.fn 138 [] [.ptr 0 2 0 0,.ptr 0 7 g 0]] =
  some ⟨g',(d,true,.bool (l.all (FV c x))) :: fr,⟨[],[(2,0,.box (AD c)),(7,g,.box (A2 x))]⟩⟩:=by
 obtain⟨c',h1,q⟩:=ALX n 600 0 (fun _=>[]) (fun _=>[(2,0,.box (AD c)),(7,g,.box (A2 x))]) (by simp) (fun _=>True) 138 [.ptr 0 2 0 0,.ptr 0 7 g 0] (by simp) (by simp) (fun (_:Unit) y=>FV c x y) (fun _ _=>()) l (by omega) (by simp[AD,AH,AN,AG,AS,A4,AR,A2]) (by
   intro t γ ht
   obtain⟨up,loc⟩:=t
   have h0:¬0=up.length:=by simp at ht; omega
   simp[h0]) (g+1) (by
   intro n c1 γ fr s y hc hs hm
   refine⟨fun h=>trivial,c1+1,by omega,?_⟩
   obtain⟨y1,y2,y3⟩:=hy y hm
   have qa:=fun n=>ALY n c x y hx.1 y1 hx.2.2 y3 hx.2.1 y2
   simp only[List.nil_append,List.cons_append]
   rw[BK Tryz.func138 b138 rfl (by simp)]
   generalize FV c x y=z at *
   simp only[AD,A2]at qa ⊢
   simp[AY6,AF,AH,AN,AG,AS,A4,AR,qa]) d fr () trivial
 rw[ET]at q
 have hn:=I1 (FV c x) l
 have e:n+600+300=n+900:=by omega
 rw[e]at q
 simp only at q
 rw[hn]at q
 exact⟨c',h1,q⟩
theorem AWT(n:Nat)(c:BC)(hc:HL c)(l:List Sp)(hl:l.length≤10)(hs:∀x∈l,x.fam<c.fams.length∧1≤x.size∧x.size≤4):∀(d j g:Nat) (o:Option (Nat×List V)),j+d=l.length→0<g→D7 c [] (l.take j)=true→∃g' o',∀m,d<m→A9 (AE Tryz.prog ann kn (n+1200) 37) RT (ann 37 (BN RT)) m ⟨g,[(1,true,.list false (l.map A2)),(2,true,.ptr 0 2 0 0),(5,true,i (EB (l.take j))),(8,true,.list false (l.map A2)),(9,true,i l.length),(10,true,i j)],⟨[],(2,0,.box (AD c)) :: l7 o⟩⟩ =
  bif D7 c [] l then some (.exit 0,⟨g',[(11,true,.bool false),(1,true,.list false (l.map A2)),(2,true,.ptr 0 2 0 0),(5,true,i (EB l)),(8,true,.list false (l.map A2)),(9,true,i l.length),(10,true,i l.length)],⟨[],(2,0,.box (AD c)) :: l7 o'⟩⟩) else some (.ret,⟨g',[(4,true,.bool false)],⟨[],[]⟩⟩)
 | 0,j,g,o,hd,hg,hok=>by
  obtain rfl:j=l.length:=by omega
  rw[List.take_length]at hok ⊢
  refine⟨g,o,fun m hm=>?_⟩
  obtain⟨m,rfl⟩:∃m',m=m'+1:=⟨m-1,by omega⟩
  rw[hok,AC]
  rcases o with _ | ⟨γ,cs⟩ <;> simp[AD,l7]
 | d+1,j,g,o,hd,hg,hok=>by
  have hj:j<l.length:=by omega
  have hw:=BH (k:=j) (by omega)
  have hro:=hc.be.ro
  have hpl:=hc.be.pl
  obtain⟨x1,x2⟩:=hs l[j] (List.getElem_mem hj)
  have hps:=TN (l.take j) fun y hy=>by have:=(hs y (List.mem_of_mem_take hy)).2; omega
  have htl:(l.take j).length≤10:=by rw[List.length_take]; omega
  have hwp:IntKind.i64.wrap (EB (l.take j)+l[j].size)=EB (l.take j)+l[j].size:=AW (by omega) (by omega)
  have qf:=fun n=>AWQ n c l[j] (by omega) (by omega) (by omega)
  have ht:=fO c l hj
  rw[hok,Bool.true_and]at ht
  cases hf:FN c l[j]with
  | false =>
   rw[hf]at qf
   rw[hf,Bool.false_and]at ht
   have hno:=WD c l (j+1) ht
   simp only[AD,A2]at qf
   refine⟨g+1,none,fun m hm=>?_⟩
   obtain⟨m,rfl⟩:∃m',m=m'+1:=⟨m-1,by omega⟩
   rw[hno,AC]
   simp only[AD]
   rcases o with _ | ⟨γ,cs⟩ <;> simp[hj,hw,hwp,A2,AS,A4,AR,qf,BG,l7]
  | true =>
   rw[hf]at qf
   rw[hf,Bool.true_and]at ht
   have hfits:=M2 c (l.take j) [] hok
   have hfx:(0≤l[j].row∧l[j].row≤c.beach.rows-1)∧0≤l[j].place∧l[j].place≤c.beach.places-l[j].size:=by
    simpa only[FN,Bool.and_eq_true,DM]using hf
   have hyy:∀y∈l.take j,y.fam<c.fams.length∧(0≤y.size∧y.size≤1000)∧-1000≤y.place∧y.place≤1000:=fun y hy=>by
    have h1:=hs y (List.mem_of_mem_take hy)
    have h2:=hfits y hy
    simp only[FN,Bool.and_eq_true,DM]at h2
    exact⟨h1.1,by omega,by omega⟩
   obtain⟨g1,hg1,qa⟩:=tF (n+292) c l[j] (l.take j) htl ⟨x1,by omega,by omega⟩ hyy g 29 [(28,true,.fn 138 [] [.ptr 0 2 0 0,.ptr 0 7 g 0]),(27,true,.list false ((l.take j).map A2)),(26,true,i j),(25,true,.list false (l.map A2)),(24,true,.bool false),(23,true,.bool false),(22,true,.bool true),(21,true,.agg (A2 l[j])),(20,true,.agg (AD c)),(1,true,.list false (l.map A2)),(2,true,.ptr 0 2 0 0),(5,true,i (EB (l.take j)+l[j].size)),(6,true,i j),(7,true,.ptr 0 7 g 0),(8,true,.list false (l.map A2)),(9,true,i l.length),(10,true,i j)]
   have qsl:=fun s=>xE (s:=s) l (Nat.le_of_lt hj)
   rw[List.map_take]at qa
   simp only[AD,A2,Nat.add_assoc,Nat.reduceAdd]at qf qa
   cases hz:(l.take j).all (FV c l[j])with
   | false =>
    rw[hz]at ht qa
    have hno:=WD c l (j+1) ht
    refine⟨g1,none,fun m hm=>?_⟩
    obtain⟨m,rfl⟩:∃m',m=m'+1:=⟨m-1,by omega⟩
    rw[hno,AC]
    simp only[AD]
    rcases o with _ | ⟨γ,cs⟩ <;> simp[hj,hw,hwp,A2,AS,A4,AR,qf,BG,l7,qsl,qa]
   | true =>
    rw[hz]at ht qa
    obtain⟨g',o',ih⟩:=AWT n c hc l hl hs d (j+1) g1 (some (g,A2 l[j])) (by omega) (by omega) ht
    refine⟨g',o',fun m hm=>?_⟩
    obtain⟨m,rfl⟩:∃m',m=m'+1:=⟨m-1,by omega⟩
    have ih:=ih m (by omega)
    rw[fP l hj]at ih
    generalize D7 c [] l=Z at *
    generalize EB l=PL at *
    rw[AC]
    simp only[AD,A2,l7]at ih ⊢
    simp at ih
    rcases o with _ | ⟨γ,cs⟩ <;> simp[hj,hw,hwp,A2,AS,A4,AR,qf,BG,l7,qsl,qa,ih]
theorem AD7(n:Nat)(c:BC)(hc:HL c)(l:List Sp)(hl:l.length≤10)(hs:∀x∈l,x.fam<c.fams.length∧1≤x.size∧x.size≤4):AY Tryz.prog kn (AE Tryz.prog ann kn (n+1500)) 109 [.agg (AD c),.list false (l.map A2)]=some (.bool (JX c l)):=by
 rw[AP rfl,AO Tryz.func109 BAH rfl (by simp[AD,AH,AN,AG,AS,A4,AR,A2])]
 obtain⟨g',o',q⟩:=AWT (n+294) c hc l hl hs l.length 0 1 none (by omega) (by omega) rfl
 have q:=q (n+1494) (by omega)
 have hro:=hc.be.ro
 have hpl:=hc.be.pl
 have hch:=hc.ch
 have qc:=fun n=>AD5 n c (by omega) (fun l hl=>by have:=hc.cr l hl; omega)
 unfold JX
 have hps:=TN l fun y hy=>by have:=(hs y hy).2; omega
 rw[show EB (l.take 0)=0 from rfl]at q
 generalize D7 c [] l=Z at *
 generalize EB l=PL at *
 generalize FT c=CN at *
 generalize e1:decide (PL≤(CN:Int))=z1
 simp only[AD,l7,Nat.add_assoc,Nat.reduceAdd]at q qc ⊢
 simp at q
 cases Z with
 | false =>
  simp at q
  simp[AMQ,AF,q]
 | true =>
  simp at q
  rcases o' with _ | ⟨γ,cs⟩ <;> simp[l7]at q <;> simp[AMQ,AF,q,AS,A4,AR,qc,e1]
end Go.Proofs.Tryz.Op
open Go Go.Pg Go.Proofs Go.Wind
namespace Go.Wind
theorem VO{c:BC}{ss:List (Int×Int)}(h:ss.length=c.fams.length){k:Nat}(hk:k<c.fams.length):(BA c ss).take (k+1)=(BA c ss).take k++[⟨k,c.fams[k].size,(ss[k]'(by omega)).1,(ss[k]'(by omega)).2⟩]:=by
 have hl:(BA c ss).length=c.fams.length:=D0 h
 rw[List.take_succ_eq_append_getElem (by omega)]
 have:=M1 (k:=0) (fs:=c.fams) (ss:=ss) k hk (by omega) (by show k<(BA c ss).length; omega)
 rw[Nat.zero_add]at this
 exact congrArg (fun y=>(BA c ss).take k++[y]) this
end Go.Wind
namespace Go.Proofs.Tryz.Op
set_option maxRecDepth 100000
set_option linter.unusedSimpArgs false
theorem M4(fs:List MZ):∀k,k≤fs.length→BS fs [] k=(List.range k).map fun j=>(j,(fs.getD j ⟨0,0,false,false⟩).size)
 | 0,_=>rfl
 | k+1,h=>by
  rw[BS,M4 fs k (by omega),List.range_succ,List.map_append]
  simp
theorem aS{c:BC}{k:Nat}(hk:k<c.fams.length)(h:k<(CJ c []).length):(CJ c [])[k]=(k,c.fams[k].size):=by
 have e:CJ c []=(List.range c.fams.length).map fun j=>(j,(c.fams.getD j ⟨0,0,false,false⟩).size):=M4 c.fams _ (Nat.le_refl _)
 simp only[e,List.getElem_map,List.getElem_range,List.getD_eq_getElem?_getD,List.getElem?_eq_getElem hk]
 rfl
theorem E2(c:BC):(CJ c []).length=c.fams.length:=by
 have e:CJ c []=(List.range c.fams.length).map fun j=>(j,(c.fams.getD j ⟨0,0,false,false⟩).size):=M4 c.fams _ (Nat.le_refl _)
 rw[e]; simp
theorem A81{k:Nat}{l:List Sp}(h:k+l.length≤1000):B4 Tryz.prog 153 k (l.map A2)=true:=by
 rw[CO (by simp) (by simp)]
 simp[maxLen,A2]
 omega
theorem AWU(c:BC)(hf:c.fams.length≤10)(ss:List (Int×Int))(hs:ss.length=c.fams.length)(X2:AX):∀(d k g γ:Nat),k+d=c.fams.length→∃g' γ',∀n m,d<m→A9 (AE Tryz.prog ann kn (n+1200) 37) WW (ann 37 (BN WW)) m ⟨g,[(1,true,.list false (ss.map AG)),(2,true,.ptr 0 2 0 0),(6,true,pv 31 γ (((BA c ss).take k).map A2)),(16,true,.list false ((CJ c []).map B8)),(17,true,i c.fams.length),(18,true,i k)],⟨[],(2,0,X2) :: pl 31 γ 153 (((BA c ss).take k).map A2)⟩⟩ =
  some (.exit 0,⟨g',[(19,true,.bool false),(1,true,.list false (ss.map AG)),(2,true,.ptr 0 2 0 0),(6,true,pv 31 γ' ((BA c ss).map A2)),(16,true,.list false ((CJ c []).map B8)),(17,true,i c.fams.length),(18,true,i c.fams.length)],⟨[],(2,0,X2) :: pl 31 γ' 153 ((BA c ss).map A2)⟩⟩)
 | 0,k,g,γ,hd=>by
  obtain rfl:k=c.fams.length:=by omega
  have hl:(BA c ss).length=c.fams.length:=D0 hs
  rw[← hl,List.take_length,hl]
  refine⟨g,γ,fun n m hm=>?_⟩
  obtain⟨m,rfl⟩:∃m',m=m'+1:=⟨m-1,by omega⟩
  generalize BA c ss=R
  rw[AC]
  cases R <;> simp
 | d+1,k,g,γ,hd=>by
  have hk:k<c.fams.length:=by omega
  have hks:k<ss.length:=by omega
  have hw:=BH (k:=k) (by omega)
  have hgk:k<(CJ c []).length:=by rw[E2]; omega
  have hg:=aS hk hgk
  have hst:=VO hs hk
  have hl:(BA c ss).length=c.fams.length:=D0 hs
  have htl:((BA c ss).take k).length=k:=by rw[List.length_take]; omega
  have hap:=A81 (k:=((BA c ss).take k).length) (l:=[⟨k,c.fams[k].size,ss[k].1,ss[k].2⟩]) (by rw[List.length_singleton]; omega)
  obtain⟨g',γ',ih⟩:=AWU c hf ss hs X2 d (k+1) (g+2) (g+1) (by omega)
  refine⟨g',γ',fun n m hm=>?_⟩
  obtain⟨m,rfl⟩:∃m',m=m'+1:=⟨m-1,by omega⟩
  have ih:=ih n m (by omega)
  rw[hst]at ih
  generalize BA c ss=fin at *
  generalize fin.take k=R at *
  generalize hG:CJ c []=G at *
  generalize c.fams[k].size=sz at *
  rw[AC]
  cases R with
  | nil=>simp[B8,A2,AG,pv,pl]at ih hap; simp[hk,hks,hgk,hg,hw,B8,A2,AG,hap,BG,ih,pv,pl,EZ,HD,ER,BR,B6,BD,EN,D8,show Nat.beq 2 1=false from rfl]
  | cons r R=>simp[B8,A2,AG,pv,pl]at ih hap; simp[hk,hks,hgk,hg,hw,B8,A2,AG,hap,BG,ih,pv,pl,EZ,HD,ER,BR,B6,BD,EN,D8,show Nat.beq 2 1=false from rfl]
def LA(c:BC)(ss:List (Int×Int)):List Sp×Bool:=if ss.length=c.fams.length then(BA c ss,JX c (BA c ss)) else([],false)
theorem UZ{c:BC}(hc:HL c){ss:List (Int×Int)}(hs:ss.length=c.fams.length):∀x∈BA c ss,x.fam<c.fams.length∧1≤x.size∧x.size≤4:=fun x hx=>by
 have hl:(BA c ss).length=c.fams.length:=D0 hs
 obtain⟨j,hj,rfl⟩:=List.getElem_of_mem hx
 have:=M1 (k:=0) (fs:=c.fams) (ss:=ss) j (by omega) (by omega) hj
 have e:(BA c ss)[j]=⟨0+j,(c.fams[j]'(by omega)).size,(ss[j]'(by omega)).1,(ss[j]'(by omega)).2⟩:=this
 rw[e]
 have hf:=hc.fo _ (List.getElem_mem (show j<c.fams.length by omega))
 exact⟨by simp only; omega,by simp only; omega,by simp only; omega⟩
theorem AL0(n:Nat)(c:BC)(hc:HL c)(ss:List (Int×Int)):AY Tryz.prog kn (AE Tryz.prog ann kn (n+2200)) 65 [.agg (AD c),.list false (ss.map AG)]=some (.tup [sl ((LA c ss).1.map A2),.bool (LA c ss).2]):=by
 rw[AP rfl,AO Tryz.func65 b65 rfl (by simp[AD,AH,AN,AG,AS,A4,AR])]
 have slnil:sl ([]:List (List V))=.nil:=rfl
 unfold LA
 by_cases hs:ss.length=c.fams.length
 ·rw[if_pos hs]
  have hfl:=hc.fl
  have hl:(BA c ss).length=c.fams.length:=D0 hs
  have hsI:(ss.length:Int)=c.fams.length:=by omega
  have qS:=fun n=>AD7 n c hc (BA c ss) (by omega) (UZ hc hs)
  have qG:∀n,AY Tryz.prog kn (AE Tryz.prog ann kn (n+2000)) 92 [.agg (AD c),.list false []]=some (sl ((CJ c []).map B8)):=fun n=>AD6 n c (by omega) [] (by simp)
  by_cases hG:CJ c []=[]
  ·have h0:c.fams=[]:=List.eq_nil_of_length_eq_zero (by rw[← E2,hG]; rfl)
   have hL:BA c ss=[]:=List.eq_nil_of_length_eq_zero (by rw[hl,h0]; rfl)
   rw[hG]at qG
   rw[hL]at qS ⊢
   generalize JX c []=Z at *
   rw[h0]at hsI
   simp only[AD,h0]at qS qG ⊢
   simp at qS qG
   simp[c65,AF,slnil,qG,qS,hsI,AG,AS,A4,AR,AC]
  ·obtain⟨g',γ',q⟩:=AWU c (by omega) ss hs (.box (AD c)) c.fams.length 0 1 0 (by omega)
   have q:=fun n m=>q n (m+100) (by omega)
   rw[slX hG]at qG
   have gl:=E2 c
   rw[show(BA c ss).take 0=[] from rfl]at q
   generalize BA c ss=L at *
   generalize JX c L=Z at *
   generalize CJ c []=G at *
   simp only[AD]at q qS qG ⊢
   simp at q qS qG
   have hLn:L≠[]:=fun e=>hG (List.eq_nil_of_length_eq_zero (by rw[gl,← hl,e]; rfl))
   have hsl:=slX (f:=A2) hLn
   rw[hsl]
   simp[c65,AF,slnil,hsl,A2,qG,qS,hsI,gl,AG,AS,A4,AR,q]
 ·have hsI:¬(ss.length:Int)=c.fams.length:=by omega
  rw[if_neg hs]
  simp only[AD]
  simp[c65,AF,slnil,hsI,AG,AS,A4,AR]
end Go.Proofs.Tryz.Op
open Go Go.Pg Go.Proofs Go.Wind
namespace Go.Wind
def F2(l:List GD):Int:=(l.map GD.good).sum
theorem WH(l:List GD)(x:GD):F2 (l++[x])=F2 l+x.good:=by
 unfold F2
 rw[List.map_append,List.sum_append]
 simp
theorem lZ{l:List GD}{k:Nat}(h:k<l.length):F2 (l.take (k+1))=F2 (l.take k)+l[k].good:=by
 rw[List.take_succ_eq_append_getElem h,WH]
theorem xF{l:List GD}(h:∀x∈l,0≤x.good∧x.good≤100):0≤F2 l∧F2 l≤100*l.length:=by
 unfold F2
 induction l with
 | nil=>simp
 | cons x l ih =>
  have h1:=h x (by simp)
  have h2:=ih fun y hy=>h y (by simp[hy])
  simp only[List.map_cons,List.sum_cons,List.length_cons]
  omega
theorem aT{l:List GD}{a:Nat}:∀{n:Nat},a+n≤l.length→F2 ((l.take (a+n)).drop a)=HO (fun p=>(l.getD (a+p) ⟨0,0,0⟩).good) n
 | 0,h=>by
  rw[Nat.add_zero,List.drop_eq_nil_of_le (by rw[List.length_take]; omega)]
  rfl
 | n+1,h=>by
  have ih:=aT (l:=l) (a:=a) (n:=n) (by omega)
  rw[HO,← ih,← Nat.add_assoc,List.take_succ_eq_append_getElem (by omega),List.drop_append_of_le_length (by rw[List.length_take]; omega),WH]
  rw[List.getD_eq_getElem?_getD,List.getElem?_eq_getElem (by omega)]
  rfl
end Go.Wind
namespace Go.Proofs.Tryz.Op
set_option maxRecDepth 100000
set_option linter.unusedSimpArgs false
theorem WI{P:Program}{s:St}{r:Operand→Option V}(T:TypeId)(x l h:Operand):H0 P (aQ (.slice T x (some l) (some h) none)) s r=(r x).bind fun a=>(r l).bind fun b=>(r h).bind fun c=>BU P s T a (some b) (some c) none:=by
 show((r x).bind fun a=>((r l).map some).bind fun l=>((r h).map some).bind fun h=>(some none).bind fun m=>BU P s T a l h m)=_
 cases r x <;> cases r l <;> cases r h <;> rfl
theorem LB{P:Program}{r:Operand→Option V}(T:TypeId)(x:Operand)(l h m:Option Operand):G7 P (.oth (.slice T x l h m)) r=EI (r x):=rfl
theorem AWV(L:List Sp)(H:List (List GD))(O:List Int)(j γ:Nat)(M:List GD)(hM:M.length≤10)(hg:∀x∈M,0≤x.good∧x.good≤100):∀(d k c:Nat),k+d=M.length→∃c',c≤c'∧∀n m,d<m→A9 (AE Tryz.prog ann kn (n+600) 51) W2 (ann 51 (BN W2)) m ⟨c,[(2,true,.list false (H.map BO)),(6,true,pv 48 γ (O.map AH)),(9,true,i (F2 (M.take k))),(12,true,.list false (L.map A2)),(13,true,i L.length),(14,true,i j),(34,true,.list false (M.map B7)),(35,true,i M.length),(36,true,i k)],⟨[],pl 48 γ 3 (O.map AH)⟩⟩ =
  some (.exit 2,⟨c',[(37,true,.bool false),(2,true,.list false (H.map BO)),(6,true,pv 48 γ (O.map AH)),(9,true,i (F2 M)),(12,true,.list false (L.map A2)),(13,true,i L.length),(14,true,i j),(34,true,.list false (M.map B7)),(35,true,i M.length),(36,true,i M.length)],⟨[],pl 48 γ 3 (O.map AH)⟩⟩)
 | 0,k,c,hd=>by
  obtain rfl:k=M.length:=by omega
  rw[List.take_length]
  refine⟨c,Nat.le_refl _,fun n m hm=>?_⟩
  obtain⟨m,rfl⟩:∃m',m=m'+1:=⟨m-1,by omega⟩
  generalize F2 M=S
  rw[AC]
  cases O <;> simp
 | d+1,k,c,hd=>by
  have hk:k<M.length:=by omega
  have hw:=BH (k:=k) (by omega)
  have h1:=hg M[k] (List.getElem_mem hk)
  have h2:=xF (l:=M.take k) fun x hx=>hg x (List.mem_of_mem_take hx)
  have h3:(M.take k).length≤10:=by rw[List.length_take]; omega
  have hwg:IntKind.i64.wrap (F2 (M.take k)+M[k].good)=F2 (M.take k)+M[k].good:=AW (by omega) (by omega)
  obtain⟨c',hc,ih⟩:=AWV L H O j γ M hM hg d (k+1) (c+1) (by omega)
  refine⟨c',by omega,fun n m hm=>?_⟩
  obtain⟨m,rfl⟩:∃m',m=m'+1:=⟨m-1,by omega⟩
  have ih:=ih n m (by omega)
  rw[lZ hk]at ih
  generalize F2 (M.take k)=S at *
  generalize F2 M=SS at *
  rw[AC]
  cases O <;> (simp[B7]at ih; simp[hk,hw,hwg,B7,BG,ih])
theorem tG{s:St}(l:List GD){a b:Int}(h1:0≤a)(h2:a≤b)(h3:b≤l.length):BU Tryz.prog s 156 (.list false (l.map B7)) (some (i a)) (some (i b)) none=some (.list false (((l.take b.toNat).drop a.toNat).map B7)):=by
 have hT:BI Tryz.prog 156=some (none,155):=by kernel_rfl
 simp only[BU,hT]
 rw[if_pos ⟨h1,h2,by rw[List.length_map]; exact h3,by simp,by rw[List.all_map,List.all_eq_true]; intro x _; simp[B7]⟩,← List.map_take,← List.map_drop]
theorem AWW(L:List Sp)(hL:L.length≤10)(H:List (List GD))(hH:∀l∈H,l.length≤10)(hg:∀l∈H,∀x∈l,0≤x.good∧x.good≤100)(hr:H.length≤100)(hx:∀x∈L,0≤x.row∧x.row<H.length∧0≤x.place∧0≤x.size∧x.place+x.size≤(H.getD x.row.toNat []).length):∀(d j c γ:Nat),j+d=L.length→∃c' γ',∀n m,d<m→A9 (AE Tryz.prog ann kn (n+900) 51) W3 (ann 51 (BN W3)) m ⟨c,[(2,true,.list false (H.map BO)),(6,true,pv 48 γ (((L.take j).map (GJ H)).map AH)),(12,true,.list false (L.map A2)),(13,true,i L.length),(14,true,i j)],⟨[],pl 48 γ 3 (((L.take j).map (GJ H)).map AH)⟩⟩ =
  some (.exit 0,⟨c',[(15,true,.bool false),(2,true,.list false (H.map BO)),(6,true,pv 48 γ' ((L.map (GJ H)).map AH)),(12,true,.list false (L.map A2)),(13,true,i L.length),(14,true,i L.length)],⟨[],pl 48 γ' 3 ((L.map (GJ H)).map AH)⟩⟩)
 | 0,j,c,γ,hd=>by
  obtain rfl:j=L.length:=by omega
  rw[List.take_length]
  refine⟨c,γ,fun n m hm=>?_⟩
  obtain⟨m,rfl⟩:∃m',m=m'+1:=⟨m-1,by omega⟩
  generalize L.map (GJ H)=O
  rw[AC]
  cases O <;> simp
 | d+1,j,c,γ,hd=>by
  have hj:j<L.length:=by omega
  have hw:=BH (k:=j) (by omega)
  obtain⟨x1,x2,x3,x4,x5⟩:=hx L[j] (List.getElem_mem hj)
  have hst:(L.take (j+1)).map (GJ H)=(L.take j).map (GJ H)++[GJ H L[j]]:=by rw[List.take_succ_eq_append_getElem hj,List.map_append]; rfl
  have hOl:((L.take j).map (GJ H)).length=j:=by rw[List.length_map,List.length_take]; omega
  have hrl:L[j].row.toNat<H.length:=by omega
  have hHe:H.getD L[j].row.toNat []=H[L[j].row.toNat]:=by rw[List.getD_eq_getElem?_getD,List.getElem?_eq_getElem hrl]; rfl
  have hH1:=hH H[L[j].row.toNat] (List.getElem_mem hrl)
  have hG1:=hg H[L[j].row.toNat] (List.getElem_mem hrl)
  have hS:GJ H L[j]=F2 (((H[L[j].row.toNat]).take (L[j].place+L[j].size).toNat).drop L[j].place.toNat):=by
   unfold GJ
   rw[hHe]at x5 ⊢
   rw[show(L[j].place+L[j].size).toNat=L[j].place.toNat+L[j].size.toNat by omega,aT (by omega)]
  rw[hHe]at x5
  have hwp:IntKind.i64.wrap (L[j].place+L[j].size)=L[j].place+L[j].size:=AW (by omega) (by omega)
  have qs:=fun s=>tG (s:=s) H[L[j].row.toNat] x3 (show L[j].place≤L[j].place+L[j].size by omega) x5
  rw[hS]at hst
  generalize hM:((H[L[j].row.toNat]).take (L[j].place+L[j].size).toNat).drop L[j].place.toNat=M at *
  have hMl:M.length≤10:=by rw[← hM,List.length_drop,List.length_take]; omega
  have hMg:∀x∈M,0≤x.good∧x.good≤100:=fun x hx=>hG1 x (List.mem_of_mem_take (List.mem_of_mem_drop (hM▸hx)))
  obtain⟨c1,hc1,q⟩:=AWV L H ((L.take j).map (GJ H)) j γ M hMl hMg M.length 0 (c+1) (by omega)
  have q:=fun n m=>q n (m+100) (by omega)
  obtain⟨c',γ',ih⟩:=AWW L hL H hH hg hr hx d (j+1) (c1+1) c1 (by omega)
  have hap:=ALO (k:=((L.take j).map (GJ H)).length) (x:=F2 M) (by omega)
  refine⟨c',γ',fun n m hm=>?_⟩
  obtain⟨m,rfl⟩:∃m',m=m'+1:=⟨m-1,by omega⟩
  have ih:=ih n m (by omega)
  rw[hst]at ih
  rw[show F2 (M.take 0)=0 from rfl]at q
  generalize L.map (GJ H)=fin at *
  generalize (L.take j).map (GJ H)=O at *
  generalize F2 M=SM at *
  generalize hX:L[j]=X at *
  rw[AC]
  cases O with
  | nil=>simp[A2,AH,pv,pl]at ih hap q; simp[hj,hX,hw,hwp,x1,x2,hrl,qs,WI,LB,EI,q,A2,BO,AH,hap,BG,ih,pv,pl,EZ,HD,ER,BR,B6,BD,EN,D8]
  | cons r R=>simp[A2,AH,pv,pl]at ih hap q; simp[hj,hX,hw,hwp,x1,x2,hrl,qs,WI,LB,EI,q,A2,BO,AH,hap,BG,ih,pv,pl,EZ,HD,BR,B6,BD,EN,D8]
theorem AWX(n:Nat)(c:BC)(L:List Sp)(hL:L.length≤10)(H:List (List GD))(hH:∀l∈H,l.length≤10)(hg:∀l∈H,∀x∈l,0≤x.good∧x.good≤100)(hr:H.length≤100)(hx:∀x∈L,0≤x.row∧x.row<H.length∧0≤x.place∧0≤x.size∧x.place+x.size≤(H.getD x.row.toNat []).length):AY Tryz.prog kn (AE Tryz.prog ann kn (n+1000)) 67 [.agg (AD c),.list false (L.map A2),.list false (H.map BO)]=some (sl ((L.map (GJ H)).map AH)):=by
 rw[AP rfl,AO Tryz.func67 b67 rfl (by simp[AD,AH,AN,AG,AS,A4,AR,A2,BO,B7])]
 obtain⟨c',γ',q⟩:=AWW L hL H hH hg hr hx L.length 0 1 0 (by omega)
 have q:=fun n m=>q n (m+100) (by omega)
 rw[show((L.take 0).map (GJ H))=[] from rfl]at q
 generalize L.map (GJ H)=O at *
 simp only[AD]at q ⊢
 simp at q
 simp[c67,AF,q,AS,A4,AR,A2,BO,B7]
end Go.Proofs.Tryz.Op
open Go Go.Pg Go.Proofs Go.Wind
namespace Go.Proofs.Tryz.Op
set_option maxRecDepth 100000
set_option linter.unusedSimpArgs false
abbrev IU(c:BC)(t:List Int):List (List GD):=DP c.beach c.plan t c.beach.rows.toNat
def pN(c:BC)(ss:List (Int×Int))(t:List Int):List Int×Int :=
 if EU c≠0 then([],EU c) else if GI c ss=true∧AV t c.beach.winds=true then((BA c ss).map (GJ (IU c t)),0) else([],2)
theorem dD{c:BC}(hc:HL c)(t:List Int)(h5:t.length≤5):(IU c t).length=c.beach.rows.toNat∧(∀l∈IU c t,l.length=c.beach.places.toNat)∧∀l∈IU c t,∀x∈l,0≤x.good∧x.good≤t.length:=by
 refine⟨by simp[IU,DP],fun l hl=>?_,fun l hl x hx=>?_⟩
 ·simp only[IU,DP,List.mem_map]at hl
  obtain⟨r,_,rfl⟩:=hl
  simp[TG]
 ·simp only[IU,DP,List.mem_map]at hl
  obtain⟨r,_,rfl⟩:=hl
  simp only[TG,List.mem_map]at hx
  obtain⟨q,_,rfl⟩:=hx
  have:=ZX (ID c.beach c.plan t r q) (H4 c.beach c.plan r) t.length
  change 0≤(C7 c.beach c.plan t r q).sun∧(C7 c.beach c.plan t r q).sun≤t.length∧0≤(C7 c.beach c.plan t r q).calm∧(C7 c.beach c.plan t r q).calm≤t.length∧0≤(C7 c.beach c.plan t r q).good∧(C7 c.beach c.plan t r q).good≤t.length at this
  exact⟨by omega,by omega⟩
theorem LC{c:BC}(hc:HL c){ss:List (Int×Int)}(h:GI c ss=true):ss.length=c.fams.length∧∀x∈BA c ss,0≤x.row∧x.row<c.beach.rows∧0≤x.place∧(1≤x.size∧x.size≤4)∧x.place+x.size≤c.beach.places:=by
 simp only[GI,JX,Bool.and_eq_true,decide_eq_true_eq]at h
 refine⟨h.1,fun x hx=>?_⟩
 have h1:=M2 c (BA c ss) [] h.2.1 x hx
 have h2:=(UZ hc h.1 x hx).2
 simp only[FN,Bool.and_eq_true,DM]at h1
 omega
theorem fR{c:BC}(hc:HL c)(t:List Int)(h5:t.length≤5){r:Int}(h0:0≤r)(h1:r<c.beach.rows):((IU c t).getD r.toNat []).length=c.beach.places.toNat:=by
 obtain⟨o1,o2,_⟩:=dD hc t h5
 have hr:r.toNat<(IU c t).length:=by omega
 rw[List.getD_eq_getElem?_getD,List.getElem?_eq_getElem hr]
 exact o2 _ (List.getElem_mem hr)
theorem AL1(n:Nat)(c:BC)(hc:HL c)(ss:List (Int×Int))(hs:GI c ss=true)(t:List Int)(ht:AV t c.beach.winds=true):AY Tryz.prog kn (AE Tryz.prog ann kn (n+1000)) 67 [.agg (AD c),.list false ((BA c ss).map A2),.list false ((IU c t).map BO)]=some (sl (((BA c ss).map (GJ (IU c t))).map AH)):=by
 obtain⟨h1,h2⟩:=LC hc hs
 have hlw:=CE ht
 have hl5:=hc.be.hl
 have hro:=hc.be.ro
 have hpl:=hc.be.pl
 have hfl:=hc.fl
 obtain⟨o1,o2,o3⟩:=dD hc t (by omega)
 refine AWX n c _ (by rw[show(BA c ss).length=c.fams.length from D0 h1]; omega) _ (fun l hl=>by rw[o2 l hl]; omega) (fun l hl x hx=>by have:=o3 l hl x hx; omega) (by omega) fun x hx=>?_
 obtain⟨x1,x2,x3,x4,x5⟩:=h2 x hx
 rw[fR hc t (by omega) x1 x2]
 omega
theorem AL2(n:Nat)(c:BC)(h40:∀l∈c.beach.winds,l.length≤40)(hch:c.chairs.length≤40)(ss:List (Int×Int))(t:List Int):AY Tryz.prog kn (AE Tryz.prog ann kn (n+8400)) 20 [.agg (AD c),.list false (ss.map AG),li t]=some (.tup [sl ((pN c ss t).1.map AH),i (pN c ss t).2]):=by
 rw[AP rfl,AO Tryz.func20 b20 rfl (by simp[AD,AH,AN,AG,AS,A4,AR])]
 have slnil:sl ([]:List (List V))=.nil:=rfl
 have qc:=fun n=>WF n c h40 hch
 unfold pN
 by_cases h:EU c=0
 ·rw[if_neg (by simp[h])]
  have hc:=TM h
  have hfl:=hc.fl
  have qs:=fun n=>AL0 n c hc ss
  have qp:=fun n=>ARL n c.beach h40 c.plan t
  have hsv:(LA c ss).2=GI c ss:=by
   unfold LA GI
   by_cases hs:ss.length=c.fams.length <;> simp[hs]
  rw[hsv]at qs
  unfold sX at qp
  rw[if_neg (by simp[KW hc.be])]at qp
  rw[h]at qc
  by_cases hs:GI c ss=true
  ·by_cases ht:AV t c.beach.winds=true
   ·have qu:=fun n=>AL1 n c hc ss hs t ht
    rw[if_pos ⟨hs,ht⟩]
    rw[if_pos ⟨hc.pl,ht⟩]at qp
    rw[hs]at qs
    have hsp:(LA c ss).1=BA c ss:=by
     unfold LA
     rw[if_pos (LC hc hs).1]
    rw[hsp]at qs
    simp only[IU]at qu ⊢
    have hcl:∀v∈(((BA c ss).map (GJ (DP c.beach c.plan t c.beach.rows.toNat))).map AH),∀x∈v,AL 8 x=true:=by simp[AH]
    generalize (BA c ss).map (GJ (DP c.beach c.plan t c.beach.rows.toNat))=O at *
    generalize BA c ss=L at *
    generalize DP c.beach c.plan t c.beach.rows.toNat=H at *
    simp only[AD,AA]at qc qs qp qu ⊢
    simp[c20,AF,slnil,qc,qs,qp,qu,AG,AS,A4,AR,A2,BO,B7]
   ·have ht:AV t c.beach.winds=false:=by simpa using ht
    rw[if_neg (by simp[ht])]
    rw[if_neg (by simp[ht])]at qp
    generalize (LA c ss).1=L at *
    generalize GI c ss=z at *
    simp only[AD,AA]at qc qs qp ⊢
    cases z <;> simp[c20,AF,slnil,qc,qs,qp,AG,AS,A4,AR,A2,BO,B7]
  ·have hs:GI c ss=false:=by simpa using hs
   rw[if_neg (by simp[hs])]
   rw[hs]at qs
   generalize (LA c ss).1=L at *
   by_cases ht:CV c.beach c.plan=true∧AV t c.beach.winds=true
   ·rw[if_pos ht]at qp
    generalize DP c.beach c.plan t c.beach.rows.toNat=H at *
    simp only[AD,AA]at qc qs qp ⊢
    simp[c20,AF,slnil,qc,qs,qp,AG,AS,A4,AR,A2,BO,B7]
   ·rw[if_neg ht]at qp
    simp only[AD,AA]at qc qs qp ⊢
    simp[c20,AF,slnil,qc,qs,qp,AG,AS,A4,AR,A2,BO,B7]
 ·rw[if_pos h]
  generalize EU c=E at *
  simp only[AD]at qc ⊢
  simp[c20,AF,slnil,qc,h,AG,AS,A4,AR]
end Go.Proofs.Tryz.Op
