/- ints; the walk of SeasonHonest: true. No condition. -/
import Derived.Test.YtmnlpgjklibndaaGreatE4
import Derived.Test.YtmnlpgjklibndaaGreatYg
open Go.Proofs.Tryz renaming prog->cz
open List renaming map_cons->bj,map_append->bq,all_eq_true->bw,map_nil->bx,length_map->bz,getElem?_eq_getElem->bc,getD_eq_getElem?_getD->bf,drop_eq_getElem_cons->bg,map_set->bh,getElem_mem->bn,getElem?_map->br,mem_map->cj,map->cx
open Nat renaming le_trans->bt,mod_lt->ck,mod_le->cq
set_option maxRecDepth 100000
set_option linter.unusedSimpArgs false
open Go Go.Pg Go.Proofs Go.Season
namespace Go.Proofs.Tryz.Op
theorem ALJ(n:Nat)(A B:List Int)(hA:A.length<=100)(hl:A.length=B.length):∀(d k m:Nat),k+d=A.length->d<m ->
  ∃fr,BR (AG cz ann kn (n+50) 26) W8 (ann 26 (CU W8)) m ⟨0,[(0,true,.list false (A.map C7)),(1,true,.list false (B.map C7)),(5,true,i k)],⟨[],[]⟩⟩ =
   bif decide (A.drop k=B.drop k) then some (.exit 0,⟨0,fr,⟨[],[]⟩⟩)
   else some (.ret,⟨0,[(4,true,.bool false)],⟨[],[]⟩⟩)
 |0,k,m+1,hd,hm=>by
  have:k=A.length:=by omega
  subst this;have e:A.drop A.length=B.drop A.length:=by rw[hl];simp[<-hl]
  refine⟨?_,?g⟩;case g=>
   rw[e]
   simp[AE]
   rfl
 |d+1,k,m+1,hd,hm=>by
  have hk:k<A.length:=by omega
  have hb:k<B.length:=by omega
  have hwk:=FB (k:=k) (by omega);obtain⟨fr,ih⟩:=ALJ n A B hA hl d (k+1) m (by omega) (by omega);refine⟨fr,?_⟩;rw[AE,bg hk,bg hb];simp only[List.cons.injEq];generalize e1:decide (A[k]=B[k])=b1;have e1':(!decide (A[k]=B[k]))=!b1:=by rw[e1]
  have e2:decide (A[k]=B[k]/\A.drop (k+1)=B.drop (k+1))=(b1&&decide (A.drop (k+1)=B.drop (k+1))):=by rw[<-e1,Bool.decide_and]
  rw[e2];try simp at ih
  cases b1<;>simp[hk,hb,hwk,C7,PV,e1',ih]
theorem ACC(n:Nat)(A B:List Int)(hA:A.length<=100)(_hB:B.length<=100):A4 cz kn (AG cz ann kn (n+300)) 40 [.list false (A.map C7),.list false (B.map C7)]=some (.bool (decide (A=B))):=by
 rw[AP rfl,AQ Tryz.func40 b40 rfl (by simp[C7])];by_cases hl:A.length=B.length
 ·obtain⟨fr,q⟩:=ALJ (n+244) A B hA hl A.length 0 (n+294) (by omega) (by omega);simp only[List.drop_zero,Nat.add_assoc,Nat.reduceAdd,Int.natCast_zero]at q;generalize decide (A=B)=b at q|-;cases b<;>(try simp at q)<;>simp[c40,AH,hl,q]
 ·have hd:decide (A=B)=false:=by simpa using fun e:A=B=>hl (by rw[e])
  have hl':¬(A.length:Int)=(B.length:Int):=by omega
  rw[hd];simp[c40,AH,hl']
theorem jA(p:List Wrd->Bool):∀(l:List (List Wrd)) (v:Int),I6 p v l<=v->∀x∈l,p x=false
 |[],_,_,x,h=>by cases h
 |y::l,v,hv,x,h=>by
  have hv:I6 p (cond (p y) (v+1) v) l<=v:=hv;have h1:=(VS p l (cond (p y) (v+1) v)).1;cases hy:p y with
  |true=>rw[hy]at hv h1;simp only[cond_true]at hv h1;omega
  |false=>
   rw[hy]at hv
   rcases List.mem_cons.1 h with rfl|h
   ·exact hy
   ·exact jA p l v hv x h
theorem oP{c:BF}{s:List AF}(h:B4 c s<=0){l:List Wrd}(hl:l∈c.wits){w:Wrd}(hw:w∈l):D9 s w=true:=by have:=jA (fun l=>!l.all (D9 s)) c.wits 0 h l hl;simp only[Bool.not_eq_false']at this;exact bw.1 this w hw
theorem ACD(s:List AF)(w:Wrd):D9 s { w with out:=!w.out }=!D9 s w:=by unfold D9;simp only;generalize XC w.tok w.num ((s.map AB).take w.after.toNat) false=a;cases a<;>cases w.out<;>rfl
def PP(c:BF)(w:Wrd):BF:={ c with liars:=0,claims:=[w,{ w with out:=!w.out }] }
theorem aC(n:Nat)(c:BF)(κ1:Nat)(hk1:κ1<=255)(κ2:Nat)(hk2:κ2<=255):A4 cz kn (AG cz ann kn (n+11500)) 10 [.agg (AD c),.int .u8 κ1,.int .u8 κ2]=some (.bool true):=by
 rw[AP rfl,AQ Tryz.func10 b10 rfl (by simp[AD,AB,AN,AJ,AM])];have qA:=fun n d st=>dT n d st;have w1:IntKind.i64.wrap (κ1:Int)=(κ1:Int):=AV (by omega) (by omega);have w2:IntKind.i64.wrap (κ2:Int)=(κ2:Int):=AV (by omega) (by omega);have m1:(κ1:Int).tmod (c.wits.length:Int)=((κ1 % c.wits.length:Nat):Int):=(Int.ofNat_tmod _ _).symm;by_cases h0:c.wits.length=0
 ·have hz:decide ((c.wits.length:Int)=0)=true:=by rw[h0];rfl
  simp only[AD];simp[c10,AH,qA,hz,h0,AB,AN,AJ,AM]
 ·have l1:κ1 % c.wits.length<c.wits.length:=ck _ (by omega);have l2:=cq κ1 c.wits.length;generalize κ1 % c.wits.length=r1 at m1 l1 l2;have wr1:IntKind.i64.wrap (r1:Int)=(r1:Int):=AV (by omega) (by omega);have hmem:=bn l1;obtain⟨l,hl⟩:∃l,c.wits[r1]=l:=⟨_,rfl⟩;rw[hl]at hmem;have hg1:(c.wits.map AM)[r1]? = some (AM l):=by rw[<-hl];simp[l1]
  have m2:(κ2:Int).tmod (l.length:Int)=((κ2 % l.length:Nat):Int):=(Int.ofNat_tmod _ _).symm;by_cases h1:l=[]
  ·simp only[AD];simp[c10,AH,qA,h0,LP,w1,w2,m1,wr1,hg1,hl,h1,l1,AB,AN,AJ,AM]
  ·have hlp:0<l.length:=List.length_pos_iff.2 h1;have l3:κ2 % l.length<l.length:=ck _ hlp;have l4:=cq κ2 l.length;have hz2:¬l.length=0:=by omega
   generalize κ2 % l.length=r2 at m2 l3 l4;have wr2:IntKind.i64.wrap (r2:Int)=(r2:Int):=AV (by omega) (by omega);have hmw:=bn l3;obtain⟨w,hlw⟩:∃w,l[r2]=w:=⟨_,rfl⟩;rw[hlw]at hmw;have hg2:(l.map AJ)[r2]? = some (AJ w):=by rw[<-hlw];simp[l3]
   have qR:=fun n=>OX n (PP c w);generalize hR:KL (PP c w)=R at qR;cases R with
   |false=>
    simp only[AD,PP,bj,bx,AJ]at hg2 qR|-
    simp[c10,AH,qA,h0,h1,hz2,LP,w1,w2,m1,m2,wr1,wr2,hg1,hg2,hl,hlw,l1,l3,qR,AB,AN,AJ,AM]
   |true=>
    obtain⟨ht,he,ok⟩:=TA hR
    obtain⟨t1,t2,t3,t4,t5⟩:=HX ht
    have qC:=fun n=>S7 n (PP c w) (by omega) (by omega) (by omega) (fun l hl=>by have:=t5 l hl;omega) (by omega)
    have qJ:=fun n=>OV n (PP c w)
    rw[QI]at qJ
    by_cases hk:BM (PP c w)=[]
    ·have ha:ER (PP c w) true=11:=by rw[E7 he,if_pos hk]
     rw[ha]at qJ;generalize (DV (PP c w)).map C7=A at qJ;simp only[AD,KJ,PP,bj,bx,AJ]at hg2 qR qC qJ|-;simp[c10,AH,qA,h0,h1,hz2,LP,w1,w2,m1,m2,wr1,wr2,hg1,hg2,hl,hlw,l1,l3,qR,qC,qJ,PV,AB,AN,AJ,AM]
    ·have ha:ER (PP c w) true=0:=by rw[E7 he,if_neg hk]
     have hT:∀s∈BM (PP c w),D9 s w=true:=fun s hs=>oP (c:=PP c w) (KX.1 hs).2 hmem hmw;have hJ:DV (PP c w)=[1,2]:=by
      unfold DV;rw[if_pos ha];show[HY w _,HY _ _]=_;have j1:HY w (BM (PP c w))=1:=(S9 hk).2 fun s hs=>by simp[hT s hs]
      have j2:HY { w with out:=!w.out } (BM (PP c w))=2:=(OW hk).2 fun s hs=>by simp[ACD,hT s hs]
      rw[j1,j2]
     have qI:=fun n=>ACC n [1,2] [1,2] (by simp) (by simp);rw[ha,hJ]at qJ;simp only[AD,KJ,PP,bj,bx,AJ,C7,decide_true]at hg2 qR qC qJ qI|-;simp[c10,AH,qA,h0,h1,hz2,LP,w1,w2,m1,m2,wr1,wr2,hg1,hg2,hl,hlw,l1,l3,qR,qC,qJ,qI,PV,AB,AN,AJ,AM]
def CQ(c:BF)(ws:List Wrd):BF:={ c with wits:=c.wits++[ws] }
theorem A1Y(l:List (List Wrd))(h:l.length*24<=140737488351232):B8 cz 27 0 (l.map AM)=true:=by
 rw[CL (by simp) (by simp)];refine⟨bw.2 fun e he=>?_,?_,?_⟩
 ·obtain⟨x,_,rfl⟩:=cj.1 he;simp[AM]
 ·simp[maxLen];omega
 ·simp;omega
theorem A1Z(l:List (List Wrd))(v:V)(h:l.length*24<=140737488351232):B8 cz 27 l.length [[v]]=true:=by rw[CL (by simp) (by simp)];simp[maxLen];omega
theorem KZ{l k:Nat}{o:Option (Nat×AZ)}(f:Nat):cx (BH l k o f)∘AM=AM:=funext fun x=>by show cx (BH l k o f) [.list false (x.map AJ)]=_;simp[AM]
theorem RN:cx cT∘AM=AM:=funext fun _=>rfl
theorem tM(p:List Wrd->Bool)(w:List Wrd):∀(l:List (List Wrd)) (v:Int),I6 p v (l++[w])=I6 p v l+(if p w=true then 1 else 0)
 |[],v=>by show cond (p w) (v+1) v=v+_;cases p w<;>simp
 |x::l,v=>tM p w l _
theorem bL(c:BF)(ws:List Wrd)(s:List AF):B4 (CQ c ws) s=B4 c s+(if (!ws.all (D9 s))=true then 1 else 0):=tM _ ws c.wits 0
theorem bM(c:BF)(s:List AF):B4 (CQ c []) s=B4 c s:=by rw[bL];simp
theorem XA(c:BF)(ws:List Wrd)(s:List AF):B4 c s<=B4 (CQ c ws) s/\B4 (CQ c ws) s<=B4 c s+1:=by rw[bL];split<;>omega
theorem wM{c:BF}{ws:List Wrd}(ok:Q6 c)(okx:Q6 (CQ c ws)):B7 c<=B7 (CQ c ws)/\B7 (CQ c ws)<=B7 c+1:=by obtain⟨_,_,h3,s,hs,h4⟩:=GC ok;obtain⟨_,_,h5,t,ht,h6⟩:=GC okx;have e1:=XA c ws s;have e2:=XA c ws t;have h7:=h3 t ht;have h8:=h5 s hs;exact⟨by omega,by omega⟩
theorem wN{c:BF}(ok:Q6 c)(oky:Q6 (CQ c [])):B7 (CQ c [])=B7 c:=by obtain⟨_,_,h3,s,hs,h4⟩:=GC ok;obtain⟨_,_,h5,t,ht,h6⟩:=GC oky;have h7:=h3 t ht;have h8:=h5 s hs;rw[bM]at h6 h8;omega
theorem XB(c:BF):BM (CQ c [])=BM c:=by rw[dW,dW];refine List.filter_congr fun s _=>?_;rw[bM];rfl
theorem jB{c:BF}{ws:List Wrd}{s:List AF}(h:s∈BM (CQ c ws)):s∈BM c:=by obtain⟨h1,h2⟩:=KX.1 h;have:=(XA c ws s).1;have h2:B4 (CQ c ws) s<=c.liars:=h2;exact KX.2 ⟨h1,by omega⟩
theorem ALK(n:Nat)(c:BF)(hz:c.wits.length*24<=140737488351232/\∀l∈c.wits,l.length*32<=140737488351232)(ws:List Wrd):A4 cz kn (AG cz ann kn (n+11500)) 8 [.agg (AD c),NH ws]=some (.bool true):=by
 rw[AP rfl,AQ Tryz.func8 b8 rfl (by simp[AD,AB,AN,AJ,AM])];have qA:=fun n d st=>dT n d st;have qR:=fun n=>OX n c;have qX:=fun n=>OX n (CQ c ws);have qY:=fun n=>OX n (CQ c []);have a1:=A1Y c.wits hz.1;have a2:=fun v=>A1Z c.wits v hz.1;have nb8:Nat.beq 8 1=false:=rfl;have g8:∀st:XS,T5 [2000000000000034,34,26] st=T5 [34,26] (T5 [2000000000000034] st):=fun st=>rfl;generalize hR:KL c=R at qR;generalize hX:KL (CQ c ws)=X at qX;generalize hY:KL (CQ c [])=Y at qY;cases R with
 |false=>
  simp only[AD,CQ]at qR qX qY|-
  simp[c8,AH,qR,qX,qY,qA,a1,a2,nb8,C5,DS,BU,IW,G9,PV,AB,AN,AJ,AM]
 |true=>
  cases X with
  |false=>
   simp only[AD,CQ,bq,NH,bj,bx,AM]at qR qX qY|-
   simp[c8,AH,qR,qX,qY,qA,a1,a2,nb8,C5,DS,BU,IW,G9,PV,AB,AN,AJ,AM,KZ,RN]
  |true=>
   cases Y with
   |false=>
    simp only[AD,CQ,bq,NH,bj,bx,AM]at qR qX qY|-
    simp[c8,AH,qR,qX,qY,qA,a1,a2,nb8,C5,DS,BU,IW,G9,PV,AB,AN,AJ,AM,KZ,RN]
   |true=>
    obtain⟨ht,he,ok⟩:=TA hR
    obtain⟨htx,hex,okx⟩:=TA hX
    obtain⟨hty,hey,oky⟩:=TA hY
    have tC:=HX ht
    have tX:=HX htx
    have tY:=HX hty
    have hw5:c.wits.length<=5:=by have:=tX.2.2.1;simp[CQ]at this;omega
    have hcl:=tC.2.2.2.1
    have qC:=fun n=>S7 n c (by omega) (by omega) (by omega) (fun l hl=>by have:=tC.2.2.2.2 l hl;omega) (by omega)
    have qD:=fun n=>S7 n (CQ c ws) (by omega) (by omega) (by omega) (fun l hl=>by have:=tX.2.2.2.2 l hl;omega) (by omega)
    have qE:=fun n=>S7 n (CQ c []) (by omega) (by omega) (by omega) (fun l hl=>by have:=tY.2.2.2.2 l hl;omega) (by omega)
    have n1:=fun n=>Q9 n c
    have n2:=fun n=>Q9 n (CQ c ws)
    have n3:=fun n=>Q9 n (CQ c [])
    have j1:=fun n=>OV n c
    have j2:=fun n=>OV n (CQ c ws)
    have j3:=fun n=>OV n (CQ c [])
    have l3:=fun n=>AGV n (CQ c [])
    obtain⟨m1,m2⟩:=wM ok okx
    have m3:=wN ok oky
    have m4:=GC ok
    have m5:=m4.1
    have m6:=m4.2.1
    clear m4
    unfold dZ at n1 n2 n3
    rw[if_pos he]at n1
    rw[if_pos hex]at n2
    rw[if_pos hey,m3]at n3
    rw[QI]at j1 j2 j3
    rw[wH]at l3
    have ea:ER (CQ c []) true=ER c true:=by rw[E7 he,E7 hey,XB]
    have ej:DV (CQ c [])=DV c:=by unfold DV;rw[ea];unfold D5;rw[XB];rfl
    rw[ea,ej]at j3
    rw[ea]at l3
    have hp1:¬B7 (CQ c ws)<B7 c:=by omega
    have hp2:¬B7 c+1<B7 (CQ c ws):=by omega
    have hpw:IntKind.i64.wrap (B7 c+1)=B7 c+1:=AV (by omega) (by omega)
    have hjl:(DV c).length<=6:=by unfold DV;split<;>simp[D5];omega
    have qI:=fun n=>ACC n (DV c) (DV c) (by omega) (by omega)
    rw[show decide (DV c=DV c)=true by simp]at qI
    have hA:((DV c).map C7).all (fun e=>e.all (AK 8))=true:=by simp[C7]
    have hB:((DV (CQ c ws)).map C7).all (fun e=>e.all (AK 8))=true:=by simp[C7]
    by_cases hk:BM c=[]
    ·have hkx:BM (CQ c ws)=[]:=by
      cases h:BM (CQ c ws)with
      |nil=>rfl
      |cons x X=>have:=jB (c:=c) (ws:=ws) (s:=x) (by rw[h];simp);rw[hk]at this;cases this
     have ha:ER c true=11:=by rw[E7 he,if_pos hk]
     have hax:ER (CQ c ws) true=11:=by rw[E7 hex,if_pos hkx]
     rw[ha]at j1 j3 l3;rw[hax]at j2;generalize B7 c=N at *;generalize B7 (CQ c ws)=M at *;generalize (DV c).map C7=A at j1 j3 qI hA;generalize (DV (CQ c ws)).map C7=B at j2 hB;generalize (eA (CQ c [])).map C7=L at l3;simp only[AD,KJ,CQ,bq,bj,bx,AM,NH,bw]at qR qX qY qC qD qE n1 n2 n3 j1 j2 j3 l3 hA hB|-;simp[c8,AH,qR,qX,qY,qA,qC,qD,qE,n1,n2,n3,j1,j2,j3,l3,qI,hp1,hp2,hpw,eq_true hA,eq_true hB,a1,a2,nb8,C5,DS,BU,IW,G9,PV,AB,AN,AJ,AM,KZ,RN]
    ·have hkn:BM (CQ c [])≠[]:=by rw[XB];exact hk
     have ha:ER c true=0:=by rw[E7 he,if_neg hk]
     have hay:ER (CQ c []) true=0:=ea.trans ha;have hjl2:(DV c).length=c.claims.length:=by unfold DV;rw[if_pos ha];simp[D5]
     have hLl:(eA (CQ c [])).length=c.wits.length+1:=by unfold eA;rw[if_pos hay];simp[QG,CQ]
     have hLg:(eA (CQ c []))[c.wits.length]? = some 2:=by
      have h2:Q8 [] (BM (CQ c []))=2:=(OW hkn).2 fun s _=>by simp
      unfold eA;rw[if_pos hay,<-h2];simp[QG,CQ]
     have hww:IntKind.i64.wrap (c.wits.length:Int)=(c.wits.length:Int):=AV (by omega) (by omega);have hJ2:DV c=D5 c:=if_pos ha;rw[ha]at j1 j3 l3;by_cases hkx:BM (CQ c ws)=[]
     ·have hax:ER (CQ c ws) true=11:=by rw[E7 hex,if_pos hkx]
      rw[hax]at j2;generalize B7 c=N at *;generalize B7 (CQ c ws)=M at *;generalize hAe:(DV c).map C7=A at j1 j3 qI hA;generalize (DV (CQ c ws)).map C7=B at j2 hB;generalize hLe:(eA (CQ c [])).map C7=L at l3;have hAl:A.length=c.claims.length:=by rw[<-hAe,bz,hjl2]
      have hLn:L.length=c.wits.length+1:=by rw[<-hLe,bz,hLl]
      have hLt:c.wits.length<L.length:=by omega
      have hLi:L[c.wits.length]? = some [i 2]:=by rw[<-hLe,br,hLg];rfl
      rw[bc hLt]at hLi;have hLi:=Option.some.inj hLi;have hl1:(c.wits.length:Int)<(c.wits.length:Int)+1:=by omega
      simp only[AD,KJ,CQ,bq,bj,bx,AM,NH,bw]at qR qX qY qC qD qE n1 n2 n3 j1 j2 j3 l3 hA hB|-;simp[c8,AH,qR,qX,qY,qA,qC,qD,qE,n1,n2,n3,j1,j2,j3,l3,qI,hp1,hp2,hpw,hAl,hLn,hLi,hl1,hww,eq_true hA,eq_true hB,a1,a2,nb8,C5,DS,BU,IW,G9,PV,AB,AN,AJ,AM,KZ,RN]
     ·have hax:ER (CQ c ws) true=0:=by rw[E7 hex,if_neg hkx]
      have hjx:(DV (CQ c ws)).length=c.claims.length:=by unfold DV;rw[if_pos hax];simp[D5,CQ]
      have hJx:DV (CQ c ws)=D5 (CQ c ws):=if_pos hax;have qK:=fun n=>AKV n (DV c) (DV (CQ c ws)) (by omega) (by omega);rw[show M4 (DV c) (DV (CQ c ws))=true by rw[hJ2,hJx];exact iS (x:=c) (c:=CQ c ws) rfl hkx fun s hs=>jB hs]at qK;rw[hax]at j2;generalize B7 c=N at *;generalize B7 (CQ c ws)=M at *;generalize hAe:(DV c).map C7=A at j1 j3 qI qK hA;generalize hBe:(DV (CQ c ws)).map C7=B at j2 qK hB;generalize hLe:(eA (CQ c [])).map C7=L at l3;have hAl:A.length=c.claims.length:=by rw[<-hAe,bz,hjl2]
      have hBl:B.length=c.claims.length:=by rw[<-hBe,bz,hjx]
      have hLn:L.length=c.wits.length+1:=by rw[<-hLe,bz,hLl]
      have hLt:c.wits.length<L.length:=by omega
      have hLi:L[c.wits.length]? = some [i 2]:=by rw[<-hLe,br,hLg];rfl
      rw[bc hLt]at hLi;have hLi:=Option.some.inj hLi;have hl1:(c.wits.length:Int)<(c.wits.length:Int)+1:=by omega
      simp only[AD,KJ,CQ,bq,bj,bx,AM,NH,bw]at qR qX qY qC qD qE n1 n2 n3 j1 j2 j3 l3 hA hB|-;simp[c8,AH,qR,qX,qY,qA,qC,qD,qE,n1,n2,n3,j1,j2,j3,l3,qI,qK,hp1,hp2,hpw,hAl,hBl,hLn,hLi,hl1,hww,eq_true hA,eq_true hB,a1,a2,nb8,C5,DS,BU,IW,G9,PV,AB,AN,AJ,AM,KZ,RN]
def GD(c:BF)(r:Nat)(w:Wrd):BF:={ c with wits:=c.wits.set r (c.wits.getD r []++[w]) }
theorem jC(p:List Wrd->Bool):∀(l l':List (List Wrd)) (v v':Int),l.length=l'.length->v<=v'->(∀k (h:k<l.length) (h':k<l'.length),p l[k]=true->p l'[k]=true)->I6 p v l<=I6 p v' l'
 |[],[],v,v',_,hv,_=>hv
 |[],_::_,_,_,h,_,_=>by simp at h
 |_::_,[],_,_,h,_,_=>by simp at h
 |x::l,y::l',v,v',hl,hv,h=>by
  refine jC p l l' _ _ (by simpa using hl) ?_ fun k h1 h2=>h (k+1) (by simpa using h1) (by simpa using h2);have h0:p x=true->p y=true:=h 0 (by simp) (by simp);cases e:p x with
  |true=>rw[h0 e];simp only[cond_true];omega
  |false=>cases p y<;>simp only[cond_true,cond_false]<;>omega
theorem tN(c:BF)(r:Nat)(w:Wrd)(s:List AF):B4 c s<=B4 (GD c r w) s:=by
 refine jC (fun l=>!l.all (D9 s)) c.wits (c.wits.set r (c.wits.getD r []++[w])) 0 0 (by simp) (Int.le_refl _) fun k h1 h2 hp=>?_;rw[List.getElem_set];split
 ·rename_i e;subst e;simp only[Bool.not_eq_true',bf,bc h1,Option.getD_some,List.all_append]at hp|-;rw[hp];rfl
 ·exact hp
theorem oQ{c:BF}{r:Nat}{w:Wrd}(ok:Q6 c)(okx:Q6 (GD c r w)):B7 c<=B7 (GD c r w):=by obtain⟨_,_,h3,_⟩:=GC ok;obtain⟨_,_,_,t,ht,h6⟩:=GC okx;have e2:=tN c r w t;have h7:=h3 t ht;omega
theorem bN{c:BF}{r:Nat}{w:Wrd}{s:List AF}(h:s∈BM (GD c r w)):s∈BM c:=by obtain⟨h1,h2⟩:=KX.1 h;have:=tN c r w s;have h2:B4 (GD c r w) s<=c.liars:=h2;exact KX.2 ⟨h1,by omega⟩
theorem A10(l:List Wrd)(h:l.length*32<=140737488351232):B8 cz 54 0 (l.map AJ)=true:=by
 rw[CL (by simp) (by simp)];refine⟨bw.2 fun e he=>?_,?_,?_⟩
 ·obtain⟨x,_,rfl⟩:=cj.1 he;simp[AJ]
 ·simp[maxLen];omega
 ·simp;omega
theorem APM(l:List Wrd)(w:Wrd)(h:l.length*32<=140737488351232):B8 cz 54 l.length [[i w.after,.bool w.tok,i w.num,.bool w.out]]=true:=by rw[CL (by simp) (by simp)];simp[maxLen];omega
theorem APN(l:List (List Wrd))(h:l.length*24<=140737488351232):B8 cz 27 0 (l.map AM)=true:=by
 rw[CL (by simp) (by simp)];refine⟨bw.2 fun e he=>?_,?_,?_⟩
 ·obtain⟨x,_,rfl⟩:=cj.1 he;simp[AM]
 ·simp[maxLen];omega
 ·simp;omega
theorem jD{p:List V->Bool}{l:List (List V)}(h:l.all p=true)(r:Nat){x:List V}(hx:p x=true):(l.set r x).all p=true :=
 bw.2 fun e he=>by
  rcases List.mem_or_eq_of_mem_set he with h1|h1
  ·exact bw.1 h e h1
  ·rw[h1];exact hx
theorem JL{l k:Nat}{o:Option (Nat×AZ)}(f:Nat):cx (BH l k o f)∘AM=AM:=funext fun x=>by show cx (BH l k o f) [.list false (x.map AJ)]=_;simp[AM]
theorem NM:cx cT∘AM=AM:=funext fun _=>rfl
theorem ALL(n:Nat)(c:BF)(hz:c.wits.length*24<=140737488351232/\∀l∈c.wits,l.length*32<=140737488351232)(κ:Nat)(hκ:κ<=255)(w:Wrd):A4 cz kn (AG cz ann kn (n+11500)) 9 [.agg (AD c),.int .u8 κ,.agg (AJ w)]=some (.bool true):=by
 rw[AP rfl,AQ Tryz.func9 b9 rfl (by simp[AD,AB,AN,AJ,AM])];have qA:=fun n d st=>dT n d st;have w1:IntKind.i64.wrap (κ:Int)=(κ:Int):=AV (by omega) (by omega);have m1:(κ:Int).tmod (c.wits.length:Int)=((κ % c.wits.length:Nat):Int):=(Int.ofNat_tmod _ _).symm;by_cases h0:c.wits.length=0
 ·have hz:decide ((c.wits.length:Int)=0)=true:=by rw[h0];rfl
  simp only[AD];simp[c9,AH,qA,hz,h0,AB,AN,AJ,AM]
 ·have l1:κ % c.wits.length<c.wits.length:=ck _ (by omega);have l2:=cq κ c.wits.length;have nb4:Nat.beq 4 1=false:=rfl;have nb8:Nat.beq 8 1=false:=rfl;have qR:=fun n=>OX n c;have qX:=fun n=>OX n (GD c (κ % c.wits.length) w);generalize hr:κ % c.wits.length=r at m1 l1 l2 qX;have wr1:IntKind.i64.wrap (r:Int)=(r:Int):=AV (by omega) (by omega);have hmem:=bn l1;have hgd:c.wits.getD r []=c.wits[r]:=by simp[bf,l1]
  have a1:=APN c.wits hz.1;have a2:=A10 c.wits[r] (hz.2 _ hmem);have a3:=APM c.wits[r] w (hz.2 _ hmem);have hg1:(c.wits.map AM)[r]? = some (AM c.wits[r]):=by simp[l1]
  generalize hR:KL c=R at qR;generalize hX:KL (GD c r w)=X at qX;unfold GD at qX;rw[hgd]at qX;generalize hl:c.wits[r]=l at *;have hs7:((c.wits.map AM).set r [V.list false (l.map AJ++[[i w.after,.bool w.tok,i w.num,.bool w.out]])]).all (fun e=>e.all (AK 7))=true:=jD (by simp[AM,AJ]) r (by simp[AJ]);have hs8:((c.wits.map AM).set r [V.list false (l.map AJ++[[i w.after,.bool w.tok,i w.num,.bool w.out]])]).all (fun e=>e.all (AK 8))=true:=jD (by simp[AM,AJ]) r (by simp[AJ]);cases R with
  |false=>
   simp only[AD,bh,bq,bj,bx,AM,NH,AJ]at qR qX hg1|-
   simp[c9,AH,qA,qR,qX,h0,LP,w1,m1,wr1,hg1,hl,l1,a1,a2,a3,NT,PV,nb4,nb8,C5,DS,BU,IW,G9,AB,AN,AJ,AM,JL,NM,hs7,hs8]
  |true=>
   cases X with
   |false=>
    simp only[AD,bh,bq,bj,bx,AM,NH,AJ]at qR qX hg1|-
    simp[c9,AH,qA,qR,qX,h0,LP,w1,m1,wr1,hg1,hl,l1,a1,a2,a3,NT,PV,nb4,nb8,C5,DS,BU,IW,G9,AB,AN,AJ,AM,JL,NM,hs7,hs8]
   |true=>
    obtain⟨ht,he,ok⟩:=TA hR
    obtain⟨htx,hex,okx⟩:=TA hX
    obtain⟨t1,t2,t3,t4,t5⟩:=HX ht
    have tX:=HX htx
    have tx5:=tX.2.2.2.2
    have hxw:(GD c r w).wits.length=c.wits.length:=by simp[GD]
    have qC:=fun n=>S7 n c (by omega) (by omega) (by omega) (fun l hl=>by have:=t5 l hl;omega) (by omega)
    have qD:=fun n=>S7 n (GD c r w) (by exact bt t1 (by omega)) (by exact bt t2 (by omega)) (by rw[hxw];omega) (fun l hl=>by have:=tx5 l hl;omega) (by exact bt t4 (by omega))
    have n1:=fun n=>Q9 n c
    have n2:=fun n=>Q9 n (GD c r w)
    have j1:=fun n=>OV n c
    have j2:=fun n=>OV n (GD c r w)
    have m1':=oQ ok okx
    unfold dZ at n1 n2
    rw[if_pos he]at n1
    rw[if_pos hex]at n2
    rw[QI]at j1 j2
    have hp1:¬B7 (GD c r w)<B7 c:=by omega
    have hA:((DV c).map C7).all (fun e=>e.all (AK 8))=true:=by simp[C7]
    have hB:((DV (GD c r w)).map C7).all (fun e=>e.all (AK 8))=true:=by simp[C7]
    have hxe:GD c r w={ c with wits:=c.wits.set r (l++[w]) }:=by unfold GD;rw[hgd]
    by_cases hkx:BM (GD c r w)=[]
    ·have hax:ER (GD c r w) true=11:=by rw[E7 hex,if_pos hkx]
     rw[hax]at j2;generalize B7 c=N at *;generalize B7 (GD c r w)=M at *;generalize (DV (GD c r w)).map C7=B at j2 hB;rw[hxe]at qD n2 j2;by_cases hk:BM c=[]
     ·have ha:ER c true=11:=by rw[E7 he,if_pos hk]
      rw[ha]at j1;generalize (DV c).map C7=A at j1 hA;simp only[AD,KJ,bh,bq,bj,bx,AM,NH,AJ]at qR qX hg1 qC qD n1 n2 j1 j2|-;simp[c9,AH,qA,qR,qX,qC,qD,n1,n2,j1,j2,hp1,h0,LP,w1,m1,wr1,hg1,hl,l1,a1,a2,a3,NT,PV,nb4,nb8,C5,DS,BU,IW,G9,AB,AN,AJ,AM,JL,NM,hs7,hs8]
     ·have ha:ER c true=0:=by rw[E7 he,if_neg hk]
      rw[ha]at j1;generalize (DV c).map C7=A at j1 hA;simp only[AD,KJ,bh,bq,bj,bx,AM,NH,AJ]at qR qX hg1 qC qD n1 n2 j1 j2|-;simp[c9,AH,qA,qR,qX,qC,qD,n1,n2,j1,j2,hp1,h0,LP,w1,m1,wr1,hg1,hl,l1,a1,a2,a3,NT,PV,nb4,nb8,C5,DS,BU,IW,G9,AB,AN,AJ,AM,JL,NM,hs7,hs8]
    ·have hax:ER (GD c r w) true=0:=by rw[E7 hex,if_neg hkx]
     have hk:BM c≠[]:=fun e=>by obtain⟨s,hs⟩:=List.exists_mem_of_ne_nil _ hkx;have:=bN hs;rw[e]at this;cases this
     have ha:ER c true=0:=by rw[E7 he,if_neg hk]
     have hJ2:DV c=D5 c:=if_pos ha;have hJx:DV (GD c r w)=D5 (GD c r w):=if_pos hax;have hjl:(DV c).length=c.claims.length:=by rw[hJ2];simp[D5]
     have hjx:(DV (GD c r w)).length=c.claims.length:=by rw[hJx];simp[D5,GD]
     have qK:=fun n=>AKV n (DV c) (DV (GD c r w)) (by omega) (by omega);rw[show M4 (DV c) (DV (GD c r w))=true by rw[hJ2,hJx];exact iS (x:=c) (c:=GD c r w) rfl hkx fun s hs=>bN hs]at qK;rw[hax]at j2;rw[ha]at j1;generalize B7 c=N at *;generalize B7 (GD c r w)=M at *;generalize hAe:(DV c).map C7=A at j1 qK hA;generalize hBe:(DV (GD c r w)).map C7=B at j2 qK hB;have hAl:A.length=c.claims.length:=by rw[<-hAe,bz,hjl]
     have hBl:B.length=c.claims.length:=by rw[<-hBe,bz,hjx]
     rw[hxe]at qD n2 j2;simp only[AD,KJ,bh,bq,bj,bx,AM,NH,AJ]at qR qX hg1 qC qD n1 n2 j1 j2|-;simp[c9,AH,qA,qR,qX,qC,qD,n1,n2,j1,j2,qK,hp1,hAl,hBl,hA,hB,h0,LP,w1,m1,wr1,hg1,hl,l1,a1,a2,a3,NT,PV,nb4,nb8,C5,DS,BU,IW,G9,AB,AN,AJ,AM,JL,NM,hs7,hs8]
end Go.Proofs.Tryz.Op
