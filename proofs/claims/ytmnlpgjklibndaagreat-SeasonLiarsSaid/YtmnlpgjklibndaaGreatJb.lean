/- The walk of SeasonLiars: true. No condition. -/
import Derived.Test.YtmnlpgjklibndaaGreatE4
set_option maxRecDepth 100000
set_option linter.unusedSimpArgs false
open Go Go.Pg Go.Proofs Go.Season
namespace Go.Proofs.Tryz.Op
theorem gR:∀(A B:List Int),(∀k (h1:k<A.length) (h2:k<B.length),A[k]≠3->A[k]=B[k])->M2 A B=true
 |[],_,_=>rfl
 |_::_,[],_=>rfl
 |a::A,b::B,h=>by
  have h0:=h 0 (by simp) (by simp);have ih:=gR A B fun k h1 h2=>h (k+1) (by simpa using h1) (by simpa using h2);unfold M2;rw[ih,Bool.and_true];have h0:a≠3->a=b:=h0;by_cases h3:a=3
  ·simp[h3]
  ·simp[h0 h3]
theorem dA{c:BL}(h:DZ c=0):JQ c true=if DK c=[] then 11 else 0:=by simp[JQ,h]
theorem AAV{c x:BL}(hc:x.claims=c.claims)(hne:DK c≠[])(hs:∀s∈DK c,s∈DK x):M2 (HW x) (HW c)=true:=by refine gR _ _ fun k h1 h2 h3=>?_;simp only[HW,List.getElem_map,hc]at h3|-;exact(zE hne hs h3).symm
def AAW(c:BL)(w:Nat):BL:={ c with liars:=if IntKind.i64.wrap (c.liars+((w % 3:Nat):Int))<4 then IntKind.i64.wrap (c.liars+((w % 3:Nat):Int)) else 4 }
theorem dB(n:Nat)(c:BL)(w:Nat)(hw:w<=255):A5 Tryz.prog kn (AG Tryz.prog ann kn (n+11500)) 7 [.agg (AF c),.int .u8 w]=some (.bool true):=by
 rw[AQ rfl,AR Tryz.func7 b7 rfl (by simp[AF,AB,AM,AL,AO])];have qA:=fun n d st=>AEZ n d st;have qR:=fun n=>rK n c;have qX:=fun n=>rK n (AAW c w);have w1:IntKind.i64.wrap (w:Int)=(w:Int):=AV (by omega) (by omega);have m1:(w:Int).tmod 3=((w % 3:Nat):Int):=(Int.ofNat_tmod _ 3).symm;have l1:w % 3<3:=Nat.mod_lt _ (by decide);generalize hr:w % 3=r at m1 l1;have w2:IntKind.i64.wrap (r:Int)=(r:Int):=AV (by omega) (by omega);generalize hlm:(if IntKind.i64.wrap (c.liars+(r:Int))<4 then IntKind.i64.wrap (c.liars+(r:Int)) else 4)=lm;have hm:AAW c w={ c with liars:=lm }:=by rw[<-hlm];unfold AAW;rw[hr]
 rw[hm]at qX;generalize hx:({ c with liars:=lm }:BL)=x at qX;have xb:x.book=c.book:=by rw[<-hx]
 have xw:x.wits=c.wits:=by rw[<-hx]
 have xc:x.claims=c.claims:=by rw[<-hx]
 have xl:x.liars=lm:=by rw[<-hx]
 cases h1:SE c with
 |false=>
  rw[h1]at qR
  simp only[AF]at qR|-
  simp[c7,AH,YF,qR,qA,cP,w1,w2,m1,hlm,AB,AM,AL,AO]
 |true=>
  rw[h1]at qR
  cases h2:SE x with
  |false=>
   rw[h2]at qX
   simp only[AF,xb,xw,xc,xl]at qR qX|-
   simp[c7,AH,YF,qR,qX,qA,cP,w1,w2,m1,hlm,AB,AM,AL,AO]
  |true=>
   rw[h2]at qX
   obtain⟨ht,he,ok⟩:=zF h1
   obtain⟨htx,hex,okx⟩:=zF h2
   obtain⟨t1,t2,t3,t4,t5⟩:=Z6 ht
   have qC:=fun n=>yN n c (by omega) (by omega) (by omega) (fun l hl=>by have:=t5 l hl;omega) (by omega)
   have qD:=fun n=>yN n x (by rw[xb];omega) (by rw[xb];omega) (by rw[xw];omega) (fun l hl=>by have:=t5 l (xw▸hl);omega) (by rw[xc];omega)
   have qN:=fun n=>AFI n c
   have qJ:=fun n=>rJ n c
   have qK:=fun n=>rJ n x
   obtain⟨n0,n1,n2,n3⟩:=V4 ok
   have hkn:=gM ok
   unfold mT at qN
   rw[mV]at qJ qK
   rw[he,if_pos rfl]at qN
   have hn0:¬EM c<0:=by omega
   have hn1:¬(c.wits.length:Int)<EM c:=by omega
   by_cases hk:DK c=[]
   ·have ha:JQ c true=11:=by rw[dA he,if_pos hk]
    have hnl:¬EM c<=c.liars:=fun h=>(hkn.2 h) hk;rw[ha]at qJ;generalize EM c=N at qN hn0 hn1 hnl;generalize (K7 c).map HM=A at qJ;generalize (K7 x).map HM=B at qK;generalize JQ x true=E at qK;simp only[AF,cL,xb,xw,xc,xl]at qR qX qC qD qN qJ qK|-;simp[c7,AH,YF,qR,qX,qA,qC,qD,qN,qJ,qK,hn0,hn1,hnl,cP,w1,w2,m1,hlm,AB,AM,AL,AO]
   ·have ha:JQ c true=0:=by rw[dA he,if_neg hk]
    have hnl:EM c<=c.liars:=hkn.1 hk;have hli:=ok.li;have hlt:c.liars<=x.liars:=by
     have h4:0<=c.liars/\c.liars<=4:=by simpa [EL]using hli
     have hw3:IntKind.i64.wrap (c.liars+(r:Int))=c.liars+(r:Int):=AV (by omega) (by omega);rw[hw3]at hlm;rw[xl,<-hlm];split<;>omega
    have hsub:∀s∈DK c,s∈DK x:=fun s hs=>by
     obtain⟨h5,h6⟩:=M1.1 hs;refine M1.2 ⟨by rw[xb];exact h5,?_⟩;have:CQ x s=CQ c s:=by unfold CQ;rw[xw]
     omega
    have hkx:DK x≠[]:=fun e=>by obtain⟨s,hs⟩:=List.exists_mem_of_ne_nil _ hk;have:=hsub s hs;rw[e]at this;cases this
    have hax:JQ x true=0:=by rw[dA hex,if_neg hkx]
    have hl1:(K7 c).length=c.claims.length:=by unfold K7;rw[if_pos ha];simp[HW]
    have hl2:(K7 x).length=c.claims.length:=by unfold K7;rw[if_pos hax];simp[HW,xc]
    have qP:=fun n=>AXW n (K7 x) (K7 c) (by omega) (by omega);have hkp:M2 (K7 x) (K7 c)=true:=by unfold K7;rw[if_pos ha,if_pos hax];exact AAV xc hk hsub
    rw[hkp]at qP;rw[ha]at qJ;rw[hax]at qK;have hl3:((K7 c).map HM).length=c.claims.length:=by simpa using hl1
    have hl4:((K7 x).map HM).length=c.claims.length:=by simpa using hl2
    have hA:((K7 c).map HM).all (fun e=>e.all (AK 8))=true:=by simp[HM]
    have hB:((K7 x).map HM).all (fun e=>e.all (AK 8))=true:=by simp[HM]
    generalize EM c=N at qN hn0 hn1 hnl;generalize (K7 c).map HM=A at qJ qP hl3 hA;generalize (K7 x).map HM=B at qK qP hl4 hB;simp only[List.all_eq_true]at hA hB;simp only[AF,cL,xb,xw,xc,xl]at qR qX qC qD qN qJ qK|-;simp[c7,AH,YF,qR,qX,qA,qC,qD,qN,qJ,qK,qP,eq_true hA,eq_true hB,hl3,hl4,hn0,hn1,hnl,cP,w1,w2,m1,hlm,AB,AM,AL,AO]
end Go.Proofs.Tryz.Op
