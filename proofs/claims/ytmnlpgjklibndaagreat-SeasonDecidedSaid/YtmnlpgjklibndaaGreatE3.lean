/- Contracts: holds, verdict, judge. No condition. -/
import Derived.Test.YtmnlpgjklibndaaGreatE2
open Go.Proofs.Tryz renaming prog->cq,func65->cx
open List renaming all_eq_true->bj,map_cons->bq,cons_append->bw,mem_map->bx,map_nil->bz,drop_eq_getElem_cons->bc,getElem_mem->bh,map_append->bn,nil_append->bp,drop_zero->bt,append_assoc->cj
open Nat renaming add_assoc->bf,reduceAdd->bg,le_refl->ck
open Int renaming natCast_zero->br
set_option maxRecDepth 100000
set_option linter.unusedSimpArgs false
open Go Go.Pg Go.Proofs Go.Season
namespace Go.Pg
@[simp] theorem A2N(f:FuncId)(x y:List V):weakC (.fn f x y)=.fn f x y:=rfl
end Go.Pg
namespace Go.Proofs.Tryz.Op
theorem AC1(n:Nat)(ls:List AF)(ws:List Wrd)(hl:ls.length<=1000)(hn:ws.length<=40)(h:∀w∈ws,GB ls.length w):AW cq kn (AH cq ann kn (n+400)) 113 [sc ls,J2 ws]=some (.bool (ws.all (BI ls))):=by rw[AO rfl,AP Tryz.func113 BEZ rfl (by simp[sc,AB,AG])];have q:=fun n=>AMZ n 0 ls 78 (BI ls) ws hn (fun n w hw=>kIs _ ls w hl (h w hw));simp only[sc,Nat.add_zero]at q|-;simp[A31,AJ,q,AB,AG]
def AZ(ls:List AF):List V:=[sc ls]
def ER(φ:List AF->Bool):List (List AF)->Int
 |[]=>0
 |s::S=>if (s::S).all (fun t=>φ t==φ s)=true then(if φ s=true then 1 else 2) else 3
theorem AND(n K:Nat)(f:FuncId)(φ:List AF->Bool)(S:List (List AF))(ws:List Wrd)(b:Bool)(cc:Nat)(hS:S.length<=10000)(hf:∀n s,s∈S->AW cq kn (AH cq ann kn (n+K)) f [sc s,J2 ws]=some (.bool (φ s)))(hh:BE cq f=false):∀(d k m:Nat),k+d=S.length->d<m ->
  BN (AH cq ann kn (n+K+50) 32) Q1 (ann 32 (CC Q1)) m ⟨cc,[(2,true,J2 ws),(3,true,.ptr 0 3 0 0),(7,true,.bool b),(17,true,.list false (S.map AZ)),(18,true,i S.length),(19,true,i k)],⟨[],[(3,0,.box [.fn f [] []])]⟩⟩ =
   bif (S.drop k).all (fun t=>φ t==b) then some (.exit 0,⟨cc,[(20,true,.bool false),(2,true,J2 ws),(3,true,.ptr 0 3 0 0),(7,true,.bool b),(17,true,.list false (S.map AZ)),(18,true,i S.length),(19,true,i S.length)],⟨[],[(3,0,.box [.fn f [] []])]⟩⟩)
   else some (.ret,⟨cc,[(6,true,i 3)],⟨[],[]⟩⟩)
 |0,k,m+1,hd,hm=>by
  have:k=S.length:=by omega
  subst this;simp[AD]
 |d+1,k,m+1,hd,hm=>by
  have hk:k<S.length:=by omega
  have hwk:IntKind.i64.wrap ((k:Int)+1)=((k+1:Nat):Int):=DF (by omega);have q:=fun n=>hf n S[k] (bh hk);have ih:=AND n K f φ S ws b cc hS hf hh d (k+1) m (by omega) (by omega);have nrm:∀a:Nat,n+K+a=(n+a)+K:=fun a=>by omega
  have q2:=q (n+43);rw[<-nrm]at q2;rw[AD,bc hk];simp only[List.all_cons];generalize φ S[k]=x at q2|-;simp only[sc]at q2 ih|-;try simp at ih
  cases x<;>cases b<;>simp[hk,hwk,AZ,sc,AB,AG,q2,hh,ih]
theorem ANE(n K:Nat)(f:FuncId)(φ:List AF->Bool)(S:List (List AF))(ws:List Wrd)(hS:S.length<=10000)(hne:S≠[])(hf:∀n s,s∈S->AW cq kn (AH cq ann kn (n+K)) f [sc s,J2 ws]=some (.bool (φ s)))(hh:BE cq f=false):AW cq kn (AH cq ann kn (n+K+10100)) 69 [.agg [.fn f [] []],.list false (S.map AZ),J2 ws]=some (i (ER φ S)):=by
 have hcl:(S.map AZ).all (fun e=>e.all (AK 8))=true:=bj.2 fun e he=>by obtain⟨l,_,rfl⟩:=bx.1 he;simp[AZ,sc,AB]
 cases S with
 |nil=>exact absurd rfl hne
 |cons s S=>
  have q0:=fun n=>hf n s (by simp)
  have q:=AND (n+10044) K f φ (s::S) ws (φ s) 1 hS hf hh (s::S).length 0 (n+K+10094) (by omega) (by omega)
  rw[AO rfl,AP Tryz.func69 b69 rfl (by simp at hcl;simp[AG];exact hcl)]
  have nrm:∀a:Nat,n+K+a=(n+a)+K:=fun a=>by omega
  have e1:n+10044+K+50=n+K+10094:=by omega
  have q1:=q0 (n+10097)
  rw[<-nrm]at q1
  rw[e1]at q
  simp only[bt,br]at q
  have hv:ER φ (s::S)=(if (s::S).all (fun t=>φ t==φ s)=true then(if φ s=true then 1 else 2) else 3):=rfl
  rw[hv]
  generalize (s::S).all (fun t=>φ t==φ s)=z at q|-
  generalize φ s=x at q q1|-
  have hm:(s::S).map AZ=[sc s]::S.map AZ:=rfl
  have hln:(s::S).length=S.length+1:=rfl
  rw[hm,hln]at q
  rw[hm]
  simp only[sc]at q1 q|-
  try simp at q
  cases z<;>cases x<;>(try simp at q)<;>(simp[c69,AJ,AB,AG,q1,hh];simp[q])
def BO(w:Wrd)(S:List (List AF)):Int:=ER (fun ls=>[w].all (BI ls)) S
theorem vS(n N:Nat)(S:List (List AF))(w:Wrd)(hS:S.length<=10000)(hne:S≠[])(hl:∀s∈S,s.length=N)(hN:N<=1000)(h:GB N w):AW cq kn (AH cq ann kn (n+10600)) 66 [.list false (S.map AZ),.agg (AG w)]=some (i (BO w S)):=by
 have hcl:(S.map AZ).all (fun e=>e.all (AK 8))=true:=bj.2 fun e he=>by obtain⟨l,_,rfl⟩:=bx.1 he;simp[AZ,sc,AB]
 have q:=fun n=>ANE n 400 113 (fun ls=>[w].all (BI ls)) S [w] hS hne (fun n s hs=>AC1 n s [w] (by rw[hl s hs];exact hN) (by simp) (fun x hx=>by simp at hx;subst hx;rw[hl s hs];exact h)) (by simp);unfold BO;generalize S.map AZ=A at q hcl|-;rw[AO rfl,AP Tryz.func66 b66 rfl (by simp at hcl;simp[AG];exact hcl)];simp only[J2,bq,bz,AG,bf,bg]at q|-;simp at hcl;have hcl2:=eq_true hcl;simp[c66,AJ,q,AG,hcl2]
def QF(ws:List (List AF)):Nat:=ws.foldr (fun w n=>w.length*n) 1
theorem vT{β γ:Type}(f:β->List γ)(m:Nat)(h:∀x,(f x).length<=m):∀l:List β,(l.flatMap f).length<=l.length*m
 |[]=>by simp
 |x::l=>by have ih:=vT f m h l;have:=h x;rw[List.flatMap_cons,List.length_append,List.length_cons,Nat.succ_mul];omega
theorem kV(b:A5):∀(ws:List (List AF)) (p:List AF),(F4 b ws p).length<=QF ws
 |[],p=>by unfold F4;split<;>simp[QF]
 |w::ws,p=>vT _ _ (fun x=>kV b ws (p++[x])) w
theorem XV:∀(A B:List (List AF)),A.length=B.length->(∀k (h:k<A.length) (h2:k<B.length),A[k].length<=B[k].length)->QF A<=QF B
 |[],[],_,_=>ck _
 |a::A,b::B,hl,h=>by
  have ih:=XV A B (by simpa using hl) fun k h1 h2=>by have:=h (k+1) (by simpa using h1) (by simpa using h2);simpa using this
  have h0:=h 0 (by simp) (by simp);exact Nat.mul_le_mul h0 ih
theorem rP(C:Int)(ls:List AF):∀n:Nat,MA C n ls<=4096->n*QF (ls.map (readingsP C))<=4096:=by
 induction ls with
 |nil=>
  intro n h
  have h:(n:Int)<=4096:=h
  show n*1<=4096
  omega
 |cons l ls ih=>
  intro n h
  have h:MA C (U3 (n*(readingsP C l).length)) ls<=4096:=h
  have e:QF ((l::ls).map (readingsP C))=(readingsP C l).length*QF (ls.map (readingsP C)):=rfl
  rw[e]
  generalize (readingsP C l).length=r at h
  generalize QF (ls.map (readingsP C))=P at *
  rw[<-Nat.mul_assoc]
  have hc:(n:Int)*(r:Int)=((n*r:Nat):Int):=by simp
  rw[hc]at h
  generalize n*r=m at h
  unfold U3 at h
  split at h
  ·have:=ih 4097 h;have hP:P=0:=by omega
   rw[hP];simp
  ·exact ih m h
theorem VC{b:A5}(h:E4 b=0):(CZ b).length<=4096:=by
 obtain⟨_,_,_,_,_,_,_,_,_,_,hm⟩:=U4 h;have h1:=kV b (AV b) [];have h2:=rP b.chairs b.lines 1 hm;have h3:QF (AV b)<=QF (b.lines.map (readingsP b.chairs)):=XV _ _ (by simp[AV]) fun k h1 h2=>by
  have hk:k<b.lines.length:=by simpa using h2
  have hd:b.lines.getD k CX=b.lines[k]:=by simp[List.getD_eq_getElem?_getD,hk]
  have:(AV b)[k]=JO b k:=by simp[AV]
  rw[this];unfold JO;rw[hd];simpa using List.length_filter_le (fun x=>decide (x∈RK b k)) (readingsP b.chairs b.lines[k])
 unfold CZ;omega
theorem AC2(n:Nat)(c:BC):AW cq kn (AH cq ann kn (n+100)) 70 [.agg (AC c)]=some (.fn 114 [] [.ref (AC c)]):=by rw[AO rfl,AP Tryz.func70 b70 rfl (by simp[AC,AB,AM,AG,AL])];simp[c70,AJ,AC,AB,AM,AG,AL]
theorem gpA(st:XS):gp1 19008000851035 st=mv1 35 (AGP 8 st) 850 [18] st:=by rw[AUI (by decide) (by decide)];rfl
theorem BDT(c:Nat)(fr:Fr)(up:List AA):gp1 19008000851035 ⟨c,fr,⟨up,[]⟩⟩=⟨c,fr,⟨up,[]⟩⟩:=by rw[gpA];rfl
theorem AI5(L:AA)(k γ:Nat)(r:A6):AA.put L k γ r=(k,γ,r)::L:=rfl
theorem BDU(c γ g7 g18:Nat)(T:TypeId)(es:List (List V))(fr:Fr)(B L:AA)(R:List AA)(r18:A6)(h7:FD fr 7=some (true,.ptr 1 7 g7 0))(h18:L.get 18=some (g18,r18)) :
  gp1 19008000851035 ⟨c,fr,⟨B::L::R,[(35,γ,.vec T es)]⟩⟩=⟨c,mvF (R.length+1+1) 35 1 850 fr,⟨B::((850,γ,iR (R.length+1+1) 35 1 850 (.vec T es))::(18,g18,iR (R.length+1+1) 35 1 850 r18)::LB 18 L)::R,[]⟩⟩:=by
 rw[gpA]
 have e1:AGP 8 ⟨c,fr,⟨B::L::R,[(35,γ,.vec T es)]⟩⟩=1:=by show(match FD fr 7 with|some (true,.ptr l _ _ _)=>l|_=>0)=1;rw[h7]
 rw[e1]
 unfold mv1
 have e3:oA 1 (B::L::R).length (AA.get [(35,γ,.vec T es)] 35)=true:=by simp[oA,AA.get,plR]
 simp only[e3]
 simp[mvS,AA.get,mvU,h18,mvL,St.put,AI5]
theorem AI6{n k l d:Nat}(f:Nat)(q:IntKind)(x:Int):OV n k l d f (.int q x)=.int q x:=by cases f<;>rfl
theorem AC3{n k l d:Nat}(f:Nat)(b:Bool)(es:List (List V)):OV n k l d f (.list b es)=.list b es:=by cases f<;>rfl
theorem AI7{n k l d:Nat}(f:Nat)(cs:List V):OV n k l d f (.ref cs)=.ref cs:=by cases f<;>rfl
theorem AI8{n k l d γ m:Nat}(f:Nat):OV n k l d (f+1) (.vec n k γ m)=.vec l d γ m:=by simp[OV]
theorem AI9{n k l d:Nat}(cs:List V):iR n k l d (.box cs)=.box (cs.map (OV n k l d 3)):=rfl
theorem AJA{n k l d:Nat}(T:TypeId)(es:List (List V)):iR n k l d (.vec T es)=.vec T (es.map (List.map (OV n k l d 3))):=rfl
theorem yO(u g:Nat)(r:A6)(L:AA):LB u ((u,g,r)::L)=LB u L:=by show(if u=u then LB u L else _)=_;rw[if_pos rfl]
@[simp] theorem AWX(u:Nat)(L:AA)(j:Nat):(LB u L).get j=if j=u then none else L.get j:=Z9 u L j
theorem TS(t:St)(u:Nat):∀L:AA,AQ t (LB u L)=LB u (AQ t L)
 |[]=>rfl
 |(q,g,r)::L=>by
  have ih:=TS t u L;rw[BJ];unfold LB;by_cases h:q=u
  ·rw[if_pos h,if_pos h,ih]
  ·rw[if_neg h,if_neg h,BJ,ih]
theorem ID(t:St)(T:TypeId)(S:List (List AF)):BU t (.vec T (S.map AZ))=.vec T (S.map AZ):=by refine LZ fun e he v hv=>?_;obtain⟨x,_,rfl⟩:=bx.1 he;simp only[AZ,List.mem_cons,List.not_mem_nil,or_false]at hv;subst hv;rfl
def sv(g:Nat):List (List AF)->V
 |[]=>.nil
 |s::S=>.vec 1 850 g (s::S).length
noncomputable def TN(c:BC)(cc:Nat):Fr:=[(20,true,.fn 114 [] [.ref (AC c)]),(19,true,.agg (AC c)),(2,true,.ptr 1 2 cc 0),(7,true,.ptr 1 7 (cc+1+1) 0)]
noncomputable def GU:Code:=.block 1 (.seq (JE 1199) (.cond (.tmp 27) (JE 2735) .skip))
@[simp] theorem uA(n:Nat)(st:XS):AH cq ann kn n 45 GU st=AH cq ann kn n 45 (.block 1 (.seq (JE 1199) (.cond (.tmp 27) (JE 2735) .skip))) st:=rfl
structure LvA(c:BC)(cc c1:Nat)(S:List (List AF))(L:AA):Prop where
 p2:L.get 2=some (cc,.box (AC c))
 p7:L.get 7=some (cc+2,.box [.ptr 1 18 (cc+1) 0])
 p18:∃g,g<c1/\L.get 18=some (cc+1,.box (AC c++[sv g S]))/\(S≠[]->L.get 850=some (g,.vec 114 (S.map AZ)))
 pr:L.get A9=some (cc+3,.loop (TN c cc) [21] (JE 303) GU 45 .ready)
 st:∀t:St,2<=t.up.length->AQ t L=L
 p20:L.get 20=none
 p35:L.get 35=none
 pn:S=[]->L.get 850=none
def J6(c:BC)(S:List (List AF))(ls:List AF):List (List AF):=if DO c ls<=c.liars then S++[ls] else S
theorem XW(c:BC):∀(l S:List (List AF)),(runL (J6 c) S l).length<=S.length+l.length
 |[],S=>by simp[runL]
 |x::l,S=>by
  have ih:=XW c l (J6 c S x);have h:(J6 c S x).length<=S.length+1:=by unfold J6;split<;>simp
  show(runL (J6 c) (J6 c S x) l).length<=_;simp only[List.length_cons];omega
theorem AC4{c:BC}(hb:QE c){a:List (List AF)}{l:List (List AF)}(h:yK (J6 c) [] (CZ c.book) a l):a.length<=4096:=by obtain⟨pre,post,rfl,h2⟩:=h;have h1:=XW c pre [];have h3:=VC hb.book;have h4:=congrArg List.length h2;simp at h4 h1;omega
theorem ANF{k:Nat}(ls:List AF)(h:k<=4096):CD cq 114 k [AZ ls]=true:=by rw[CQ (by simp) (by simp)];simp[maxLen,AZ];omega
theorem AJB{P:Program}{fr:Fr}{s:St}(e d c:Nat)(y:List V)(ys:List (List V))(h:CD P e 0 (y::ys)=true):adV P e d c fr s .nil (y::ys)=some (⟨c+1,(d,true,.vec s.up.length d c (ys.length+1))::fr,s.put s.up.length d c (.vec e (y::ys))⟩,[(s.up.length,d),(s.up.length,d+P8)]):=by unfold adV;simp[JH,h]
theorem AQV(c:BC)(hb:QE c)(B:AA)(hB1:∀t:St,1<=t.up.length->AQ t B=B)(cc:Nat):rN B c (LvA c cc) (J6 c) [] (cc+3) 3000:=by
 intro a L L1 rest loc c1 ls hat hL hc hp hst;have hk:=AC4 hb hat;obtain⟨p2,p7,⟨g,hg,p18,p850⟩,pr,pst,p20,p35,pn⟩:=hL;have h8:=hb.lines;have hl:=J5 hp;have q72:=fun n=>ACF n c ls (by omega) (by have:=hb.wl;omega) (fun l h=>⟨by have:=hb.wx l h;omega,by rw[hl];exact hb.ww l h⟩);have hst':=fun t h=>hst t h;simp only[bq,bn,bz,List.cons.injEq]at hst';have hun:∀A:AA,CW (B::A::L1::(rest++[loc]))=some (B::A::L1::rest,loc):=fun A=>by rw[<-bw,<-bw,<-bw,unsnoc_snoc]
 have hsr:∀t:St,(L1::(rest++[loc])).length+2<=t.up.length->(rest.map (AQ t)=rest/\AQ t loc=loc):=fun t h=>by have:=(hst' t h).2;exact⟨List.append_inj_left' this rfl,by simpa using List.append_inj_right' this rfl⟩
 have h1s:∀t:St,(L1::(rest++[loc])).length+2<=t.up.length->AQ t L1=L1:=fun t h=>(hst' t h).1;unfold J6;by_cases hle:DO c ls<=c.liars
 ·rw[if_pos hle];cases a with
  |nil=>
   refine⟨(A9,cc+3,.loop (TN c cc) [21] (JE 303) GU 45 .ready)::(850,c1,.vec 114 [AZ ls])::(18,cc+1,.box (AC c++[.vec 1 850 c1 1]))::LB 18 ((A9,cc+3,.loop (TN c cc) [21] (JE 303) GU 45 .busy)::L),c1+1,?_,by omega,fun n fr=>?_⟩
   ·exact⟨by simpa [A9]using p2,by simpa [A9]using p7,⟨c1,by omega,by simp[A9,sv],fun h=>by simp[A9]⟩,by simp,fun t ht=>by
     have e1:¬1=t.up.length:=by omega
     have:=pst t ht;obtain⟨up,loc⟩:=t;simp only at e1;have h2:=fun T=>ID ⟨up,loc⟩ T [ls];simp only[bq,bz,AZ,sc]at h2;simp[TS,this,AC,AZ,sc,AB,AM,AG,AL,e1,h2],by simpa [A9]using p20,by simpa [A9]using p35,fun h=>by simp at h⟩
   ·rw[NF (by simpa using pr) rfl (by omega)];simp only[HM,Fr.put,AD3,TN];simp;rw[EO (fr0:=TN c cc) (ps:=[21]) (asg:=(JE 303)) (body':=GU) (N:=45) (by simpa using pr) (by omega)];generalize hB:A6.loop (TN c cc) [21] (JE 303) GU 45 LS.busy=BB;have hap:=ANF (k:=0) ls (by omega);simp only[AC,sc,sv,AZ]at p2 p18 q72 hap|-;have hcc:cc<c1:=by omega
    have hgp:=fun fr r18 LL h7=>BDU (c1+1) c1 (cc+1+1) (cc+1) 114 [[V.ref [V.list false (List.map AB ls),V.memo [V.list false (List.map AB ls)]]]] fr B ((18,cc+1,r18)::LL) (L1::(rest++[loc])) r18 h7 rfl;simp at hgp;simp[p2,p7,p18,q72,hle,hap,AJB,hcc,hgp,AA.put,A9,AB,AM,AG,AL,AI9,AJA,AI6,AC3,AI7,AI8,yO];subst hB;rw[EP (fr0:=TN c cc) (ps:=[21]) (asg:=(JE 303)) (body:=GU) (N:=45) (by simp) (hun _) (by simp) (by omega)];have h2:=fun t T=>ID t T [ls];simp only[bq,bz,AZ,sc]at h2;simp[pst,h1s,hsr,hB1,AA.put,TN,AC,TS,AB,AM,AG,AL,h2]
  |cons a0 a1=>
   refine⟨(A9,cc+3,.loop (TN c cc) [21] (JE 303) GU 45 .ready)::(18,cc+1,.box (AC c++[.vec 1 850 c1 (a1.length+2)]))::(850,c1,.vec 114 ((a0::a1++[ls]).map AZ))::(A9,cc+3,.loop (TN c cc) [21] (JE 303) GU 45 .busy)::L,c1+1,?_,by omega,fun n fr=>?_⟩
   ·exact⟨by simpa [A9]using p2,by simpa [A9]using p7,⟨c1,by omega,by simp[A9,sv],fun h=>by simp[A9]⟩,by simp,fun t ht=>by
     have e1:¬1=t.up.length:=by omega
     have:=pst t ht;obtain⟨up,loc⟩:=t;simp only at e1;have h2:=fun T=>ID ⟨up,loc⟩ T (a0 :: a1++[ls]);generalize a0 :: a1++[ls]=A at h2 |-;simp[this,AC,AB,AM,AG,AL,e1,h2],by simpa [A9]using p20,by simpa [A9]using p35,fun h=>by simp at h⟩
   ·rw[NF (by simpa using pr) rfl (by omega)];simp only[HM,Fr.put,AD3,TN];simp;rw[EO (fr0:=TN c cc) (ps:=[21]) (asg:=(JE 303)) (body':=GU) (N:=45) (by simpa using pr) (by omega)];generalize hB:A6.loop (TN c cc) [21] (JE 303) GU 45 LS.busy=BB;have hap:=ANF (k:=a1.length+1) ls (by simp at hk;omega);have hcc:cc<c1:=by omega
    have p850:=p850 (by simp);have hall:((a0::a1).map AZ).all (fun y=>y.length==(cq).cellsOf 114)=true:=bj.2 fun e he=>by obtain⟨l,_,rfl⟩:=bx.1 he;simp[AZ]
    have hgp:=BDT (c1+1);have h2:=fun t T=>ID t T (a0::a1++[ls]);simp only[bw,bq,bn,bz]at p850 hall h2|-;generalize AZ a0=X at *;generalize hX:a1.map AZ=XS at *;have hxl:XS.length=a1.length:=by rw[<-hX];simp
    simp only[AC,sc,sv,AZ]at p2 p18 q72 hap h2|-;simp at hall;simp[p2,p7,p18,p850,q72,hle,hap,hall.1,eq_true hall.2,P8,hxl,hcc,hgp,AA.put,A9,AB,AM,AG,AL];subst hB;rw[EP (fr0:=TN c cc) (ps:=[21]) (asg:=(JE 303)) (body:=GU) (N:=45) (by simp) (hun _) (by simp) (by omega)];simp[pst,h1s,hsr,hB1,AA.put,TN,AC,AB,AM,AG,AL,h2]
 ·rw[if_neg hle];refine⟨(A9,cc+3,.loop (TN c cc) [21] (JE 303) GU 45 .ready)::(A9,cc+3,.loop (TN c cc) [21] (JE 303) GU 45 .busy)::L,c1,?_,by omega,fun n fr=>?_⟩
  ·exact⟨by simpa [A9]using p2,by simpa [A9]using p7,⟨g,hg,by simpa [A9]using p18,fun h=>by simpa [A9]using p850 h⟩,by simp,fun t ht=>by simp[pst t ht],by simpa [A9]using p20,by simpa [A9]using p35,fun h=>by simpa [A9]using pn h⟩
  ·rw[NF (by simpa using pr) rfl (by omega)];simp only[HM,Fr.put,AD3,TN];simp;rw[EO (fr0:=TN c cc) (ps:=[21]) (asg:=(JE 303)) (body':=GU) (N:=45) (by simpa using pr) (by omega)];generalize hB:A6.loop (TN c cc) [21] (JE 303) GU 45 LS.busy=BB;simp only[AC,sc]at p2 p18 q72|-;simp[p2,p7,p18,q72,hle,AA.put,A9,AB,AM,AG,AL];subst hB;rw[EP (fr0:=TN c cc) (ps:=[21]) (asg:=(JE 303)) (body:=GU) (N:=45) (by simp) (hun _) (by simp) (by omega)];simp[pst,h1s,hsr,hB1,AA.put,TN,AC]
end Go.Proofs.Tryz.Op
namespace Go.Pg
@[simp] theorem AQW(s:St)(f:Nat)(v:Value):A4 s (f+1) (.raw v)=some (.raw v):=rfl
end Go.Pg
namespace Go.Proofs.Tryz.Op
def AR(c:BC):List (List AF):=runL (J6 c) [] (CZ c.book)
def fU(c:BC):V:=.ref (AC c++[.list false ((AR c).map AZ)])
def DV(c:BC)(fine:Bool):Int:=if CB c≠0 then CB c else if fine=false then 2 else if AR c=[] then 11 else 0
def rQ(c:BC)(fine:Bool):V:=if DV c fine=0 then .tup [fU c,i 0] else .tup [.raw (.pointer none),i (DV c fine)]
theorem rR(c:BC)(fine:Bool)(B:AA)(hB:∀t:St,1<=t.up.length->AQ t B=B)(cc:Nat):∃c',cc<=c'/\∀n d fr,K3 (BX cq ann kn (n+8000)) (some d) ⟨cc,fr,⟨[],B⟩⟩ 65 [.agg (AC c),.bool fine]=some ⟨c',(d,true,rQ c fine)::fr,⟨[],B⟩⟩:=by
 have q59:=fun n=>vH n c;by_cases hb:CB c=0
 ·cases fine with
  |false=>
   refine⟨cc+1,by omega,fun n d fr=>?_⟩
   rw[jJ cx b65 rfl (by simp)]
   rw[hb]at q59
   have he:DV c false=2:=by simp[DV,hb]
   unfold rQ
   rw[he]
   simp only[AC]at q59|-
   simp[c65,AJ,AB,AM,AG,AL,q59,hB]
  |true=>
   rw[hb]at q59
   have ok:=MJ hb
   have q70:=fun n=>AC2 n c
   have hL0:LvA c cc (cc+4) [] [(A9,cc+3,.loop (TN c cc) [21] (JE 303) GU 45 .ready),(2,cc,.box (AC c)),(7,cc+2,.box [.ptr 1 18 (cc+1) 0]),(18,cc+1,.box (AC c++[.nil]))] :=
    ⟨by simp[A9],by simp[A9],⟨0,by omega,by simp[A9,sv],fun h=>absurd rfl h⟩,by simp,fun t ht=>by
     have e1:¬1=t.up.length:=by omega
     obtain⟨up,loc⟩:=t;simp only at e1;simp[AC,AB,AM,AG,AL,e1],by simp[A9],by simp[A9],fun _=>by simp[A9]⟩
   obtain⟨L',c',r1,r2,r3⟩:=AC0 ok hB (fun c1 c2 a L h hl=>⟨hl.p2,hl.p7,by obtain⟨g,g1,g2⟩:=hl.p18;exact⟨g,by omega,g2⟩,hl.pr,hl.st,hl.p20,hl.p35,hl.pn⟩) (fun c a L h=>h.st) (AQV c ok B hB cc) _ hL0 (TN c cc)
   have r3:=fun n=>r3 (n+992)
   obtain⟨p2,p7,⟨g,hg,p18,p850⟩,pr,pst,p20,p35,pn⟩:=r1
   have hk:runL (J6 c) [] (CZ c.book)=AR c:=rfl
   rw[hk]at p18 p850 pn
   refine⟨c',by omega,fun n d fr=>?_⟩
   have r3:=r3 n
   rw[jJ cx b65 rfl (by simp)]
   unfold rQ DV fU
   rw[hb]
   simp only[AC,TN,bf,bg]at q59 q70 r3|-
   try simp at r3
   simp[c65,AJ,AB,AM,AG,AL,q59,q70,NG]
   rw[PP rfl]
   simp
   rw[show(Code.block 1 ((JE 1199).seq (Code.cond (Operand.tmp 27) (JE 2735) Code.skip)))=GU from rfl]
   simp only[bf,bg,r3]
   rw[TD (fr0:=TN c cc) (ps:=[21]) (asg:=(JE 303)) (body:=GU) (N:=45) (by simpa using pr) (by omega)]
   have m3:∀(k:Nat) (c:Nat) (fr:Fr) (up:List AA) (loc:AA),ET k ⟨c,fr,⟨up,loc⟩⟩=⟨c,KZ up.length k (loc.get k) fr,⟨up,FS up.length k (loc.get k) loc⟩⟩:=fun _ _ _ _ _=>rfl
   have g8:∀st:XS,XG [850,18] st=ET 18 (ET 850 st):=fun st=>rfl
   cases hK:AR c with
   |nil=>
    rw[hK]at p18
    simp only[AC]at p18
    have pn:=pn hK
    simp[TN,p2,p7,p18,p20,p35,pn,sv,hB,A9]
   |cons s0 S0=>
    have p850:=p850 (by rw[hK];simp)
    rw[hK]at p18 p850
    simp only[AC]at p18
    have hz:decide ((S0.length:Int)+1=0)=false:=by simp;omega
    simp[TN,p2,p7,p18,p20,p35,p850,sv,hB,g8,m3,A9,hz]
 ·refine⟨cc+1,by omega,fun n d fr=>?_⟩;rw[jJ cx b65 rfl (by simp)];have he:DV c fine=CB c:=by simp[DV,hb]
  unfold rQ;rw[he,if_neg hb];have hd:F3 cq .neq 33 (i (CB c)) (i 0)=some (.bool true):=by simp[hb]
  simp only[AC]at q59|-;generalize CB c=e at *;simp[c65,AJ,AB,AM,AG,AL,q59,hB,hb]
theorem fV(c:BC):AR c=(CZ c.book).filter fun ls=>decide (DO c ls<=c.liars):=by
 have h:∀(l S:List (List AF)),runL (J6 c) S l=S++l.filter fun ls=>decide (DO c ls<=c.liars):=by
  intro l;induction l with
  |nil=>intro S;simp[runL]
  |cons x l ih=>
   intro S
   show runL (J6 c) (J6 c S x) l=_
   rw[ih]
   unfold J6
   by_cases hx:DO c x<=c.liars
   ·rw[if_pos hx,List.filter_cons_of_pos (by simpa using hx)];simp
   ·rw[if_neg hx,List.filter_cons_of_neg (by simpa using hx)]
 unfold AR;rw[h];rfl
theorem XY(b:A5):∀(ws:List (List AF)) (p s:List AF),s∈F4 b ws p->GA b s=true
 |[],p,s,h=>by
  unfold F4 at h;split at h
  ·rename_i h1;rw[List.mem_singleton]at h;rw[h];exact h1
  ·cases h
 |w::ws,p,s,h=>by obtain⟨x,_,hx⟩:=List.mem_flatMap.1 h;exact XY b ws (p++[x]) s hx
theorem MK{b:A5}{s:List AF}(h:s∈CZ b):GA b s=true:=XY b _ _ s h
theorem kX{c:BC}{s:List AF}:s∈AR c↔s∈CZ c.book/\DO c s<=c.liars:=by rw[fV,List.mem_filter];simp
theorem IV{c:BC}{s:List AF}(h:s∈AR c):s.length=c.book.lines.length:=J5 (MK (kX.1 h).1)
theorem WK{c:BC}(ok:QE c):(AR c).length<=4096:=by have h1:=XW c (CZ c.book) [];have h2:=VC ok.book;have h3:(AR c).length<=([]:List (List AF)).length+(CZ c.book).length:=h1;simp at h3;omega
theorem AC5{c:BC}{g:Bool}(h:DV c g=0):QE c/\g=true/\AR c≠[]:=by
 unfold DV at h;split at h
 ·rename_i h1;exact absurd h h1
 ·rename_i h1;split at h
  ·cases h
  ·rename_i h2;split at h
   ·cases h
   ·rename_i h3;exact⟨MJ (by simpa using h1),by simpa using h2,h3⟩
def BM(x:Int):List V:=[i x]
theorem vU{k:Nat}{x:Int}(h:k<=1000):CD cq 3 k [[i x]]=true:=by rw[CQ (by simp) (by simp)];simp[maxLen];omega
theorem AC6(c:BC)(ok:QE c)(hne:AR c≠[]):∀(d k:Nat) (out:List Int) (cc γ:Nat),k+d=c.claims.length->out.length<=k ->
  ∃c' γ',cc<=c'/\∀n m,d<m->BN (AH cq ann kn (n+11000) 35) X3 (ann 35 (CC X3)) m ⟨cc,[(4,true,fU c),(6,true,pv 32 γ (out.map BM)),(18,true,.list false (c.claims.map AG)),(19,true,i c.claims.length),(20,true,i k)],⟨[],(1,0,.box (AC c))::pl 32 γ 3 (out.map BM)⟩⟩ =
  some (.exit 0,⟨c',[(21,true,.bool false),(4,true,fU c),(6,true,pv 32 γ' ((out++(c.claims.drop k).map fun w=>BO w (AR c)).map BM)),(18,true,.list false (c.claims.map AG)),(19,true,i c.claims.length),(20,true,i c.claims.length)],⟨[],(1,0,.box (AC c))::pl 32 γ' 3 ((out++(c.claims.drop k).map fun w=>BO w (AR c)).map BM)⟩⟩)
 |0,k,out,cc,γ,hd,ho=>by
  have:k=c.claims.length:=by omega
  subst this;refine⟨cc,γ,ck _,fun n m hm=>?_⟩;obtain⟨m,rfl⟩:=qNz m (by omega);simp[AD,fU,AC]
 |d+1,k,out,cc,γ,hd,ho=>by
  have hk:k<c.claims.length:=by omega
  have h8:=ok.lines;have h4:=ok.cl;have hwk:=DF (k:=k) (by omega);have nb:Nat.beq 4 1=false:=rfl;have hle:=WK ok;have q:=fun n=>vS n c.book.lines.length (AR c) c.claims[k] (by omega) hne (fun s hs=>IV hs) (by omega) (ok.cw _ (bh hk));obtain⟨c',γ',hc,ih⟩:=AC6 c ok hne d (k+1) (out++[BO c.claims[k] (AR c)]) (cc+2) (cc+1) (by omega) (by simp;omega);have happ:=vU (k:=out.length) (x:=BO c.claims[k] (AR c)) (by omega);have hcl:((AR c).map AZ).all (fun e=>e.all (AK 7))=true:=bj.2 fun e he=>by obtain⟨l,_,rfl⟩:=bx.1 he;simp[AZ,sc,AB]
  refine⟨c',γ',by omega,fun n m hm=>?_⟩;obtain⟨m,rfl⟩:=qNz m (by omega);have ih:=ih n m (by omega);rw[AD,bc hk];simp only[bq];generalize BO c.claims[k] (AR c)=b at q ih happ|-;simp only[bn,bq,bz,FJ,BM,AG,fU,AC,cj,bw,bp]at q ih|-;generalize (AR c).map AZ=KK at q ih hcl|-;try simp at ih hcl
  simp[hk,hwk,AG,AL,AB,AM,BM,q,happ,P8,ih,nb,eq_true hcl]
def ML(c:BC):List Int:=c.claims.map fun w=>BO w (AR c)
def WL(c:BC):V:=if DV c true=0 then .tup [sl ((ML c).map BM),i 0] else .tup [.nil,i (DV c true)]
theorem kY(c:BC)(t:St)(h:1<=t.up.length):AQ t [(1,0,.box (AC c))]=[(1,0,.box (AC c))]:=by obtain⟨up,loc⟩:=t;simp[AC,AB,AM,AG,AL]
theorem WM(n:Nat)(c:BC):AW cq kn (AH cq ann kn (n+11100)) 21 [.agg (AC c)]=some (WL c):=by
 rw[AO rfl,AP Tryz.func21 b21 rfl (by simp[AC,AB,AM,AG,AL])];obtain⟨ca,hca,q65⟩:=rR c true [(1,0,.box (AC c))] (kY c) 1;unfold WL;unfold rQ at q65;by_cases he:DV c true=0
 ·obtain⟨ok,_,hne⟩:=AC5 he;have h4:=ok.cl;rw[if_pos he]at q65|-;obtain⟨c1,γ1,h1,r1⟩:=AC6 c ok hne c.claims.length 0 [] ca 0 (by omega) (by simp);have hcl:((AR c).map AZ).all (fun e=>e.all (AK 7))=true:=bj.2 fun e he=>by obtain⟨l,_,rfl⟩:=bx.1 he;simp[AZ,sc,AB]
  have hJ:((ML c).map BM).all (fun e=>e.all (AK 7))=true:=by simp[BM]
  have r1:=r1 (n+92) (n+11092) (by omega);simp only[bt,bp,bz,LD,HZ,br,AC,fU,bf,bg]at q65 r1|-;rw[show(c.claims.map fun w=>BO w (AR c))=ML c from rfl]at r1;generalize (ML c).map BM=JJ at r1 hJ|-;generalize (AR c).map AZ=KK at q65 r1 hcl;try simp at r1
  simp[c21,AJ,q65,AB,AM,AG,AL];simp[r1];exact fun x hx v hv=>bj.1 (bj.1 hJ x hx) v hv
 ·rw[if_neg he]at q65|-;have hd:decide (DV c true=0)=false:=by simpa using he
  simp only[AC]at q65|-;generalize DV c true=A at q65 hd he;simp[c21,AJ,q65,hd,he,AB,AM,AG,AL]
def JR(l:List Wrd)(S:List (List AF)):Int:=ER (fun ls=>!l.all (BI ls)) S
theorem AC7(c:BC)(ok:QE c)(hne:AR c≠[]):∀(d k:Nat) (out:List Int) (cc γ:Nat),k+d=c.wits.length->out.length<=k ->
  ∃c' γ',cc<=c'/\∀n m,d<m->BN (AH cq ann kn (n+11000) 36) X4 (ann 36 (CC X4)) m ⟨cc,[(4,true,fU c),(6,true,pv 33 γ (out.map BM)),(18,true,.list false (c.wits.map AL)),(19,true,i c.wits.length),(20,true,i k)],⟨[],(1,0,.box (AC c))::pl 33 γ 3 (out.map BM)⟩⟩ =
  some (.exit 0,⟨c',[(21,true,.bool false),(4,true,fU c),(6,true,pv 33 γ' ((out++(c.wits.drop k).map fun w=>JR w (AR c)).map BM)),(18,true,.list false (c.wits.map AL)),(19,true,i c.wits.length),(20,true,i c.wits.length)],⟨[],(1,0,.box (AC c))::pl 33 γ' 3 ((out++(c.wits.drop k).map fun w=>JR w (AR c)).map BM)⟩⟩)
 |0,k,out,cc,γ,hd,ho=>by
  have:k=c.wits.length:=by omega
  subst this;refine⟨cc,γ,ck _,fun n m hm=>?_⟩;obtain⟨m,rfl⟩:=qNz m (by omega);simp[AD,fU,AC]
 |d+1,k,out,cc,γ,hd,ho=>by
  have hk:k<c.wits.length:=by omega
  have h8:=ok.lines;have h4:=ok.wl;have hwk:=DF (k:=k) (by omega);have nb:Nat.beq 4 1=false:=rfl;have hle:=WK ok;have hwx:=ok.wx _ (bh hk);have q:=fun n=>ANE n 400 68 (fun ls=>!c.wits[k].all (BI ls)) (AR c) c.wits[k] (by omega) hne (fun n s hs=>ACD n s c.wits[k] (by rw[IV hs];omega) (by omega) (fun w hw=>by rw[IV hs];exact ok.ww _ (bh hk) w hw)) (by simp);obtain⟨c',γ',hc,ih⟩:=AC7 c ok hne d (k+1) (out++[JR c.wits[k] (AR c)]) (cc+1) cc (by omega) (by simp;omega);have happ:=vU (k:=out.length) (x:=JR c.wits[k] (AR c)) (by omega);have hcl:((AR c).map AZ).all (fun e=>e.all (AK 7))=true:=bj.2 fun e he=>by obtain⟨l,_,rfl⟩:=bx.1 he;simp[AZ,sc,AB]
  have hcl8:((AR c).map AZ).all (fun e=>e.all (AK 8))=true:=bj.2 fun e he=>by obtain⟨l,_,rfl⟩:=bx.1 he;simp[AZ,sc,AB]
  refine⟨c',γ',by omega,fun n m hm=>?_⟩;obtain⟨m,rfl⟩:=qNz m (by omega);have ih:=ih n m (by omega);rw[AD,bc hk];simp only[bq];rw[show ER (fun ls=>!c.wits[k].all (BI ls)) (AR c)=JR c.wits[k] (AR c) from rfl]at q;generalize JR c.wits[k] (AR c)=b at q ih happ|-;simp only[bn,bq,bz,FJ,BM,AG,J2,fU,AC,cj,bw,bp]at q ih|-;simp only[bf,bg]at q;generalize (AR c).map AZ=KK at q ih hcl hcl8|-;try simp at ih hcl hcl8
  simp[hk,hwk,AG,AL,AB,AM,BM,q,happ,P8,ih,nb,eq_true hcl,eq_true hcl8]
def XZ(c:BC):List Int:=c.wits.map fun w=>JR w (AR c)
def fW(c:BC):V:=if DV c true=0 then .tup [sl ((XZ c).map BM),i 0] else .tup [.nil,i (DV c true)]
theorem vV(n:Nat)(c:BC):AW cq kn (AH cq ann kn (n+11100)) 23 [.agg (AC c)]=some (fW c):=by
 rw[AO rfl,AP Tryz.func23 b23 rfl (by simp[AC,AB,AM,AG,AL])];obtain⟨ca,hca,q65⟩:=rR c true [(1,0,.box (AC c))] (kY c) 1;unfold fW;unfold rQ at q65;by_cases he:DV c true=0
 ·obtain⟨ok,_,hne⟩:=AC5 he;have h4:=ok.wl;rw[if_pos he]at q65|-;obtain⟨c1,γ1,h1,r1⟩:=AC7 c ok hne c.wits.length 0 [] ca 0 (by omega) (by simp);have hcl:((AR c).map AZ).all (fun e=>e.all (AK 7))=true:=bj.2 fun e he=>by obtain⟨l,_,rfl⟩:=bx.1 he;simp[AZ,sc,AB]
  have hJ:((XZ c).map BM).all (fun e=>e.all (AK 7))=true:=by simp[BM]
  have r1:=r1 (n+92) (n+11092) (by omega);simp only[bt,bp,bz,LD,HZ,br,AC,fU,bf,bg]at q65 r1|-;rw[show(c.wits.map fun w=>JR w (AR c))=XZ c from rfl]at r1;generalize (XZ c).map BM=JJ at r1 hJ|-;generalize (AR c).map AZ=KK at q65 r1 hcl;try simp at r1
  simp[c23,AJ,q65,AB,AM,AG,AL];simp[r1];exact fun x hx v hv=>bj.1 (bj.1 hJ x hx) v hv
 ·rw[if_neg he]at q65|-;have hd:decide (DV c true=0)=false:=by simpa using he
  simp only[AC]at q65|-;generalize DV c true=A at q65 hd he;simp[c23,AJ,q65,hd,he,AB,AM,AG,AL]
end Go.Proofs.Tryz.Op
