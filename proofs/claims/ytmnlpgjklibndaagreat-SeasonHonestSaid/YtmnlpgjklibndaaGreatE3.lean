/- Contracts: holds, verdict, judge. No condition. -/
import Derived.Test.YtmnlpgjklibndaaGreatE2
open Go.Proofs.Tryz renaming prog->cq,func65->cx
open List renaming all_eq_true->bj,map_cons->bq,cons_append->bw,mem_map->bx,map_nil->bz,drop_eq_getElem_cons->bc,getElem_mem->bh,map_append->bn,nil_append->bp,drop_zero->bt,append_assoc->cj
open Nat renaming add_assoc->bf,reduceAdd->bg,le_refl->ck
open Int renaming natCast_zero->br
set_option maxRecDepth 100000
set_option linter.unusedSimpArgs false
open Go Go.Pg Go.Proofs Go.Season
namespace Go.Pg
@[simp] theorem AZH(f:FuncId)(x y:List V):weakC (.fn f x y)=.fn f x y:=rfl
end Go.Pg
namespace Go.Proofs.Tryz.Op
theorem ANY(n:Nat)(ls:List AF)(ws:List Wrd)(hl:ls.length<=1000)(hn:ws.length<=40)(h:∀w∈ws,dR ls.length w):A4 cq kn (AG cq ann kn (n+400)) 113 [sc ls,NH ws]=some (.bool (ws.all (D9 ls))):=by rw[AP rfl,AQ Tryz.func113 BBE rfl (by simp[sc,AB,AJ])];have q:=fun n=>AKA n 0 ls 78 (D9 ls) ws hn (fun n w hw=>kIs _ ls w hl (h w hw));simp only[sc,Nat.add_zero]at q|-;simp[A0Y,AH,q,AB,AJ]
def CN(ls:List AF):List V:=[sc ls]
def J5(φ:List AF->Bool):List (List AF)->Int
 |[]=>0
 |s::S=>if (s::S).all (fun t=>φ t==φ s)=true then(if φ s=true then 1 else 2) else 3
theorem AKP(n K:Nat)(f:FuncId)(φ:List AF->Bool)(S:List (List AF))(ws:List Wrd)(b:Bool)(cc:Nat)(hS:S.length<=10000)(hf:∀n s,s∈S->A4 cq kn (AG cq ann kn (n+K)) f [sc s,NH ws]=some (.bool (φ s)))(hh:BG cq f=false):∀(d k m:Nat),k+d=S.length->d<m ->
  BR (AG cq ann kn (n+K+50) 32) W4 (ann 32 (CU W4)) m ⟨cc,[(2,true,NH ws),(3,true,.ptr 0 3 0 0),(7,true,.bool b),(17,true,.list false (S.map CN)),(18,true,i S.length),(19,true,i k)],⟨[],[(3,0,.box [.fn f [] []])]⟩⟩ =
   bif (S.drop k).all (fun t=>φ t==b) then some (.exit 0,⟨cc,[(20,true,.bool false),(2,true,NH ws),(3,true,.ptr 0 3 0 0),(7,true,.bool b),(17,true,.list false (S.map CN)),(18,true,i S.length),(19,true,i S.length)],⟨[],[(3,0,.box [.fn f [] []])]⟩⟩)
   else some (.ret,⟨cc,[(6,true,i 3)],⟨[],[]⟩⟩)
 |0,k,m+1,hd,hm=>by
  have:k=S.length:=by omega
  subst this;simp[AE]
 |d+1,k,m+1,hd,hm=>by
  have hk:k<S.length:=by omega
  have hwk:IntKind.i64.wrap ((k:Int)+1)=((k+1:Nat):Int):=FB (by omega);have q:=fun n=>hf n S[k] (bh hk);have ih:=AKP n K f φ S ws b cc hS hf hh d (k+1) m (by omega) (by omega);have nrm:∀a:Nat,n+K+a=(n+a)+K:=fun a=>by omega
  have q2:=q (n+43);rw[<-nrm]at q2;rw[AE,bc hk];simp only[List.all_cons];generalize φ S[k]=x at q2|-;simp only[sc]at q2 ih|-;try simp at ih
  cases x<;>cases b<;>simp[hk,hwk,CN,sc,AB,AJ,q2,hh,ih]
theorem AKQ(n K:Nat)(f:FuncId)(φ:List AF->Bool)(S:List (List AF))(ws:List Wrd)(hS:S.length<=10000)(hne:S≠[])(hf:∀n s,s∈S->A4 cq kn (AG cq ann kn (n+K)) f [sc s,NH ws]=some (.bool (φ s)))(hh:BG cq f=false):A4 cq kn (AG cq ann kn (n+K+10100)) 69 [.agg [.fn f [] []],.list false (S.map CN),NH ws]=some (i (J5 φ S)):=by
 have hcl:(S.map CN).all (fun e=>e.all (AK 8))=true:=bj.2 fun e he=>by obtain⟨l,_,rfl⟩:=bx.1 he;simp[CN,sc,AB]
 cases S with
 |nil=>exact absurd rfl hne
 |cons s S=>
  have q0:=fun n=>hf n s (by simp)
  have q:=AKP (n+10044) K f φ (s::S) ws (φ s) 1 hS hf hh (s::S).length 0 (n+K+10094) (by omega) (by omega)
  rw[AP rfl,AQ Tryz.func69 b69 rfl (by simp at hcl;simp[AJ];exact hcl)]
  have nrm:∀a:Nat,n+K+a=(n+a)+K:=fun a=>by omega
  have e1:n+10044+K+50=n+K+10094:=by omega
  have q1:=q0 (n+10097)
  rw[<-nrm]at q1
  rw[e1]at q
  simp only[bt,br]at q
  have hv:J5 φ (s::S)=(if (s::S).all (fun t=>φ t==φ s)=true then(if φ s=true then 1 else 2) else 3):=rfl
  rw[hv]
  generalize (s::S).all (fun t=>φ t==φ s)=z at q|-
  generalize φ s=x at q q1|-
  have hm:(s::S).map CN=[sc s]::S.map CN:=rfl
  have hln:(s::S).length=S.length+1:=rfl
  rw[hm,hln]at q
  rw[hm]
  simp only[sc]at q1 q|-
  try simp at q
  cases z<;>cases x<;>(try simp at q)<;>(simp[c69,AH,AB,AJ,q1,hh];simp[q])
def HY(w:Wrd)(S:List (List AF)):Int:=J5 (fun ls=>[w].all (D9 ls)) S
theorem AGN(n N:Nat)(S:List (List AF))(w:Wrd)(hS:S.length<=10000)(hne:S≠[])(hl:∀s∈S,s.length=N)(hN:N<=1000)(h:dR N w):A4 cq kn (AG cq ann kn (n+10600)) 66 [.list false (S.map CN),.agg (AJ w)]=some (i (HY w S)):=by
 have hcl:(S.map CN).all (fun e=>e.all (AK 8))=true:=bj.2 fun e he=>by obtain⟨l,_,rfl⟩:=bx.1 he;simp[CN,sc,AB]
 have q:=fun n=>AKQ n 400 113 (fun ls=>[w].all (D9 ls)) S [w] hS hne (fun n s hs=>ANY n s [w] (by rw[hl s hs];exact hN) (by simp) (fun x hx=>by simp at hx;subst hx;rw[hl s hs];exact h)) (by simp);unfold HY;generalize S.map CN=A at q hcl|-;rw[AP rfl,AQ Tryz.func66 b66 rfl (by simp at hcl;simp[AJ];exact hcl)];simp only[NH,bq,bz,AJ,bf,bg]at q|-;simp at hcl;have hcl2:=eq_true hcl;simp[c66,AH,q,AJ,hcl2]
def PY(ws:List (List AF)):Nat:=ws.foldr (fun w n=>w.length*n) 1
theorem tB{β γ:Type}(f:β->List γ)(m:Nat)(h:∀x,(f x).length<=m):∀l:List β,(l.flatMap f).length<=l.length*m
 |[]=>by simp
 |x::l=>by have ih:=tB f m h l;have:=h x;rw[List.flatMap_cons,List.length_append,List.length_cons,Nat.succ_mul];omega
theorem iN(b:AY):∀(ws:List (List AF)) (p:List AF),(FS b ws p).length<=PY ws
 |[],p=>by unfold FS;split<;>simp[PY]
 |w::ws,p=>tB _ _ (fun x=>iN b ws (p++[x])) w
theorem WT:∀(A B:List (List AF)),A.length=B.length->(∀k (h:k<A.length) (h2:k<B.length),A[k].length<=B[k].length)->PY A<=PY B
 |[],[],_,_=>ck _
 |a::A,b::B,hl,h=>by
  have ih:=WT A B (by simpa using hl) fun k h1 h2=>by have:=h (k+1) (by simpa using h1) (by simpa using h2);simpa using this
  have h0:=h 0 (by simp) (by simp);exact Nat.mul_le_mul h0 ih
theorem oJ(C:Int)(ls:List AF):∀n:Nat,LH C n ls<=4096->n*PY (ls.map (readingsP C))<=4096:=by
 induction ls with
 |nil=>
  intro n h
  have h:(n:Int)<=4096:=h
  show n*1<=4096
  omega
 |cons l ls ih=>
  intro n h
  have h:LH C (UE (n*(readingsP C l).length)) ls<=4096:=h
  have e:PY ((l::ls).map (readingsP C))=(readingsP C l).length*PY (ls.map (readingsP C)):=rfl
  rw[e]
  generalize (readingsP C l).length=r at h
  generalize PY (ls.map (readingsP C))=P at *
  rw[<-Nat.mul_assoc]
  have hc:(n:Int)*(r:Int)=((n*r:Nat):Int):=by simp
  rw[hc]at h
  generalize n*r=m at h
  unfold UE at h
  split at h
  ·have:=ih 4097 h;have hP:P=0:=by omega
   rw[hP];simp
  ·exact ih m h
theorem UK{b:AY}(h:EX b=0):(B9 b).length<=4096:=by
 obtain⟨_,_,_,_,_,_,_,_,_,_,hm⟩:=UF h;have h1:=iN b (AS b) [];have h2:=oJ b.chairs b.lines 1 hm;have h3:PY (AS b)<=PY (b.lines.map (readingsP b.chairs)):=WT _ _ (by simp[AS]) fun k h1 h2=>by
  have hk:k<b.lines.length:=by simpa using h2
  have hd:b.lines.getD k CW=b.lines[k]:=by simp[List.getD_eq_getElem?_getD,hk]
  have:(AS b)[k]=I2 b k:=by simp[AS]
  rw[this];unfold I2;rw[hd];simpa using List.length_filter_le (fun x=>decide (x∈Q1 b k)) (readingsP b.chairs b.lines[k])
 unfold B9;omega
theorem AA3(n:Nat)(c:BF):A4 cq kn (AG cq ann kn (n+100)) 70 [.agg (AD c)]=some (.fn 114 [] [.ref (AD c)]):=by rw[AP rfl,AQ Tryz.func70 b70 rfl (by simp[AD,AB,AN,AJ,AM])];simp[c70,AH,AD,AB,AN,AJ,AM]
theorem gpA(st:XS):gp1 19008000851035 st=mv1 35 (AD9 8 st) 850 [18] st:=by rw[ARC (by decide) (by decide)];rfl
theorem A96(c:Nat)(fr:Fr)(up:List AA):gp1 19008000851035 ⟨c,fr,⟨up,[]⟩⟩=⟨c,fr,⟨up,[]⟩⟩:=by rw[gpA];rfl
theorem AGO(L:AA)(k γ:Nat)(r:AZ):AA.put L k γ r=(k,γ,r)::L:=rfl
theorem A97(c γ g7 g18:Nat)(T:TypeId)(es:List (List V))(fr:Fr)(B L:AA)(R:List AA)(r18:AZ)(h7:E5 fr 7=some (true,.ptr 1 7 g7 0))(h18:L.get 18=some (g18,r18)) :
  gp1 19008000851035 ⟨c,fr,⟨B::L::R,[(35,γ,.vec T es)]⟩⟩=⟨c,mvF (R.length+1+1) 35 1 850 fr,⟨B::((850,γ,fT (R.length+1+1) 35 1 850 (.vec T es))::(18,g18,fT (R.length+1+1) 35 1 850 r18)::KS 18 L)::R,[]⟩⟩:=by
 rw[gpA]
 have e1:AD9 8 ⟨c,fr,⟨B::L::R,[(35,γ,.vec T es)]⟩⟩=1:=by show(match E5 fr 7 with|some (true,.ptr l _ _ _)=>l|_=>0)=1;rw[h7]
 rw[e1]
 unfold mv1
 have e3:lX 1 (B::L::R).length (AA.get [(35,γ,.vec T es)] 35)=true:=by simp[lX,AA.get,plR]
 simp only[e3]
 simp[mvS,AA.get,mvU,h18,mvL,St.put,AGO]
theorem AGP{n k l d:Nat}(f:Nat)(q:IntKind)(x:Int):OD n k l d f (.int q x)=.int q x:=by cases f<;>rfl
theorem AA4{n k l d:Nat}(f:Nat)(b:Bool)(es:List (List V)):OD n k l d f (.list b es)=.list b es:=by cases f<;>rfl
theorem AGQ{n k l d:Nat}(f:Nat)(cs:List V):OD n k l d f (.ref cs)=.ref cs:=by cases f<;>rfl
theorem AGR{n k l d γ m:Nat}(f:Nat):OD n k l d (f+1) (.vec n k γ m)=.vec l d γ m:=by simp[OD]
theorem AGS{n k l d:Nat}(cs:List V):fT n k l d (.box cs)=.box (cs.map (OD n k l d 3)):=rfl
theorem AGT{n k l d:Nat}(T:TypeId)(es:List (List V)):fT n k l d (.vec T es)=.vec T (es.map (List.map (OD n k l d 3))):=rfl
theorem wD(u g:Nat)(r:AZ)(L:AA):KS u ((u,g,r)::L)=KS u L:=by show(if u=u then KS u L else _)=_;rw[if_pos rfl]
@[simp] theorem ATT(u:Nat)(L:AA)(j:Nat):(KS u L).get j=if j=u then none else L.get j:=Y1 u L j
theorem S8(t:St)(u:Nat):∀L:AA,AO t (KS u L)=KS u (AO t L)
 |[]=>rfl
 |(q,g,r)::L=>by
  have ih:=S8 t u L;rw[CA];unfold KS;by_cases h:q=u
  ·rw[if_pos h,if_pos h,ih]
  ·rw[if_neg h,if_neg h,CA,ih]
theorem LO(t:St)(T:TypeId)(S:List (List AF)):BN t (.vec T (S.map CN))=.vec T (S.map CN):=by refine SQ fun e he v hv=>?_;obtain⟨x,_,rfl⟩:=bx.1 he;simp only[CN,List.mem_cons,List.not_mem_nil,or_false]at hv;subst hv;rfl
def sv(g:Nat):List (List AF)->V
 |[]=>.nil
 |s::S=>.vec 1 850 g (s::S).length
noncomputable def S4(c:BF)(cc:Nat):Fr:=[(20,true,.fn 114 [] [.ref (AD c)]),(19,true,.agg (AD c)),(2,true,.ptr 1 2 cc 0),(7,true,.ptr 1 7 (cc+1+1) 0)]
noncomputable def GJ:Code:=.block 1 (.seq (IP 1199) (.cond (.tmp 27) (IP 2735) .skip))
@[simp] theorem uA(n:Nat)(st:XS):AG cq ann kn n 45 GJ st=AG cq ann kn n 45 (.block 1 (.seq (IP 1199) (.cond (.tmp 27) (IP 2735) .skip))) st:=rfl
structure LvA(c:BF)(cc c1:Nat)(S:List (List AF))(L:AA):Prop where
 p2:L.get 2=some (cc,.box (AD c))
 p7:L.get 7=some (cc+2,.box [.ptr 1 18 (cc+1) 0])
 p18:∃g,g<c1/\L.get 18=some (cc+1,.box (AD c++[sv g S]))/\(S≠[]->L.get 850=some (g,.vec 114 (S.map CN)))
 pr:L.get A7=some (cc+3,.loop (S4 c cc) [21] (IP 303) GJ 45 .ready)
 st:∀t:St,2<=t.up.length->AO t L=L
 p20:L.get 20=none
 p35:L.get 35=none
 pn:S=[]->L.get 850=none
def JK(c:BF)(S:List (List AF))(ls:List AF):List (List AF):=if B4 c ls<=c.liars then S++[ls] else S
theorem WU(c:BF):∀(l S:List (List AF)),(runL (JK c) S l).length<=S.length+l.length
 |[],S=>by simp[runL]
 |x::l,S=>by
  have ih:=WU c l (JK c S x);have h:(JK c S x).length<=S.length+1:=by unfold JK;split<;>simp
  show(runL (JK c) (JK c S x) l).length<=_;simp only[List.length_cons];omega
theorem AA5{c:BF}(hb:Q6 c){a:List (List AF)}{l:List (List AF)}(h:vZ (JK c) [] (B9 c.book) a l):a.length<=4096:=by obtain⟨pre,post,rfl,h2⟩:=h;have h1:=WU c pre [];have h3:=UK hb.book;have h4:=congrArg List.length h2;simp at h4 h1;omega
theorem AKR{k:Nat}(ls:List AF)(h:k<=4096):B8 cq 114 k [CN ls]=true:=by rw[CL (by simp) (by simp)];simp[maxLen,CN];omega
theorem AGU{P:Program}{fr:Fr}{s:St}(e d c:Nat)(y:List V)(ys:List (List V))(h:B8 P e 0 (y::ys)=true):zH P e d c fr s .nil (y::ys)=some (⟨c+1,(d,true,.vec s.up.length d c (ys.length+1))::fr,s.put s.up.length d c (.vec e (y::ys))⟩,[(s.up.length,d),(s.up.length,d+NT)]):=by unfold zH;simp[IG,h]
theorem ANZ(c:BF)(hb:Q6 c)(B:AA)(hB1:∀t:St,1<=t.up.length->AO t B=B)(cc:Nat):oI B c (LvA c cc) (JK c) [] (cc+3) 3000:=by
 intro a L L1 rest loc c1 ls hat hL hc hp hst;have hk:=AA5 hb hat;obtain⟨p2,p7,⟨g,hg,p18,p850⟩,pr,pst,p20,p35,pn⟩:=hL;have h8:=hb.lines;have hl:=LN hp;have q72:=fun n=>AAK n c ls (by omega) (by have:=hb.wl;omega) (fun l h=>⟨by have:=hb.wx l h;omega,by rw[hl];exact hb.ww l h⟩);have hst':=fun t h=>hst t h;simp only[bq,bn,bz,List.cons.injEq]at hst';have hun:∀A:AA,CV (B::A::L1::(rest++[loc]))=some (B::A::L1::rest,loc):=fun A=>by rw[<-bw,<-bw,<-bw,unsnoc_snoc]
 have hsr:∀t:St,(L1::(rest++[loc])).length+2<=t.up.length->(rest.map (AO t)=rest/\AO t loc=loc):=fun t h=>by have:=(hst' t h).2;exact⟨List.append_inj_left' this rfl,by simpa using List.append_inj_right' this rfl⟩
 have h1s:∀t:St,(L1::(rest++[loc])).length+2<=t.up.length->AO t L1=L1:=fun t h=>(hst' t h).1;unfold JK;by_cases hle:B4 c ls<=c.liars
 ·rw[if_pos hle];cases a with
  |nil=>
   refine⟨(A7,cc+3,.loop (S4 c cc) [21] (IP 303) GJ 45 .ready)::(850,c1,.vec 114 [CN ls])::(18,cc+1,.box (AD c++[.vec 1 850 c1 1]))::KS 18 ((A7,cc+3,.loop (S4 c cc) [21] (IP 303) GJ 45 .busy)::L),c1+1,?_,by omega,fun n fr=>?_⟩
   ·exact⟨by simpa [A7]using p2,by simpa [A7]using p7,⟨c1,by omega,by simp[A7,sv],fun h=>by simp[A7]⟩,by simp,fun t ht=>by
     have e1:¬1=t.up.length:=by omega
     have:=pst t ht;obtain⟨up,loc⟩:=t;simp only at e1;have h2:=fun T=>LO ⟨up,loc⟩ T [ls];simp only[bq,bz,CN,sc]at h2;simp[S8,this,AD,CN,sc,AB,AN,AJ,AM,e1,h2],by simpa [A7]using p20,by simpa [A7]using p35,fun h=>by simp at h⟩
   ·rw[MS (by simpa using pr) rfl (by omega)];simp only[G6,Fr.put,AB7,S4];simp;rw[EG (fr0:=S4 c cc) (ps:=[21]) (asg:=(IP 303)) (body':=GJ) (N:=45) (by simpa using pr) (by omega)];generalize hB:AZ.loop (S4 c cc) [21] (IP 303) GJ 45 LS.busy=BB;have hap:=AKR (k:=0) ls (by omega);simp only[AD,sc,sv,CN]at p2 p18 q72 hap|-;have hcc:cc<c1:=by omega
    have hgp:=fun fr r18 LL h7=>A97 (c1+1) c1 (cc+1+1) (cc+1) 114 [[V.ref [V.list false (List.map AB ls),V.memo [V.list false (List.map AB ls)]]]] fr B ((18,cc+1,r18)::LL) (L1::(rest++[loc])) r18 h7 rfl;simp at hgp;simp[p2,p7,p18,q72,hle,hap,AGU,hcc,hgp,AA.put,A7,AB,AN,AJ,AM,AGS,AGT,AGP,AA4,AGQ,AGR,wD];subst hB;rw[EH (fr0:=S4 c cc) (ps:=[21]) (asg:=(IP 303)) (body:=GJ) (N:=45) (by simp) (hun _) (by simp) (by omega)];have h2:=fun t T=>LO t T [ls];simp only[bq,bz,CN,sc]at h2;simp[pst,h1s,hsr,hB1,AA.put,S4,AD,S8,AB,AN,AJ,AM,h2]
  |cons a0 a1=>
   refine⟨(A7,cc+3,.loop (S4 c cc) [21] (IP 303) GJ 45 .ready)::(18,cc+1,.box (AD c++[.vec 1 850 c1 (a1.length+2)]))::(850,c1,.vec 114 ((a0::a1++[ls]).map CN))::(A7,cc+3,.loop (S4 c cc) [21] (IP 303) GJ 45 .busy)::L,c1+1,?_,by omega,fun n fr=>?_⟩
   ·exact⟨by simpa [A7]using p2,by simpa [A7]using p7,⟨c1,by omega,by simp[A7,sv],fun h=>by simp[A7]⟩,by simp,fun t ht=>by
     have e1:¬1=t.up.length:=by omega
     have:=pst t ht;obtain⟨up,loc⟩:=t;simp only at e1;have h2:=fun T=>LO ⟨up,loc⟩ T (a0 :: a1++[ls]);generalize a0 :: a1++[ls]=A at h2 |-;simp[this,AD,AB,AN,AJ,AM,e1,h2],by simpa [A7]using p20,by simpa [A7]using p35,fun h=>by simp at h⟩
   ·rw[MS (by simpa using pr) rfl (by omega)];simp only[G6,Fr.put,AB7,S4];simp;rw[EG (fr0:=S4 c cc) (ps:=[21]) (asg:=(IP 303)) (body':=GJ) (N:=45) (by simpa using pr) (by omega)];generalize hB:AZ.loop (S4 c cc) [21] (IP 303) GJ 45 LS.busy=BB;have hap:=AKR (k:=a1.length+1) ls (by simp at hk;omega);have hcc:cc<c1:=by omega
    have p850:=p850 (by simp);have hall:((a0::a1).map CN).all (fun y=>y.length==(cq).cellsOf 114)=true:=bj.2 fun e he=>by obtain⟨l,_,rfl⟩:=bx.1 he;simp[CN]
    have hgp:=A96 (c1+1);have h2:=fun t T=>LO t T (a0::a1++[ls]);simp only[bw,bq,bn,bz]at p850 hall h2|-;generalize CN a0=X at *;generalize hX:a1.map CN=XS at *;have hxl:XS.length=a1.length:=by rw[<-hX];simp
    simp only[AD,sc,sv,CN]at p2 p18 q72 hap h2|-;simp at hall;simp[p2,p7,p18,p850,q72,hle,hap,hall.1,eq_true hall.2,NT,hxl,hcc,hgp,AA.put,A7,AB,AN,AJ,AM];subst hB;rw[EH (fr0:=S4 c cc) (ps:=[21]) (asg:=(IP 303)) (body:=GJ) (N:=45) (by simp) (hun _) (by simp) (by omega)];simp[pst,h1s,hsr,hB1,AA.put,S4,AD,AB,AN,AJ,AM,h2]
 ·rw[if_neg hle];refine⟨(A7,cc+3,.loop (S4 c cc) [21] (IP 303) GJ 45 .ready)::(A7,cc+3,.loop (S4 c cc) [21] (IP 303) GJ 45 .busy)::L,c1,?_,by omega,fun n fr=>?_⟩
  ·exact⟨by simpa [A7]using p2,by simpa [A7]using p7,⟨g,hg,by simpa [A7]using p18,fun h=>by simpa [A7]using p850 h⟩,by simp,fun t ht=>by simp[pst t ht],by simpa [A7]using p20,by simpa [A7]using p35,fun h=>by simpa [A7]using pn h⟩
  ·rw[MS (by simpa using pr) rfl (by omega)];simp only[G6,Fr.put,AB7,S4];simp;rw[EG (fr0:=S4 c cc) (ps:=[21]) (asg:=(IP 303)) (body':=GJ) (N:=45) (by simpa using pr) (by omega)];generalize hB:AZ.loop (S4 c cc) [21] (IP 303) GJ 45 LS.busy=BB;simp only[AD,sc]at p2 p18 q72|-;simp[p2,p7,p18,q72,hle,AA.put,A7,AB,AN,AJ,AM];subst hB;rw[EH (fr0:=S4 c cc) (ps:=[21]) (asg:=(IP 303)) (body:=GJ) (N:=45) (by simp) (hun _) (by simp) (by omega)];simp[pst,h1s,hsr,hB1,AA.put,S4,AD]
end Go.Proofs.Tryz.Op
namespace Go.Pg
@[simp] theorem AN0(s:St)(f:Nat)(v:Value):AX s (f+1) (.raw v)=some (.raw v):=rfl
end Go.Pg
namespace Go.Proofs.Tryz.Op
def BM(c:BF):List (List AF):=runL (JK c) [] (B9 c.book)
def wkC(c:BF):V:=.ref (AD c++[.list false ((BM c).map CN)])
def ER(c:BF)(fine:Bool):Int:=if EB c≠0 then EB c else if fine=false then 2 else if BM c=[] then 11 else 0
def wE(c:BF)(fine:Bool):V:=if ER c fine=0 then .tup [wkC c,i 0] else .tup [.raw (.pointer none),i (ER c fine)]
theorem AA6(c:BF)(fine:Bool)(B:AA)(hB:∀t:St,1<=t.up.length->AO t B=B)(cc:Nat):∃c',cc<=c'/\∀n d fr,MU (BS cq ann kn (n+8000)) (some d) ⟨cc,fr,⟨[],B⟩⟩ 65 [.agg (AD c),.bool fine]=some ⟨c',(d,true,wE c fine)::fr,⟨[],B⟩⟩:=by
 have q59:=fun n=>sT n c;by_cases hb:EB c=0
 ·cases fine with
  |false=>
   refine⟨cc+1,by omega,fun n d fr=>?_⟩
   rw[gL cx b65 rfl (by simp)]
   rw[hb]at q59
   have he:ER c false=2:=by simp[ER,hb]
   unfold wE
   rw[he]
   simp only[AD]at q59|-
   simp[c65,AH,AB,AN,AJ,AM,q59,hB]
  |true=>
   rw[hb]at q59
   have ok:=VO hb
   have q70:=fun n=>AA3 n c
   have hL0:LvA c cc (cc+4) [] [(A7,cc+3,.loop (S4 c cc) [21] (IP 303) GJ 45 .ready),(2,cc,.box (AD c)),(7,cc+2,.box [.ptr 1 18 (cc+1) 0]),(18,cc+1,.box (AD c++[.nil]))] :=
    ⟨by simp[A7],by simp[A7],⟨0,by omega,by simp[A7,sv],fun h=>absurd rfl h⟩,by simp,fun t ht=>by
     have e1:¬1=t.up.length:=by omega
     obtain⟨up,loc⟩:=t;simp only at e1;simp[AD,AB,AN,AJ,AM,e1],by simp[A7],by simp[A7],fun _=>by simp[A7]⟩
   obtain⟨L',c',r1,r2,r3⟩:=AA2 ok hB (fun c1 c2 a L h hl=>⟨hl.p2,hl.p7,by obtain⟨g,g1,g2⟩:=hl.p18;exact⟨g,by omega,g2⟩,hl.pr,hl.st,hl.p20,hl.p35,hl.pn⟩) (fun c a L h=>h.st) (ANZ c ok B hB cc) _ hL0 (S4 c cc)
   have r3:=fun n=>r3 (n+992)
   obtain⟨p2,p7,⟨g,hg,p18,p850⟩,pr,pst,p20,p35,pn⟩:=r1
   have hk:runL (JK c) [] (B9 c.book)=BM c:=rfl
   rw[hk]at p18 p850 pn
   refine⟨c',by omega,fun n d fr=>?_⟩
   have r3:=r3 n
   rw[gL cx b65 rfl (by simp)]
   unfold wE ER wkC
   rw[hb]
   simp only[AD,S4,bf,bg]at q59 q70 r3|-
   try simp at r3
   simp[c65,AH,AB,AN,AJ,AM,q59,q70,MT]
   rw[O9 rfl]
   simp
   rw[show(Code.block 1 ((IP 1199).seq (Code.cond (Operand.tmp 27) (IP 2735) Code.skip)))=GJ from rfl]
   simp only[bf,bg,r3]
   rw[SP (fr0:=S4 c cc) (ps:=[21]) (asg:=(IP 303)) (body:=GJ) (N:=45) (by simpa using pr) (by omega)]
   have m3:∀(k:Nat) (c:Nat) (fr:Fr) (up:List AA) (loc:AA),EK k ⟨c,fr,⟨up,loc⟩⟩=⟨c,KE up.length k (loc.get k) fr,⟨up,FR up.length k (loc.get k) loc⟩⟩:=fun _ _ _ _ _=>rfl
   have g8:∀st:XS,T5 [850,18] st=EK 18 (EK 850 st):=fun st=>rfl
   cases hK:BM c with
   |nil=>
    rw[hK]at p18
    simp only[AD]at p18
    have pn:=pn hK
    simp[S4,p2,p7,p18,p20,p35,pn,sv,hB,A7]
   |cons s0 S0=>
    have p850:=p850 (by rw[hK];simp)
    rw[hK]at p18 p850
    simp only[AD]at p18
    have hz:decide ((S0.length:Int)+1=0)=false:=by simp;omega
    simp[S4,p2,p7,p18,p20,p35,p850,sv,hB,g8,m3,A7,hz]
 ·refine⟨cc+1,by omega,fun n d fr=>?_⟩;rw[gL cx b65 rfl (by simp)];have he:ER c fine=EB c:=by simp[ER,hb]
  unfold wE;rw[he,if_neg hb];have hd:FZ cq .neq 33 (i (EB c)) (i 0)=some (.bool true):=by simp[hb]
  simp only[AD]at q59|-;generalize EB c=e at *;simp[c65,AH,AB,AN,AJ,AM,q59,hB,hb]
theorem dW(c:BF):BM c=(B9 c.book).filter fun ls=>decide (B4 c ls<=c.liars):=by
 have h:∀(l S:List (List AF)),runL (JK c) S l=S++l.filter fun ls=>decide (B4 c ls<=c.liars):=by
  intro l;induction l with
  |nil=>intro S;simp[runL]
  |cons x l ih=>
   intro S
   show runL (JK c) (JK c S x) l=_
   rw[ih]
   unfold JK
   by_cases hx:B4 c x<=c.liars
   ·rw[if_pos hx,List.filter_cons_of_pos (by simpa using hx)];simp
   ·rw[if_neg hx,List.filter_cons_of_neg (by simpa using hx)]
 unfold BM;rw[h];rfl
theorem WX(b:AY):∀(ws:List (List AF)) (p s:List AF),s∈FS b ws p->FY b s=true
 |[],p,s,h=>by
  unfold FS at h;split at h
  ·rename_i h1;rw[List.mem_singleton]at h;rw[h];exact h1
  ·cases h
 |w::ws,p,s,h=>by obtain⟨x,_,hx⟩:=List.mem_flatMap.1 h;exact WX b ws (p++[x]) s hx
theorem Q7{b:AY}{s:List AF}(h:s∈B9 b):FY b s=true:=WX b _ _ s h
theorem KX{c:BF}{s:List AF}:s∈BM c↔s∈B9 c.book/\B4 c s<=c.liars:=by rw[dW,List.mem_filter];simp
theorem dX{c:BF}{s:List AF}(h:s∈BM c):s.length=c.book.lines.length:=LN (Q7 (KX.1 h).1)
theorem tD{c:BF}(ok:Q6 c):(BM c).length<=4096:=by have h1:=WU c (B9 c.book) [];have h2:=UK ok.book;have h3:(BM c).length<=([]:List (List AF)).length+(B9 c.book).length:=h1;simp at h3;omega
theorem AKS{c:BF}{g:Bool}(h:ER c g=0):Q6 c/\g=true/\BM c≠[]:=by
 unfold ER at h;split at h
 ·rename_i h1;exact absurd h h1
 ·rename_i h1;split at h
  ·cases h
  ·rename_i h2;split at h
   ·cases h
   ·rename_i h3;exact⟨VO (by simpa using h1),by simpa using h2,h3⟩
def C7(x:Int):List V:=[i x]
theorem AKT{k:Nat}{x:Int}(h:k<=1000):B8 cq 3 k [[i x]]=true:=by rw[CL (by simp) (by simp)];simp[maxLen];omega
theorem AA7(c:BF)(ok:Q6 c)(hne:BM c≠[]):∀(d k:Nat) (out:List Int) (cc γ:Nat),k+d=c.claims.length->out.length<=k ->
  ∃c' γ',cc<=c'/\∀n m,d<m->BR (AG cq ann kn (n+11000) 35) W5 (ann 35 (CU W5)) m ⟨cc,[(4,true,wkC c),(6,true,pv 32 γ (out.map C7)),(18,true,.list false (c.claims.map AJ)),(19,true,i c.claims.length),(20,true,i k)],⟨[],(1,0,.box (AD c))::pl 32 γ 3 (out.map C7)⟩⟩ =
  some (.exit 0,⟨c',[(21,true,.bool false),(4,true,wkC c),(6,true,pv 32 γ' ((out++(c.claims.drop k).map fun w=>HY w (BM c)).map C7)),(18,true,.list false (c.claims.map AJ)),(19,true,i c.claims.length),(20,true,i c.claims.length)],⟨[],(1,0,.box (AD c))::pl 32 γ' 3 ((out++(c.claims.drop k).map fun w=>HY w (BM c)).map C7)⟩⟩)
 |0,k,out,cc,γ,hd,ho=>by
  have:k=c.claims.length:=by omega
  subst this;refine⟨cc,γ,ck _,fun n m hm=>?_⟩;obtain⟨m,rfl⟩:=qNz m (by omega);simp[AE,wkC,AD]
 |d+1,k,out,cc,γ,hd,ho=>by
  have hk:k<c.claims.length:=by omega
  have h8:=ok.lines;have h4:=ok.cl;have hwk:=FB (k:=k) (by omega);have nb:Nat.beq 4 1=false:=rfl;have hle:=tD ok;have q:=fun n=>AGN n c.book.lines.length (BM c) c.claims[k] (by omega) hne (fun s hs=>dX hs) (by omega) (ok.cw _ (bh hk));obtain⟨c',γ',hc,ih⟩:=AA7 c ok hne d (k+1) (out++[HY c.claims[k] (BM c)]) (cc+2) (cc+1) (by omega) (by simp;omega);have happ:=AKT (k:=out.length) (x:=HY c.claims[k] (BM c)) (by omega);have hcl:((BM c).map CN).all (fun e=>e.all (AK 7))=true:=bj.2 fun e he=>by obtain⟨l,_,rfl⟩:=bx.1 he;simp[CN,sc,AB]
  refine⟨c',γ',by omega,fun n m hm=>?_⟩;obtain⟨m,rfl⟩:=qNz m (by omega);have ih:=ih n m (by omega);rw[AE,bc hk];simp only[bq];generalize HY c.claims[k] (BM c)=b at q ih happ|-;simp only[bn,bq,bz,JF,C7,AJ,wkC,AD,cj,bw,bp]at q ih|-;generalize (BM c).map CN=KK at q ih hcl|-;try simp at ih hcl
  simp[hk,hwk,AJ,AM,AB,AN,C7,q,happ,NT,ih,nb,eq_true hcl]
def D5(c:BF):List Int:=c.claims.map fun w=>HY w (BM c)
def VR(c:BF):V:=if ER c true=0 then .tup [sl ((D5 c).map C7),i 0] else .tup [.nil,i (ER c true)]
theorem iO(c:BF)(t:St)(h:1<=t.up.length):AO t [(1,0,.box (AD c))]=[(1,0,.box (AD c))]:=by obtain⟨up,loc⟩:=t;simp[AD,AB,AN,AJ,AM]
theorem OV(n:Nat)(c:BF):A4 cq kn (AG cq ann kn (n+11100)) 21 [.agg (AD c)]=some (VR c):=by
 rw[AP rfl,AQ Tryz.func21 b21 rfl (by simp[AD,AB,AN,AJ,AM])];obtain⟨ca,hca,q65⟩:=AA6 c true [(1,0,.box (AD c))] (iO c) 1;unfold VR;unfold wE at q65;by_cases he:ER c true=0
 ·obtain⟨ok,_,hne⟩:=AKS he;have h4:=ok.cl;rw[if_pos he]at q65|-;obtain⟨c1,γ1,h1,r1⟩:=AA7 c ok hne c.claims.length 0 [] ca 0 (by omega) (by simp);have hcl:((BM c).map CN).all (fun e=>e.all (AK 7))=true:=bj.2 fun e he=>by obtain⟨l,_,rfl⟩:=bx.1 he;simp[CN,sc,AB]
  have hJ:((D5 c).map C7).all (fun e=>e.all (AK 7))=true:=by simp[C7]
  have r1:=r1 (n+92) (n+11092) (by omega);simp only[bt,bp,bz,ZD,MV,br,AD,wkC,bf,bg]at q65 r1|-;rw[show(c.claims.map fun w=>HY w (BM c))=D5 c from rfl]at r1;generalize (D5 c).map C7=JJ at r1 hJ|-;generalize (BM c).map CN=KK at q65 r1 hcl;try simp at r1
  simp[c21,AH,q65,AB,AN,AJ,AM];simp[r1];exact fun x hx v hv=>bj.1 (bj.1 hJ x hx) v hv
 ·rw[if_neg he]at q65|-;have hd:decide (ER c true=0)=false:=by simpa using he
  simp only[AD]at q65|-;generalize ER c true=A at q65 hd he;simp[c21,AH,q65,hd,he,AB,AN,AJ,AM]
def Q8(l:List Wrd)(S:List (List AF)):Int:=J5 (fun ls=>!l.all (D9 ls)) S
theorem AA8(c:BF)(ok:Q6 c)(hne:BM c≠[]):∀(d k:Nat) (out:List Int) (cc γ:Nat),k+d=c.wits.length->out.length<=k ->
  ∃c' γ',cc<=c'/\∀n m,d<m->BR (AG cq ann kn (n+11000) 36) W6 (ann 36 (CU W6)) m ⟨cc,[(4,true,wkC c),(6,true,pv 33 γ (out.map C7)),(18,true,.list false (c.wits.map AM)),(19,true,i c.wits.length),(20,true,i k)],⟨[],(1,0,.box (AD c))::pl 33 γ 3 (out.map C7)⟩⟩ =
  some (.exit 0,⟨c',[(21,true,.bool false),(4,true,wkC c),(6,true,pv 33 γ' ((out++(c.wits.drop k).map fun w=>Q8 w (BM c)).map C7)),(18,true,.list false (c.wits.map AM)),(19,true,i c.wits.length),(20,true,i c.wits.length)],⟨[],(1,0,.box (AD c))::pl 33 γ' 3 ((out++(c.wits.drop k).map fun w=>Q8 w (BM c)).map C7)⟩⟩)
 |0,k,out,cc,γ,hd,ho=>by
  have:k=c.wits.length:=by omega
  subst this;refine⟨cc,γ,ck _,fun n m hm=>?_⟩;obtain⟨m,rfl⟩:=qNz m (by omega);simp[AE,wkC,AD]
 |d+1,k,out,cc,γ,hd,ho=>by
  have hk:k<c.wits.length:=by omega
  have h8:=ok.lines;have h4:=ok.wl;have hwk:=FB (k:=k) (by omega);have nb:Nat.beq 4 1=false:=rfl;have hle:=tD ok;have hwx:=ok.wx _ (bh hk);have q:=fun n=>AKQ n 400 68 (fun ls=>!c.wits[k].all (D9 ls)) (BM c) c.wits[k] (by omega) hne (fun n s hs=>AKD n s c.wits[k] (by rw[dX hs];omega) (by omega) (fun w hw=>by rw[dX hs];exact ok.ww _ (bh hk) w hw)) (by simp);obtain⟨c',γ',hc,ih⟩:=AA8 c ok hne d (k+1) (out++[Q8 c.wits[k] (BM c)]) (cc+1) cc (by omega) (by simp;omega);have happ:=AKT (k:=out.length) (x:=Q8 c.wits[k] (BM c)) (by omega);have hcl:((BM c).map CN).all (fun e=>e.all (AK 7))=true:=bj.2 fun e he=>by obtain⟨l,_,rfl⟩:=bx.1 he;simp[CN,sc,AB]
  have hcl8:((BM c).map CN).all (fun e=>e.all (AK 8))=true:=bj.2 fun e he=>by obtain⟨l,_,rfl⟩:=bx.1 he;simp[CN,sc,AB]
  refine⟨c',γ',by omega,fun n m hm=>?_⟩;obtain⟨m,rfl⟩:=qNz m (by omega);have ih:=ih n m (by omega);rw[AE,bc hk];simp only[bq];rw[show J5 (fun ls=>!c.wits[k].all (D9 ls)) (BM c)=Q8 c.wits[k] (BM c) from rfl]at q;generalize Q8 c.wits[k] (BM c)=b at q ih happ|-;simp only[bn,bq,bz,JF,C7,AJ,NH,wkC,AD,cj,bw,bp]at q ih|-;simp only[bf,bg]at q;generalize (BM c).map CN=KK at q ih hcl hcl8|-;try simp at ih hcl hcl8
  simp[hk,hwk,AJ,AM,AB,AN,C7,q,happ,NT,ih,nb,eq_true hcl,eq_true hcl8]
def QG(c:BF):List Int:=c.wits.map fun w=>Q8 w (BM c)
def dY(c:BF):V:=if ER c true=0 then .tup [sl ((QG c).map C7),i 0] else .tup [.nil,i (ER c true)]
theorem AGV(n:Nat)(c:BF):A4 cq kn (AG cq ann kn (n+11100)) 23 [.agg (AD c)]=some (dY c):=by
 rw[AP rfl,AQ Tryz.func23 b23 rfl (by simp[AD,AB,AN,AJ,AM])];obtain⟨ca,hca,q65⟩:=AA6 c true [(1,0,.box (AD c))] (iO c) 1;unfold dY;unfold wE at q65;by_cases he:ER c true=0
 ·obtain⟨ok,_,hne⟩:=AKS he;have h4:=ok.wl;rw[if_pos he]at q65|-;obtain⟨c1,γ1,h1,r1⟩:=AA8 c ok hne c.wits.length 0 [] ca 0 (by omega) (by simp);have hcl:((BM c).map CN).all (fun e=>e.all (AK 7))=true:=bj.2 fun e he=>by obtain⟨l,_,rfl⟩:=bx.1 he;simp[CN,sc,AB]
  have hJ:((QG c).map C7).all (fun e=>e.all (AK 7))=true:=by simp[C7]
  have r1:=r1 (n+92) (n+11092) (by omega);simp only[bt,bp,bz,ZD,MV,br,AD,wkC,bf,bg]at q65 r1|-;rw[show(c.wits.map fun w=>Q8 w (BM c))=QG c from rfl]at r1;generalize (QG c).map C7=JJ at r1 hJ|-;generalize (BM c).map CN=KK at q65 r1 hcl;try simp at r1
  simp[c23,AH,q65,AB,AN,AJ,AM];simp[r1];exact fun x hx v hv=>bj.1 (bj.1 hJ x hx) v hv
 ·rw[if_neg he]at q65|-;have hd:decide (ER c true=0)=false:=by simpa using he
  simp only[AD]at q65|-;generalize ER c true=A at q65 hd he;simp[c23,AH,q65,hd,he,AB,AN,AJ,AM]
end Go.Proofs.Tryz.Op
