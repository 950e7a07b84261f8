/- Contracts: holds, verdict, judge. No condition. -/
import Derived.Test.YtmnlpgjklibndaaGreatE2
open Go.Proofs.Tryz renaming prog->bn,func65->bp
open List renaming all_eq_true->bj,map_cons->bq,cons_append->bw,map_nil->bx,mem_map->bz,drop_eq_getElem_cons->bc,map_append->bh
open Nat renaming add_assoc->bf,reduceAdd->bg
set_option maxRecDepth 100000
set_option linter.unusedSimpArgs false
open Go Go.Pg Go.Proofs Go.Season
namespace Go.Pg
@[simp] theorem AXQ(f:FuncId)(x y:List V):weakC (.fn f x y)=.fn f x y:=rfl
end Go.Pg
namespace Go.Proofs.Tryz.Op
theorem AMC(n:Nat)(ls:List AE)(ws:List Wrd)(hl:ls.length<=1000)(hn:ws.length<=40)(h:∀w∈ws,cJ ls.length w):A5 bn kn (AG bn ann kn (n+400)) 113 [sc ls,VX ws]=some (.bool (ws.all (HD ls))):=by rw[AQ rfl,AR Tryz.func113 A9N rfl (by simp[sc,AB,AL])];have q:=fun n=>AIZ n 0 ls 78 (HD ls) ws hn (fun n w hw=>kIs _ ls w hl (h w hw));simp only[sc,Nat.add_zero]at q|-;simp[AZB,AH,q,AB,AL]
def DB(ls:List AE):List V:=[sc ls]
def MM(φ:List AE->Bool):List (List AE)->Int
 |[]=>0
 |s::S=>if (s::S).all (fun t=>φ t==φ s)=true then(if φ s=true then 1 else 2) else 3
theorem AJD(n K:Nat)(f:FuncId)(φ:List AE->Bool)(S:List (List AE))(ws:List Wrd)(b:Bool)(cc:Nat)(hS:S.length<=10000)(hf:∀n s,s∈S->A5 bn kn (AG bn ann kn (n+K)) f [sc s,VX ws]=some (.bool (φ s)))(hh:BF bn f=false):∀(d k m:Nat),k+d=S.length->d<m ->
  BS (AG bn ann kn (n+K+50) 32) WB (ann 32 (CP WB)) m ⟨cc,[(2,true,VX ws),(3,true,.ptr 0 3 0 0),(7,true,.bool b),(17,true,.list false (S.map DB)),(18,true,i S.length),(19,true,i k)],⟨[],[(3,0,.box [.fn f [] []])]⟩⟩ =
   bif (S.drop k).all (fun t=>φ t==b) then some (.exit 0,⟨cc,[(20,true,.bool false),(2,true,VX ws),(3,true,.ptr 0 3 0 0),(7,true,.bool b),(17,true,.list false (S.map DB)),(18,true,i S.length),(19,true,i S.length)],⟨[],[(3,0,.box [.fn f [] []])]⟩⟩)
   else some (.ret,⟨cc,[(6,true,i 3)],⟨[],[]⟩⟩)
 |0,k,m+1,hd,hm=>by
  have:k=S.length:=by omega
  subst this;simp[AD]
 |d+1,k,m+1,hd,hm=>by
  have hk:k<S.length:=by omega
  have hwk:IntKind.i64.wrap ((k:Int)+1)=((k+1:Nat):Int):=FO (by omega);have q:=fun n=>hf n S[k] (List.getElem_mem hk);have ih:=AJD n K f φ S ws b cc hS hf hh d (k+1) m (by omega) (by omega);have nrm:∀a:Nat,n+K+a=(n+a)+K:=fun a=>by omega
  have q2:=q (n+43);rw[<-nrm]at q2;rw[AD,bc hk];simp only[List.all_cons];generalize φ S[k]=x at q2|-;simp only[sc]at q2 ih|-;try simp at ih
  cases x<;>cases b<;>simp[hk,hwk,DB,sc,AB,AL,q2,hh,ih]
theorem AXR(n K:Nat)(f:FuncId)(φ:List AE->Bool)(S:List (List AE))(ws:List Wrd)(hS:S.length<=10000)(hne:S≠[])(hf:∀n s,s∈S->A5 bn kn (AG bn ann kn (n+K)) f [sc s,VX ws]=some (.bool (φ s)))(hh:BF bn f=false):A5 bn kn (AG bn ann kn (n+K+10100)) 69 [.agg [.fn f [] []],.list false (S.map DB),VX ws]=some (i (MM φ S)):=by
 have hcl:(S.map DB).all (fun e=>e.all (AK 8))=true:=bj.2 fun e he=>by obtain⟨l,_,rfl⟩:=bz.1 he;simp[DB,sc,AB]
 cases S with
 |nil=>exact absurd rfl hne
 |cons s S=>
  have q0:=fun n=>hf n s (by simp)
  have q:=AJD (n+10044) K f φ (s::S) ws (φ s) 1 hS hf hh (s::S).length 0 (n+K+10094) (by omega) (by omega)
  rw[AQ rfl,AR Tryz.func69 b69 rfl (by simp at hcl;simp[AL];exact hcl)]
  have nrm:∀a:Nat,n+K+a=(n+a)+K:=fun a=>by omega
  have e1:n+10044+K+50=n+K+10094:=by omega
  have q1:=q0 (n+10097)
  rw[<-nrm]at q1
  rw[e1]at q
  simp only[List.drop_zero,Int.natCast_zero]at q
  have hv:MM φ (s::S)=(if (s::S).all (fun t=>φ t==φ s)=true then(if φ s=true then 1 else 2) else 3):=rfl
  rw[hv]
  generalize (s::S).all (fun t=>φ t==φ s)=z at q|-
  generalize φ s=x at q q1|-
  have hm:(s::S).map DB=[sc s]::S.map DB:=rfl
  have hln:(s::S).length=S.length+1:=rfl
  rw[hm,hln]at q
  rw[hm]
  simp only[sc]at q1 q|-
  try simp at q
  cases z<;>cases x<;>(try simp at q)<;>(simp[c69,AH,AB,AL,q1,hh];simp[q])
def K5(w:Wrd)(S:List (List AE)):Int:=MM (fun ls=>[w].all (HD ls)) S
theorem AE7(n N:Nat)(S:List (List AE))(w:Wrd)(hS:S.length<=10000)(hne:S≠[])(hl:∀s∈S,s.length=N)(hN:N<=1000)(h:cJ N w):A5 bn kn (AG bn ann kn (n+10600)) 66 [.list false (S.map DB),.agg (AL w)]=some (i (K5 w S)):=by
 have hcl:(S.map DB).all (fun e=>e.all (AK 8))=true:=bj.2 fun e he=>by obtain⟨l,_,rfl⟩:=bz.1 he;simp[DB,sc,AB]
 have q:=fun n=>AXR n 400 113 (fun ls=>[w].all (HD ls)) S [w] hS hne (fun n s hs=>AMC n s [w] (by rw[hl s hs];exact hN) (by simp) (fun x hx=>by simp at hx;subst hx;rw[hl s hs];exact h)) (by simp);unfold K5;generalize S.map DB=A at q hcl|-;rw[AQ rfl,AR Tryz.func66 b66 rfl (by simp at hcl;simp[AL];exact hcl)];simp only[VX,bq,bx,AL,bf,bg]at q|-;simp at hcl;have hcl2:=eq_true hcl;simp[c66,AH,q,AL,hcl2]
def PC(ws:List (List AE)):Nat:=ws.foldr (fun w n=>w.length*n) 1
theorem rI{β γ:Type}(f:β->List γ)(m:Nat)(h:∀x,(f x).length<=m):∀l:List β,(l.flatMap f).length<=l.length*m
 |[]=>by simp
 |x::l=>by have ih:=rI f m h l;have:=h x;rw[List.flatMap_cons,List.length_append,List.length_cons,Nat.succ_mul];omega
theorem gJ(b:AY):∀(ws:List (List AE)) (p:List AE),(FI b ws p).length<=PC ws
 |[],p=>by unfold FI;split<;>simp[PC]
 |w::ws,p=>rI _ _ (fun x=>gJ b ws (p++[x])) w
theorem V1:∀(A B:List (List AE)),A.length=B.length->(∀k (h:k<A.length) (h2:k<B.length),A[k].length<=B[k].length)->PC A<=PC B
 |[],[],_,_=>Nat.le_refl _
 |a::A,b::B,hl,h=>by
  have ih:=V1 A B (by simpa using hl) fun k h1 h2=>by have:=h (k+1) (by simpa using h1) (by simpa using h2);simpa using this
  have h0:=h 0 (by simp) (by simp);exact Nat.mul_le_mul h0 ih
theorem mS(C:Int)(ls:List AE):∀n:Nat,KY C n ls<=4096->n*PC (ls.map (readingsP C))<=4096:=by
 induction ls with
 |nil=>
  intro n h
  have h:(n:Int)<=4096:=h
  show n*1<=4096
  omega
 |cons l ls ih=>
  intro n h
  have h:KY C (TK (n*(readingsP C l).length)) ls<=4096:=h
  have e:PC ((l::ls).map (readingsP C))=(readingsP C l).length*PC (ls.map (readingsP C)):=rfl
  rw[e]
  generalize (readingsP C l).length=r at h
  generalize PC (ls.map (readingsP C))=P at *
  rw[<-Nat.mul_assoc]
  have hc:(n:Int)*(r:Int)=((n*r:Nat):Int):=by simp
  rw[hc]at h
  generalize n*r=m at h
  unfold TK at h
  split at h
  ·have:=ih 4097 h;have hP:P=0:=by omega
   rw[hP];simp
  ·exact ih m h
theorem TQ{b:AY}(h:EP b=0):(B4 b).length<=4096:=by
 obtain⟨_,_,_,_,_,_,_,_,_,_,hm⟩:=TL h;have h1:=gJ b (AS b) [];have h2:=mS b.chairs b.lines 1 hm;have h3:PC (AS b)<=PC (b.lines.map (readingsP b.chairs)):=V1 _ _ (by simp[AS]) fun k h1 h2=>by
  have hk:k<b.lines.length:=by simpa using h2
  have hd:b.lines.getD k CO=b.lines[k]:=by simp[List.getD_eq_getElem?_getD,hk]
  have:(AS b)[k]=IM b k:=by simp[AS]
  rw[this];unfold IM;rw[hd];simpa using List.length_filter_le (fun x=>decide (x∈QD b k)) (readingsP b.chairs b.lines[k])
 unfold B4;omega
theorem yW(n:Nat)(c:BL):A5 bn kn (AG bn ann kn (n+100)) 70 [.agg (AF c)]=some (.fn 114 [] [.ref (AF c)]):=by rw[AQ rfl,AR Tryz.func70 b70 rfl (by simp[AF,AB,AM,AL,AO])];simp[c70,AH,AF,AB,AM,AL,AO]
theorem gpA(st:XS):xZ 19008000851035 st=xX 35 (ACS 8 st) 850 [18] st:=by rw[APQ (by decide) (by decide)];rfl
theorem A8F(c:Nat)(fr:Fr)(up:List AA):xZ 19008000851035 ⟨c,fr,⟨up,[]⟩⟩=⟨c,fr,⟨up,[]⟩⟩:=by rw[gpA];rfl
theorem AE8(L:AA)(k γ:Nat)(r:AZ):AA.put L k γ r=(k,γ,r)::L:=rfl
theorem A8G(c γ g7 g18:Nat)(T:TypeId)(es:List (List V))(fr:Fr)(B L:AA)(R:List AA)(r18:AZ)(h7:EX fr 7=some (true,.ptr 1 7 g7 0))(h18:L.get 18=some (g18,r18)) :
  xZ 19008000851035 ⟨c,fr,⟨B::L::R,[(35,γ,.vec T es)]⟩⟩=⟨c,mvF (R.length+1+1) 35 1 850 fr,⟨B::((850,γ,eL (R.length+1+1) 35 1 850 (.vec T es))::(18,g18,eL (R.length+1+1) 35 1 850 r18)::KC 18 L)::R,[]⟩⟩:=by
 rw[gpA]
 have e1:ACS 8 ⟨c,fr,⟨B::L::R,[(35,γ,.vec T es)]⟩⟩=1:=by show(match EX fr 7 with|some (true,.ptr l _ _ _)=>l|_=>0)=1;rw[h7]
 rw[e1]
 unfold xX
 have e3:kE 1 (B::L::R).length (AA.get [(35,γ,.vec T es)] 35)=true:=by simp[kE,AA.get,xW]
 simp only[e3]
 simp[mvS,AA.get,mvU,h18,mvL,St.put,AE8]
theorem AE9{n k l d:Nat}(f:Nat)(q:IntKind)(x:Int):NP n k l d f (.int q x)=.int q x:=by cases f<;>rfl
theorem yX{n k l d:Nat}(f:Nat)(b:Bool)(es:List (List V)):NP n k l d f (.list b es)=.list b es:=by cases f<;>rfl
theorem AFA{n k l d:Nat}(f:Nat)(cs:List V):NP n k l d f (.ref cs)=.ref cs:=by cases f<;>rfl
theorem AFB{n k l d γ m:Nat}(f:Nat):NP n k l d (f+1) (.vec n k γ m)=.vec l d γ m:=by simp[NP]
theorem AFC{n k l d:Nat}(cs:List V):eL n k l d (.box cs)=.box (cs.map (NP n k l d 3)):=rfl
theorem AFD{n k l d:Nat}(T:TypeId)(es:List (List V)):eL n k l d (.vec T es)=.vec T (es.map (List.map (NP n k l d 3))):=rfl
theorem uD(u g:Nat)(r:AZ)(L:AA):KC u ((u,g,r)::L)=KC u L:=by show(if u=u then KC u L else _)=_;rw[if_pos rfl]
@[simp] theorem AR6(u:Nat)(L:AA)(j:Nat):(KC u L).get j=if j=u then none else L.get j:=X5 u L j
theorem SD(t:St)(u:Nat):∀L:AA,AN t (KC u L)=KC u (AN t L)
 |[]=>rfl
 |(q,g,r)::L=>by
  have ih:=SD t u L;rw[B5];unfold KC;by_cases h:q=u
  ·rw[if_pos h,if_pos h,ih]
  ·rw[if_neg h,if_neg h,B5,ih]
theorem K6(t:St)(T:TypeId)(S:List (List AE)):BM t (.vec T (S.map DB))=.vec T (S.map DB):=by refine RV fun e he v hv=>?_;obtain⟨x,_,rfl⟩:=bz.1 he;simp only[DB,List.mem_cons,List.not_mem_nil,or_false]at hv;subst hv;rfl
def sv(g:Nat):List (List AE)->V
 |[]=>.nil
 |s::S=>.vec 1 850 g (s::S).length
noncomputable def R9(c:BL)(cc:Nat):Fr:=[(20,true,.fn 114 [] [.ref (AF c)]),(19,true,.agg (AF c)),(2,true,.ptr 1 2 cc 0),(7,true,.ptr 1 7 (cc+1+1) 0)]
noncomputable def F7:Code:=.block 1 (.seq (IB 1199) (.cond (.tmp 27) (IB 2735) .skip))
@[simp] theorem uA(n:Nat)(st:XS):AG bn ann kn n 45 F7 st=AG bn ann kn n 45 (.block 1 (.seq (IB 1199) (.cond (.tmp 27) (IB 2735) .skip))) st:=rfl
structure LvA(c:BL)(cc c1:Nat)(S:List (List AE))(L:AA):Prop where
 p2:L.get 2=some (cc,.box (AF c))
 p7:L.get 7=some (cc+2,.box [.ptr 1 18 (cc+1) 0])
 p18:∃g,g<c1/\L.get 18=some (cc+1,.box (AF c++[sv g S]))/\(S≠[]->L.get 850=some (g,.vec 114 (S.map DB)))
 pr:L.get A7=some (cc+3,.loop (R9 c cc) [21] (IB 303) F7 45 .ready)
 st:∀t:St,2<=t.up.length->AN t L=L
 p20:L.get 20=none
 p35:L.get 35=none
 pn:S=[]->L.get 850=none
def I6(c:BL)(S:List (List AE))(ls:List AE):List (List AE):=if CQ c ls<=c.liars then S++[ls] else S
theorem V2(c:BL):∀(l S:List (List AE)),(runL (I6 c) S l).length<=S.length+l.length
 |[],S=>by simp[runL]
 |x::l,S=>by
  have ih:=V2 c l (I6 c S x);have h:(I6 c S x).length<=S.length+1:=by unfold I6;split<;>simp
  show(runL (I6 c) (I6 c S x) l).length<=_;simp only[List.length_cons];omega
theorem yY{c:BL}(hb:UU c){a:List (List AE)}{l:List (List AE)}(h:tY (I6 c) [] (B4 c.book) a l):a.length<=4096:=by obtain⟨pre,post,rfl,h2⟩:=h;have h1:=V2 c pre [];have h3:=TQ hb.book;have h4:=congrArg List.length h2;simp at h4 h1;omega
theorem AJE{k:Nat}(ls:List AE)(h:k<=4096):CH bn 114 k [DB ls]=true:=by rw[DL (by simp) (by simp)];simp[maxLen,DB];omega
theorem AFE{P:Program}{fr:Fr}{s:St}(e d c:Nat)(y:List V)(ys:List (List V))(h:CH P e 0 (y::ys)=true):adV P e d c fr s .nil (y::ys)=some (⟨c+1,(d,true,.vec s.up.length d c (ys.length+1))::fr,s.put s.up.length d c (.vec e (y::ys))⟩,[(s.up.length,d),(s.up.length,d+SA)]):=by unfold adV;simp[IE,h]
theorem AMD(c:BL)(hb:UU c)(B:AA)(hB1:∀t:St,1<=t.up.length->AN t B=B)(cc:Nat):mR B c (LvA c cc) (I6 c) [] (cc+3) 3000:=by
 intro a L L1 rest loc c1 ls hat hL hc hp hst;have hk:=yY hb hat;obtain⟨p2,p7,⟨g,hg,p18,p850⟩,pr,pst,p20,p35,pn⟩:=hL;have h8:=hb.lines;have hl:=K4 hp;have q72:=fun n=>yC n c ls (by omega) (by have:=hb.wl;omega) (fun l h=>⟨by have:=hb.wx l h;omega,by rw[hl];exact hb.ww l h⟩);have hst':=fun t h=>hst t h;simp only[bq,bh,bx,List.cons.injEq]at hst';have hun:∀A:AA,CM (B::A::L1::(rest++[loc]))=some (B::A::L1::rest,loc):=fun A=>by rw[<-bw,<-bw,<-bw,unsnoc_snoc]
 have hsr:∀t:St,(L1::(rest++[loc])).length+2<=t.up.length->(rest.map (AN t)=rest/\AN t loc=loc):=fun t h=>by have:=(hst' t h).2;exact⟨List.append_inj_left' this rfl,by simpa using List.append_inj_right' this rfl⟩
 have h1s:∀t:St,(L1::(rest++[loc])).length+2<=t.up.length->AN t L1=L1:=fun t h=>(hst' t h).1;unfold I6;by_cases hle:CQ c ls<=c.liars
 ·rw[if_pos hle];cases a with
  |nil=>
   refine⟨(A7,cc+3,.loop (R9 c cc) [21] (IB 303) F7 45 .ready)::(850,c1,.vec 114 [DB ls])::(18,cc+1,.box (AF c++[.vec 1 850 c1 1]))::KC 18 ((A7,cc+3,.loop (R9 c cc) [21] (IB 303) F7 45 .busy)::L),c1+1,?_,by omega,fun n fr=>?_⟩
   ·exact⟨by simpa [A7]using p2,by simpa [A7]using p7,⟨c1,by omega,by simp[A7,sv],fun h=>by simp[A7]⟩,by simp,fun t ht=>by
     have e1:¬1=t.up.length:=by omega
     have:=pst t ht;obtain⟨up,loc⟩:=t;simp only at e1;have h2:=fun T=>K6 ⟨up,loc⟩ T [ls];simp only[bq,bx,DB,sc]at h2;simp[SD,this,AF,DB,sc,AB,AM,AL,AO,e1,h2],by simpa [A7]using p20,by simpa [A7]using p35,fun h=>by simp at h⟩
   ·rw[MC (by simpa using pr) rfl (by omega)];simp only[GO,Fr.put,AAN,R9];simp;rw[D8 (fr0:=R9 c cc) (ps:=[21]) (asg:=(IB 303)) (body':=F7) (N:=45) (by simpa using pr) (by omega)];generalize hB:AZ.loop (R9 c cc) [21] (IB 303) F7 45 LS.busy=BB;have hap:=AJE (k:=0) ls (by omega);simp only[AF,sc,sv,DB]at p2 p18 q72 hap|-;have hcc:cc<c1:=by omega
    have hgp:=fun fr r18 LL h7=>A8G (c1+1) c1 (cc+1+1) (cc+1) 114 [[V.ref [V.list false (List.map AB ls),V.memo [V.list false (List.map AB ls)]]]] fr B ((18,cc+1,r18)::LL) (L1::(rest++[loc])) r18 h7 rfl;simp at hgp;simp[p2,p7,p18,q72,hle,hap,AFE,hcc,hgp,AA.put,A7,AB,AM,AL,AO,AFC,AFD,AE9,yX,AFA,AFB,uD];subst hB;rw[D9 (fr0:=R9 c cc) (ps:=[21]) (asg:=(IB 303)) (body:=F7) (N:=45) (by simp) (hun _) (by simp) (by omega)];have h2:=fun t T=>K6 t T [ls];simp only[bq,bx,DB,sc]at h2;simp[pst,h1s,hsr,hB1,AA.put,R9,AF,SD,AB,AM,AL,AO,h2]
  |cons a0 a1=>
   refine⟨(A7,cc+3,.loop (R9 c cc) [21] (IB 303) F7 45 .ready)::(18,cc+1,.box (AF c++[.vec 1 850 c1 (a1.length+2)]))::(850,c1,.vec 114 ((a0::a1++[ls]).map DB))::(A7,cc+3,.loop (R9 c cc) [21] (IB 303) F7 45 .busy)::L,c1+1,?_,by omega,fun n fr=>?_⟩
   ·exact⟨by simpa [A7]using p2,by simpa [A7]using p7,⟨c1,by omega,by simp[A7,sv],fun h=>by simp[A7]⟩,by simp,fun t ht=>by
     have e1:¬1=t.up.length:=by omega
     have:=pst t ht;obtain⟨up,loc⟩:=t;simp only at e1;have h2:=fun T=>K6 ⟨up,loc⟩ T (a0 :: a1++[ls]);generalize a0 :: a1++[ls]=A at h2 |-;simp[this,AF,AB,AM,AL,AO,e1,h2],by simpa [A7]using p20,by simpa [A7]using p35,fun h=>by simp at h⟩
   ·rw[MC (by simpa using pr) rfl (by omega)];simp only[GO,Fr.put,AAN,R9];simp;rw[D8 (fr0:=R9 c cc) (ps:=[21]) (asg:=(IB 303)) (body':=F7) (N:=45) (by simpa using pr) (by omega)];generalize hB:AZ.loop (R9 c cc) [21] (IB 303) F7 45 LS.busy=BB;have hap:=AJE (k:=a1.length+1) ls (by simp at hk;omega);have hcc:cc<c1:=by omega
    have p850:=p850 (by simp);have hall:((a0::a1).map DB).all (fun y=>y.length==(bn).cellsOf 114)=true:=bj.2 fun e he=>by obtain⟨l,_,rfl⟩:=bz.1 he;simp[DB]
    have hgp:=A8F (c1+1);have h2:=fun t T=>K6 t T (a0::a1++[ls]);simp only[bw,bq,bh,bx]at p850 hall h2|-;generalize DB a0=X at *;generalize hX:a1.map DB=XS at *;have hxl:XS.length=a1.length:=by rw[<-hX];simp
    simp only[AF,sc,sv,DB]at p2 p18 q72 hap h2|-;simp at hall;simp[p2,p7,p18,p850,q72,hle,hap,hall.1,eq_true hall.2,SA,hxl,hcc,hgp,AA.put,A7,AB,AM,AL,AO];subst hB;rw[D9 (fr0:=R9 c cc) (ps:=[21]) (asg:=(IB 303)) (body:=F7) (N:=45) (by simp) (hun _) (by simp) (by omega)];simp[pst,h1s,hsr,hB1,AA.put,R9,AF,AB,AM,AL,AO,h2]
 ·rw[if_neg hle];refine⟨(A7,cc+3,.loop (R9 c cc) [21] (IB 303) F7 45 .ready)::(A7,cc+3,.loop (R9 c cc) [21] (IB 303) F7 45 .busy)::L,c1,?_,by omega,fun n fr=>?_⟩
  ·exact⟨by simpa [A7]using p2,by simpa [A7]using p7,⟨g,hg,by simpa [A7]using p18,fun h=>by simpa [A7]using p850 h⟩,by simp,fun t ht=>by simp[pst t ht],by simpa [A7]using p20,by simpa [A7]using p35,fun h=>by simpa [A7]using pn h⟩
  ·rw[MC (by simpa using pr) rfl (by omega)];simp only[GO,Fr.put,AAN,R9];simp;rw[D8 (fr0:=R9 c cc) (ps:=[21]) (asg:=(IB 303)) (body':=F7) (N:=45) (by simpa using pr) (by omega)];generalize hB:AZ.loop (R9 c cc) [21] (IB 303) F7 45 LS.busy=BB;simp only[AF,sc]at p2 p18 q72|-;simp[p2,p7,p18,q72,hle,AA.put,A7,AB,AM,AL,AO];subst hB;rw[D9 (fr0:=R9 c cc) (ps:=[21]) (asg:=(IB 303)) (body:=F7) (N:=45) (by simp) (hun _) (by simp) (by omega)];simp[pst,h1s,hsr,hB1,AA.put,R9,AF]
end Go.Proofs.Tryz.Op
namespace Go.Pg
@[simp] theorem AME(s:St)(f:Nat)(v:Value):AX s (f+1) (.raw v)=some (.raw v):=rfl
end Go.Pg
namespace Go.Proofs.Tryz.Op
def DK(c:BL):List (List AE):=runL (I6 c) [] (B4 c.book)
def wkC(c:BL):V:=.ref (AF c++[.list false ((DK c).map DB)])
def JQ(c:BL)(fine:Bool):Int:=if DZ c≠0 then DZ c else if fine=false then 2 else if DK c=[] then 11 else 0
def yZ(c:BL)(fine:Bool):V:=if JQ c fine=0 then .tup [wkC c,i 0] else .tup [.raw (.pointer none),i (JQ c fine)]
theorem AMG(c:BL)(fine:Bool)(B:AA)(hB:∀t:St,1<=t.up.length->AN t B=B)(cc:Nat):∃c',cc<=c'/\∀n d fr,ME (BR bn ann kn (n+8000)) (some d) ⟨cc,fr,⟨[],B⟩⟩ 65 [.agg (AF c),.bool fine]=some ⟨c',(d,true,yZ c fine)::fr,⟨[],B⟩⟩:=by
 have q59:=fun n=>qY n c;by_cases hb:DZ c=0
 ·cases fine with
  |false=>
   refine⟨cc+1,by omega,fun n d fr=>?_⟩
   rw[fD bp b65 rfl (by simp)]
   rw[hb]at q59
   have he:JQ c false=2:=by simp[JQ,hb]
   unfold yZ
   rw[he]
   simp only[AF]at q59|-
   simp[c65,AH,AB,AM,AL,AO,q59,hB]
  |true=>
   rw[hb]at q59
   have ok:=UV hb
   have q70:=fun n=>yW n c
   have hL0:LvA c cc (cc+4) [] [(A7,cc+3,.loop (R9 c cc) [21] (IB 303) F7 45 .ready),(2,cc,.box (AF c)),(7,cc+2,.box [.ptr 1 18 (cc+1) 0]),(18,cc+1,.box (AF c++[.nil]))] :=
    ⟨by simp[A7],by simp[A7],⟨0,by omega,by simp[A7,sv],fun h=>absurd rfl h⟩,by simp,fun t ht=>by
     have e1:¬1=t.up.length:=by omega
     obtain⟨up,loc⟩:=t;simp only at e1;simp[AF,AB,AM,AL,AO,e1],by simp[A7],by simp[A7],fun _=>by simp[A7]⟩
   obtain⟨L',c',r1,r2,r3⟩:=yV ok hB (fun c1 c2 a L h hl=>⟨hl.p2,hl.p7,by obtain⟨g,g1,g2⟩:=hl.p18;exact⟨g,by omega,g2⟩,hl.pr,hl.st,hl.p20,hl.p35,hl.pn⟩) (fun c a L h=>h.st) (AMD c ok B hB cc) _ hL0 (R9 c cc)
   have r3:=fun n=>r3 (n+992)
   obtain⟨p2,p7,⟨g,hg,p18,p850⟩,pr,pst,p20,p35,pn⟩:=r1
   have hk:runL (I6 c) [] (B4 c.book)=DK c:=rfl
   rw[hk]at p18 p850 pn
   refine⟨c',by omega,fun n d fr=>?_⟩
   have r3:=r3 n
   rw[fD bp b65 rfl (by simp)]
   unfold yZ JQ wkC
   rw[hb]
   simp only[AF,R9,bf,bg]at q59 q70 r3|-
   try simp at r3
   simp[c65,AH,AB,AM,AL,AO,q59,q70,MD]
   rw[ON rfl]
   simp
   rw[show(Code.block 1 ((IB 1199).seq (Code.cond (Operand.tmp 27) (IB 2735) Code.skip)))=F7 from rfl]
   simp only[bf,bg,r3]
   rw[RU (fr0:=R9 c cc) (ps:=[21]) (asg:=(IB 303)) (body:=F7) (N:=45) (by simpa using pr) (by omega)]
   have m3:∀(k:Nat) (c:Nat) (fr:Fr) (up:List AA) (loc:AA),EC k ⟨c,fr,⟨up,loc⟩⟩=⟨c,J0 up.length k (loc.get k) fr,⟨up,FH up.length k (loc.get k) loc⟩⟩:=fun _ _ _ _ _=>rfl
   have g8:∀st:XS,ZB [850,18] st=EC 18 (EC 850 st):=fun st=>rfl
   cases hK:DK c with
   |nil=>
    rw[hK]at p18
    simp only[AF]at p18
    have pn:=pn hK
    simp[R9,p2,p7,p18,p20,p35,pn,sv,hB,A7]
   |cons s0 S0=>
    have p850:=p850 (by rw[hK];simp)
    rw[hK]at p18 p850
    simp only[AF]at p18
    have hz:decide ((S0.length:Int)+1=0)=false:=by simp;omega
    simp[R9,p2,p7,p18,p20,p35,p850,sv,hB,g8,m3,A7,hz]
 ·refine⟨cc+1,by omega,fun n d fr=>?_⟩;rw[fD bp b65 rfl (by simp)];have he:JQ c fine=DZ c:=by simp[JQ,hb]
  unfold yZ;rw[he,if_neg hb];have hd:FP bn .neq 33 (i (DZ c)) (i 0)=some (.bool true):=by simp[hb]
  simp only[AF]at q59|-;generalize DZ c=e at *;simp[c65,AH,AB,AM,AL,AO,q59,hB,hb]
theorem AFF(c:BL):DK c=(B4 c.book).filter fun ls=>decide (CQ c ls<=c.liars):=by
 have h:∀(l S:List (List AE)),runL (I6 c) S l=S++l.filter fun ls=>decide (CQ c ls<=c.liars):=by
  intro l;induction l with
  |nil=>intro S;simp[runL]
  |cons x l ih=>
   intro S
   show runL (I6 c) (I6 c S x) l=_
   rw[ih]
   unfold I6
   by_cases hx:CQ c x<=c.liars
   ·rw[if_pos hx,List.filter_cons_of_pos (by simpa using hx)];simp
   ·rw[if_neg hx,List.filter_cons_of_neg (by simpa using hx)]
 unfold DK;rw[h];rfl
theorem V3(b:AY):∀(ws:List (List AE)) (p s:List AE),s∈FI b ws p->FN b s=true
 |[],p,s,h=>by
  unfold FI at h;split at h
  ·rename_i h1;rw[List.mem_singleton]at h;rw[h];exact h1
  ·cases h
 |w::ws,p,s,h=>by obtain⟨x,_,hx⟩:=List.mem_flatMap.1 h;exact V3 b ws (p++[x]) s hx
theorem QH{b:AY}{s:List AE}(h:s∈B4 b):FN b s=true:=V3 b _ _ s h
theorem M1{c:BL}{s:List AE}:s∈DK c↔s∈B4 c.book/\CQ c s<=c.liars:=by rw[AFF,List.mem_filter];simp
theorem AFG{c:BL}{s:List AE}(h:s∈DK c):s.length=c.book.lines.length:=K4 (QH (M1.1 h).1)
theorem AFH{c:BL}(ok:UU c):(DK c).length<=4096:=by have h1:=V2 c (B4 c.book) [];have h2:=TQ ok.book;have h3:(DK c).length<=([]:List (List AE)).length+(B4 c.book).length:=h1;simp at h3;omega
theorem AXS{c:BL}{g:Bool}(h:JQ c g=0):UU c/\g=true/\DK c≠[]:=by
 unfold JQ at h;split at h
 ·rename_i h1;exact absurd h h1
 ·rename_i h1;split at h
  ·cases h
  ·rename_i h2;split at h
   ·cases h
   ·rename_i h3;exact⟨UV (by simpa using h1),by simpa using h2,h3⟩
def HM(x:Int):List V:=[i x]
theorem AXT{k:Nat}{x:Int}(h:k<=1000):CH bn 3 k [[i x]]=true:=by rw[DL (by simp) (by simp)];simp[maxLen];omega
theorem zA(c:BL)(ok:UU c)(hne:DK c≠[]):∀(d k:Nat) (out:List Int) (cc γ:Nat),k+d=c.claims.length->out.length<=k ->
  ∃c' γ',cc<=c'/\∀n m,d<m->BS (AG bn ann kn (n+11000) 35) WC (ann 35 (CP WC)) m ⟨cc,[(4,true,wkC c),(6,true,pv 32 γ (out.map HM)),(18,true,.list false (c.claims.map AL)),(19,true,i c.claims.length),(20,true,i k)],⟨[],(1,0,.box (AF c))::pl 32 γ 3 (out.map HM)⟩⟩ =
  some (.exit 0,⟨c',[(21,true,.bool false),(4,true,wkC c),(6,true,pv 32 γ' ((out++(c.claims.drop k).map fun w=>K5 w (DK c)).map HM)),(18,true,.list false (c.claims.map AL)),(19,true,i c.claims.length),(20,true,i c.claims.length)],⟨[],(1,0,.box (AF c))::pl 32 γ' 3 ((out++(c.claims.drop k).map fun w=>K5 w (DK c)).map HM)⟩⟩)
 |0,k,out,cc,γ,hd,ho=>by
  have:k=c.claims.length:=by omega
  subst this;refine⟨cc,γ,Nat.le_refl _,fun n m hm=>?_⟩;obtain⟨m,rfl⟩:=qNz m (by omega);simp[AD,wkC,AF]
 |d+1,k,out,cc,γ,hd,ho=>by
  have hk:k<c.claims.length:=by omega
  have h8:=ok.lines;have h4:=ok.cl;have hwk:=FO (k:=k) (by omega);have nb:Nat.beq 4 1=false:=rfl;have hle:=AFH ok;have q:=fun n=>AE7 n c.book.lines.length (DK c) c.claims[k] (by omega) hne (fun s hs=>AFG hs) (by omega) (ok.cw _ (List.getElem_mem hk));obtain⟨c',γ',hc,ih⟩:=zA c ok hne d (k+1) (out++[K5 c.claims[k] (DK c)]) (cc+2) (cc+1) (by omega) (by simp;omega);have happ:=AXT (k:=out.length) (x:=K5 c.claims[k] (DK c)) (by omega);have hcl:((DK c).map DB).all (fun e=>e.all (AK 7))=true:=bj.2 fun e he=>by obtain⟨l,_,rfl⟩:=bz.1 he;simp[DB,sc,AB]
  refine⟨c',γ',by omega,fun n m hm=>?_⟩;obtain⟨m,rfl⟩:=qNz m (by omega);have ih:=ih n m (by omega);rw[AD,bc hk];simp only[bq];generalize K5 c.claims[k] (DK c)=b at q ih happ|-;simp only[bh,bq,bx,J4,HM,AL,wkC,AF,List.append_assoc,bw,List.nil_append]at q ih|-;generalize (DK c).map DB=KK at q ih hcl|-;try simp at ih hcl
  simp[hk,hwk,AL,AO,AB,AM,HM,q,happ,SA,ih,nb,eq_true hcl]
def HW(c:BL):List Int:=c.claims.map fun w=>K5 w (DK c)
def UZ(c:BL):V:=if JQ c true=0 then .tup [sl ((HW c).map HM),i 0] else .tup [.nil,i (JQ c true)]
theorem zC(c:BL)(t:St)(h:1<=t.up.length):AN t [(1,0,.box (AF c))]=[(1,0,.box (AF c))]:=by obtain⟨up,loc⟩:=t;simp[AF,AB,AM,AL,AO]
theorem rJ(n:Nat)(c:BL):A5 bn kn (AG bn ann kn (n+11100)) 21 [.agg (AF c)]=some (UZ c):=by
 rw[AQ rfl,AR Tryz.func21 b21 rfl (by simp[AF,AB,AM,AL,AO])];obtain⟨ca,hca,q65⟩:=AMG c true [(1,0,.box (AF c))] (zC c) 1;unfold UZ;unfold yZ at q65;by_cases he:JQ c true=0
 ·obtain⟨ok,_,hne⟩:=AXS he;have h4:=ok.cl;rw[if_pos he]at q65|-;obtain⟨c1,γ1,h1,r1⟩:=zA c ok hne c.claims.length 0 [] ca 0 (by omega) (by simp);have hcl:((DK c).map DB).all (fun e=>e.all (AK 7))=true:=bj.2 fun e he=>by obtain⟨l,_,rfl⟩:=bz.1 he;simp[DB,sc,AB]
  have hJ:((HW c).map HM).all (fun e=>e.all (AK 7))=true:=by simp[HM]
  have r1:=r1 (n+92) (n+11092) (by omega);simp only[List.drop_zero,List.nil_append,bx,fB,NW,Int.natCast_zero,AF,wkC,bf,bg]at q65 r1|-;rw[show(c.claims.map fun w=>K5 w (DK c))=HW c from rfl]at r1;generalize (HW c).map HM=JJ at r1 hJ|-;generalize (DK c).map DB=KK at q65 r1 hcl;try simp at r1
  simp[c21,AH,q65,AB,AM,AL,AO];simp[r1];exact fun x hx v hv=>bj.1 (bj.1 hJ x hx) v hv
 ·rw[if_neg he]at q65|-;have hd:decide (JQ c true=0)=false:=by simpa using he
  simp only[AF]at q65|-;generalize JQ c true=A at q65 hd he;simp[c21,AH,q65,hd,he,AB,AM,AL,AO]
end Go.Proofs.Tryz.Op
