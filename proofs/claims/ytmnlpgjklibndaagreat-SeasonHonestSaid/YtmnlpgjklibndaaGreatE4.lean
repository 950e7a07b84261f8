/- Least. No condition. -/
import Derived.Test.YtmnlpgjklibndaaGreatE3
import Derived.Test.YtmnlpgjklibndaaGreatDd
open Go.Proofs.Tryz renaming prog->bf
open List renaming exists_mem_of_ne_nil->bj,drop_eq_getElem_cons->bq,all_eq_true->bw
open Nat renaming add_assoc->bx,reduceAdd->bz
set_option maxRecDepth 100000
set_option linter.unusedSimpArgs false
open Go Go.Pg Go.Proofs Go.Season
namespace Go.Proofs.Tryz.Op
theorem AZI(n:Nat)(a b:Int):A4 bf kn (AG bf ann kn (n+200)) 71 [.list false [[i a],[i b]]]=some (i (if b<a then b else a)):=by rw[AP rfl,AQ Tryz.func71 b71 rfl (by simp)];simp[c71,AH,AY1]
@[simp] theorem A68:IZ bf 71=false:=by kernel_rfl
noncomputable def wF(c:BF):Fr:=[(16,true,.fn 114 [] [.ref (AD c)]),(15,true,.agg (AD c)),(1,true,.ptr 0 1 0 0),(5,true,.ptr 0 5 1 0)]
noncomputable def PZ:Code:=.block 1 (RL 343)
@[simp] theorem uL(n:Nat)(st:XS):AG bf ann kn n 25 PZ st=AG bf ann kn n 25 (.block 1 (RL 343)) st:=rfl
structure LvL(c:BF)(c1:Nat)(v:Int)(L:AA):Prop where
 p1:L.get 1=some (0,.box (AD c))
 p5:L.get 5=some (1,.box [i v])
 pr:L.get A7=some (2,.loop (wF c) [17] (RL 151) PZ 25 .ready)
 st:∀t:St,1<=t.up.length->AO t L=L
 p16:L.get 16=none
 c1:1<c1
def IA(c:BF)(v:Int)(ls:List AF):Int:=if B4 c ls<v then B4 c ls else v
theorem AN1(c:BF)(hb:Q6 c)(a0:Int):oH c (LvL c) (IA c) a0 2 3000:=by
 intro a L L1 rest loc c1 ls hat hL hc hp hst;obtain⟨p1,p5,pr,pst,p16,pc1⟩:=hL;have h8:=hb.lines;have hl:=LN hp;have q72:=fun n=>AAK n c ls (by omega) (by have:=hb.wl;omega) (fun l h=>⟨by have:=hb.wx l h;omega,by rw[hl];exact hb.ww l h⟩);have q71:=fun n=>AZI n a (B4 c ls);have hst':=fun t h=>hst t h;simp only[List.map_cons,List.map_append,List.map_nil,List.cons.injEq]at hst';have hun:∀A:AA,CV (A::L1::(rest++[loc]))=some (A::L1::rest,loc):=fun A=>by rw[<-List.cons_append,<-List.cons_append,unsnoc_snoc]
 have hsr:∀t:St,(L1::(rest++[loc])).length+1<=t.up.length->(rest.map (AO t)=rest/\AO t loc=loc):=fun t h=>by have:=(hst' t h).2;exact⟨List.append_inj_left' this rfl,by simpa using List.append_inj_right' this rfl⟩
 have h1s:∀t:St,(L1::(rest++[loc])).length+1<=t.up.length->AO t L1=L1:=fun t h=>(hst' t h).1;unfold IA;generalize (if B4 c ls<a then B4 c ls else a)=v at q71|-;refine⟨(A7,2,.loop (wF c) [17] (RL 151) PZ 25 .ready)::(5,1,.box [i v])::(A7,2,.loop (wF c) [17] (RL 151) PZ 25 .busy)::L,c1+1,?_,by omega,fun n fr=>?_⟩
 ·exact⟨by simpa [A7]using p1,by simp[A7],by simp,fun t ht=>by simp[pst t ht],by simpa [A7]using p16,by omega⟩
 ·rw[MS (by simpa using pr) rfl (by omega)];simp only[G6,Fr.put,A0Z,wF];simp;rw[EG (fr0:=wF c) (ps:=[17]) (asg:=(RL 151)) (body':=PZ) (N:=25) (by simpa using pr) (by omega)];generalize hB:AZ.loop (wF c) [17] (RL 151) PZ 25 LS.busy=BB;generalize B4 c ls=lv at q72 q71;have hz:0<c1:=by omega
  simp only[AD,sc]at p1 q72|-;simp[p1,p5,q72,q71,pc1,hz,AA.put,A7,AB,AN,AJ,AM];subst hB;rw[EH (fr0:=wF c) (ps:=[17]) (asg:=(RL 151)) (body:=PZ) (N:=25) (by simp) (hun _) (by simp) (by omega)];simp[pst,h1s,hsr,AA.put,wF,AD]
def B7(c:BF):Int:=runL (IA c) (c.wits.length:Int) (B9 c.book)
def dZ(c:BF):V:=if EB c=0 then .tup [i (B7 c),i 0] else .tup [i 0,i (EB c)]
theorem Q9(n:Nat)(c:BF):A4 bf kn (AG bf ann kn (n+8000)) 24 [.agg (AD c)]=some (dZ c):=by
 rw[AP rfl,AQ Tryz.func24 b24 rfl (by simp[AD,AB,AN,AJ,AM])];have q59:=fun n=>sT n c;unfold dZ;by_cases hb:EB c=0
 ·rw[if_pos hb];rw[hb]at q59;have ok:=VO hb;have q70:=fun n=>AA3 n c;have hL0:LvL c 3 (c.wits.length:Int) [(A7,2,.loop (wF c) [17] (RL 151) PZ 25 .ready),(1,0,.box (AD c)),(5,1,.box [i (c.wits.length:Int)])] :=
   ⟨by simp[A7],by simp[A7],by simp,fun t ht=>by
    have e1:¬0=t.up.length:=by omega
    obtain⟨up,loc⟩:=t;simp only at e1;simp[AD,AB,AN,AJ,AM,e1],by simp[A7],by omega⟩
  obtain⟨L',c',r1,r2,r3⟩:=AAY ok (fun c1 c2 a L h hl=>⟨hl.p1,hl.p5,hl.pr,hl.st,hl.p16,by have:=hl.c1;omega⟩) (fun c a L h=>h.st) (AN1 c ok _) _ hL0 (wF c);have hk:runL (IA c) (c.wits.length:Int) (B9 c.book)=B7 c:=rfl;rw[hk]at r1;obtain⟨p1,p5,pr,pst,p16,pc1⟩:=r1;have r3:=r3 (n+993);generalize B7 c=v at p5|-;simp only[AD,wF,bx,bz]at q59 q70 r3|-;simp[c24,AH,AB,AN,AJ,AM,q59,q70,MT];rw[O9 rfl];simp;rw[show(Code.block 1 (RL 343))=PZ from rfl];simp only[bx,bz,r3];rw[SP (fr0:=wF c) (ps:=[17]) (asg:=(RL 151)) (body:=PZ) (N:=25) (by simpa using pr) (by omega)];simp[wF,p1,p5,p16,A7]
 ·rw[if_neg hb];have hd:decide (EB c=0)=false:=by simpa using hb
  simp only[AD]at q59|-;generalize EB c=A at q59 hd hb;simp[c24,AH,q59,hd,hb,AB,AN,AJ,AM]
end Go.Proofs.Tryz.Op
namespace Go.Season
def inW{β:Type}:List (List β)->List β->Prop
 |[],[]=>True
 |w::ws,x::xs=>x∈w/\inW ws xs
 |_,_=>False
theorem AA9{β:Type}:∀(ws:List (List β)) (xs:List β),ws.length=xs.length->(∀k (h:k<ws.length) (h2:k<xs.length),xs[k]∈ws[k])->inW ws xs
 |[],[],_,_=>trivial
 |[],_::_,h,_=>by simp at h
 |_::_,[],h,_=>by simp at h
 |w::ws,x::xs,hl,h=>⟨h 0 (by simp) (by simp),AA9 ws xs (by simpa using hl) fun k h1 h2=>h (k+1) (by simpa using h1) (by simpa using h2)⟩
end Go.Season
namespace Go.Proofs.Tryz.Op
theorem iP(b:AY):∀(ws:List (List AF)) (p t:List AF),inW ws t->FY b (p++t)=true->p++t∈FS b ws p
 |[],p,[],_,h=>by unfold FS;rw[List.append_nil]at h|-;rw[if_pos h];simp
 |[],_,_::_,h,_=>h.elim
 |_::_,_,[],h,_=>h.elim
 |w::ws,p,x::t,hi,h=>by
  unfold FS;refine List.mem_flatMap.2 ⟨x,hi.1,?_⟩;have e:p++x::t=(p++[x])++t:=by simp
  rw[e]at h|-;exact iP b ws (p++[x]) t hi.2 h
theorem iQ{b:AY}(hf:DN b=0){t:List AF}:t∈B9 b↔QC b t=true:=by
 have hp:FY b t=QC b t:=by rw[nP,hf];rfl
 constructor
 ·intro h;rw[<-hp];exact Q7 h
 ·intro h;rw[<-hp]at h;have hl:=LN h;refine iP b (AS b) [] t (AA9 _ _ (by simp[AS,hl]) fun k h1 h2=>?_) h;have hk:k<b.lines.length:=by omega
  have hd:t.getD k CW=t[k]:=by simp[List.getD_eq_getElem?_getD,h2]
  have hw:(AS b)[k]=I2 b k:=by simp[AS]
  rw[hp]at h;rw[hw];unfold I2;rw[List.mem_filter,<-hd];exact⟨SW hf hk h,decide_eq_true ((dI hf).2 ⟨t,h,rfl⟩)⟩
theorem Q6.fault{c:BF}(h:Q6 c):DN c.book=0:=by rw[<-OP];exact h.book
theorem oK{c:BF}(h:Q6 c):B9 c.book≠[]:=by obtain⟨_,_,hp⟩:=Q5 h.ask;obtain⟨⟨t,L⟩,hm⟩:=bj _ ((ZH c.book).1 hp);intro he;have:=(iQ h.fault).2 ((LF h.fault).2 ⟨L,hm⟩);rw[he]at this;cases this
theorem QH(φ:List AF->Bool)(s:List AF)(S:List (List AF)):J5 φ (s::S)=if (s::S).all (fun t=>φ t==φ s)=true then(if φ s=true then 1 else 2) else 3:=rfl
theorem S9{φ:List AF->Bool}{S:List (List AF)}(hne:S≠[]):J5 φ S=1↔∀s∈S,φ s=true:=by
 cases S with
 |nil=>exact absurd rfl hne
 |cons s S=>
  rw[QH]
  by_cases h1:((s::S).all fun t=>φ t==φ s)=true
  ·rw[if_pos h1];have h2:=bw.1 h1;cases h:φ s with
   |true=>
    rw[h]at h2
    simp only[if_true]
    exact⟨fun _ t ht=>by simpa using h2 t ht,fun _=>trivial⟩
   |false=>
    simp only[Bool.false_eq_true,if_false]
    exact⟨fun e=>by omega,fun e=>by rw[e s (by simp)]at h;cases h⟩
  ·rw[if_neg h1];refine⟨fun e=>by omega,fun e=>absurd (bw.2 fun t ht=>?_) h1⟩;rw[e t ht,e s (by simp)];rfl
theorem OW{φ:List AF->Bool}{S:List (List AF)}(hne:S≠[]):J5 φ S=2↔∀s∈S,φ s=false:=by
 cases S with
 |nil=>exact absurd rfl hne
 |cons s S=>
  rw[QH]
  by_cases h1:((s::S).all fun t=>φ t==φ s)=true
  ·rw[if_pos h1];have h2:=bw.1 h1;cases h:φ s with
   |true=>
    simp only[if_true]
    exact⟨fun e=>by omega,fun e=>by rw[e s (by simp)]at h;cases h⟩
   |false=>
    rw[h]at h2
    simp only[Bool.false_eq_true,if_false]
    exact⟨fun _ t ht=>by simpa using h2 t ht,fun _=>trivial⟩
  ·rw[if_neg h1];refine⟨fun e=>by omega,fun e=>absurd (bw.2 fun t ht=>?_) h1⟩;rw[e t ht,e s (by simp)];rfl
theorem wG(φ:List AF->Bool){S:List (List AF)}(hne:S≠[]):J5 φ S=1\/J5 φ S=2\/J5 φ S=3:=by
 cases S with
 |nil=>exact absurd rfl hne
 |cons s S=>
  rw[QH]
  split
  ·split
   ·exact .inl rfl
   ·exact .inr (.inl rfl)
  ·exact .inr (.inr rfl)
theorem ABA{φ:List AF->Bool}{S S':List (List AF)}(hne:S'≠[])(hs:∀s∈S',s∈S)(h3:J5 φ S≠3):J5 φ S'=J5 φ S:=by
 have hS:S≠[]:=fun e=>by obtain⟨x,hx⟩:=bj _ hne;have:=hs x hx;rw[e]at this;cases this
 rcases wG φ hS with h|h|h
 ·rw[h];exact(S9 hne).2 fun s hm=>(S9 hS).1 h s (hs s hm)
 ·rw[h];exact(OW hne).2 fun s hm=>(OW hS).1 h s (hs s hm)
 ·exact absurd h h3
theorem VS(p:List Wrd->Bool):∀(l:List (List Wrd)) (v:Int),v<=I6 p v l/\I6 p v l<=v+l.length
 |[],v=>by simp[I6]
 |x::l,v=>by
  have h1:=VS p l (v+1);have h2:=VS p l v;show v<=I6 p (cond (p x) (v+1) v) l/\I6 p (cond (p x) (v+1) v) l<=v+((x::l).length:Int);rw[List.length_cons];cases p x
  ·simp only[cond_false];omega
  ·simp only[cond_true];omega
theorem bF(c:BF)(ls:List AF):0<=B4 c ls/\B4 c ls<=c.wits.length:=by have:=VS (fun l=>!l.all (D9 ls)) c.wits 0;unfold B4;omega
theorem AZJ(c:BF):∀(l:List (List AF)) (v:Int),runL (IA c) v l<=v/\(∀s∈l,runL (IA c) v l<=B4 c s)/\(runL (IA c) v l=v\/∃s∈l,B4 c s=runL (IA c) v l)
 |[],v=>⟨Int.le_refl _,fun s h=>(by cases h),.inl rfl⟩
 |x::l,v=>by
  obtain⟨h1,h2,h3⟩:=AZJ c l (IA c v x);have e:runL (IA c) v (x::l)=runL (IA c) (IA c v x) l:=rfl;have hx:IA c v x<=v/\IA c v x<=B4 c x/\(IA c v x=v\/IA c v x=B4 c x):=by
   unfold IA;split
   ·exact⟨by omega,by omega,.inr rfl⟩
   ·exact⟨by omega,by omega,.inl rfl⟩
  rw[e];refine⟨by omega,fun s hs=>?_,?_⟩
  ·rcases List.mem_cons.1 hs with rfl|hs
   ·omega
   ·exact h2 s hs
  ·rcases h3 with h3|⟨s,hs,h3⟩
   ·rcases hx.2.2 with h4|h4
    ·exact .inl (h3.trans h4)
    ·exact .inr ⟨x,by simp,by rw[h3,h4]⟩
   ·exact .inr ⟨s,by simp[hs],h3⟩
theorem GC{c:BF}(ok:Q6 c):0<=B7 c/\B7 c<=c.wits.length/\(∀s∈B9 c.book,B7 c<=B4 c s)/\∃s∈B9 c.book,B4 c s=B7 c:=by
 obtain⟨h1,h2,h3⟩:=AZJ c (B9 c.book) (c.wits.length:Int);change B7 c<=_ at h1;change ∀s∈B9 c.book,B7 c<=B4 c s at h2;change B7 c=_\/∃s∈B9 c.book,B4 c s=B7 c at h3;obtain⟨x,hx⟩:=bj _ (oK ok);have hr:=bF c x;have hlx:=h2 x hx;have h4:∃s∈B9 c.book,B4 c s=B7 c:=by
  rcases h3 with h3|h3
  ·exact⟨x,hx,by omega⟩
  ·exact h3
 obtain⟨s,hs,h5⟩:=h4;have:=bF c s;exact⟨by omega,h1,h2,s,hs,h5⟩
theorem LP(k:IntKind)(n:Int):LW bf 5 3 (.int k n)=some (.int .i64 (IntKind.i64.wrap n)):=by kernel_rfl
def KL(c:BF):Bool:=WQ c&&decide (EB c=0)
theorem OX(n:Nat)(c:BF):A4 bf kn (AG bf ann kn (n+5300)) 45 [.agg (AD c)]=some (.bool (KL c)):=by
 rw[AP rfl,AQ Tryz.func45 b45 rfl (by simp[AD,AB,AN,AJ,AM])];have qT:=fun n=>ANU n c;unfold KL;cases ht:WQ c with
 |false=>
  rw[ht]at qT
  simp only[AD]at qT|-
  simp[c45,AH,qT,AB,AN,AJ,AM]
 |true=>
  obtain⟨t1,t2,t3,t4,t5⟩:=HX ht
  have qF:=fun n=>AGF n c (by omega) (by omega) (fun l hl=>by have:=t5 l hl;omega)
  rw[ht]at qT
  generalize EB c=e at qF|-
  simp only[AD]at qT qF|-
  simp[c45,AH,qT,qF,AB,AN,AJ,AM]
def DV(c:BF):List Int:=if ER c true=0 then D5 c else[]
def eA(c:BF):List Int:=if ER c true=0 then QG c else[]
theorem QI(c:BF):VR c=.tup [sl ((DV c).map C7),i (ER c true)]:=by
 unfold VR DV;split
 ·rename_i h;rw[h]
 ·rfl
theorem wH(c:BF):dY c=.tup [sl ((eA c).map C7),i (ER c true)]:=by
 unfold dY eA;split
 ·rename_i h;rw[h]
 ·rfl
theorem TA{c:BF}(h:KL c=true):WQ c=true/\EB c=0/\Q6 c:=by simp only[KL,Bool.and_eq_true,decide_eq_true_eq]at h;exact⟨h.1,h.2,VO h.2⟩
def M4:List Int->List Int->Bool
 |a::A,b::B=>!(decide (a≠3)&&decide (a≠b))&&M4 A B
 |_,_=>true
theorem AKU(n:Nat)(A B:List Int)(hA:A.length<=100)(hB:B.length<=100):∀(d k m:Nat),k+d=A.length->d<m->k<=B.length ->
  ∃fr,BR (AG bf ann kn (n+50) 34) W7 (ann 34 (CU W7)) m ⟨0,[(0,true,.list false (A.map C7)),(1,true,.list false (B.map C7)),(5,true,i k)],⟨[],[]⟩⟩ =
   bif M4 (A.drop k) (B.drop k) then some (.exit 0,⟨0,fr,⟨[],[]⟩⟩)
   else some (.ret,⟨0,[(4,true,.bool false)],⟨[],[]⟩⟩)
 |0,k,m+1,hd,hm,hkb=>by
  have:k=A.length:=by omega
  subst this;refine⟨?_,?g⟩;case g=>
   simp[AE,M4]
   rfl
 |d+1,k,m+1,hd,hm,hkb=>by
  have hk:k<A.length:=by omega
  have hwk:=FB (k:=k) (by omega);by_cases hb:k<B.length
  ·obtain⟨fr,ih⟩:=AKU n A B hA hB d (k+1) m (by omega) (by omega) (by omega);refine⟨fr,?_⟩;rw[AE,bq hk,bq hb];simp only[M4];generalize e1:decide (A[k]≠3)=b1;generalize e2:decide (A[k]≠B[k])=b2;have e1':(!decide (A[k]=3))=b1:=by rw[<-e1];simp
   have e2':(!decide (A[k]=B[k]))=b2:=by rw[<-e2];simp
   try simp at ih
   cases b1<;>cases b2<;>simp[hk,hb,hwk,C7,PV,e1',e2',ih]
  ·have:B.drop k=[]:=by simp;omega
   rw[this];refine⟨?_,?g⟩;case g=>
    have hkk:k=B.length:=by omega
    rw[bq hk]
    simp[AE,M4,hk,hb]
    rfl
theorem AKV(n:Nat)(A B:List Int)(hA:A.length<=100)(hB:B.length<=100):A4 bf kn (AG bf ann kn (n+300)) 46 [.list false (A.map C7),.list false (B.map C7)]=some (.bool (M4 A B)):=by rw[AP rfl,AQ Tryz.func46 b46 rfl (by simp[C7])];obtain⟨fr,q⟩:=AKU (n+245) A B hA hB A.length 0 (n+295) (by omega) (by omega) (by omega);simp only[List.drop_zero,bx,bz,Int.natCast_zero]at q;generalize M4 A B=b at q|-;cases b<;>(try simp at q)<;>simp[c46,AH,q]
theorem iR:∀(A B:List Int),(∀k (h1:k<A.length) (h2:k<B.length),A[k]≠3->A[k]=B[k])->M4 A B=true
 |[],_,_=>rfl
 |_::_,[],_=>rfl
 |a::A,b::B,h=>by
  have h0:=h 0 (by simp) (by simp);have ih:=iR A B fun k h1 h2=>h (k+1) (by simpa using h1) (by simpa using h2);unfold M4;rw[ih,Bool.and_true];have h0:a≠3->a=b:=h0;by_cases h3:a=3
  ·simp[h3]
  ·simp[h0 h3]
theorem E7{c:BF}(h:EB c=0):ER c true=if BM c=[] then 11 else 0:=by simp[ER,h]
theorem iS{c x:BF}(hc:x.claims=c.claims)(hne:BM c≠[])(hs:∀s∈BM c,s∈BM x):M4 (D5 x) (D5 c)=true:=by refine iR _ _ fun k h1 h2 h3=>?_;simp only[D5,List.getElem_map,hc]at h3|-;exact(ABA hne hs h3).symm
end Go.Proofs.Tryz.Op
