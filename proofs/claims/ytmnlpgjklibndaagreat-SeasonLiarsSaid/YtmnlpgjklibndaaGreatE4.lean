/- Least. No condition. -/
import Derived.Test.YtmnlpgjklibndaaGreatE3
import Derived.Test.YtmnlpgjklibndaaGreatDd
open Go.Proofs.Tryz renaming prog->bf
open List renaming exists_mem_of_ne_nil->bj,drop_eq_getElem_cons->bq,all_eq_true->bw
open Nat renaming add_assoc->bx,reduceAdd->bz
set_option maxRecDepth 100000
set_option linter.unusedSimpArgs false
open Go Go.Pg Go.Proofs Go.Season
namespace Go.Proofs.Tryz.Op
theorem AXU(n:Nat)(a b:Int):A5 bf kn (AG bf ann kn (n+200)) 71 [.list false [[i a],[i b]]]=some (i (if b<a then b else a)):=by rw[AQ rfl,AR Tryz.func71 b71 rfl (by simp)];simp[c71,AH,AW9]
@[simp] theorem A5G:II bf 71=false:=by kernel_rfl
noncomputable def uE(c:BL):Fr:=[(16,true,.fn 114 [] [.ref (AF c)]),(15,true,.agg (AF c)),(1,true,.ptr 0 1 0 0),(5,true,.ptr 0 5 1 0)]
noncomputable def PD:Code:=.block 1 (QT 343)
@[simp] theorem uL(n:Nat)(st:XS):AG bf ann kn n 25 PD st=AG bf ann kn n 25 (.block 1 (QT 343)) st:=rfl
structure LvL(c:BL)(c1:Nat)(v:Int)(L:AA):Prop where
 p1:L.get 1=some (0,.box (AF c))
 p5:L.get 5=some (1,.box [i v])
 pr:L.get A7=some (2,.loop (uE c) [17] (QT 151) PD 25 .ready)
 st:∀t:St,1<=t.up.length->AN t L=L
 p16:L.get 16=none
 c1:1<c1
def H0(c:BL)(v:Int)(ls:List AE):Int:=if CQ c ls<v then CQ c ls else v
theorem AMH(c:BL)(hb:UU c)(a0:Int):mQ c (LvL c) (H0 c) a0 2 3000:=by
 intro a L L1 rest loc c1 ls hat hL hc hp hst;obtain⟨p1,p5,pr,pst,p16,pc1⟩:=hL;have h8:=hb.lines;have hl:=K4 hp;have q72:=fun n=>yC n c ls (by omega) (by have:=hb.wl;omega) (fun l h=>⟨by have:=hb.wx l h;omega,by rw[hl];exact hb.ww l h⟩);have q71:=fun n=>AXU n a (CQ c ls);have hst':=fun t h=>hst t h;simp only[List.map_cons,List.map_append,List.map_nil,List.cons.injEq]at hst';have hun:∀A:AA,CM (A::L1::(rest++[loc]))=some (A::L1::rest,loc):=fun A=>by rw[<-List.cons_append,<-List.cons_append,unsnoc_snoc]
 have hsr:∀t:St,(L1::(rest++[loc])).length+1<=t.up.length->(rest.map (AN t)=rest/\AN t loc=loc):=fun t h=>by have:=(hst' t h).2;exact⟨List.append_inj_left' this rfl,by simpa using List.append_inj_right' this rfl⟩
 have h1s:∀t:St,(L1::(rest++[loc])).length+1<=t.up.length->AN t L1=L1:=fun t h=>(hst' t h).1;unfold H0;generalize (if CQ c ls<a then CQ c ls else a)=v at q71|-;refine⟨(A7,2,.loop (uE c) [17] (QT 151) PD 25 .ready)::(5,1,.box [i v])::(A7,2,.loop (uE c) [17] (QT 151) PD 25 .busy)::L,c1+1,?_,by omega,fun n fr=>?_⟩
 ·exact⟨by simpa [A7]using p1,by simp[A7],by simp,fun t ht=>by simp[pst t ht],by simpa [A7]using p16,by omega⟩
 ·rw[MC (by simpa using pr) rfl (by omega)];simp only[GO,Fr.put,AZC,uE];simp;rw[D8 (fr0:=uE c) (ps:=[17]) (asg:=(QT 151)) (body':=PD) (N:=25) (by simpa using pr) (by omega)];generalize hB:AZ.loop (uE c) [17] (QT 151) PD 25 LS.busy=BB;generalize CQ c ls=lv at q72 q71;have hz:0<c1:=by omega
  simp only[AF,sc]at p1 q72|-;simp[p1,p5,q72,q71,pc1,hz,AA.put,A7,AB,AM,AL,AO];subst hB;rw[D9 (fr0:=uE c) (ps:=[17]) (asg:=(QT 151)) (body:=PD) (N:=25) (by simp) (hun _) (by simp) (by omega)];simp[pst,h1s,hsr,AA.put,uE,AF]
def EM(c:BL):Int:=runL (H0 c) (c.wits.length:Int) (B4 c.book)
def mT(c:BL):V:=if DZ c=0 then .tup [i (EM c),i 0] else .tup [i 0,i (DZ c)]
theorem AFI(n:Nat)(c:BL):A5 bf kn (AG bf ann kn (n+8000)) 24 [.agg (AF c)]=some (mT c):=by
 rw[AQ rfl,AR Tryz.func24 b24 rfl (by simp[AF,AB,AM,AL,AO])];have q59:=fun n=>qY n c;unfold mT;by_cases hb:DZ c=0
 ·rw[if_pos hb];rw[hb]at q59;have ok:=UV hb;have q70:=fun n=>yW n c;have hL0:LvL c 3 (c.wits.length:Int) [(A7,2,.loop (uE c) [17] (QT 151) PD 25 .ready),(1,0,.box (AF c)),(5,1,.box [i (c.wits.length:Int)])] :=
   ⟨by simp[A7],by simp[A7],by simp,fun t ht=>by
    have e1:¬0=t.up.length:=by omega
    obtain⟨up,loc⟩:=t;simp only at e1;simp[AF,AB,AM,AL,AO,e1],by simp[A7],by omega⟩
  obtain⟨L',c',r1,r2,r3⟩:=yR ok (fun c1 c2 a L h hl=>⟨hl.p1,hl.p5,hl.pr,hl.st,hl.p16,by have:=hl.c1;omega⟩) (fun c a L h=>h.st) (AMH c ok _) _ hL0 (uE c);have hk:runL (H0 c) (c.wits.length:Int) (B4 c.book)=EM c:=rfl;rw[hk]at r1;obtain⟨p1,p5,pr,pst,p16,pc1⟩:=r1;have r3:=r3 (n+993);generalize EM c=v at p5|-;simp only[AF,uE,bx,bz]at q59 q70 r3|-;simp[c24,AH,AB,AM,AL,AO,q59,q70,MD];rw[ON rfl];simp;rw[show(Code.block 1 (QT 343))=PD from rfl];simp only[bx,bz,r3];rw[RU (fr0:=uE c) (ps:=[17]) (asg:=(QT 151)) (body:=PD) (N:=25) (by simpa using pr) (by omega)];simp[uE,p1,p5,p16,A7]
 ·rw[if_neg hb];have hd:decide (DZ c=0)=false:=by simpa using hb
  simp only[AF]at q59|-;generalize DZ c=A at q59 hd hb;simp[c24,AH,q59,hd,hb,AB,AM,AL,AO]
end Go.Proofs.Tryz.Op
namespace Go.Season
def inW{β:Type}:List (List β)->List β->Prop
 |[],[]=>True
 |w::ws,x::xs=>x∈w/\inW ws xs
 |_,_=>False
theorem zD{β:Type}:∀(ws:List (List β)) (xs:List β),ws.length=xs.length->(∀k (h:k<ws.length) (h2:k<xs.length),xs[k]∈ws[k])->inW ws xs
 |[],[],_,_=>trivial
 |[],_::_,h,_=>by simp at h
 |_::_,[],h,_=>by simp at h
 |w::ws,x::xs,hl,h=>⟨h 0 (by simp) (by simp),zD ws xs (by simpa using hl) fun k h1 h2=>h (k+1) (by simpa using h1) (by simpa using h2)⟩
end Go.Season
namespace Go.Proofs.Tryz.Op
theorem gK(b:AY):∀(ws:List (List AE)) (p t:List AE),inW ws t->FN b (p++t)=true->p++t∈FI b ws p
 |[],p,[],_,h=>by unfold FI;rw[List.append_nil]at h|-;rw[if_pos h];simp
 |[],_,_::_,h,_=>h.elim
 |_::_,_,[],h,_=>h.elim
 |w::ws,p,x::t,hi,h=>by
  unfold FI;refine List.mem_flatMap.2 ⟨x,hi.1,?_⟩;have e:p++x::t=(p++[x])++t:=by simp
  rw[e]at h|-;exact gK b ws (p++[x]) t hi.2 h
theorem gL{b:AY}(hf:DH b=0){t:List AE}:t∈B4 b↔PQ b t=true:=by
 have hp:FN b t=PQ b t:=by rw[lZ,hf];rfl
 constructor
 ·intro h;rw[<-hp];exact QH h
 ·intro h;rw[<-hp]at h;have hl:=K4 h;refine gK b (AS b) [] t (zD _ _ (by simp[AS,hl]) fun k h1 h2=>?_) h;have hk:k<b.lines.length:=by omega
  have hd:t.getD k CO=t[k]:=by simp[List.getD_eq_getElem?_getD,h2]
  have hw:(AS b)[k]=IM b k:=by simp[AS]
  rw[hp]at h;rw[hw];unfold IM;rw[List.mem_filter,<-hd];exact⟨R1 hf hk h,decide_eq_true ((cB hf).2 ⟨t,h,rfl⟩)⟩
theorem UU.fault{c:BL}(h:UU c):DH c.book=0:=by rw[<-N5];exact h.book
theorem mU{c:BL}(h:UU c):B4 c.book≠[]:=by obtain⟨_,_,hp⟩:=QG h.ask;obtain⟨⟨t,L⟩,hm⟩:=bj _ ((YL c.book).1 hp);intro he;have:=(gL h.fault).2 ((KW h.fault).2 ⟨L,hm⟩);rw[he]at this;cases this
theorem PU(φ:List AE->Bool)(s:List AE)(S:List (List AE)):MM φ (s::S)=if (s::S).all (fun t=>φ t==φ s)=true then(if φ s=true then 1 else 2) else 3:=rfl
theorem aA{φ:List AE->Bool}{S:List (List AE)}(hne:S≠[]):MM φ S=1↔∀s∈S,φ s=true:=by
 cases S with
 |nil=>exact absurd rfl hne
 |cons s S=>
  rw[PU]
  by_cases h1:((s::S).all fun t=>φ t==φ s)=true
  ·rw[if_pos h1];have h2:=bw.1 h1;cases h:φ s with
   |true=>
    rw[h]at h2
    simp only[if_true]
    exact⟨fun _ t ht=>by simpa using h2 t ht,fun _=>trivial⟩
   |false=>
    simp only[Bool.false_eq_true,if_false]
    exact⟨fun e=>by omega,fun e=>by rw[e s (by simp)]at h;cases h⟩
  ·rw[if_neg h1];refine⟨fun e=>by omega,fun e=>absurd (bw.2 fun t ht=>?_) h1⟩;rw[e t ht,e s (by simp)];rfl
theorem aB{φ:List AE->Bool}{S:List (List AE)}(hne:S≠[]):MM φ S=2↔∀s∈S,φ s=false:=by
 cases S with
 |nil=>exact absurd rfl hne
 |cons s S=>
  rw[PU]
  by_cases h1:((s::S).all fun t=>φ t==φ s)=true
  ·rw[if_pos h1];have h2:=bw.1 h1;cases h:φ s with
   |true=>
    simp only[if_true]
    exact⟨fun e=>by omega,fun e=>by rw[e s (by simp)]at h;cases h⟩
   |false=>
    rw[h]at h2
    simp only[Bool.false_eq_true,if_false]
    exact⟨fun _ t ht=>by simpa using h2 t ht,fun _=>trivial⟩
  ·rw[if_neg h1];refine⟨fun e=>by omega,fun e=>absurd (bw.2 fun t ht=>?_) h1⟩;rw[e t ht,e s (by simp)];rfl
theorem uF(φ:List AE->Bool){S:List (List AE)}(hne:S≠[]):MM φ S=1\/MM φ S=2\/MM φ S=3:=by
 cases S with
 |nil=>exact absurd rfl hne
 |cons s S=>
  rw[PU]
  split
  ·split
   ·exact .inl rfl
   ·exact .inr (.inl rfl)
  ·exact .inr (.inr rfl)
theorem zE{φ:List AE->Bool}{S S':List (List AE)}(hne:S'≠[])(hs:∀s∈S',s∈S)(h3:MM φ S≠3):MM φ S'=MM φ S:=by
 have hS:S≠[]:=fun e=>by obtain⟨x,hx⟩:=bj _ hne;have:=hs x hx;rw[e]at this;cases this
 rcases uF φ hS with h|h|h
 ·rw[h];exact(aA hne).2 fun s hm=>(aA hS).1 h s (hs s hm)
 ·rw[h];exact(aB hne).2 fun s hm=>(aB hS).1 h s (hs s hm)
 ·exact absurd h h3
theorem cO(p:List Wrd->Bool):∀(l:List (List Wrd)) (v:Int),v<=PB p v l/\PB p v l<=v+l.length
 |[],v=>by simp[PB]
 |x::l,v=>by
  have h1:=cO p l (v+1);have h2:=cO p l v;show v<=PB p (cond (p x) (v+1) v) l/\PB p (cond (p x) (v+1) v) l<=v+((x::l).length:Int);rw[List.length_cons];cases p x
  ·simp only[cond_false];omega
  ·simp only[cond_true];omega
theorem aC(c:BL)(ls:List AE):0<=CQ c ls/\CQ c ls<=c.wits.length:=by have:=cO (fun l=>!l.all (HD ls)) c.wits 0;unfold CQ;omega
theorem AXV(c:BL):∀(l:List (List AE)) (v:Int),runL (H0 c) v l<=v/\(∀s∈l,runL (H0 c) v l<=CQ c s)/\(runL (H0 c) v l=v\/∃s∈l,CQ c s=runL (H0 c) v l)
 |[],v=>⟨Int.le_refl _,fun s h=>(by cases h),.inl rfl⟩
 |x::l,v=>by
  obtain⟨h1,h2,h3⟩:=AXV c l (H0 c v x);have e:runL (H0 c) v (x::l)=runL (H0 c) (H0 c v x) l:=rfl;have hx:H0 c v x<=v/\H0 c v x<=CQ c x/\(H0 c v x=v\/H0 c v x=CQ c x):=by
   unfold H0;split
   ·exact⟨by omega,by omega,.inr rfl⟩
   ·exact⟨by omega,by omega,.inl rfl⟩
  rw[e];refine⟨by omega,fun s hs=>?_,?_⟩
  ·rcases List.mem_cons.1 hs with rfl|hs
   ·omega
   ·exact h2 s hs
  ·rcases h3 with h3|⟨s,hs,h3⟩
   ·rcases hx.2.2 with h4|h4
    ·exact .inl (h3.trans h4)
    ·exact .inr ⟨x,by simp,by rw[h3,h4]⟩
   ·exact .inr ⟨s,by simp[hs],h3⟩
theorem V4{c:BL}(ok:UU c):0<=EM c/\EM c<=c.wits.length/\(∀s∈B4 c.book,EM c<=CQ c s)/\∃s∈B4 c.book,CQ c s=EM c:=by
 obtain⟨h1,h2,h3⟩:=AXV c (B4 c.book) (c.wits.length:Int);change EM c<=_ at h1;change ∀s∈B4 c.book,EM c<=CQ c s at h2;change EM c=_\/∃s∈B4 c.book,CQ c s=EM c at h3;obtain⟨x,hx⟩:=bj _ (mU ok);have hr:=aC c x;have hlx:=h2 x hx;have h4:∃s∈B4 c.book,CQ c s=EM c:=by
  rcases h3 with h3|h3
  ·exact⟨x,hx,by omega⟩
  ·exact h3
 obtain⟨s,hs,h5⟩:=h4;have:=aC c s;exact⟨by omega,h1,h2,s,hs,h5⟩
theorem gM{c:BL}(ok:UU c):DK c≠[]↔EM c<=c.liars:=by
 obtain⟨h1,h2,h3,s,hs,h4⟩:=V4 ok;constructor
 ·intro h;obtain⟨x,hx⟩:=bj _ h;obtain⟨h5,h6⟩:=M1.1 hx;have:=h3 x h5;omega
 ·intro h e;have:s∈DK c:=M1.2 ⟨hs,by omega⟩;rw[e]at this;cases this
theorem cP(k:IntKind)(n:Int):LC bf 5 3 (.int k n)=some (.int .i64 (IntKind.i64.wrap n)):=by kernel_rfl
def SE(c:BL):Bool:=VY c&&decide (DZ c=0)
theorem rK(n:Nat)(c:BL):A5 bf kn (AG bf ann kn (n+5300)) 45 [.agg (AF c)]=some (.bool (SE c)):=by
 rw[AQ rfl,AR Tryz.func45 b45 rfl (by simp[AF,AB,AM,AL,AO])];have qT:=fun n=>AL8 n c;unfold SE;cases ht:VY c with
 |false=>
  rw[ht]at qT
  simp only[AF]at qT|-
  simp[c45,AH,qT,AB,AM,AL,AO]
 |true=>
  obtain⟨t1,t2,t3,t4,t5⟩:=Z6 ht
  have qF:=fun n=>AEY n c (by omega) (by omega) (fun l hl=>by have:=t5 l hl;omega)
  rw[ht]at qT
  generalize DZ c=e at qF|-
  simp only[AF]at qT qF|-
  simp[c45,AH,qT,qF,AB,AM,AL,AO]
def K7(c:BL):List Int:=if JQ c true=0 then HW c else[]
theorem mV(c:BL):UZ c=.tup [sl ((K7 c).map HM),i (JQ c true)]:=by
 unfold UZ K7;split
 ·rename_i h;rw[h]
 ·rfl
theorem zF{c:BL}(h:SE c=true):VY c=true/\DZ c=0/\UU c:=by simp only[SE,Bool.and_eq_true,decide_eq_true_eq]at h;exact⟨h.1,h.2,UV h.2⟩
def M2:List Int->List Int->Bool
 |a::A,b::B=>!(decide (a≠3)&&decide (a≠b))&&M2 A B
 |_,_=>true
theorem AJF(n:Nat)(A B:List Int)(hA:A.length<=100)(hB:B.length<=100):∀(d k m:Nat),k+d=A.length->d<m->k<=B.length ->
  ∃fr,BS (AG bf ann kn (n+50) 34) WD (ann 34 (CP WD)) m ⟨0,[(0,true,.list false (A.map HM)),(1,true,.list false (B.map HM)),(5,true,i k)],⟨[],[]⟩⟩ =
   bif M2 (A.drop k) (B.drop k) then some (.exit 0,⟨0,fr,⟨[],[]⟩⟩)
   else some (.ret,⟨0,[(4,true,.bool false)],⟨[],[]⟩⟩)
 |0,k,m+1,hd,hm,hkb=>by
  have:k=A.length:=by omega
  subst this;refine⟨?_,?g⟩;case g=>
   simp[AD,M2]
   rfl
 |d+1,k,m+1,hd,hm,hkb=>by
  have hk:k<A.length:=by omega
  have hwk:=FO (k:=k) (by omega);by_cases hb:k<B.length
  ·obtain⟨fr,ih⟩:=AJF n A B hA hB d (k+1) m (by omega) (by omega) (by omega);refine⟨fr,?_⟩;rw[AD,bq hk,bq hb];simp only[M2];generalize e1:decide (A[k]≠3)=b1;generalize e2:decide (A[k]≠B[k])=b2;have e1':(!decide (A[k]=3))=b1:=by rw[<-e1];simp
   have e2':(!decide (A[k]=B[k]))=b2:=by rw[<-e2];simp
   try simp at ih
   cases b1<;>cases b2<;>simp[hk,hb,hwk,HM,YF,e1',e2',ih]
  ·have:B.drop k=[]:=by simp;omega
   rw[this];refine⟨?_,?g⟩;case g=>
    have hkk:k=B.length:=by omega
    rw[bq hk]
    simp[AD,M2,hk,hb]
    rfl
theorem AXW(n:Nat)(A B:List Int)(hA:A.length<=100)(hB:B.length<=100):A5 bf kn (AG bf ann kn (n+300)) 46 [.list false (A.map HM),.list false (B.map HM)]=some (.bool (M2 A B)):=by rw[AQ rfl,AR Tryz.func46 b46 rfl (by simp[HM])];obtain⟨fr,q⟩:=AJF (n+245) A B hA hB A.length 0 (n+295) (by omega) (by omega) (by omega);simp only[List.drop_zero,bx,bz,Int.natCast_zero]at q;generalize M2 A B=b at q|-;cases b<;>(try simp at q)<;>simp[c46,AH,q]
end Go.Proofs.Tryz.Op
