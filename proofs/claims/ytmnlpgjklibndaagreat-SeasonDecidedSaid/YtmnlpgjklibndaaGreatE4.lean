/- Least. No condition. -/
import Derived.Test.YtmnlpgjklibndaaGreatE3
import Derived.Test.YtmnlpgjklibndaaGreatDd
open Go.Proofs.Tryz renaming prog->bx
open List renaming all_eq_true->bj,exists_mem_of_ne_nil->bq
set_option maxRecDepth 100000
set_option linter.unusedSimpArgs false
open Go Go.Pg Go.Proofs Go.Season
namespace Go.Proofs.Tryz.Op
theorem A2O(n:Nat)(a b:Int):AW bx kn (AH bx ann kn (n+200)) 71 [.list false [[i a],[i b]]]=some (i (if b<a then b else a)):=by rw[AO rfl,AP Tryz.func71 b71 rfl (by simp)];simp[c71,AJ,A17]
@[simp] theorem BAP:II bx 71=false:=by kernel_rfl
noncomputable def yP(c:BC):Fr:=[(16,true,.fn 114 [] [.ref (AC c)]),(15,true,.agg (AC c)),(1,true,.ptr 0 1 0 0),(5,true,.ptr 0 5 1 0)]
noncomputable def QG:Code:=.block 1 (RY 343)
@[simp] theorem uL(n:Nat)(st:XS):AH bx ann kn n 25 QG st=AH bx ann kn n 25 (.block 1 (RY 343)) st:=rfl
structure LvL(c:BC)(c1:Nat)(v:Int)(L:AA):Prop where
 p1:L.get 1=some (0,.box (AC c))
 p5:L.get 5=some (1,.box [i v])
 pr:L.get A9=some (2,.loop (yP c) [17] (RY 151) QG 25 .ready)
 st:∀t:St,1<=t.up.length->AQ t L=L
 p16:L.get 16=none
 c1:1<c1
def D5(c:BC)(v:Int)(ls:List AF):Int:=if DO c ls<v then DO c ls else v
theorem AQX(c:BC)(hb:QE c)(a0:Int):rM c (LvL c) (D5 c) a0 2 3000:=by
 intro a L L1 rest loc c1 ls hat hL hc hp hst;obtain⟨p1,p5,pr,pst,p16,pc1⟩:=hL;have h8:=hb.lines;have hl:=J5 hp;have q72:=fun n=>ACF n c ls (by omega) (by have:=hb.wl;omega) (fun l h=>⟨by have:=hb.wx l h;omega,by rw[hl];exact hb.ww l h⟩);have q71:=fun n=>A2O n a (DO c ls);have hst':=fun t h=>hst t h;simp only[List.map_cons,List.map_append,List.map_nil,List.cons.injEq]at hst';have hun:∀A:AA,CW (A::L1::(rest++[loc]))=some (A::L1::rest,loc):=fun A=>by rw[<-List.cons_append,<-List.cons_append,unsnoc_snoc]
 have hsr:∀t:St,(L1::(rest++[loc])).length+1<=t.up.length->(rest.map (AQ t)=rest/\AQ t loc=loc):=fun t h=>by have:=(hst' t h).2;exact⟨List.append_inj_left' this rfl,by simpa using List.append_inj_right' this rfl⟩
 have h1s:∀t:St,(L1::(rest++[loc])).length+1<=t.up.length->AQ t L1=L1:=fun t h=>(hst' t h).1;unfold D5;generalize (if DO c ls<a then DO c ls else a)=v at q71|-;refine⟨(A9,2,.loop (yP c) [17] (RY 151) QG 25 .ready)::(5,1,.box [i v])::(A9,2,.loop (yP c) [17] (RY 151) QG 25 .busy)::L,c1+1,?_,by omega,fun n fr=>?_⟩
 ·exact⟨by simpa [A9]using p1,by simp[A9],by simp,fun t ht=>by simp[pst t ht],by simpa [A9]using p16,by omega⟩
 ·rw[NF (by simpa using pr) rfl (by omega)];simp only[HM,Fr.put,A32,yP];simp;rw[EO (fr0:=yP c) (ps:=[17]) (asg:=(RY 151)) (body':=QG) (N:=25) (by simpa using pr) (by omega)];generalize hB:A6.loop (yP c) [17] (RY 151) QG 25 LS.busy=BB;generalize DO c ls=lv at q72 q71;have hz:0<c1:=by omega
  simp only[AC,sc]at p1 q72|-;simp[p1,p5,q72,q71,pc1,hz,AA.put,A9,AB,AM,AG,AL];subst hB;rw[EP (fr0:=yP c) (ps:=[17]) (asg:=(RY 151)) (body:=QG) (N:=25) (by simp) (hun _) (by simp) (by omega)];simp[pst,h1s,hsr,AA.put,yP,AC]
def N6(c:BC):Int:=runL (D5 c) (c.wits.length:Int) (CZ c.book)
def rS(c:BC):V:=if CB c=0 then .tup [i (N6 c),i 0] else .tup [i 0,i (CB c)]
theorem AJC(n:Nat)(c:BC):AW bx kn (AH bx ann kn (n+8000)) 24 [.agg (AC c)]=some (rS c):=by
 rw[AO rfl,AP Tryz.func24 b24 rfl (by simp[AC,AB,AM,AG,AL])];have q59:=fun n=>vH n c;unfold rS;by_cases hb:CB c=0
 ·rw[if_pos hb];rw[hb]at q59;have ok:=MJ hb;have q70:=fun n=>AC2 n c;have hL0:LvL c 3 (c.wits.length:Int) [(A9,2,.loop (yP c) [17] (RY 151) QG 25 .ready),(1,0,.box (AC c)),(5,1,.box [i (c.wits.length:Int)])] :=
   ⟨by simp[A9],by simp[A9],by simp,fun t ht=>by
    have e1:¬0=t.up.length:=by omega
    obtain⟨up,loc⟩:=t;simp only at e1;simp[AC,AB,AM,AG,AL,e1],by simp[A9],by omega⟩
  obtain⟨L',c',r1,r2,r3⟩:=ACW ok (fun c1 c2 a L h hl=>⟨hl.p1,hl.p5,hl.pr,hl.st,hl.p16,by have:=hl.c1;omega⟩) (fun c a L h=>h.st) (AQX c ok _) _ hL0 (yP c);have hk:runL (D5 c) (c.wits.length:Int) (CZ c.book)=N6 c:=rfl;rw[hk]at r1;obtain⟨p1,p5,pr,pst,p16,pc1⟩:=r1;have r3:=r3 (n+993);generalize N6 c=v at p5|-;simp only[AC,yP,Nat.add_assoc,Nat.reduceAdd]at q59 q70 r3|-;simp[c24,AJ,AB,AM,AG,AL,q59,q70,NG];rw[PP rfl];simp;rw[show(Code.block 1 (RY 343))=QG from rfl];simp only[Nat.add_assoc,Nat.reduceAdd,r3];rw[TD (fr0:=yP c) (ps:=[17]) (asg:=(RY 151)) (body:=QG) (N:=25) (by simpa using pr) (by omega)];simp[yP,p1,p5,p16,A9]
 ·rw[if_neg hb];have hd:decide (CB c=0)=false:=by simpa using hb
  simp only[AC]at q59|-;generalize CB c=A at q59 hd hb;simp[c24,AJ,q59,hd,hb,AB,AM,AG,AL]
end Go.Proofs.Tryz.Op
namespace Go.Season
def inW{β:Type}:List (List β)->List β->Prop
 |[],[]=>True
 |w::ws,x::xs=>x∈w/\inW ws xs
 |_,_=>False
theorem AC8{β:Type}:∀(ws:List (List β)) (xs:List β),ws.length=xs.length->(∀k (h:k<ws.length) (h2:k<xs.length),xs[k]∈ws[k])->inW ws xs
 |[],[],_,_=>trivial
 |[],_::_,h,_=>by simp at h
 |_::_,[],h,_=>by simp at h
 |w::ws,x::xs,hl,h=>⟨h 0 (by simp) (by simp),AC8 ws xs (by simpa using hl) fun k h1 h2=>h (k+1) (by simpa using h1) (by simpa using h2)⟩
end Go.Season
namespace Go.Proofs.Tryz.Op
theorem kZ(b:A5):∀(ws:List (List AF)) (p t:List AF),inW ws t->GA b (p++t)=true->p++t∈F4 b ws p
 |[],p,[],_,h=>by unfold F4;rw[List.append_nil]at h|-;rw[if_pos h];simp
 |[],_,_::_,h,_=>h.elim
 |_::_,_,[],h,_=>h.elim
 |w::ws,p,x::t,hi,h=>by
  unfold F4;refine List.mem_flatMap.2 ⟨x,hi.1,?_⟩;have e:p++x::t=(p++[x])++t:=by simp
  rw[e]at h|-;exact kZ b ws (p++[x]) t hi.2 h
theorem N7{b:A5}(hf:DC b=0){t:List AF}:t∈CZ b↔QU b t=true:=by
 have hp:GA b t=QU b t:=by rw[pT,hf];rfl
 constructor
 ·intro h;rw[<-hp];exact MK h
 ·intro h;rw[<-hp]at h;have hl:=J5 h;refine kZ b (AV b) [] t (AC8 _ _ (by simp[AV,hl]) fun k h1 h2=>?_) h;have hk:k<b.lines.length:=by omega
  have hd:t.getD k CX=t[k]:=by simp[List.getD_eq_getElem?_getD,h2]
  have hw:(AV b)[k]=JO b k:=by simp[AV]
  rw[hp]at h;rw[hw];unfold JO;rw[List.mem_filter,<-hd];exact⟨TH hf hk h,decide_eq_true ((fG hf).2 ⟨t,h,rfl⟩)⟩
theorem QE.fault{c:BC}(h:QE c):DC c.book=0:=by rw[<-O8];exact h.book
theorem QY(φ:List AF->Bool)(s:List AF)(S:List (List AF)):ER φ (s::S)=if (s::S).all (fun t=>φ t==φ s)=true then(if φ s=true then 1 else 2) else 3:=rfl
theorem DX{φ:List AF->Bool}{S:List (List AF)}(hne:S≠[]):ER φ S=1↔∀s∈S,φ s=true:=by
 cases S with
 |nil=>exact absurd rfl hne
 |cons s S=>
  rw[QY]
  by_cases h1:((s::S).all fun t=>φ t==φ s)=true
  ·rw[if_pos h1];have h2:=bj.1 h1;cases h:φ s with
   |true=>
    rw[h]at h2
    simp only[if_true]
    exact⟨fun _ t ht=>by simpa using h2 t ht,fun _=>trivial⟩
   |false=>
    simp only[Bool.false_eq_true,if_false]
    exact⟨fun e=>by omega,fun e=>by rw[e s (by simp)]at h;cases h⟩
  ·rw[if_neg h1];refine⟨fun e=>by omega,fun e=>absurd (bj.2 fun t ht=>?_) h1⟩;rw[e t ht,e s (by simp)];rfl
theorem DY{φ:List AF->Bool}{S:List (List AF)}(hne:S≠[]):ER φ S=2↔∀s∈S,φ s=false:=by
 cases S with
 |nil=>exact absurd rfl hne
 |cons s S=>
  rw[QY]
  by_cases h1:((s::S).all fun t=>φ t==φ s)=true
  ·rw[if_pos h1];have h2:=bj.1 h1;cases h:φ s with
   |true=>
    simp only[if_true]
    exact⟨fun e=>by omega,fun e=>by rw[e s (by simp)]at h;cases h⟩
   |false=>
    rw[h]at h2
    simp only[Bool.false_eq_true,if_false]
    exact⟨fun _ t ht=>by simpa using h2 t ht,fun _=>trivial⟩
  ·rw[if_neg h1];refine⟨fun e=>by omega,fun e=>absurd (bj.2 fun t ht=>?_) h1⟩;rw[e t ht,e s (by simp)];rfl
theorem EU(φ:List AF->Bool){S:List (List AF)}(hne:S≠[]):ER φ S=1\/ER φ S=2\/ER φ S=3:=by
 cases S with
 |nil=>exact absurd rfl hne
 |cons s S=>
  rw[QY]
  split
  ·split
   ·exact .inl rfl
   ·exact .inr (.inl rfl)
  ·exact .inr (.inr rfl)
theorem lC{φ:List AF->Bool}{S S':List (List AF)}(hne:S'≠[])(hs:∀s∈S',s∈S)(h3:ER φ S≠3):ER φ S'=ER φ S:=by
 have hS:S≠[]:=fun e=>by obtain⟨x,hx⟩:=bq _ hne;have:=hs x hx;rw[e]at this;cases this
 rcases EU φ hS with h|h|h
 ·rw[h];exact(DX hne).2 fun s hm=>(DX hS).1 h s (hs s hm)
 ·rw[h];exact(DY hne).2 fun s hm=>(DY hS).1 h s (hs s hm)
 ·exact absurd h h3
theorem lD{φ:List AF->Bool}{S S':List (List AF)}(h:∀s,s∈S↔s∈S'):ER φ S'=ER φ S:=by
 by_cases hS:S=[]
 ·have:S'=[]:=by
   cases S' with
   |nil=>rfl
   |cons x X=>have:=(h x).2 (by simp);rw[hS]at this;cases this
  rw[hS,this]
 ·have hS':S'≠[]:=fun e=>by obtain⟨x,hx⟩:=bq _ hS;have:=(h x).1 hx;rw[e]at this;cases this
  by_cases h3:ER φ S=3
  ·by_cases h4:ER φ S'=3
   ·rw[h3,h4]
   ·exact(lC hS (fun s hm=>(h s).1 hm) h4).symm
  ·exact lC hS' (fun s hm=>(h s).2 hm) h3
theorem AQY(c:BC):∀(l:List (List AF)) (v:Int),runL (D5 c) v l<=v/\(∀s∈l,runL (D5 c) v l<=DO c s)/\(runL (D5 c) v l=v\/∃s∈l,DO c s=runL (D5 c) v l)
 |[],v=>⟨Int.le_refl _,fun s h=>(by cases h),.inl rfl⟩
 |x::l,v=>by
  obtain⟨h1,h2,h3⟩:=AQY c l (D5 c v x);have e:runL (D5 c) v (x::l)=runL (D5 c) (D5 c v x) l:=rfl;have hx:D5 c v x<=v/\D5 c v x<=DO c x/\(D5 c v x=v\/D5 c v x=DO c x):=by
   unfold D5;split
   ·exact⟨by omega,by omega,.inr rfl⟩
   ·exact⟨by omega,by omega,.inl rfl⟩
  rw[e];refine⟨by omega,fun s hs=>?_,?_⟩
  ·rcases List.mem_cons.1 hs with rfl|hs
   ·omega
   ·exact h2 s hs
  ·rcases h3 with h3|⟨s,hs,h3⟩
   ·rcases hx.2.2 with h4|h4
    ·exact .inl (h3.trans h4)
    ·exact .inr ⟨x,by simp,by rw[h3,h4]⟩
   ·exact .inr ⟨s,by simp[hs],h3⟩
theorem X0(k:IntKind)(n:Int):J9 bx 5 3 (.int k n)=some (.int .i64 (IntKind.i64.wrap n)):=by kernel_rfl
theorem AJD(k:IntKind)(n:Int):J9 bx 78 3 (.int k n)=some (.int .i64 (IntKind.i64.wrap n)):=by unfold J9;simp
def TU(c:BC):Bool:=RO c&&decide (CB c=0)
theorem vW(n:Nat)(c:BC):AW bx kn (AH bx ann kn (n+5300)) 45 [.agg (AC c)]=some (.bool (TU c)):=by
 rw[AO rfl,AP Tryz.func45 b45 rfl (by simp[AC,AB,AM,AG,AL])];have qT:=fun n=>rL n c;unfold TU;cases ht:RO c with
 |false=>
  rw[ht]at qT
  simp only[AC]at qT|-
  simp[c45,AJ,qT,AB,AM,AG,AL]
 |true=>
  obtain⟨t1,t2,t3,t4,t5⟩:=LJ ht
  have qF:=fun n=>vP n c (by omega) (by omega) (fun l hl=>by have:=t5 l hl;omega)
  rw[ht]at qT
  generalize CB c=e at qF|-
  simp only[AC]at qT qF|-
  simp[c45,AJ,qT,qF,AB,AM,AG,AL]
def I0(c:BC):List Int:=if DV c true=0 then ML c else[]
def QZ(c:BC):List Int:=if DV c true=0 then XZ c else[]
theorem Q0(c:BC):WL c=.tup [sl ((I0 c).map BM),i (DV c true)]:=by
 unfold WL I0;split
 ·rename_i h;rw[h]
 ·rfl
theorem dD(c:BC):fW c=.tup [sl ((QZ c).map BM),i (DV c true)]:=by
 unfold fW QZ;split
 ·rename_i h;rw[h]
 ·rfl
theorem AC9{c:BC}(h:TU c=true):RO c=true/\CB c=0/\QE c:=by simp only[TU,Bool.and_eq_true,decide_eq_true_eq]at h;exact⟨h.1,h.2,MJ h.2⟩
theorem HD{c:BC}(h:CB c=0):DV c true=if AR c=[] then 11 else 0:=by simp[DV,h]
end Go.Proofs.Tryz.Op
