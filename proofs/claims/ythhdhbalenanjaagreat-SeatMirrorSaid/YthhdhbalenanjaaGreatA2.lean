/- Allowed seatings, told by their members; the best one. No program in sight. -/
import Derived.Test.YthhdhbalenanjaaGreatS3
open List renaming getD_eq_getElem?_getD->bj,getElem?_range->bq,getElem?_map->bw,pairwise_cons->bx,mem_range->bz,mem_singleton->bf,range->bg,mem_cons->bh,map_cons->bm,map_map->bn,mem_map->bp
open Bool renaming and_eq_true->bk
open Option renaming getD_some->bb,map_some->bc
set_option maxRecDepth 100000
namespace Go.Wind
def grp(x:Sp):Nat×Int:=(x.fam,x.size)
theorem U7{c:AR}{sure:List (List Int)}:∀{gs:List (Nat×Int)} {out l:List Sp},l∈FC c sure gs out↔∃r,l=out++r/\r.map grp=gs/\N5 c out r=true/\∀x∈r,(BI c sure x).enough=true
 |[],out,l=>by
  simp only[FC,bf];constructor
  ·rintro rfl;exact⟨[],by simp,rfl,rfl,by simp⟩
  ·rintro ⟨r,rfl,h,_,_⟩;rw[List.map_eq_nil_iff]at h;subst h;simp
 |g::gs,out,l=>by
  simp only[FC,List.mem_flatMap,bz];constructor
  ·rintro ⟨r,hr,p,hp,h⟩;split at h
   ·rename_i hz;simp only[bk]at hz;obtain⟨q,rfl,h1,h2,h3⟩:=U7.1 h;refine⟨⟨g.1,g.2,(r:Int),(p:Int)⟩::q,by simp,by simp[grp,h1],?_,?_⟩
    ·simp only[N5,bk];refine⟨⟨?_,hz.2⟩,h2⟩;simp only[JL,bk,BU];omega
    ·intro x hx;rcases bh.1 hx with rfl|hx
     ·exact hz.1
     ·exact h3 x hx
   ·cases h
  ·rintro ⟨q,rfl,h1,h2,h3⟩;cases q with
   |nil=>cases h1
   |cons x q=>
    simp only[bm,List.cons.injEq]at h1
    obtain⟨rfl,h1⟩:=h1
    simp only[N5,bk]at h2
    have hf:=h2.1.1
    simp only[JL,bk,BU]at hf
    have e1:((x.row.toNat:Nat):Int)=x.row:=by omega
    have e2:((x.place.toNat:Nat):Int)=x.place:=by omega
    refine⟨x.row.toNat,by omega,x.place.toNat,by simp only[grp];omega,?_⟩
    simp only[grp,e1,e2]
    rw[if_pos (by rw[h3 x (by simp),h2.1.2];rfl)]
    exact U7.2 ⟨q,by simp,h1,h2.2,fun y hy=>h3 y (by simp[hy])⟩
def DK(gs:List (Nat×Int)):Int:=(gs.map (·.2)).sum
def LG(c:AR)(sure:List (List Int))(gs:List (Nat×Int)):List (List Sp):=if (EZ c:Int)<DK gs then[] else FC c sure gs []
structure OkS(c:AR)(sure:List (List Int))(gs:List (Nat×Int))(l:List Sp):Prop where
 gr:l.map grp=gs
 go:N5 c [] l=true
 pe:U6 l<=EZ c
 en:∀x∈l,(BI c sure x).enough=true
theorem MK(l:List Sp):U6 l=DK (l.map grp):=by unfold U6 DK;rw[bn];rfl
theorem XU{c:AR}{sure:List (List Int)}{gs:List (Nat×Int)}{l:List Sp}:l∈LG c sure gs↔OkS c sure gs l:=by
 unfold LG;by_cases h:(EZ c:Int)<DK gs
 ·rw[if_pos h];refine⟨fun hh=>(by cases hh),fun hh=>?_⟩;have:=hh.pe;rw[MK,hh.gr]at this;omega
 ·rw[if_neg h,U7];constructor
  ·rintro ⟨r,e,h1,h2,h3⟩;rw[List.nil_append]at e;subst e;refine⟨h1,h2,?_,h3⟩;rw[MK,h1];omega
  ·rintro ⟨h1,h2,_,h3⟩;exact⟨l,rfl,h1,h2,h3⟩
def J3(c:AR)(sure:List (List Int))(gs:List (Nat×Int)):Bool:=!(LG c sure gs).isEmpty
theorem gK{c:AR}{sure:List (List Int)}{gs:List (Nat×Int)}:J3 c sure gs=true↔∃l,OkS c sure gs l:=by
 unfold J3;constructor
 ·intro h;cases hl:LG c sure gs with
  |nil=>rw[hl]at h;cases h
  |cons l r=>exact⟨l,XU.1 (by rw[hl];simp)⟩
 ·rintro ⟨l,hl⟩;have:=XU.2 hl;cases hz:LG c sure gs with
  |nil=>rw[hz]at this;cases this
  |cons a r=>rfl
def uU(a b:B0):Prop:=b.sun<a.sun\/b.sun=a.sun/\a.carried<=b.carried
theorem R7(a:B0):uU a a:=.inr ⟨rfl,Int.le_refl _⟩
theorem dY{a b d:B0}(h1:uU a b)(h2:uU b d):uU a d:=by unfold uU at *;omega
theorem uV{c:AR}{sure:List (List Int)}:∀(ls:List (List Sp)) (acc:Option (List Sp×B0)),match ls.foldl (EE c sure) acc with
  |some (_,t)=>(∀l∈ls,uU t (E0 c sure l))/\∀b u,acc=some (b,u)->uU t u
  |none=>True
 |[],acc=>by
  cases acc with
  |none=>trivial
  |some bt=>
   refine⟨fun l hl=>(by cases hl),fun b u h=>?_⟩
   cases h
   exact R7 _
 |l::ls,acc=>by
  have ih:=uV (c:=c) (sure:=sure) ls (EE c sure acc l);simp only[List.foldl_cons];have hstep:∃b t,EE c sure acc l=some (b,t)/\uU t (E0 c sure l)/\∀b' u,acc=some (b',u)->uU t u:=by
   cases acc with
   |none=>exact⟨l,_,rfl,R7 _,fun b' u h=>(by cases h)⟩
   |some bt=>
    obtain⟨b,t⟩:=bt
    simp only[EE]
    split
    ·rename_i h;refine⟨b,t,rfl,?_,fun b' u h=>?_⟩
     ·unfold uU;omega
     ·cases h;exact R7 _
    ·rename_i h;refine⟨l,_,rfl,R7 _,fun b' u h2=>?_⟩;cases h2;unfold uU;omega
  obtain⟨b,t,e,g1,g2⟩:=hstep;rw[e]at ih|-;generalize ls.foldl (EE c sure) (some (b,t))=R at ih|-;cases R with
  |none=>trivial
  |some q=>
   obtain⟨b2,t2⟩:=q
   simp only at ih|-
   obtain⟨h1,h2⟩:=ih
   have h3:=h2 b t rfl
   refine⟨fun x hx=>?_,fun b' u h=>dY h3 (g2 b' u h)⟩
   rcases bh.1 hx with rfl|hx
   ·exact dY h3 g1
   ·exact h1 x hx
theorem dZ{c:AR}{sure:List (List Int)}{ls:List (List Sp)}{b:List Sp}{t:B0}(h:QP c sure ls=some (b,t)):b∈ls/\t=E0 c sure b/\∀l∈ls,uU t (E0 c sure l):=by
 have h1:=YH (c:=c) (sure:=sure) ls none;have h2:=uV (c:=c) (sure:=sure) ls none;have h:ls.foldl (EE c sure) none=_:=h;rw[h]at h1 h2;simp only at h1 h2;rcases h1 with⟨a1,a2⟩|a
 ·exact⟨a1,a2,h2.1⟩
 ·cases a
theorem yG{c:AR}{sure:List (List Int)}{ls:List (List Sp)}:QP c sure ls=none↔ls=[]:=by
 constructor
 ·intro h;have h1:=YH (c:=c) (sure:=sure) ls none;have h:ls.foldl (EE c sure) none=_:=h;rw[h]at h1;exact h1.1
 ·rintro rfl;rfl
theorem kJ(c:AR)(sure:List (List Int)):∀(l:List Sp) (t:B0),l.foldl (fun t x=>let s:=BI c sure x;⟨t.sun+s.sun,t.carried+s.carried,t.enough&&s.enough⟩) t=⟨t.sun+(l.map fun x=>(BI c sure x).sun).sum,t.carried+(l.map fun x=>(BI c sure x).carried).sum,t.enough&&l.all fun x=>(BI c sure x).enough⟩
 |[],t=>by simp
 |x::l,t=>by rw[List.foldl_cons,kJ c sure l];simp only[bm,List.sum_cons,List.all_cons,Int.add_assoc,Bool.and_assoc]
theorem pZ(c:AR)(sure:List (List Int))(l:List Sp):E0 c sure l=⟨(l.map fun x=>(BI c sure x).sun).sum,(l.map fun x=>(BI c sure x).carried).sum,l.all fun x=>(BI c sure x).enough⟩:=by unfold E0;rw[kJ];simp
theorem gL{α:Type}{f:α->Int}{m:Int}:∀{l:List α},(∀x∈l,0<=f x/\f x<=m)->0<=(l.map f).sum/\(l.map f).sum<=l.length*m
 |[],_=>by simp
 |x::l,h=>by
  have ih:=gL (l:=l) (f:=f) (m:=m) fun y hy=>h y (by simp[hy]);have:=h x (by simp);simp only[bm,List.sum_cons,List.length_cons];have e:((l.length+1:Nat):Int)*m=l.length*m+m:=by rw[Int.natCast_add,Int.add_mul];simp
  omega
theorem U8{c:AR}:∀{l before:List Sp},N5 c before l=true↔(∀x∈l,JL c x=true)/\(∀x∈l,∀y∈before,FO c x y=true)/\l.Pairwise (fun y x=>FO c x y=true)
 |[],before=>by simp[N5]
 |x::l,before=>by
  simp only[N5,bk,List.all_eq_true,U8 (l:=l) (before:=before++[x]),List.mem_append,bh,List.not_mem_nil,or_false,bx];constructor
  ·rintro ⟨⟨h1,h2⟩,h3,h4,h5⟩;refine⟨fun y hy=>?_,fun y hy z hz=>?_,fun y hy=>h4 y hy x (.inr rfl),h5⟩
   ·rcases hy with rfl|hy
    ·exact h1
    ·exact h3 y hy
   ·rcases hy with rfl|hy
    ·exact h2 z hz
    ·exact h4 y hy z (.inl hz)
  ·rintro ⟨h1,h2,h3,h4⟩;refine⟨⟨h1 x (.inl rfl),fun z hz=>h2 x (.inl rfl) z hz⟩,fun y hy=>h1 y (.inr hy),fun y hy z hz=>?_,h4⟩;rcases hz with hz|rfl
   ·exact h2 y (.inr hy) z hz
   ·exact h3 y hy
theorem gM{c:AR}{sure:List (List Int)}{gs:List (Nat×Int)}{l:List Sp}:OkS c sure gs l↔l.map grp=gs/\(∀x∈l,JL c x=true/\(BI c sure x).enough=true)/\l.Pairwise (fun y x=>FO c x y=true)/\U6 l<=EZ c:=by
 constructor
 ·rintro ⟨h1,h2,h3,h4⟩;obtain⟨g1,_,g3⟩:=U8.1 h2;exact⟨h1,fun x hx=>⟨g1 x hx,h4 x hx⟩,g3,h3⟩
 ·rintro ⟨h1,h2,h3,h4⟩;exact⟨h1,U8.2 ⟨fun x hx=>(h2 x hx).1,fun x _ y hy=>(by cases hy),h3⟩,h4,fun x hx=>(h2 x hx).2⟩
theorem ACA{α:Type}{R S:α->α->Prop}:∀{l:List α},(∀x∈l,∀y∈l,R x y->S x y)->l.Pairwise R->l.Pairwise S
 |[],_,_=>.nil
 |x::l,h,hp=>by obtain⟨h1,h2⟩:=bx.1 hp;exact bx.2 ⟨fun y hy=>h x (by simp) y (by simp[hy]) (h1 y hy),ACA (fun a ha b hb=>h a (by simp[ha]) b (by simp[hb])) h2⟩
theorem OkS.mapS{c d:AR}{sure sure':List (List Int)}{gs:List (Nat×Int)}{l:List Sp}(h:OkS c sure gs l)(f:Sp->Sp)(h1:∀x∈l,JL c x=true->(BI c sure x).enough=true->JL d (f x)=true/\(BI d sure' (f x)).enough=true)(h2:∀x∈l,∀y∈l,FO c x y=true->FO d (f x) (f y)=true)(h3:U6 (l.map f)<=EZ d):OkS d sure' ((l.map f).map grp) (l.map f):=by
 obtain⟨_,g2,g3,_⟩:=gM.1 h;refine gM.2 ⟨rfl,fun x hx=>?_,?_,h3⟩
 ·obtain⟨y,hy,rfl⟩:=bp.1 hx;exact h1 y hy (g2 y hy).1 (g2 y hy).2
 ·rw[List.pairwise_map];exact ACA (fun x hx y hy e=>h2 y hy x hx e) g3
end Go.Wind
open Go Go.Pg Go.Proofs Go.Wind
namespace Go.Wind
theorem XV{c:AR}{x:Sp}(h:JL c x=true):0<=x.row/\x.row<c.beach.rows/\0<=x.place/\x.place+x.size<=c.beach.places:=by simp only[JL,bk,BU]at h;omega
end Go.Wind
namespace Go.Proofs.Tryz.Op
def kK(c:AR)(r p:Nat):Int:=(vQ c.beach c.plan r p).1
theorem qD{c:AR}(hc:B7 c):FH c.beach [] c.beach.winds []≠[]:=fun e=>hc.tr (MM.1 (by rw[e];rfl))
theorem kL{c:AR}(hc:B7 c){r p:Nat}(hr:r<c.beach.rows.toNat)(hp:p<c.beach.places.toNat):EM (AU c) r p=kK c r p:=by
 have hpl:=hc.be.pl;unfold EM AU EY;rw[bj,bj,bn,bw,Int.toNat_natCast,Int.toNat_natCast,bq hr];simp only[bc,bb,Function.comp_apply];have hl:(NL c.beach (E1 c.beach) c.plan r).length=c.beach.places.toNat:=by simp[NL]
 unfold ER;rw[bw,bq (by omega)];simp only[bc,bb];rw[if_pos (by omega),bj];unfold NL;rw[bw,bq hp];simp only[bc,bb,pM];rw[<-Q9 hc.be (WK hc.be (qD hc))];rfl
theorem YL{c:AR}(hc:B7 c)(r p:Nat):IZ (BQ c.beach) (fun t=>(E3 c.beach c.plan t r p).good) (kK c r p):=by have ha:=WK hc.be (qD hc);unfold kK;rw[Q9 hc.be ha];exact(lK hc.be ha c.plan r p).1
theorem ACB{c:AR}(hc:B7 c)(r p:Nat):0<=kK c r p/\kK c r p<=5:=by obtain⟨t,ht,e⟩:=(YL hc r p).2;have h1:=eM c.beach c.plan t r p;have h2:=eL hc.be ht;omega
theorem kM{c:AR}(hc:B7 c):∀l∈AU c,l.length=5/\∀x∈l,0<=x/\x<=5:=fun l hl=>by
 have hpl:=hc.be.pl;simp only[AU,EY,bn,bp,bz]at hl;obtain⟨r,hr,rfl⟩:=hl;refine⟨by simp[ER],fun x hx=>?_⟩;simp only[Function.comp_apply,ER,bp,bz]at hx;obtain⟨p,hp,rfl⟩:=hx;have hl:(NL c.beach (E1 c.beach) c.plan r).length=c.beach.places.toNat:=by simp[NL]
 by_cases h:p<(NL c.beach (E1 c.beach) c.plan r).length
 ·rw[if_pos h,bj];have hp:p<c.beach.places.toNat:=by omega
  unfold NL;rw[bw,bq hp];simp only[bc,bb,pM];rw[<-Q9 hc.be (WK hc.be (qD hc))];exact ACB hc r p
 ·rw[if_neg h];decide
theorem yH{c:AR}:(AU c).length=c.beach.rows.toNat:=by simp[AU,EY]
end Go.Proofs.Tryz.Op
namespace Go.Wind
def LeS(c:AR)(s u:List (List Int)):Prop:=∀r p:Nat,r<c.beach.rows.toNat->p<c.beach.places.toNat->EM s r p<=EM u r p
structure Eas(c d:AR)(s u:List (List Int))(gs:List (Nat×Int))(f:Nat->Nat):Prop where
 ro:d.beach.rows=c.beach.rows
 pl:d.beach.places=c.beach.places
 su:LeS c s u
 go:∀g∈gs,(CK d (f g.1)).good<=(CK c g.1).good
 mi:∀g∈gs,∀k∈gs,R3 d (f g.1) (f k.1)=true->R3 c g.1 k.1=true
 ch:EZ c<=EZ d
def J4(n:Nat)(out:List Int):List Nat:=(bg n).filter fun k=>!decide ((k:Int)∈out)
theorem qE(n:Nat)(out:List Int):J4 (n+1) out=J4 n out++if (n:Int)∈out then[] else[n]:=by unfold J4;rw[List.range_succ,List.filter_append];congr 1;by_cases h:(n:Int)∈out<;>simp[h]
theorem yI(n:Nat):J4 n []=bg n:=by unfold J4;simp
def N6(c:AR)(out:List Int):AR:={ c with fams:=(J4 c.fams.length out).map (CK c) }
end Go.Wind
namespace Go.Proofs.Tryz.Op
theorem WN(c:AR)(out:List Int):∀k,CV c.fams out k=(J4 k out).map fun j=>(j,(CK c j).size)
 |0=>rfl
 |k+1=>by
  rw[qE,List.map_append,<-WN c out k];show CV c.fams out k++_=_;congr 1;by_cases h:(k:Int)∈out
  ·simp[h]
  ·simp[h,CK]
theorem JO(c:AR)(out:List Int):AV c out=(J4 c.fams.length out).map fun j=>(j,(CK c j).size):=WN c out _
def spt(x:Sp):Int×Int:=(x.row,x.place)
theorem qH(c:AR):AV c []=(bg c.fams.length).map fun j=>(j,(CK c j).size):=by rw[JO,yI]
def GZ(c:AR):Option (List Sp×B0):=QP c (AU c) (LG c (AU c) (AV c []))
def FD(c:AR):List (Int×Int)×Int×Int×Int:=if B5 c≠0 then([],0,0,B5 c) else match GZ c with
 |some q=>(q.1.map spt,q.2.sun,q.2.carried,0)
 |none=>([],0,0,10)
def FP(c:AR)(out:List Int):Bool:=J3 c (AU c) (AV c out)
def FZ(c:AR):List Int×Int:=if B5 c≠0 then([],B5 c) else((Q3 (FP c) c.fams.length).getD [],0)
def FI(c:AR)(k:Nat):Bool:=(bg ((CK c k).size / 2).toNat).any fun n=>J3 c (AU c) (AV c [(k:Int)]++[(k,(n:Int)+1),(k,(CK c k).size-((n:Int)+1))])
def JD(c:AR):List Int×Int:=if B5 c≠0 then([],B5 c) else if FP c []=true then([],7) else(((bg c.fams.length).filter (FI c)).map fun (k:Nat)=>(k:Int),0)
theorem ACC(c:AR)(s:List (List Int)):J3 c s []=true:=gK.2 ⟨[],rfl,rfl,by simp[U6],by simp⟩
theorem eA{n:Nat}{out:List Int}(h:∀k:Nat,k<n->(k:Int)∈out):J4 n out=[]:=by unfold J4;rw[List.filter_eq_nil_iff];intro k hk;simp[h k (bz.1 hk)]
theorem R8{x k:Nat}:∀{N:Nat},(k:Int)∈E8 x N↔k<N/\x.testBit k=true
 |0=>by simp[E8]
 |N+1=>by
  rw[IG];split
  ·rename_i h;rw[List.mem_append,R8,bf];constructor
   ·rintro (⟨h1,h2⟩|e)
    ·exact⟨by omega,h2⟩
    ·have:k=N:=by omega
     subst this;exact⟨by omega,h⟩
   ·rintro ⟨h1,h2⟩;by_cases e:k=N
    ·exact .inr (by rw[e])
    ·exact .inl ⟨by omega,h2⟩
  ·rename_i h;rw[R8];constructor
   ·rintro ⟨h1,h2⟩;exact⟨by omega,h2⟩
   ·rintro ⟨h1,h2⟩;refine⟨?_,h2⟩;by_cases e:k=N
    ·subst e;exact absurd h2 h
    ·omega
theorem ACD(c:AR):FP c (E8 (2 ^ c.fams.length-1) c.fams.length)=true:=by unfold FP;rw[JO,eA fun k hk=>R8.2 ⟨hk,by rw[Nat.testBit_two_pow_sub_one];exact decide_eq_true hk⟩];exact ACC _ _
theorem WO(c:AR):∃y,Q3 (FP c) c.fams.length=some y/\dX (FP c) c.fams.length y:=by have e:=AB8 (ACD c);have h:=YK (FP c) c.fams.length;rw[e]at h;exact⟨_,e,h⟩
end Go.Proofs.Tryz.Op
