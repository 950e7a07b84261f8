/- Allowed seatings, told by their members; the best one. No program in sight. -/
import Derived.Test.YthhdhbalenanjaaGreatS3
open List renaming getD_eq_getElem?_getD->bj,getElem?_range->bq,getElem?_map->bw,all_eq_true->bx,mem_range->bz,map_map->bc,map_cons->bf,range->bg,pairwise_cons->bh,getElem?_eq_getElem->bm,sum_cons->bp,map_congr_left->ck,mem_singleton->cq,mem_cons->cw,mem_map->cz
open Bool renaming and_eq_true->bk
open Int renaming toNat_natCast->bb,le_refl->cx
open Option renaming getD_some->bn,map_some->cj
set_option maxRecDepth 100000
namespace Go.Wind
def ZX(x:Sp):Nat×Int:=(x.fam,x.size)
theorem WC{c:AO}{sure:List (List Int)}:∀{gs:List (Nat×Int)} {out l:List Sp},l∈FU c sure gs out↔∃r,l=out++r/\r.map ZX=gs/\FK c out r=true/\∀x∈r,(BM c sure x).enough=true
 |[],out,l=>by
  simp only[FU,cq];constructor
  ·rintro rfl;exact⟨[],by simp,rfl,rfl,by simp⟩
  ·rintro ⟨r,rfl,h,_,_⟩;rw[List.map_eq_nil_iff]at h;subst h;simp
 |g::gs,out,l=>by
  simp only[FU,List.mem_flatMap,bz];constructor
  ·rintro ⟨r,hr,p,hp,h⟩;split at h
   ·rename_i hz;simp only[bk]at hz;obtain⟨q,rfl,h1,h2,h3⟩:=WC.1 h;refine⟨⟨g.1,g.2,(r:Int),(p:Int)⟩::q,by simp,by simp[ZX,h1],?_,?_⟩
    ·simp only[FK,bk];refine⟨⟨?_,hz.2⟩,h2⟩;simp only[DN,bk,DU];omega
    ·intro x hx;rcases cw.1 hx with rfl|hx
     ·exact hz.1
     ·exact h3 x hx
   ·cases h
  ·rintro ⟨q,rfl,h1,h2,h3⟩;cases q with
   |nil=>cases h1
   |cons x q=>
    simp only[bf,List.cons.injEq]at h1
    obtain⟨rfl,h1⟩:=h1
    simp only[FK,bk]at h2
    have hf:=h2.1.1
    simp only[DN,bk,DU]at hf
    have e1:((x.row.toNat:Nat):Int)=x.row:=by omega
    have e2:((x.place.toNat:Nat):Int)=x.place:=by omega
    refine⟨x.row.toNat,by omega,x.place.toNat,by simp only[ZX];omega,?_⟩
    simp only[ZX,e1,e2]
    rw[if_pos (by rw[h3 x (by simp),h2.1.2];rfl)]
    exact WC.2 ⟨q,by simp,h1,h2.2,fun y hy=>h3 y (by simp[hy])⟩
def D5(gs:List (Nat×Int)):Int:=(gs.map (·.2)).sum
def YX(c:AO)(sure:List (List Int))(gs:List (Nat×Int)):List (List Sp):=if (EC c:Int)<D5 gs then[] else FU c sure gs []
structure mM(c:AO)(sure:List (List Int))(gs:List (Nat×Int))(l:List Sp):Prop where
 gr:l.map ZX=gs
 go:FK c [] l=true
 pe:FT l<=EC c
 en:∀x∈l,(BM c sure x).enough=true
theorem ZY(l:List Sp):FT l=D5 (l.map ZX):=by unfold FT D5;rw[bc];rfl
theorem QD{c:AO}{sure:List (List Int)}{gs:List (Nat×Int)}{l:List Sp}:l∈YX c sure gs↔mM c sure gs l:=by
 unfold YX;by_cases h:(EC c:Int)<D5 gs
 ·rw[if_pos h];refine⟨fun hh=>(by cases hh),fun hh=>?_⟩;have:=hh.pe;rw[ZY,hh.gr]at this;omega
 ·rw[if_neg h,WC];constructor
  ·rintro ⟨r,e,h1,h2,h3⟩;rw[List.nil_append]at e;subst e;refine⟨h1,h2,?_,h3⟩;rw[ZY,h1];omega
  ·rintro ⟨h1,h2,_,h3⟩;exact⟨l,rfl,h1,h2,h3⟩
def YY(c:AO)(sure:List (List Int))(gs:List (Nat×Int)):Bool:=!(YX c sure gs).isEmpty
theorem TH{c:AO}{sure:List (List Int)}{gs:List (Nat×Int)}:YY c sure gs=true↔∃l,mM c sure gs l:=by
 unfold YY;constructor
 ·intro h;cases hl:YX c sure gs with
  |nil=>rw[hl]at h;cases h
  |cons l r=>exact⟨l,QD.1 (by rw[hl];simp)⟩
 ·rintro ⟨l,hl⟩;have:=QD.2 hl;cases hz:YX c sure gs with
  |nil=>rw[hz]at this;cases this
  |cons a r=>rfl
def geS(a b:CE):Prop:=b.sun<a.sun\/b.sun=a.sun/\a.carried<=b.carried
theorem TI(a:CE):geS a a:=.inr ⟨rfl,cx _⟩
theorem gN{a b d:CE}(h1:geS a b)(h2:geS b d):geS a d:=by unfold geS at *;omega
theorem xC{c:AO}{sure:List (List Int)}:∀(ls:List (List Sp)) (acc:Option (List Sp×CE)),match ls.foldl (EP c sure) acc with
  |some (_,t)=>(∀l∈ls,geS t (EN c sure l))/\∀b u,acc=some (b,u)->geS t u
  |none=>True
 |[],acc=>by
  cases acc with
  |none=>trivial
  |some bt=>
   refine⟨fun l hl=>(by cases hl),fun b u h=>?_⟩
   cases h
   exact TI _
 |l::ls,acc=>by
  have ih:=xC (c:=c) (sure:=sure) ls (EP c sure acc l);simp only[List.foldl_cons];have hstep:∃b t,EP c sure acc l=some (b,t)/\geS t (EN c sure l)/\∀b' u,acc=some (b',u)->geS t u:=by
   cases acc with
   |none=>exact⟨l,_,rfl,TI _,fun b' u h=>(by cases h)⟩
   |some bt=>
    obtain⟨b,t⟩:=bt
    simp only[EP]
    split
    ·rename_i h;refine⟨b,t,rfl,?_,fun b' u h=>?_⟩
     ·unfold geS;omega
     ·cases h;exact TI _
    ·rename_i h;refine⟨l,_,rfl,TI _,fun b' u h2=>?_⟩;cases h2;unfold geS;omega
  obtain⟨b,t,e,g1,g2⟩:=hstep;rw[e]at ih|-;generalize ls.foldl (EP c sure) (some (b,t))=R at ih|-;cases R with
  |none=>trivial
  |some q=>
   obtain⟨b2,t2⟩:=q
   simp only at ih|-
   obtain⟨h1,h2⟩:=ih
   have h3:=h2 b t rfl
   refine⟨fun x hx=>?_,fun b' u h=>gN h3 (g2 b' u h)⟩
   rcases cw.1 hx with rfl|hx
   ·exact gN h3 g1
   ·exact h1 x hx
theorem WD{c:AO}{sure:List (List Int)}{ls:List (List Sp)}{b:List Sp}{t:CE}(h:AEO c sure ls=some (b,t)):b∈ls/\t=EN c sure b/\∀l∈ls,geS t (EN c sure l):=by
 have h1:=ZS (c:=c) (sure:=sure) ls none;have h2:=xC (c:=c) (sure:=sure) ls none;have h:ls.foldl (EP c sure) none=_:=h;rw[h]at h1 h2;simp only at h1 h2;rcases h1 with⟨a1,a2⟩|a
 ·exact⟨a1,a2,h2.1⟩
 ·cases a
theorem AA9{c:AO}{sure:List (List Int)}{ls:List (List Sp)}:AEO c sure ls=none↔ls=[]:=by
 constructor
 ·intro h;have h1:=ZS (c:=c) (sure:=sure) ls none;have h:ls.foldl (EP c sure) none=_:=h;rw[h]at h1;exact h1.1
 ·rintro rfl;rfl
theorem mY(c:AO)(sure:List (List Int)):∀(l:List Sp) (t:CE),l.foldl (fun t x=>let s:=BM c sure x;⟨t.sun+s.sun,t.carried+s.carried,t.enough&&s.enough⟩) t=⟨t.sun+(l.map fun x=>(BM c sure x).sun).sum,t.carried+(l.map fun x=>(BM c sure x).carried).sum,t.enough&&l.all fun x=>(BM c sure x).enough⟩
 |[],t=>by simp
 |x::l,t=>by rw[List.foldl_cons,mY c sure l];simp only[bf,bp,List.all_cons,Int.add_assoc,Bool.and_assoc]
theorem jU(c:AO)(sure:List (List Int))(l:List Sp):EN c sure l=⟨(l.map fun x=>(BM c sure x).sun).sum,(l.map fun x=>(BM c sure x).carried).sum,l.all fun x=>(BM c sure x).enough⟩:=by unfold EN;rw[mY];simp
theorem jV{α:Type}{f:α->Int}{m:Int}:∀{l:List α},(∀x∈l,0<=f x/\f x<=m)->0<=(l.map f).sum/\(l.map f).sum<=l.length*m
 |[],_=>by simp
 |x::l,h=>by
  have ih:=jV (l:=l) (f:=f) (m:=m) fun y hy=>h y (by simp[hy]);have:=h x (by simp);simp only[bf,bp,List.length_cons];have e:((l.length+1:Nat):Int)*m=l.length*m+m:=by rw[Int.natCast_add,Int.add_mul];simp
  omega
theorem WE{c:AO}:∀{l before:List Sp},FK c before l=true↔(∀x∈l,DN c x=true)/\(∀x∈l,∀y∈before,E1 c x y=true)/\l.Pairwise (fun y x=>E1 c x y=true)
 |[],before=>by simp[FK]
 |x::l,before=>by
  simp only[FK,bk,bx,WE (l:=l) (before:=before++[x]),List.mem_append,cw,List.not_mem_nil,or_false,bh];constructor
  ·rintro ⟨⟨h1,h2⟩,h3,h4,h5⟩;refine⟨fun y hy=>?_,fun y hy z hz=>?_,fun y hy=>h4 y hy x (.inr rfl),h5⟩
   ·rcases hy with rfl|hy
    ·exact h1
    ·exact h3 y hy
   ·rcases hy with rfl|hy
    ·exact h2 z hz
    ·exact h4 y hy z (.inl hz)
  ·rintro ⟨h1,h2,h3,h4⟩;refine⟨⟨h1 x (.inl rfl),fun z hz=>h2 x (.inl rfl) z hz⟩,fun y hy=>h1 y (.inr hy),fun y hy z hz=>?_,h4⟩;rcases hz with hz|rfl
   ·exact h2 y (.inr hy) z hz
   ·exact h3 y hy
theorem ZB{c:AO}{sure:List (List Int)}{gs:List (Nat×Int)}{l:List Sp}:mM c sure gs l↔l.map ZX=gs/\(∀x∈l,DN c x=true/\(BM c sure x).enough=true)/\l.Pairwise (fun y x=>E1 c x y=true)/\FT l<=EC c:=by
 constructor
 ·rintro ⟨h1,h2,h3,h4⟩;obtain⟨g1,_,g3⟩:=WE.1 h2;exact⟨h1,fun x hx=>⟨g1 x hx,h4 x hx⟩,g3,h3⟩
 ·rintro ⟨h1,h2,h3,h4⟩;exact⟨h1,WE.2 ⟨fun x hx=>(h2 x hx).1,fun x _ y hy=>(by cases hy),h3⟩,h4,fun x hx=>(h2 x hx).2⟩
theorem AES{α:Type}{R S:α->α->Prop}:∀{l:List α},(∀x∈l,∀y∈l,R x y->S x y)->l.Pairwise R->l.Pairwise S
 |[],_,_=>.nil
 |x::l,h,hp=>by obtain⟨h1,h2⟩:=bh.1 hp;exact bh.2 ⟨fun y hy=>h x (by simp) y (by simp[hy]) (h1 y hy),AES (fun a ha b hb=>h a (by simp[ha]) b (by simp[hb])) h2⟩
theorem mM.mapS{c d:AO}{sure sure':List (List Int)}{gs:List (Nat×Int)}{l:List Sp}(h:mM c sure gs l)(f:Sp->Sp)(h1:∀x∈l,DN c x=true->(BM c sure x).enough=true->DN d (f x)=true/\(BM d sure' (f x)).enough=true)(h2:∀x∈l,∀y∈l,E1 c x y=true->E1 d (f x) (f y)=true)(h3:FT (l.map f)<=EC d):mM d sure' ((l.map f).map ZX) (l.map f):=by
 obtain⟨_,g2,g3,_⟩:=ZB.1 h;refine ZB.2 ⟨rfl,fun x hx=>?_,?_,h3⟩
 ·obtain⟨y,hy,rfl⟩:=cz.1 hx;exact h1 y hy (g2 y hy).1 (g2 y hy).2
 ·rw[List.pairwise_map];exact AES (fun x hx y hy e=>h2 y hy x hx e) g3
theorem tH{l m:List Sp}(h:l.Sublist m):(∀x∈m,0<=x.size)->FT l<=FT m:=by
 induction h with
 |slnil=>exact fun _=>cx _
 |cons a _ ih=>
  intro h
  have:=ih fun x hx=>h x (by simp[hx])
  have:=h a (by simp)
  simp only[FT,bf,bp]at *
  omega
 |cons_cons a _ ih=>
  intro h
  have:=ih fun x hx=>h x (by simp[hx])
  simp only[FT,bf,bp]at *
  omega
theorem mM.sub{c:AO}{sure:List (List Int)}{gs:List (Nat×Int)}{l m:List Sp}(h:mM c sure gs m)(hs:l.Sublist m)(h0:∀x∈m,0<=x.size):mM c sure (l.map ZX) l:=by obtain⟨_,g2,g3,g4⟩:=ZB.1 h;refine ZB.2 ⟨rfl,fun x hx=>g2 x (hs.subset hx),g3.sublist hs,?_⟩;have:=tH hs h0;omega
end Go.Wind
open Go Go.Pg Go.Proofs Go.Wind
namespace Go.Wind
def xD(c:AO)(s u:List (List Int)):Prop:=∀r p:Nat,r<c.beach.rows.toNat->p<c.beach.places.toNat->DC s r p=DC u r p
theorem QE{c:AO}{x:Sp}(h:DN c x=true):0<=x.row/\x.row<c.beach.rows/\0<=x.place/\x.place+x.size<=c.beach.places:=by simp only[DN,bk,DU]at h;omega
theorem xE{c:AO}{s u:List (List Int)}(h:xD c s u){x:Sp}(hx:DN c x=true){p:Nat}(hp:p<x.size.toNat):DC s x.row (x.place+(p:Int))=DC u x.row (x.place+(p:Int)):=by
 obtain⟨h1,h2,h3,h4⟩:=QE hx;have:=h x.row.toNat (x.place.toNat+p) (by omega) (by omega);have e1:((x.row.toNat:Nat):Int)=x.row:=by omega
 have e2:((x.place.toNat+p:Nat):Int)=x.place+(p:Int):=by omega
 rwa [e1,e2]at this
theorem ABA{n:Nat}{f g:Nat->Bool}(h:∀p,p<n->f p=g p):(bg n).all f=(bg n).all g:=by rw[Bool.eq_iff_iff,bx,bx];refine forall_congr' fun p=>forall_congr' fun hp=>?_;rw[h p (bz.1 hp)]
theorem mZ{c:AO}{s u:List (List Int)}(h:xD c s u){x:Sp}(hx:DN c x=true):BM c s x=BM c u x:=by unfold BM;rw[FM fun p hp=>xE h hx hp,ABA fun p hp=>by rw[xE h hx hp]]
theorem ABB{c:AO}{s u:List (List Int)}(h:xD c s u){l:List Sp}(hl:∀x∈l,DN c x=true):EN c s l=EN c u l:=by
 have e:∀x∈l,BM c s x=BM c u x:=fun x hx=>mZ h (hl x hx);rw[jU,jU];have e1:(l.map fun x=>(BM c s x).sun)=l.map fun x=>(BM c u x).sun:=ck fun x hx=>by rw[e x hx]
 have e2:(l.map fun x=>(BM c s x).carried)=l.map fun x=>(BM c u x).carried:=ck fun x hx=>by rw[e x hx]
 have e3:(l.all fun x=>(BM c s x).enough)=l.all fun x=>(BM c u x).enough:=by rw[Bool.eq_iff_iff,bx,bx];exact forall_congr' fun x=>forall_congr' fun hx=>by rw[e x hx]
 rw[e1,e2,e3]
end Go.Wind
namespace Go.Proofs.Tryz.Op
def N9(c:AO)(r p:Nat):Int:=(yE c.beach c.plan r p).1
def LI(c:AO):List (List Int):=(bg c.beach.rows.toNat).map fun r=>(bg c.beach.places.toNat).map (N9 c r)
theorem tI{c:AO}(hc:B7 c):FW c.beach [] c.beach.winds []≠[]:=fun e=>hc.tr (M9.1 (by rw[e];rfl))
theorem AET(c:AO){r p:Nat}(hr:r<c.beach.rows.toNat)(hp:p<c.beach.places.toNat):DC (LI c) r p=N9 c r p:=by unfold DC LI;rw[bj,bj,bw,bb,bb,bq hr];simp[bq hp]
theorem AEU{c:AO}(hc:B7 c){r p:Nat}(hr:r<c.beach.rows.toNat)(hp:p<c.beach.places.toNat):DC (AX c) r p=N9 c r p:=by
 have hpl:=hc.be.pl;unfold DC AX FJ;rw[bj,bj,bc,bw,bb,bb,bq hr];simp only[cj,bn,Function.comp_apply];have hl:(N7 c.beach (FL c.beach) c.plan r).length=c.beach.places.toNat:=by simp[N7]
 unfold E9;rw[bw,bq (by omega)];simp only[cj,bn];rw[if_pos (by omega),bj];unfold N7;rw[bw,bq hp];simp only[cj,bn,sP];rw[<-SH hc.be (XV hc.be (tI hc))];rfl
theorem gO{c:AO}(hc:B7 c):xD c (AX c) (LI c):=fun r p hr hp=>by rw[AEU hc hr hp,AET c hr hp]
theorem AEV{c:AO}(hc:B7 c)(r p:Nat):JJ (BR c.beach) (fun t=>(CL c.beach c.plan t r p).good) (N9 c r p):=by have ha:=XV hc.be (tI hc);unfold N9;rw[SH hc.be ha];exact(oA hc.be ha c.plan r p).1
theorem nA{c:AO}(hc:B7 c)(r p:Nat):0<=N9 c r p/\N9 c r p<=5:=by obtain⟨t,ht,e⟩:=(AEV hc r p).2;have h1:=iA c.beach c.plan t r p;have h2:=hJ hc.be ht;omega
theorem nB{c:AO}(hc:B7 c):∀l∈AX c,l.length=5/\∀x∈l,0<=x/\x<=5:=fun l hl=>by
 have hpl:=hc.be.pl;simp only[AX,FJ,bc,cz,bz]at hl;obtain⟨r,hr,rfl⟩:=hl;refine⟨by simp[E9],fun x hx=>?_⟩;simp only[Function.comp_apply,E9,cz,bz]at hx;obtain⟨p,hp,rfl⟩:=hx;have hl:(N7 c.beach (FL c.beach) c.plan r).length=c.beach.places.toNat:=by simp[N7]
 by_cases h:p<(N7 c.beach (FL c.beach) c.plan r).length
 ·rw[if_pos h,bj];have hp:p<c.beach.places.toNat:=by omega
  unfold N7;rw[bw,bq hp];simp only[cj,bn,sP];rw[<-SH hc.be (XV hc.be (tI hc))];exact nA hc r p
 ·rw[if_neg h];decide
theorem ABC{c:AO}:(AX c).length=c.beach.rows.toNat:=by simp[AX,FJ]
end Go.Proofs.Tryz.Op
namespace Go.Wind
def OU(f:Nat->Nat)(x:Sp):Sp:={ x with fam:=f x.fam }
theorem ABD(f:Nat->Nat)(l:List Sp):(l.map (OU f)).map ZX=(l.map ZX).map fun g=>(f g.1,g.2):=by rw[bc,bc];rfl
theorem jW(f:Nat->Nat)(l:List Sp):FT (l.map (OU f))=FT l:=by unfold FT;rw[bc];rfl
def LeS(c:AO)(s u:List (List Int)):Prop:=∀r p:Nat,r<c.beach.rows.toNat->p<c.beach.places.toNat->DC s r p<=DC u r p
theorem LeS.rfl{c:AO}{s:List (List Int)}:LeS c s s:=fun _ _ _ _=>cx _
theorem LeS.in{c:AO}{s u:List (List Int)}(h:LeS c s u){x:Sp}(hx:DN c x=true){p:Nat}(hp:p<x.size.toNat):DC s x.row (x.place+(p:Int))<=DC u x.row (x.place+(p:Int)):=by
 obtain⟨h1,h2,h3,h4⟩:=QE hx;have:=h x.row.toNat (x.place.toNat+p) (by omega) (by omega);have e1:((x.row.toNat:Nat):Int)=x.row:=by omega
 have e2:((x.place.toNat+p:Nat):Int)=x.place+(p:Int):=by omega
 rwa [e1,e2]at this
structure Eas(c d:AO)(s u:List (List Int))(gs:List (Nat×Int))(f:Nat->Nat):Prop where
 ro:d.beach.rows=c.beach.rows
 pl:d.beach.places=c.beach.places
 su:LeS c s u
 go:∀g∈gs,(D4 d (f g.1)).good<=(D4 c g.1).good
 mi:∀g∈gs,∀k∈gs,HW d (f g.1) (f k.1)=true->HW c g.1 k.1=true
 ch:EC c<=EC d
theorem Eas.fits{c d:AO}{s u:List (List Int)}{gs:List (Nat×Int)}{f:Nat->Nat}(h:Eas c d s u gs f)(x:Sp):DN d (OU f x)=DN c x:=by unfold DN;rw[h.ro,h.pl];rfl
theorem Eas.ok{c d:AO}{s u:List (List Int)}{gs:List (Nat×Int)}{f:Nat->Nat}(h:Eas c d s u gs f){l:List Sp}(hl:mM c s gs l):mM d u (gs.map fun g=>(f g.1,g.2)) (l.map (OU f)):=by
 have hg:∀x∈l,ZX x∈gs:=fun x hx=>by rw[<-hl.gr];exact List.mem_map_of_mem hx
 have e:gs.map (fun g=>(f g.1,g.2))=(l.map (OU f)).map ZX:=by rw[ABD,hl.gr]
 rw[e];refine hl.mapS (OU f) (fun x hx h1 h2=>⟨by rw[h.fits];exact h1,?_⟩) (fun x hx y hy ha=>?_) ?_
 ·have e2:(BM d u (OU f x)).enough=(bg x.size.toNat).all fun p=>decide ((D4 d (f x.fam)).good<=DC u x.row (x.place+(p:Int))):=rfl;rw[e2];simp only[BM,bx,bz,decide_eq_true_eq]at h2|-;intro p hp;have a1:=h2 p hp;have a2:=h.su.in h1 hp;have a3:=h.go _ (hg x hx);simp only[ZX]at a3;omega
 ·have e2:E1 d (OU f x) (OU f y)=(decide (x.row≠y.row)||(decide (0<ZR x y)||(decide (ZR x y=0)&&!HW d (f x.fam) (f y.fam)))):=rfl;rw[e2];simp only[E1,Bool.or_eq_true,decide_eq_true_eq,bk,Bool.not_eq_true',<-Bool.not_eq_true]at ha|-;rcases ha with ha|ha|⟨ha,hb⟩
  ·exact .inl ha
  ·exact .inr (.inl ha)
  ·exact .inr (.inr ⟨ha,fun hm=>hb (h.mi _ (hg x hx) _ (hg y hy) hm)⟩)
 ·rw[jW];have:=hl.pe;have:=h.ch;omega
theorem Eas.can{c d:AO}{s u:List (List Int)}{gs:List (Nat×Int)}{f:Nat->Nat}(h:Eas c d s u gs f)(hc:YY c s gs=true):YY d u (gs.map fun g=>(f g.1,g.2))=true:=by obtain⟨l,hl⟩:=TH.1 hc;exact TH.2 ⟨_,h.ok hl⟩
theorem AEW(l:List Sp):l.map (OU id)=l:=by have:OU id=id:=rfl;rw[this,List.map_id]
theorem xF(gs:List (Nat×Int)):(gs.map fun g=>(id g.1,g.2))=gs:=List.map_id gs
def ME(n:Nat)(out:List Int):List Nat:=(bg n).filter fun k=>!decide ((k:Int)∈out)
theorem ZZ(n:Nat)(out:List Int):ME (n+1) out=ME n out++if (n:Int)∈out then[] else[n]:=by unfold ME;rw[List.range_succ,List.filter_append];congr 1;by_cases h:(n:Int)∈out<;>simp[h]
theorem ABE(n:Nat):ME n []=bg n:=by unfold ME;simp
end Go.Wind
namespace Go.Proofs.Tryz.Op
theorem XZ(c:AO)(out:List Int):∀k,CA c.fams out k=(ME k out).map fun j=>(j,(D4 c j).size)
 |0=>rfl
 |k+1=>by
  rw[ZZ,List.map_append,<-XZ c out k];show CA c.fams out k++_=_;congr 1;by_cases h:(k:Int)∈out
  ·simp[h]
  ·simp[h,D4]
theorem ED(c:AO)(out:List Int):AR c out=(ME c.fams.length out).map fun j=>(j,(D4 c j).size):=XZ c out _
def Q3(x:Sp):Int×Int:=(x.row,x.place)
theorem M8(c:AO):AR c []=(bg c.fams.length).map fun j=>(j,(D4 c j).size):=by rw[ED,ABE]
theorem ABF{c:AO}{l:List Sp}(h:l.map ZX=AR c []):E2 c (l.map Q3)=l:=by
 have hl:l.length=c.fams.length:=by have:=congrArg List.length h;rw[M8]at this;simpa using this
 have hl2:(E2 c (l.map Q3)).length=c.fams.length:=KB (by simp[hl]);apply List.ext_getElem (by omega);intro p h1 h2;have hp:p<c.fams.length:=by omega
 have e:=TD (k:=0) (fs:=c.fams) (ss:=l.map Q3) p hp (by simp;omega) h1;rw[Nat.zero_add]at e;refine e.trans ?_;have hg:(l.map ZX)[p]'(by simpa using h2)=(p,(D4 c p).size):=by
  have:(l.map ZX)[p]? = (AR c [])[p]?:=by rw[h]
  rw[bm (by simpa using h2),M8,bw,bq hp]at this;simpa using this
 rw[List.getElem_map]at hg;have h3:(D4 c p).size=(c.fams[p]).size:=by simp[D4,bm hp]
 rw[h3]at hg;simp only[ZX,Prod.mk.injEq]at hg;simp only[List.getElem_map,Q3];have hx:∀x:Sp,x.fam=p->x.size=(c.fams[p]).size->(⟨p,(c.fams[p]).size,x.row,x.place⟩:Sp)=x:=fun x e1 e2=>by obtain⟨a,b,r,q⟩:=x;simp only at e1 e2|-;subst e2;simp only[e1]
 exact hx _ hg.1 hg.2
theorem xG{c:AO}{s:List (List Int)}{l:List Sp}(h:mM c s (AR c []) l):KG c (l.map Q3)=true/\E2 c (l.map Q3)=l:=by
 have e:=ABF h.gr;have hl:l.length=c.fams.length:=by have:=congrArg List.length h.gr;rw[M8]at this;simpa using this
 refine⟨?_,e⟩;simp only[KG,ZA,bk,decide_eq_true_eq,e];exact⟨by simpa using hl,h.go,h.pe⟩
def JG(c:AO):Option (List Sp×CE):=AEO c (AX c) (YX c (AX c) (AR c []))
def WF(c:AO):List (Int×Int)×Int×Int×Int:=if F4 c≠0 then([],0,0,F4 c) else match JG c with
 |some q=>(q.1.map Q3,q.2.sun,q.2.carried,0)
 |none=>([],0,0,10)
def E8(c:AO)(out:List Int):Bool:=YY c (AX c) (AR c out)
def ZC(c:AO):List Int×Int:=if F4 c≠0 then([],F4 c) else((R6 (E8 c) c.fams.length).getD [],0)
theorem AEX(c:AO)(s:List (List Int)):YY c s []=true:=TH.2 ⟨[],rfl,rfl,by simp[FT],by simp⟩
theorem ABG{n:Nat}{out:List Int}(h:∀k:Nat,k<n->(k:Int)∈out):ME n out=[]:=by unfold ME;rw[List.filter_eq_nil_iff];intro k hk;simp[h k (bz.1 hk)]
theorem Z0{x k:Nat}:∀{N:Nat},(k:Int)∈C9 x N↔k<N/\x.testBit k=true
 |0=>by simp[C9]
 |N+1=>by
  rw[I3];split
  ·rename_i h;rw[List.mem_append,Z0,cq];constructor
   ·rintro (⟨h1,h2⟩|e)
    ·exact⟨by omega,h2⟩
    ·have:k=N:=by omega
     subst this;exact⟨by omega,h⟩
   ·rintro ⟨h1,h2⟩;by_cases e:k=N
    ·exact .inr (by rw[e])
    ·exact .inl ⟨by omega,h2⟩
  ·rename_i h;rw[Z0];constructor
   ·rintro ⟨h1,h2⟩;exact⟨by omega,h2⟩
   ·rintro ⟨h1,h2⟩;refine⟨?_,h2⟩;by_cases e:k=N
    ·subst e;exact absurd h2 h
    ·omega
theorem AEY(c:AO):E8 c (C9 (2 ^ c.fams.length-1) c.fams.length)=true:=by unfold E8;rw[ED,ABG fun k hk=>Z0.2 ⟨hk,by rw[Nat.testBit_two_pow_sub_one];exact decide_eq_true hk⟩];exact AEX _ _
theorem OV(c:AO):∃y,R6 (E8 c) c.fams.length=some y/\XY (E8 c) c.fams.length y:=by have e:=AER (AEY c);have h:=ZW (E8 c) c.fams.length;rw[e]at h;exact⟨_,e,h⟩
end Go.Proofs.Tryz.Op
