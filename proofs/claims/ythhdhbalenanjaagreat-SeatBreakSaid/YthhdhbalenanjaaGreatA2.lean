/- Allowed seatings, told by their members; the best one. No program in sight. -/
import Derived.Test.YthhdhbalenanjaaGreatS3
open Bool renaming and_eq_true->bj
open List renaming getD_eq_getElem?_getD->bk,getElem?_range->bq,map_map->bw,getElem?_map->bx,mem_range->bz,pairwise_cons->bb,map_cons->bf,mem_singleton->bh,mem_cons->bm,sum_cons->bn,mem_map->bp
open Option renaming getD_some->bc,map_some->bg
set_option maxRecDepth 100000
namespace Go.Wind
def wG(x:Sp):Nat×Int:=(x.fam,x.size)
theorem UI{c:AP}{sure:List (List Int)}:∀{gs:List (Nat×Int)} {out l:List Sp},l∈EI c sure gs out↔∃r,l=out++r/\r.map wG=gs/\NK c out r=true/\∀x∈r,(BS c sure x).enough=true
 |[],out,l=>by
  simp only[EI,bh];constructor
  ·rintro rfl;exact⟨[],by simp,rfl,rfl,by simp⟩
  ·rintro ⟨r,rfl,h,_,_⟩;rw[List.map_eq_nil_iff]at h;subst h;simp
 |g::gs,out,l=>by
  simp only[EI,List.mem_flatMap,bz];constructor
  ·rintro ⟨r,hr,p,hp,h⟩;split at h
   ·rename_i hz;simp only[bj]at hz;obtain⟨q,rfl,h1,h2,h3⟩:=UI.1 h;refine⟨⟨g.1,g.2,(r:Int),(p:Int)⟩::q,by simp,by simp[wG,h1],?_,?_⟩
    ·simp only[NK,bj];refine⟨⟨?_,hz.2⟩,h2⟩;simp only[JB,bj,DT];omega
    ·intro x hx;rcases bm.1 hx with rfl|hx
     ·exact hz.1
     ·exact h3 x hx
   ·cases h
  ·rintro ⟨q,rfl,h1,h2,h3⟩;cases q with
   |nil=>cases h1
   |cons x q=>
    simp only[bf,List.cons.injEq]at h1
    obtain⟨rfl,h1⟩:=h1
    simp only[NK,bj]at h2
    have hf:=h2.1.1
    simp only[JB,bj,DT]at hf
    have e1:((x.row.toNat:Nat):Int)=x.row:=by omega
    have e2:((x.place.toNat:Nat):Int)=x.place:=by omega
    refine⟨x.row.toNat,by omega,x.place.toNat,by simp only[wG];omega,?_⟩
    simp only[wG,e1,e2]
    rw[if_pos (by rw[h3 x (by simp),h2.1.2];rfl)]
    exact UI.2 ⟨q,by simp,h1,h2.2,fun y hy=>h3 y (by simp[hy])⟩
def DO(gs:List (Nat×Int)):Int:=(gs.map (·.2)).sum
def L7(c:AP)(sure:List (List Int))(gs:List (Nat×Int)):List (List Sp):=if (GD c:Int)<DO gs then[] else EI c sure gs []
structure OkS(c:AP)(sure:List (List Int))(gs:List (Nat×Int))(l:List Sp):Prop where
 gr:l.map wG=gs
 go:NK c [] l=true
 pe:L6 l<=GD c
 en:∀x∈l,(BS c sure x).enough=true
theorem X4(l:List Sp):L6 l=DO (l.map wG):=by unfold L6 DO;rw[bw];rfl
theorem W8{c:AP}{sure:List (List Int)}{gs:List (Nat×Int)}{l:List Sp}:l∈L7 c sure gs↔OkS c sure gs l:=by
 unfold L7;by_cases h:(GD c:Int)<DO gs
 ·rw[if_pos h];refine⟨fun hh=>(by cases hh),fun hh=>?_⟩;have:=hh.pe;rw[X4,hh.gr]at this;omega
 ·rw[if_neg h,UI];constructor
  ·rintro ⟨r,e,h1,h2,h3⟩;rw[List.nil_append]at e;subst e;refine⟨h1,h2,?_,h3⟩;rw[X4,h1];omega
  ·rintro ⟨h1,h2,_,h3⟩;exact⟨l,rfl,h1,h2,h3⟩
def WV(c:AP)(sure:List (List Int))(gs:List (Nat×Int)):Bool:=!(L7 c sure gs).isEmpty
theorem fF{c:AP}{sure:List (List Int)}{gs:List (Nat×Int)}:WV c sure gs=true↔∃l,OkS c sure gs l:=by
 unfold WV;constructor
 ·intro h;cases hl:L7 c sure gs with
  |nil=>rw[hl]at h;cases h
  |cons l r=>exact⟨l,W8.1 (by rw[hl];simp)⟩
 ·rintro ⟨l,hl⟩;have:=W8.2 hl;cases hz:L7 c sure gs with
  |nil=>rw[hz]at this;cases this
  |cons a r=>rfl
def sT(a b:BJ):Prop:=b.sun<a.sun\/b.sun=a.sun/\a.carried<=b.carried
theorem RD(a:BJ):sT a a:=.inr ⟨rfl,Int.le_refl _⟩
theorem cY{a b d:BJ}(h1:sT a b)(h2:sT b d):sT a d:=by unfold sT at *;omega
theorem sU{c:AP}{sure:List (List Int)}:∀(ls:List (List Sp)) (acc:Option (List Sp×BJ)),match ls.foldl (EB c sure) acc with
  |some (_,t)=>(∀l∈ls,sT t (EW c sure l))/\∀b u,acc=some (b,u)->sT t u
  |none=>True
 |[],acc=>by
  cases acc with
  |none=>trivial
  |some bt=>
   refine⟨fun l hl=>(by cases hl),fun b u h=>?_⟩
   cases h
   exact RD _
 |l::ls,acc=>by
  have ih:=sU (c:=c) (sure:=sure) ls (EB c sure acc l);simp only[List.foldl_cons];have hstep:∃b t,EB c sure acc l=some (b,t)/\sT t (EW c sure l)/\∀b' u,acc=some (b',u)->sT t u:=by
   cases acc with
   |none=>exact⟨l,_,rfl,RD _,fun b' u h=>(by cases h)⟩
   |some bt=>
    obtain⟨b,t⟩:=bt
    simp only[EB]
    split
    ·rename_i h;refine⟨b,t,rfl,?_,fun b' u h=>?_⟩
     ·unfold sT;omega
     ·cases h;exact RD _
    ·rename_i h;refine⟨l,_,rfl,RD _,fun b' u h2=>?_⟩;cases h2;unfold sT;omega
  obtain⟨b,t,e,g1,g2⟩:=hstep;rw[e]at ih|-;generalize ls.foldl (EB c sure) (some (b,t))=R at ih|-;cases R with
  |none=>trivial
  |some q=>
   obtain⟨b2,t2⟩:=q
   simp only at ih|-
   obtain⟨h1,h2⟩:=ih
   have h3:=h2 b t rfl
   refine⟨fun x hx=>?_,fun b' u h=>cY h3 (g2 b' u h)⟩
   rcases bm.1 hx with rfl|hx
   ·exact cY h3 g1
   ·exact h1 x hx
theorem cZ{c:AP}{sure:List (List Int)}{ls:List (List Sp)}{b:List Sp}{t:BJ}(h:XW c sure ls=some (b,t)):b∈ls/\t=EW c sure b/\∀l∈ls,sT t (EW c sure l):=by
 have h1:=XX (c:=c) (sure:=sure) ls none;have h2:=sU (c:=c) (sure:=sure) ls none;have h:ls.foldl (EB c sure) none=_:=h;rw[h]at h1 h2;simp only at h1 h2;rcases h1 with⟨a1,a2⟩|a
 ·exact⟨a1,a2,h2.1⟩
 ·cases a
theorem wH{c:AP}{sure:List (List Int)}{ls:List (List Sp)}:XW c sure ls=none↔ls=[]:=by
 constructor
 ·intro h;have h1:=XX (c:=c) (sure:=sure) ls none;have h:ls.foldl (EB c sure) none=_:=h;rw[h]at h1;exact h1.1
 ·rintro rfl;rfl
theorem jB(c:AP)(sure:List (List Int)):∀(l:List Sp) (t:BJ),l.foldl (fun t x=>let s:=BS c sure x;⟨t.sun+s.sun,t.carried+s.carried,t.enough&&s.enough⟩) t=⟨t.sun+(l.map fun x=>(BS c sure x).sun).sum,t.carried+(l.map fun x=>(BS c sure x).carried).sum,t.enough&&l.all fun x=>(BS c sure x).enough⟩
 |[],t=>by simp
 |x::l,t=>by rw[List.foldl_cons,jB c sure l];simp only[bf,bn,List.all_cons,Int.add_assoc,Bool.and_assoc]
theorem oL(c:AP)(sure:List (List Int))(l:List Sp):EW c sure l=⟨(l.map fun x=>(BS c sure x).sun).sum,(l.map fun x=>(BS c sure x).carried).sum,l.all fun x=>(BS c sure x).enough⟩:=by unfold EW;rw[jB];simp
theorem X5{α:Type}{f g:α->Int}:∀{l:List α},(∀x∈l,f x<=g x)->(l.map f).sum<=(l.map g).sum
 |[],_=>by simp
 |x::l,h=>by have ih:=X5 (l:=l) (f:=f) (g:=g) fun y hy=>h y (by simp[hy]);have:=h x (by simp);simp only[bf,bn];omega
theorem fG{α:Type}{f:α->Int}{m:Int}:∀{l:List α},(∀x∈l,0<=f x/\f x<=m)->0<=(l.map f).sum/\(l.map f).sum<=l.length*m
 |[],_=>by simp
 |x::l,h=>by
  have ih:=fG (l:=l) (f:=f) (m:=m) fun y hy=>h y (by simp[hy]);have:=h x (by simp);simp only[bf,bn,List.length_cons];have e:((l.length+1:Nat):Int)*m=l.length*m+m:=by rw[Int.natCast_add,Int.add_mul];simp
  omega
theorem UJ{c:AP}:∀{l before:List Sp},NK c before l=true↔(∀x∈l,JB c x=true)/\(∀x∈l,∀y∈before,FV c x y=true)/\l.Pairwise (fun y x=>FV c x y=true)
 |[],before=>by simp[NK]
 |x::l,before=>by
  simp only[NK,bj,List.all_eq_true,UJ (l:=l) (before:=before++[x]),List.mem_append,bm,List.not_mem_nil,or_false,bb];constructor
  ·rintro ⟨⟨h1,h2⟩,h3,h4,h5⟩;refine⟨fun y hy=>?_,fun y hy z hz=>?_,fun y hy=>h4 y hy x (.inr rfl),h5⟩
   ·rcases hy with rfl|hy
    ·exact h1
    ·exact h3 y hy
   ·rcases hy with rfl|hy
    ·exact h2 z hz
    ·exact h4 y hy z (.inl hz)
  ·rintro ⟨h1,h2,h3,h4⟩;refine⟨⟨h1 x (.inl rfl),fun z hz=>h2 x (.inl rfl) z hz⟩,fun y hy=>h1 y (.inr hy),fun y hy z hz=>?_,h4⟩;rcases hz with hz|rfl
   ·exact h2 y (.inr hy) z hz
   ·exact h3 y hy
theorem fH{c:AP}{sure:List (List Int)}{gs:List (Nat×Int)}{l:List Sp}:OkS c sure gs l↔l.map wG=gs/\(∀x∈l,JB c x=true/\(BS c sure x).enough=true)/\l.Pairwise (fun y x=>FV c x y=true)/\L6 l<=GD c:=by
 constructor
 ·rintro ⟨h1,h2,h3,h4⟩;obtain⟨g1,_,g3⟩:=UJ.1 h2;exact⟨h1,fun x hx=>⟨g1 x hx,h4 x hx⟩,g3,h3⟩
 ·rintro ⟨h1,h2,h3,h4⟩;exact⟨h1,UJ.2 ⟨fun x hx=>(h2 x hx).1,fun x _ y hy=>(by cases hy),h3⟩,h4,fun x hx=>(h2 x hx).2⟩
theorem AAT{α:Type}{R S:α->α->Prop}:∀{l:List α},(∀x∈l,∀y∈l,R x y->S x y)->l.Pairwise R->l.Pairwise S
 |[],_,_=>.nil
 |x::l,h,hp=>by obtain⟨h1,h2⟩:=bb.1 hp;exact bb.2 ⟨fun y hy=>h x (by simp) y (by simp[hy]) (h1 y hy),AAT (fun a ha b hb=>h a (by simp[ha]) b (by simp[hb])) h2⟩
theorem OkS.mapS{c d:AP}{sure sure':List (List Int)}{gs:List (Nat×Int)}{l:List Sp}(h:OkS c sure gs l)(f:Sp->Sp)(h1:∀x∈l,JB c x=true->(BS c sure x).enough=true->JB d (f x)=true/\(BS d sure' (f x)).enough=true)(h2:∀x∈l,∀y∈l,FV c x y=true->FV d (f x) (f y)=true)(h3:L6 (l.map f)<=GD d):OkS d sure' ((l.map f).map wG) (l.map f):=by
 obtain⟨_,g2,g3,_⟩:=fH.1 h;refine fH.2 ⟨rfl,fun x hx=>?_,?_,h3⟩
 ·obtain⟨y,hy,rfl⟩:=bp.1 hx;exact h1 y hy (g2 y hy).1 (g2 y hy).2
 ·rw[List.pairwise_map];exact AAT (fun x hx y hy e=>h2 y hy x hx e) g3
end Go.Wind
open Go Go.Pg Go.Proofs Go.Wind
namespace Go.Wind
theorem W9{c:AP}{x:Sp}(h:JB c x=true):0<=x.row/\x.row<c.beach.rows/\0<=x.place/\x.place+x.size<=c.beach.places:=by simp only[JB,bj,DT]at h;omega
end Go.Wind
namespace Go.Proofs.Tryz.Op
def dA(c:AP)(r p:Nat):Int:=(tR c.beach c.plan r p).1
theorem oM{c:AP}(hc:BZ c):E6 c.beach [] c.beach.winds []≠[]:=fun e=>hc.tr (L8.1 (by rw[e];rfl))
theorem jC{c:AP}(hc:BZ c){r p:Nat}(hr:r<c.beach.rows.toNat)(hp:p<c.beach.places.toNat):E5 (AN c) r p=dA c r p:=by
 have hpl:=hc.be.pl;unfold E5 AN EY;rw[bk,bk,bw,bx,Int.toNat_natCast,Int.toNat_natCast,bq hr];simp only[bg,bc,Function.comp_apply];have hl:(M4 c.beach (EZ c.beach) c.plan r).length=c.beach.places.toNat:=by simp[M4]
 unfold EO;rw[bx,bq (by omega)];simp only[bg,bc];rw[if_pos (by omega),bk];unfold M4;rw[bx,bq hp];simp only[bg,bc,nW];rw[<-QP hc.be (VW hc.be (oM hc))];rfl
theorem X6{c:AP}(hc:BZ c)(r p:Nat):IL (CE c.beach) (fun t=>(D5 c.beach c.plan t r p).good) (dA c r p):=by have ha:=VW hc.be (oM hc);unfold dA;rw[QP hc.be ha];exact(jU hc.be ha c.plan r p).1
theorem AAU{c:AP}(hc:BZ c)(r p:Nat):0<=dA c r p/\dA c r p<=5:=by obtain⟨t,ht,e⟩:=(X6 hc r p).2;have h1:=dJ c.beach c.plan t r p;have h2:=dI hc.be ht;omega
theorem K5{c:AP}(hc:BZ c):∀l∈AN c,l.length=5/\∀x∈l,0<=x/\x<=5:=fun l hl=>by
 have hpl:=hc.be.pl;simp only[AN,EY,bw,bp,bz]at hl;obtain⟨r,hr,rfl⟩:=hl;refine⟨by simp[EO],fun x hx=>?_⟩;simp only[Function.comp_apply,EO,bp,bz]at hx;obtain⟨p,hp,rfl⟩:=hx;have hl:(M4 c.beach (EZ c.beach) c.plan r).length=c.beach.places.toNat:=by simp[M4]
 by_cases h:p<(M4 c.beach (EZ c.beach) c.plan r).length
 ·rw[if_pos h,bk];have hp:p<c.beach.places.toNat:=by omega
  unfold M4;rw[bx,bq hp];simp only[bg,bc,nW];rw[<-QP hc.be (VW hc.be (oM hc))];exact AAU hc r p
 ·rw[if_neg h];decide
theorem K6{c:AP}:(AN c).length=c.beach.rows.toNat:=by simp[AN,EY]
end Go.Proofs.Tryz.Op
namespace Go.Wind
def NL(f:Nat->Nat)(x:Sp):Sp:={ x with fam:=f x.fam }
theorem wI(f:Nat->Nat)(l:List Sp):(l.map (NL f)).map wG=(l.map wG).map fun g=>(f g.1,g.2):=by rw[bw,bw];rfl
theorem fI(f:Nat->Nat)(l:List Sp):L6 (l.map (NL f))=L6 l:=by unfold L6;rw[bw];rfl
def LeS(c:AP)(s u:List (List Int)):Prop:=∀r p:Nat,r<c.beach.rows.toNat->p<c.beach.places.toNat->E5 s r p<=E5 u r p
theorem LeS.in{c:AP}{s u:List (List Int)}(h:LeS c s u){x:Sp}(hx:JB c x=true){p:Nat}(hp:p<x.size.toNat):E5 s x.row (x.place+(p:Int))<=E5 u x.row (x.place+(p:Int)):=by
 obtain⟨h1,h2,h3,h4⟩:=W9 hx;have:=h x.row.toNat (x.place.toNat+p) (by omega) (by omega);have e1:((x.row.toNat:Nat):Int)=x.row:=by omega
 have e2:((x.place.toNat+p:Nat):Int)=x.place+(p:Int):=by omega
 rwa [e1,e2]at this
theorem X7{f g:Nat->Int}:∀{n:Nat},(∀p,p<n->f p<=g p)->G9 f n<=G9 g n
 |0,_=>Int.le_refl _
 |n+1,h=>by have ih:=X7 (f:=f) (g:=g) (n:=n) fun p hp=>h p (by omega);have:=h n (by omega);simp only[G9];omega
structure Eas(c d:AP)(s u:List (List Int))(gs:List (Nat×Int))(f:Nat->Nat):Prop where
 ro:d.beach.rows=c.beach.rows
 pl:d.beach.places=c.beach.places
 su:LeS c s u
 go:∀g∈gs,(IG d (f g.1)).good<=(IG c g.1).good
 mi:∀g∈gs,∀k∈gs,XU d (f g.1) (f k.1)=true->XU c g.1 k.1=true
 ch:GD c<=GD d
theorem Eas.fits{c d:AP}{s u:List (List Int)}{gs:List (Nat×Int)}{f:Nat->Nat}(h:Eas c d s u gs f)(x:Sp):JB d (NL f x)=JB c x:=by unfold JB;rw[h.ro,h.pl];rfl
theorem Eas.ok{c d:AP}{s u:List (List Int)}{gs:List (Nat×Int)}{f:Nat->Nat}(h:Eas c d s u gs f){l:List Sp}(hl:OkS c s gs l):OkS d u (gs.map fun g=>(f g.1,g.2)) (l.map (NL f)):=by
 have hg:∀x∈l,wG x∈gs:=fun x hx=>by rw[<-hl.gr];exact List.mem_map_of_mem hx
 have e:gs.map (fun g=>(f g.1,g.2))=(l.map (NL f)).map wG:=by rw[wI,hl.gr]
 rw[e];refine hl.mapS (NL f) (fun x hx h1 h2=>⟨by rw[h.fits];exact h1,?_⟩) (fun x hx y hy ha=>?_) ?_
 ·have e2:(BS d u (NL f x)).enough=(List.range x.size.toNat).all fun p=>decide ((IG d (f x.fam)).good<=E5 u x.row (x.place+(p:Int))):=rfl;rw[e2];simp only[BS,List.all_eq_true,bz,decide_eq_true_eq]at h2|-;intro p hp;have a1:=h2 p hp;have a2:=h.su.in h1 hp;have a3:=h.go _ (hg x hx);simp only[wG]at a3;omega
 ·have e2:FV d (NL f x) (NL f y)=(decide (x.row≠y.row)||(decide (0<oK x y)||(decide (oK x y=0)&&!XU d (f x.fam) (f y.fam)))):=rfl;rw[e2];simp only[FV,Bool.or_eq_true,decide_eq_true_eq,bj,Bool.not_eq_true',<-Bool.not_eq_true]at ha|-;rcases ha with ha|ha|⟨ha,hb⟩
  ·exact .inl ha
  ·exact .inr (.inl ha)
  ·exact .inr (.inr ⟨ha,fun hm=>hb (h.mi _ (hg x hx) _ (hg y hy) hm)⟩)
 ·rw[fI];have:=hl.pe;have:=h.ch;omega
theorem Eas.can{c d:AP}{s u:List (List Int)}{gs:List (Nat×Int)}{f:Nat->Nat}(h:Eas c d s u gs f)(hc:WV c s gs=true):WV d u (gs.map fun g=>(f g.1,g.2))=true:=by obtain⟨l,hl⟩:=fF.1 hc;exact fF.2 ⟨_,h.ok hl⟩
theorem Eas.sun{c d:AP}{s u:List (List Int)}{gs:List (Nat×Int)}{f:Nat->Nat}(h:Eas c d s u gs f){l:List Sp}(hl:OkS c s gs l):(EW c s l).sun<=(EW d u (l.map (NL f))).sun:=by rw[oL,oL];simp only[bw];exact X5 fun x hx=>X7 fun p hp=>h.su.in ((fH.1 hl).2.1 x hx).1 hp
theorem Eas.best{c d:AP}{s u:List (List Int)}{gs:List (Nat×Int)}{f:Nat->Nat}(h:Eas c d s u gs f){b:List Sp}{t:BJ}(hb:XW c s (L7 c s gs)=some (b,t)):∃b' t',XW d u (L7 d u (gs.map fun g=>(f g.1,g.2)))=some (b',t')/\t.sun<=t'.sun/\sT t' (EW d u (b.map (NL f))):=by
 obtain⟨h1,h2,_⟩:=cZ hb;have hl:=W8.1 h1;have hm:=W8.2 (h.ok hl);cases hz:XW d u (L7 d u (gs.map fun g=>(f g.1,g.2)))with
 |none=>
  rw[wH.1 hz]at hm
  cases hm
 |some q=>
  obtain⟨b',t'⟩:=q
  have h3:=(cZ hz).2.2 _ hm
  refine⟨b',t',rfl,?_,h3⟩
  have h4:=h.sun hl
  rw[<-h2]at h4
  unfold sT at h3
  omega
def V0(n:Nat)(out:List Int):List Nat:=(List.range n).filter fun k=>!decide ((k:Int)∈out)
theorem oN(n:Nat)(out:List Int):V0 (n+1) out=V0 n out++if (n:Int)∈out then[] else[n]:=by unfold V0;rw[List.range_succ,List.filter_append];congr 1;by_cases h:(n:Int)∈out<;>simp[h]
end Go.Wind
namespace Go.Proofs.Tryz.Op
theorem V1(c:AP)(out:List Int):∀k,CW c.fams out k=(V0 k out).map fun j=>(j,(IG c j).size)
 |0=>rfl
 |k+1=>by
  rw[oN,List.map_append,<-V1 c out k];show CW c.fams out k++_=_;congr 1;by_cases h:(k:Int)∈out
  ·simp[h]
  ·simp[h,IG]
theorem RE(c:AP)(out:List Int):BA c out=(V0 c.fams.length out).map fun j=>(j,(IG c j).size):=V1 c out _
def spt(x:Sp):Int×Int:=(x.row,x.place)
def ED(c:AP):Option (List Sp×BJ):=XW c (AN c) (L7 c (AN c) (BA c []))
def QL(c:AP):List (Int×Int)×Int×Int×Int:=if CZ c≠0 then([],0,0,CZ c) else match ED c with
 |some q=>(q.1.map spt,q.2.sun,q.2.carried,0)
 |none=>([],0,0,10)
def FW(c:AP)(out:List Int):Bool:=WV c (AN c) (BA c out)
def XA(c:AP):List Int×Int:=if CZ c≠0 then([],CZ c) else((QI (FW c) c.fams.length).getD [],0)
theorem AAW(c:AP)(s:List (List Int)):WV c s []=true:=fF.2 ⟨[],rfl,rfl,by simp[L6],by simp⟩
theorem wJ{n:Nat}{out:List Int}(h:∀k:Nat,k<n->(k:Int)∈out):V0 n out=[]:=by unfold V0;rw[List.filter_eq_nil_iff];intro k hk;simp[h k (bz.1 hk)]
theorem X8{x k:Nat}:∀{N:Nat},(k:Int)∈FB x N↔k<N/\x.testBit k=true
 |0=>by simp[FB]
 |N+1=>by
  rw[H6];split
  ·rename_i h;rw[List.mem_append,X8,bh];constructor
   ·rintro (⟨h1,h2⟩|e)
    ·exact⟨by omega,h2⟩
    ·have:k=N:=by omega
     subst this;exact⟨by omega,h⟩
   ·rintro ⟨h1,h2⟩;by_cases e:k=N
    ·exact .inr (by rw[e])
    ·exact .inl ⟨by omega,h2⟩
  ·rename_i h;rw[X8];constructor
   ·rintro ⟨h1,h2⟩;exact⟨by omega,h2⟩
   ·rintro ⟨h1,h2⟩;refine⟨?_,h2⟩;by_cases e:k=N
    ·subst e;exact absurd h2 h
    ·omega
theorem AAX(c:AP):FW c (FB (2 ^ c.fams.length-1) c.fams.length)=true:=by unfold FW;rw[RE,wJ fun k hk=>X8.2 ⟨hk,by rw[Nat.testBit_two_pow_sub_one];exact decide_eq_true hk⟩];exact AAW _ _
theorem NM(c:AP):∃y,QI (FW c) c.fams.length=some y/\VZ (FW c) c.fams.length y:=by have e:=AAS (AAX c);have h:=X3 (FW c) c.fams.length;rw[e]at h;exact⟨_,e,h⟩
end Go.Proofs.Tryz.Op
