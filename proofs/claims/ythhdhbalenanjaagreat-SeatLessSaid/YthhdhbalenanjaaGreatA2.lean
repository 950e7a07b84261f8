/- Allowed seatings, told by their members; the best one. No program in sight. -/
import Derived.Test.YthhdhbalenanjaaGreatS3
open Bool renaming and_eq_true->bj
open List renaming map_map->bk,mem_range->bq,pairwise_cons->bw,map_cons->bx,mem_singleton->bc,mem_cons->bf,sum_cons->bg,mem_map->bh
set_option maxRecDepth 100000
namespace Go.Wind
def wV(x:Sp):Nat×Int:=(x.fam,x.size)
theorem UM{c:AU}{sure:List (List Int)}:∀{gs:List (Nat×Int)} {out l:List Sp},l∈FI c sure gs out↔∃r,l=out++r/\r.map wV=gs/\N8 c out r=true/\∀x∈r,(BU c sure x).enough=true
 |[],out,l=>by
  simp only[FI,bc];constructor
  ·rintro rfl;exact⟨[],by simp,rfl,rfl,by simp⟩
  ·rintro ⟨r,rfl,h,_,_⟩;rw[List.map_eq_nil_iff]at h;subst h;simp
 |g::gs,out,l=>by
  simp only[FI,List.mem_flatMap,bq];constructor
  ·rintro ⟨r,hr,p,hp,h⟩;split at h
   ·rename_i hz;simp only[bj]at hz;obtain⟨q,rfl,h1,h2,h3⟩:=UM.1 h;refine⟨⟨g.1,g.2,(r:Int),(p:Int)⟩::q,by simp,by simp[wV,h1],?_,?_⟩
    ·simp only[N8,bj];refine⟨⟨?_,hz.2⟩,h2⟩;simp only[KE,bj,D7];omega
    ·intro x hx;rcases bf.1 hx with rfl|hx
     ·exact hz.1
     ·exact h3 x hx
   ·cases h
  ·rintro ⟨q,rfl,h1,h2,h3⟩;cases q with
   |nil=>cases h1
   |cons x q=>
    simp only[bx,List.cons.injEq]at h1
    obtain⟨rfl,h1⟩:=h1
    simp only[N8,bj]at h2
    have hf:=h2.1.1
    simp only[KE,bj,D7]at hf
    have e1:((x.row.toNat:Nat):Int)=x.row:=by omega
    have e2:((x.place.toNat:Nat):Int)=x.place:=by omega
    refine⟨x.row.toNat,by omega,x.place.toNat,by simp only[wV];omega,?_⟩
    simp only[wV,e1,e2]
    rw[if_pos (by rw[h3 x (by simp),h2.1.2];rfl)]
    exact UM.2 ⟨q,by simp,h1,h2.2,fun y hy=>h3 y (by simp[hy])⟩
def DX(gs:List (Nat×Int)):Int:=(gs.map (·.2)).sum
def P5(c:AU)(sure:List (List Int))(gs:List (Nat×Int)):List (List Sp):=if (G5 c:Int)<DX gs then[] else FI c sure gs []
structure OkS(c:AU)(sure:List (List Int))(gs:List (Nat×Int))(l:List Sp):Prop where
 gr:l.map wV=gs
 go:N8 c [] l=true
 pe:MP l<=G5 c
 en:∀x∈l,(BU c sure x).enough=true
theorem X6(l:List Sp):MP l=DX (l.map wV):=by unfold MP DX;rw[bk];rfl
theorem RU{c:AU}{sure:List (List Int)}{gs:List (Nat×Int)}{l:List Sp}:l∈P5 c sure gs↔OkS c sure gs l:=by
 unfold P5;by_cases h:(G5 c:Int)<DX gs
 ·rw[if_pos h];refine⟨fun hh=>(by cases hh),fun hh=>?_⟩;have:=hh.pe;rw[X6,hh.gr]at this;omega
 ·rw[if_neg h,UM];constructor
  ·rintro ⟨r,e,h1,h2,h3⟩;rw[List.nil_append]at e;subst e;refine⟨h1,h2,?_,h3⟩;rw[X6,h1];omega
  ·rintro ⟨h1,h2,_,h3⟩;exact⟨l,rfl,h1,h2,h3⟩
def W5(c:AU)(sure:List (List Int))(gs:List (Nat×Int)):Bool:=!(P5 c sure gs).isEmpty
theorem fR{c:AU}{sure:List (List Int)}{gs:List (Nat×Int)}:W5 c sure gs=true↔∃l,OkS c sure gs l:=by
 unfold W5;constructor
 ·intro h;cases hl:P5 c sure gs with
  |nil=>rw[hl]at h;cases h
  |cons l r=>exact⟨l,RU.1 (by rw[hl];simp)⟩
 ·rintro ⟨l,hl⟩;have:=RU.2 hl;cases hz:P5 c sure gs with
  |nil=>rw[hz]at this;cases this
  |cons a r=>rfl
def tI(a b:BW):Prop:=b.sun<a.sun\/b.sun=a.sun/\a.carried<=b.carried
theorem RV(a:BW):tI a a:=.inr ⟨rfl,Int.le_refl _⟩
theorem dJ{a b d:BW}(h1:tI a b)(h2:tI b d):tI a d:=by unfold tI at *;omega
theorem tJ{c:AU}{sure:List (List Int)}:∀(ls:List (List Sp)) (acc:Option (List Sp×BW)),match ls.foldl (EL c sure) acc with
  |some (_,t)=>(∀l∈ls,tI t (EV c sure l))/\∀b u,acc=some (b,u)->tI t u
  |none=>True
 |[],acc=>by
  cases acc with
  |none=>trivial
  |some bt=>
   refine⟨fun l hl=>(by cases hl),fun b u h=>?_⟩
   cases h
   exact RV _
 |l::ls,acc=>by
  have ih:=tJ (c:=c) (sure:=sure) ls (EL c sure acc l);simp only[List.foldl_cons];have hstep:∃b t,EL c sure acc l=some (b,t)/\tI t (EV c sure l)/\∀b' u,acc=some (b',u)->tI t u:=by
   cases acc with
   |none=>exact⟨l,_,rfl,RV _,fun b' u h=>(by cases h)⟩
   |some bt=>
    obtain⟨b,t⟩:=bt
    simp only[EL]
    split
    ·rename_i h;refine⟨b,t,rfl,?_,fun b' u h=>?_⟩
     ·unfold tI;omega
     ·cases h;exact RV _
    ·rename_i h;refine⟨l,_,rfl,RV _,fun b' u h2=>?_⟩;cases h2;unfold tI;omega
  obtain⟨b,t,e,g1,g2⟩:=hstep;rw[e]at ih|-;generalize ls.foldl (EL c sure) (some (b,t))=R at ih|-;cases R with
  |none=>trivial
  |some q=>
   obtain⟨b2,t2⟩:=q
   simp only at ih|-
   obtain⟨h1,h2⟩:=ih
   have h3:=h2 b t rfl
   refine⟨fun x hx=>?_,fun b' u h=>dJ h3 (g2 b' u h)⟩
   rcases bf.1 hx with rfl|hx
   ·exact dJ h3 g1
   ·exact h1 x hx
theorem UN{c:AU}{sure:List (List Int)}{ls:List (List Sp)}{b:List Sp}{t:BW}(h:XY c sure ls=some (b,t)):b∈ls/\t=EV c sure b/\∀l∈ls,tI t (EV c sure l):=by
 have h1:=XZ (c:=c) (sure:=sure) ls none;have h2:=tJ (c:=c) (sure:=sure) ls none;have h:ls.foldl (EL c sure) none=_:=h;rw[h]at h1 h2;simp only at h1 h2;rcases h1 with⟨a1,a2⟩|a
 ·exact⟨a1,a2,h2.1⟩
 ·cases a
theorem wW{c:AU}{sure:List (List Int)}{ls:List (List Sp)}:XY c sure ls=none↔ls=[]:=by
 constructor
 ·intro h;have h1:=XZ (c:=c) (sure:=sure) ls none;have h:ls.foldl (EL c sure) none=_:=h;rw[h]at h1;exact h1.1
 ·rintro rfl;rfl
theorem jL(c:AU)(sure:List (List Int)):∀(l:List Sp) (t:BW),l.foldl (fun t x=>let s:=BU c sure x;⟨t.sun+s.sun,t.carried+s.carried,t.enough&&s.enough⟩) t=⟨t.sun+(l.map fun x=>(BU c sure x).sun).sum,t.carried+(l.map fun x=>(BU c sure x).carried).sum,t.enough&&l.all fun x=>(BU c sure x).enough⟩
 |[],t=>by simp
 |x::l,t=>by rw[List.foldl_cons,jL c sure l];simp only[bx,bg,List.all_cons,Int.add_assoc,Bool.and_assoc]
theorem X7(c:AU)(sure:List (List Int))(l:List Sp):EV c sure l=⟨(l.map fun x=>(BU c sure x).sun).sum,(l.map fun x=>(BU c sure x).carried).sum,l.all fun x=>(BU c sure x).enough⟩:=by unfold EV;rw[jL];simp
theorem Q3{α:Type}{f g:α->Int}:∀{l:List α},(∀x∈l,f x<=g x)->(l.map f).sum<=(l.map g).sum
 |[],_=>by simp
 |x::l,h=>by have ih:=Q3 (l:=l) (f:=f) (g:=g) fun y hy=>h y (by simp[hy]);have:=h x (by simp);simp only[bx,bg];omega
theorem fS{α:Type}{f:α->Int}{m:Int}:∀{l:List α},(∀x∈l,0<=f x/\f x<=m)->0<=(l.map f).sum/\(l.map f).sum<=l.length*m
 |[],_=>by simp
 |x::l,h=>by
  have ih:=fS (l:=l) (f:=f) (m:=m) fun y hy=>h y (by simp[hy]);have:=h x (by simp);simp only[bx,bg,List.length_cons];have e:((l.length+1:Nat):Int)*m=l.length*m+m:=by rw[Int.natCast_add,Int.add_mul];simp
  omega
theorem UO{c:AU}:∀{l before:List Sp},N8 c before l=true↔(∀x∈l,KE c x=true)/\(∀x∈l,∀y∈before,GI c x y=true)/\l.Pairwise (fun y x=>GI c x y=true)
 |[],before=>by simp[N8]
 |x::l,before=>by
  simp only[N8,bj,List.all_eq_true,UO (l:=l) (before:=before++[x]),List.mem_append,bf,List.not_mem_nil,or_false,bw];constructor
  ·rintro ⟨⟨h1,h2⟩,h3,h4,h5⟩;refine⟨fun y hy=>?_,fun y hy z hz=>?_,fun y hy=>h4 y hy x (.inr rfl),h5⟩
   ·rcases hy with rfl|hy
    ·exact h1
    ·exact h3 y hy
   ·rcases hy with rfl|hy
    ·exact h2 z hz
    ·exact h4 y hy z (.inl hz)
  ·rintro ⟨h1,h2,h3,h4⟩;refine⟨⟨h1 x (.inl rfl),fun z hz=>h2 x (.inl rfl) z hz⟩,fun y hy=>h1 y (.inr hy),fun y hy z hz=>?_,h4⟩;rcases hz with hz|rfl
   ·exact h2 y (.inr hy) z hz
   ·exact h3 y hy
theorem fT{c:AU}{sure:List (List Int)}{gs:List (Nat×Int)}{l:List Sp}:OkS c sure gs l↔l.map wV=gs/\(∀x∈l,KE c x=true/\(BU c sure x).enough=true)/\l.Pairwise (fun y x=>GI c x y=true)/\MP l<=G5 c:=by
 constructor
 ·rintro ⟨h1,h2,h3,h4⟩;obtain⟨g1,_,g3⟩:=UO.1 h2;exact⟨h1,fun x hx=>⟨g1 x hx,h4 x hx⟩,g3,h3⟩
 ·rintro ⟨h1,h2,h3,h4⟩;exact⟨h1,UO.2 ⟨fun x hx=>(h2 x hx).1,fun x _ y hy=>(by cases hy),h3⟩,h4,fun x hx=>(h2 x hx).2⟩
theorem ABJ{α:Type}{R S:α->α->Prop}:∀{l:List α},(∀x∈l,∀y∈l,R x y->S x y)->l.Pairwise R->l.Pairwise S
 |[],_,_=>.nil
 |x::l,h,hp=>by obtain⟨h1,h2⟩:=bw.1 hp;exact bw.2 ⟨fun y hy=>h x (by simp) y (by simp[hy]) (h1 y hy),ABJ (fun a ha b hb=>h a (by simp[ha]) b (by simp[hb])) h2⟩
theorem OkS.mapS{c d:AU}{sure sure':List (List Int)}{gs:List (Nat×Int)}{l:List Sp}(h:OkS c sure gs l)(f:Sp->Sp)(h1:∀x∈l,KE c x=true->(BU c sure x).enough=true->KE d (f x)=true/\(BU d sure' (f x)).enough=true)(h2:∀x∈l,∀y∈l,GI c x y=true->GI d (f x) (f y)=true)(h3:MP (l.map f)<=G5 d):OkS d sure' ((l.map f).map wV) (l.map f):=by
 obtain⟨_,g2,g3,_⟩:=fT.1 h;refine fT.2 ⟨rfl,fun x hx=>?_,?_,h3⟩
 ·obtain⟨y,hy,rfl⟩:=bh.1 hx;exact h1 y hy (g2 y hy).1 (g2 y hy).2
 ·rw[List.pairwise_map];exact ABJ (fun x hx y hy e=>h2 y hy x hx e) g3
end Go.Wind
open Go Go.Pg Go.Proofs Go.Wind
namespace Go.Wind
theorem XG{c:AU}{x:Sp}(h:KE c x=true):0<=x.row/\x.row<c.beach.rows/\0<=x.place/\x.place+x.size<=c.beach.places:=by simp only[KE,bj,D7]at h;omega
end Go.Wind
namespace Go.Proofs.Tryz.Op
def tK(c:AU)(r p:Nat):Int:=(uD c.beach c.plan r p).1
theorem ABK{c:AU}(hc:CW c):FK c.beach [] c.beach.winds []≠[]:=fun e=>hc.tr (MQ.1 (by rw[e];rfl))
theorem ABL{c:AU}(hc:CW c)(r p:Nat):JG (CE c.beach) (fun t=>(JS c.beach c.plan t r p).good) (tK c r p):=by have ha:=fK hc.be (ABK hc);unfold tK;rw[YZ hc.be ha];exact(kI hc.be ha c.plan r p).1
theorem ABM{c:AU}(hc:CW c)(r p:Nat):0<=tK c r p/\tK c r p<=5:=by obtain⟨t,ht,e⟩:=(ABL hc r p).2;have h1:=dT c.beach c.plan t r p;have h2:=dS hc.be ht;omega
theorem jM{c:AU}(hc:CW c):∀l∈AV c,l.length=5/\∀x∈l,0<=x/\x<=5:=fun l hl=>by
 have hpl:=hc.be.pl;simp only[AV,FG,bk,bh,bq]at hl;obtain⟨r,hr,rfl⟩:=hl;refine⟨by simp[E5],fun x hx=>?_⟩;simp only[Function.comp_apply,E5,bh,bq]at hx;obtain⟨p,hp,rfl⟩:=hx;have hl:(QM c.beach (FJ c.beach) c.plan r).length=c.beach.places.toNat:=by simp[QM]
 by_cases h:p<(QM c.beach (FJ c.beach) c.plan r).length
 ·rw[if_pos h,List.getD_eq_getElem?_getD];have hp:p<c.beach.places.toNat:=by omega
  unfold QM;rw[List.getElem?_map,List.getElem?_range hp];simp only[Option.map_some,Option.getD_some,sM];rw[<-YZ hc.be (fK hc.be (ABK hc))];exact ABM hc r p
 ·rw[if_neg h];decide
theorem wX{c:AU}:(AV c).length=c.beach.rows.toNat:=by simp[AV,FG]
end Go.Proofs.Tryz.Op
namespace Go.Wind
def NM(f:Nat->Nat)(x:Sp):Sp:={ x with fam:=f x.fam }
theorem wY(f:Nat->Nat)(l:List Sp):(l.map (NM f)).map wV=(l.map wV).map fun g=>(f g.1,g.2):=by rw[bk,bk];rfl
theorem fU(f:Nat->Nat)(l:List Sp):MP (l.map (NM f))=MP l:=by unfold MP;rw[bk];rfl
def LeS(c:AU)(s u:List (List Int)):Prop:=∀r p:Nat,r<c.beach.rows.toNat->p<c.beach.places.toNat->GJ s r p<=GJ u r p
theorem LeS.rfl{c:AU}{s:List (List Int)}:LeS c s s:=fun _ _ _ _=>Int.le_refl _
theorem LeS.in{c:AU}{s u:List (List Int)}(h:LeS c s u){x:Sp}(hx:KE c x=true){p:Nat}(hp:p<x.size.toNat):GJ s x.row (x.place+(p:Int))<=GJ u x.row (x.place+(p:Int)):=by
 obtain⟨h1,h2,h3,h4⟩:=XG hx;have:=h x.row.toNat (x.place.toNat+p) (by omega) (by omega);have e1:((x.row.toNat:Nat):Int)=x.row:=by omega
 have e2:((x.place.toNat+p:Nat):Int)=x.place+(p:Int):=by omega
 rwa [e1,e2]at this
theorem Q4{f g:Nat->Int}:∀{n:Nat},(∀p,p<n->f p<=g p)->HS f n<=HS g n
 |0,_=>Int.le_refl _
 |n+1,h=>by have ih:=Q4 (f:=f) (g:=g) (n:=n) fun p hp=>h p (by omega);have:=h n (by omega);simp only[HS];omega
structure Eas(c d:AU)(s u:List (List Int))(gs:List (Nat×Int))(f:Nat->Nat):Prop where
 ro:d.beach.rows=c.beach.rows
 pl:d.beach.places=c.beach.places
 su:LeS c s u
 go:∀g∈gs,(DS d (f g.1)).good<=(DS c g.1).good
 mi:∀g∈gs,∀k∈gs,RP d (f g.1) (f k.1)=true->RP c g.1 k.1=true
 ch:G5 c<=G5 d
theorem Eas.fits{c d:AU}{s u:List (List Int)}{gs:List (Nat×Int)}{f:Nat->Nat}(h:Eas c d s u gs f)(x:Sp):KE d (NM f x)=KE c x:=by unfold KE;rw[h.ro,h.pl];rfl
theorem Eas.ok{c d:AU}{s u:List (List Int)}{gs:List (Nat×Int)}{f:Nat->Nat}(h:Eas c d s u gs f){l:List Sp}(hl:OkS c s gs l):OkS d u (gs.map fun g=>(f g.1,g.2)) (l.map (NM f)):=by
 have hg:∀x∈l,wV x∈gs:=fun x hx=>by rw[<-hl.gr];exact List.mem_map_of_mem hx
 have e:gs.map (fun g=>(f g.1,g.2))=(l.map (NM f)).map wV:=by rw[wY,hl.gr]
 rw[e];refine hl.mapS (NM f) (fun x hx h1 h2=>⟨by rw[h.fits];exact h1,?_⟩) (fun x hx y hy ha=>?_) ?_
 ·have e2:(BU d u (NM f x)).enough=(List.range x.size.toNat).all fun p=>decide ((DS d (f x.fam)).good<=GJ u x.row (x.place+(p:Int))):=rfl;rw[e2];simp only[BU,List.all_eq_true,bq,decide_eq_true_eq]at h2|-;intro p hp;have a1:=h2 p hp;have a2:=h.su.in h1 hp;have a3:=h.go _ (hg x hx);simp only[wV]at a3;omega
 ·have e2:GI d (NM f x) (NM f y)=(decide (x.row≠y.row)||(decide (0<oQ x y)||(decide (oQ x y=0)&&!RP d (f x.fam) (f y.fam)))):=rfl;rw[e2];simp only[GI,Bool.or_eq_true,decide_eq_true_eq,bj,Bool.not_eq_true',<-Bool.not_eq_true]at ha|-;rcases ha with ha|ha|⟨ha,hb⟩
  ·exact .inl ha
  ·exact .inr (.inl ha)
  ·exact .inr (.inr ⟨ha,fun hm=>hb (h.mi _ (hg x hx) _ (hg y hy) hm)⟩)
 ·rw[fU];have:=hl.pe;have:=h.ch;omega
theorem Eas.can{c d:AU}{s u:List (List Int)}{gs:List (Nat×Int)}{f:Nat->Nat}(h:Eas c d s u gs f)(hc:W5 c s gs=true):W5 d u (gs.map fun g=>(f g.1,g.2))=true:=by obtain⟨l,hl⟩:=fR.1 hc;exact fR.2 ⟨_,h.ok hl⟩
theorem Eas.sun{c d:AU}{s u:List (List Int)}{gs:List (Nat×Int)}{f:Nat->Nat}(h:Eas c d s u gs f){l:List Sp}(hl:OkS c s gs l):(EV c s l).sun<=(EV d u (l.map (NM f))).sun:=by rw[X7,X7];simp only[bk];exact Q3 fun x hx=>Q4 fun p hp=>h.su.in ((fT.1 hl).2.1 x hx).1 hp
theorem oR{c d:AU}{s u:List (List Int)}(f:Nat->Nat)(h:∀r p,F6 c r p=true->F6 d r p=true)(l:List Sp):(EV d u (l.map (NM f))).carried<=(EV c s l).carried:=by
 rw[X7,X7];simp only[bk];refine Q3 fun x hx=>Q4 fun p hp=>?_;show(if F6 d x.row (x.place+(p:Int))=true then(0:Int) else 1)<=if F6 c x.row (x.place+(p:Int))=true then 0 else 1
 by_cases hz:F6 c x.row (x.place+(p:Int))=true
 ·rw[if_pos hz,if_pos (h _ _ hz)];exact Int.le_refl _
 ·rw[if_neg hz];split<;>decide
theorem Eas.best{c d:AU}{s u:List (List Int)}{gs:List (Nat×Int)}{f:Nat->Nat}(h:Eas c d s u gs f){b:List Sp}{t:BW}(hb:XY c s (P5 c s gs)=some (b,t)):∃b' t',XY d u (P5 d u (gs.map fun g=>(f g.1,g.2)))=some (b',t')/\t.sun<=t'.sun/\tI t' (EV d u (b.map (NM f))):=by
 obtain⟨h1,h2,_⟩:=UN hb;have hl:=RU.1 h1;have hm:=RU.2 (h.ok hl);cases hz:XY d u (P5 d u (gs.map fun g=>(f g.1,g.2)))with
 |none=>
  rw[wW.1 hz]at hm
  cases hm
 |some q=>
  obtain⟨b',t'⟩:=q
  have h3:=(UN hz).2.2 _ hm
  refine⟨b',t',rfl,?_,h3⟩
  have h4:=h.sun hl
  rw[<-h2]at h4
  unfold tI at h3
  omega
def V8(n:Nat)(out:List Int):List Nat:=(List.range n).filter fun k=>!decide ((k:Int)∈out)
theorem oS(n:Nat)(out:List Int):V8 (n+1) out=V8 n out++if (n:Int)∈out then[] else[n]:=by unfold V8;rw[List.range_succ,List.filter_append];congr 1;by_cases h:(n:Int)∈out<;>simp[h]
end Go.Wind
namespace Go.Proofs.Tryz.Op
theorem V9(c:AU)(out:List Int):∀k,C7 c.fams out k=(V8 k out).map fun j=>(j,(DS c j).size)
 |0=>rfl
 |k+1=>by
  rw[oS,List.map_append,<-V9 c out k];show C7 c.fams out k++_=_;congr 1;by_cases h:(k:Int)∈out
  ·simp[h]
  ·simp[h,DS]
theorem J1(c:AU)(out:List Int):BG c out=(V8 c.fams.length out).map fun j=>(j,(DS c j).size):=V9 c out _
def spt(x:Sp):Int×Int:=(x.row,x.place)
def GO(c:AU):Option (List Sp×BW):=XY c (AV c) (P5 c (AV c) (BG c []))
def FU(c:AU):List (Int×Int)×Int×Int×Int:=if DE c≠0 then([],0,0,DE c) else match GO c with
 |some q=>(q.1.map spt,q.2.sun,q.2.carried,0)
 |none=>([],0,0,10)
def FV(c:AU)(out:List Int):Bool:=W5 c (AV c) (BG c out)
def XH(c:AU):List Int×Int:=if DE c≠0 then([],DE c) else((Q0 (FV c) c.fams.length).getD [],0)
theorem ABN(c:AU)(s:List (List Int)):W5 c s []=true:=fR.2 ⟨[],rfl,rfl,by simp[MP],by simp⟩
theorem wZ{n:Nat}{out:List Int}(h:∀k:Nat,k<n->(k:Int)∈out):V8 n out=[]:=by unfold V8;rw[List.filter_eq_nil_iff];intro k hk;simp[h k (bq.1 hk)]
theorem X8{x k:Nat}:∀{N:Nat},(k:Int)∈FW x N↔k<N/\x.testBit k=true
 |0=>by simp[FW]
 |N+1=>by
  rw[I1];split
  ·rename_i h;rw[List.mem_append,X8,bc];constructor
   ·rintro (⟨h1,h2⟩|e)
    ·exact⟨by omega,h2⟩
    ·have:k=N:=by omega
     subst this;exact⟨by omega,h⟩
   ·rintro ⟨h1,h2⟩;by_cases e:k=N
    ·exact .inr (by rw[e])
    ·exact .inl ⟨by omega,h2⟩
  ·rename_i h;rw[X8];constructor
   ·rintro ⟨h1,h2⟩;exact⟨by omega,h2⟩
   ·rintro ⟨h1,h2⟩;refine⟨?_,h2⟩;by_cases e:k=N
    ·subst e;exact absurd h2 h
    ·omega
theorem ABO(c:AU):FV c (FW (2 ^ c.fams.length-1) c.fams.length)=true:=by unfold FV;rw[J1,wZ fun k hk=>X8.2 ⟨hk,by rw[Nat.testBit_two_pow_sub_one];exact decide_eq_true hk⟩];exact ABN _ _
theorem N9(c:AU):∃y,Q0 (FV c) c.fams.length=some y/\V7 (FV c) c.fams.length y:=by have e:=ABI (ABO c);have h:=X5 (FV c) c.fams.length;rw[e]at h;exact⟨_,e,h⟩
end Go.Proofs.Tryz.Op
