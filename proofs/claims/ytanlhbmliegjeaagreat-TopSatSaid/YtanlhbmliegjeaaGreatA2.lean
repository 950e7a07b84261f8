/- Allowed seatings, told by their members; the best one. No program in sight. -/
import Derived.Test.YtanlhbmliegjeaaGreatS3
import Derived.Test.YtanlhbmliegjeaaGreatD1
open Bool renaming and_eq_true->bj
open List renaming getD_eq_getElem?_getD->bk,getElem?_range->bq,getElem?_map->bw,getElem?_eq_getElem->bx,map_cons->bb,mem_range->bf,mem_cons->bg,sum_cons->bh,map_map->bm,range->bn
open Option renaming getD_some->bz,map_some->bc
set_option maxRecDepth 100000
namespace Go.Wind
def grp(x:Sp):Nat×Int:=(x.fam,x.size)
theorem TH{c:A0}{sure:List (List Int)}:∀{gs:List (Nat×Int)} {out l:List Sp},l∈FC c sure gs out↔∃r,l=out++r/\r.map grp=gs/\DY c out r=true/\∀x∈r,(B5 c sure x).enough=true
 |[],out,l=>by
  simp only[FC,List.mem_singleton];constructor
  ·rintro rfl;exact⟨[],by simp,rfl,rfl,by simp⟩
  ·rintro ⟨r,rfl,h,_,_⟩;rw[List.map_eq_nil_iff]at h;subst h;simp
 |g::gs,out,l=>by
  simp only[FC,List.mem_flatMap,bf];constructor
  ·rintro ⟨r,hr,p,hp,h⟩;split at h
   ·rename_i hz;simp only[bj]at hz;obtain⟨q,rfl,h1,h2,h3⟩:=TH.1 h;refine⟨⟨g.1,g.2,(r:Int),(p:Int)⟩::q,by simp,by simp[grp,h1],?_,?_⟩
    ·simp only[DY,bj];refine⟨⟨?_,hz.2⟩,h2⟩;simp only[JJ,bj,DV];omega
    ·intro x hx;rcases bg.1 hx with rfl|hx
     ·exact hz.1
     ·exact h3 x hx
   ·cases h
  ·rintro ⟨q,rfl,h1,h2,h3⟩;cases q with
   |nil=>cases h1
   |cons x q=>
    simp only[bb,List.cons.injEq]at h1
    obtain⟨rfl,h1⟩:=h1
    simp only[DY,bj]at h2
    have hf:=h2.1.1
    simp only[JJ,bj,DV]at hf
    have e1:((x.row.toNat:Nat):Int)=x.row:=by omega
    have e2:((x.place.toNat:Nat):Int)=x.place:=by omega
    refine⟨x.row.toNat,by omega,x.place.toNat,by simp only[grp];omega,?_⟩
    simp only[grp,e1,e2]
    rw[if_pos (by rw[h3 x (by simp),h2.1.2];rfl)]
    exact TH.2 ⟨q,by simp,h1,h2.2,fun y hy=>h3 y (by simp[hy])⟩
def DU(gs:List (Nat×Int)):Int:=(gs.map (·.2)).sum
def fD(c:A0)(sure:List (List Int))(gs:List (Nat×Int)):List (List Sp):=if (GD c:Int)<DU gs then[] else FC c sure gs []
structure OkS(c:A0)(sure:List (List Int))(gs:List (Nat×Int))(l:List Sp):Prop where
 gr:l.map grp=gs
 go:DY c [] l=true
 pe:E1 l<=GD c
 en:∀x∈l,(B5 c sure x).enough=true
theorem WU(l:List Sp):E1 l=DU (l.map grp):=by unfold E1 DU;rw[bm];rfl
theorem AG9{c:A0}{sure:List (List Int)}{gs:List (Nat×Int)}{l:List Sp}:l∈fD c sure gs↔OkS c sure gs l:=by
 unfold fD;by_cases h:(GD c:Int)<DU gs
 ·rw[if_pos h];refine⟨fun hh=>(by cases hh),fun hh=>?_⟩;have:=hh.pe;rw[WU,hh.gr]at this;omega
 ·rw[if_neg h,TH];constructor
  ·rintro ⟨r,e,h1,h2,h3⟩;rw[List.nil_append]at e;subst e;refine⟨h1,h2,?_,h3⟩;rw[WU,h1];omega
  ·rintro ⟨h1,h2,_,h3⟩;exact⟨l,rfl,h1,h2,h3⟩
def geS(a b:CD):Prop:=b.sun<a.sun\/b.sun=a.sun/\a.carried<=b.carried
theorem RA(a:CD):geS a a:=.inr ⟨rfl,Int.le_refl _⟩
theorem cU{a b d:CD}(h1:geS a b)(h2:geS b d):geS a d:=by unfold geS at *;omega
theorem tK{c:A0}{sure:List (List Int)}:∀(ls:List (List Sp)) (acc:Option (List Sp×CD)),match ls.foldl (EL c sure) acc with
  |some (_,t)=>(∀l∈ls,geS t (EY c sure l))/\∀b u,acc=some (b,u)->geS t u
  |none=>True
 |[],acc=>by
  cases acc with
  |none=>trivial
  |some bt=>
   refine⟨fun l hl=>(by cases hl),fun b u h=>?_⟩
   cases h
   exact RA _
 |l::ls,acc=>by
  have ih:=tK (c:=c) (sure:=sure) ls (EL c sure acc l);simp only[List.foldl_cons];have hstep:∃b t,EL c sure acc l=some (b,t)/\geS t (EY c sure l)/\∀b' u,acc=some (b',u)->geS t u:=by
   cases acc with
   |none=>exact⟨l,_,rfl,RA _,fun b' u h=>(by cases h)⟩
   |some bt=>
    obtain⟨b,t⟩:=bt
    simp only[EL]
    split
    ·rename_i h;refine⟨b,t,rfl,?_,fun b' u h=>?_⟩
     ·unfold geS;omega
     ·cases h;exact RA _
    ·rename_i h;refine⟨l,_,rfl,RA _,fun b' u h2=>?_⟩;cases h2;unfold geS;omega
  obtain⟨b,t,e,g1,g2⟩:=hstep;rw[e]at ih|-;generalize ls.foldl (EL c sure) (some (b,t))=R at ih|-;cases R with
  |none=>trivial
  |some q=>
   obtain⟨b2,t2⟩:=q
   simp only at ih|-
   obtain⟨h1,h2⟩:=ih
   have h3:=h2 b t rfl
   refine⟨fun x hx=>?_,fun b' u h=>cU h3 (g2 b' u h)⟩
   rcases bg.1 hx with rfl|hx
   ·exact cU h3 g1
   ·exact h1 x hx
theorem wY{c:A0}{sure:List (List Int)}{ls:List (List Sp)}{b:List Sp}{t:CD}(h:ABC c sure ls=some (b,t)):b∈ls/\t=EY c sure b/\∀l∈ls,geS t (EY c sure l):=by
 have h1:=jD (c:=c) (sure:=sure) ls none;have h2:=tK (c:=c) (sure:=sure) ls none;have h:ls.foldl (EL c sure) none=_:=h;rw[h]at h1 h2;simp only at h1 h2;rcases h1 with⟨a1,a2⟩|a
 ·exact⟨a1,a2,h2.1⟩
 ·cases a
theorem jG(c:A0)(sure:List (List Int)):∀(l:List Sp) (t:CD),l.foldl (fun t x=>let s:=B5 c sure x;⟨t.sun+s.sun,t.carried+s.carried,t.enough&&s.enough⟩) t=⟨t.sun+(l.map fun x=>(B5 c sure x).sun).sum,t.carried+(l.map fun x=>(B5 c sure x).carried).sum,t.enough&&l.all fun x=>(B5 c sure x).enough⟩
 |[],t=>by simp
 |x::l,t=>by rw[List.foldl_cons,jG c sure l];simp only[bb,bh,List.all_cons,Int.add_assoc,Bool.and_assoc]
theorem oV(c:A0)(sure:List (List Int))(l:List Sp):EY c sure l=⟨(l.map fun x=>(B5 c sure x).sun).sum,(l.map fun x=>(B5 c sure x).carried).sum,l.all fun x=>(B5 c sure x).enough⟩:=by unfold EY;rw[jG];simp
theorem QF{α:Type}{f g:α->Int}:∀{l:List α},(∀x∈l,f x<=g x)->(l.map f).sum<=(l.map g).sum
 |[],_=>by simp
 |x::l,h=>by have ih:=QF (l:=l) (f:=f) (g:=g) fun y hy=>h y (by simp[hy]);have:=h x (by simp);simp only[bb,bh];omega
theorem fE{α:Type}{f:α->Int}{m:Int}:∀{l:List α},(∀x∈l,0<=f x/\f x<=m)->0<=(l.map f).sum/\(l.map f).sum<=l.length*m
 |[],_=>by simp
 |x::l,h=>by
  have ih:=fE (l:=l) (f:=f) (m:=m) fun y hy=>h y (by simp[hy]);have:=h x (by simp);simp only[bb,bh,List.length_cons];have e:((l.length+1:Nat):Int)*m=l.length*m+m:=by rw[Int.natCast_add,Int.add_mul];simp
  omega
theorem cV{c:A0}:∀{l before:List Sp},DY c before l=true↔(∀x∈l,JJ c x=true)/\(∀x∈l,∀y∈before,FA c x y=true)/\l.Pairwise (fun y x=>FA c x y=true)
 |[],before=>by simp[DY]
 |x::l,before=>by
  simp only[DY,bj,List.all_eq_true,cV (l:=l) (before:=before++[x]),List.mem_append,bg,List.not_mem_nil,or_false,List.pairwise_cons];constructor
  ·rintro ⟨⟨h1,h2⟩,h3,h4,h5⟩;refine⟨fun y hy=>?_,fun y hy z hz=>?_,fun y hy=>h4 y hy x (.inr rfl),h5⟩
   ·rcases hy with rfl|hy
    ·exact h1
    ·exact h3 y hy
   ·rcases hy with rfl|hy
    ·exact h2 z hz
    ·exact h4 y hy z (.inl hz)
  ·rintro ⟨h1,h2,h3,h4⟩;refine⟨⟨h1 x (.inl rfl),fun z hz=>h2 x (.inl rfl) z hz⟩,fun y hy=>h1 y (.inr hy),fun y hy z hz=>?_,h4⟩;rcases hz with hz|rfl
   ·exact h2 y (.inr hy) z hz
   ·exact h3 y hy
end Go.Wind
open Go Go.Pg Go.Proofs Go.Wind
namespace Go.Wind
theorem fF{c:A0}{x:Sp}(h:JJ c x=true):0<=x.row/\x.row<c.beach.rows/\0<=x.place/\x.place+x.size<=c.beach.places:=by simp only[JJ,bj,DV]at h;omega
end Go.Wind
namespace Go.Proofs.Tryz.Op
def jH(c:A0)(r p:Nat):Int:=(uF c.beach c.plan r p).1
theorem WV{c:A0}(hc:CJ c):EU c.beach [] c.beach.winds []≠[]:=fun e=>hc.tr (ME.1 (by rw[e];rfl))
theorem jI{c:A0}(hc:CJ c){r p:Nat}(hr:r<c.beach.rows.toNat)(hp:p<c.beach.places.toNat):GI (AY c) r p=jH c r p:=by
 have hpl:=hc.be.pl;unfold GI AY E0;rw[bk,bk,bm,bw,Int.toNat_natCast,Int.toNat_natCast,bq hr];simp only[bc,bz,Function.comp_apply];have hl:(NC c.beach (DZ c.beach) c.plan r).length=c.beach.places.toNat:=by simp[NC]
 unfold ER;rw[bw,bq (by omega)];simp only[bc,bz];rw[if_pos (by omega),bk];unfold NC;rw[bw,bq hp];simp only[bc,bz,oJ];rw[<-QJ hc.be (PO hc.be (WV hc))];rfl
theorem jJ{c:A0}(hc:CJ c)(r p:Nat):HY (BC c.beach) (fun t=>(B7 c.beach c.plan t r p).good) (jH c r p):=by have ha:=PO hc.be (WV hc);unfold jH;rw[QJ hc.be ha];exact(kJ hc.be ha c.plan r p).1
theorem jK{c:A0}(hc:CJ c)(r p:Nat):0<=jH c r p/\jH c r p<=5:=by obtain⟨t,ht,e⟩:=(jJ hc r p).2;have h1:=O5 c.beach c.plan t r p;have h2:=TW hc.be ht;omega
theorem jL{c:A0}(hc:CJ c):∀l∈AY c,l.length=5/\∀x∈l,0<=x/\x<=5:=fun l hl=>by
 have hpl:=hc.be.pl;simp only[AY,E0,bm,List.mem_map,bf]at hl;obtain⟨r,hr,rfl⟩:=hl;refine⟨by simp[ER],fun x hx=>?_⟩;simp only[Function.comp_apply,ER,List.mem_map,bf]at hx;obtain⟨p,hp,rfl⟩:=hx;have hl:(NC c.beach (DZ c.beach) c.plan r).length=c.beach.places.toNat:=by simp[NC]
 by_cases h:p<(NC c.beach (DZ c.beach) c.plan r).length
 ·rw[if_pos h,bk];have hp:p<c.beach.places.toNat:=by omega
  unfold NC;rw[bw,bq hp];simp only[bc,bz,oJ];rw[<-QJ hc.be (PO hc.be (WV hc))];exact jK hc r p
 ·rw[if_neg h];decide
theorem wZ{c:A0}:(AY c).length=c.beach.rows.toNat:=by simp[AY,E0]
end Go.Proofs.Tryz.Op
namespace Go.Wind
def LeS(c:A0)(s u:List (List Int)):Prop:=∀r p:Nat,r<c.beach.rows.toNat->p<c.beach.places.toNat->GI s r p<=GI u r p
theorem QG{f g:Nat->Int}:∀{n:Nat},(∀p,p<n->f p<=g p)->BZ f n<=BZ g n
 |0,_=>Int.le_refl _
 |n+1,h=>by have ih:=QG (f:=f) (g:=g) (n:=n) fun p hp=>h p (by omega);have:=h n (by omega);simp only[BZ];omega
structure Eas(c d:A0)(s u:List (List Int))(gs:List (Nat×Int))(f:Nat->Nat):Prop where
 ro:d.beach.rows=c.beach.rows
 pl:d.beach.places=c.beach.places
 su:LeS c s u
 go:∀g∈gs,(GO d (f g.1)).good<=(GO c g.1).good
 mi:∀g∈gs,∀k∈gs,cS d (f g.1) (f k.1)=true->cS c g.1 k.1=true
 ch:GD c<=GD d
def WW(n:Nat)(out:List Int):List Nat:=(bn n).filter fun k=>!decide ((k:Int)∈out)
theorem oW(n:Nat)(out:List Int):WW (n+1) out=WW n out++if (n:Int)∈out then[] else[n]:=by unfold WW;rw[List.range_succ,List.filter_append];congr 1;by_cases h:(n:Int)∈out<;>simp[h]
theorem xA(n:Nat):WW n []=bn n:=by unfold WW;simp
end Go.Wind
namespace Go.Proofs.Tryz.Op
theorem U6(c:A0)(out:List Int):∀k,DA c.fams out k=(WW k out).map fun j=>(j,(GO c j).size)
 |0=>rfl
 |k+1=>by
  rw[oW,List.map_append,<-U6 c out k];show DA c.fams out k++_=_;congr 1;by_cases h:(k:Int)∈out
  ·simp[h]
  ·simp[h,GO]
theorem fG(c:A0)(out:List Int):BT c out=(WW c.fams.length out).map fun j=>(j,(GO c j).size):=U6 c out _
def iS(x:Sp):Int×Int:=(x.row,x.place)
theorem QH(c:A0):BT c []=(bn c.fams.length).map fun j=>(j,(GO c j).size):=by rw[fG,xA]
theorem xB{c:A0}{l:List Sp}(h:l.map grp=BT c []):BF c (l.map iS)=l:=by
 have hl:l.length=c.fams.length:=by have:=congrArg List.length h;rw[QH]at this;simpa using this
 have hl2:(BF c (l.map iS)).length=c.fams.length:=FQ (by simp[hl]);apply List.ext_getElem (by omega);intro p h1 h2;have hp:p<c.fams.length:=by omega
 have e:=Q8 (k:=0) (fs:=c.fams) (ss:=l.map iS) p hp (by simp;omega) h1;rw[Nat.zero_add]at e;refine e.trans ?_;have hg:(l.map grp)[p]'(by simpa using h2)=(p,(GO c p).size):=by
  have:(l.map grp)[p]? = (BT c [])[p]?:=by rw[h]
  rw[bx (by simpa using h2),QH,bw,bq hp]at this;simpa using this
 rw[List.getElem_map]at hg;have h3:(GO c p).size=(c.fams[p]).size:=by simp[GO,bx hp]
 rw[h3]at hg;simp only[grp,Prod.mk.injEq]at hg;simp only[List.getElem_map,iS];have hx:∀x:Sp,x.fam=p->x.size=(c.fams[p]).size->(⟨p,(c.fams[p]).size,x.row,x.place⟩:Sp)=x:=fun x e1 e2=>by obtain⟨a,b,r,q⟩:=x;simp only at e1 e2|-;subst e2;simp only[e1]
 exact hx _ hg.1 hg.2
theorem AHA{c:A0}{s:List (List Int)}{l:List Sp}(h:OkS c s (BT c []) l):FB c (l.map iS)=true/\BF c (l.map iS)=l:=by
 have e:=xB h.gr;have hl:l.length=c.fams.length:=by have:=congrArg List.length h.gr;rw[QH]at this;simpa using this
 refine⟨?_,e⟩;simp only[FB,JM,bj,decide_eq_true_eq,e];exact⟨by simpa using hl,h.go,h.pe⟩
def KQ(c:A0):Option (List Sp×CD):=ABC c (AY c) (fD c (AY c) (BT c []))
def TI(c:A0):List (Int×Int)×Int×Int×Int:=if EQ c≠0 then([],0,0,EQ c) else match KQ c with
 |some q=>(q.1.map iS,q.2.sun,q.2.carried,0)
 |none=>([],0,0,10)
end Go.Proofs.Tryz.Op
