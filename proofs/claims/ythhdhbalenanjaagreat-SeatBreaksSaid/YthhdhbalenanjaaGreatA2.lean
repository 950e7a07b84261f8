/- Allowed seatings, told by their members; the best one. No program in sight. -/
import Derived.Test.YthhdhbalenanjaaGreatS3
open List renaming getD_eq_getElem?_getD->bj,getElem?_range->bq,getElem?_map->bw,getElem?_eq_getElem->bx,all_eq_true->bz,mem_range->bc,range->bg,getElem_map->bh,map_congr_left->bn,map_cons->bp,map_map->cj
open Bool renaming and_eq_true->bk
open Int renaming toNat_natCast->bb
open Option renaming getD_some->bf,map_some->bm
set_option maxRecDepth 100000
namespace Go.Wind
def tD(x:Sp):Nat×Int:=(x.fam,x.size)
theorem V6{c:AM}{sure:List (List Int)}:∀{gs:List (Nat×Int)} {out l:List Sp},l∈EW c sure gs out↔∃r,l=out++r/\r.map tD=gs/\GD c out r=true/\∀x∈r,(BF c sure x).enough=true
 |[],out,l=>by
  simp only[EW,List.mem_singleton];constructor
  ·rintro rfl;exact⟨[],by simp,rfl,rfl,by simp⟩
  ·rintro ⟨r,rfl,h,_,_⟩;rw[List.map_eq_nil_iff]at h;subst h;simp
 |g::gs,out,l=>by
  simp only[EW,List.mem_flatMap,bc];constructor
  ·rintro ⟨r,hr,p,hp,h⟩;split at h
   ·rename_i hz;simp only[bk]at hz;obtain⟨q,rfl,h1,h2,h3⟩:=V6.1 h;refine⟨⟨g.1,g.2,(r:Int),(p:Int)⟩::q,by simp,by simp[tD,h1],?_,?_⟩
    ·simp only[GD,bk];refine⟨⟨?_,hz.2⟩,h2⟩;simp only[D9,bk,C6];omega
    ·intro x hx;rcases List.mem_cons.1 hx with rfl|hx
     ·exact hz.1
     ·exact h3 x hx
   ·cases h
  ·rintro ⟨q,rfl,h1,h2,h3⟩;cases q with
   |nil=>cases h1
   |cons x q=>
    simp only[bp,List.cons.injEq]at h1
    obtain⟨rfl,h1⟩:=h1
    simp only[GD,bk]at h2
    have hf:=h2.1.1
    simp only[D9,bk,C6]at hf
    have e1:((x.row.toNat:Nat):Int)=x.row:=by omega
    have e2:((x.place.toNat:Nat):Int)=x.place:=by omega
    refine⟨x.row.toNat,by omega,x.place.toNat,by simp only[tD];omega,?_⟩
    simp only[tD,e1,e2]
    rw[if_pos (by rw[h3 x (by simp),h2.1.2];rfl)]
    exact V6.2 ⟨q,by simp,h1,h2.2,fun y hy=>h3 y (by simp[hy])⟩
def D1(gs:List (Nat×Int)):Int:=(gs.map (·.2)).sum
def YP(c:AM)(sure:List (List Int))(gs:List (Nat×Int)):List (List Sp):=if (CZ c:Int)<D1 gs then[] else EW c sure gs []
structure OkS(c:AM)(sure:List (List Int))(gs:List (Nat×Int))(l:List Sp):Prop where
 gr:l.map tD=gs
 go:GD c [] l=true
 pe:OQ l<=CZ c
 en:∀x∈l,(BF c sure x).enough=true
theorem ZN(l:List Sp):OQ l=D1 (l.map tD):=by unfold OQ D1;rw[cj];rfl
theorem jQ{c:AM}{sure:List (List Int)}{gs:List (Nat×Int)}{l:List Sp}:l∈YP c sure gs↔OkS c sure gs l:=by
 unfold YP;by_cases h:(CZ c:Int)<D1 gs
 ·rw[if_pos h];refine⟨fun hh=>(by cases hh),fun hh=>?_⟩;have:=hh.pe;rw[ZN,hh.gr]at this;omega
 ·rw[if_neg h,V6];constructor
  ·rintro ⟨r,e,h1,h2,h3⟩;rw[List.nil_append]at e;subst e;refine⟨h1,h2,?_,h3⟩;rw[ZN,h1];omega
  ·rintro ⟨h1,h2,_,h3⟩;exact⟨l,rfl,h1,h2,h3⟩
def geS(a b:B5):Prop:=b.sun<a.sun\/b.sun=a.sun/\a.carried<=b.carried
theorem SQ(a:B5):geS a a:=.inr ⟨rfl,Int.le_refl _⟩
theorem gB{a b d:B5}(h1:geS a b)(h2:geS b d):geS a d:=by unfold geS at *;omega
theorem wR{c:AM}{sure:List (List Int)}:∀(ls:List (List Sp)) (acc:Option (List Sp×B5)),match ls.foldl (EL c sure) acc with
  |some (_,t)=>(∀l∈ls,geS t (EJ c sure l))/\∀b u,acc=some (b,u)->geS t u
  |none=>True
 |[],acc=>by
  cases acc with
  |none=>trivial
  |some bt=>
   refine⟨fun l hl=>(by cases hl),fun b u h=>?_⟩
   cases h
   exact SQ _
 |l::ls,acc=>by
  have ih:=wR (c:=c) (sure:=sure) ls (EL c sure acc l);simp only[List.foldl_cons];have hstep:∃b t,EL c sure acc l=some (b,t)/\geS t (EJ c sure l)/\∀b' u,acc=some (b',u)->geS t u:=by
   cases acc with
   |none=>exact⟨l,_,rfl,SQ _,fun b' u h=>(by cases h)⟩
   |some bt=>
    obtain⟨b,t⟩:=bt
    simp only[EL]
    split
    ·rename_i h;refine⟨b,t,rfl,?_,fun b' u h=>?_⟩
     ·unfold geS;omega
     ·cases h;exact SQ _
    ·rename_i h;refine⟨l,_,rfl,SQ _,fun b' u h2=>?_⟩;cases h2;unfold geS;omega
  obtain⟨b,t,e,g1,g2⟩:=hstep;rw[e]at ih|-;generalize ls.foldl (EL c sure) (some (b,t))=R at ih|-;cases R with
  |none=>trivial
  |some q=>
   obtain⟨b2,t2⟩:=q
   simp only at ih|-
   obtain⟨h1,h2⟩:=ih
   have h3:=h2 b t rfl
   refine⟨fun x hx=>?_,fun b' u h=>gB h3 (g2 b' u h)⟩
   rcases List.mem_cons.1 hx with rfl|hx
   ·exact gB h3 g1
   ·exact h1 x hx
theorem gC{c:AM}{sure:List (List Int)}{ls:List (List Sp)}{b:List Sp}{t:B5}(h:wM c sure ls=some (b,t)):b∈ls/\t=EJ c sure b/\∀l∈ls,geS t (EJ c sure l):=by
 have h1:=ZL (c:=c) (sure:=sure) ls none;have h2:=wR (c:=c) (sure:=sure) ls none;have h:ls.foldl (EL c sure) none=_:=h;rw[h]at h1 h2;simp only at h1 h2;rcases h1 with⟨a1,a2⟩|a
 ·exact⟨a1,a2,h2.1⟩
 ·cases a
theorem AAZ{c:AM}{sure:List (List Int)}{ls:List (List Sp)}:wM c sure ls=none↔ls=[]:=by
 constructor
 ·intro h;have h1:=ZL (c:=c) (sure:=sure) ls none;have h:ls.foldl (EL c sure) none=_:=h;rw[h]at h1;exact h1.1
 ·rintro rfl;rfl
theorem mS(c:AM)(sure:List (List Int)):∀(l:List Sp) (t:B5),l.foldl (fun t x=>let s:=BF c sure x;⟨t.sun+s.sun,t.carried+s.carried,t.enough&&s.enough⟩) t=⟨t.sun+(l.map fun x=>(BF c sure x).sun).sum,t.carried+(l.map fun x=>(BF c sure x).carried).sum,t.enough&&l.all fun x=>(BF c sure x).enough⟩
 |[],t=>by simp
 |x::l,t=>by rw[List.foldl_cons,mS c sure l];simp only[bp,List.sum_cons,List.all_cons,Int.add_assoc,Bool.and_assoc]
theorem V7(c:AM)(sure:List (List Int))(l:List Sp):EJ c sure l=⟨(l.map fun x=>(BF c sure x).sun).sum,(l.map fun x=>(BF c sure x).carried).sum,l.all fun x=>(BF c sure x).enough⟩:=by unfold EJ;rw[mS];simp
theorem jR{α:Type}{f:α->Int}{m:Int}:∀{l:List α},(∀x∈l,0<=f x/\f x<=m)->0<=(l.map f).sum/\(l.map f).sum<=l.length*m
 |[],_=>by simp
 |x::l,h=>by
  have ih:=jR (l:=l) (f:=f) (m:=m) fun y hy=>h y (by simp[hy]);have:=h x (by simp);simp only[bp,List.sum_cons,List.length_cons];have e:((l.length+1:Nat):Int)*m=l.length*m+m:=by rw[Int.natCast_add,Int.add_mul];simp
  omega
end Go.Wind
open Go Go.Pg Go.Proofs Go.Wind
namespace Go.Wind
def wS(c:AM)(s u:List (List Int)):Prop:=∀r p:Nat,r<c.beach.rows.toNat->p<c.beach.places.toNat->C9 s r p=C9 u r p
theorem P4{c:AM}{x:Sp}(h:D9 c x=true):0<=x.row/\x.row<c.beach.rows/\0<=x.place/\x.place+x.size<=c.beach.places:=by simp only[D9,bk,C6]at h;omega
theorem wT{c:AM}{s u:List (List Int)}(h:wS c s u){x:Sp}(hx:D9 c x=true){p:Nat}(hp:p<x.size.toNat):C9 s x.row (x.place+(p:Int))=C9 u x.row (x.place+(p:Int)):=by
 obtain⟨h1,h2,h3,h4⟩:=P4 hx;have:=h x.row.toNat (x.place.toNat+p) (by omega) (by omega);have e1:((x.row.toNat:Nat):Int)=x.row:=by omega
 have e2:((x.place.toNat+p:Nat):Int)=x.place+(p:Int):=by omega
 rwa [e1,e2]at this
theorem AA0{n:Nat}{f g:Nat->Bool}(h:∀p,p<n->f p=g p):(bg n).all f=(bg n).all g:=by rw[Bool.eq_iff_iff,bz,bz];refine forall_congr' fun p=>forall_congr' fun hp=>?_;rw[h p (bc.1 hp)]
theorem mT{c:AM}{s u:List (List Int)}(h:wS c s u){x:Sp}(hx:D9 c x=true):BF c s x=BF c u x:=by unfold BF;rw[FB fun p hp=>wT h hx hp,AA0 fun p hp=>by rw[wT h hx hp]]
theorem AA1{c:AM}{s u:List (List Int)}(h:wS c s u){l:List Sp}(hl:∀x∈l,D9 c x=true):EJ c s l=EJ c u l:=by
 have e:∀x∈l,BF c s x=BF c u x:=fun x hx=>mT h (hl x hx);rw[V7,V7];have e1:(l.map fun x=>(BF c s x).sun)=l.map fun x=>(BF c u x).sun:=bn fun x hx=>by rw[e x hx]
 have e2:(l.map fun x=>(BF c s x).carried)=l.map fun x=>(BF c u x).carried:=bn fun x hx=>by rw[e x hx]
 have e3:(l.all fun x=>(BF c s x).enough)=l.all fun x=>(BF c u x).enough:=by rw[Bool.eq_iff_iff,bz,bz];exact forall_congr' fun x=>forall_congr' fun hx=>by rw[e x hx]
 rw[e1,e2,e3]
end Go.Wind
namespace Go.Proofs.Tryz.Op
def N5(c:AM)(r p:Nat):Int:=(xZ c.beach c.plan r p).1
def EA(c:AM):List (List Int):=(bg c.beach.rows.toNat).map fun r=>(bg c.beach.places.toNat).map (N5 c r)
theorem tE{c:AM}(hc:BQ c):FM c.beach [] c.beach.winds []≠[]:=fun e=>hc.tr (M1.1 (by rw[e];rfl))
theorem AD4(c:AM){r p:Nat}(hr:r<c.beach.rows.toNat)(hp:p<c.beach.places.toNat):C9 (EA c) r p=N5 c r p:=by unfold C9 EA;rw[bj,bj,bw,bb,bb,bq hr];simp[bq hp]
theorem AD5{c:AM}(hc:BQ c){r p:Nat}(hr:r<c.beach.rows.toNat)(hp:p<c.beach.places.toNat):C9 (AV c) r p=N5 c r p:=by
 have hpl:=hc.be.pl;unfold C9 AV E9;rw[bj,bj,cj,bw,bb,bb,bq hr];simp only[bm,bf,Function.comp_apply];have hl:(N4 c.beach (FA c.beach) c.plan r).length=c.beach.places.toNat:=by simp[N4]
 unfold E3;rw[bw,bq (by omega)];simp only[bm,bf];rw[if_pos (by omega),bj];unfold N4;rw[bw,bq hp];simp only[bm,bf,sN];rw[<-RY hc.be (XQ hc.be (tE hc))];rfl
theorem gD{c:AM}(hc:BQ c):wS c (AV c) (EA c):=fun r p hr hp=>by rw[AD5 hc hr hp,AD4 c hr hp]
theorem AD6{c:AM}(hc:BQ c)(r p:Nat):I8 (BK c.beach) (fun t=>(CG c.beach c.plan t r p).good) (N5 c r p):=by have ha:=XQ hc.be (tE hc);unfold N5;rw[RY hc.be ha];exact(nY hc.be ha c.plan r p).1
theorem mU{c:AM}(hc:BQ c)(r p:Nat):0<=N5 c r p/\N5 c r p<=5:=by obtain⟨t,ht,e⟩:=(AD6 hc r p).2;have h1:=gW c.beach c.plan t r p;have h2:=gV hc.be ht;omega
theorem LY{c:AM}(hc:BQ c):∀l∈AV c,l.length=5/\∀x∈l,0<=x/\x<=5:=fun l hl=>by
 have hpl:=hc.be.pl;simp only[AV,E9,cj,List.mem_map,bc]at hl;obtain⟨r,hr,rfl⟩:=hl;refine⟨by simp[E3],fun x hx=>?_⟩;simp only[Function.comp_apply,E3,List.mem_map,bc]at hx;obtain⟨p,hp,rfl⟩:=hx;have hl:(N4 c.beach (FA c.beach) c.plan r).length=c.beach.places.toNat:=by simp[N4]
 by_cases h:p<(N4 c.beach (FA c.beach) c.plan r).length
 ·rw[if_pos h,bj];have hp:p<c.beach.places.toNat:=by omega
  unfold N4;rw[bw,bq hp];simp only[bm,bf,sN];rw[<-RY hc.be (XQ hc.be (tE hc))];exact mU hc r p
 ·rw[if_neg h];decide
theorem LZ{c:AM}:(AV c).length=c.beach.rows.toNat:=by simp[AV,E9]
end Go.Proofs.Tryz.Op
namespace Go.Wind
def LeS(c:AM)(s u:List (List Int)):Prop:=∀r p:Nat,r<c.beach.rows.toNat->p<c.beach.places.toNat->C9 s r p<=C9 u r p
structure Eas(c d:AM)(s u:List (List Int))(gs:List (Nat×Int))(f:Nat->Nat):Prop where
 ro:d.beach.rows=c.beach.rows
 pl:d.beach.places=c.beach.places
 su:LeS c s u
 go:∀g∈gs,(EC d (f g.1)).good<=(EC c g.1).good
 mi:∀g∈gs,∀k∈gs,JT d (f g.1) (f k.1)=true->JT c g.1 k.1=true
 ch:CZ c<=CZ d
def ZO(n:Nat)(out:List Int):List Nat:=(bg n).filter fun k=>!decide ((k:Int)∈out)
theorem tF(n:Nat)(out:List Int):ZO (n+1) out=ZO n out++if (n:Int)∈out then[] else[n]:=by unfold ZO;rw[List.range_succ,List.filter_append];congr 1;by_cases h:(n:Int)∈out<;>simp[h]
theorem AA2(n:Nat):ZO n []=bg n:=by unfold ZO;simp
end Go.Wind
namespace Go.Proofs.Tryz.Op
theorem XT(c:AM)(out:List Int):∀k,B8 c.fams out k=(ZO k out).map fun j=>(j,(EC c j).size)
 |0=>rfl
 |k+1=>by
  rw[tF,List.map_append,<-XT c out k];show B8 c.fams out k++_=_;congr 1;by_cases h:(k:Int)∈out
  ·simp[h]
  ·simp[h,EC]
theorem jS(c:AM)(out:List Int):AP c out=(ZO c.fams.length out).map fun j=>(j,(EC c j).size):=XT c out _
def spt(x:Sp):Int×Int:=(x.row,x.place)
theorem II(c:AM):AP c []=(bg c.fams.length).map fun j=>(j,(EC c j).size):=by rw[jS,AA2]
theorem AA4{c:AM}{ss:List (Int×Int)}(h:ss.length=c.fams.length):(CJ c ss).map tD=AP c []:=by
 have hl:(CJ c ss).length=c.fams.length:=FJ h;rw[II];apply List.ext_getElem (by simp[hl]);intro p h1 h2;have hp:p<c.fams.length:=by simpa using h2
 have e:=KA (k:=0) (fs:=c.fams) (ss:=ss) p hp (by omega) (by rw[show(HF 0 c.fams ss).length=c.fams.length from hl];exact hp);rw[Nat.zero_add]at e;simp only[bh,List.getElem_range];rw[show(CJ c ss)[p]'(by rw[hl];exact hp)=_ from e];simp[tD,EC,bx hp]
theorem AA5{c:AM}{l:List Sp}(h:l.map tD=AP c []):CJ c (l.map spt)=l:=by
 have hl:l.length=c.fams.length:=by have:=congrArg List.length h;rw[II]at this;simpa using this
 have hl2:(CJ c (l.map spt)).length=c.fams.length:=FJ (by simp[hl]);apply List.ext_getElem (by omega);intro p h1 h2;have hp:p<c.fams.length:=by omega
 have e:=KA (k:=0) (fs:=c.fams) (ss:=l.map spt) p hp (by simp;omega) h1;rw[Nat.zero_add]at e;refine e.trans ?_;have hg:(l.map tD)[p]'(by simpa using h2)=(p,(EC c p).size):=by
  have:(l.map tD)[p]? = (AP c [])[p]?:=by rw[h]
  rw[bx (by simpa using h2),II,bw,bq hp]at this;simpa using this
 rw[bh]at hg;have h3:(EC c p).size=(c.fams[p]).size:=by simp[EC,bx hp]
 rw[h3]at hg;simp only[tD,Prod.mk.injEq]at hg;simp only[bh,spt];have hx:∀x:Sp,x.fam=p->x.size=(c.fams[p]).size->(⟨p,(c.fams[p]).size,x.row,x.place⟩:Sp)=x:=fun x e1 e2=>by obtain⟨a,b,r,q⟩:=x;simp only at e1 e2|-;subst e2;simp only[e1]
 exact hx _ hg.1 hg.2
theorem AKX{c:AM}{s:List (List Int)}{ss:List (Int×Int)}(h:FP c ss=true)(he:∀x∈CJ c ss,(BF c s x).enough=true):OkS c s (AP c []) (CJ c ss):=by simp only[FP,P3,bk,decide_eq_true_eq]at h;exact⟨AA4 h.1,h.2.1,h.2.2,he⟩
theorem wU{c:AM}{s:List (List Int)}{l:List Sp}(h:OkS c s (AP c []) l):FP c (l.map spt)=true/\CJ c (l.map spt)=l:=by
 have e:=AA5 h.gr;have hl:l.length=c.fams.length:=by have:=congrArg List.length h.gr;rw[II]at this;simpa using this
 refine⟨?_,e⟩;simp only[FP,P3,bk,decide_eq_true_eq,e];exact⟨by simpa using hl,h.go,h.pe⟩
def HG(c:AM)(s:List (List Int))(ss:List (Int×Int)):Bool:=FP c ss&&(EJ c s (CJ c ss)).enough
theorem P5{c:AM}{s:List (List Int)}{ss:List (Int×Int)}:HG c s ss=true↔FP c ss=true/\∀x∈CJ c ss,(BF c s x).enough=true:=by unfold HG;rw[V7];simp only[bk,bz]
theorem mV{c:AM}{s:List (List Int)}{ss:List (Int×Int)}(h:HG c s ss=true):OkS c s (AP c []) (CJ c ss):=AKX (P5.1 h).1 (P5.1 h).2
theorem AD7{c:AM}{s:List (List Int)}{l:List Sp}(h:OkS c s (AP c []) l):HG c s (l.map spt)=true:=by obtain⟨h1,h2⟩:=wU h;exact P5.2 ⟨h1,by rw[h2];exact h.en⟩
def GA(c:AM):Option (List Sp×B5):=wM c (AV c) (YP c (AV c) (AP c []))
end Go.Proofs.Tryz.Op
