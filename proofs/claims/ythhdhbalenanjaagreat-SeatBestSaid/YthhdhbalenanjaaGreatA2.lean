/- Allowed seatings, told by their members; the best one. No program in sight. -/
import Derived.Test.YthhdhbalenanjaaGreatS3
open List renaming getD_eq_getElem?_getD->bj,getElem?_range->bq,getElem?_map->bw,getElem?_eq_getElem->bx,all_eq_true->bz,mem_range->bc,range->bg,getElem_map->bh,map_congr_left->bn,map_cons->bp,map_map->cj
open Bool renaming and_eq_true->bk
open Int renaming toNat_natCast->bb
open Option renaming getD_some->bf,map_some->bm
set_option maxRecDepth 100000
namespace Go.Wind
def sF(x:Sp):Nat×Int:=(x.fam,x.size)
theorem V1{c:AQ}{sure:List (List Int)}:∀{gs:List (Nat×Int)} {out l:List Sp},l∈FK c sure gs out↔∃r,l=out++r/\r.map sF=gs/\D0 c out r=true/\∀x∈r,(BF c sure x).enough=true
 |[],out,l=>by
  simp only[FK,List.mem_singleton];constructor
  ·rintro rfl;exact⟨[],by simp,rfl,rfl,by simp⟩
  ·rintro ⟨r,rfl,h,_,_⟩;rw[List.map_eq_nil_iff]at h;subst h;simp
 |g::gs,out,l=>by
  simp only[FK,List.mem_flatMap,bc];constructor
  ·rintro ⟨r,hr,p,hp,h⟩;split at h
   ·rename_i hz;simp only[bk]at hz;obtain⟨q,rfl,h1,h2,h3⟩:=V1.1 h;refine⟨⟨g.1,g.2,(r:Int),(p:Int)⟩::q,by simp,by simp[sF,h1],?_,?_⟩
    ·simp only[D0,bk];refine⟨⟨?_,hz.2⟩,h2⟩;simp only[C4,bk,C6];omega
    ·intro x hx;rcases List.mem_cons.1 hx with rfl|hx
     ·exact hz.1
     ·exact h3 x hx
   ·cases h
  ·rintro ⟨q,rfl,h1,h2,h3⟩;cases q with
   |nil=>cases h1
   |cons x q=>
    simp only[bp,List.cons.injEq]at h1
    obtain⟨rfl,h1⟩:=h1
    simp only[D0,bk]at h2
    have hf:=h2.1.1
    simp only[C4,bk,C6]at hf
    have e1:((x.row.toNat:Nat):Int)=x.row:=by omega
    have e2:((x.place.toNat:Nat):Int)=x.place:=by omega
    refine⟨x.row.toNat,by omega,x.place.toNat,by simp only[sF];omega,?_⟩
    simp only[sF,e1,e2]
    rw[if_pos (by rw[h3 x (by simp),h2.1.2];rfl)]
    exact V1.2 ⟨q,by simp,h1,h2.2,fun y hy=>h3 y (by simp[hy])⟩
def DY(gs:List (Nat×Int)):Int:=(gs.map (·.2)).sum
def mJ(c:AQ)(sure:List (List Int))(gs:List (Nat×Int)):List (List Sp):=if (CP c:Int)<DY gs then[] else FK c sure gs []
structure OkS(c:AQ)(sure:List (List Int))(gs:List (Nat×Int))(l:List Sp):Prop where
 gr:l.map sF=gs
 go:D0 c [] l=true
 pe:EE l<=CP c
 en:∀x∈l,(BF c sure x).enough=true
theorem ZB(l:List Sp):EE l=DY (l.map sF):=by unfold EE DY;rw[cj];rfl
theorem YS{c:AQ}{sure:List (List Int)}{gs:List (Nat×Int)}{l:List Sp}:l∈mJ c sure gs↔OkS c sure gs l:=by
 unfold mJ;by_cases h:(CP c:Int)<DY gs
 ·rw[if_pos h];refine⟨fun hh=>(by cases hh),fun hh=>?_⟩;have:=hh.pe;rw[ZB,hh.gr]at this;omega
 ·rw[if_neg h,V1];constructor
  ·rintro ⟨r,e,h1,h2,h3⟩;rw[List.nil_append]at e;subst e;refine⟨h1,h2,?_,h3⟩;rw[ZB,h1];omega
  ·rintro ⟨h1,h2,_,h3⟩;exact⟨l,rfl,h1,h2,h3⟩
def geS(a b:CB):Prop:=b.sun<a.sun\/b.sun=a.sun/\a.carried<=b.carried
theorem SV(a:CB):geS a a:=.inr ⟨rfl,Int.le_refl _⟩
theorem fU{a b d:CB}(h1:geS a b)(h2:geS b d):geS a d:=by unfold geS at *;omega
theorem wN{c:AQ}{sure:List (List Int)}:∀(ls:List (List Sp)) (acc:Option (List Sp×CB)),match ls.foldl (EL c sure) acc with
  |some (_,t)=>(∀l∈ls,geS t (D6 c sure l))/\∀b u,acc=some (b,u)->geS t u
  |none=>True
 |[],acc=>by
  cases acc with
  |none=>trivial
  |some bt=>
   refine⟨fun l hl=>(by cases hl),fun b u h=>?_⟩
   cases h
   exact SV _
 |l::ls,acc=>by
  have ih:=wN (c:=c) (sure:=sure) ls (EL c sure acc l);simp only[List.foldl_cons];have hstep:∃b t,EL c sure acc l=some (b,t)/\geS t (D6 c sure l)/\∀b' u,acc=some (b',u)->geS t u:=by
   cases acc with
   |none=>exact⟨l,_,rfl,SV _,fun b' u h=>(by cases h)⟩
   |some bt=>
    obtain⟨b,t⟩:=bt
    simp only[EL]
    split
    ·rename_i h;refine⟨b,t,rfl,?_,fun b' u h=>?_⟩
     ·unfold geS;omega
     ·cases h;exact SV _
    ·rename_i h;refine⟨l,_,rfl,SV _,fun b' u h2=>?_⟩;cases h2;unfold geS;omega
  obtain⟨b,t,e,g1,g2⟩:=hstep;rw[e]at ih|-;generalize ls.foldl (EL c sure) (some (b,t))=R at ih|-;cases R with
  |none=>trivial
  |some q=>
   obtain⟨b2,t2⟩:=q
   simp only at ih|-
   obtain⟨h1,h2⟩:=ih
   have h3:=h2 b t rfl
   refine⟨fun x hx=>?_,fun b' u h=>fU h3 (g2 b' u h)⟩
   rcases List.mem_cons.1 hx with rfl|hx
   ·exact fU h3 g1
   ·exact h1 x hx
theorem V2{c:AQ}{sure:List (List Int)}{ls:List (List Sp)}{b:List Sp}{t:CB}(h:AD1 c sure ls=some (b,t)):b∈ls/\t=D6 c sure b/\∀l∈ls,geS t (D6 c sure l):=by
 have h1:=Y9 (c:=c) (sure:=sure) ls none;have h2:=wN (c:=c) (sure:=sure) ls none;have h:ls.foldl (EL c sure) none=_:=h;rw[h]at h1 h2;simp only at h1 h2;rcases h1 with⟨a1,a2⟩|a
 ·exact⟨a1,a2,h2.1⟩
 ·cases a
theorem AAU{c:AQ}{sure:List (List Int)}{ls:List (List Sp)}:AD1 c sure ls=none↔ls=[]:=by
 constructor
 ·intro h;have h1:=Y9 (c:=c) (sure:=sure) ls none;have h:ls.foldl (EL c sure) none=_:=h;rw[h]at h1;exact h1.1
 ·rintro rfl;rfl
theorem mK(c:AQ)(sure:List (List Int)):∀(l:List Sp) (t:CB),l.foldl (fun t x=>let s:=BF c sure x;⟨t.sun+s.sun,t.carried+s.carried,t.enough&&s.enough⟩) t=⟨t.sun+(l.map fun x=>(BF c sure x).sun).sum,t.carried+(l.map fun x=>(BF c sure x).carried).sum,t.enough&&l.all fun x=>(BF c sure x).enough⟩
 |[],t=>by simp
 |x::l,t=>by rw[List.foldl_cons,mK c sure l];simp only[bp,List.sum_cons,List.all_cons,Int.add_assoc,Bool.and_assoc]
theorem V3(c:AQ)(sure:List (List Int))(l:List Sp):D6 c sure l=⟨(l.map fun x=>(BF c sure x).sun).sum,(l.map fun x=>(BF c sure x).carried).sum,l.all fun x=>(BF c sure x).enough⟩:=by unfold D6;rw[mK];simp
theorem jI{α:Type}{f:α->Int}{m:Int}:∀{l:List α},(∀x∈l,0<=f x/\f x<=m)->0<=(l.map f).sum/\(l.map f).sum<=l.length*m
 |[],_=>by simp
 |x::l,h=>by
  have ih:=jI (l:=l) (f:=f) (m:=m) fun y hy=>h y (by simp[hy]);have:=h x (by simp);simp only[bp,List.sum_cons,List.length_cons];have e:((l.length+1:Nat):Int)*m=l.length*m+m:=by rw[Int.natCast_add,Int.add_mul];simp
  omega
end Go.Wind
open Go Go.Pg Go.Proofs Go.Wind
namespace Go.Wind
def wO(c:AQ)(s u:List (List Int)):Prop:=∀r p:Nat,r<c.beach.rows.toNat->p<c.beach.places.toNat->DC s r p=DC u r p
theorem P6{c:AQ}{x:Sp}(h:C4 c x=true):0<=x.row/\x.row<c.beach.rows/\0<=x.place/\x.place+x.size<=c.beach.places:=by simp only[C4,bk,C6]at h;omega
theorem wP{c:AQ}{s u:List (List Int)}(h:wO c s u){x:Sp}(hx:C4 c x=true){p:Nat}(hp:p<x.size.toNat):DC s x.row (x.place+(p:Int))=DC u x.row (x.place+(p:Int)):=by
 obtain⟨h1,h2,h3,h4⟩:=P6 hx;have:=h x.row.toNat (x.place.toNat+p) (by omega) (by omega);have e1:((x.row.toNat:Nat):Int)=x.row:=by omega
 have e2:((x.place.toNat+p:Nat):Int)=x.place+(p:Int):=by omega
 rwa [e1,e2]at this
theorem AAV{n:Nat}{f g:Nat->Bool}(h:∀p,p<n->f p=g p):(bg n).all f=(bg n).all g:=by rw[Bool.eq_iff_iff,bz,bz];refine forall_congr' fun p=>forall_congr' fun hp=>?_;rw[h p (bc.1 hp)]
theorem mL{c:AQ}{s u:List (List Int)}(h:wO c s u){x:Sp}(hx:C4 c x=true):BF c s x=BF c u x:=by unfold BF;rw[FD fun p hp=>wP h hx hp,AAV fun p hp=>by rw[wP h hx hp]]
theorem AAW{c:AQ}{s u:List (List Int)}(h:wO c s u){l:List Sp}(hl:∀x∈l,C4 c x=true):D6 c s l=D6 c u l:=by
 have e:∀x∈l,BF c s x=BF c u x:=fun x hx=>mL h (hl x hx);rw[V3,V3];have e1:(l.map fun x=>(BF c s x).sun)=l.map fun x=>(BF c u x).sun:=bn fun x hx=>by rw[e x hx]
 have e2:(l.map fun x=>(BF c s x).carried)=l.map fun x=>(BF c u x).carried:=bn fun x hx=>by rw[e x hx]
 have e3:(l.all fun x=>(BF c s x).enough)=l.all fun x=>(BF c u x).enough:=by rw[Bool.eq_iff_iff,bz,bz];exact forall_congr' fun x=>forall_congr' fun hx=>by rw[e x hx]
 rw[e1,e2,e3]
end Go.Wind
namespace Go.Proofs.Tryz.Op
def N7(c:AQ)(r p:Nat):Int:=(xU c.beach c.plan r p).1
def CZ(c:AQ):List (List Int):=(bg c.beach.rows.toNat).map fun r=>(bg c.beach.places.toNat).map (N7 c r)
theorem sT{c:AQ}(hc:BN c):FM c.beach [] c.beach.winds []≠[]:=fun e=>hc.tr (M2.1 (by rw[e];rfl))
theorem AD2(c:AQ){r p:Nat}(hr:r<c.beach.rows.toNat)(hp:p<c.beach.places.toNat):DC (CZ c) r p=N7 c r p:=by unfold DC CZ;rw[bj,bj,bw,bb,bb,bq hr];simp[bq hp]
theorem AD3{c:AQ}(hc:BN c){r p:Nat}(hr:r<c.beach.rows.toNat)(hp:p<c.beach.places.toNat):DC (A0 c) r p=N7 c r p:=by
 have hpl:=hc.be.pl;unfold DC A0 FA;rw[bj,bj,cj,bw,bb,bb,bq hr];simp only[bm,bf,Function.comp_apply];have hl:(N5 c.beach (FC c.beach) c.plan r).length=c.beach.places.toNat:=by simp[N5]
 unfold E4;rw[bw,bq (by omega)];simp only[bm,bf];rw[if_pos (by omega),bj];unfold N5;rw[bw,bq hp];simp only[bm,bf,sD];rw[<-RZ hc.be (XJ hc.be (sT hc))];rfl
theorem fV{c:AQ}(hc:BN c):wO c (A0 c) (CZ c):=fun r p hr hp=>by rw[AD3 hc hr hp,AD2 c hr hp]
theorem AD4{c:AQ}(hc:BN c)(r p:Nat):I4 (BS c.beach) (fun t=>(CG c.beach c.plan t r p).good) (N7 c r p):=by have ha:=XJ hc.be (sT hc);unfold N7;rw[RZ hc.be ha];exact(nS hc.be ha c.plan r p).1
theorem mM{c:AQ}(hc:BN c)(r p:Nat):0<=N7 c r p/\N7 c r p<=5:=by obtain⟨t,ht,e⟩:=(AD4 hc r p).2;have h1:=gO c.beach c.plan t r p;have h2:=gN hc.be ht;omega
theorem mN{c:AQ}(hc:BN c):∀l∈A0 c,l.length=5/\∀x∈l,0<=x/\x<=5:=fun l hl=>by
 have hpl:=hc.be.pl;simp only[A0,FA,cj,List.mem_map,bc]at hl;obtain⟨r,hr,rfl⟩:=hl;refine⟨by simp[E4],fun x hx=>?_⟩;simp only[Function.comp_apply,E4,List.mem_map,bc]at hx;obtain⟨p,hp,rfl⟩:=hx;have hl:(N5 c.beach (FC c.beach) c.plan r).length=c.beach.places.toNat:=by simp[N5]
 by_cases h:p<(N5 c.beach (FC c.beach) c.plan r).length
 ·rw[if_pos h,bj];have hp:p<c.beach.places.toNat:=by omega
  unfold N5;rw[bw,bq hp];simp only[bm,bf,sD];rw[<-RZ hc.be (XJ hc.be (sT hc))];exact mM hc r p
 ·rw[if_neg h];decide
theorem AAX{c:AQ}:(A0 c).length=c.beach.rows.toNat:=by simp[A0,FA]
end Go.Proofs.Tryz.Op
namespace Go.Wind
def LeS(c:AQ)(s u:List (List Int)):Prop:=∀r p:Nat,r<c.beach.rows.toNat->p<c.beach.places.toNat->DC s r p<=DC u r p
structure Eas(c d:AQ)(s u:List (List Int))(gs:List (Nat×Int))(f:Nat->Nat):Prop where
 ro:d.beach.rows=c.beach.rows
 pl:d.beach.places=c.beach.places
 su:LeS c s u
 go:∀g∈gs,(ED d (f g.1)).good<=(ED c g.1).good
 mi:∀g∈gs,∀k∈gs,JT d (f g.1) (f k.1)=true->JT c g.1 k.1=true
 ch:CP c<=CP d
def ZC(n:Nat)(out:List Int):List Nat:=(bg n).filter fun k=>!decide ((k:Int)∈out)
theorem sU(n:Nat)(out:List Int):ZC (n+1) out=ZC n out++if (n:Int)∈out then[] else[n]:=by unfold ZC;rw[List.range_succ,List.filter_append];congr 1;by_cases h:(n:Int)∈out<;>simp[h]
theorem AAY(n:Nat):ZC n []=bg n:=by unfold ZC;simp
end Go.Wind
namespace Go.Proofs.Tryz.Op
theorem XL(c:AQ)(out:List Int):∀k,B0 c.fams out k=(ZC k out).map fun j=>(j,(ED c j).size)
 |0=>rfl
 |k+1=>by
  rw[sU,List.map_append,<-XL c out k];show B0 c.fams out k++_=_;congr 1;by_cases h:(k:Int)∈out
  ·simp[h]
  ·simp[h,ED]
theorem jJ(c:AQ)(out:List Int):AK c out=(ZC c.fams.length out).map fun j=>(j,(ED c j).size):=XL c out _
def SO(x:Sp):Int×Int:=(x.row,x.place)
theorem IG(c:AQ):AK c []=(bg c.fams.length).map fun j=>(j,(ED c j).size):=by rw[jJ,AAY]
theorem AAZ{c:AQ}{ss:List (Int×Int)}(h:ss.length=c.fams.length):(A5 c ss).map sF=AK c []:=by
 have hl:(A5 c ss).length=c.fams.length:=DL h;rw[IG];apply List.ext_getElem (by simp[hl]);intro p h1 h2;have hp:p<c.fams.length:=by simpa using h2
 have e:=I0 (k:=0) (fs:=c.fams) (ss:=ss) p hp (by omega) (by rw[show(HG 0 c.fams ss).length=c.fams.length from hl];exact hp);rw[Nat.zero_add]at e;simp only[bh,List.getElem_range];rw[show(A5 c ss)[p]'(by rw[hl];exact hp)=_ from e];simp[sF,ED,bx hp]
theorem AA0{c:AQ}{l:List Sp}(h:l.map sF=AK c []):A5 c (l.map SO)=l:=by
 have hl:l.length=c.fams.length:=by have:=congrArg List.length h;rw[IG]at this;simpa using this
 have hl2:(A5 c (l.map SO)).length=c.fams.length:=DL (by simp[hl]);apply List.ext_getElem (by omega);intro p h1 h2;have hp:p<c.fams.length:=by omega
 have e:=I0 (k:=0) (fs:=c.fams) (ss:=l.map SO) p hp (by simp;omega) h1;rw[Nat.zero_add]at e;refine e.trans ?_;have hg:(l.map sF)[p]'(by simpa using h2)=(p,(ED c p).size):=by
  have:(l.map sF)[p]? = (AK c [])[p]?:=by rw[h]
  rw[bx (by simpa using h2),IG,bw,bq hp]at this;simpa using this
 rw[bh]at hg;have h3:(ED c p).size=(c.fams[p]).size:=by simp[ED,bx hp]
 rw[h3]at hg;simp only[sF,Prod.mk.injEq]at hg;simp only[bh,SO];have hx:∀x:Sp,x.fam=p->x.size=(c.fams[p]).size->(⟨p,(c.fams[p]).size,x.row,x.place⟩:Sp)=x:=fun x e1 e2=>by obtain⟨a,b,r,q⟩:=x;simp only at e1 e2|-;subst e2;simp only[e1]
 exact hx _ hg.1 hg.2
theorem AKK{c:AQ}{s:List (List Int)}{ss:List (Int×Int)}(h:D1 c ss=true)(he:∀x∈A5 c ss,(BF c s x).enough=true):OkS c s (AK c []) (A5 c ss):=by simp only[D1,HF,bk,decide_eq_true_eq]at h;exact⟨AAZ h.1,h.2.1,h.2.2,he⟩
theorem jK{c:AQ}{s:List (List Int)}{l:List Sp}(h:OkS c s (AK c []) l):D1 c (l.map SO)=true/\A5 c (l.map SO)=l:=by
 have e:=AA0 h.gr;have hl:l.length=c.fams.length:=by have:=congrArg List.length h.gr;rw[IG]at this;simpa using this
 refine⟨?_,e⟩;simp only[D1,HF,bk,decide_eq_true_eq,e];exact⟨by simpa using hl,h.go,h.pe⟩
def EX(c:AQ)(s:List (List Int))(ss:List (Int×Int)):Bool:=D1 c ss&&(D6 c s (A5 c ss)).enough
theorem GZ{c:AQ}{s:List (List Int)}{ss:List (Int×Int)}:EX c s ss=true↔D1 c ss=true/\∀x∈A5 c ss,(BF c s x).enough=true:=by unfold EX;rw[V3];simp only[bk,bz]
theorem mO{c:AQ}{s:List (List Int)}{ss:List (Int×Int)}(h:EX c s ss=true):OkS c s (AK c []) (A5 c ss):=AKK (GZ.1 h).1 (GZ.1 h).2
theorem mP{c:AQ}{s:List (List Int)}{l:List Sp}(h:OkS c s (AK c []) l):EX c s (l.map SO)=true:=by obtain⟨h1,h2⟩:=jK h;exact GZ.2 ⟨h1,by rw[h2];exact h.en⟩
def H9(c:AQ):Option (List Sp×CB):=AD1 c (A0 c) (mJ c (A0 c) (AK c []))
def RO(c:AQ):List (Int×Int)×Int×Int×Int:=if EC c≠0 then([],0,0,EC c) else match H9 c with
 |some q=>(q.1.map SO,q.2.sun,q.2.carried,0)
 |none=>([],0,0,10)
def V4(c:AQ)(ss:List (Int×Int))(sun carried:Int):Bool:=decide (EC c=0)&&(D1 c ss&&((D6 c (A0 c) (A5 c ss)).enough&&(decide (sun<=(D6 c (A0 c) (A5 c ss)).sun)&&decide ((D6 c (A0 c) (A5 c ss)).carried<=carried))))
end Go.Proofs.Tryz.Op
