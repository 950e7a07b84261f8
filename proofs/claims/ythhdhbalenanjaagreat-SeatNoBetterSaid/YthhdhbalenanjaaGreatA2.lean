/- Allowed seatings, told by their members; the best one. No program in sight. -/
import Derived.Test.YthhdhbalenanjaaGreatS3
open List renaming getD_eq_getElem?_getD->bj,getElem?_range->bq,all_eq_true->bw,getElem?_map->bx,mem_range->bb,range->bf,map_congr_left->bh,mem_cons->bm,map_cons->bn,map_map->bp
open Bool renaming and_eq_true->bk
open Int renaming toNat_natCast->bz
open Option renaming getD_some->bc,map_some->bg
set_option maxRecDepth 100000
namespace Go.Wind
def wM(x:Sp):Nat×Int:=(x.fam,x.size)
theorem VY{c:AV}{sure:List (List Int)}:∀{gs:List (Nat×Int)} {out l:List Sp},l∈FO c sure gs out↔∃r,l=out++r/\r.map wM=gs/\DJ c out r=true/\∀x∈r,(BJ c sure x).enough=true
 |[],out,l=>by
  simp only[FO,List.mem_singleton];constructor
  ·rintro rfl;exact⟨[],by simp,rfl,rfl,by simp⟩
  ·rintro ⟨r,rfl,h,_,_⟩;rw[List.map_eq_nil_iff]at h;subst h;simp
 |g::gs,out,l=>by
  simp only[FO,List.mem_flatMap,bb];constructor
  ·rintro ⟨r,hr,p,hp,h⟩;split at h
   ·rename_i hz;simp only[bk]at hz;obtain⟨q,rfl,h1,h2,h3⟩:=VY.1 h;refine⟨⟨g.1,g.2,(r:Int),(p:Int)⟩::q,by simp,by simp[wM,h1],?_,?_⟩
    ·simp only[DJ,bk];refine⟨⟨?_,hz.2⟩,h2⟩;simp only[C6,bk,C5];omega
    ·intro x hx;rcases bm.1 hx with rfl|hx
     ·exact hz.1
     ·exact h3 x hx
   ·cases h
  ·rintro ⟨q,rfl,h1,h2,h3⟩;cases q with
   |nil=>cases h1
   |cons x q=>
    simp only[bn,List.cons.injEq]at h1
    obtain⟨rfl,h1⟩:=h1
    simp only[DJ,bk]at h2
    have hf:=h2.1.1
    simp only[C6,bk,C5]at hf
    have e1:((x.row.toNat:Nat):Int)=x.row:=by omega
    have e2:((x.place.toNat:Nat):Int)=x.place:=by omega
    refine⟨x.row.toNat,by omega,x.place.toNat,by simp only[wM];omega,?_⟩
    simp only[wM,e1,e2]
    rw[if_pos (by rw[h3 x (by simp),h2.1.2];rfl)]
    exact VY.2 ⟨q,by simp,h1,h2.2,fun y hy=>h3 y (by simp[hy])⟩
def D1(gs:List (Nat×Int)):Int:=(gs.map (·.2)).sum
def mJ(c:AV)(sure:List (List Int))(gs:List (Nat×Int)):List (List Sp):=if (EB c:Int)<D1 gs then[] else FO c sure gs []
structure OkS(c:AV)(sure:List (List Int))(gs:List (Nat×Int))(l:List Sp):Prop where
 gr:l.map wM=gs
 go:DJ c [] l=true
 pe:EC l<=EB c
 en:∀x∈l,(BJ c sure x).enough=true
theorem Y8(l:List Sp):EC l=D1 (l.map wM):=by unfold EC D1;rw[bp];rfl
theorem jH{c:AV}{sure:List (List Int)}{gs:List (Nat×Int)}{l:List Sp}:l∈mJ c sure gs↔OkS c sure gs l:=by
 unfold mJ;by_cases h:(EB c:Int)<D1 gs
 ·rw[if_pos h];refine⟨fun hh=>(by cases hh),fun hh=>?_⟩;have:=hh.pe;rw[Y8,hh.gr]at this;omega
 ·rw[if_neg h,VY];constructor
  ·rintro ⟨r,e,h1,h2,h3⟩;rw[List.nil_append]at e;subst e;refine⟨h1,h2,?_,h3⟩;rw[Y8,h1];omega
  ·rintro ⟨h1,h2,_,h3⟩;exact⟨l,rfl,h1,h2,h3⟩
def geS(a b:CE):Prop:=b.sun<a.sun\/b.sun=a.sun/\a.carried<=b.carried
theorem S0(a:CE):geS a a:=.inr ⟨rfl,Int.le_refl _⟩
theorem fV{a b d:CE}(h1:geS a b)(h2:geS b d):geS a d:=by unfold geS at *;omega
theorem wN{c:AV}{sure:List (List Int)}:∀(ls:List (List Sp)) (acc:Option (List Sp×CE)),match ls.foldl (EP c sure) acc with
  |some (_,t)=>(∀l∈ls,geS t (D8 c sure l))/\∀b u,acc=some (b,u)->geS t u
  |none=>True
 |[],acc=>by
  cases acc with
  |none=>trivial
  |some bt=>
   refine⟨fun l hl=>(by cases hl),fun b u h=>?_⟩
   cases h
   exact S0 _
 |l::ls,acc=>by
  have ih:=wN (c:=c) (sure:=sure) ls (EP c sure acc l);simp only[List.foldl_cons];have hstep:∃b t,EP c sure acc l=some (b,t)/\geS t (D8 c sure l)/\∀b' u,acc=some (b',u)->geS t u:=by
   cases acc with
   |none=>exact⟨l,_,rfl,S0 _,fun b' u h=>(by cases h)⟩
   |some bt=>
    obtain⟨b,t⟩:=bt
    simp only[EP]
    split
    ·rename_i h;refine⟨b,t,rfl,?_,fun b' u h=>?_⟩
     ·unfold geS;omega
     ·cases h;exact S0 _
    ·rename_i h;refine⟨l,_,rfl,S0 _,fun b' u h2=>?_⟩;cases h2;unfold geS;omega
  obtain⟨b,t,e,g1,g2⟩:=hstep;rw[e]at ih|-;generalize ls.foldl (EP c sure) (some (b,t))=R at ih|-;cases R with
  |none=>trivial
  |some q=>
   obtain⟨b2,t2⟩:=q
   simp only at ih|-
   obtain⟨h1,h2⟩:=ih
   have h3:=h2 b t rfl
   refine⟨fun x hx=>?_,fun b' u h=>fV h3 (g2 b' u h)⟩
   rcases bm.1 hx with rfl|hx
   ·exact fV h3 g1
   ·exact h1 x hx
theorem fW{c:AV}{sure:List (List Int)}{ls:List (List Sp)}{b:List Sp}{t:CE}(h:ADY c sure ls=some (b,t)):b∈ls/\t=D8 c sure b/\∀l∈ls,geS t (D8 c sure l):=by
 have h1:=Y6 (c:=c) (sure:=sure) ls none;have h2:=wN (c:=c) (sure:=sure) ls none;have h:ls.foldl (EP c sure) none=_:=h;rw[h]at h1 h2;simp only at h1 h2;rcases h1 with⟨a1,a2⟩|a
 ·exact⟨a1,a2,h2.1⟩
 ·cases a
theorem AAR{c:AV}{sure:List (List Int)}{ls:List (List Sp)}:ADY c sure ls=none↔ls=[]:=by
 constructor
 ·intro h;have h1:=Y6 (c:=c) (sure:=sure) ls none;have h:ls.foldl (EP c sure) none=_:=h;rw[h]at h1;exact h1.1
 ·rintro rfl;rfl
theorem mK(c:AV)(sure:List (List Int)):∀(l:List Sp) (t:CE),l.foldl (fun t x=>let s:=BJ c sure x;⟨t.sun+s.sun,t.carried+s.carried,t.enough&&s.enough⟩) t=⟨t.sun+(l.map fun x=>(BJ c sure x).sun).sum,t.carried+(l.map fun x=>(BJ c sure x).carried).sum,t.enough&&l.all fun x=>(BJ c sure x).enough⟩
 |[],t=>by simp
 |x::l,t=>by rw[List.foldl_cons,mK c sure l];simp only[bn,List.sum_cons,List.all_cons,Int.add_assoc,Bool.and_assoc]
theorem VZ(c:AV)(sure:List (List Int))(l:List Sp):D8 c sure l=⟨(l.map fun x=>(BJ c sure x).sun).sum,(l.map fun x=>(BJ c sure x).carried).sum,l.all fun x=>(BJ c sure x).enough⟩:=by unfold D8;rw[mK];simp
theorem jI{α:Type}{f:α->Int}{m:Int}:∀{l:List α},(∀x∈l,0<=f x/\f x<=m)->0<=(l.map f).sum/\(l.map f).sum<=l.length*m
 |[],_=>by simp
 |x::l,h=>by
  have ih:=jI (l:=l) (f:=f) (m:=m) fun y hy=>h y (by simp[hy]);have:=h x (by simp);simp only[bn,List.sum_cons,List.length_cons];have e:((l.length+1:Nat):Int)*m=l.length*m+m:=by rw[Int.natCast_add,Int.add_mul];simp
  omega
theorem V0{c:AV}:∀{l before:List Sp},DJ c before l=true↔(∀x∈l,C6 c x=true)/\(∀x∈l,∀y∈before,EH c x y=true)/\l.Pairwise (fun y x=>EH c x y=true)
 |[],before=>by simp[DJ]
 |x::l,before=>by
  simp only[DJ,bk,bw,V0 (l:=l) (before:=before++[x]),List.mem_append,bm,List.not_mem_nil,or_false,List.pairwise_cons];constructor
  ·rintro ⟨⟨h1,h2⟩,h3,h4,h5⟩;refine⟨fun y hy=>?_,fun y hy z hz=>?_,fun y hy=>h4 y hy x (.inr rfl),h5⟩
   ·rcases hy with rfl|hy
    ·exact h1
    ·exact h3 y hy
   ·rcases hy with rfl|hy
    ·exact h2 z hz
    ·exact h4 y hy z (.inl hz)
  ·rintro ⟨h1,h2,h3,h4⟩;refine⟨⟨h1 x (.inl rfl),fun z hz=>h2 x (.inl rfl) z hz⟩,fun y hy=>h1 y (.inr hy),fun y hy z hz=>?_,h4⟩;rcases hz with hz|rfl
   ·exact h2 y (.inr hy) z hz
   ·exact h3 y hy
theorem AKD{c:AV}{sure:List (List Int)}{gs:List (Nat×Int)}{l:List Sp}:OkS c sure gs l↔l.map wM=gs/\(∀x∈l,C6 c x=true/\(BJ c sure x).enough=true)/\l.Pairwise (fun y x=>EH c x y=true)/\EC l<=EB c:=by
 constructor
 ·rintro ⟨h1,h2,h3,h4⟩;obtain⟨g1,_,g3⟩:=V0.1 h2;exact⟨h1,fun x hx=>⟨g1 x hx,h4 x hx⟩,g3,h3⟩
 ·rintro ⟨h1,h2,h3,h4⟩;exact⟨h1,V0.2 ⟨fun x hx=>(h2 x hx).1,fun x _ y hy=>(by cases hy),h3⟩,h4,fun x hx=>(h2 x hx).2⟩
end Go.Wind
open Go Go.Pg Go.Proofs Go.Wind
namespace Go.Wind
def wO(c:AV)(s u:List (List Int)):Prop:=∀r p:Nat,r<c.beach.rows.toNat->p<c.beach.places.toNat->DE s r p=DE u r p
theorem P4{c:AV}{x:Sp}(h:C6 c x=true):0<=x.row/\x.row<c.beach.rows/\0<=x.place/\x.place+x.size<=c.beach.places:=by simp only[C6,bk,C5]at h;omega
theorem wP{c:AV}{s u:List (List Int)}(h:wO c s u){x:Sp}(hx:C6 c x=true){p:Nat}(hp:p<x.size.toNat):DE s x.row (x.place+(p:Int))=DE u x.row (x.place+(p:Int)):=by
 obtain⟨h1,h2,h3,h4⟩:=P4 hx;have:=h x.row.toNat (x.place.toNat+p) (by omega) (by omega);have e1:((x.row.toNat:Nat):Int)=x.row:=by omega
 have e2:((x.place.toNat+p:Nat):Int)=x.place+(p:Int):=by omega
 rwa [e1,e2]at this
theorem AAS{n:Nat}{f g:Nat->Bool}(h:∀p,p<n->f p=g p):(bf n).all f=(bf n).all g:=by rw[Bool.eq_iff_iff,bw,bw];refine forall_congr' fun p=>forall_congr' fun hp=>?_;rw[h p (bb.1 hp)]
theorem mL{c:AV}{s u:List (List Int)}(h:wO c s u){x:Sp}(hx:C6 c x=true):BJ c s x=BJ c u x:=by unfold BJ;rw[FI fun p hp=>wP h hx hp,AAS fun p hp=>by rw[wP h hx hp]]
theorem AAT{c:AV}{s u:List (List Int)}(h:wO c s u){l:List Sp}(hl:∀x∈l,C6 c x=true):D8 c s l=D8 c u l:=by
 have e:∀x∈l,BJ c s x=BJ c u x:=fun x hx=>mL h (hl x hx);rw[VZ,VZ];have e1:(l.map fun x=>(BJ c s x).sun)=l.map fun x=>(BJ c u x).sun:=bh fun x hx=>by rw[e x hx]
 have e2:(l.map fun x=>(BJ c s x).carried)=l.map fun x=>(BJ c u x).carried:=bh fun x hx=>by rw[e x hx]
 have e3:(l.all fun x=>(BJ c s x).enough)=l.all fun x=>(BJ c u x).enough:=by rw[Bool.eq_iff_iff,bw,bw];exact forall_congr' fun x=>forall_congr' fun hx=>by rw[e x hx]
 rw[e1,e2,e3]
end Go.Wind
namespace Go.Proofs.Tryz.Op
def N5(c:AV)(r p:Nat):Int:=(xQ c.beach c.plan r p).1
def FC(c:AV):List (List Int):=(bf c.beach.rows.toNat).map fun r=>(bf c.beach.places.toNat).map (N5 c r)
theorem sN{c:AV}(hc:B5 c):FQ c.beach [] c.beach.winds []≠[]:=fun e=>hc.tr (M3.1 (by rw[e];rfl))
theorem ADZ(c:AV){r p:Nat}(hr:r<c.beach.rows.toNat)(hp:p<c.beach.places.toNat):DE (FC c) r p=N5 c r p:=by unfold DE FC;rw[bj,bj,bx,bz,bz,bq hr];simp[bq hp]
theorem AD0{c:AV}(hc:B5 c){r p:Nat}(hr:r<c.beach.rows.toNat)(hp:p<c.beach.places.toNat):DE (A1 c) r p=N5 c r p:=by
 have hpl:=hc.be.pl;unfold DE A1 FE;rw[bj,bj,bp,bx,bz,bz,bq hr];simp only[bg,bc,Function.comp_apply];have hl:(N4 c.beach (FH c.beach) c.plan r).length=c.beach.places.toNat:=by simp[N4]
 unfold E6;rw[bx,bq (by omega)];simp only[bg,bc];rw[if_pos (by omega),bj];unfold N4;rw[bx,bq hp];simp only[bg,bc,sB];rw[<-R4 hc.be (XJ hc.be (sN hc))];rfl
theorem fX{c:AV}(hc:B5 c):wO c (A1 c) (FC c):=fun r p hr hp=>by rw[AD0 hc hr hp,ADZ c hr hp]
theorem AD1{c:AV}(hc:B5 c)(r p:Nat):JD (BU c.beach) (fun t=>(CJ c.beach c.plan t r p).good) (N5 c r p):=by have ha:=XJ hc.be (sN hc);unfold N5;rw[R4 hc.be ha];exact(nR hc.be ha c.plan r p).1
theorem mM{c:AV}(hc:B5 c)(r p:Nat):0<=N5 c r p/\N5 c r p<=5:=by obtain⟨t,ht,e⟩:=(AD1 hc r p).2;have h1:=gL c.beach c.plan t r p;have h2:=gK hc.be ht;omega
theorem mN{c:AV}(hc:B5 c):∀l∈A1 c,l.length=5/\∀x∈l,0<=x/\x<=5:=fun l hl=>by
 have hpl:=hc.be.pl;simp only[A1,FE,bp,List.mem_map,bb]at hl;obtain⟨r,hr,rfl⟩:=hl;refine⟨by simp[E6],fun x hx=>?_⟩;simp only[Function.comp_apply,E6,List.mem_map,bb]at hx;obtain⟨p,hp,rfl⟩:=hx;have hl:(N4 c.beach (FH c.beach) c.plan r).length=c.beach.places.toNat:=by simp[N4]
 by_cases h:p<(N4 c.beach (FH c.beach) c.plan r).length
 ·rw[if_pos h,bj];have hp:p<c.beach.places.toNat:=by omega
  unfold N4;rw[bx,bq hp];simp only[bg,bc,sB];rw[<-R4 hc.be (XJ hc.be (sN hc))];exact mM hc r p
 ·rw[if_neg h];decide
theorem AAU{c:AV}:(A1 c).length=c.beach.rows.toNat:=by simp[A1,FE]
end Go.Proofs.Tryz.Op
namespace Go.Wind
def LeS(c:AV)(s u:List (List Int)):Prop:=∀r p:Nat,r<c.beach.rows.toNat->p<c.beach.places.toNat->DE s r p<=DE u r p
structure Eas(c d:AV)(s u:List (List Int))(gs:List (Nat×Int))(f:Nat->Nat):Prop where
 ro:d.beach.rows=c.beach.rows
 pl:d.beach.places=c.beach.places
 su:LeS c s u
 go:∀g∈gs,(E4 d (f g.1)).good<=(E4 c g.1).good
 mi:∀g∈gs,∀k∈gs,JY d (f g.1) (f k.1)=true->JY c g.1 k.1=true
 ch:EB c<=EB d
def Y9(n:Nat)(out:List Int):List Nat:=(bf n).filter fun k=>!decide ((k:Int)∈out)
theorem sO(n:Nat)(out:List Int):Y9 (n+1) out=Y9 n out++if (n:Int)∈out then[] else[n]:=by unfold Y9;rw[List.range_succ,List.filter_append];congr 1;by_cases h:(n:Int)∈out<;>simp[h]
theorem AAV(n:Nat):Y9 n []=bf n:=by unfold Y9;simp
end Go.Wind
namespace Go.Proofs.Tryz.Op
theorem XK(c:AV)(out:List Int):∀k,B8 c.fams out k=(Y9 k out).map fun j=>(j,(E4 c j).size)
 |0=>rfl
 |k+1=>by
  rw[sO,List.map_append,<-XK c out k];show B8 c.fams out k++_=_;congr 1;by_cases h:(k:Int)∈out
  ·simp[h]
  ·simp[h,E4]
theorem jJ(c:AV)(out:List Int):AY c out=(Y9 c.fams.length out).map fun j=>(j,(E4 c j).size):=XK c out _
def spt(x:Sp):Int×Int:=(x.row,x.place)
theorem RO(c:AV):AY c []=(bf c.fams.length).map fun j=>(j,(E4 c j).size):=by rw[jJ,AAV]
theorem AAW{c:AV}{ss:List (Int×Int)}(h:ss.length=c.fams.length):(A8 c ss).map wM=AY c []:=by
 have hl:(A8 c ss).length=c.fams.length:=D0 h;rw[RO];apply List.ext_getElem (by simp[hl]);intro p h1 h2;have hp:p<c.fams.length:=by simpa using h2
 have e:=KG (k:=0) (fs:=c.fams) (ss:=ss) p hp (by omega) (by rw[show(HL 0 c.fams ss).length=c.fams.length from hl];exact hp);rw[Nat.zero_add]at e;simp only[List.getElem_map,List.getElem_range];rw[show(A8 c ss)[p]'(by rw[hl];exact hp)=_ from e];simp[wM,E4,List.getElem?_eq_getElem hp]
theorem AKE{c:AV}{s:List (List Int)}{ss:List (Int×Int)}(h:D3 c ss=true)(he:∀x∈A8 c ss,(BJ c s x).enough=true):OkS c s (AY c []) (A8 c ss):=by simp only[D3,I5,bk,decide_eq_true_eq]at h;exact⟨AAW h.1,h.2.1,h.2.2,he⟩
def HM(c:AV)(s:List (List Int))(ss:List (Int×Int)):Bool:=D3 c ss&&(D8 c s (A8 c ss)).enough
theorem V1{c:AV}{s:List (List Int)}{ss:List (Int×Int)}:HM c s ss=true↔D3 c ss=true/\∀x∈A8 c ss,(BJ c s x).enough=true:=by unfold HM;rw[VZ];simp only[bk,bw]
theorem mO{c:AV}{s:List (List Int)}{ss:List (Int×Int)}(h:HM c s ss=true):OkS c s (AY c []) (A8 c ss):=AKE (V1.1 h).1 (V1.1 h).2
def JZ(c:AV):Option (List Sp×CE):=ADY c (A1 c) (mJ c (A1 c) (AY c []))
def RP(c:AV):List (Int×Int)×Int×Int×Int:=if FG c≠0 then([],0,0,FG c) else match JZ c with
 |some q=>(q.1.map spt,q.2.sun,q.2.carried,0)
 |none=>([],0,0,10)
def V2(c:AV)(ss:List (Int×Int))(sun carried:Int):Bool:=decide (FG c=0)&&(D3 c ss&&((D8 c (A1 c) (A8 c ss)).enough&&(decide (sun<=(D8 c (A1 c) (A8 c ss)).sun)&&decide ((D8 c (A1 c) (A8 c ss)).carried<=carried))))
end Go.Proofs.Tryz.Op
