/- Allowed seatings, told by their members; the best one. No program in sight. -/
import Derived.Test.YthhdhbalenanjaaGreatA1
import Derived.Test.YthhdhbalenanjaaGreatSl
import Derived.Test.YthhdhbalenanjaaGreatD1
set_option maxRecDepth 100000
namespace Go.Wind
def gD(x:Sp):Nat×Int:=(x.fam,x.size)
theorem WM{c:AO}{sure:List (List Int)}:∀{gs:List (Nat×Int)} {out l:List Sp},l∈FW c sure gs out↔∃r,l=out++r∧r.map gD=gs∧DR c out r=true∧∀x∈r,(BG c sure x).enough=true
 |[],out,l=>by
  simp only[FW,List.mem_singleton];constructor
  ·rintro rfl;exact⟨[],by simp,rfl,rfl,by simp⟩
  ·rintro ⟨r,rfl,h,_,_⟩;rw[List.map_eq_nil_iff]at h;subst h;simp
 |g::gs,out,l=>by
  simp only[FW,List.mem_flatMap,List.mem_range];constructor
  ·rintro ⟨r,hr,p,hp,h⟩;split at h
   ·rename_i hz;simp only[Bool.and_eq_true]at hz;obtain⟨q,rfl,h1,h2,h3⟩:=WM.1 h;refine⟨⟨g.1,g.2,(r:Int),(p:Int)⟩::q,by simp,by simp[gD,h1],?_,?_⟩
    ·simp only[DR,Bool.and_eq_true];refine⟨⟨?_,hz.2⟩,h2⟩;simp only[CQ,Bool.and_eq_true,DC];omega
    ·intro x hx;rcases List.mem_cons.1 hx with rfl|hx
     ·exact hz.1
     ·exact h3 x hx
   ·cases h
  ·rintro ⟨q,rfl,h1,h2,h3⟩;cases q with
   |nil=>cases h1
   |cons x q=>
    simp only[List.map_cons,List.cons.injEq]at h1
    obtain⟨rfl,h1⟩:=h1
    simp only[DR,Bool.and_eq_true]at h2
    have hf:=h2.1.1
    simp only[CQ,Bool.and_eq_true,DC]at hf
    have e1:((x.row.toNat:Nat):Int)=x.row:=by omega
    have e2:((x.place.toNat:Nat):Int)=x.place:=by omega
    refine⟨x.row.toNat,by omega,x.place.toNat,by simp only[gD];omega,?_⟩
    simp only[gD,e1,e2]
    rw[if_pos (by rw[h3 x (by simp),h2.1.2];rfl)]
    exact WM.2 ⟨q,by simp,h1,h2.2,fun y hy=>h3 y (by simp[hy])⟩
def ED(gs:List (Nat×Int)):Int:=(gs.map (·.2)).sum
def TQ(c:AO)(sure:List (List Int))(gs:List (Nat×Int)):List (List Sp):=if (D5 c:Int)<ED gs then[] else FW c sure gs []
structure nV(c:AO)(sure:List (List Int))(gs:List (Nat×Int))(l:List Sp):Prop where
 gr:l.map gD=gs
 go:DR c [] l=true
 pe:C7 l≤D5 c
 en:∀x∈l,(BG c sure x).enough=true
theorem Z4(l:List Sp):C7 l=ED (l.map gD):=by unfold C7 ED;rw[List.map_map];rfl
theorem NG{c:AO}{sure:List (List Int)}{gs:List (Nat×Int)}{l:List Sp}:l∈TQ c sure gs↔nV c sure gs l:=by
 unfold TQ;by_cases h:(D5 c:Int)<ED gs
 ·rw[if_pos h];refine⟨fun hh=>(by cases hh),fun hh=>?_⟩;have:=hh.pe;rw[Z4,hh.gr]at this;omega
 ·rw[if_neg h,WM];constructor
  ·rintro ⟨r,e,h1,h2,h3⟩;rw[List.nil_append]at e;subst e;refine⟨h1,h2,?_,h3⟩;rw[Z4,h1];omega
  ·rintro ⟨h1,h2,_,h3⟩;exact⟨l,rfl,h1,h2,h3⟩
def ACE(c:AO)(sure:List (List Int))(gs:List (Nat×Int)):Bool:=!(TQ c sure gs).isEmpty
theorem yN{c:AO}{sure:List (List Int)}{gs:List (Nat×Int)}:ACE c sure gs=true↔∃l,nV c sure gs l:=by
 unfold ACE;constructor
 ·intro h;cases hl:TQ c sure gs with
  |nil=>rw[hl]at h;cases h
  |cons l r=>exact⟨l,NG.1 (by rw[hl];simp)⟩
 ·rintro ⟨l,hl⟩;have:=NG.2 hl;cases hz:TQ c sure gs with
  |nil=>rw[hz]at this;cases this
  |cons a r=>rfl
def uI(a b:CE):Prop:=b.sun<a.sun∨b.sun=a.sun∧a.carried≤b.carried
theorem TR(a:CE):uI a a:=.inr ⟨rfl,Int.le_refl _⟩
theorem iE{a b d:CE}(h1:uI a b)(h2:uI b d):uI a d:=by unfold uI at *;omega
theorem yO{c:AO}{sure:List (List Int)}:∀(ls:List (List Sp)) (acc:Option (List Sp×CE)),match ls.foldl (E0 c sure) acc with
  |some (_,t)=>(∀l∈ls,uI t (D6 c sure l))∧∀b u,acc=some (b,u)→uI t u
  |none=>True
 |[],acc=>by
  cases acc with
  |none=>trivial
  |some bt=>
   refine⟨fun l hl=>(by cases hl),fun b u h=>?_⟩
   cases h
   exact TR _
 |l::ls,acc=>by
  have ih:=yO (c:=c) (sure:=sure) ls (E0 c sure acc l);simp only[List.foldl_cons];have hstep:∃b t,E0 c sure acc l=some (b,t)∧uI t (D6 c sure l)∧∀b' u,acc=some (b',u)→uI t u:=by
   cases acc with
   |none=>exact⟨l,_,rfl,TR _,fun b' u h=>(by cases h)⟩
   |some bt=>
    obtain⟨b,t⟩:=bt
    simp only[E0]
    split
    ·rename_i h;refine⟨b,t,rfl,?_,fun b' u h=>?_⟩
     ·unfold uI;omega
     ·cases h;exact TR _
    ·rename_i h;refine⟨l,_,rfl,TR _,fun b' u h2=>?_⟩;cases h2;unfold uI;omega
  obtain⟨b,t,e,g1,g2⟩:=hstep;rw[e]at ih⊢;generalize ls.foldl (E0 c sure) (some (b,t))=R at ih⊢;cases R with
  |none=>trivial
  |some q=>
   obtain⟨b2,t2⟩:=q
   simp only at ih⊢
   obtain⟨h1,h2⟩:=ih
   have h3:=h2 b t rfl
   refine⟨fun x hx=>?_,fun b' u h=>iE h3 (g2 b' u h)⟩
   rcases List.mem_cons.1 hx with rfl|hx
   ·exact iE h3 g1
   ·exact h1 x hx
theorem QS{c:AO}{sure:List (List Int)}{ls:List (List Sp)}{b:List Sp}{t:CE}(h:iD c sure ls=some (b,t)):b∈ls∧t=D6 c sure b∧∀l∈ls,uI t (D6 c sure l):=by
 have h1:=Z0 (c:=c) (sure:=sure) ls none;have h2:=yO (c:=c) (sure:=sure) ls none;have h:ls.foldl (E0 c sure) none=_:=h;rw[h]at h1 h2;simp only at h1 h2;rcases h1 with⟨a1,a2⟩|a
 ·exact⟨a1,a2,h2.1⟩
 ·cases a
theorem iF{c:AO}{sure:List (List Int)}{ls:List (List Sp)}:iD c sure ls=none↔ls=[]:=by
 constructor
 ·intro h;have h1:=Z0 (c:=c) (sure:=sure) ls none;have h:ls.foldl (E0 c sure) none=_:=h;rw[h]at h1;exact h1.1
 ·rintro rfl;rfl
theorem nW(c:AO)(sure:List (List Int)):∀(l:List Sp) (t:CE),l.foldl (fun t x=>let s:=BG c sure x;⟨t.sun+s.sun,t.carried+s.carried,t.enough&&s.enough⟩) t=⟨t.sun+(l.map fun x=>(BG c sure x).sun).sum,t.carried+(l.map fun x=>(BG c sure x).carried).sum,t.enough&&l.all fun x=>(BG c sure x).enough⟩
 |[],t=>by simp
 |x::l,t=>by rw[List.foldl_cons,nW c sure l];simp only[List.map_cons,List.sum_cons,List.all_cons,Int.add_assoc,Bool.and_assoc]
theorem O9(c:AO)(sure:List (List Int))(l:List Sp):D6 c sure l=⟨(l.map fun x=>(BG c sure x).sun).sum,(l.map fun x=>(BG c sure x).carried).sum,l.all fun x=>(BG c sure x).enough⟩:=by unfold D6;rw[nW];simp
theorem Z5{α:Type}{f g:α→Int}:∀{l:List α},(∀x∈l,f x≤g x)→(l.map f).sum≤(l.map g).sum
 |[],_=>by simp
 |x::l,h=>by have ih:=Z5 (l:=l) (f:=f) (g:=g) fun y hy=>h y (by simp[hy]);have:=h x (by simp);simp only[List.map_cons,List.sum_cons];omega
theorem kY{α:Type}{f:α→Int}{m:Int}:∀{l:List α},(∀x∈l,0≤f x∧f x≤m)→0≤(l.map f).sum∧(l.map f).sum≤l.length*m
 |[],_=>by simp
 |x::l,h=>by
  have ih:=kY (l:=l) (f:=f) (m:=m) fun y hy=>h y (by simp[hy]);have:=h x (by simp);simp only[List.map_cons,List.sum_cons,List.length_cons];have e:((l.length+1:Nat):Int)*m=l.length*m+m:=by rw[Int.natCast_add,Int.add_mul];simp
  omega
theorem WN{c:AO}:∀{l before:List Sp},DR c before l=true↔(∀x∈l,CQ c x=true)∧(∀x∈l,∀y∈before,D0 c x y=true)∧l.Pairwise (fun y x=>D0 c x y=true)
 |[],before=>by simp[DR]
 |x::l,before=>by
  simp only[DR,Bool.and_eq_true,List.all_eq_true,WN (l:=l) (before:=before++[x]),List.mem_append,List.mem_cons,List.not_mem_nil,or_false,List.pairwise_cons];constructor
  ·rintro ⟨⟨h1,h2⟩,h3,h4,h5⟩;refine⟨fun y hy=>?_,fun y hy z hz=>?_,fun y hy=>h4 y hy x (.inr rfl),h5⟩
   ·rcases hy with rfl|hy
    ·exact h1
    ·exact h3 y hy
   ·rcases hy with rfl|hy
    ·exact h2 z hz
    ·exact h4 y hy z (.inl hz)
  ·rintro ⟨h1,h2,h3,h4⟩;refine⟨⟨h1 x (.inl rfl),fun z hz=>h2 x (.inl rfl) z hz⟩,fun y hy=>h1 y (.inr hy),fun y hy z hz=>?_,h4⟩;rcases hz with hz|rfl
   ·exact h2 y (.inr hy) z hz
   ·exact h3 y hy
theorem LR{c:AO}{sure:List (List Int)}{gs:List (Nat×Int)}{l:List Sp}:nV c sure gs l↔l.map gD=gs∧(∀x∈l,CQ c x=true∧(BG c sure x).enough=true)∧l.Pairwise (fun y x=>D0 c x y=true)∧C7 l≤D5 c:=by
 constructor
 ·rintro ⟨h1,h2,h3,h4⟩;obtain⟨g1,_,g3⟩:=WN.1 h2;exact⟨h1,fun x hx=>⟨g1 x hx,h4 x hx⟩,g3,h3⟩
 ·rintro ⟨h1,h2,h3,h4⟩;exact⟨h1,WN.2 ⟨fun x hx=>(h2 x hx).1,fun x _ y hy=>(by cases hy),h3⟩,h4,fun x hx=>(h2 x hx).2⟩
theorem AFN{α:Type}{R S:α→α→Prop}:∀{l:List α},(∀x∈l,∀y∈l,R x y→S x y)→l.Pairwise R→l.Pairwise S
 |[],_,_=>.nil
 |x::l,h,hp=>by obtain⟨h1,h2⟩:=List.pairwise_cons.1 hp;exact List.pairwise_cons.2 ⟨fun y hy=>h x (by simp) y (by simp[hy]) (h1 y hy),AFN (fun a ha b hb=>h a (by simp[ha]) b (by simp[hb])) h2⟩
theorem nV.mapS{c d:AO}{sure sure':List (List Int)}{gs:List (Nat×Int)}{l:List Sp}(h:nV c sure gs l)(f:Sp→Sp)(h1:∀x∈l,CQ c x=true→(BG c sure x).enough=true→CQ d (f x)=true∧(BG d sure' (f x)).enough=true)(h2:∀x∈l,∀y∈l,D0 c x y=true→D0 d (f x) (f y)=true)(h3:C7 (l.map f)≤D5 d):nV d sure' ((l.map f).map gD) (l.map f):=by
 obtain⟨_,g2,g3,_⟩:=LR.1 h;refine LR.2 ⟨rfl,fun x hx=>?_,?_,h3⟩
 ·obtain⟨y,hy,rfl⟩:=List.mem_map.1 hx;exact h1 y hy (g2 y hy).1 (g2 y hy).2
 ·rw[List.pairwise_map];exact AFN (fun x hx y hy e=>h2 y hy x hx e) g3
theorem uJ{l m:List Sp}(h:l.Sublist m):(∀x∈m,0≤x.size)→C7 l≤C7 m:=by
 induction h with
 |slnil=>exact fun _=>Int.le_refl _
 |cons a _ ih=>
  intro h
  have:=ih fun x hx=>h x (by simp[hx])
  have:=h a (by simp)
  simp only[C7,List.map_cons,List.sum_cons]at *
  omega
 |cons_cons a _ ih=>
  intro h
  have:=ih fun x hx=>h x (by simp[hx])
  simp only[C7,List.map_cons,List.sum_cons]at *
  omega
theorem nV.sub{c:AO}{sure:List (List Int)}{gs:List (Nat×Int)}{l m:List Sp}(h:nV c sure gs m)(hs:l.Sublist m)(h0:∀x∈m,0≤x.size):nV c sure (l.map gD) l:=by obtain⟨_,g2,g3,g4⟩:=LR.1 h;refine LR.2 ⟨rfl,fun x hx=>g2 x (hs.subset hx),g3.sublist hs,?_⟩;have:=uJ hs h0;omega
open Go Go.Pg Go.Proofs Go.Wind
def LU(c:AO)(s u:List (List Int)):Prop:=∀r p:Nat,r<c.beach.rows.toNat→p<c.beach.places.toNat→C8 s r p=C8 u r p
theorem NH{c:AO}{x:Sp}(h:CQ c x=true):0≤x.row∧x.row<c.beach.rows∧0≤x.place∧x.place+x.size≤c.beach.places:=by simp only[CQ,Bool.and_eq_true,DC]at h;omega
theorem yP{c:AO}{s u:List (List Int)}(h:LU c s u){x:Sp}(hx:CQ c x=true){p:Nat}(hp:p<x.size.toNat):C8 s x.row (x.place+(p:Int))=C8 u x.row (x.place+(p:Int)):=by
 obtain⟨h1,h2,h3,h4⟩:=NH hx;have:=h x.row.toNat (x.place.toNat+p) (by omega) (by omega);have e1:((x.row.toNat:Nat):Int)=x.row:=by omega
 have e2:((x.place.toNat+p:Nat):Int)=x.place+(p:Int):=by omega
 rwa [e1,e2]at this
theorem ACF{n:Nat}{f g:Nat→Bool}(h:∀p,p<n→f p=g p):(List.range n).all f=(List.range n).all g:=by rw[Bool.eq_iff_iff,List.all_eq_true,List.all_eq_true];refine forall_congr' fun p=>forall_congr' fun hp=>?_;rw[h p (List.mem_range.1 hp)]
theorem YD{c:AO}{s u:List (List Int)}(h:LU c s u){x:Sp}(hx:CQ c x=true):BG c s x=BG c u x:=by unfold BG;rw[FP fun p hp=>yP h hx hp,ACF fun p hp=>by rw[yP h hx hp]]
theorem nV.congr{c:AO}{s u:List (List Int)}(h:LU c s u){gs:List (Nat×Int)}{l:List Sp}(hl:nV c s gs l):nV c u gs l:=by obtain⟨h1,h2,h3,h4⟩:=LR.1 hl;exact LR.2 ⟨h1,fun x hx=>⟨(h2 x hx).1,by rw[←YD h (h2 x hx).1];exact(h2 x hx).2⟩,h3,h4⟩
theorem LU.symm{c:AO}{s u:List (List Int)}(h:LU c s u):LU c u s:=fun r p h1 h2=>(h r p h1 h2).symm
theorem LU.trans{c:AO}{s u v:List (List Int)}(h:LU c s u)(h2:LU c u v):LU c s v:=fun r p g1 g2=>(h r p g1 g2).trans (h2 r p g1 g2)
theorem ACG{c:AO}{s u:List (List Int)}(h:LU c s u){l:List Sp}(hl:∀x∈l,CQ c x=true):D6 c s l=D6 c u l:=by
 have e:∀x∈l,BG c s x=BG c u x:=fun x hx=>YD h (hl x hx);rw[O9,O9];have e1:(l.map fun x=>(BG c s x).sun)=l.map fun x=>(BG c u x).sun:=List.map_congr_left fun x hx=>by rw[e x hx]
 have e2:(l.map fun x=>(BG c s x).carried)=l.map fun x=>(BG c u x).carried:=List.map_congr_left fun x hx=>by rw[e x hx]
 have e3:(l.all fun x=>(BG c s x).enough)=l.all fun x=>(BG c u x).enough:=by rw[Bool.eq_iff_iff,List.all_eq_true,List.all_eq_true];exact forall_congr' fun x=>forall_congr' fun hx=>by rw[e x hx]
 rw[e1,e2,e3]
end Go.Wind
namespace Go.Proofs.Tryz.Op
def ON(c:AO)(r p:Nat):Int:=(zW c.beach c.plan r p).1
def FM(c:AO):List (List Int):=(List.range c.beach.rows.toNat).map fun r=>(List.range c.beach.places.toNat).map (ON c r)
theorem uK{c:AO}(hc:BZ c):FE c.beach [] c.beach.winds []≠[]:=fun e=>hc.tr (NI.1 (by rw[e];rfl))
theorem AFO(c:AO){r p:Nat}(hr:r<c.beach.rows.toNat)(hp:p<c.beach.places.toNat):C8 (FM c) r p=ON c r p:=by unfold C8 FM;rw[List.getD_eq_getElem?_getD,List.getD_eq_getElem?_getD,List.getElem?_map,Int.toNat_natCast,Int.toNat_natCast,List.getElem?_range hr];simp[List.getElem?_range hp]
theorem AFP{c:AO}(hc:BZ c){r p:Nat}(hr:r<c.beach.rows.toNat)(hp:p<c.beach.places.toNat):C8 (A4 c) r p=ON c r p:=by
 have hpl:=hc.be.pl;unfold C8 A4 FO;rw[List.getD_eq_getElem?_getD,List.getD_eq_getElem?_getD,List.map_map,List.getElem?_map,Int.toNat_natCast,Int.toNat_natCast,List.getElem?_range hr];simp only[Option.map_some,Option.getD_some,Function.comp_apply];have hl:(OM c.beach (FD c.beach) c.plan r).length=c.beach.places.toNat:=by simp[OM]
 unfold FC;rw[List.getElem?_map,List.getElem?_range (by omega)];simp only[Option.map_some,Option.getD_some];rw[if_pos (by omega),List.getD_eq_getElem?_getD];unfold OM;rw[List.getElem?_map,List.getElem?_range hp];simp only[Option.map_some,Option.getD_some,tW];rw[←SW hc.be (YC hc.be (uK hc))];rfl
theorem iG{c:AO}(hc:BZ c):LU c (A4 c) (FM c):=fun r p hr hp=>by rw[AFP hc hr hp,AFO c hr hp]
theorem AFQ{c:AO}(hc:BZ c)(r p:Nat):HG (BO c.beach) (fun t=>(B8 c.beach c.plan t r p).good) (ON c r p):=by have ha:=YC hc.be (uK hc);unfold ON;rw[SW hc.be ha];exact(pD hc.be ha c.plan r p).1
theorem nX{c:AO}(hc:BZ c)(r p:Nat):0≤ON c r p∧ON c r p≤5:=by obtain⟨t,ht,e⟩:=(AFQ hc r p).2;have h1:=iT c.beach c.plan t r p;have h2:=iS hc.be ht;omega
theorem nY{c:AO}(hc:BZ c):∀l∈A4 c,l.length=5∧∀x∈l,0≤x∧x≤5:=fun l hl=>by
 have hpl:=hc.be.pl;simp only[A4,FO,List.map_map,List.mem_map,List.mem_range]at hl;obtain⟨r,hr,rfl⟩:=hl;refine⟨by simp[FC],fun x hx=>?_⟩;simp only[Function.comp_apply,FC,List.mem_map,List.mem_range]at hx;obtain⟨p,hp,rfl⟩:=hx;have hl:(OM c.beach (FD c.beach) c.plan r).length=c.beach.places.toNat:=by simp[OM]
 by_cases h:p<(OM c.beach (FD c.beach) c.plan r).length
 ·rw[if_pos h,List.getD_eq_getElem?_getD];have hp:p<c.beach.places.toNat:=by omega
  unfold OM;rw[List.getElem?_map,List.getElem?_range hp];simp only[Option.map_some,Option.getD_some,tW];rw[←SW hc.be (YC hc.be (uK hc))];exact nX hc r p
 ·rw[if_neg h];decide
theorem ACH{c:AO}:(A4 c).length=c.beach.rows.toNat:=by simp[A4,FO]
end Go.Proofs.Tryz.Op
namespace Go.Wind
def PA(f:Nat→Nat)(x:Sp):Sp:={ x with fam:=f x.fam }
theorem ACI(f:Nat→Nat)(l:List Sp):(l.map (PA f)).map gD=(l.map gD).map fun g=>(f g.1,g.2):=by rw[List.map_map,List.map_map];rfl
theorem kZ(f:Nat→Nat)(l:List Sp):C7 (l.map (PA f))=C7 l:=by unfold C7;rw[List.map_map];rfl
def LeS(c:AO)(s u:List (List Int)):Prop:=∀r p:Nat,r<c.beach.rows.toNat→p<c.beach.places.toNat→C8 s r p≤C8 u r p
theorem LeS.rfl{c:AO}{s:List (List Int)}:LeS c s s:=fun _ _ _ _=>Int.le_refl _
theorem LU.le{c:AO}{s u:List (List Int)}(h:LU c s u):LeS c s u:=fun r p h1 h2=>Int.le_of_eq (h r p h1 h2)
theorem LeS.in{c:AO}{s u:List (List Int)}(h:LeS c s u){x:Sp}(hx:CQ c x=true){p:Nat}(hp:p<x.size.toNat):C8 s x.row (x.place+(p:Int))≤C8 u x.row (x.place+(p:Int)):=by
 obtain⟨h1,h2,h3,h4⟩:=NH hx;have:=h x.row.toNat (x.place.toNat+p) (by omega) (by omega);have e1:((x.row.toNat:Nat):Int)=x.row:=by omega
 have e2:((x.place.toNat+p:Nat):Int)=x.place+(p:Int):=by omega
 rwa [e1,e2]at this
theorem Z6{f g:Nat→Int}:∀{n:Nat},(∀p,p<n→f p≤g p)→DJ f n≤DJ g n
 |0,_=>Int.le_refl _
 |n+1,h=>by have ih:=Z6 (f:=f) (g:=g) (n:=n) fun p hp=>h p (by omega);have:=h n (by omega);simp only[DJ];omega
structure Eas(c d:AO)(s u:List (List Int))(gs:List (Nat×Int))(f:Nat→Nat):Prop where
 ro:d.beach.rows=c.beach.rows
 pl:d.beach.places=c.beach.places
 su:LeS c s u
 go:∀g∈gs,(EN d (f g.1)).good≤(EN c g.1).good
 mi:∀g∈gs,∀k∈gs,JL d (f g.1) (f k.1)=true→JL c g.1 k.1=true
 ch:D5 c≤D5 d
theorem Eas.fits{c d:AO}{s u:List (List Int)}{gs:List (Nat×Int)}{f:Nat→Nat}(h:Eas c d s u gs f)(x:Sp):CQ d (PA f x)=CQ c x:=by unfold CQ;rw[h.ro,h.pl];rfl
theorem Eas.ok{c d:AO}{s u:List (List Int)}{gs:List (Nat×Int)}{f:Nat→Nat}(h:Eas c d s u gs f){l:List Sp}(hl:nV c s gs l):nV d u (gs.map fun g=>(f g.1,g.2)) (l.map (PA f)):=by
 have hg:∀x∈l,gD x∈gs:=fun x hx=>by rw[←hl.gr];exact List.mem_map_of_mem hx
 have e:gs.map (fun g=>(f g.1,g.2))=(l.map (PA f)).map gD:=by rw[ACI,hl.gr]
 rw[e];refine hl.mapS (PA f) (fun x hx h1 h2=>⟨by rw[h.fits];exact h1,?_⟩) (fun x hx y hy ha=>?_) ?_
 ·have e2:(BG d u (PA f x)).enough=(List.range x.size.toNat).all fun p=>decide ((EN d (f x.fam)).good≤C8 u x.row (x.place+(p:Int))):=rfl;rw[e2];simp only[BG,List.all_eq_true,List.mem_range,decide_eq_true_eq]at h2⊢;intro p hp;have a1:=h2 p hp;have a2:=h.su.in h1 hp;have a3:=h.go _ (hg x hx);simp only[gD]at a3;omega
 ·have e2:D0 d (PA f x) (PA f y)=(decide (x.row≠y.row)||(decide (0<ZZ x y)||(decide (ZZ x y=0)&&!JL d (f x.fam) (f y.fam)))):=rfl;rw[e2];simp only[D0,Bool.or_eq_true,decide_eq_true_eq,Bool.and_eq_true,Bool.not_eq_true',←Bool.not_eq_true]at ha⊢;rcases ha with ha|ha|⟨ha,hb⟩
  ·exact .inl ha
  ·exact .inr (.inl ha)
  ·exact .inr (.inr ⟨ha,fun hm=>hb (h.mi _ (hg x hx) _ (hg y hy) hm)⟩)
 ·rw[kZ];have:=hl.pe;have:=h.ch;omega
theorem Eas.can{c d:AO}{s u:List (List Int)}{gs:List (Nat×Int)}{f:Nat→Nat}(h:Eas c d s u gs f)(hc:ACE c s gs=true):ACE d u (gs.map fun g=>(f g.1,g.2))=true:=by obtain⟨l,hl⟩:=yN.1 hc;exact yN.2 ⟨_,h.ok hl⟩
theorem Eas.sun{c d:AO}{s u:List (List Int)}{gs:List (Nat×Int)}{f:Nat→Nat}(h:Eas c d s u gs f){l:List Sp}(hl:nV c s gs l):(D6 c s l).sun≤(D6 d u (l.map (PA f))).sun:=by rw[O9,O9];simp only[List.map_map];exact Z5 fun x hx=>Z6 fun p hp=>h.su.in ((LR.1 hl).2.1 x hx).1 hp
theorem Eas.best{c d:AO}{s u:List (List Int)}{gs:List (Nat×Int)}{f:Nat→Nat}(h:Eas c d s u gs f){b:List Sp}{t:CE}(hb:iD c s (TQ c s gs)=some (b,t)):∃b' t',iD d u (TQ d u (gs.map fun g=>(f g.1,g.2)))=some (b',t')∧t.sun≤t'.sun∧uI t' (D6 d u (b.map (PA f))):=by
 obtain⟨h1,h2,_⟩:=QS hb;have hl:=NG.1 h1;have hm:=NG.2 (h.ok hl);cases hz:iD d u (TQ d u (gs.map fun g=>(f g.1,g.2)))with
 |none=>
  rw[iF.1 hz]at hm
  cases hm
 |some q=>
  obtain⟨b',t'⟩:=q
  have h3:=(QS hz).2.2 _ hm
  refine⟨b',t',rfl,?_,h3⟩
  have h4:=h.sun hl
  rw[←h2]at h4
  unfold uI at h3
  omega
def YE(n:Nat)(out:List Int):List Nat:=(List.range n).filter fun k=>!decide ((k:Int)∈out)
theorem uL(n:Nat)(out:List Int):YE (n+1) out=YE n out++if (n:Int)∈out then[] else[n]:=by unfold YE;rw[List.range_succ,List.filter_append];congr 1;by_cases h:(n:Int)∈out<;>simp[h]
theorem ACJ(n:Nat):YE n []=List.range n:=by unfold YE;simp
def BPW(c:AO)(out:List Int):AO:={ c with fams:=(YE c.fams.length out).map (EN c) }
end Go.Wind
namespace Go.Proofs.Tryz.Op
theorem YF(c:AO)(out:List Int):∀k,CB c.fams out k=(YE k out).map fun j=>(j,(EN c j).size)
 |0=>rfl
 |k+1=>by
  rw[uL,List.map_append,←YF c out k];show CB c.fams out k++_=_;congr 1;by_cases h:(k:Int)∈out
  ·simp[h]
  ·simp[h,EN]
theorem lA(c:AO)(out:List Int):AY c out=(YE c.fams.length out).map fun j=>(j,(EN c j).size):=YF c out _
def spt(x:Sp):Int×Int:=(x.row,x.place)
theorem SI(c:AO):AY c []=(List.range c.fams.length).map fun j=>(j,(EN c j).size):=by rw[lA,ACJ]
theorem ACK{c:AO}{ss:List (Int×Int)}(h:ss.length=c.fams.length):(A2 c ss).map gD=AY c []:=by
 have hl:(A2 c ss).length=c.fams.length:=DO h;rw[SI];apply List.ext_getElem (by simp[hl]);intro p h1 h2;have hp:p<c.fams.length:=by simpa using h2
 have e:=KO (k:=0) (fs:=c.fams) (ss:=ss) p hp (by omega) (by rw[show(HR 0 c.fams ss).length=c.fams.length from hl];exact hp);rw[Nat.zero_add]at e;simp only[List.getElem_map,List.getElem_range];rw[show(A2 c ss)[p]'(by rw[hl];exact hp)=_ from e];simp[gD,EN,List.getElem?_eq_getElem hp]
theorem AL8{c:AO}{s:List (List Int)}{ss:List (Int×Int)}(h:DL c ss=true)(he:∀x∈A2 c ss,(BG c s x).enough=true):nV c s (AY c []) (A2 c ss):=by simp only[DL,JG,Bool.and_eq_true,decide_eq_true_eq]at h;exact⟨ACK h.1,h.2.1,h.2.2,he⟩
def HS(c:AO)(s:List (List Int))(ss:List (Int×Int)):Bool:=DL c ss&&(D6 c s (A2 c ss)).enough
theorem WO{c:AO}{s:List (List Int)}{ss:List (Int×Int)}:HS c s ss=true↔DL c ss=true∧∀x∈A2 c ss,(BG c s x).enough=true:=by unfold HS;rw[O9];simp only[Bool.and_eq_true,List.all_eq_true]
theorem nZ{c:AO}{s:List (List Int)}{ss:List (Int×Int)}(h:HS c s ss=true):nV c s (AY c []) (A2 c ss):=AL8 (WO.1 h).1 (WO.1 h).2
def J6(c:AO):Option (List Sp×CE):=iD c (A4 c) (TQ c (A4 c) (AY c []))
def SJ(c:AO):List (Int×Int)×Int×Int×Int:=if DZ c≠0 then([],0,0,DZ c) else match J6 c with
 |some q=>(q.1.map spt,q.2.sun,q.2.carried,0)
 |none=>([],0,0,10)
def WP(c:AO)(ss:List (Int×Int))(sun carried:Int):Bool:=decide (DZ c=0)&&(DL c ss&&((D6 c (A4 c) (A2 c ss)).enough&&(decide (sun≤(D6 c (A4 c) (A2 c ss)).sun)&&decide ((D6 c (A4 c) (A2 c ss)).carried≤carried))))
def A60(c:AO)(out:List Int):Bool:=ACE c (A4 c) (AY c out)
def BGR(c:AO):List Int×Int:=if DZ c≠0 then([],DZ c) else((AVE (A60 c) c.fams.length).getD [],0)
def AL9(c:AO)(k:Nat):Bool:=(List.range ((EN c k).size / 2).toNat).any fun n=>ACE c (A4 c) (AY c [(k:Int)]++[(k,(n:Int)+1),(k,(EN c k).size-((n:Int)+1))])
def BJX(c:AO):List Int×Int:=if DZ c≠0 then([],DZ c) else if A60 c []=true then([],7) else(((List.range c.fams.length).filter (AL9 c)).map fun (k:Nat)=>(k:Int),0)
end Go.Proofs.Tryz.Op
