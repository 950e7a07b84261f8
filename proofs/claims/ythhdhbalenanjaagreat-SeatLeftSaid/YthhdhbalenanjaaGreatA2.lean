/- Allowed seatings, told by their members; the best one. No program in sight. -/
import Derived.Test.YthhdhbalenanjaaGreatS3
open List renaming getElem?_eq_getElem->bj,getD_eq_getElem?_getD->bk,mem_range->bw,mem_map->bx,map_map->bz,getElem_of_mem->bb,pairwise_cons->bc,range->bf,mem_singleton->bg,map_cons->bh,getElem?_map->bm
open Bool renaming and_eq_true->bq
set_option maxRecDepth 100000
namespace Go.Wind
def vY(x:Sp):Nat×Int:=(x.fam,x.size)
theorem UG{c:AW}{sure:List (List Int)}:∀{gs:List (Nat×Int)} {out l:List Sp},l∈E2 c sure gs out↔∃r,l=out++r/\r.map vY=gs/\NP c out r=true/\∀x∈r,(BS c sure x).enough=true
 |[],out,l=>by
  simp only[E2,bg];constructor
  ·rintro rfl;exact⟨[],by simp,rfl,rfl,by simp⟩
  ·rintro ⟨r,rfl,h,_,_⟩;rw[List.map_eq_nil_iff]at h;subst h;simp
 |g::gs,out,l=>by
  simp only[E2,List.mem_flatMap,bw];constructor
  ·rintro ⟨r,hr,p,hp,h⟩;split at h
   ·rename_i hz;simp only[bq]at hz;obtain⟨q,rfl,h1,h2,h3⟩:=UG.1 h;refine⟨⟨g.1,g.2,(r:Int),(p:Int)⟩::q,by simp,by simp[vY,h1],?_,?_⟩
    ·simp only[NP,bq];refine⟨⟨?_,hz.2⟩,h2⟩;simp only[JR,bq,EL];omega
    ·intro x hx;rcases List.mem_cons.1 hx with rfl|hx
     ·exact hz.1
     ·exact h3 x hx
   ·cases h
  ·rintro ⟨q,rfl,h1,h2,h3⟩;cases q with
   |nil=>cases h1
   |cons x q=>
    simp only[bh,List.cons.injEq]at h1
    obtain⟨rfl,h1⟩:=h1
    simp only[NP,bq]at h2
    have hf:=h2.1.1
    simp only[JR,bq,EL]at hf
    have e1:((x.row.toNat:Nat):Int)=x.row:=by omega
    have e2:((x.place.toNat:Nat):Int)=x.place:=by omega
    refine⟨x.row.toNat,by omega,x.place.toNat,by simp only[vY];omega,?_⟩
    simp only[vY,e1,e2]
    rw[if_pos (by rw[h3 x (by simp),h2.1.2];rfl)]
    exact UG.2 ⟨q,by simp,h1,h2.2,fun y hy=>h3 y (by simp[hy])⟩
def DP(gs:List (Nat×Int)):Int:=(gs.map (·.2)).sum
def RK(c:AW)(sure:List (List Int))(gs:List (Nat×Int)):List (List Sp):=if (GI c:Int)<DP gs then[] else E2 c sure gs []
structure OkS(c:AW)(sure:List (List Int))(gs:List (Nat×Int))(l:List Sp):Prop where
 gr:l.map vY=gs
 go:NP c [] l=true
 pe:L8 l<=GI c
 en:∀x∈l,(BS c sure x).enough=true
theorem XM(l:List Sp):L8 l=DP (l.map vY):=by unfold L8 DP;rw[bz];rfl
theorem sG{c:AW}{sure:List (List Int)}{gs:List (Nat×Int)}{l:List Sp}:l∈RK c sure gs↔OkS c sure gs l:=by
 unfold RK;by_cases h:(GI c:Int)<DP gs
 ·rw[if_pos h];refine⟨fun hh=>(by cases hh),fun hh=>?_⟩;have:=hh.pe;rw[XM,hh.gr]at this;omega
 ·rw[if_neg h,UG];constructor
  ·rintro ⟨r,e,h1,h2,h3⟩;rw[List.nil_append]at e;subst e;refine⟨h1,h2,?_,h3⟩;rw[XM,h1];omega
  ·rintro ⟨h1,h2,_,h3⟩;exact⟨l,rfl,h1,h2,h3⟩
def QO(c:AW)(sure:List (List Int))(gs:List (Nat×Int)):Bool:=!(RK c sure gs).isEmpty
theorem fC{c:AW}{sure:List (List Int)}{gs:List (Nat×Int)}:QO c sure gs=true↔∃l,OkS c sure gs l:=by
 unfold QO;constructor
 ·intro h;cases hl:RK c sure gs with
  |nil=>rw[hl]at h;cases h
  |cons l r=>exact⟨l,sG.1 (by rw[hl];simp)⟩
 ·rintro ⟨l,hl⟩;have:=sG.2 hl;cases hz:RK c sure gs with
  |nil=>rw[hz]at this;cases this
  |cons a r=>rfl
theorem vZ{c:AW}{sure:List (List Int)}{ls:List (List Sp)}:AAM c sure ls=none↔ls=[]:=by
 constructor
 ·intro h;have h1:=iS (c:=c) (sure:=sure) ls none;have h:ls.foldl (F1 c sure) none=_:=h;rw[h]at h1;exact h1.1
 ·rintro rfl;rfl
theorem iU(c:AW)(sure:List (List Int)):∀(l:List Sp) (t:CC),l.foldl (fun t x=>let s:=BS c sure x;⟨t.sun+s.sun,t.carried+s.carried,t.enough&&s.enough⟩) t=⟨t.sun+(l.map fun x=>(BS c sure x).sun).sum,t.carried+(l.map fun x=>(BS c sure x).carried).sum,t.enough&&l.all fun x=>(BS c sure x).enough⟩
 |[],t=>by simp
 |x::l,t=>by rw[List.foldl_cons,iU c sure l];simp only[bh,List.sum_cons,List.all_cons,Int.add_assoc,Bool.and_assoc]
theorem AOO(c:AW)(sure:List (List Int))(l:List Sp):F0 c sure l=⟨(l.map fun x=>(BS c sure x).sun).sum,(l.map fun x=>(BS c sure x).carried).sum,l.all fun x=>(BS c sure x).enough⟩:=by unfold F0;rw[iU];simp
theorem fD{α:Type}{f:α->Int}{m:Int}:∀{l:List α},(∀x∈l,0<=f x/\f x<=m)->0<=(l.map f).sum/\(l.map f).sum<=l.length*m
 |[],_=>by simp
 |x::l,h=>by
  have ih:=fD (l:=l) (f:=f) (m:=m) fun y hy=>h y (by simp[hy]);have:=h x (by simp);simp only[bh,List.sum_cons,List.length_cons];have e:((l.length+1:Nat):Int)*m=l.length*m+m:=by rw[Int.natCast_add,Int.add_mul];simp
  omega
theorem UH{c:AW}:∀{l before:List Sp},NP c before l=true↔(∀x∈l,JR c x=true)/\(∀x∈l,∀y∈before,FW c x y=true)/\l.Pairwise (fun y x=>FW c x y=true)
 |[],before=>by simp[NP]
 |x::l,before=>by
  simp only[NP,bq,List.all_eq_true,UH (l:=l) (before:=before++[x]),List.mem_append,List.mem_cons,List.not_mem_nil,or_false,bc];constructor
  ·rintro ⟨⟨h1,h2⟩,h3,h4,h5⟩;refine⟨fun y hy=>?_,fun y hy z hz=>?_,fun y hy=>h4 y hy x (.inr rfl),h5⟩
   ·rcases hy with rfl|hy
    ·exact h1
    ·exact h3 y hy
   ·rcases hy with rfl|hy
    ·exact h2 z hz
    ·exact h4 y hy z (.inl hz)
  ·rintro ⟨h1,h2,h3,h4⟩;refine⟨⟨h1 x (.inl rfl),fun z hz=>h2 x (.inl rfl) z hz⟩,fun y hy=>h1 y (.inr hy),fun y hy z hz=>?_,h4⟩;rcases hz with hz|rfl
   ·exact h2 y (.inr hy) z hz
   ·exact h3 y hy
theorem sH{c:AW}{sure:List (List Int)}{gs:List (Nat×Int)}{l:List Sp}:OkS c sure gs l↔l.map vY=gs/\(∀x∈l,JR c x=true/\(BS c sure x).enough=true)/\l.Pairwise (fun y x=>FW c x y=true)/\L8 l<=GI c:=by
 constructor
 ·rintro ⟨h1,h2,h3,h4⟩;obtain⟨g1,_,g3⟩:=UH.1 h2;exact⟨h1,fun x hx=>⟨g1 x hx,h4 x hx⟩,g3,h3⟩
 ·rintro ⟨h1,h2,h3,h4⟩;exact⟨h1,UH.2 ⟨fun x hx=>(h2 x hx).1,fun x _ y hy=>(by cases hy),h3⟩,h4,fun x hx=>(h2 x hx).2⟩
theorem AAQ{α:Type}{R S:α->α->Prop}:∀{l:List α},(∀x∈l,∀y∈l,R x y->S x y)->l.Pairwise R->l.Pairwise S
 |[],_,_=>.nil
 |x::l,h,hp=>by obtain⟨h1,h2⟩:=bc.1 hp;exact bc.2 ⟨fun y hy=>h x (by simp) y (by simp[hy]) (h1 y hy),AAQ (fun a ha b hb=>h a (by simp[ha]) b (by simp[hb])) h2⟩
theorem OkS.mapS{c d:AW}{sure sure':List (List Int)}{gs:List (Nat×Int)}{l:List Sp}(h:OkS c sure gs l)(f:Sp->Sp)(h1:∀x∈l,JR c x=true->(BS c sure x).enough=true->JR d (f x)=true/\(BS d sure' (f x)).enough=true)(h2:∀x∈l,∀y∈l,FW c x y=true->FW d (f x) (f y)=true)(h3:L8 (l.map f)<=GI d):OkS d sure' ((l.map f).map vY) (l.map f):=by
 obtain⟨_,g2,g3,_⟩:=sH.1 h;refine sH.2 ⟨rfl,fun x hx=>?_,?_,h3⟩
 ·obtain⟨y,hy,rfl⟩:=bx.1 hx;exact h1 y hy (g2 y hy).1 (g2 y hy).2
 ·rw[List.pairwise_map];exact AAQ (fun x hx y hy e=>h2 y hy x hx e) g3
end Go.Wind
open Go Go.Pg Go.Proofs Go.Wind
namespace Go.Wind
theorem W2{c:AW}{x:Sp}(h:JR c x=true):0<=x.row/\x.row<c.beach.rows/\0<=x.place/\x.place+x.size<=c.beach.places:=by simp only[JR,bq,EL]at h;omega
end Go.Wind
namespace Go.Proofs.Tryz.Op
def sI(c:AW)(r p:Nat):Int:=(tE c.beach c.plan r p).1
theorem AAR{c:AW}(hc:C0 c):E4 c.beach [] c.beach.winds []≠[]:=fun e=>hc.tr (MA.1 (by rw[e];rfl))
theorem AAS{c:AW}(hc:C0 c)(r p:Nat):IJ (B9 c.beach) (fun t=>(I3 c.beach c.plan t r p).good) (sI c r p):=by have ha:=eY hc.be (AAR hc);unfold sI;rw[YJ hc.be ha];exact(jP hc.be ha c.plan r p).1
theorem AAT{c:AW}(hc:C0 c)(r p:Nat):0<=sI c r p/\sI c r p<=5:=by obtain⟨t,ht,e⟩:=(AAS hc r p).2;have h1:=dH c.beach c.plan t r p;have h2:=dG hc.be ht;omega
theorem iV{c:AW}(hc:C0 c):∀l∈AU c,l.length=5/\∀x∈l,0<=x/\x<=5:=fun l hl=>by
 have hpl:=hc.be.pl;simp only[AU,E0,bz,bx,bw]at hl;obtain⟨r,hr,rfl⟩:=hl;refine⟨by simp[EU],fun x hx=>?_⟩;simp only[Function.comp_apply,EU,bx,bw]at hx;obtain⟨p,hp,rfl⟩:=hx;have hl:(P6 c.beach (E3 c.beach) c.plan r).length=c.beach.places.toNat:=by simp[P6]
 by_cases h:p<(P6 c.beach (E3 c.beach) c.plan r).length
 ·rw[if_pos h,bk];have hp:p<c.beach.places.toNat:=by omega
  unfold P6;rw[bm,List.getElem?_range hp];simp only[Option.map_some,Option.getD_some,rQ];rw[<-YJ hc.be (eY hc.be (AAR hc))];exact AAT hc r p
 ·rw[if_neg h];decide
theorem wA{c:AW}:(AU c).length=c.beach.rows.toNat:=by simp[AU,E0]
end Go.Proofs.Tryz.Op
namespace Go.Wind
def RL(f:Nat->Nat)(x:Sp):Sp:={ x with fam:=f x.fam }
theorem wB(f:Nat->Nat)(l:List Sp):(l.map (RL f)).map vY=(l.map vY).map fun g=>(f g.1,g.2):=by rw[bz,bz];rfl
theorem fE(f:Nat->Nat)(l:List Sp):L8 (l.map (RL f))=L8 l:=by unfold L8;rw[bz];rfl
def LeS(c:AW)(s u:List (List Int)):Prop:=∀r p:Nat,r<c.beach.rows.toNat->p<c.beach.places.toNat->FY s r p<=FY u r p
theorem LeS.rfl{c:AW}{s:List (List Int)}:LeS c s s:=fun _ _ _ _=>Int.le_refl _
theorem LeS.in{c:AW}{s u:List (List Int)}(h:LeS c s u){x:Sp}(hx:JR c x=true){p:Nat}(hp:p<x.size.toNat):FY s x.row (x.place+(p:Int))<=FY u x.row (x.place+(p:Int)):=by
 obtain⟨h1,h2,h3,h4⟩:=W2 hx;have:=h x.row.toNat (x.place.toNat+p) (by omega) (by omega);have e1:((x.row.toNat:Nat):Int)=x.row:=by omega
 have e2:((x.place.toNat+p:Nat):Int)=x.place+(p:Int):=by omega
 rwa [e1,e2]at this
structure Eas(c d:AW)(s u:List (List Int))(gs:List (Nat×Int))(f:Nat->Nat):Prop where
 ro:d.beach.rows=c.beach.rows
 pl:d.beach.places=c.beach.places
 su:LeS c s u
 go:∀g∈gs,(C5 d (f g.1)).good<=(C5 c g.1).good
 mi:∀g∈gs,∀k∈gs,P7 d (f g.1) (f k.1)=true->P7 c g.1 k.1=true
 ch:GI c<=GI d
theorem Eas.fits{c d:AW}{s u:List (List Int)}{gs:List (Nat×Int)}{f:Nat->Nat}(h:Eas c d s u gs f)(x:Sp):JR d (RL f x)=JR c x:=by unfold JR;rw[h.ro,h.pl];rfl
theorem Eas.ok{c d:AW}{s u:List (List Int)}{gs:List (Nat×Int)}{f:Nat->Nat}(h:Eas c d s u gs f){l:List Sp}(hl:OkS c s gs l):OkS d u (gs.map fun g=>(f g.1,g.2)) (l.map (RL f)):=by
 have hg:∀x∈l,vY x∈gs:=fun x hx=>by rw[<-hl.gr];exact List.mem_map_of_mem hx
 have e:gs.map (fun g=>(f g.1,g.2))=(l.map (RL f)).map vY:=by rw[wB,hl.gr]
 rw[e];refine hl.mapS (RL f) (fun x hx h1 h2=>⟨by rw[h.fits];exact h1,?_⟩) (fun x hx y hy ha=>?_) ?_
 ·have e2:(BS d u (RL f x)).enough=(bf x.size.toNat).all fun p=>decide ((C5 d (f x.fam)).good<=FY u x.row (x.place+(p:Int))):=rfl;rw[e2];simp only[BS,List.all_eq_true,bw,decide_eq_true_eq]at h2|-;intro p hp;have a1:=h2 p hp;have a2:=h.su.in h1 hp;have a3:=h.go _ (hg x hx);simp only[vY]at a3;omega
 ·have e2:FW d (RL f x) (RL f y)=(decide (x.row≠y.row)||(decide (0<nZ x y)||(decide (nZ x y=0)&&!P7 d (f x.fam) (f y.fam)))):=rfl;rw[e2];simp only[FW,Bool.or_eq_true,decide_eq_true_eq,bq,Bool.not_eq_true',<-Bool.not_eq_true]at ha|-;rcases ha with ha|ha|⟨ha,hb⟩
  ·exact .inl ha
  ·exact .inr (.inl ha)
  ·exact .inr (.inr ⟨ha,fun hm=>hb (h.mi _ (hg x hx) _ (hg y hy) hm)⟩)
 ·rw[fE];have:=hl.pe;have:=h.ch;omega
theorem Eas.can{c d:AW}{s u:List (List Int)}{gs:List (Nat×Int)}{f:Nat->Nat}(h:Eas c d s u gs f)(hc:QO c s gs=true):QO d u (gs.map fun g=>(f g.1,g.2))=true:=by obtain⟨l,hl⟩:=fC.1 hc;exact fC.2 ⟨_,h.ok hl⟩
def EN(n:Nat)(out:List Int):List Nat:=(bf n).filter fun k=>!decide ((k:Int)∈out)
theorem XN(n:Nat)(out:List Int):EN (n+1) out=EN n out++if (n:Int)∈out then[] else[n]:=by unfold EN;rw[List.range_succ,List.filter_append];congr 1;by_cases h:(n:Int)∈out<;>simp[h]
theorem wC(n:Nat):EN n []=bf n:=by unfold EN;simp
theorem iW(n:Nat)(out:List Int):(EN n out).Nodup:=List.Nodup.sublist List.filter_sublist List.nodup_range
def DQ(c:AW)(out:List Int):AW:={ c with fams:=(EN c.fams.length out).map (C5 c) }
end Go.Wind
namespace Go.Proofs.Tryz.Op
theorem VY(c:AW)(out:List Int):∀k,CW c.fams out k=(EN k out).map fun j=>(j,(C5 c j).size)
 |0=>rfl
 |k+1=>by
  rw[XN,List.map_append,<-VY c out k];show CW c.fams out k++_=_;congr 1;by_cases h:(k:Int)∈out
  ·simp[h]
  ·simp[h,C5]
theorem JG(c:AW)(out:List Int):BC c out=(EN c.fams.length out).map fun j=>(j,(C5 c j).size):=VY c out _
theorem iX(c:AW)(out:List Int){j:Nat}(h:j<(EN c.fams.length out).length):C5 (DQ c out) j=C5 c (EN c.fams.length out)[j]:=by unfold C5 DQ;rw[bk,bm,bj h];rfl
theorem iY(c:AW)(out:List Int):BC (DQ c out) []=(bf (EN c.fams.length out).length).map fun j=>(j,(C5 c ((EN c.fams.length out).getD j 0)).size):=by
 rw[JG,wC];have e:(DQ c out).fams.length=(EN c.fams.length out).length:=by simp[DQ]
 rw[e];apply List.map_congr_left;intro j hj;have hj:=bw.1 hj;rw[iX c out hj,bk,bj hj];rfl
theorem AAU(c:AW)(s:List (List Int))(out:List Int):QO (DQ c out) s (BC (DQ c out) [])=QO c s (BC c out):=by
 have hnd:=iW c.fams.length out;have hg:=iY c out;have hk:=JG c out;have hf:=fun j h=>iX c out (j:=j) h;generalize hK:EN c.fams.length out=K at *;have hmi:∀a b (ha:a<K.length) (hb:b<K.length),P7 (DQ c out) a b=P7 c K[a] K[b]:=fun a b ha hb=>by unfold P7;rw[hf a ha,hf b hb];congr 1;refine decide_eq_decide.2 ⟨fun h e=>h ?_,fun h e=>h (by subst e;rfl)⟩;rw[<-List.Nodup.idxOf_getElem hnd a ha,<-List.Nodup.idxOf_getElem hnd b hb,e]
 rw[Bool.eq_iff_iff];constructor
 ·intro h;have hE:Eas (DQ c out) c s s (BC (DQ c out) []) (fun j=>K.getD j 0):=by
   refine⟨rfl,rfl,LeS.rfl,fun g hg'=>?_,fun g hg' k hk'=>?_,Nat.le_refl _⟩
   ·rw[hg]at hg';obtain⟨j,hj,rfl⟩:=bx.1 hg';have hj:=bw.1 hj;rw[hf j hj,bk,bj hj];exact Int.le_refl _
   ·rw[hg]at hg' hk';obtain⟨j,hj,rfl⟩:=bx.1 hg';obtain⟨m,hm,rfl⟩:=bx.1 hk';have hj:=bw.1 hj;have hm:=bw.1 hm;simp only;rw[hmi j m hj hm,bk,bj hj,bk,bj hm];exact id
  have:=hE.can h;rw[hg,bz]at this;rw[hk];have e:(bf K.length).map ((fun g:Nat×Int=>(K.getD g.1 0,g.2))∘fun j=>(j,(C5 c (K.getD j 0)).size))=K.map fun j=>(j,(C5 c j).size):=by
   apply List.ext_getElem (by simp);intro p h1 h2;have hp:p<K.length:=by simpa using h2
   simp[bj hp]
  rwa [e]at this
 ·intro h;have hix:∀j (hj:j<K.length),K.idxOf K[j]=j:=fun j hj=>List.Nodup.idxOf_getElem hnd j hj;have hE:Eas c (DQ c out) s s (BC c out) (fun k=>K.idxOf k):=by
   refine⟨rfl,rfl,LeS.rfl,fun g hg'=>?_,fun g hg' k hk'=>?_,Nat.le_refl _⟩
   ·rw[hk]at hg';obtain⟨a,ha,rfl⟩:=bx.1 hg';obtain⟨j,hj,rfl⟩:=bb ha;simp only;rw[hix j hj,hf j hj];exact Int.le_refl _
   ·rw[hk]at hg' hk';obtain⟨a,ha,rfl⟩:=bx.1 hg';obtain⟨b,hb,rfl⟩:=bx.1 hk';obtain⟨j,hj,rfl⟩:=bb ha;obtain⟨m,hm,rfl⟩:=bb hb;simp only;rw[hix j hj,hix m hm,hmi j m hj hm];exact id
  have:=hE.can h;rw[hk,bz]at this;rw[hg];have e:K.map ((fun g:Nat×Int=>(K.idxOf g.1,g.2))∘fun j=>(j,(C5 c j).size))=(bf K.length).map fun j=>(j,(C5 c (K.getD j 0)).size):=by
   apply List.ext_getElem (by simp);intro p h1 h2;have hp:p<K.length:=by simpa using h1
   simp[hix p hp,bj hp]
  rwa [e]at this
def spt(x:Sp):Int×Int:=(x.row,x.place)
def JB(c:AW):Option (List Sp×CC):=AAM c (AU c) (RK c (AU c) (BC c []))
def L9(c:AW):List (Int×Int)×Int×Int×Int:=if EG c≠0 then([],0,0,EG c) else match JB c with
 |some q=>(q.1.map spt,q.2.sun,q.2.carried,0)
 |none=>([],0,0,10)
def FL(c:AW)(out:List Int):Bool:=QO c (AU c) (BC c out)
def W3(c:AW):List Int×Int:=if EG c≠0 then([],EG c) else((QL (FL c) c.fams.length).getD [],0)
theorem AAV(c:AW):FL c []=(JB c).isSome:=by
 unfold FL QO JB;cases h:AAM c (AU c) (RK c (AU c) (BC c []))with
 |none=>
  rw[vZ.1 h]
  rfl
 |some q=>
  cases hl:RK c (AU c) (BC c [])with
  |nil=>
   rw[hl]at h
   cases h
  |cons a r=>rfl
theorem AAW(c:AW)(s:List (List Int)):QO c s []=true:=fC.2 ⟨[],rfl,rfl,by simp[L8],by simp⟩
theorem wD{n:Nat}{out:List Int}(h:∀k:Nat,k<n->(k:Int)∈out):EN n out=[]:=by unfold EN;rw[List.filter_eq_nil_iff];intro k hk;simp[h k (bw.1 hk)]
theorem XO{x k:Nat}:∀{N:Nat},(k:Int)∈BF x N↔k<N/\x.testBit k=true
 |0=>by simp[BF]
 |N+1=>by
  rw[E9];split
  ·rename_i h;rw[List.mem_append,XO,bg];constructor
   ·rintro (⟨h1,h2⟩|e)
    ·exact⟨by omega,h2⟩
    ·have:k=N:=by omega
     subst this;exact⟨by omega,h⟩
   ·rintro ⟨h1,h2⟩;by_cases e:k=N
    ·exact .inr (by rw[e])
    ·exact .inl ⟨by omega,h2⟩
  ·rename_i h;rw[XO];constructor
   ·rintro ⟨h1,h2⟩;exact⟨by omega,h2⟩
   ·rintro ⟨h1,h2⟩;refine⟨?_,h2⟩;by_cases e:k=N
    ·subst e;exact absurd h2 h
    ·omega
theorem AAX(c:AW):FL c (BF (2 ^ c.fams.length-1) c.fams.length)=true:=by unfold FL;rw[JG,wD fun k hk=>XO.2 ⟨hk,by rw[Nat.testBit_two_pow_sub_one];exact decide_eq_true hk⟩];exact AAW _ _
theorem VZ(c:AW):∃y,QL (FL c) c.fams.length=some y/\cX (FL c) c.fams.length y:=by have e:=AAP (AAX c);have h:=XL (FL c) c.fams.length;rw[e]at h;exact⟨_,e,h⟩
end Go.Proofs.Tryz.Op
