/- Allowed seatings, told by their members; the best one. No program in sight. -/
import Derived.Test.YthhdhbalenanjaaGreatS3
open List renaming getD_eq_getElem?_getD->bj,getElem?_range->bq,mem_range->bw,getElem?_map->bx,mem_singleton->bb,range->bf,all_eq_true->bg,map_eq_cons_iff->bm,map_eq_nil_iff->bn,pairwise_cons->bp,map_cons->bt,map_map->cj
open Bool renaming and_eq_true->bk
open Int renaming toNat_natCast->bz
open Option renaming getD_some->bc,map_some->bh
set_option maxRecDepth 100000
namespace Go.Wind
def vN(x:Sp):Nat×Int:=(x.fam,x.size)
theorem VB{c:AP}{sure:List (List Int)}:∀{gs:List (Nat×Int)} {out l:List Sp},l∈EK c sure gs out↔∃r,l=out++r/\r.map vN=gs/\F9 c out r=true/\∀x∈r,(CR c sure x).enough=true
 |[],out,l=>by
  simp only[EK,bb];constructor
  ·rintro rfl;exact⟨[],by simp,rfl,rfl,by simp⟩
  ·rintro ⟨r,rfl,h,_,_⟩;rw[bn]at h;subst h;simp
 |g::gs,out,l=>by
  simp only[EK,List.mem_flatMap,bw];constructor
  ·rintro ⟨r,hr,p,hp,h⟩;split at h
   ·rename_i hz;simp only[bk]at hz;obtain⟨q,rfl,h1,h2,h3⟩:=VB.1 h;refine⟨⟨g.1,g.2,(r:Int),(p:Int)⟩::q,by simp,by simp[vN,h1],?_,?_⟩
    ·simp only[F9,bk];refine⟨⟨?_,hz.2⟩,h2⟩;simp only[ED,bk,DI];omega
    ·intro x hx;rcases List.mem_cons.1 hx with rfl|hx
     ·exact hz.1
     ·exact h3 x hx
   ·cases h
  ·rintro ⟨q,rfl,h1,h2,h3⟩;cases q with
   |nil=>cases h1
   |cons x q=>
    simp only[bt,List.cons.injEq]at h1
    obtain⟨rfl,h1⟩:=h1
    simp only[F9,bk]at h2
    have hf:=h2.1.1
    simp only[ED,bk,DI]at hf
    have e1:((x.row.toNat:Nat):Int)=x.row:=by omega
    have e2:((x.place.toNat:Nat):Int)=x.place:=by omega
    refine⟨x.row.toNat,by omega,x.place.toNat,by simp only[vN];omega,?_⟩
    simp only[vN,e1,e2]
    rw[if_pos (by rw[h3 x (by simp),h2.1.2];rfl)]
    exact VB.2 ⟨q,by simp,h1,h2.2,fun y hy=>h3 y (by simp[hy])⟩
def DS(gs:List (Nat×Int)):Int:=(gs.map (·.2)).sum
def VC(c:AP)(sure:List (List Int))(gs:List (Nat×Int)):List (List Sp):=if (DZ c:Int)<DS gs then[] else EK c sure gs []
structure OkS(c:AP)(sure:List (List Int))(gs:List (Nat×Int))(l:List Sp):Prop where
 gr:l.map vN=gs
 go:F9 c [] l=true
 pe:VA l<=DZ c
 en:∀x∈l,(CR c sure x).enough=true
theorem MJ(l:List Sp):VA l=DS (l.map vN):=by unfold VA DS;rw[cj];rfl
theorem vO{c:AP}{sure:List (List Int)}{gs:List (Nat×Int)}{l:List Sp}:l∈VC c sure gs↔OkS c sure gs l:=by
 unfold VC;by_cases h:(DZ c:Int)<DS gs
 ·rw[if_pos h];refine⟨fun hh=>(by cases hh),fun hh=>?_⟩;have:=hh.pe;rw[MJ,hh.gr]at this;omega
 ·rw[if_neg h,VB];constructor
  ·rintro ⟨r,e,h1,h2,h3⟩;rw[List.nil_append]at e;subst e;refine⟨h1,h2,?_,h3⟩;rw[MJ,h1];omega
  ·rintro ⟨h1,h2,_,h3⟩;exact⟨l,rfl,h1,h2,h3⟩
def EZ(c:AP)(sure:List (List Int))(gs:List (Nat×Int)):Bool:=!(VC c sure gs).isEmpty
theorem YH{c:AP}{sure:List (List Int)}{gs:List (Nat×Int)}:EZ c sure gs=true↔∃l,OkS c sure gs l:=by
 unfold EZ;constructor
 ·intro h;cases hl:VC c sure gs with
  |nil=>rw[hl]at h;cases h
  |cons l r=>exact⟨l,vO.1 (by rw[hl];simp)⟩
 ·rintro ⟨l,hl⟩;have:=vO.2 hl;cases hz:VC c sure gs with
  |nil=>rw[hz]at this;cases this
  |cons a r=>rfl
theorem ACY{α:Type}{f:α->Int}{m:Int}:∀{l:List α},(∀x∈l,0<=f x/\f x<=m)->0<=(l.map f).sum/\(l.map f).sum<=l.length*m
 |[],_=>by simp
 |x::l,h=>by
  have ih:=ACY (l:=l) (f:=f) (m:=m) fun y hy=>h y (by simp[hy]);have:=h x (by simp);simp only[bt,List.sum_cons,List.length_cons];have e:((l.length+1:Nat):Int)*m=l.length*m+m:=by rw[Int.natCast_add,Int.add_mul];simp
  omega
theorem rU(c:AP)(x y:Sp):ER c x y=ER c y x:=by
 unfold ER;have h1:decide (x.row≠y.row)=decide (y.row≠x.row):=decide_eq_decide.2 ⟨Ne.symm,Ne.symm⟩;have h2:XZ x y=XZ y x:=by unfold XZ;exact Int.max_comm _ _
 rw[h1,h2,fJ]
theorem VD{c:AP}:∀{l before:List Sp},F9 c before l=true↔(∀x∈l,ED c x=true)/\(∀x∈l,∀y∈before,ER c x y=true)/\l.Pairwise (fun y x=>ER c x y=true)
 |[],before=>by simp[F9]
 |x::l,before=>by
  simp only[F9,bk,bg,VD (l:=l) (before:=before++[x]),List.mem_append,List.mem_cons,List.not_mem_nil,or_false,bp];constructor
  ·rintro ⟨⟨h1,h2⟩,h3,h4,h5⟩;refine⟨fun y hy=>?_,fun y hy z hz=>?_,fun y hy=>h4 y hy x (.inr rfl),h5⟩
   ·rcases hy with rfl|hy
    ·exact h1
    ·exact h3 y hy
   ·rcases hy with rfl|hy
    ·exact h2 z hz
    ·exact h4 y hy z (.inl hz)
  ·rintro ⟨h1,h2,h3,h4⟩;refine⟨⟨h1 x (.inl rfl),fun z hz=>h2 x (.inl rfl) z hz⟩,fun y hy=>h1 y (.inr hy),fun y hy z hz=>?_,h4⟩;rcases hz with hz|rfl
   ·exact h2 y (.inr hy) z hz
   ·exact h3 y hy
theorem vP{c:AP}{sure:List (List Int)}{gs:List (Nat×Int)}{l:List Sp}:OkS c sure gs l↔l.map vN=gs/\(∀x∈l,ED c x=true/\(CR c sure x).enough=true)/\l.Pairwise (fun y x=>ER c x y=true)/\VA l<=DZ c:=by
 constructor
 ·rintro ⟨h1,h2,h3,h4⟩;obtain⟨g1,_,g3⟩:=VD.1 h2;exact⟨h1,fun x hx=>⟨g1 x hx,h4 x hx⟩,g3,h3⟩
 ·rintro ⟨h1,h2,h3,h4⟩;exact⟨h1,VD.2 ⟨fun x hx=>(h2 x hx).1,fun x _ y hy=>(by cases hy),h3⟩,h4,fun x hx=>(h2 x hx).2⟩
theorem ACZ{c:AP}{sure:List (List Int)}(gs:List (Nat×Int))(g k:Nat×Int)(h:EZ c sure (gs++[g,k])=true):EZ c sure (gs++[k,g])=true:=by
 obtain⟨l,hl⟩:=YH.1 h;obtain⟨h1,h2,h3,h4⟩:=vP.1 hl;obtain⟨a,b,rfl,ha,hb⟩:=List.map_eq_append_iff.1 h1;obtain⟨x,r,rfl,hx,hr⟩:=bm.1 hb;obtain⟨y,r2,rfl,hy,hr2⟩:=bm.1 hr;rw[bn]at hr2;subst hr2;refine YH.2 ⟨a++[y,x],vP.2 ⟨by simp[ha,hx,hy],fun z hz=>h2 z (by simp at hz|-;rcases hz with hz|hz|hz<;>simp[hz]),?_,?_⟩⟩
 ·rw[List.pairwise_append]at h3|-;obtain⟨p1,p2,p3⟩:=h3;refine⟨p1,?_,fun u hu v hv=>p3 u hu v (by simp at hv|-;exact hv.symm)⟩;simp only[bp,bb,forall_eq,List.not_mem_nil,false_imp_iff,implies_true,List.Pairwise.nil,and_true]at p2|-;rw[rU];exact p2
 ·simp only[VA,List.map_append,bt,List.map_nil,List.sum_append,List.sum_cons,List.sum_nil]at h4|-;omega
end Go.Wind
open Go Go.Pg Go.Proofs Go.Wind
namespace Go.Wind
def fK(c:AP)(s u:List (List Int)):Prop:=∀r p:Nat,r<c.beach.rows.toNat->p<c.beach.places.toNat->DM s r p=DM u r p
theorem RT{c:AP}{x:Sp}(h:ED c x=true):0<=x.row/\x.row<c.beach.rows/\0<=x.place/\x.place+x.size<=c.beach.places:=by simp only[ED,bk,DI]at h;omega
theorem vQ{c:AP}{s u:List (List Int)}(h:fK c s u){x:Sp}(hx:ED c x=true){p:Nat}(hp:p<x.size.toNat):DM s x.row (x.place+(p:Int))=DM u x.row (x.place+(p:Int)):=by
 obtain⟨h1,h2,h3,h4⟩:=RT hx;have:=h x.row.toNat (x.place.toNat+p) (by omega) (by omega);have e1:((x.row.toNat:Nat):Int)=x.row:=by omega
 have e2:((x.place.toNat+p:Nat):Int)=x.place+(p:Int):=by omega
 rwa [e1,e2]at this
theorem zI{n:Nat}{f g:Nat->Bool}(h:∀p,p<n->f p=g p):(bf n).all f=(bf n).all g:=by rw[Bool.eq_iff_iff,bg,bg];refine forall_congr' fun p=>forall_congr' fun hp=>?_;rw[h p (bw.1 hp)]
theorem lS{c:AP}{s u:List (List Int)}(h:fK c s u){x:Sp}(hx:ED c x=true):CR c s x=CR c u x:=by unfold CR;rw[E5 fun p hp=>vQ h hx hp,zI fun p hp=>by rw[vQ h hx hp]]
theorem WZ{c:AP}{s u:List (List Int)}(h:fK c s u):∀(gs:List (Nat×Int)) (out:List Sp),EK c s gs out=EK c u gs out
 |[],_=>rfl
 |g::gs,out=>by
  simp only[EK];refine Y1 fun r hr=>Y1 fun p hp=>?_;have hr:=bw.1 hr;have hp:=bw.1 hp;have hf:ED c ⟨g.1,g.2,(r:Int),(p:Int)⟩=true:=by simp only[ED,bk,DI];omega
  rw[lS h hf,WZ h gs]
theorem rV{c:AP}{s u:List (List Int)}(h:fK c s u)(gs:List (Nat×Int)):VC c s gs=VC c u gs:=by unfold VC;rw[WZ h]
theorem Y7{c:AP}{s u:List (List Int)}(h:fK c s u)(gs:List (Nat×Int)):EZ c s gs=EZ c u gs:=by unfold EZ;rw[rV h]
end Go.Wind
namespace Go.Proofs.Tryz.Op
def NI(c:AP)(r p:Nat):Int:=(wL c.beach c.plan r p).1
def G7(c:AP):List (List Int):=(bf c.beach.rows.toNat).map fun r=>(bf c.beach.places.toNat).map (NI c r)
theorem rW{c:AP}(hc:B0 c):FD c.beach [] c.beach.winds []≠[]:=fun e=>hc.tr (MK.1 (by rw[e];rfl))
theorem AC0(c:AP){r p:Nat}(hr:r<c.beach.rows.toNat)(hp:p<c.beach.places.toNat):DM (G7 c) r p=NI c r p:=by unfold DM G7;rw[bj,bj,bx,bz,bz,bq hr];simp[bq hp]
theorem AC1{c:AP}(hc:B0 c){r p:Nat}(hr:r<c.beach.rows.toNat)(hp:p<c.beach.places.toNat):DM (A7 c) r p=NI c r p:=by
 have hpl:=hc.be.pl;unfold DM A7 E2;rw[bj,bj,cj,bx,bz,bz,bq hr];simp only[bh,bc,Function.comp_apply];have hl:(NH c.beach (E4 c.beach) c.plan r).length=c.beach.places.toNat:=by simp[NH]
 unfold ES;rw[bx,bq (by omega)];simp only[bh,bc];rw[if_pos (by omega),bj];unfold NH;rw[bx,bq hp];simp only[bh,bc,rF];rw[<-Q0 hc.be (WV hc.be (rW hc))];rfl
theorem VE{c:AP}(hc:B0 c):fK c (A7 c) (G7 c):=fun r p hr hp=>by rw[AC1 hc hr hp,AC0 c hr hp]
theorem AC2{c:AP}(hc:B0 c)(r p:Nat):IY (BL c.beach) (fun t=>(CC c.beach c.plan t r p).good) (NI c r p):=by have ha:=WV hc.be (rW hc);unfold NI;rw[Q0 hc.be ha];exact(mT hc.be ha c.plan r p).1
theorem lT{c:AP}(hc:B0 c)(r p:Nat):0<=NI c r p/\NI c r p<=5:=by obtain⟨t,ht,e⟩:=(AC2 hc r p).2;have h1:=fX c.beach c.plan t r p;have h2:=fW hc.be ht;omega
theorem lU{c:AP}(hc:B0 c):∀l∈A7 c,l.length=5/\∀x∈l,0<=x/\x<=5:=fun l hl=>by
 have hpl:=hc.be.pl;simp only[A7,E2,cj,List.mem_map,bw]at hl;obtain⟨r,hr,rfl⟩:=hl;refine⟨by simp[ES],fun x hx=>?_⟩;simp only[Function.comp_apply,ES,List.mem_map,bw]at hx;obtain⟨p,hp,rfl⟩:=hx;have hl:(NH c.beach (E4 c.beach) c.plan r).length=c.beach.places.toNat:=by simp[NH]
 by_cases h:p<(NH c.beach (E4 c.beach) c.plan r).length
 ·rw[if_pos h,bj];have hp:p<c.beach.places.toNat:=by omega
  unfold NH;rw[bx,bq hp];simp only[bh,bc,rF];rw[<-Q0 hc.be (WV hc.be (rW hc))];exact lT hc r p
 ·rw[if_neg h];decide
theorem zJ{c:AP}:(A7 c).length=c.beach.rows.toNat:=by simp[A7,E2]
end Go.Proofs.Tryz.Op
namespace Go.Wind
def LeS(c:AP)(s u:List (List Int)):Prop:=∀r p:Nat,r<c.beach.rows.toNat->p<c.beach.places.toNat->DM s r p<=DM u r p
structure Eas(c d:AP)(s u:List (List Int))(gs:List (Nat×Int))(f:Nat->Nat):Prop where
 ro:d.beach.rows=c.beach.rows
 pl:d.beach.places=c.beach.places
 su:LeS c s u
 go:∀g∈gs,(BO d (f g.1)).good<=(BO c g.1).good
 mi:∀g∈gs,∀k∈gs,JG d (f g.1) (f k.1)=true->JG c g.1 k.1=true
 ch:DZ c<=DZ d
def KP(n:Nat)(out:List Int):List Nat:=(bf n).filter fun k=>!decide ((k:Int)∈out)
theorem rX(n:Nat)(out:List Int):KP (n+1) out=KP n out++if (n:Int)∈out then[] else[n]:=by unfold KP;rw[List.range_succ,List.filter_append];congr 1;by_cases h:(n:Int)∈out<;>simp[h]
end Go.Wind
namespace Go.Proofs.Tryz.Op
theorem W0(c:AP)(out:List Int):∀k,B5 c.fams out k=(KP k out).map fun j=>(j,(BO c j).size)
 |0=>rfl
 |k+1=>by
  rw[rX,List.map_append,<-W0 c out k];show B5 c.fams out k++_=_;congr 1;by_cases h:(k:Int)∈out
  ·simp[h]
  ·simp[h,BO]
theorem FW(c:AP)(out:List Int):AZ c out=(KP c.fams.length out).map fun j=>(j,(BO c j).size):=W0 c out _
def spt(x:Sp):Int×Int:=(x.row,x.place)
def FI(c:AP)(out:List Int):Bool:=EZ c (A7 c) (AZ c out)
def YI(c:AP):List Int×Int:=if E3 c≠0 then([],E3 c) else((NY (FI c) c.fams.length).getD [],0)
def EP(c:AP)(k:Nat):Bool:=(bf ((BO c k).size / 2).toNat).any fun n=>EZ c (A7 c) (AZ c [(k:Int)]++[(k,(n:Int)+1),(k,(BO c k).size-((n:Int)+1))])
def iT(c:AP):List Int×Int:=if E3 c≠0 then([],E3 c) else if FI c []=true then([],7) else(((bf c.fams.length).filter (EP c)).map fun (k:Nat)=>(k:Int),0)
theorem AC4(c:AP)(s:List (List Int)):EZ c s []=true:=YH.2 ⟨[],rfl,rfl,by simp[VA],by simp⟩
theorem zK{n:Nat}{out:List Int}(h:∀k:Nat,k<n->(k:Int)∈out):KP n out=[]:=by unfold KP;rw[List.filter_eq_nil_iff];intro k hk;simp[h k (bw.1 hk)]
theorem RU{x k:Nat}:∀{N:Nat},(k:Int)∈BR x N↔k<N/\x.testBit k=true
 |0=>by simp[BR]
 |N+1=>by
  rw[FJ];split
  ·rename_i h;rw[List.mem_append,RU,bb];constructor
   ·rintro (⟨h1,h2⟩|e)
    ·exact⟨by omega,h2⟩
    ·have:k=N:=by omega
     subst this;exact⟨by omega,h⟩
   ·rintro ⟨h1,h2⟩;by_cases e:k=N
    ·exact .inr (by rw[e])
    ·exact .inl ⟨by omega,h2⟩
  ·rename_i h;rw[RU];constructor
   ·rintro ⟨h1,h2⟩;exact⟨by omega,h2⟩
   ·rintro ⟨h1,h2⟩;refine⟨?_,h2⟩;by_cases e:k=N
    ·subst e;exact absurd h2 h
    ·omega
theorem lV(c:AP):FI c (BR (2 ^ c.fams.length-1) c.fams.length)=true:=by unfold FI;rw[FW,zK fun k hk=>RU.2 ⟨hk,by rw[Nat.testBit_two_pow_sub_one];exact decide_eq_true hk⟩];exact AC4 _ _
theorem W1(c:AP):∃y,NY (FI c) c.fams.length=some y/\Y5 (FI c) c.fams.length y:=by have e:=lR (lV c);have h:=Y6 (FI c) c.fams.length;rw[e]at h;exact⟨_,e,h⟩
end Go.Proofs.Tryz.Op
