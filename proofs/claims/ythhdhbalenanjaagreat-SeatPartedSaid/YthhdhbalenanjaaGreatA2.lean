/- Allowed seatings, told by their members; the best one. No program in sight. -/
import Derived.Test.YthhdhbalenanjaaGreatS3
open List renaming getElem?_eq_getElem->bj,getD_eq_getElem?_getD->bk,mem_range->bw,mem_map->bx,map_map->bz,getElem_of_mem->bb,map_cons->bc,range->bf,pairwise_cons->bg,sum_cons->bh,mem_singleton->bn,getElem?_map->bp
open Bool renaming and_eq_true->bq
set_option maxRecDepth 100000
namespace Go.Wind
def gN(x:Sp):Nat×Int:=(x.fam,x.size)
theorem TY{c:AV}{sure:List (List Int)}:∀{gs:List (Nat×Int)} {out l:List Sp},l∈EZ c sure gs out↔∃r,l=out++r/\r.map gN=gs/\NH c out r=true/\∀x∈r,(BT c sure x).enough=true
 |[],out,l=>by
  simp only[EZ,bn];constructor
  ·rintro rfl;exact⟨[],by simp,rfl,rfl,by simp⟩
  ·rintro ⟨r,rfl,h,_,_⟩;rw[List.map_eq_nil_iff]at h;subst h;simp
 |g::gs,out,l=>by
  simp only[EZ,List.mem_flatMap,bw];constructor
  ·rintro ⟨r,hr,p,hp,h⟩;split at h
   ·rename_i hz;simp only[bq]at hz;obtain⟨q,rfl,h1,h2,h3⟩:=TY.1 h;refine⟨⟨g.1,g.2,(r:Int),(p:Int)⟩::q,by simp,by simp[gN,h1],?_,?_⟩
    ·simp only[NH,bq];refine⟨⟨?_,hz.2⟩,h2⟩;simp only[JK,bq,EH];omega
    ·intro x hx;rcases List.mem_cons.1 hx with rfl|hx
     ·exact hz.1
     ·exact h3 x hx
   ·cases h
  ·rintro ⟨q,rfl,h1,h2,h3⟩;cases q with
   |nil=>cases h1
   |cons x q=>
    simp only[bc,List.cons.injEq]at h1
    obtain⟨rfl,h1⟩:=h1
    simp only[NH,bq]at h2
    have hf:=h2.1.1
    simp only[JK,bq,EH]at hf
    have e1:((x.row.toNat:Nat):Int)=x.row:=by omega
    have e2:((x.place.toNat:Nat):Int)=x.place:=by omega
    refine⟨x.row.toNat,by omega,x.place.toNat,by simp only[gN];omega,?_⟩
    simp only[gN,e1,e2]
    rw[if_pos (by rw[h3 x (by simp),h2.1.2];rfl)]
    exact TY.2 ⟨q,by simp,h1,h2.2,fun y hy=>h3 y (by simp[hy])⟩
def DO(gs:List (Nat×Int)):Int:=(gs.map (·.2)).sum
def QZ(c:AV)(sure:List (List Int))(gs:List (Nat×Int)):List (List Sp):=if (F8 c:Int)<DO gs then[] else EZ c sure gs []
structure zE(c:AV)(sure:List (List Int))(gs:List (Nat×Int))(l:List Sp):Prop where
 gr:l.map gN=gs
 go:NH c [] l=true
 pe:IX l<=F8 c
 en:∀x∈l,(BT c sure x).enough=true
theorem W4(l:List Sp):IX l=DO (l.map gN):=by unfold IX DO;rw[bz];rfl
theorem rH{c:AV}{sure:List (List Int)}{gs:List (Nat×Int)}{l:List Sp}:l∈QZ c sure gs↔zE c sure gs l:=by
 unfold QZ;by_cases h:(F8 c:Int)<DO gs
 ·rw[if_pos h];refine⟨fun hh=>(by cases hh),fun hh=>?_⟩;have:=hh.pe;rw[W4,hh.gr]at this;omega
 ·rw[if_neg h,TY];constructor
  ·rintro ⟨r,e,h1,h2,h3⟩;rw[List.nil_append]at e;subst e;refine⟨h1,h2,?_,h3⟩;rw[W4,h1];omega
  ·rintro ⟨h1,h2,_,h3⟩;exact⟨l,rfl,h1,h2,h3⟩
def KQ(c:AV)(sure:List (List Int))(gs:List (Nat×Int)):Bool:=!(QZ c sure gs).isEmpty
theorem WN{c:AV}{sure:List (List Int)}{gs:List (Nat×Int)}:KQ c sure gs=true↔∃l,zE c sure gs l:=by
 unfold KQ;constructor
 ·intro h;cases hl:QZ c sure gs with
  |nil=>rw[hl]at h;cases h
  |cons l r=>exact⟨l,rH.1 (by rw[hl];simp)⟩
 ·rintro ⟨l,hl⟩;have:=rH.2 hl;cases hz:QZ c sure gs with
  |nil=>rw[hz]at this;cases this
  |cons a r=>rfl
theorem uW{c:AV}{sure:List (List Int)}{ls:List (List Sp)}:zD c sure ls=none↔ls=[]:=by
 constructor
 ·intro h;have h1:=gV (c:=c) (sure:=sure) ls none;have h:ls.foldl (FT c sure) none=_:=h;rw[h]at h1;exact h1.1
 ·rintro rfl;rfl
theorem gW(c:AV)(sure:List (List Int)):∀(l:List Sp) (t:CD),l.foldl (fun t x=>let s:=BT c sure x;⟨t.sun+s.sun,t.carried+s.carried,t.enough&&s.enough⟩) t=⟨t.sun+(l.map fun x=>(BT c sure x).sun).sum,t.carried+(l.map fun x=>(BT c sure x).carried).sum,t.enough&&l.all fun x=>(BT c sure x).enough⟩
 |[],t=>by simp
 |x::l,t=>by rw[List.foldl_cons,gW c sure l];simp only[bc,bh,List.all_cons,Int.add_assoc,Bool.and_assoc]
theorem ANG(c:AV)(sure:List (List Int))(l:List Sp):FS c sure l=⟨(l.map fun x=>(BT c sure x).sun).sum,(l.map fun x=>(BT c sure x).carried).sum,l.all fun x=>(BT c sure x).enough⟩:=by unfold FS;rw[gW];simp
theorem dX{α:Type}{f:α->Int}{m:Int}:∀{l:List α},(∀x∈l,0<=f x/\f x<=m)->0<=(l.map f).sum/\(l.map f).sum<=l.length*m
 |[],_=>by simp
 |x::l,h=>by
  have ih:=dX (l:=l) (f:=f) (m:=m) fun y hy=>h y (by simp[hy]);have:=h x (by simp);simp only[bc,bh,List.length_cons];have e:((l.length+1:Nat):Int)*m=l.length*m+m:=by rw[Int.natCast_add,Int.add_mul];simp
  omega
theorem TZ{c:AV}:∀{l before:List Sp},NH c before l=true↔(∀x∈l,JK c x=true)/\(∀x∈l,∀y∈before,FP c x y=true)/\l.Pairwise (fun y x=>FP c x y=true)
 |[],before=>by simp[NH]
 |x::l,before=>by
  simp only[NH,bq,List.all_eq_true,TZ (l:=l) (before:=before++[x]),List.mem_append,List.mem_cons,List.not_mem_nil,or_false,bg];constructor
  ·rintro ⟨⟨h1,h2⟩,h3,h4,h5⟩;refine⟨fun y hy=>?_,fun y hy z hz=>?_,fun y hy=>h4 y hy x (.inr rfl),h5⟩
   ·rcases hy with rfl|hy
    ·exact h1
    ·exact h3 y hy
   ·rcases hy with rfl|hy
    ·exact h2 z hz
    ·exact h4 y hy z (.inl hz)
  ·rintro ⟨h1,h2,h3,h4⟩;refine⟨⟨h1 x (.inl rfl),fun z hz=>h2 x (.inl rfl) z hz⟩,fun y hy=>h1 y (.inr hy),fun y hy z hz=>?_,h4⟩;rcases hz with hz|rfl
   ·exact h2 y (.inr hy) z hz
   ·exact h3 y hy
theorem WO{c:AV}{sure:List (List Int)}{gs:List (Nat×Int)}{l:List Sp}:zE c sure gs l↔l.map gN=gs/\(∀x∈l,JK c x=true/\(BT c sure x).enough=true)/\l.Pairwise (fun y x=>FP c x y=true)/\IX l<=F8 c:=by
 constructor
 ·rintro ⟨h1,h2,h3,h4⟩;obtain⟨g1,_,g3⟩:=TZ.1 h2;exact⟨h1,fun x hx=>⟨g1 x hx,h4 x hx⟩,g3,h3⟩
 ·rintro ⟨h1,h2,h3,h4⟩;exact⟨h1,TZ.2 ⟨fun x hx=>(h2 x hx).1,fun x _ y hy=>(by cases hy),h3⟩,h4,fun x hx=>(h2 x hx).2⟩
theorem zF{α:Type}{R S:α->α->Prop}:∀{l:List α},(∀x∈l,∀y∈l,R x y->S x y)->l.Pairwise R->l.Pairwise S
 |[],_,_=>.nil
 |x::l,h,hp=>by obtain⟨h1,h2⟩:=bg.1 hp;exact bg.2 ⟨fun y hy=>h x (by simp) y (by simp[hy]) (h1 y hy),zF (fun a ha b hb=>h a (by simp[ha]) b (by simp[hb])) h2⟩
theorem zE.mapS{c d:AV}{sure sure':List (List Int)}{gs:List (Nat×Int)}{l:List Sp}(h:zE c sure gs l)(f:Sp->Sp)(h1:∀x∈l,JK c x=true->(BT c sure x).enough=true->JK d (f x)=true/\(BT d sure' (f x)).enough=true)(h2:∀x∈l,∀y∈l,FP c x y=true->FP d (f x) (f y)=true)(h3:IX (l.map f)<=F8 d):zE d sure' ((l.map f).map gN) (l.map f):=by
 obtain⟨_,g2,g3,_⟩:=WO.1 h;refine WO.2 ⟨rfl,fun x hx=>?_,?_,h3⟩
 ·obtain⟨y,hy,rfl⟩:=bx.1 hx;exact h1 y hy (g2 y hy).1 (g2 y hy).2
 ·rw[List.pairwise_map];exact zF (fun x hx y hy e=>h2 y hy x hx e) g3
theorem nD{l m:List Sp}(h:l.Sublist m):(∀x∈m,0<=x.size)->IX l<=IX m:=by
 induction h with
 |slnil=>exact fun _=>Int.le_refl _
 |cons a _ ih=>
  intro h
  have:=ih fun x hx=>h x (by simp[hx])
  have:=h a (by simp)
  simp only[IX,bc,bh]at *
  omega
 |cons_cons a _ ih=>
  intro h
  have:=ih fun x hx=>h x (by simp[hx])
  simp only[IX,bc,bh]at *
  omega
theorem zE.sub{c:AV}{sure:List (List Int)}{gs:List (Nat×Int)}{l m:List Sp}(h:zE c sure gs m)(hs:l.Sublist m)(h0:∀x∈m,0<=x.size):zE c sure (l.map gN) l:=by obtain⟨_,g2,g3,g4⟩:=WO.1 h;refine WO.2 ⟨rfl,fun x hx=>g2 x (hs.subset hx),g3.sublist hs,?_⟩;have:=nD hs h0;omega
end Go.Wind
open Go Go.Pg Go.Proofs Go.Wind
namespace Go.Wind
theorem WP{c:AV}{x:Sp}(h:JK c x=true):0<=x.row/\x.row<c.beach.rows/\0<=x.place/\x.place+x.size<=c.beach.places:=by simp only[JK,bq,EH]at h;omega
end Go.Wind
namespace Go.Proofs.Tryz.Op
def rI(c:AV)(r p:Nat):Int:=(sC c.beach c.plan r p).1
theorem zG{c:AV}(hc:C5 c):E1 c.beach [] c.beach.winds []≠[]:=fun e=>hc.tr (LW.1 (by rw[e];rfl))
theorem zH{c:AV}(hc:C5 c)(r p:Nat):IE (CA c.beach) (fun t=>(IZ c.beach c.plan t r p).good) (rI c r p):=by have ha:=dV hc.be (zG hc);unfold rI;rw[XY hc.be ha];exact(iQ hc.be ha c.plan r p).1
theorem zI{c:AV}(hc:C5 c)(r p:Nat):0<=rI c r p/\rI c r p<=5:=by obtain⟨t,ht,e⟩:=(zH hc r p).2;have h1:=cD c.beach c.plan t r p;have h2:=cC hc.be ht;omega
theorem gX{c:AV}(hc:C5 c):∀l∈AS c,l.length=5/\∀x∈l,0<=x/\x<=5:=fun l hl=>by
 have hpl:=hc.be.pl;simp only[AS,EX,bz,bx,bw]at hl;obtain⟨r,hr,rfl⟩:=hl;refine⟨by simp[EO],fun x hx=>?_⟩;simp only[Function.comp_apply,EO,bx,bw]at hx;obtain⟨p,hp,rfl⟩:=hx;have hl:(PX c.beach (E0 c.beach) c.plan r).length=c.beach.places.toNat:=by simp[PX]
 by_cases h:p<(PX c.beach (E0 c.beach) c.plan r).length
 ·rw[if_pos h,bk];have hp:p<c.beach.places.toNat:=by omega
  unfold PX;rw[bp,List.getElem?_range hp];simp only[Option.map_some,Option.getD_some,qU];rw[<-XY hc.be (dV hc.be (zG hc))];exact zI hc r p
 ·rw[if_neg h];decide
theorem uX{c:AV}:(AS c).length=c.beach.rows.toNat:=by simp[AS,EX]
end Go.Proofs.Tryz.Op
namespace Go.Wind
def Q0(f:Nat->Nat)(x:Sp):Sp:={ x with fam:=f x.fam }
theorem uY(f:Nat->Nat)(l:List Sp):(l.map (Q0 f)).map gN=(l.map gN).map fun g=>(f g.1,g.2):=by rw[bz,bz];rfl
theorem dY(f:Nat->Nat)(l:List Sp):IX (l.map (Q0 f))=IX l:=by unfold IX;rw[bz];rfl
def LeS(c:AV)(s u:List (List Int)):Prop:=∀r p:Nat,r<c.beach.rows.toNat->p<c.beach.places.toNat->FQ s r p<=FQ u r p
theorem LeS.rfl{c:AV}{s:List (List Int)}:LeS c s s:=fun _ _ _ _=>Int.le_refl _
theorem LeS.in{c:AV}{s u:List (List Int)}(h:LeS c s u){x:Sp}(hx:JK c x=true){p:Nat}(hp:p<x.size.toNat):FQ s x.row (x.place+(p:Int))<=FQ u x.row (x.place+(p:Int)):=by
 obtain⟨h1,h2,h3,h4⟩:=WP hx;have:=h x.row.toNat (x.place.toNat+p) (by omega) (by omega);have e1:((x.row.toNat:Nat):Int)=x.row:=by omega
 have e2:((x.place.toNat+p:Nat):Int)=x.place+(p:Int):=by omega
 rwa [e1,e2]at this
structure Eas(c d:AV)(s u:List (List Int))(gs:List (Nat×Int))(f:Nat->Nat):Prop where
 ro:d.beach.rows=c.beach.rows
 pl:d.beach.places=c.beach.places
 su:LeS c s u
 go:∀g∈gs,(BR d (f g.1)).good<=(BR c g.1).good
 mi:∀g∈gs,∀k∈gs,PY d (f g.1) (f k.1)=true->PY c g.1 k.1=true
 ch:F8 c<=F8 d
theorem Eas.fits{c d:AV}{s u:List (List Int)}{gs:List (Nat×Int)}{f:Nat->Nat}(h:Eas c d s u gs f)(x:Sp):JK d (Q0 f x)=JK c x:=by unfold JK;rw[h.ro,h.pl];rfl
theorem Eas.ok{c d:AV}{s u:List (List Int)}{gs:List (Nat×Int)}{f:Nat->Nat}(h:Eas c d s u gs f){l:List Sp}(hl:zE c s gs l):zE d u (gs.map fun g=>(f g.1,g.2)) (l.map (Q0 f)):=by
 have hg:∀x∈l,gN x∈gs:=fun x hx=>by rw[<-hl.gr];exact List.mem_map_of_mem hx
 have e:gs.map (fun g=>(f g.1,g.2))=(l.map (Q0 f)).map gN:=by rw[uY,hl.gr]
 rw[e];refine hl.mapS (Q0 f) (fun x hx h1 h2=>⟨by rw[h.fits];exact h1,?_⟩) (fun x hx y hy ha=>?_) ?_
 ·have e2:(BT d u (Q0 f x)).enough=(bf x.size.toNat).all fun p=>decide ((BR d (f x.fam)).good<=FQ u x.row (x.place+(p:Int))):=rfl;rw[e2];simp only[BT,List.all_eq_true,bw,decide_eq_true_eq]at h2|-;intro p hp;have a1:=h2 p hp;have a2:=h.su.in h1 hp;have a3:=h.go _ (hg x hx);simp only[gN]at a3;omega
 ·have e2:FP d (Q0 f x) (Q0 f y)=(decide (x.row≠y.row)||(decide (0<nC x y)||(decide (nC x y=0)&&!PY d (f x.fam) (f y.fam)))):=rfl;rw[e2];simp only[FP,Bool.or_eq_true,decide_eq_true_eq,bq,Bool.not_eq_true',<-Bool.not_eq_true]at ha|-;rcases ha with ha|ha|⟨ha,hb⟩
  ·exact .inl ha
  ·exact .inr (.inl ha)
  ·exact .inr (.inr ⟨ha,fun hm=>hb (h.mi _ (hg x hx) _ (hg y hy) hm)⟩)
 ·rw[dY];have:=hl.pe;have:=h.ch;omega
theorem Eas.can{c d:AV}{s u:List (List Int)}{gs:List (Nat×Int)}{f:Nat->Nat}(h:Eas c d s u gs f)(hc:KQ c s gs=true):KQ d u (gs.map fun g=>(f g.1,g.2))=true:=by obtain⟨l,hl⟩:=WN.1 hc;exact WN.2 ⟨_,h.ok hl⟩
def EV(n:Nat)(out:List Int):List Nat:=(bf n).filter fun k=>!decide ((k:Int)∈out)
theorem W5(n:Nat)(out:List Int):EV (n+1) out=EV n out++if (n:Int)∈out then[] else[n]:=by unfold EV;rw[List.range_succ,List.filter_append];congr 1;by_cases h:(n:Int)∈out<;>simp[h]
theorem uZ(n:Nat):EV n []=bf n:=by unfold EV;simp
theorem gY(n:Nat)(out:List Int):(EV n out).Nodup:=List.Nodup.sublist List.filter_sublist List.nodup_range
def D5(c:AV)(out:List Int):AV:={ c with fams:=(EV c.fams.length out).map (BR c) }
end Go.Wind
namespace Go.Proofs.Tryz.Op
theorem VI(c:AV)(out:List Int):∀k,CS c.fams out k=(EV k out).map fun j=>(j,(BR c j).size)
 |0=>rfl
 |k+1=>by
  rw[W5,List.map_append,<-VI c out k];show CS c.fams out k++_=_;congr 1;by_cases h:(k:Int)∈out
  ·simp[h]
  ·simp[h,BR]
theorem FE(c:AV)(out:List Int):AW c out=(EV c.fams.length out).map fun j=>(j,(BR c j).size):=VI c out _
theorem gZ(c:AV)(out:List Int){j:Nat}(h:j<(EV c.fams.length out).length):BR (D5 c out) j=BR c (EV c.fams.length out)[j]:=by unfold BR D5;rw[bk,bp,bj h];rfl
theorem hH(c:AV)(out:List Int):AW (D5 c out) []=(bf (EV c.fams.length out).length).map fun j=>(j,(BR c ((EV c.fams.length out).getD j 0)).size):=by
 rw[FE,uZ];have e:(D5 c out).fams.length=(EV c.fams.length out).length:=by simp[D5]
 rw[e];apply List.map_congr_left;intro j hj;have hj:=bw.1 hj;rw[gZ c out hj,bk,bj hj];rfl
theorem zJ(c:AV)(s:List (List Int))(out:List Int):KQ (D5 c out) s (AW (D5 c out) [])=KQ c s (AW c out):=by
 have hnd:=gY c.fams.length out;have hg:=hH c out;have hk:=FE c out;have hf:=fun j h=>gZ c out (j:=j) h;generalize hK:EV c.fams.length out=K at *;have hmi:∀a b (ha:a<K.length) (hb:b<K.length),PY (D5 c out) a b=PY c K[a] K[b]:=fun a b ha hb=>by unfold PY;rw[hf a ha,hf b hb];congr 1;refine decide_eq_decide.2 ⟨fun h e=>h ?_,fun h e=>h (by subst e;rfl)⟩;rw[<-List.Nodup.idxOf_getElem hnd a ha,<-List.Nodup.idxOf_getElem hnd b hb,e]
 rw[Bool.eq_iff_iff];constructor
 ·intro h;have hE:Eas (D5 c out) c s s (AW (D5 c out) []) (fun j=>K.getD j 0):=by
   refine⟨rfl,rfl,LeS.rfl,fun g hg'=>?_,fun g hg' k hk'=>?_,Nat.le_refl _⟩
   ·rw[hg]at hg';obtain⟨j,hj,rfl⟩:=bx.1 hg';have hj:=bw.1 hj;rw[hf j hj,bk,bj hj];exact Int.le_refl _
   ·rw[hg]at hg' hk';obtain⟨j,hj,rfl⟩:=bx.1 hg';obtain⟨m,hm,rfl⟩:=bx.1 hk';have hj:=bw.1 hj;have hm:=bw.1 hm;simp only;rw[hmi j m hj hm,bk,bj hj,bk,bj hm];exact id
  have:=hE.can h;rw[hg,bz]at this;rw[hk];have e:(bf K.length).map ((fun g:Nat×Int=>(K.getD g.1 0,g.2))∘fun j=>(j,(BR c (K.getD j 0)).size))=K.map fun j=>(j,(BR c j).size):=by
   apply List.ext_getElem (by simp);intro p h1 h2;have hp:p<K.length:=by simpa using h2
   simp[bj hp]
  rwa [e]at this
 ·intro h;have hix:∀j (hj:j<K.length),K.idxOf K[j]=j:=fun j hj=>List.Nodup.idxOf_getElem hnd j hj;have hE:Eas c (D5 c out) s s (AW c out) (fun k=>K.idxOf k):=by
   refine⟨rfl,rfl,LeS.rfl,fun g hg'=>?_,fun g hg' k hk'=>?_,Nat.le_refl _⟩
   ·rw[hk]at hg';obtain⟨a,ha,rfl⟩:=bx.1 hg';obtain⟨j,hj,rfl⟩:=bb ha;simp only;rw[hix j hj,hf j hj];exact Int.le_refl _
   ·rw[hk]at hg' hk';obtain⟨a,ha,rfl⟩:=bx.1 hg';obtain⟨b,hb,rfl⟩:=bx.1 hk';obtain⟨j,hj,rfl⟩:=bb ha;obtain⟨m,hm,rfl⟩:=bb hb;simp only;rw[hix j hj,hix m hm,hmi j m hj hm];exact id
  have:=hE.can h;rw[hk,bz]at this;rw[hg];have e:K.map ((fun g:Nat×Int=>(K.idxOf g.1,g.2))∘fun j=>(j,(BR c j).size))=(bf K.length).map fun j=>(j,(BR c (K.getD j 0)).size):=by
   apply List.ext_getElem (by simp);intro p h1 h2;have hp:p<K.length:=by simpa using h1
   simp[hix p hp,bj hp]
  rwa [e]at this
def spt(x:Sp):Int×Int:=(x.row,x.place)
def IA(c:AV):Option (List Sp×CD):=zD c (AS c) (QZ c (AS c) (AW c []))
def LV(c:AV):List (Int×Int)×Int×Int×Int:=if D6 c≠0 then([],0,0,D6 c) else match IA c with
 |some q=>(q.1.map spt,q.2.sun,q.2.carried,0)
 |none=>([],0,0,10)
def WB(c:AV)(out:List Int):Bool:=KQ c (AS c) (AW c out)
def CZ(c:AV)(k:Nat):Bool:=(bf ((BR c k).size / 2).toNat).any fun n=>KQ c (AS c) (AW c [(k:Int)]++[(k,(n:Int)+1),(k,(BR c k).size-((n:Int)+1))])
def dZ(c:AV):List Int×Int:=if D6 c≠0 then([],D6 c) else if WB c []=true then([],7) else(((bf c.fams.length).filter (CZ c)).map fun (k:Nat)=>(k:Int),0)
theorem hJ(c:AV):WB c []=(IA c).isSome:=by
 unfold WB KQ IA;cases h:zD c (AS c) (QZ c (AS c) (AW c []))with
 |none=>
  rw[uW.1 h]
  rfl
 |some q=>
  cases hl:QZ c (AS c) (AW c [])with
  |nil=>
   rw[hl]at h
   cases h
  |cons a r=>rfl
theorem W6{x k:Nat}:∀{N:Nat},(k:Int)∈F0 x N↔k<N/\x.testBit k=true
 |0=>by simp[F0]
 |N+1=>by
  rw[nU];split
  ·rename_i h;rw[List.mem_append,W6,bn];constructor
   ·rintro (⟨h1,h2⟩|e)
    ·exact⟨by omega,h2⟩
    ·have:k=N:=by omega
     subst this;exact⟨by omega,h⟩
   ·rintro ⟨h1,h2⟩;by_cases e:k=N
    ·exact .inr (by rw[e])
    ·exact .inl ⟨by omega,h2⟩
  ·rename_i h;rw[W6];constructor
   ·rintro ⟨h1,h2⟩;exact⟨by omega,h2⟩
   ·rintro ⟨h1,h2⟩;refine⟨?_,h2⟩;by_cases e:k=N
    ·subst e;exact absurd h2 h
    ·omega
end Go.Proofs.Tryz.Op
