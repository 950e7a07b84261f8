/- The levels of the walk through the allowed seatings, and how a group that sits down changes them. No condition. -/
import Derived.Test.YtanlhbmliegjeaaGreatS4
open Go.Proofs.Tryz renaming prog->cd
open List renaming range->bj,exists_cons_of_ne_nil->bk,cons_append->bq,drop_eq_getElem_cons->bw,length_range->bx,mem_of_mem_take->bz,mem_singleton->bb,length->bf,drop_eq_nil_of_le->bg,length_take->bh,length_singleton->bm,map_cons->bn,mem_append->bp,map_append->cj,drop_zero->ck,length_append->cq,getElem_range->cw,flatMap_cons->cx,append_assoc->cz
open Nat renaming add_assoc->bc
set_option maxRecDepth 100000
set_option linter.unusedSimpArgs false
open Go Go.Pg Go.Proofs Go.Wind
namespace Go.Proofs.Tryz.Op
def pC(R:List AA)(gs:List (Nat×Int))(gl:V):Prop:=gl=sl (gs.map CT)\/∃j γg Lj,gl=.vec (j+1) 39 γg gs.length/\R[j]? = some Lj/\Lj.get 39=some (γg,.vec 127 (gs.map CT))
structure cP(γ l0 γ0 q g3 g7 g8:Nat)(gl:V)(o:List Sp)(cc:Nat)(L:AA):Prop where
 p3:L.get 3=some (g3,.box [.yld l0 BJ γ0])
 p7:∃v,L.get 7=some (g7,.box [v])/\zR q L o v cc
 p8:L.get 8=some (g8,.box [.fn 78 [] [.ref [gl],.ptr q 3 g3 0,.ptr q 7 g7 0,.ref [.ptr 0 911 (γ+1) 0],.ptr q 8 g8 0]])
 st:∀s:St,q+1<=s.up.length->AJ s L=L
 b7:g7<cc
section
variable {γ l0 γ0 q g3 g7 g8:Nat}{gl:V}{o:List Sp}{cc:Nat}{L:AA}
theorem cP.more(h:cP γ l0 γ0 q g3 g7 g8 gl o cc L){c2:Nat}(hc:cc<=c2):cP γ l0 γ0 q g3 g7 g8 gl o c2 L:=by obtain⟨v,h1,h2⟩:=h.p7;exact⟨h.p3,⟨v,h1,h2.more hc⟩,h.p8,h.st,Nat.lt_of_lt_of_le h.b7 hc⟩
theorem eQ(t:St)(T:TypeId)(es:List (List V))(h:∀e∈es,∃x:Sp,e=AO x):CC t (.vec T es)=.vec T es:=L9 fun e he v hv=>by obtain⟨x,rfl⟩:=h e he;simp only[AO,List.mem_cons,List.not_mem_nil,or_false]at hv;rcases hv with rfl|rfl|rfl|rfl<;>rfl
theorem cP.first(h:cP γ l0 γ0 q g3 g7 g8 gl [] cc L)(x:Sp):cP γ l0 γ0 q g3 g7 g8 gl [x] (cc+1) ((921,cc,.vec 129 [AO x])::(7,g7,.box [.vec q 921 cc 1])::I7 7 L) where
 p3:=by simpa using h.p3
 p7:=by
  refine⟨.vec q 921 cc 1,by simp,.inr ⟨cc,[AO x],rfl,by simp,by simp,fun k h1 h2=>?_,by simp[AO],by omega⟩⟩;have:k=0:=by simpa using h1
  subst this;rfl
 p8:=by simpa using h.p8
 st:=fun s hs=>by
  have e:¬q=s.up.length:=by omega
  rw[A6,A6,RQ,h.st s hs,eQ s _ _ fun e he=>⟨x,by simpa using he⟩];obtain⟨up,lo⟩:=s;simp only at e;simp[EZ,e]
 b7:=Nat.lt_succ_of_lt h.b7
theorem cP.next(h:cP γ l0 γ0 q g3 g7 g8 gl o cc L)(x:Sp){es:List (List V)}(hes:es.take o.length=o.map AO):cP γ l0 γ0 q g3 g7 g8 gl (o++[x]) (cc+1) ((7,g7,.box [.vec q 921 cc (o.length+1)])::(921,cc,.vec 129 (es.take o.length++[AO x]))::L) where
 p3:=by simpa using h.p3
 p7:=by
  refine⟨.vec q 921 cc (o.length+1),by simp,.inr ⟨cc,es.take o.length++[AO x],by simp,by simp,by simp[hes],fun k h1 h2=>?_,fun e he=>?_,by omega⟩⟩
  ·have e:es.take o.length++[AO x]=(o++[x]).map AO:=by rw[hes];simp
   rw[List.getElem_of_eq e,List.getElem_map]
  ·rw[hes]at he;simp only[bp,List.mem_map,bb]at he;rcases he with⟨y,_,rfl⟩|rfl<;>rfl
 p8:=by simpa using h.p8
 st:=fun s hs=>by
  have e:¬q=s.up.length:=by omega
  rw[A6,A6,h.st s hs,eQ s _ _ fun e he=>by
   rw[hes]at he;simp only[bp,List.mem_map,bb]at he;rcases he with⟨y,_,rfl⟩|rfl
   ·exact⟨y,rfl⟩
   ·exact⟨x,rfl⟩]
  obtain⟨up,lo⟩:=s;simp only at e;simp[EZ,e]
 b7:=Nat.lt_succ_of_lt h.b7
theorem cP.back{x:Sp}(h:cP γ l0 γ0 q g3 g7 g8 gl (o++[x]) cc L):∃g es,L.get 7=some (g7,.box [.vec q 921 g (o.length+1)])/\L.get 921=some (g,.vec 129 es)/\o.length+1<=es.length/\(∀e∈es,e.length=4)/\cP γ l0 γ0 q g3 g7 g8 gl o cc ((7,g7,.box [.vec q 921 g o.length])::L):=by
 obtain⟨v,h1,h2⟩:=h.p7;rcases h2 with⟨_,h2⟩|⟨g,es,rfl,v2,v3,v4,v5,v6⟩
 ·simp at h2
 ·simp only[cq,bm]at v3 v4 h1;refine⟨g,es,h1,v2,v3,v5,by simpa using h.p3,⟨.vec q 921 g o.length,by simp,.inr ⟨g,es,rfl,by simpa using v2,by omega,fun k k1 k2=>?_,v5,v6⟩⟩,by simpa using h.p8,fun s hs=>?_,h.b7⟩
  ·rw[v4 k (by omega) k2,List.getElem_append_left k1]
  ·have e:¬q=s.up.length:=by omega
   rw[A6,h.st s hs];obtain⟨up,lo⟩:=s;simp only at e;simp[EZ,e]
end
theorem WN{n k l d:Nat}(f:Nat)(cs:List V):KG n k l d (f+1) (.ref cs)=.ref cs:=rfl
theorem A2R(st:XS):K7 [8004000922065] st=cI 65 (L7 4 st) 921 [7] st:=rfl
theorem vX(c:Nat)(fr:Fr)(up:List AA)(g:Nat)(r:AX):K7 [8004000922065] ⟨c,fr,⟨up,[(10,g,r)]⟩⟩=⟨c,fr,⟨up,[(10,g,r)]⟩⟩:=by rw[A2R];rfl
theorem AM6(c γ g7 XM g o:Nat)(T:TypeId)(es:List (List V))(cs:List V)(fr:Fr)(L Lq:AA)(R Y:List AA)(r7:AX)(h3:BQ fr 3=some (true,.ptr (R.length+1) 7 g o))(h7:Lq.get 7=some (g7,r7)) :
  K7 [8004000922065] ⟨c,fr,⟨L::(R++Lq::Y),[(65,γ,.vec T es),(10,XM,.box cs)]⟩⟩=⟨c,vA (R.length+Y.length+2) 65 (R.length+1) 921 fr,⟨L::(R++((921,γ,Q7 (R.length+Y.length+2) 65 (R.length+1) 921 (.vec T es))::(7,g7,Q7 (R.length+Y.length+2) 65 (R.length+1) 921 r7)::I7 7 Lq)::Y),[(10,XM,Q7 (R.length+Y.length+2) 65 (R.length+1) 921 (.box cs))]⟩⟩:=by
 rw[A2R]
 have hl:(L::(R++Lq::Y)).length=R.length+Y.length+2:=by simp;omega
 have e1:L7 4 ⟨c,fr,⟨L::(R++Lq::Y),[(65,γ,.vec T es),(10,XM,.box cs)]⟩⟩=R.length+1:=by show(match BQ fr 3 with|some (true,.ptr l _ _ _)=>l|_=>0)=R.length+1;rw[h3]
 rw[e1]
 unfold cI
 have e3:QZ (R.length+1) (R.length+(Y.length+2)) (some (γ,.vec T es))=true:=by
  have:Nat.blt (R.length+1) (R.length+(Y.length+2))=true:=by rw[Nat.blt_eq];omega
  simp[QZ,bN,this]
 have ne:¬R.length+1=R.length+(Y.length+2):=by omega
 simp[vB,AA.get,zI,h7,jA,St.put,DB,zQ,hl,bc,ne,e3]
def AEW{α:Type}(c:A0)(γ:Nat)(B:AA)(Q l0 γ0 N0:Nat)(Lv:Nat->Bool->α->List AA->Prop)(step:α->List Sp->α×Bool):Prop :=
 ∀(a:α) (L Lq:AA) (R Y:List AA) (loc:AA) (cc:Nat) (fr:Fr) (o:List Sp) (v:V),Lw c γ B L->Lv cc true a R->γ+1<cc->γ0+1<cc->(∀x∈o,vW c x)->o.length<=10->zR (Q+1) Lq o v cc->HC (R++Lq::(Y++[loc])) ->
  ∃L' R' c',Lw c γ B L'/\Lv c' (step a o).2 (step a o).1 R'/\cc<=c'/\∀n,aC (AE cd ann kn (n+N0)) l0 BJ γ0 [v] ⟨cc,fr,⟨L::(R++Lq::Y),loc⟩⟩=some (.bool (step a o).2,⟨c',fr,⟨L'::(R'++Lq::Y),loc⟩⟩)
structure AEX{α:Type}(Q:Nat)(gs:List (Nat×Int))(gl:V)(Lv:Nat->Bool->α->List AA->Prop):Prop where
 mo:∀c c' g a R,Lv c g a R->c<=c'->Lv c' g a R
 ln:∀c g a R,Lv c g a R->R.length=Q
 st:∀c g a R,Lv c g a R->∀t:St,Q+1<=t.up.length->R.map (AJ t)=R
 gr:∀c g a R,Lv c g a R->pC R gs gl
def StY(Q:Nat)(Y:List AA):Prop:=∀t:St,Q+Y.length+2<=t.up.length->Y.map (AJ t)=Y
theorem AEY{R Y:List AA}{Lq:AA}(hR:∀t:St,R.length+1<=t.up.length->R.map (AJ t)=R)(hq:∀t:St,R.length+2<=t.up.length->AJ t Lq=Lq)(hY:StY R.length Y):HC (R++Lq::Y):=by
 intro t ht;have ht:R.length+Y.length+2<=t.up.length:=by simp at ht;omega
 rw[cj,bn,hR t (by omega),hq t (by omega),hY t ht]
theorem StY.more{Q:Nat}{Y:List AA}{l:AA}(h:StY Q Y)(hl:∀t:St,Q+Y.length+3<=t.up.length->AJ t l=l):StY Q (Y++[l]):=by intro t ht;simp only[cq,bm]at ht;rw[cj,h t (by omega),bn,List.map_nil,hl t (by omega)]
def KN:Option (Nat×Sp)->AA
 |none=>[]
 |some (g,x)=>[(10,g,.box (AO x))]
theorem UU{R:List AA}{Q j:Nat}{Lj:AA}(hQ:R.length=Q)(hj:R[j]? = some Lj):j<Q/\(∀Z:List AA,(R++Z)[j]? = some Lj)/\∀m:Nat,¬j=Q+m:=by have h:=(List.getElem?_eq_some_iff.1 hj).1;exact⟨by omega,fun Z=>by rw[List.getElem?_append_left h];exact hj,fun m=>by omega⟩
theorem BDD(L2:AA)(R2:List AA)(Lq2 l:AA)(Y:List AA):CM (L2::(R2++Lq2::(Y++[l])))=some (L2::(R2++Lq2::Y),l):=by
 have:L2::(R2++Lq2::(Y++[l]))=(L2::(R2++Lq2::Y))++[l]:=by simp
 rw[this,C9]
section
variable {α:Type}{c:A0}{γ:Nat}{B:AA}{Q l0 γ0 N0:Nat}{Lv:Nat->Bool->α->List AA->Prop}{step:α->List Sp->α×Bool}{gs:List (Nat×Int)}{gl:V}{g3 g7 g8:Nat}
def ARK(c:A0)(γ:Nat)(B:AA)(Q l0 γ0:Nat)(Lv:Nat->Bool->α->List AA->Prop)(step:α->List Sp->α×Bool)(gl:V)(g3 g7 g8 M k:Nat)(ws:List (Nat×Int)):Prop :=
 ∀(o:List Sp),o.length=k->(∀x∈o,vW c x)->∀(a:α) (L Lq:AA) (R Y:List AA) (cc dd:Nat) (fr:Fr),Lw c γ B L->Lv cc true a R->cP γ l0 γ0 (Q+1) g3 g7 g8 gl o cc Lq->StY Q Y->γ+1<cc->γ0+1<cc ->
  ∃L' R' Lq' o' c',Lw c γ B L'/\Lv c' (runG step a (FC c (AY c) ws o)).2 (runG step a (FC c (AY c) ws o)).1 R'/\cP γ l0 γ0 (Q+1) g3 g7 g8 gl o' c' Lq'/\((runG step a (FC c (AY c) ws o)).2=true->o'=o)/\cc<=c' /\
   ∀n,iL cd (some dd) fr Tryz.f78.results.toList (AE cd ann kn (n+M) 76 c78 ⟨cc,AD 0 [i k,.ref [gl],.ptr (Q+1) 3 g3 0,.ptr (Q+1) 7 g7 0,.ref [.ptr 0 911 (γ+1) 0],.ptr (Q+1) 8 g8 0],⟨L::(R++Lq::Y),[]⟩⟩)=bF (some dd) fr c' (.bool (runG step a (FC c (AY c) ws o)).2) (CM (L'::(R'++Lq'::Y)))
def jC(c:A0)(ws:List (Nat×Int))(g:Nat×Int)(o:List Sp)(r p:Nat):List (List Sp):=if ((B5 c (AY c) ⟨g.1,g.2,(r:Int),(p:Int)⟩).enough&&o.all (FA c ⟨g.1,g.2,(r:Int),(p:Int)⟩))=true then FC c (AY c) ws (o++[⟨g.1,g.2,(r:Int),(p:Int)⟩]) else[]
set_option maxHeartbeats 4000000 in
theorem AJJ(hc:CJ c)(hO:AEX Q gs gl Lv)(hgl:gs.length<=9)(W k:Nat)(hk:k<gs.length)(hgk:gs[k].1<c.fams.length/\1<=gs[k].2/\gs[k].2<=4)(ws:List (Nat×Int))(hrec:ARK c γ B Q l0 γ0 Lv step gl g3 g7 g8 (W+1000) (k+1) ws)(r:Nat)(hr:(r:Int)<c.beach.rows)(o:List Sp)(hol:o.length=k)(ho:∀x∈o,vW c x)(Y:List AA)(hY:StY Q Y)(PP:Int)(hPP:PP=c.beach.places-gs[k].2+1) :
  ∀(e p:Nat) (a:α) (L Lq:AA) (R:List AA) (l10:Option (Nat×Sp)) (cc:Nat),p+e=PP.toNat->Lw c γ B L->Lv cc true a R->cP γ l0 γ0 (Q+1) g3 g7 g8 gl o cc Lq->γ+1<cc->γ0+1<cc ->
  ∃(fr0:Fr) (L':AA) (R':List AA) (Lq':AA) (o':List Sp) (l10':Option (Nat×Sp)) (c':Nat),BQ fr0 0=some (true,i k)/\BQ fr0 1=some (true,.ref [gl])/\BQ fr0 3=some (true,.ptr (Q+1) 7 g7 0)/\BQ fr0 4=some (true,.ref [.ptr 0 911 (γ+1) 0])/\BQ fr0 5=some (true,.ptr (Q+1) 8 g8 0)/\BQ fr0 23=some (true,i c.beach.rows)/\BQ fr0 24=some (true,i r) /\
   Lw c γ B L'/\Lv c' (runG step a (((bj PP.toNat).drop p).flatMap (jC c ws gs[k] o r))).2 (runG step a (((bj PP.toNat).drop p).flatMap (jC c ws gs[k] o r))).1 R'/\cP γ l0 γ0 (Q+1) g3 g7 g8 gl o' c' Lq'/\((runG step a (((bj PP.toNat).drop p).flatMap (jC c ws gs[k] o r))).2=true->o'=o)/\cc<=c' /\
   ∀n m,e<m->BG (AE cd ann kn (n+W+1100) 76) X7 (ann 76 (BX X7)) m ⟨cc,[(0,true,i k),(1,true,.ref [gl]),(3,true,.ptr (Q+1) 7 g7 0),(4,true,.ref [.ptr 0 911 (γ+1) 0]),(5,true,.ptr (Q+1) 8 g8 0),(8,true,i r),(23,true,i c.beach.rows),(24,true,i r),(39,true,i PP),(40,true,i p)],⟨L::(R++Lq::Y),KN l10⟩⟩ =
    if (runG step a (((bj PP.toNat).drop p).flatMap (jC c ws gs[k] o r))).2=true then some (.exit 2,⟨c',fr0,⟨L'::(R'++Lq'::Y),KN l10'⟩⟩) else some (.ret,⟨c',[(7,true,.bool false)],⟨L'::(R'++Lq'::Y),[]⟩⟩)
 |0,p,a,L,Lq,R,l10,cc,hd,hL,hLv,hLq,hc1,hc2=>by
  have hpl:=hc.be.pl;have hpp:¬(p:Int)<PP:=by omega
  rw[bg (by rw[bx];omega)];refine⟨?fr,L,R,Lq,o,l10,cc,?g1,?g2,?g3,?g4,?g5,?g6,?g7,hL,by simpa [runG]using hLv,hLq,fun _=>rfl,Nat.le_refl _,fun n m hm=>?g⟩;case g=>
   obtain⟨m,rfl⟩:=qNz m (by omega)
   rw[AC]
   cases l10<;>simp[runG,hpp,KN]
   all_goals rfl
  all_goals simp
 |e+1,p,a,L,Lq,R,l10,cc,hd,hL,hLv,hLq,hc1,hc2=>by
  have hlt:(p:Int)<PP:=by omega
  have hw:=BS (k:=p) (by have:=hc.be.pl;omega);have hwk:=BS (k:=k) (by omega);have hx:vW c ⟨gs[k].1,gs[k].2,(r:Int),(p:Int)⟩:=by refine⟨?_,hgk.1,by simp only;omega,by simp only;omega⟩;simp only[JJ,Bool.and_eq_true,DV];omega
  have hQ:=hO.ln _ _ _ _ hLv;have hR:=hO.st _ _ _ _ hLv;have hgr:=hO.gr _ _ _ _ hLv;have hfl:((bj PP.toNat).drop p).flatMap (jC c ws gs[k] o r)=jC c ws gs[k] o r p++((bj PP.toNat).drop (p+1)).flatMap (jC c ws gs[k] o r):=by rw[bw (by rw[bx];omega),cx,cw]
  have hgne:gs.map CT≠[]:=fun e0=>by have:=congrArg bf e0;simp at this;subst this;simp at hk
  have hsl:sl (gs.map CT)=.list false (gs.map CT):=by obtain⟨y,l,e0⟩:=bk hgne;rw[e0];rfl
  rw[hfl];generalize hX:(⟨gs[k].1,gs[k].2,(r:Int),(p:Int)⟩:Sp)=x at hx;have hstR:∀Lq2,cP γ l0 γ0 (Q+1) g3 g7 g8 gl o cc Lq2->HC (R++Lq2::Y):=fun Lq2 h=>AEY (by rw[hQ];exact hR) (by rw[hQ];exact h.st) (by rw[hQ];exact hY);have hst10:∀t:St,Q+Y.length+3<=t.up.length->AJ t [(10,cc,.box (AO x))]=[(10,cc,.box (AO x))]:=fun t _=>by simp[AO]
  have hst1:HC ((R++Lq::Y)++[[(10,cc,.box (AO x))]]):=J3 (hstR Lq hLq) fun t ht=>by simp[AO]
  obtain⟨L1,c1,r1,r2,r3⟩:=AES c hc γ B x hx L hL (R++Lq::Y) [(10,cc,.box (AO x))] hst1 (cc+1) (by omega);have hat5:∀(a:AA) (Z:List AA),(R++a::Z)[Q]? = some a:=fun a Z=>by rw[<-hQ];exact at5 R a Z
  have hset5:∀(a:AA) (Z:List AA) (f:AA->AA),(R++a::Z).modify Q f=R++f a::Z:=fun a Z f=>by rw[<-hQ];exact zQ R a Z f
  have hxe:AO x=[i gs[k].1,i gs[k].2,i r,i p]:=by rw[<-hX];rfl
  cases hz:(B5 c (AY c) x).enough with
  |false=>
   have hap:jC c ws gs[k] o r p=[]:=by unfold jC;rw[hX,hz];simp
   rw[hap,List.nil_append]
   obtain⟨fr0,L',R',Lq',o',l10',c',e0,e1,e3,e4,e5,e23,e24,i1,i2,i3,i4,i5,ih⟩:=AJJ hc hO hgl W k hk hgk ws hrec r hr o hol ho Y hY PP hPP e (p+1) a L1 Lq R (some (cc,x)) c1 (by omega) r1 (hO.mo _ _ _ _ _ hLv (by omega)) (hLq.more (by omega)) (by omega) (by omega)
   refine⟨fr0,L',R',Lq',o',l10',c',e0,e1,e3,e4,e5,e23,e24,i1,i2,i3,i4,by omega,fun n m hm=>?_⟩
   obtain⟨m,rfl⟩:=qNz m (by omega)
   have ih:=ih n m (by omega)
   generalize (runG step a (((bj PP.toNat).drop (p+1)).flatMap (jC c ws gs[k] o r))).2=z at ih|-
   generalize B5 c (AY c) x=S at *
   obtain⟨S1,S2,S3⟩:=S
   simp only at hz
   subst hz
   rw[AC]
   simp only[KN,hxe,CQ]at r3 ih|-
   rcases hgr with rfl|⟨j,γg,Lj,rfl,hj,hjg⟩
   ·simp only[hsl]at r3 ih|-;cases l10<;>(simp at ih r3;simp[hlt,hw,hwk,hk,hQ,hat5,hset5,CT,r3,ED,DB,ih])
   ·obtain⟨hjR,hjl,hjn⟩:=UU hQ hj;cases l10<;>(simp at ih r3;simp[hlt,hw,hwk,hk,hQ,hat5,hset5,hjl,hjg,hjn,CT,r3,ED,DB,ih])
  |true=>
  obtain⟨v,p7,hv⟩:=hLq.p7;have hstU:StU (L1::(R++Lq::Y)++[[(10,cc,.box (AO x))]]):=fun t ht=>by have:=hst1 t (by simp at ht|-;omega);rw[bq,bn,this,r1.st t (by simp at ht;omega)]
  obtain⟨c2,hc12,qA⟩:=AJI c hc γ B L1 r1 x hx o ho (by omega) R Lq Y v c1 (by rw[hQ];exact hv.more (by omega)) [(10,cc,.box (AO x))] cc rfl hstU;rw[hQ,show Q+Y.length+2=Q+(Y.length+1)+1 by omega]at qA;have hwv:weakV v=v:=by rcases hv with⟨rfl,_⟩|⟨_,_,rfl,_⟩<;>rfl
  cases hza:o.all (FA c x)with
  |false=>
   have hap:jC c ws gs[k] o r p=[]:=by unfold jC;rw[hX,hz,hza];simp
   rw[hap,List.nil_append]
   obtain⟨fr0,L',R',Lq',o',l10',c',e0,e1,e3,e4,e5,e23,e24,i1,i2,i3,i4,i5,ih⟩:=AJJ hc hO hgl W k hk hgk ws hrec r hr o hol ho Y hY PP hPP e (p+1) a L1 Lq R (some (cc,x)) c2 (by omega) r1 (hO.mo _ _ _ _ _ hLv (by omega)) (hLq.more (by omega)) (by omega) (by omega)
   refine⟨fr0,L',R',Lq',o',l10',c',e0,e1,e3,e4,e5,e23,e24,i1,i2,i3,i4,by omega,fun n m hm=>?_⟩
   obtain⟨m,rfl⟩:=qNz m (by omega)
   have ih:=ih n m (by omega)
   rw[hza]at qA
   generalize (runG step a (((bj PP.toNat).drop (p+1)).flatMap (jC c ws gs[k] o r))).2=z at ih|-
   generalize B5 c (AY c) x=S at *
   obtain⟨S1,S2,S3⟩:=S
   simp only at hz
   subst hz
   rw[AC]
   simp only[KN,hxe,CQ]at r3 ih qA|-
   rcases hgr with rfl|⟨j,γg,Lj,rfl,hj,hjg⟩
   ·simp only[hsl]at r3 ih|-;cases l10<;>(simp at ih r3;simp[hlt,hw,hwk,hk,hQ,hat5,hset5,CT,r3,p7,qA,hwv,ED,DB,ih])
   ·obtain⟨hjR,hjl,hjn⟩:=UU hQ hj;cases l10<;>(simp at ih r3;simp[hlt,hw,hwk,hk,hQ,hat5,hset5,hjl,hjg,hjn,CT,r3,p7,qA,hwv,ED,DB,ih])
  |true=>
  have hap:jC c ws gs[k] o r p=FC c (AY c) ws (o++[x]):=by unfold jC;rw[hX,hz,hza];simp
  rw[hap,IZ];rw[hza]at qA;have hox:∀y∈o++[x],vW c y:=fun y hy=>by
   rcases bp.1 hy with hy|hy
   ·exact ho y hy
   ·rw[bb]at hy;subst hy;exact hx
  have happ:∀m,m<=100->CG cd 129 m [AO x]=true:=fun m hm=>by rw[C3 (by simp) (by simp[AO])];have h4:(AO x).length=4:=rfl;simp[maxLen,h4];omega
  have hYx:StY Q (Y++[[(10,cc,.box (AO x))]]):=hY.more hst10;let FR:Fr:=[(68,true,i ((k:Int)+1)),(67,true,i k),(66,true,.fn 78 [] [.ref [gl],.ptr (Q+1) 3 g3 0,.ptr (Q+1) 7 g7 0,.ref [.ptr 0 911 (γ+1) 0],.ptr (Q+1) 8 g8 0]),(0,true,i k),(1,true,.ref [gl]),(3,true,.ptr (Q+1) 7 g7 0),(4,true,.ref [.ptr 0 911 (γ+1) 0]),(5,true,.ptr (Q+1) 8 g8 0),(8,true,i r),(23,true,i c.beach.rows),(24,true,i r),(39,true,i PP),(40,true,i p)];have hsit:∃Lq1,cP γ l0 γ0 (Q+1) g3 g7 g8 gl (o++[x]) (c2+1) Lq1/\(v=.nil/\Lq1=((921,c2,.vec 129 [AO x])::(7,g7,.box [.vec (Q+1) 921 c2 1])::I7 7 Lq)\/∃g es,v=.vec (Q+1) 921 g o.length/\Lq.get 921=some (g,.vec 129 es)/\o.length<=es.length/\(∀e∈es,e.length=4)/\Lq1=((7,g7,.box [.vec (Q+1) 921 c2 (o.length+1)])::(921,c2,.vec 129 (es.take o.length++[AO x]))::Lq)):=by
   rcases hv with⟨rfl,rfl⟩|⟨g,es,rfl,v2,v3,v4,v5,v6⟩
   ·exact⟨_,(hLq.more (by omega:cc<=c2)).first x,.inl ⟨rfl,rfl⟩⟩
   ·have hes:es.take o.length=o.map AO:=by
     apply List.ext_getElem (by simp;omega);intro m h1 h2;have hm:m<o.length:=by simpa using h2
     rw[List.getElem_take,List.getElem_map];exact v4 m hm (by omega)
    exact⟨_,(hLq.more (by omega:cc<=c2)).next x hes,.inr ⟨g,es,rfl,v2,v3,v5,rfl⟩⟩
  obtain⟨Lq1,hLq1,hsit⟩:=hsit;obtain⟨L2,R2,Lq2,o2,c4,s1,s2,s3,s4,s5,s6⟩:=hrec (o++[x]) (by simp[hol]) hox a L1 Lq1 R (Y++[[(10,cc,.box (AO x))]]) (c2+1) 69 FR r1 (hO.mo _ _ _ _ _ hLv (by omega)) hLq1 hYx (by omega) (by omega);have hca:=fun n=>A3 (A:=ann) (kn:=kn) (n:=n+W+1089) Tryz.func78 b78 rfl (args:=[i ((k:Int)+1),.ref [gl],.ptr (Q+1) 3 g3 0,.ptr (Q+1) 7 g7 0,.ref [.ptr 0 911 (γ+1) 0],.ptr (Q+1) 8 g8 0]) (by simp) (some 69) (c2+1) FR (L1::(R++Lq1::Y)) [(10,cc,.box (AO x))];have s6':=fun n=>s6 (n+89);have e85:∀n,n+89+(W+1000)=n+W+1089:=fun n=>by omega
  simp only[e85]at s6';have hcb:=fun n=>by have h1:=hca n;rw[bq,cz,bq]at h1;exact h1.trans ((s6' n).trans (congrArg (bF (some 69) FR c4 _) (BDD _ _ _ _ _)))
  have hgc2:g7<c2+1:=by have:=hLq.b7;omega
  cases hG:(runG step a (FC c (AY c) ws (o++[x]))).2 with
  |false=>
   rw[if_neg (by simp)]
   refine⟨[(0,true,i k),(1,true,.ref [gl]),(3,true,.ptr (Q+1) 7 g7 0),(4,true,.ref [.ptr 0 911 (γ+1) 0]),(5,true,.ptr (Q+1) 8 g8 0),(23,true,i c.beach.rows),(24,true,i r)],L2,R2,Lq2,o2,none,c4,by simp,by simp,by simp,by simp,by simp,by simp,by simp,s1,by rw[hG]at s2;rw[hG];exact s2,s3,fun h=>absurd h (by rw[hG];decide),by omega,fun n m hm=>?_⟩
   obtain⟨m,rfl⟩:=qNz m (by omega)
   have hcb:=hcb n
   rw[hG]at hcb
   rw[if_neg (by rw[hG];decide)]
   generalize B5 c (AY c) x=S at *
   obtain⟨S1,S2,S3⟩:=S
   simp only at hz
   subst hz
   rw[AC]
   simp only[KN,hxe,CQ,FR]at r3 qA hcb happ hsit|-
   have p8:=hLq.p8
   rcases hsit with⟨rfl,rfl⟩|⟨g,es,rfl,v2,v3,v5,rfl⟩
   ·have hgh:=fun c1 fr (h3:BQ fr 3=some (true,.ptr (Q+1) 7 g7 0))=>AM6 c1 c2 g7 cc g7 0 129 [[i gs[k].1,i gs[k].2,i r,i p]] [i gs[k].1,i gs[k].2,i r,i p] fr L1 ((7,g7,.box [.vec (Q+(Y.length+1)+1) 65 c2 1])::Lq) R Y (.box [.vec (Q+(Y.length+1)+1) 65 c2 1]) (by rw[hQ];exact h3) rfl;rw[hQ,show Q+Y.length+2=Q+(Y.length+1)+1 by omega]at hgh;have ha0:=happ 0 (by omega);rcases hgr with rfl|⟨j,γg,Lj,rfl,hj,hjg⟩
    ·simp only[hsl]at r3 hcb p8|-;cases l10<;>(simp at hcb r3;simp[hlt,hw,hwk,hk,hQ,hat5,hset5,CT,r3,p7,p8,qA,ES,ha0,hgc2,LG,hgh,JT,GG,G9,GF,LI,SW,F5,WN,IL,hcb,ED,DB])
    ·obtain⟨hjR,hjl,hjn⟩:=UU hQ hj;cases l10<;>(simp at hcb r3;simp[hlt,hw,hwk,hk,hQ,hat5,hset5,hjl,hjg,hjn,CT,r3,p7,p8,qA,ES,ha0,hgc2,LG,hgh,JT,GG,G9,GF,LI,SW,F5,WN,IL,hcb,ED,DB])
   ·have hcut:Y3 o.length [[i gs[k].1,i gs[k].2,i r,i p]] es=es.take o.length:=if_pos (List.all_eq_true.2 fun e he=>by rw[v5 e he];rfl);have hcl:(es.take o.length).length=o.length:=by rw[bh];omega
    have hcm:=eq_true fun e (he:e∈es.take o.length)=>v5 e (bz he);have hao:=happ o.length (by omega);generalize es.take o.length=ET at *;rcases hgr with rfl|⟨j,γg,Lj,rfl,hj,hjg⟩
    ·simp only[hsl]at r3 hcb p8|-;cases l10<;>(simp at hcb r3;simp[hlt,hw,hwk,hk,hQ,hat5,hset5,CT,r3,p7,p8,v2,qA,hwv,hcut,hcl,hcm,hao,hgc2,vX,hcb,ED,DB])
    ·obtain⟨hjR,hjl,hjn⟩:=UU hQ hj;cases l10<;>(simp at hcb r3;simp[hlt,hw,hwk,hk,hQ,hat5,hset5,hjl,hjg,hjn,CT,r3,p7,p8,v2,qA,hwv,hcut,hcl,hcm,hao,hgc2,vX,hcb,ED,DB])
  |true=>
   rw[if_pos rfl]
   obtain rfl:=s4 hG
   rw[hG]at s2
   obtain⟨gb,eb,b1,b2,b3,b4,hLq3⟩:=s3.back
   have hQ2:=hO.ln _ _ _ _ s2
   have hslc:∀s:St,B0 cd s 94 (.vec (Q+1) 921 gb (o.length+1)) none (some (i k)) none=some (.vec (Q+1) 921 gb o.length):=fun s=>by rw[<-hol];exact zW (e:=129) (by kernel_rfl) (by omega) (by simp)
   have hat6:∀(a:AA) (Z:List AA),(R2++a::Z)[Q]? = some a:=fun a Z=>by rw[<-hQ2];exact at5 R2 a Z
   have hset6:∀(a:AA) (Z:List AA) (f:AA->AA),(R2++a::Z).modify Q f=R2++f a::Z:=fun a Z f=>by rw[<-hQ2];exact zQ R2 a Z f
   obtain⟨fr0,L',R',Lq',o',l10',c',e0,e1,e3,e4,e5,e23,e24,i1,i2,i3,i4,i5,ih⟩:=AJJ hc hO hgl W k hk hgk ws hrec r hr o hol ho Y hY PP hPP e (p+1) _ L2 _ R2 (some (cc,x)) c4 (by omega) s1 s2 hLq3 (by omega) (by omega)
   refine⟨fr0,L',R',Lq',o',l10',c',e0,e1,e3,e4,e5,e23,e24,i1,i2,i3,i4,by omega,fun n m hm=>?_⟩
   obtain⟨m,rfl⟩:=qNz m (by omega)
   have ih:=ih n m (by omega)
   have hcb:=hcb n
   rw[hG]at hcb
   generalize (runG step (runG step a (FC c (AY c) ws (o++[x]))).1 (((bj PP.toNat).drop (p+1)).flatMap (jC c ws gs[k] o r))).2=zz at ih|-
   have hg74:g7<c4:=by omega
   generalize B5 c (AY c) x=S at *
   obtain⟨S1,S2,S3⟩:=S
   simp only at hz
   subst hz
   rw[AC]
   simp only[KN,hxe,CQ,FR]at r3 qA hcb happ hsit ih|-
   have p8:=hLq.p8
   rcases hsit with⟨rfl,rfl⟩|⟨g,es,rfl,v2,v3,v5,rfl⟩
   ·have hgh:=fun c1 fr (h3:BQ fr 3=some (true,.ptr (Q+1) 7 g7 0))=>AM6 c1 c2 g7 cc g7 0 129 [[i gs[k].1,i gs[k].2,i r,i p]] [i gs[k].1,i gs[k].2,i r,i p] fr L1 ((7,g7,.box [.vec (Q+(Y.length+1)+1) 65 c2 1])::Lq) R Y (.box [.vec (Q+(Y.length+1)+1) 65 c2 1]) (by rw[hQ];exact h3) rfl;rw[hQ,show Q+Y.length+2=Q+(Y.length+1)+1 by omega]at hgh;have ha0:=happ 0 (by omega);rcases hgr with rfl|⟨j,γg,Lj,rfl,hj,hjg⟩
    ·simp only[hsl]at r3 hcb p8 ih|-;cases l10<;>(simp at hcb r3 ih;simp[hlt,hw,hwk,hk,hQ,hQ2,hat5,hset5,hat6,hset6,b1,b2,b3,b4,hslc,hg74,ih,CT,r3,p7,p8,qA,ES,ha0,hgc2,LG,hgh,JT,GG,G9,GF,LI,SW,F5,WN,IL,hcb,ED,DB])
    ·obtain⟨hjR,hjl,hjn⟩:=UU hQ hj;cases l10<;>(simp at hcb r3 ih;simp[hlt,hw,hwk,hk,hQ,hQ2,hat5,hset5,hat6,hset6,b1,b2,b3,b4,hslc,hg74,ih,hjl,hjg,hjn,CT,r3,p7,p8,qA,ES,ha0,hgc2,LG,hgh,JT,GG,G9,GF,LI,SW,F5,WN,IL,hcb,ED,DB])
   ·have hcut:Y3 o.length [[i gs[k].1,i gs[k].2,i r,i p]] es=es.take o.length:=if_pos (List.all_eq_true.2 fun e he=>by rw[v5 e he];rfl);have hcl:(es.take o.length).length=o.length:=by rw[bh];omega
    have hcm:=eq_true fun e (he:e∈es.take o.length)=>v5 e (bz he);have hao:=happ o.length (by omega);generalize es.take o.length=ET at *;rcases hgr with rfl|⟨j,γg,Lj,rfl,hj,hjg⟩
    ·simp only[hsl]at r3 hcb p8 ih|-;cases l10<;>(simp at hcb r3 ih;simp[hlt,hw,hwk,hk,hQ,hQ2,hat5,hset5,hat6,hset6,b1,b2,b3,b4,hslc,hg74,ih,CT,r3,p7,p8,v2,qA,hwv,hcut,hcl,hcm,hao,hgc2,vX,hcb,ED,DB])
    ·obtain⟨hjR,hjl,hjn⟩:=UU hQ hj;cases l10<;>(simp at hcb r3 ih;simp[hlt,hw,hwk,hk,hQ,hQ2,hat5,hset5,hat6,hset6,b1,b2,b3,b4,hslc,hg74,ih,hjl,hjg,hjn,CT,r3,p7,p8,v2,qA,hwv,hcut,hcl,hcm,hao,hgc2,vX,hcb,ED,DB])
end
section
variable {α:Type}{c:A0}{γ:Nat}{B:AA}{Q l0 γ0 N0:Nat}{Lv:Nat->Bool->α->List AA->Prop}{step:α->List Sp->α×Bool}{gs:List (Nat×Int)}{gl:V}{g3 g7 g8:Nat}
def atR(c:A0)(ws:List (Nat×Int))(g:Nat×Int)(o:List Sp)(r:Nat):List (List Sp):=(bj (c.beach.places-g.2+1).toNat).flatMap (jC c ws g o r)
theorem AEZ(c:A0)(ws:List (Nat×Int))(g:Nat×Int)(o:List Sp):FC c (AY c) (g::ws) o=(bj c.beach.rows.toNat).flatMap (atR c ws g o):=rfl
theorem A2S(hc:CJ c)(hO:AEX Q gs gl Lv)(hgl:gs.length<=9)(W k:Nat)(hk:k<gs.length)(hgk:gs[k].1<c.fams.length/\1<=gs[k].2/\gs[k].2<=4)(ws:List (Nat×Int))(hrec:ARK c γ B Q l0 γ0 Lv step gl g3 g7 g8 (W+1000) (k+1) ws)(o:List Sp)(hol:o.length=k)(ho:∀x∈o,vW c x)(Y:List AA)(hY:StY Q Y) :
  ∀(e r:Nat) (a:α) (L Lq:AA) (R:List AA) (l10:Option (Nat×Sp)) (cc:Nat),r+e=c.beach.rows.toNat->Lw c γ B L->Lv cc true a R->cP γ l0 γ0 (Q+1) g3 g7 g8 gl o cc Lq->γ+1<cc->γ0+1<cc ->
  ∃(fr0:Fr) (L':AA) (R':List AA) (Lq':AA) (o':List Sp) (l10':Option (Nat×Sp)) (c':Nat),
   Lw c γ B L'/\Lv c' (runG step a (((bj c.beach.rows.toNat).drop r).flatMap (atR c ws gs[k] o))).2 (runG step a (((bj c.beach.rows.toNat).drop r).flatMap (atR c ws gs[k] o))).1 R'/\cP γ l0 γ0 (Q+1) g3 g7 g8 gl o' c' Lq'/\((runG step a (((bj c.beach.rows.toNat).drop r).flatMap (atR c ws gs[k] o))).2=true->o'=o)/\cc<=c' /\
   ∀n m,e<m->BG (AE cd ann kn (n+W+1300) 76) X8 (ann 76 (BX X8)) m ⟨cc,[(0,true,i k),(1,true,.ref [gl]),(3,true,.ptr (Q+1) 7 g7 0),(4,true,.ref [.ptr 0 911 (γ+1) 0]),(5,true,.ptr (Q+1) 8 g8 0),(23,true,i c.beach.rows),(24,true,i r)],⟨L::(R++Lq::Y),KN l10⟩⟩ =
    if (runG step a (((bj c.beach.rows.toNat).drop r).flatMap (atR c ws gs[k] o))).2=true then some (.exit 0,⟨c',fr0,⟨L'::(R'++Lq'::Y),KN l10'⟩⟩) else some (.ret,⟨c',[(7,true,.bool false)],⟨L'::(R'++Lq'::Y),[]⟩⟩)
 |0,r,a,L,Lq,R,l10,cc,hd,hL,hLv,hLq,hc1,hc2=>by
  have hro:=hc.be.ro;have hrr:¬(r:Int)<c.beach.rows:=by omega
  rw[bg (by rw[bx];omega)];refine⟨?fr,L,R,Lq,o,l10,cc,hL,by simpa [runG]using hLv,hLq,fun _=>rfl,Nat.le_refl _,fun n m hm=>?g⟩;case g=>
   obtain⟨m,rfl⟩:=qNz m (by omega)
   rw[AC]
   cases l10<;>simp[runG,hrr,KN]
   all_goals rfl
 |e+1,r,a,L,Lq,R,l10,cc,hd,hL,hLv,hLq,hc1,hc2=>by
  have hro:=hc.be.ro;have hpl:=hc.be.pl;have hlt:(r:Int)<c.beach.rows:=by omega
  have hw:=BS (k:=r) (by omega);have hQ:=hO.ln _ _ _ _ hLv;have hgr:=hO.gr _ _ _ _ hLv;have w1:IntKind.i64.wrap (c.beach.places-gs[k].2)=c.beach.places-gs[k].2:=AW (by omega) (by omega);have w2:IntKind.i64.wrap (c.beach.places-gs[k].2+1)=c.beach.places-gs[k].2+1:=AW (by omega) (by omega);have hfl:((bj c.beach.rows.toNat).drop r).flatMap (atR c ws gs[k] o)=atR c ws gs[k] o r++((bj c.beach.rows.toNat).drop (r+1)).flatMap (atR c ws gs[k] o):=by rw[bw (by rw[bx];omega),cx,cw]
  have hgne:gs.map CT≠[]:=fun e0=>by have:=congrArg bf e0;simp at this;subst this;simp at hk
  have hsl:sl (gs.map CT)=.list false (gs.map CT):=by obtain⟨y,l,e0⟩:=bk hgne;rw[e0];rfl
  obtain⟨fr1,L1,R1,Lq1,o1,l11,c1,f0,f1,f3,f4,f5,f23,f24,j1,j2,j3,j4,j5,q7⟩:=AJJ hc hO hgl W k hk hgk ws hrec r hlt o hol ho Y hY (c.beach.places-gs[k].2+1) rfl (c.beach.places-gs[k].2+1).toNat 0 a L Lq R l10 cc (by omega) hL hLv hLq hc1 hc2;rw[ck,show(bj (c.beach.places-gs[k].2+1).toNat).flatMap (jC c ws gs[k] o r)=atR c ws gs[k] o r from rfl]at j2 j4 q7;have q7:=fun n=>q7 (n+192) (n+W+1292) (by omega);have e192:∀n,n+192+W+1100=n+W+1292:=fun n=>by omega
  simp only[e192]at q7;rw[hfl,IZ];have p1:=hL.p1;cases hG:(runG step a (atR c ws gs[k] o r)).2 with
  |false=>
   rw[if_neg (by simp)]
   rw[hG]at j2
   refine⟨[],L1,R1,Lq1,o1,none,c1,j1,by rw[hG];exact j2,j3,fun h=>absurd h (by rw[hG];decide),by omega,fun n m hm=>?_⟩
   obtain⟨m,rfl⟩:=qNz m (by omega)
   have q7:=q7 n
   rw[hG]at q7
   rw[if_neg (by rw[hG];decide),AC]
   simp only[D4,AF]at p1
   rcases hgr with rfl|⟨j,γg,Lj,rfl,hj,hjg⟩
   ·simp only[hsl]at q7|-;rcases l10 with _|⟨g1,x1⟩<;>(simp[KN]at q7;simp[hlt,hw,hk,hQ,p1,w1,w2,CT,ED,KN,q7])
   ·obtain⟨hjR,hjl,hjn⟩:=UU hQ hj;rcases l10 with _|⟨g1,x1⟩<;>(simp[KN]at q7;simp[hlt,hw,hk,hQ,p1,w1,w2,hjl,hjg,hjn,CT,ED,KN,q7])
  |true=>
   rw[if_pos rfl]
   obtain rfl:=j4 hG
   rw[hG]at j2
   obtain⟨fr0,L',R',Lq',o',l10',c',i1,i2,i3,i4,i5,ih⟩:=A2S hc hO hgl W k hk hgk ws hrec o1 hol ho Y hY e (r+1) _ L1 Lq1 R1 l11 c1 (by omega) j1 j2 j3 (by omega) (by omega)
   refine⟨fr0,L',R',Lq',o',l10',c',i1,i2,i3,i4,by omega,fun n m hm=>?_⟩
   obtain⟨m,rfl⟩:=qNz m (by omega)
   have ih:=ih n m (by omega)
   have q7:=q7 n
   rw[hG]at q7
   generalize (runG step (runG step a (atR c ws gs[k] o1 r)).1 (((bj c.beach.rows.toNat).drop (r+1)).flatMap (atR c ws gs[k] o1))).2=zz at ih|-
   rw[AC]
   simp only[D4,AF]at p1
   rcases hgr with rfl|⟨j,γg,Lj,rfl,hj,hjg⟩
   ·simp only[hsl]at q7 ih f1|-;rcases l10 with _|⟨g1,x1⟩<;>rcases l11 with _|⟨g2,x2⟩<;>(simp[KN]at q7 ih;simp[hlt,hw,hk,hQ,p1,w1,w2,CT,ED,KN,q7,f0,f1,f3,f4,f5,f23,f24,ih])
   ·obtain⟨hjR,hjl,hjn⟩:=UU hQ hj;rcases l10 with _|⟨g1,x1⟩<;>rcases l11 with _|⟨g2,x2⟩<;>(simp[KN]at q7 ih;simp[hlt,hw,hk,hQ,p1,w1,w2,hjl,hjg,hjn,CT,ED,KN,q7,f0,f1,f3,f4,f5,f23,f24,ih])
theorem kSt(hc:CJ c)(hO:AEX Q gs gl Lv)(hgl:gs.length<=9)(hgs:∀g∈gs,g.1<c.fams.length/\1<=g.2/\g.2<=4)(hs:AEW c γ B Q l0 γ0 N0 Lv step):∀(ws:List (Nat×Int)) (k:Nat),gs.drop k=ws->k<=gs.length->ARK c γ B Q l0 γ0 Lv step gl g3 g7 g8 (N0+400*ws.length+1000) k ws
 |[],k,hws,hkl=>by
  intro o hol ho a L Lq R Y cc dd fr hL hLv hLq hY hc1 hc2;have hkn:k=gs.length:=by have:=congrArg bf hws;simp at this;omega
  have hQ:=hO.ln _ _ _ _ hLv;have hR:=hO.st _ _ _ _ hLv;have hgr:=hO.gr _ _ _ _ hLv;obtain⟨v,p7,hv⟩:=hLq.p7;have p3:=hLq.p3;have hstR:HC (R++Lq::Y):=AEY (by rw[hQ];exact hR) (by rw[hQ];exact hLq.st) (by rw[hQ];exact hY);have hst0:HC (R++Lq::(Y++[[]])):=by have:=J3 hstR (loc:=[]) (fun _ _=>rfl);rwa [cz,bq]at this
  have hrun:runG step a [o]=step a o:=by
   simp only[runG];split
   ·rename_i h;rw[<-h]
   ·rename_i h;rw[<-eq_false_of_ne_true h]
  have hat5:∀(a:AA) (Z:List AA),(R++a::Z)[Q]? = some a:=fun a Z=>by rw[<-hQ];exact at5 R a Z
  have hwv:weakV v=v:=by rcases hv with⟨rfl,_⟩|⟨_,_,rfl,_⟩<;>rfl
  rw[show FC c (AY c) [] o=[o] from rfl,hrun];obtain⟨L',R',c',s1,s2,s3,s4⟩:=hs a L Lq R Y [] cc [(16,true,v),(15,true,.yld l0 BJ γ0),(2,true,.ptr (Q+1) 3 g3 0),(3,true,.ptr (Q+1) 7 g7 0)] o v hL hLv hc1 hc2 ho (by omega) hv hst0;refine⟨L',R',Lq,o,c',s1,s2,hLq.more s3,fun _=>rfl,s3,fun n=>?_⟩;have hQ2:=hO.ln _ _ _ _ s2;have hR2:=hO.st _ _ _ _ s2;have sR2:∀(A:AA) (lo:AA),R'.map (AJ ⟨A::(R'++Lq::Y),lo⟩)=R':=fun A lo=>hR2 _ (by simp;omega);have sY:∀(A:AA) (lo:AA),Y.map (AJ ⟨A::(R'++Lq::Y),lo⟩)=Y:=fun A lo=>hY _ (by simp;omega);have sQ:∀(A:AA) (lo:AA),AJ ⟨A::(R'++Lq::Y),lo⟩ Lq=Lq:=fun A lo=>hLq.st _ (by simp;omega);have sL:∀(A:AA) (lo:AA),AJ ⟨A::(R'++Lq::Y),lo⟩ L'=L':=fun A lo=>s1.st _ (by simp);have s4':=fun n=>s4 (n+994);simp only[Nat.add_right_comm _ 994 N0]at s4';have hne:¬Q=Q+Y.length+1:=by omega
  simp only[List.length_nil,Nat.mul_zero,Nat.add_zero];rw[hkn];rcases hgr with rfl|⟨j,γg,Lj,rfl,hj,hjg⟩
  ·cases gs with
   |nil=>
    simp[c78,AD,rX,hat5,hQ,p3,p7,hwv,s4',sR2,sY,sQ,sL,hne,<-bc]
    done
   |cons g gs=>
    simp[c78,AD,rY,hat5,hQ,p3,p7,hwv,s4',sR2,sY,sQ,sL,hne,<-bc]
    done
  ·obtain⟨hjR,hjl,hjn⟩:=UU hQ hj;simp[c78,AD,hjl,hjg,hjn,hat5,hQ,p3,p7,hwv,s4',sR2,sY,sQ,sL,hne,<-bc];done
 |g::ws,k,hws,hkl=>by
  intro o hol ho a L Lq R Y cc dd fr hL hLv hLq hY hc1 hc2;have hk:k<gs.length:=by have:=congrArg bf hws;simp at this;omega
  rw[bw hk]at hws;cases hws;have hgk:=hgs gs[k] (List.getElem_mem hk);have hQ:=hO.ln _ _ _ _ hLv;have hgr:=hO.gr _ _ _ _ hLv;have p1:=hL.p1;have hlen:(gs[k]::gs.drop (k+1)).length=(gs.drop (k+1)).length+1:=rfl;obtain⟨fr0,L',R',Lq',o',l10',c',i1,i2,i3,i4,i5,q4⟩:=A2S hc hO hgl (N0+400*(gs.drop (k+1)).length) k hk hgk (gs.drop (k+1)) (kSt hc hO hgl hgs hs (gs.drop (k+1)) (k+1) rfl (by omega)) o hol ho Y hY c.beach.rows.toNat 0 a L Lq R none cc (by omega) hL hLv hLq hc1 hc2;rw[ck,<-AEZ]at i2 i4 q4;refine⟨L',R',Lq',o',c',i1,i2,i3,i4,by omega,fun n=>?_⟩;have hQ2:=hO.ln _ _ _ _ i2;have hR2:=hO.st _ _ _ _ i2;have sR2:∀(A:AA) (lo:AA),R'.map (AJ ⟨A::(R'++Lq'::Y),lo⟩)=R':=fun A lo=>hR2 _ (by simp;omega);have sY:∀(A:AA) (lo:AA),Y.map (AJ ⟨A::(R'++Lq'::Y),lo⟩)=Y:=fun A lo=>hY _ (by simp;omega);have sQ:∀(A:AA) (lo:AA),AJ ⟨A::(R'++Lq'::Y),lo⟩ Lq'=Lq':=fun A lo=>i3.st _ (by simp;omega);have sL:∀(A:AA) (lo:AA),AJ ⟨A::(R'++Lq'::Y),lo⟩ L'=L':=fun A lo=>i1.st _ (by simp);rw[hlen,show n+(N0+400*((gs.drop (k+1)).length+1)+1000)=n+(N0+400*(gs.drop (k+1)).length)+1400 by omega];have hki:¬(k:Int)=(gs.length:Int):=by omega
  have hki2:¬k=gs.length:=by omega
  have hgne:gs.map CT≠[]:=fun e0=>by have:=congrArg bf e0;simp at this;subst this;simp at hk
  have hsl:sl (gs.map CT)=.list false (gs.map CT):=by obtain⟨y,l,e0⟩:=bk hgne;rw[e0];rfl
  have q4:=q4 (n+94) (n+(N0+400*(gs.drop (k+1)).length)+1394) (by have:=hc.be.ro;omega);rw[show n+94+(N0+400*(gs.drop (k+1)).length)+1300=n+(N0+400*(gs.drop (k+1)).length)+1394 by omega]at q4;generalize n+(N0+400*(gs.drop (k+1)).length)=n2 at q4|-;generalize (runG step a (FC c (AY c) (gs[k]::gs.drop (k+1)) o)).2=z at q4|-;simp only[D4,AF]at p1;rcases hgr with rfl|⟨j,γg,Lj,rfl,hj,hjg⟩
  ·simp only[hsl]at q4|-;cases z<;>(simp[KN]at q4;simp[c78,AD,hk,hki,hki2,hQ,p1,ED,KN,q4,sR2,sY,sQ,sL])
  ·obtain⟨hjR,hjl,hjn⟩:=UU hQ hj;cases z<;>(simp[KN]at q4;simp[c78,AD,hk,hki,hki2,hQ,p1,hjl,hjg,hjn,ED,KN,q4,sR2,sY,sQ,sL])
end
theorem iF{gs:List (Nat×Int)}{k:Nat}(hk:k<gs.length):DU (gs.take (k+1))=DU (gs.take k)+gs[k].2:=by unfold DU;rw[List.take_succ_eq_append_getElem hk,cj,List.sum_append];simp only[bn,List.map_nil,List.sum_cons,List.sum_nil,Int.add_zero]
theorem aX{gs:List (Nat×Int)}(h:∀g∈gs,1<=g.2/\g.2<=4):0<=DU gs/\DU gs<=gs.length*4:=fE (f:=fun g:Nat×Int=>g.2) (m:=4) fun g hg=>by have:=h g hg;omega
section
variable {α:Type}{c:A0}{γ:Nat}{B:AA}{Q l0 γ0 N0:Nat}{Lv:Nat->Bool->α->List AA->Prop}{step:α->List Sp->α×Bool}{gs:List (Nat×Int)}{gl:V}
theorem A2T(hgl:gs.length<=9)(hgs:∀g∈gs,1<=g.2/\g.2<=4)(L:AA)(R:List AA)(hQ:R.length=Q)(hgr:pC R gs gl)(g3:Nat)(B3:V):∀(d k cc:Nat),k+d=gs.length->g3<cc->∃fr,BQ fr 1=some (true,.ref [gl])/\BQ fr 2=some (true,.ref [.ptr 0 911 (γ+1) 0])/\BQ fr 3=some (true,.ptr (Q+1) 3 g3 0)/\BQ fr 4=some (true,i (DU gs)) /\
  ∀n m,d<m->BG (AE cd ann kn (n+400) 30) X9 (ann 30 (BX X9)) m ⟨cc,[(1,true,.ref [gl]),(2,true,.ref [.ptr 0 911 (γ+1) 0]),(3,true,.ptr (Q+1) 3 g3 0),(4,true,i (DU (gs.take k))),(9,true,gl),(10,true,i gs.length),(11,true,i k)],⟨L::R,[(3,g3,.box [B3])]⟩⟩ =
   some (.exit 0,⟨cc+d,fr,⟨L::R,[(3,g3,.box [B3])]⟩⟩)
 |0,k,cc,hd,hg=>by
  obtain rfl:k=gs.length:=by omega
  rw[List.take_length];refine⟨?fr,?g1,?g2,?g3,?g4,fun n m hm=>?g9⟩;case g9=>
   obtain⟨m,rfl⟩:=qNz m (by omega)
   rw[AC]
   simp
   rfl
  all_goals simp
 |d+1,k,cc,hd,hg=>by
  have hk:k<gs.length:=by omega
  have hw:=BS (k:=k) (by omega);have hb:=aX (gs:=gs.take k) fun g hg=>hgs g (bz hg);have hbl:(gs.take k).length<=9:=by rw[bh];omega
  have hgk:=hgs _ (List.getElem_mem hk);have w1:IntKind.i64.wrap (DU (gs.take k)+gs[k].2)=DU (gs.take k)+gs[k].2:=AW (by omega) (by omega);obtain⟨fr,e1,e2,e3,e4,ih⟩:=A2T hgl hgs L R hQ hgr g3 B3 d (k+1) (cc+1) (by omega) (by omega);refine⟨fr,e1,e2,e3,e4,fun n m hm=>?_⟩;obtain⟨m,rfl⟩:=qNz m (by omega);have ih:=ih n m (by omega);rw[iF hk,show cc+1+d=cc+(d+1) by omega]at ih;generalize DU (gs.take k)=PP at *;have hgne:gs.map CT≠[]:=fun e0=>by have:=congrArg bf e0;simp at this;subst this;simp at hk
  have hsl:sl (gs.map CT)=.list false (gs.map CT):=by obtain⟨y,l,e0⟩:=bk hgne;rw[e0];rfl
  rw[AC];rcases hgr with rfl|⟨j,γg,Lj,rfl,hj,hjg⟩
  ·simp only[hsl]at ih|-;simp at ih;simp[hk,hw,hQ,w1,CT,ED,A2,ih]
  ·obtain⟨hjR,hjl,hjn⟩:=UU hQ hj;have hjl0:=hjl [];rw[List.append_nil]at hjl0;have hjn0:¬j=Q:=by omega
   simp at ih;simp[hk,hw,hQ,w1,hjl0,hjg,hjn0,CT,ED,A2,ih]
theorem AJK{gs:List (Nat×Int)}(h:∀g∈gs,1<=g.2/\g.2<=4)(hl:gs.length<=9):0<=DU gs/\DU gs<=36:=by have:=aX h;omega
theorem sB(hc:CJ c)(hO:AEX Q gs gl Lv)(hgl:gs.length<=9)(hgs:∀g∈gs,g.1<c.fams.length/\1<=g.2/\g.2<=4)(hs:AEW c γ B Q l0 γ0 N0 Lv step)(a:α)(L:AA)(RS:List AA)(Ly:AA)(hL:Lw c γ B L)(hLv:Lv (γ0+1) true a (RS++[Ly]))(hγ:γ+1<γ0+1)(fr:Fr):∃L' R' c',Lw c γ B L'/\Lv c' (runG step a (fD c (AY c) gs)).2 (runG step a (fD c (AY c) gs)).1 R'/\γ0+1<=c' /\
  ∀n,GH (BH cd ann kn (n+N0+6000)) none ⟨γ0+1,fr,⟨L::RS,Ly⟩⟩ 76 [.yld l0 BJ γ0,.ref [gl],.ref [.ptr 0 911 (γ+1) 0]]=bF none fr c' (.tup []) (CM (L'::R')):=by
 have hQ:=hO.ln _ _ _ _ hLv
 have hR:=hO.st _ _ _ _ hLv
 have hgr:=hO.gr _ _ _ _ hLv
 have p1:=hL.p1
 have qch:=fun n=>tR n c (by have:=hc.ch;have:=hc.be.ro;omega) (fun l hl=>by have:=hc.cr l hl;have:=hc.be.pl;omega)
 have hpl:=AJK (fun g hg=>(hgs g hg).2) hgl
 have sL:=hL.st
 obtain⟨fr1,e1,e2,e3,e4,q3⟩:=A2T (γ:=γ) hgl (fun g hg=>(hgs g hg).2) L (RS++[Ly]) hQ hgr (γ0+1) (.yld l0 BJ γ0) gs.length 0 (γ0+2) (by omega) (by omega)
 have q3:=fun n m=>q3 n (m+100) (by omega)
 rw[List.take_zero,show DU []=0 from rfl]at q3
 by_cases hp:(GD c:Int)<DU gs
 ·have hall:fD c (AY c) gs=[]:=if_pos hp;rw[hall];refine⟨L,RS++[Ly],γ0+2+gs.length,hL,hO.mo _ _ _ _ _ hLv (by omega),by omega,fun n=>?_⟩;rw[A3 Tryz.func76 b76 rfl (by simp)];have hst:∀lo,List.map (AJ ⟨L::(RS++[Ly]),lo⟩) (RS++[Ly])=RS++[Ly]:=fun lo=>hR _ (by simp at hQ|-;omega);have hQ2:RS.length+1=Q:=by simpa using hQ
  generalize n+N0=n2;simp only[D4,AF]at p1 qch;simp only[bq];generalize hRR:RS++[Ly]=R at *;rcases hgr with rfl|⟨j,γg,Lj,rfl,hj,hjg⟩
  ·cases gs with
   |nil=>
    rw[show DU []=0 from rfl]at hp
    omega
   |cons g gs=>
    simp[rY]at q3
    simp[c76,AD,rY,hQ,p1,q3,e1,e2,e3,e4,qch,AS,BD,AU,hp,sL,hst,ED]
    done
  ·obtain⟨hjR,hjl,hjn⟩:=UU hQ hj;simp at q3;simp[c76,AD,hQ,p1,q3,e1,e2,e3,e4,qch,AS,BD,AU,hp,sL,hst,ED];done
 ·have hall:fD c (AY c) gs=FC c (AY c) gs []:=if_neg hp;rw[hall];have hQ2:RS.length+1=Q:=by simpa using hQ
  let Lq:AA:=[(3,γ0+1,.box [.yld l0 BJ γ0]),(7,γ0+2+gs.length,.box [.nil]),(8,γ0+2+gs.length+1,.box [.fn 78 [] [.ref [gl],.ptr (Q+1) 3 (γ0+1) 0,.ptr (Q+1) 7 (γ0+2+gs.length) 0,.ref [.ptr 0 911 (γ+1) 0],.ptr (Q+1) 8 (γ0+2+gs.length+1) 0]])];have hLq:cP γ l0 γ0 (Q+1) (γ0+1) (γ0+2+gs.length) (γ0+2+gs.length+1) gl [] (γ0+2+gs.length+2) Lq:=by
   refine⟨rfl,⟨.nil,rfl,.inl ⟨rfl,rfl⟩⟩,rfl,fun t ht=>?_,by omega⟩;have e0:¬Q+1=t.up.length:=by omega
   obtain⟨up,lo⟩:=t;simp only at e0;simp[Lq,e0]
  obtain⟨L',R',Lq',o',c',i1,i2,i3,i4,i5,qq⟩:=kSt hc hO hgl hgs hs gs 0 (ck ..) (Nat.zero_le _) [] rfl (fun x hx=>by cases hx) a L Lq (RS++[Ly]) [] (γ0+2+gs.length+2) 29 [(28,true,.fn 78 [] [.ref [gl],.ptr (Q+1) 3 (γ0+1) 0,.ptr (Q+1) 7 (γ0+2+gs.length) 0,.ref [.ptr 0 911 (γ+1) 0],.ptr (Q+1) 8 (γ0+2+gs.length+1) 0]),(8,true,.ptr (Q+1) 8 (γ0+2+gs.length+1) 0)] hL (hO.mo _ _ _ _ _ hLv (by omega)) hLq (fun _ _=>rfl) (by omega) (by omega);refine⟨L',R',c',i1,i2,by omega,fun n=>?_⟩;rw[A3 Tryz.func76 b76 rfl (by simp)];have hQ3:=hO.ln _ _ _ _ i2;have hR3:=hO.st _ _ _ _ i2;have qq:=qq (n+4992-400*gs.length);have hca:=A3 (A:=ann) (kn:=kn) (n:=n+N0+5992) Tryz.func78 b78 rfl (args:=[i ((0:Nat):Int),.ref [gl],.ptr (Q+1) 3 (γ0+1) 0,.ptr (Q+1) 7 (γ0+2+gs.length) 0,.ref [.ptr 0 911 (γ+1) 0],.ptr (Q+1) 8 (γ0+2+gs.length+1) 0]) (by simp) (some 29) (γ0+2+gs.length+2) [(28,true,.fn 78 [] [.ref [gl],.ptr (Q+1) 3 (γ0+1) 0,.ptr (Q+1) 7 (γ0+2+gs.length) 0,.ref [.ptr 0 911 (γ+1) 0],.ptr (Q+1) 8 (γ0+2+gs.length+1) 0]),(8,true,.ptr (Q+1) 8 (γ0+2+gs.length+1) 0)] (L::(RS++[Ly])) Lq;rw[show n+4992-400*gs.length+(N0+400*gs.length+1000)=n+N0+5992 by omega]at qq;have hun:CM (L'::(R'++Lq'::[]))=some (L'::R',Lq'):=by have:=C9 Lq' (L'::R');rwa [bq]at this
  rw[hun]at qq;have hca:=hca.trans qq;have sR3:∀lo,R'.map (AJ ⟨L'::R',lo⟩)=R':=fun lo=>hR3 _ (by simp;omega);have sL3:∀lo,AJ ⟨L'::R',lo⟩ L'=L':=fun lo=>i1.st _ (by simp);generalize n+N0=n2 at hca|-;generalize (runG step a (FC c (AY c) gs [])).2=z at *;simp only[D4,AF]at p1 qch;simp only[Lq]at hca;simp only[bq];generalize hRR:RS++[Ly]=R at *;have hpn:¬(GD c:Int)<DU gs:=hp;rcases hgr with rfl|⟨j,γg,Lj,rfl,hj,hjg⟩
  ·cases gs with
   |nil=>
    simp[rX]at q3 hca
    simp[c76,AD,rX,hQ,p1,q3,e1,e2,e3,e4,qch,AS,BD,AU,hpn,hca,sR3,sL3,ED,A2]
    done
   |cons g gs=>
    simp[rY]at q3 hca
    simp[c76,AD,rY,hQ,p1,q3,e1,e2,e3,e4,qch,AS,BD,AU,hpn,hca,sR3,sL3,ED,A2]
    done
  ·obtain⟨hjR,hjl,hjn⟩:=UU hQ hj;simp at q3 hca;simp[c76,AD,hQ,p1,q3,e1,e2,e3,e4,qch,AS,BD,AU,hpn,hca,sR3,sL3,ED,A2];done
end
end Go.Proofs.Tryz.Op
