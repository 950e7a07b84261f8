/- The levels of the walk through the allowed seatings, and how a group that sits down changes them. No condition. -/
import Derived.Test.YthhdhbalenanjaaGreatS4
open Go.Proofs.Tryz renaming prog->cd
open List renaming range->bj,exists_cons_of_ne_nil->bk,cons_append->bq,drop_eq_getElem_cons->bw,length_range->bx,mem_of_mem_take->bz,mem_singleton->bb,length->bf,drop_eq_nil_of_le->bg,length_take->bh,length_singleton->bm,map_cons->bn,mem_append->bp,map_append->cj,drop_zero->ck,length_append->cq,getElem_range->cw,flatMap_cons->cx,append_assoc->cz
open Nat renaming add_assoc->bc
set_option maxRecDepth 100000
set_option linter.unusedSimpArgs false
open Go Go.Pg Go.Proofs Go.Wind
namespace Go.Proofs.Tryz.Op
def tH(R:List AA)(gs:List (Nat×Int))(gl:V):Prop:=gl=sl (gs.map A4)\/∃j γg Lj,gl=.vec (j+1) 39 γg gs.length/\R[j]? = some Lj/\Lj.get 39=some (γg,.vec 151 (gs.map A4))
structure fY(γ l0 γ0 q g3 g7 g8:Nat)(gl:V)(o:List Sp)(cc:Nat)(L:AA):Prop where
 p3:L.get 3=some (g3,.box [.yld l0 BL γ0])
 p7:∃v,L.get 7=some (g7,.box [v])/\AC0 q L o v cc
 p8:L.get 8=some (g8,.box [.fn 168 [] [.ref [gl],.ptr q 3 g3 0,.ptr q 7 g7 0,.ref [.ptr 0 911 (γ+1) 0],.ptr q 8 g8 0]])
 st:∀s:St,q+1<=s.up.length->AJ s L=L
 b7:g7<cc
section
variable {γ l0 γ0 q g3 g7 g8:Nat}{gl:V}{o:List Sp}{cc:Nat}{L:AA}
theorem fY.more(h:fY γ l0 γ0 q g3 g7 g8 gl o cc L){c2:Nat}(hc:cc<=c2):fY γ l0 γ0 q g3 g7 g8 gl o c2 L:=by obtain⟨v,h1,h2⟩:=h.p7;exact⟨h.p3,⟨v,h1,h2.more hc⟩,h.p8,h.st,Nat.lt_of_lt_of_le h.b7 hc⟩
theorem jG(t:St)(T:TypeId)(es:List (List V))(h:∀e∈es,∃x:Sp,e=BB x):CV t (.vec T es)=.vec T es:=VQ fun e he v hv=>by obtain⟨x,rfl⟩:=h e he;simp only[BB,List.mem_cons,List.not_mem_nil,or_false]at hv;rcases hv with rfl|rfl|rfl|rfl<;>rfl
theorem fY.first(h:fY γ l0 γ0 q g3 g7 g8 gl [] cc L)(x:Sp):fY γ l0 γ0 q g3 g7 g8 gl [x] (cc+1) ((921,cc,.vec 153 [BB x])::(7,g7,.box [.vec q 921 cc 1])::JI 7 L) where
 p3:=by simpa using h.p3
 p7:=by
  refine⟨.vec q 921 cc 1,by simp,.inr ⟨cc,[BB x],rfl,by simp,by simp,fun k h1 h2=>?_,by simp[BB],by omega⟩⟩;have:k=0:=by simpa using h1
  subst this;rfl
 p8:=by simpa using h.p8
 st:=fun s hs=>by
  have e:¬q=s.up.length:=by omega
  rw[A8,A8,UI,h.st s hs,jG s _ _ fun e he=>⟨x,by simpa using he⟩];obtain⟨up,lo⟩:=s;simp only at e;simp[E8,e]
 b7:=Nat.lt_succ_of_lt h.b7
theorem fY.next(h:fY γ l0 γ0 q g3 g7 g8 gl o cc L)(x:Sp){es:List (List V)}(hes:es.take o.length=o.map BB):fY γ l0 γ0 q g3 g7 g8 gl (o++[x]) (cc+1) ((7,g7,.box [.vec q 921 cc (o.length+1)])::(921,cc,.vec 153 (es.take o.length++[BB x]))::L) where
 p3:=by simpa using h.p3
 p7:=by
  refine⟨.vec q 921 cc (o.length+1),by simp,.inr ⟨cc,es.take o.length++[BB x],by simp,by simp,by simp[hes],fun k h1 h2=>?_,fun e he=>?_,by omega⟩⟩
  ·have e:es.take o.length++[BB x]=(o++[x]).map BB:=by rw[hes];simp
   rw[List.getElem_of_eq e,List.getElem_map]
  ·rw[hes]at he;simp only[bp,List.mem_map,bb]at he;rcases he with⟨y,_,rfl⟩|rfl<;>rfl
 p8:=by simpa using h.p8
 st:=fun s hs=>by
  have e:¬q=s.up.length:=by omega
  rw[A8,A8,h.st s hs,jG s _ _ fun e he=>by
   rw[hes]at he;simp only[bp,List.mem_map,bb]at he;rcases he with⟨y,_,rfl⟩|rfl
   ·exact⟨y,rfl⟩
   ·exact⟨x,rfl⟩]
  obtain⟨up,lo⟩:=s;simp only at e;simp[E8,e]
 b7:=Nat.lt_succ_of_lt h.b7
theorem fY.back{x:Sp}(h:fY γ l0 γ0 q g3 g7 g8 gl (o++[x]) cc L):∃g es,L.get 7=some (g7,.box [.vec q 921 g (o.length+1)])/\L.get 921=some (g,.vec 153 es)/\o.length+1<=es.length/\(∀e∈es,e.length=4)/\fY γ l0 γ0 q g3 g7 g8 gl o cc ((7,g7,.box [.vec q 921 g o.length])::L):=by
 obtain⟨v,h1,h2⟩:=h.p7;rcases h2 with⟨_,h2⟩|⟨g,es,rfl,v2,v3,v4,v5,v6⟩
 ·simp at h2
 ·simp only[cq,bm]at v3 v4 h1;refine⟨g,es,h1,v2,v3,v5,by simpa using h.p3,⟨.vec q 921 g o.length,by simp,.inr ⟨g,es,rfl,by simpa using v2,by omega,fun k k1 k2=>?_,v5,v6⟩⟩,by simpa using h.p8,fun s hs=>?_,h.b7⟩
  ·rw[v4 k (by omega) k2,List.getElem_append_left k1]
  ·have e:¬q=s.up.length:=by omega
   rw[A8,h.st s hs];obtain⟨up,lo⟩:=s;simp only at e;simp[E8,e]
end
theorem ZH{n k l d:Nat}(f:Nat)(cs:List V):KQ n k l d (f+1) (.ref cs)=.ref cs:=rfl
theorem A7T(st:XS):LD [8004000922065] st=fS 65 (MT 4 st) 921 [7] st:=rfl
theorem zW(c:Nat)(fr:Fr)(up:List AA)(g:Nat)(r:A0):LD [8004000922065] ⟨c,fr,⟨up,[(10,g,r)]⟩⟩=⟨c,fr,⟨up,[(10,g,r)]⟩⟩:=by rw[A7T];rfl
theorem ARV(c γ g7 g10 g o:Nat)(T:TypeId)(es:List (List V))(cs:List V)(fr:Fr)(L Lq:AA)(R Y:List AA)(r7:A0)(h3:A3 fr 3=some (true,.ptr (R.length+1) 7 g o))(h7:Lq.get 7=some (g7,r7)) :
  LD [8004000922065] ⟨c,fr,⟨L::(R++Lq::Y),[(65,γ,.vec T es),(10,g10,.box cs)]⟩⟩=⟨c,yV (R.length+Y.length+2) 65 (R.length+1) 921 fr,⟨L::(R++((921,γ,SO (R.length+Y.length+2) 65 (R.length+1) 921 (.vec T es))::(7,g7,SO (R.length+Y.length+2) 65 (R.length+1) 921 r7)::JI 7 Lq)::Y),[(10,g10,SO (R.length+Y.length+2) 65 (R.length+1) 921 (.box cs))]⟩⟩:=by
 rw[A7T]
 have hl:(L::(R++Lq::Y)).length=R.length+Y.length+2:=by simp;omega
 have e1:MT 4 ⟨c,fr,⟨L::(R++Lq::Y),[(65,γ,.vec T es),(10,g10,.box cs)]⟩⟩=R.length+1:=by show(match A3 fr 3 with|some (true,.ptr l _ _ _)=>l|_=>0)=R.length+1;rw[h3]
 rw[e1]
 unfold fS
 have e3:SI (R.length+1) (R.length+(Y.length+2)) (some (γ,.vec T es))=true:=by
  have:Nat.blt (R.length+1) (R.length+(Y.length+2))=true:=by rw[Nat.blt_eq];omega
  simp[SI,eU,this]
 have ne:¬R.length+1=R.length+(Y.length+2):=by omega
 simp[yW,AA.get,mvU,h7,mQ,St.put,D7,ACZ,hl,bc,e3]
def AI1{α:Type}(c:AM)(γ:Nat)(B:AA)(Q l0 γ0 N0:Nat)(Lv:Nat->Bool->α->List AA->Prop)(step:α->List Sp->α×Bool):Prop :=
 ∀(a:α) (L Lq:AA) (R Y:List AA) (loc:AA) (cc:Nat) (fr:Fr) (o:List Sp) (v:V),Lw c γ B L->Lv cc true a R->γ+1<cc->γ0+1<cc->(∀x∈o,zV c x)->o.length<=10->AC0 (Q+1) Lq o v cc->HK (R++Lq::(Y++[loc])) ->
  ∃L' R' c',Lw c γ B L'/\Lv c' (step a o).2 (step a o).1 R'/\cc<=c'/\∀n,dJ (AE cd ann kn (n+N0)) l0 BL γ0 [v] ⟨cc,fr,⟨L::(R++Lq::Y),loc⟩⟩=some (.bool (step a o).2,⟨c',fr,⟨L'::(R'++Lq::Y),loc⟩⟩)
structure AI2{α:Type}(Q:Nat)(gs:List (Nat×Int))(gl:V)(Lv:Nat->Bool->α->List AA->Prop):Prop where
 mo:∀c c' g a R,Lv c g a R->c<=c'->Lv c' g a R
 ln:∀c g a R,Lv c g a R->R.length=Q
 st:∀c g a R,Lv c g a R->∀t:St,Q+1<=t.up.length->R.map (AJ t)=R
 gr:∀c g a R,Lv c g a R->tH R gs gl
def StY(Q:Nat)(Y:List AA):Prop:=∀t:St,Q+Y.length+2<=t.up.length->Y.map (AJ t)=Y
theorem AI3{R Y:List AA}{Lq:AA}(hR:∀t:St,R.length+1<=t.up.length->R.map (AJ t)=R)(hq:∀t:St,R.length+2<=t.up.length->AJ t Lq=Lq)(hY:StY R.length Y):HK (R++Lq::Y):=by
 intro t ht;have ht:R.length+Y.length+2<=t.up.length:=by simp at ht;omega
 rw[cj,bn,hR t (by omega),hq t (by omega),hY t ht]
theorem StY.more{Q:Nat}{Y:List AA}{l:AA}(h:StY Q Y)(hl:∀t:St,Q+Y.length+3<=t.up.length->AJ t l=l):StY Q (Y++[l]):=by intro t ht;simp only[cq,bm]at ht;rw[cj,h t (by omega),bn,List.map_nil,hl t (by omega)]
def MV:Option (Nat×Sp)->AA
 |none=>[]
 |some (g,x)=>[(10,g,.box (BB x))]
theorem XF{R:List AA}{Q j:Nat}{Lj:AA}(hQ:R.length=Q)(hj:R[j]? = some Lj):j<Q/\(∀Z:List AA,(R++Z)[j]? = some Lj)/\∀m:Nat,¬j=Q+m:=by have h:=(List.getElem?_eq_some_iff.1 hj).1;exact⟨by omega,fun Z=>by rw[List.getElem?_append_left h];exact hj,fun m=>by omega⟩
theorem BH2(L2:AA)(R2:List AA)(Lq2 l:AA)(Y:List AA):CO (L2::(R2++Lq2::(Y++[l])))=some (L2::(R2++Lq2::Y),l):=by
 have:L2::(R2++Lq2::(Y++[l]))=(L2::(R2++Lq2::Y))++[l]:=by simp
 rw[this,DG]
section
variable {α:Type}{c:AM}{γ:Nat}{B:AA}{Q l0 γ0 N0:Nat}{Lv:Nat->Bool->α->List AA->Prop}{step:α->List Sp->α×Bool}{gs:List (Nat×Int)}{gl:V}{g3 g7 g8:Nat}
def AV8(c:AM)(γ:Nat)(B:AA)(Q l0 γ0:Nat)(Lv:Nat->Bool->α->List AA->Prop)(step:α->List Sp->α×Bool)(gl:V)(g3 g7 g8 M k:Nat)(ws:List (Nat×Int)):Prop :=
 ∀(o:List Sp),o.length=k->(∀x∈o,zV c x)->∀(a:α) (L Lq:AA) (R Y:List AA) (cc dd:Nat) (fr:Fr),Lw c γ B L->Lv cc true a R->fY γ l0 γ0 (Q+1) g3 g7 g8 gl o cc Lq->StY Q Y->γ+1<cc->γ0+1<cc ->
  ∃L' R' Lq' o' c',Lw c γ B L'/\Lv c' (runG step a (EW c (AV c) ws o)).2 (runG step a (EW c (AV c) ws o)).1 R'/\fY γ l0 γ0 (Q+1) g3 g7 g8 gl o' c' Lq'/\((runG step a (EW c (AV c) ws o)).2=true->o'=o)/\cc<=c' /\
   ∀n,mD cd (some dd) fr Tryz.f168.results.toList (AE cd ann kn (n+M) 76 tJ ⟨cc,AF 0 [i k,.ref [gl],.ptr (Q+1) 3 g3 0,.ptr (Q+1) 7 g7 0,.ref [.ptr 0 911 (γ+1) 0],.ptr (Q+1) 8 g8 0],⟨L::(R++Lq::Y),[]⟩⟩)=eL (some dd) fr c' (.bool (runG step a (EW c (AV c) ws o)).2) (CO (L'::(R'++Lq'::Y)))
def mR(c:AM)(ws:List (Nat×Int))(g:Nat×Int)(o:List Sp)(r p:Nat):List (List Sp):=if ((BF c (AV c) ⟨g.1,g.2,(r:Int),(p:Int)⟩).enough&&o.all (HE c ⟨g.1,g.2,(r:Int),(p:Int)⟩))=true then EW c (AV c) ws (o++[⟨g.1,g.2,(r:Int),(p:Int)⟩]) else[]
set_option maxHeartbeats 4000000 in
theorem AON(hc:BQ c)(hO:AI2 Q gs gl Lv)(hgl:gs.length<=9)(W k:Nat)(hk:k<gs.length)(hgk:gs[k].1<c.fams.length/\1<=gs[k].2/\gs[k].2<=4)(ws:List (Nat×Int))(hrec:AV8 c γ B Q l0 γ0 Lv step gl g3 g7 g8 (W+1000) (k+1) ws)(r:Nat)(hr:(r:Int)<c.beach.rows)(o:List Sp)(hol:o.length=k)(ho:∀x∈o,zV c x)(Y:List AA)(hY:StY Q Y)(PP:Int)(hPP:PP=c.beach.places-gs[k].2+1) :
  ∀(e p:Nat) (a:α) (L Lq:AA) (R:List AA) (l10:Option (Nat×Sp)) (cc:Nat),p+e=PP.toNat->Lw c γ B L->Lv cc true a R->fY γ l0 γ0 (Q+1) g3 g7 g8 gl o cc Lq->γ+1<cc->γ0+1<cc ->
  ∃(fr0:Fr) (L':AA) (R':List AA) (Lq':AA) (o':List Sp) (l10':Option (Nat×Sp)) (c':Nat),A3 fr0 0=some (true,i k)/\A3 fr0 1=some (true,.ref [gl])/\A3 fr0 3=some (true,.ptr (Q+1) 7 g7 0)/\A3 fr0 4=some (true,.ref [.ptr 0 911 (γ+1) 0])/\A3 fr0 5=some (true,.ptr (Q+1) 8 g8 0)/\A3 fr0 23=some (true,i c.beach.rows)/\A3 fr0 24=some (true,i r) /\
   Lw c γ B L'/\Lv c' (runG step a (((bj PP.toNat).drop p).flatMap (mR c ws gs[k] o r))).2 (runG step a (((bj PP.toNat).drop p).flatMap (mR c ws gs[k] o r))).1 R'/\fY γ l0 γ0 (Q+1) g3 g7 g8 gl o' c' Lq'/\((runG step a (((bj PP.toNat).drop p).flatMap (mR c ws gs[k] o r))).2=true->o'=o)/\cc<=c' /\
   ∀n m,e<m->A9 (AE cd ann kn (n+W+1100) 76) UB (ann 76 (BV UB)) m ⟨cc,[(0,true,i k),(1,true,.ref [gl]),(3,true,.ptr (Q+1) 7 g7 0),(4,true,.ref [.ptr 0 911 (γ+1) 0]),(5,true,.ptr (Q+1) 8 g8 0),(8,true,i r),(23,true,i c.beach.rows),(24,true,i r),(39,true,i PP),(40,true,i p)],⟨L::(R++Lq::Y),MV l10⟩⟩ =
    if (runG step a (((bj PP.toNat).drop p).flatMap (mR c ws gs[k] o r))).2=true then some (.exit 2,⟨c',fr0,⟨L'::(R'++Lq'::Y),MV l10'⟩⟩) else some (.ret,⟨c',[(7,true,.bool false)],⟨L'::(R'++Lq'::Y),[]⟩⟩)
 |0,p,a,L,Lq,R,l10,cc,hd,hL,hLv,hLq,hc1,hc2=>by
  have hpl:=hc.be.pl;have hpp:¬(p:Int)<PP:=by omega
  rw[bg (by rw[bx];omega)];refine⟨?fr,L,R,Lq,o,l10,cc,?g1,?g2,?g3,?g4,?g5,?g6,?g7,hL,by simpa [runG]using hLv,hLq,fun _=>rfl,Nat.le_refl _,fun n m hm=>?g⟩;case g=>
   obtain⟨m,rfl⟩:=qNz m (by omega)
   rw[AB]
   cases l10<;>simp[runG,hpp,MV]
   all_goals rfl
  all_goals simp
 |e+1,p,a,L,Lq,R,l10,cc,hd,hL,hLv,hLq,hc1,hc2=>by
  have hlt:(p:Int)<PP:=by omega
  have hw:=BH (k:=p) (by have:=hc.be.pl;omega);have hwk:=BH (k:=k) (by omega);have hx:zV c ⟨gs[k].1,gs[k].2,(r:Int),(p:Int)⟩:=by refine⟨?_,hgk.1,by simp only;omega,by simp only;omega⟩;simp only[D9,Bool.and_eq_true,C6];omega
  have hQ:=hO.ln _ _ _ _ hLv;have hR:=hO.st _ _ _ _ hLv;have hgr:=hO.gr _ _ _ _ hLv;have hfl:((bj PP.toNat).drop p).flatMap (mR c ws gs[k] o r)=mR c ws gs[k] o r p++((bj PP.toNat).drop (p+1)).flatMap (mR c ws gs[k] o r):=by rw[bw (by rw[bx];omega),cx,cw]
  have hgne:gs.map A4≠[]:=fun e0=>by have:=congrArg bf e0;simp at this;subst this;simp at hk
  have hsl:sl (gs.map A4)=.list false (gs.map A4):=by obtain⟨y,l,e0⟩:=bk hgne;rw[e0];rfl
  rw[hfl];generalize hX:(⟨gs[k].1,gs[k].2,(r:Int),(p:Int)⟩:Sp)=x at hx;have hstR:∀Lq2,fY γ l0 γ0 (Q+1) g3 g7 g8 gl o cc Lq2->HK (R++Lq2::Y):=fun Lq2 h=>AI3 (by rw[hQ];exact hR) (by rw[hQ];exact h.st) (by rw[hQ];exact hY);have hst10:∀t:St,Q+Y.length+3<=t.up.length->AJ t [(10,cc,.box (BB x))]=[(10,cc,.box (BB x))]:=fun t _=>by simp[BB]
  have hst1:HK ((R++Lq::Y)++[[(10,cc,.box (BB x))]]):=KH (hstR Lq hLq) fun t ht=>by simp[BB]
  obtain⟨L1,c1,r1,r2,r3⟩:=AIX c hc γ B x hx L hL (R++Lq::Y) [(10,cc,.box (BB x))] hst1 (cc+1) (by omega);have hat5:∀(a:AA) (Z:List AA),(R++a::Z)[Q]? = some a:=fun a Z=>by rw[<-hQ];exact at5 R a Z
  have hset5:∀(a:AA) (Z:List AA) (f:AA->AA),(R++a::Z).modify Q f=R++f a::Z:=fun a Z f=>by rw[<-hQ];exact ACZ R a Z f
  have hxe:BB x=[i gs[k].1,i gs[k].2,i r,i p]:=by rw[<-hX];rfl
  cases hz:(BF c (AV c) x).enough with
  |false=>
   have hap:mR c ws gs[k] o r p=[]:=by unfold mR;rw[hX,hz];simp
   rw[hap,List.nil_append]
   obtain⟨fr0,L',R',Lq',o',l10',c',e0,e1,e3,e4,e5,e23,e24,i1,i2,i3,i4,i5,ih⟩:=AON hc hO hgl W k hk hgk ws hrec r hr o hol ho Y hY PP hPP e (p+1) a L1 Lq R (some (cc,x)) c1 (by omega) r1 (hO.mo _ _ _ _ _ hLv (by omega)) (hLq.more (by omega)) (by omega) (by omega)
   refine⟨fr0,L',R',Lq',o',l10',c',e0,e1,e3,e4,e5,e23,e24,i1,i2,i3,i4,by omega,fun n m hm=>?_⟩
   obtain⟨m,rfl⟩:=qNz m (by omega)
   have ih:=ih n m (by omega)
   generalize (runG step a (((bj PP.toNat).drop (p+1)).flatMap (mR c ws gs[k] o r))).2=z at ih|-
   generalize BF c (AV c) x=S at *
   obtain⟨S1,S2,S3⟩:=S
   simp only at hz
   subst hz
   rw[AB]
   simp only[MV,hxe,B9]at r3 ih|-
   rcases hgr with rfl|⟨j,γg,Lj,rfl,hj,hjg⟩
   ·simp only[hsl]at r3 ih|-;cases l10<;>(simp at ih r3;simp[hlt,hw,hk,hQ,A4,r3,ih])
   ·obtain⟨hjR,hjl,hjn⟩:=XF hQ hj;cases l10<;>(simp at ih r3;simp[hlt,hw,hk,hQ,hjl,hjg,hjn,A4,r3,ih])
  |true=>
  obtain⟨v,p7,hv⟩:=hLq.p7;have hstU:StU (L1::(R++Lq::Y)++[[(10,cc,.box (BB x))]]):=fun t ht=>by have:=hst1 t (by simp at ht|-;omega);rw[bq,bn,this,r1.st t (by simp at ht;omega)]
  obtain⟨c2,hc12,qA⟩:=AOM c hc γ B L1 r1 x hx o ho (by omega) R Lq Y v c1 (by rw[hQ];exact hv.more (by omega)) [(10,cc,.box (BB x))] cc rfl hstU;rw[hQ,show Q+Y.length+2=Q+(Y.length+1)+1 by omega]at qA;have hwv:weakV v=v:=by rcases hv with⟨rfl,_⟩|⟨_,_,rfl,_⟩<;>rfl
  cases hza:o.all (HE c x)with
  |false=>
   have hap:mR c ws gs[k] o r p=[]:=by unfold mR;rw[hX,hz,hza];simp
   rw[hap,List.nil_append]
   obtain⟨fr0,L',R',Lq',o',l10',c',e0,e1,e3,e4,e5,e23,e24,i1,i2,i3,i4,i5,ih⟩:=AON hc hO hgl W k hk hgk ws hrec r hr o hol ho Y hY PP hPP e (p+1) a L1 Lq R (some (cc,x)) c2 (by omega) r1 (hO.mo _ _ _ _ _ hLv (by omega)) (hLq.more (by omega)) (by omega) (by omega)
   refine⟨fr0,L',R',Lq',o',l10',c',e0,e1,e3,e4,e5,e23,e24,i1,i2,i3,i4,by omega,fun n m hm=>?_⟩
   obtain⟨m,rfl⟩:=qNz m (by omega)
   have ih:=ih n m (by omega)
   rw[hza]at qA
   generalize (runG step a (((bj PP.toNat).drop (p+1)).flatMap (mR c ws gs[k] o r))).2=z at ih|-
   generalize BF c (AV c) x=S at *
   obtain⟨S1,S2,S3⟩:=S
   simp only at hz
   subst hz
   rw[AB]
   simp only[MV,hxe,B9]at r3 ih qA|-
   rcases hgr with rfl|⟨j,γg,Lj,rfl,hj,hjg⟩
   ·simp only[hsl]at r3 ih|-;cases l10<;>(simp at ih r3;simp[hlt,hw,hk,hQ,A4,r3,p7,qA,hwv,ih])
   ·obtain⟨hjR,hjl,hjn⟩:=XF hQ hj;cases l10<;>(simp at ih r3;simp[hlt,hw,hk,hQ,hjl,hjg,hjn,A4,r3,p7,qA,hwv,ih])
  |true=>
  have hap:mR c ws gs[k] o r p=EW c (AV c) ws (o++[x]):=by unfold mR;rw[hX,hz,hza];simp
  rw[hap,I9];rw[hza]at qA;have hox:∀y∈o++[x],zV c y:=fun y hy=>by
   rcases bp.1 hy with hy|hy
   ·exact ho y hy
   ·rw[bb]at hy;subst hy;exact hx
  have happ:∀m,m<=100->BZ cd 153 m [BB x]=true:=fun m hm=>by rw[BT (by simp) (by simp)];have h4:(BB x).length=4:=rfl;simp[maxLen,h4];omega
  have hYx:StY Q (Y++[[(10,cc,.box (BB x))]]):=hY.more hst10;let FR:Fr:=[(68,true,i ((k:Int)+1)),(67,true,i k),(66,true,.fn 168 [] [.ref [gl],.ptr (Q+1) 3 g3 0,.ptr (Q+1) 7 g7 0,.ref [.ptr 0 911 (γ+1) 0],.ptr (Q+1) 8 g8 0]),(0,true,i k),(1,true,.ref [gl]),(3,true,.ptr (Q+1) 7 g7 0),(4,true,.ref [.ptr 0 911 (γ+1) 0]),(5,true,.ptr (Q+1) 8 g8 0),(8,true,i r),(23,true,i c.beach.rows),(24,true,i r),(39,true,i PP),(40,true,i p)];have hsit:∃Lq1,fY γ l0 γ0 (Q+1) g3 g7 g8 gl (o++[x]) (c2+1) Lq1/\(v=.nil/\Lq1=((921,c2,.vec 153 [BB x])::(7,g7,.box [.vec (Q+1) 921 c2 1])::JI 7 Lq)\/∃g es,v=.vec (Q+1) 921 g o.length/\Lq.get 921=some (g,.vec 153 es)/\o.length<=es.length/\(∀e∈es,e.length=4)/\Lq1=((7,g7,.box [.vec (Q+1) 921 c2 (o.length+1)])::(921,c2,.vec 153 (es.take o.length++[BB x]))::Lq)):=by
   rcases hv with⟨rfl,rfl⟩|⟨g,es,rfl,v2,v3,v4,v5,v6⟩
   ·exact⟨_,(hLq.more (by omega:cc<=c2)).first x,.inl ⟨rfl,rfl⟩⟩
   ·have hes:es.take o.length=o.map BB:=by
     apply List.ext_getElem (by simp;omega);intro m h1 h2;have hm:m<o.length:=by simpa using h2
     rw[List.getElem_take,List.getElem_map];exact v4 m hm (by omega)
    exact⟨_,(hLq.more (by omega:cc<=c2)).next x hes,.inr ⟨g,es,rfl,v2,v3,v5,rfl⟩⟩
  obtain⟨Lq1,hLq1,hsit⟩:=hsit;obtain⟨L2,R2,Lq2,o2,c4,s1,s2,s3,s4,s5,s6⟩:=hrec (o++[x]) (by simp[hol]) hox a L1 Lq1 R (Y++[[(10,cc,.box (BB x))]]) (c2+1) 69 FR r1 (hO.mo _ _ _ _ _ hLv (by omega)) hLq1 hYx (by omega) (by omega);have hca:=fun n=>BC (A:=ann) (kn:=kn) (n:=n+W+1089) Tryz.func168 b168 rfl (args:=[i ((k:Int)+1),.ref [gl],.ptr (Q+1) 3 g3 0,.ptr (Q+1) 7 g7 0,.ref [.ptr 0 911 (γ+1) 0],.ptr (Q+1) 8 g8 0]) (by simp) (some 69) (c2+1) FR (L1::(R++Lq1::Y)) [(10,cc,.box (BB x))];have s6':=fun n=>s6 (n+89);have e85:∀n,n+89+(W+1000)=n+W+1089:=fun n=>by omega
  simp only[e85]at s6';have hcb:=fun n=>by have h1:=hca n;rw[bq,cz,bq]at h1;exact h1.trans ((s6' n).trans (congrArg (eL (some 69) FR c4 _) (BH2 _ _ _ _ _)))
  have hgc2:g7<c2+1:=by have:=hLq.b7;omega
  cases hG:(runG step a (EW c (AV c) ws (o++[x]))).2 with
  |false=>
   rw[if_neg (by simp)]
   refine⟨[(0,true,i k),(1,true,.ref [gl]),(3,true,.ptr (Q+1) 7 g7 0),(4,true,.ref [.ptr 0 911 (γ+1) 0]),(5,true,.ptr (Q+1) 8 g8 0),(23,true,i c.beach.rows),(24,true,i r)],L2,R2,Lq2,o2,none,c4,by simp,by simp,by simp,by simp,by simp,by simp,by simp,s1,by rw[hG]at s2;rw[hG];exact s2,s3,fun h=>absurd h (by rw[hG];decide),by omega,fun n m hm=>?_⟩
   obtain⟨m,rfl⟩:=qNz m (by omega)
   have hcb:=hcb n
   rw[hG]at hcb
   rw[if_neg (by rw[hG];decide)]
   generalize BF c (AV c) x=S at *
   obtain⟨S1,S2,S3⟩:=S
   simp only at hz
   subst hz
   rw[AB]
   simp only[MV,hxe,B9,FR]at r3 qA hcb happ hsit|-
   have p8:=hLq.p8
   rcases hsit with⟨rfl,rfl⟩|⟨g,es,rfl,v2,v3,v5,rfl⟩
   ·have hgh:=fun c1 fr (h3:A3 fr 3=some (true,.ptr (Q+1) 7 g7 0))=>ARV c1 c2 g7 cc g7 0 153 [[i gs[k].1,i gs[k].2,i r,i p]] [i gs[k].1,i gs[k].2,i r,i p] fr L1 ((7,g7,.box [.vec (Q+(Y.length+1)+1) 65 c2 1])::Lq) R Y (.box [.vec (Q+(Y.length+1)+1) 65 c2 1]) (by rw[hQ];exact h3) rfl;rw[hQ,show Q+Y.length+2=Q+(Y.length+1)+1 by omega]at hgh;have ha0:=happ 0 (by omega);rcases hgr with rfl|⟨j,γg,Lj,rfl,hj,hjg⟩
    ·simp only[hsl]at r3 hcb p8|-;cases l10<;>(simp at hcb r3;simp[hlt,hwk,hk,hQ,hset5,A4,r3,p7,p8,qA,ha0,hgc2,MC,hgh,J7,P8,HJ,GR,MD,VM,ZH,hcb,D7])
    ·obtain⟨hjR,hjl,hjn⟩:=XF hQ hj;cases l10<;>(simp at hcb r3;simp[hlt,hwk,hk,hQ,hset5,hjl,hjg,hjn,A4,r3,p7,p8,qA,ha0,hgc2,MC,hgh,J7,P8,HJ,GR,MD,VM,ZH,hcb,D7])
   ·have hcut:bR o.length [[i gs[k].1,i gs[k].2,i r,i p]] es=es.take o.length:=if_pos (List.all_eq_true.2 fun e he=>by rw[v5 e he];rfl);have hcl:(es.take o.length).length=o.length:=by rw[bh];omega
    have hcm:=eq_true fun e (he:e∈es.take o.length)=>v5 e (bz he);have hao:=happ o.length (by omega);generalize es.take o.length=ET at *;rcases hgr with rfl|⟨j,γg,Lj,rfl,hj,hjg⟩
    ·simp only[hsl]at r3 hcb p8|-;cases l10<;>(simp at hcb r3;simp[hlt,hwk,hk,hQ,hset5,A4,r3,p7,p8,v2,qA,hwv,hcut,hcl,hcm,hao,hgc2,zW,hcb,D7])
    ·obtain⟨hjR,hjl,hjn⟩:=XF hQ hj;cases l10<;>(simp at hcb r3;simp[hlt,hwk,hk,hQ,hset5,hjl,hjg,hjn,A4,r3,p7,p8,v2,qA,hwv,hcut,hcl,hcm,hao,hgc2,zW,hcb,D7])
  |true=>
   rw[if_pos rfl]
   obtain rfl:=s4 hG
   rw[hG]at s2
   obtain⟨gb,eb,b1,b2,b3,b4,hLq3⟩:=s3.back
   have hQ2:=hO.ln _ _ _ _ s2
   have hslc:∀s:St,DB cd s 120 (.vec (Q+1) 921 gb (o.length+1)) none (some (i k)) none=some (.vec (Q+1) 921 gb o.length):=fun s=>by rw[<-hol];exact AC6 (e:=153) (by kernel_rfl) (by omega) (by simp)
   have hat6:∀(a:AA) (Z:List AA),(R2++a::Z)[Q]? = some a:=fun a Z=>by rw[<-hQ2];exact at5 R2 a Z
   have hset6:∀(a:AA) (Z:List AA) (f:AA->AA),(R2++a::Z).modify Q f=R2++f a::Z:=fun a Z f=>by rw[<-hQ2];exact ACZ R2 a Z f
   obtain⟨fr0,L',R',Lq',o',l10',c',e0,e1,e3,e4,e5,e23,e24,i1,i2,i3,i4,i5,ih⟩:=AON hc hO hgl W k hk hgk ws hrec r hr o hol ho Y hY PP hPP e (p+1) _ L2 _ R2 (some (cc,x)) c4 (by omega) s1 s2 hLq3 (by omega) (by omega)
   refine⟨fr0,L',R',Lq',o',l10',c',e0,e1,e3,e4,e5,e23,e24,i1,i2,i3,i4,by omega,fun n m hm=>?_⟩
   obtain⟨m,rfl⟩:=qNz m (by omega)
   have ih:=ih n m (by omega)
   have hcb:=hcb n
   rw[hG]at hcb
   generalize (runG step (runG step a (EW c (AV c) ws (o++[x]))).1 (((bj PP.toNat).drop (p+1)).flatMap (mR c ws gs[k] o r))).2=zz at ih|-
   have hg74:g7<c4:=by omega
   generalize BF c (AV c) x=S at *
   obtain⟨S1,S2,S3⟩:=S
   simp only at hz
   subst hz
   rw[AB]
   simp only[MV,hxe,B9,FR]at r3 qA hcb happ hsit ih|-
   have p8:=hLq.p8
   rcases hsit with⟨rfl,rfl⟩|⟨g,es,rfl,v2,v3,v5,rfl⟩
   ·have hgh:=fun c1 fr (h3:A3 fr 3=some (true,.ptr (Q+1) 7 g7 0))=>ARV c1 c2 g7 cc g7 0 153 [[i gs[k].1,i gs[k].2,i r,i p]] [i gs[k].1,i gs[k].2,i r,i p] fr L1 ((7,g7,.box [.vec (Q+(Y.length+1)+1) 65 c2 1])::Lq) R Y (.box [.vec (Q+(Y.length+1)+1) 65 c2 1]) (by rw[hQ];exact h3) rfl;rw[hQ,show Q+Y.length+2=Q+(Y.length+1)+1 by omega]at hgh;have ha0:=happ 0 (by omega);rcases hgr with rfl|⟨j,γg,Lj,rfl,hj,hjg⟩
    ·simp only[hsl]at r3 hcb p8 ih|-;cases l10<;>(simp at hcb r3 ih;simp[hlt,hw,hwk,hk,hQ,hQ2,hset5,hset6,b1,hslc,hg74,ih,A4,r3,p7,p8,qA,ha0,hgc2,MC,hgh,J7,P8,HJ,GR,MD,VM,ZH,hcb,D7])
    ·obtain⟨hjR,hjl,hjn⟩:=XF hQ hj;cases l10<;>(simp at hcb r3 ih;simp[hlt,hw,hwk,hk,hQ,hQ2,hset5,hset6,b1,hslc,hg74,ih,hjl,hjg,hjn,A4,r3,p7,p8,qA,ha0,hgc2,MC,hgh,J7,P8,HJ,GR,MD,VM,ZH,hcb,D7])
   ·have hcut:bR o.length [[i gs[k].1,i gs[k].2,i r,i p]] es=es.take o.length:=if_pos (List.all_eq_true.2 fun e he=>by rw[v5 e he];rfl);have hcl:(es.take o.length).length=o.length:=by rw[bh];omega
    have hcm:=eq_true fun e (he:e∈es.take o.length)=>v5 e (bz he);have hao:=happ o.length (by omega);generalize es.take o.length=ET at *;rcases hgr with rfl|⟨j,γg,Lj,rfl,hj,hjg⟩
    ·simp only[hsl]at r3 hcb p8 ih|-;cases l10<;>(simp at hcb r3 ih;simp[hlt,hw,hwk,hk,hQ,hQ2,hset5,hset6,b1,hslc,hg74,ih,A4,r3,p7,p8,v2,qA,hwv,hcut,hcl,hcm,hao,hgc2,zW,hcb,D7])
    ·obtain⟨hjR,hjl,hjn⟩:=XF hQ hj;cases l10<;>(simp at hcb r3 ih;simp[hlt,hw,hwk,hk,hQ,hQ2,hset5,hset6,b1,hslc,hg74,ih,hjl,hjg,hjn,A4,r3,p7,p8,v2,qA,hwv,hcut,hcl,hcm,hao,hgc2,zW,hcb,D7])
end
section
variable {α:Type}{c:AM}{γ:Nat}{B:AA}{Q l0 γ0 N0:Nat}{Lv:Nat->Bool->α->List AA->Prop}{step:α->List Sp->α×Bool}{gs:List (Nat×Int)}{gl:V}{g3 g7 g8:Nat}
def atR(c:AM)(ws:List (Nat×Int))(g:Nat×Int)(o:List Sp)(r:Nat):List (List Sp):=(bj (c.beach.places-g.2+1).toNat).flatMap (mR c ws g o r)
theorem AI4(c:AM)(ws:List (Nat×Int))(g:Nat×Int)(o:List Sp):EW c (AV c) (g::ws) o=(bj c.beach.rows.toNat).flatMap (atR c ws g o):=rfl
theorem A7U(hc:BQ c)(hO:AI2 Q gs gl Lv)(hgl:gs.length<=9)(W k:Nat)(hk:k<gs.length)(hgk:gs[k].1<c.fams.length/\1<=gs[k].2/\gs[k].2<=4)(ws:List (Nat×Int))(hrec:AV8 c γ B Q l0 γ0 Lv step gl g3 g7 g8 (W+1000) (k+1) ws)(o:List Sp)(hol:o.length=k)(ho:∀x∈o,zV c x)(Y:List AA)(hY:StY Q Y) :
  ∀(e r:Nat) (a:α) (L Lq:AA) (R:List AA) (l10:Option (Nat×Sp)) (cc:Nat),r+e=c.beach.rows.toNat->Lw c γ B L->Lv cc true a R->fY γ l0 γ0 (Q+1) g3 g7 g8 gl o cc Lq->γ+1<cc->γ0+1<cc ->
  ∃(fr0:Fr) (L':AA) (R':List AA) (Lq':AA) (o':List Sp) (l10':Option (Nat×Sp)) (c':Nat),
   Lw c γ B L'/\Lv c' (runG step a (((bj c.beach.rows.toNat).drop r).flatMap (atR c ws gs[k] o))).2 (runG step a (((bj c.beach.rows.toNat).drop r).flatMap (atR c ws gs[k] o))).1 R'/\fY γ l0 γ0 (Q+1) g3 g7 g8 gl o' c' Lq'/\((runG step a (((bj c.beach.rows.toNat).drop r).flatMap (atR c ws gs[k] o))).2=true->o'=o)/\cc<=c' /\
   ∀n m,e<m->A9 (AE cd ann kn (n+W+1300) 76) UC (ann 76 (BV UC)) m ⟨cc,[(0,true,i k),(1,true,.ref [gl]),(3,true,.ptr (Q+1) 7 g7 0),(4,true,.ref [.ptr 0 911 (γ+1) 0]),(5,true,.ptr (Q+1) 8 g8 0),(23,true,i c.beach.rows),(24,true,i r)],⟨L::(R++Lq::Y),MV l10⟩⟩ =
    if (runG step a (((bj c.beach.rows.toNat).drop r).flatMap (atR c ws gs[k] o))).2=true then some (.exit 0,⟨c',fr0,⟨L'::(R'++Lq'::Y),MV l10'⟩⟩) else some (.ret,⟨c',[(7,true,.bool false)],⟨L'::(R'++Lq'::Y),[]⟩⟩)
 |0,r,a,L,Lq,R,l10,cc,hd,hL,hLv,hLq,hc1,hc2=>by
  have hro:=hc.be.ro;have hrr:¬(r:Int)<c.beach.rows:=by omega
  rw[bg (by rw[bx];omega)];refine⟨?fr,L,R,Lq,o,l10,cc,hL,by simpa [runG]using hLv,hLq,fun _=>rfl,Nat.le_refl _,fun n m hm=>?g⟩;case g=>
   obtain⟨m,rfl⟩:=qNz m (by omega)
   rw[AB]
   cases l10<;>simp[runG,hrr,MV]
   all_goals rfl
 |e+1,r,a,L,Lq,R,l10,cc,hd,hL,hLv,hLq,hc1,hc2=>by
  have hro:=hc.be.ro;have hpl:=hc.be.pl;have hlt:(r:Int)<c.beach.rows:=by omega
  have hw:=BH (k:=r) (by omega);have hQ:=hO.ln _ _ _ _ hLv;have hgr:=hO.gr _ _ _ _ hLv;have w1:IntKind.i64.wrap (c.beach.places-gs[k].2)=c.beach.places-gs[k].2:=AX (by omega) (by omega);have w2:IntKind.i64.wrap (c.beach.places-gs[k].2+1)=c.beach.places-gs[k].2+1:=AX (by omega) (by omega);have hfl:((bj c.beach.rows.toNat).drop r).flatMap (atR c ws gs[k] o)=atR c ws gs[k] o r++((bj c.beach.rows.toNat).drop (r+1)).flatMap (atR c ws gs[k] o):=by rw[bw (by rw[bx];omega),cx,cw]
  have hgne:gs.map A4≠[]:=fun e0=>by have:=congrArg bf e0;simp at this;subst this;simp at hk
  have hsl:sl (gs.map A4)=.list false (gs.map A4):=by obtain⟨y,l,e0⟩:=bk hgne;rw[e0];rfl
  obtain⟨fr1,L1,R1,Lq1,o1,l11,c1,f0,f1,f3,f4,f5,f23,f24,j1,j2,j3,j4,j5,q7⟩:=AON hc hO hgl W k hk hgk ws hrec r hlt o hol ho Y hY (c.beach.places-gs[k].2+1) rfl (c.beach.places-gs[k].2+1).toNat 0 a L Lq R l10 cc (by omega) hL hLv hLq hc1 hc2;rw[ck,show(bj (c.beach.places-gs[k].2+1).toNat).flatMap (mR c ws gs[k] o r)=atR c ws gs[k] o r from rfl]at j2 j4 q7;have q7:=fun n=>q7 (n+192) (n+W+1292) (by omega);have e192:∀n,n+192+W+1100=n+W+1292:=fun n=>by omega
  simp only[e192]at q7;rw[hfl,I9];have p1:=hL.p1;cases hG:(runG step a (atR c ws gs[k] o r)).2 with
  |false=>
   rw[if_neg (by simp)]
   rw[hG]at j2
   refine⟨[],L1,R1,Lq1,o1,none,c1,j1,by rw[hG];exact j2,j3,fun h=>absurd h (by rw[hG];decide),by omega,fun n m hm=>?_⟩
   obtain⟨m,rfl⟩:=qNz m (by omega)
   have q7:=q7 n
   rw[hG]at q7
   rw[if_neg (by rw[hG];decide),AB]
   simp only[CQ,AD]at p1
   rcases hgr with rfl|⟨j,γg,Lj,rfl,hj,hjg⟩
   ·simp only[hsl]at q7|-;rcases l10 with _|⟨g1,x1⟩<;>(simp[MV]at q7;simp[hlt,hk,hQ,p1,w1,w2,A4,MV,q7])
   ·obtain⟨hjR,hjl,hjn⟩:=XF hQ hj;rcases l10 with _|⟨g1,x1⟩<;>(simp[MV]at q7;simp[hlt,hk,hQ,p1,w1,w2,hjl,hjg,hjn,A4,MV,q7])
  |true=>
   rw[if_pos rfl]
   obtain rfl:=j4 hG
   rw[hG]at j2
   obtain⟨fr0,L',R',Lq',o',l10',c',i1,i2,i3,i4,i5,ih⟩:=A7U hc hO hgl W k hk hgk ws hrec o1 hol ho Y hY e (r+1) _ L1 Lq1 R1 l11 c1 (by omega) j1 j2 j3 (by omega) (by omega)
   refine⟨fr0,L',R',Lq',o',l10',c',i1,i2,i3,i4,by omega,fun n m hm=>?_⟩
   obtain⟨m,rfl⟩:=qNz m (by omega)
   have ih:=ih n m (by omega)
   have q7:=q7 n
   rw[hG]at q7
   generalize (runG step (runG step a (atR c ws gs[k] o1 r)).1 (((bj c.beach.rows.toNat).drop (r+1)).flatMap (atR c ws gs[k] o1))).2=zz at ih|-
   rw[AB]
   simp only[CQ,AD]at p1
   rcases hgr with rfl|⟨j,γg,Lj,rfl,hj,hjg⟩
   ·simp only[hsl]at q7 ih f1|-;rcases l10 with _|⟨g1,x1⟩<;>rcases l11 with _|⟨g2,x2⟩<;>(simp[MV]at q7 ih;simp[hlt,hw,hk,hQ,p1,w1,w2,A4,MV,q7,f0,f1,f3,f4,f5,f23,f24,ih])
   ·obtain⟨hjR,hjl,hjn⟩:=XF hQ hj;rcases l10 with _|⟨g1,x1⟩<;>rcases l11 with _|⟨g2,x2⟩<;>(simp[MV]at q7 ih;simp[hlt,hw,hk,hQ,p1,w1,w2,hjl,hjg,hjn,A4,MV,q7,f0,f1,f3,f4,f5,f23,f24,ih])
theorem kSt(hc:BQ c)(hO:AI2 Q gs gl Lv)(hgl:gs.length<=9)(hgs:∀g∈gs,g.1<c.fams.length/\1<=g.2/\g.2<=4)(hs:AI1 c γ B Q l0 γ0 N0 Lv step):∀(ws:List (Nat×Int)) (k:Nat),gs.drop k=ws->k<=gs.length->AV8 c γ B Q l0 γ0 Lv step gl g3 g7 g8 (N0+400*ws.length+1000) k ws
 |[],k,hws,hkl=>by
  intro o hol ho a L Lq R Y cc dd fr hL hLv hLq hY hc1 hc2;have hkn:k=gs.length:=by have:=congrArg bf hws;simp at this;omega
  have hQ:=hO.ln _ _ _ _ hLv;have hR:=hO.st _ _ _ _ hLv;have hgr:=hO.gr _ _ _ _ hLv;obtain⟨v,p7,hv⟩:=hLq.p7;have p3:=hLq.p3;have hstR:HK (R++Lq::Y):=AI3 (by rw[hQ];exact hR) (by rw[hQ];exact hLq.st) (by rw[hQ];exact hY);have hst0:HK (R++Lq::(Y++[[]])):=by have:=KH hstR (loc:=[]) (fun _ _=>rfl);rwa [cz,bq]at this
  have hrun:runG step a [o]=step a o:=by
   simp only[runG];split
   ·rename_i h;rw[<-h]
   ·rename_i h;rw[<-eq_false_of_ne_true h]
  have hat5:∀(a:AA) (Z:List AA),(R++a::Z)[Q]? = some a:=fun a Z=>by rw[<-hQ];exact at5 R a Z
  have hwv:weakV v=v:=by rcases hv with⟨rfl,_⟩|⟨_,_,rfl,_⟩<;>rfl
  rw[show EW c (AV c) [] o=[o] from rfl,hrun];obtain⟨L',R',c',s1,s2,s3,s4⟩:=hs a L Lq R Y [] cc [(16,true,v),(15,true,.yld l0 BL γ0),(2,true,.ptr (Q+1) 3 g3 0),(3,true,.ptr (Q+1) 7 g7 0)] o v hL hLv hc1 hc2 ho (by omega) hv hst0;refine⟨L',R',Lq,o,c',s1,s2,hLq.more s3,fun _=>rfl,s3,fun n=>?_⟩;have hQ2:=hO.ln _ _ _ _ s2;have hR2:=hO.st _ _ _ _ s2;have sR2:∀(A:AA) (lo:AA),R'.map (AJ ⟨A::(R'++Lq::Y),lo⟩)=R':=fun A lo=>hR2 _ (by simp;omega);have sY:∀(A:AA) (lo:AA),Y.map (AJ ⟨A::(R'++Lq::Y),lo⟩)=Y:=fun A lo=>hY _ (by simp;omega);have sQ:∀(A:AA) (lo:AA),AJ ⟨A::(R'++Lq::Y),lo⟩ Lq=Lq:=fun A lo=>hLq.st _ (by simp;omega);have sL:∀(A:AA) (lo:AA),AJ ⟨A::(R'++Lq::Y),lo⟩ L'=L':=fun A lo=>s1.st _ (by simp);have s4':=fun n=>s4 (n+994);simp only[Nat.add_right_comm _ 994 N0]at s4';have hne:¬Q=Q+Y.length+1:=by omega
  simp only[List.length_nil,Nat.mul_zero,Nat.add_zero];rw[hkn];rcases hgr with rfl|⟨j,γg,Lj,rfl,hj,hjg⟩
  ·cases gs with
   |nil=>
    simp[tJ,AF,AIS,hat5,hQ,p3,p7,s4',sR2,sY,sQ,sL,hne,<-bc]
    done
   |cons g gs=>
    simp[tJ,AF,vT,hat5,hQ,p3,p7,s4',sR2,sY,sQ,sL,hne,<-bc]
    done
  ·obtain⟨hjR,hjl,hjn⟩:=XF hQ hj;simp[tJ,AF,hat5,hQ,p3,p7,s4',sR2,sY,sQ,sL,hne,<-bc];done
 |g::ws,k,hws,hkl=>by
  intro o hol ho a L Lq R Y cc dd fr hL hLv hLq hY hc1 hc2;have hk:k<gs.length:=by have:=congrArg bf hws;simp at this;omega
  rw[bw hk]at hws;cases hws;have hgk:=hgs gs[k] (List.getElem_mem hk);have hQ:=hO.ln _ _ _ _ hLv;have hgr:=hO.gr _ _ _ _ hLv;have p1:=hL.p1;have hlen:(gs[k]::gs.drop (k+1)).length=(gs.drop (k+1)).length+1:=rfl;obtain⟨fr0,L',R',Lq',o',l10',c',i1,i2,i3,i4,i5,q4⟩:=A7U hc hO hgl (N0+400*(gs.drop (k+1)).length) k hk hgk (gs.drop (k+1)) (kSt hc hO hgl hgs hs (gs.drop (k+1)) (k+1) rfl (by omega)) o hol ho Y hY c.beach.rows.toNat 0 a L Lq R none cc (by omega) hL hLv hLq hc1 hc2;rw[ck,<-AI4]at i2 i4 q4;refine⟨L',R',Lq',o',c',i1,i2,i3,i4,by omega,fun n=>?_⟩;have hQ2:=hO.ln _ _ _ _ i2;have hR2:=hO.st _ _ _ _ i2;have sR2:∀(A:AA) (lo:AA),R'.map (AJ ⟨A::(R'++Lq'::Y),lo⟩)=R':=fun A lo=>hR2 _ (by simp;omega);have sY:∀(A:AA) (lo:AA),Y.map (AJ ⟨A::(R'++Lq'::Y),lo⟩)=Y:=fun A lo=>hY _ (by simp;omega);have sQ:∀(A:AA) (lo:AA),AJ ⟨A::(R'++Lq'::Y),lo⟩ Lq'=Lq':=fun A lo=>i3.st _ (by simp;omega);have sL:∀(A:AA) (lo:AA),AJ ⟨A::(R'++Lq'::Y),lo⟩ L'=L':=fun A lo=>i1.st _ (by simp);rw[hlen,show n+(N0+400*((gs.drop (k+1)).length+1)+1000)=n+(N0+400*(gs.drop (k+1)).length)+1400 by omega];have hki:¬(k:Int)=(gs.length:Int):=by omega
  have hki2:¬k=gs.length:=by omega
  have hgne:gs.map A4≠[]:=fun e0=>by have:=congrArg bf e0;simp at this;subst this;simp at hk
  have hsl:sl (gs.map A4)=.list false (gs.map A4):=by obtain⟨y,l,e0⟩:=bk hgne;rw[e0];rfl
  have q4:=q4 (n+94) (n+(N0+400*(gs.drop (k+1)).length)+1394) (by have:=hc.be.ro;omega);rw[show n+94+(N0+400*(gs.drop (k+1)).length)+1300=n+(N0+400*(gs.drop (k+1)).length)+1394 by omega]at q4;generalize n+(N0+400*(gs.drop (k+1)).length)=n2 at q4|-;generalize (runG step a (EW c (AV c) (gs[k]::gs.drop (k+1)) o)).2=z at q4|-;simp only[CQ,AD]at p1;rcases hgr with rfl|⟨j,γg,Lj,rfl,hj,hjg⟩
  ·simp only[hsl]at q4|-;cases z<;>(simp[MV]at q4;simp[tJ,AF,hki,hQ,p1,q4,sR2,sY,sQ,sL])
  ·obtain⟨hjR,hjl,hjn⟩:=XF hQ hj;cases z<;>(simp[MV]at q4;simp[tJ,AF,hki,hQ,p1,q4,sR2,sY,sQ,sL])
end
theorem lW{gs:List (Nat×Int)}{k:Nat}(hk:k<gs.length):D1 (gs.take (k+1))=D1 (gs.take k)+gs[k].2:=by unfold D1;rw[List.take_succ_eq_append_getElem hk,cj,List.sum_append];simp only[bn,List.map_nil,List.sum_cons,List.sum_nil,Int.add_zero]
theorem eE{gs:List (Nat×Int)}(h:∀g∈gs,1<=g.2/\g.2<=4):0<=D1 gs/\D1 gs<=gs.length*4:=jR (f:=fun g:Nat×Int=>g.2) (m:=4) fun g hg=>by have:=h g hg;omega
section
variable {α:Type}{c:AM}{γ:Nat}{B:AA}{Q l0 γ0 N0:Nat}{Lv:Nat->Bool->α->List AA->Prop}{step:α->List Sp->α×Bool}{gs:List (Nat×Int)}{gl:V}
theorem A7V(hgl:gs.length<=9)(hgs:∀g∈gs,1<=g.2/\g.2<=4)(L:AA)(R:List AA)(hQ:R.length=Q)(hgr:tH R gs gl)(g3:Nat)(B3:V):∀(d k cc:Nat),k+d=gs.length->g3<cc->∃fr,A3 fr 1=some (true,.ref [gl])/\A3 fr 2=some (true,.ref [.ptr 0 911 (γ+1) 0])/\A3 fr 3=some (true,.ptr (Q+1) 3 g3 0)/\A3 fr 4=some (true,i (D1 gs)) /\
  ∀n m,d<m->A9 (AE cd ann kn (n+400) 30) UD (ann 30 (BV UD)) m ⟨cc,[(1,true,.ref [gl]),(2,true,.ref [.ptr 0 911 (γ+1) 0]),(3,true,.ptr (Q+1) 3 g3 0),(4,true,i (D1 (gs.take k))),(9,true,gl),(10,true,i gs.length),(11,true,i k)],⟨L::R,[(3,g3,.box [B3])]⟩⟩ =
   some (.exit 0,⟨cc+d,fr,⟨L::R,[(3,g3,.box [B3])]⟩⟩)
 |0,k,cc,hd,hg=>by
  obtain rfl:k=gs.length:=by omega
  rw[List.take_length];refine⟨?fr,?g1,?g2,?g3,?g4,fun n m hm=>?g9⟩;case g9=>
   obtain⟨m,rfl⟩:=qNz m (by omega)
   rw[AB]
   simp
   rfl
  all_goals simp
 |d+1,k,cc,hd,hg=>by
  have hk:k<gs.length:=by omega
  have hw:=BH (k:=k) (by omega);have hb:=eE (gs:=gs.take k) fun g hg=>hgs g (bz hg);have hbl:(gs.take k).length<=9:=by rw[bh];omega
  have hgk:=hgs _ (List.getElem_mem hk);have w1:IntKind.i64.wrap (D1 (gs.take k)+gs[k].2)=D1 (gs.take k)+gs[k].2:=AX (by omega) (by omega);obtain⟨fr,e1,e2,e3,e4,ih⟩:=A7V hgl hgs L R hQ hgr g3 B3 d (k+1) (cc+1) (by omega) (by omega);refine⟨fr,e1,e2,e3,e4,fun n m hm=>?_⟩;obtain⟨m,rfl⟩:=qNz m (by omega);have ih:=ih n m (by omega);rw[lW hk,show cc+1+d=cc+(d+1) by omega]at ih;generalize D1 (gs.take k)=PP at *;have hgne:gs.map A4≠[]:=fun e0=>by have:=congrArg bf e0;simp at this;subst this;simp at hk
  have hsl:sl (gs.map A4)=.list false (gs.map A4):=by obtain⟨y,l,e0⟩:=bk hgne;rw[e0];rfl
  rw[AB];rcases hgr with rfl|⟨j,γg,Lj,rfl,hj,hjg⟩
  ·simp only[hsl]at ih|-;simp at ih;simp[hk,hw,hQ,w1,A4,ih]
  ·obtain⟨hjR,hjl,hjn⟩:=XF hQ hj;have hjl0:=hjl [];rw[List.append_nil]at hjl0;have hjn0:¬j=Q:=by omega
   simp at ih;simp[hk,hw,hQ,w1,hjl0,hjg,hjn0,A4,ih]
theorem AOO{gs:List (Nat×Int)}(h:∀g∈gs,1<=g.2/\g.2<=4)(hl:gs.length<=9):0<=D1 gs/\D1 gs<=36:=by have:=eE h;omega
theorem vW(hc:BQ c)(hO:AI2 Q gs gl Lv)(hgl:gs.length<=9)(hgs:∀g∈gs,g.1<c.fams.length/\1<=g.2/\g.2<=4)(hs:AI1 c γ B Q l0 γ0 N0 Lv step)(a:α)(L:AA)(RS:List AA)(Ly:AA)(hL:Lw c γ B L)(hLv:Lv (γ0+1) true a (RS++[Ly]))(hγ:γ+1<γ0+1)(fr:Fr):∃L' R' c',Lw c γ B L'/\Lv c' (runG step a (YP c (AV c) gs)).2 (runG step a (YP c (AV c) gs)).1 R'/\γ0+1<=c' /\
  ∀n,H9 (BS cd ann kn (n+N0+6000)) none ⟨γ0+1,fr,⟨L::RS,Ly⟩⟩ 167 [.yld l0 BL γ0,.ref [gl],.ref [.ptr 0 911 (γ+1) 0]]=eL none fr c' (.tup []) (CO (L'::R')):=by
 have hQ:=hO.ln _ _ _ _ hLv
 have hR:=hO.st _ _ _ _ hLv
 have hgr:=hO.gr _ _ _ _ hLv
 have p1:=hL.p1
 have qch:=fun n=>AKY n c (by have:=hc.ch;have:=hc.be.ro;omega) (fun l hl=>by have:=hc.cr l hl;have:=hc.be.pl;omega)
 have hpl:=AOO (fun g hg=>(hgs g hg).2) hgl
 have sL:=hL.st
 obtain⟨fr1,e1,e2,e3,e4,q3⟩:=A7V (γ:=γ) hgl (fun g hg=>(hgs g hg).2) L (RS++[Ly]) hQ hgr (γ0+1) (.yld l0 BL γ0) gs.length 0 (γ0+2) (by omega) (by omega)
 have q3:=fun n m=>q3 n (m+100) (by omega)
 rw[List.take_zero,show D1 []=0 from rfl]at q3
 by_cases hp:(CZ c:Int)<D1 gs
 ·have hall:YP c (AV c) gs=[]:=if_pos hp;rw[hall];refine⟨L,RS++[Ly],γ0+2+gs.length,hL,hO.mo _ _ _ _ _ hLv (by omega),by omega,fun n=>?_⟩;rw[BC Tryz.func167 b167 rfl (by simp)];have hst:∀lo,List.map (AJ ⟨L::(RS++[Ly]),lo⟩) (RS++[Ly])=RS++[Ly]:=fun lo=>hR _ (by simp at hQ|-;omega);have hQ2:RS.length+1=Q:=by simpa using hQ
  generalize n+N0=n2;simp only[CQ,AD]at p1 qch;simp only[bq];generalize hRR:RS++[Ly]=R at *;rcases hgr with rfl|⟨j,γg,Lj,rfl,hj,hjg⟩
  ·cases gs with
   |nil=>
    rw[show D1 []=0 from rfl]at hp
    omega
   |cons g gs=>
    simp[vT]at q3
    simp[ABK,AF,vT,hQ,p1,q3,e1,e2,e3,e4,qch,AR,A7,AS,hp,sL,hst]
    done
  ·obtain⟨hjR,hjl,hjn⟩:=XF hQ hj;simp at q3;simp[ABK,AF,hQ,p1,q3,e1,e2,e3,e4,qch,AR,A7,AS,hp,sL,hst];done
 ·have hall:YP c (AV c) gs=EW c (AV c) gs []:=if_neg hp;rw[hall];have hQ2:RS.length+1=Q:=by simpa using hQ
  let Lq:AA:=[(3,γ0+1,.box [.yld l0 BL γ0]),(7,γ0+2+gs.length,.box [.nil]),(8,γ0+2+gs.length+1,.box [.fn 168 [] [.ref [gl],.ptr (Q+1) 3 (γ0+1) 0,.ptr (Q+1) 7 (γ0+2+gs.length) 0,.ref [.ptr 0 911 (γ+1) 0],.ptr (Q+1) 8 (γ0+2+gs.length+1) 0]])];have hLq:fY γ l0 γ0 (Q+1) (γ0+1) (γ0+2+gs.length) (γ0+2+gs.length+1) gl [] (γ0+2+gs.length+2) Lq:=by
   refine⟨rfl,⟨.nil,rfl,.inl ⟨rfl,rfl⟩⟩,rfl,fun t ht=>?_,by omega⟩;have e0:¬Q+1=t.up.length:=by omega
   obtain⟨up,lo⟩:=t;simp only at e0;simp[Lq,e0]
  obtain⟨L',R',Lq',o',c',i1,i2,i3,i4,i5,qq⟩:=kSt hc hO hgl hgs hs gs 0 (ck ..) (Nat.zero_le _) [] rfl (fun x hx=>by cases hx) a L Lq (RS++[Ly]) [] (γ0+2+gs.length+2) 29 [(28,true,.fn 168 [] [.ref [gl],.ptr (Q+1) 3 (γ0+1) 0,.ptr (Q+1) 7 (γ0+2+gs.length) 0,.ref [.ptr 0 911 (γ+1) 0],.ptr (Q+1) 8 (γ0+2+gs.length+1) 0]),(7,true,.ptr (Q+1) 7 (γ0+2+gs.length) 0),(8,true,.ptr (Q+1) 8 (γ0+2+gs.length+1) 0)] hL (hO.mo _ _ _ _ _ hLv (by omega)) hLq (fun _ _=>rfl) (by omega) (by omega);refine⟨L',R',c',i1,i2,by omega,fun n=>?_⟩;rw[BC Tryz.func167 b167 rfl (by simp)];have hQ3:=hO.ln _ _ _ _ i2;have hR3:=hO.st _ _ _ _ i2;have qq:=qq (n+4992-400*gs.length);have hca:=BC (A:=ann) (kn:=kn) (n:=n+N0+5992) Tryz.func168 b168 rfl (args:=[i ((0:Nat):Int),.ref [gl],.ptr (Q+1) 3 (γ0+1) 0,.ptr (Q+1) 7 (γ0+2+gs.length) 0,.ref [.ptr 0 911 (γ+1) 0],.ptr (Q+1) 8 (γ0+2+gs.length+1) 0]) (by simp) (some 29) (γ0+2+gs.length+2) [(28,true,.fn 168 [] [.ref [gl],.ptr (Q+1) 3 (γ0+1) 0,.ptr (Q+1) 7 (γ0+2+gs.length) 0,.ref [.ptr 0 911 (γ+1) 0],.ptr (Q+1) 8 (γ0+2+gs.length+1) 0]),(7,true,.ptr (Q+1) 7 (γ0+2+gs.length) 0),(8,true,.ptr (Q+1) 8 (γ0+2+gs.length+1) 0)] (L::(RS++[Ly])) Lq;rw[show n+4992-400*gs.length+(N0+400*gs.length+1000)=n+N0+5992 by omega]at qq;have hun:CO (L'::(R'++Lq'::[]))=some (L'::R',Lq'):=by have:=DG Lq' (L'::R');rwa [bq]at this
  rw[hun]at qq;have hca:=hca.trans qq;have sR3:∀lo,R'.map (AJ ⟨L'::R',lo⟩)=R':=fun lo=>hR3 _ (by simp;omega);have sL3:∀lo,AJ ⟨L'::R',lo⟩ L'=L':=fun lo=>i1.st _ (by simp);generalize n+N0=n2 at hca|-;generalize (runG step a (EW c (AV c) gs [])).2=z at *;simp only[CQ,AD]at p1 qch;simp only[Lq]at hca;simp only[bq];generalize hRR:RS++[Ly]=R at *;have hpn:¬(CZ c:Int)<D1 gs:=hp;rcases hgr with rfl|⟨j,γg,Lj,rfl,hj,hjg⟩
  ·cases gs with
   |nil=>
    simp[AIS]at q3 hca
    simp[ABK,AF,AIS,hQ,p1,q3,e1,e2,e3,e4,qch,AR,A7,AS,hpn,hca,sR3,sL3]
    done
   |cons g gs=>
    simp[vT]at q3 hca
    simp[ABK,AF,vT,hQ,p1,q3,e1,e2,e3,e4,qch,AR,A7,AS,hpn,hca,sR3,sL3]
    done
  ·obtain⟨hjR,hjl,hjn⟩:=XF hQ hj;simp at q3 hca;simp[ABK,AF,hQ,p1,q3,e1,e2,e3,e4,qch,AR,A7,AS,hpn,hca,sR3,sL3];done
end
end Go.Proofs.Tryz.Op
