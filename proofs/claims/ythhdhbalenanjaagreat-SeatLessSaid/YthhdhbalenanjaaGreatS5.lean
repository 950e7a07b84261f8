/- The levels of the walk through the allowed seatings, and how a group that sits down changes them. No condition. -/
import Derived.Test.YthhdhbalenanjaaGreatS4
open Go.Proofs.Tryz renaming prog->cg
open List renaming range->bj,exists_cons_of_ne_nil->bk,cons_append->bq,drop_eq_getElem_cons->bw,length_range->bx,mem_of_mem_take->bz,mem_singleton->bc,length->bg,drop_eq_nil_of_le->bh,length_take->bm,length_singleton->bn,map_cons->bp,mem_append->cj,map_append->ck,drop_zero->cq,length_append->cw,getElem_range->cx,flatMap_cons->cz,append_assoc->cd
open Nat renaming add_assoc->bf
set_option maxRecDepth 100000
set_option linter.unusedSimpArgs false
open Go Go.Pg Go.Proofs Go.Wind
namespace Go.Proofs.Tryz.Op
def cE(R:List AA)(gs:List (Nat×Int))(gl:V):Prop:=gl=sl (gs.map CN)\/∃j γg Lj,gl=.vec (j+1) 39 γg gs.length/\R[j]? = some Lj/\Lj.get 39=some (γg,.vec 151 (gs.map CN))
structure dH(γ l0 γ0 q g3 g7 g8:Nat)(gl:V)(o:List Sp)(cc:Nat)(L:AA):Prop where
 p3:L.get 3=some (g3,.box [.yld l0 BE γ0])
 p7:∃v,L.get 7=some (g7,.box [v])/\zM q L o v cc
 p8:L.get 8=some (g8,.box [.fn 168 [] [.ref [gl],.ptr q 3 g3 0,.ptr q 7 g7 0,.ref [.ptr 0 911 (γ+1) 0],.ptr q 8 g8 0]])
 st:∀s:St,q+1<=s.up.length->AJ s L=L
 b7:g7<cc
section
variable {γ l0 γ0 q g3 g7 g8:Nat}{gl:V}{o:List Sp}{cc:Nat}{L:AA}
theorem dH.more(h:dH γ l0 γ0 q g3 g7 g8 gl o cc L){c2:Nat}(hc:cc<=c2):dH γ l0 γ0 q g3 g7 g8 gl o c2 L:=by obtain⟨v,h1,h2⟩:=h.p7;exact⟨h.p3,⟨v,h1,h2.more hc⟩,h.p8,h.st,Nat.lt_of_lt_of_le h.b7 hc⟩
theorem fC(t:St)(T:TypeId)(es:List (List V))(h:∀e∈es,∃x:Sp,e=A6 x):CG t (.vec T es)=.vec T es:=PC fun e he v hv=>by obtain⟨x,rfl⟩:=h e he;simp only[A6,List.mem_cons,List.not_mem_nil,or_false]at hv;rcases hv with rfl|rfl|rfl|rfl<;>rfl
theorem dH.first(h:dH γ l0 γ0 q g3 g7 g8 gl [] cc L)(x:Sp):dH γ l0 γ0 q g3 g7 g8 gl [x] (cc+1) ((921,cc,.vec 153 [A6 x])::(7,g7,.box [.vec q 921 cc 1])::JP 7 L) where
 p3:=by simpa using h.p3
 p7:=by
  refine⟨.vec q 921 cc 1,by simp,.inr ⟨cc,[A6 x],rfl,by simp,by simp,fun k h1 h2=>?_,by simp[A6],by omega⟩⟩;have:k=0:=by simpa using h1
  subst this;rfl
 p8:=by simpa using h.p8
 st:=fun s hs=>by
  have e:¬q=s.up.length:=by omega
  rw[A4,A4,S8,h.st s hs,fC s _ _ fun e he=>⟨x,by simpa using he⟩];obtain⟨up,lo⟩:=s;simp only at e;simp[E6,e]
 b7:=Nat.lt_succ_of_lt h.b7
theorem dH.next(h:dH γ l0 γ0 q g3 g7 g8 gl o cc L)(x:Sp){es:List (List V)}(hes:es.take o.length=o.map A6):dH γ l0 γ0 q g3 g7 g8 gl (o++[x]) (cc+1) ((7,g7,.box [.vec q 921 cc (o.length+1)])::(921,cc,.vec 153 (es.take o.length++[A6 x]))::L) where
 p3:=by simpa using h.p3
 p7:=by
  refine⟨.vec q 921 cc (o.length+1),by simp,.inr ⟨cc,es.take o.length++[A6 x],by simp,by simp,by simp[hes],fun k h1 h2=>?_,fun e he=>?_,by omega⟩⟩
  ·have e:es.take o.length++[A6 x]=(o++[x]).map A6:=by rw[hes];simp
   rw[List.getElem_of_eq e,List.getElem_map]
  ·rw[hes]at he;simp only[cj,List.mem_map,bc]at he;rcases he with⟨y,_,rfl⟩|rfl<;>rfl
 p8:=by simpa using h.p8
 st:=fun s hs=>by
  have e:¬q=s.up.length:=by omega
  rw[A4,A4,h.st s hs,fC s _ _ fun e he=>by
   rw[hes]at he;simp only[cj,List.mem_map,bc]at he;rcases he with⟨y,_,rfl⟩|rfl
   ·exact⟨y,rfl⟩
   ·exact⟨x,rfl⟩]
  obtain⟨up,lo⟩:=s;simp only at e;simp[E6,e]
 b7:=Nat.lt_succ_of_lt h.b7
theorem dH.back{x:Sp}(h:dH γ l0 γ0 q g3 g7 g8 gl (o++[x]) cc L):∃g es,L.get 7=some (g7,.box [.vec q 921 g (o.length+1)])/\L.get 921=some (g,.vec 153 es)/\o.length+1<=es.length/\(∀e∈es,e.length=4)/\dH γ l0 γ0 q g3 g7 g8 gl o cc ((7,g7,.box [.vec q 921 g o.length])::L):=by
 obtain⟨v,h1,h2⟩:=h.p7;rcases h2 with⟨_,h2⟩|⟨g,es,rfl,v2,v3,v4,v5,v6⟩
 ·simp at h2
 ·simp only[cw,bn]at v3 v4 h1;refine⟨g,es,h1,v2,v3,v5,by simpa using h.p3,⟨.vec q 921 g o.length,by simp,.inr ⟨g,es,rfl,by simpa using v2,by omega,fun k k1 k2=>?_,v5,v6⟩⟩,by simpa using h.p8,fun s hs=>?_,h.b7⟩
  ·rw[v4 k (by omega) k2,List.getElem_append_left k1]
  ·have e:¬q=s.up.length:=by omega
   rw[A4,h.st s hs];obtain⟨up,lo⟩:=s;simp only at e;simp[E6,e]
end
theorem EI{n k l d:Nat}(f:Nat)(cs:List V):JX n k l d (f+1) (.ref cs)=.ref cs:=rfl
theorem A36(st:XS):LR [8004000922065] st=aW 65 (KY 4 st) 921 [7] st:=rfl
theorem vS(c:Nat)(fr:Fr)(up:List AA)(g:Nat)(r:AX):LR [8004000922065] ⟨c,fr,⟨up,[(10,g,r)]⟩⟩=⟨c,fr,⟨up,[(10,g,r)]⟩⟩:=by rw[A36];rfl
theorem ANK(c γ g7 g10 g o:Nat)(T:TypeId)(es:List (List V))(cs:List V)(fr:Fr)(L Lq:AA)(R Y:List AA)(r7:AX)(h3:BS fr 3=some (true,.ptr (R.length+1) 7 g o))(h7:Lq.get 7=some (g7,r7)) :
  LR [8004000922065] ⟨c,fr,⟨L::(R++Lq::Y),[(65,γ,.vec T es),(10,g10,.box cs)]⟩⟩=⟨c,jH (R.length+Y.length+2) 65 (R.length+1) 921 fr,⟨L::(R++((921,γ,QX (R.length+Y.length+2) 65 (R.length+1) 921 (.vec T es))::(7,g7,QX (R.length+Y.length+2) 65 (R.length+1) 921 r7)::JP 7 Lq)::Y),[(10,g10,QX (R.length+Y.length+2) 65 (R.length+1) 921 (.box cs))]⟩⟩:=by
 rw[A36]
 have hl:(L::(R++Lq::Y)).length=R.length+Y.length+2:=by simp;omega
 have e1:KY 4 ⟨c,fr,⟨L::(R++Lq::Y),[(65,γ,.vec T es),(10,g10,.box cs)]⟩⟩=R.length+1:=by show(match BS fr 3 with|some (true,.ptr l _ _ _)=>l|_=>0)=R.length+1;rw[h3]
 rw[e1]
 unfold aW
 have e3:QK (R.length+1) (R.length+(Y.length+2)) (some (γ,.vec T es))=true:=by
  have:Nat.blt (R.length+1) (R.length+(Y.length+2))=true:=by rw[Nat.blt_eq];omega
  simp[QK,cA,this]
 have ne:¬R.length+1=R.length+(Y.length+2):=by omega
 simp[qY,AA.get,zG,h7,aV,St.put,C8,rT,hl,bf,ne,e3]
def vT{α:Type}(c:AU)(γ:Nat)(B:AA)(Q l0 γ0 N0:Nat)(Lv:Nat->Bool->α->List AA->Prop)(step:α->List Sp->α×Bool):Prop :=
 ∀(a:α) (L Lq:AA) (R Y:List AA) (loc:AA) (cc:Nat) (fr:Fr) (o:List Sp) (v:V),Lw c γ B L->Lv cc true a R->γ+1<cc->γ0+1<cc->(∀x∈o,vR c x)->o.length<=10->zM (Q+1) Lq o v cc->E0 (R++Lq::(Y++[loc])) ->
  ∃L' R' c',Lw c γ B L'/\Lv c' (step a o).2 (step a o).1 R'/\cc<=c'/\∀n,aK (AF cg ann kn (n+N0)) l0 BE γ0 [v] ⟨cc,fr,⟨L::(R++Lq::Y),loc⟩⟩=some (.bool (step a o).2,⟨c',fr,⟨L'::(R'++Lq::Y),loc⟩⟩)
structure zN{α:Type}(Q:Nat)(gs:List (Nat×Int))(gl:V)(Lv:Nat->Bool->α->List AA->Prop):Prop where
 mo:∀c c' g a R,Lv c g a R->c<=c'->Lv c' g a R
 ln:∀c g a R,Lv c g a R->R.length=Q
 st:∀c g a R,Lv c g a R->∀t:St,Q+1<=t.up.length->R.map (AJ t)=R
 gr:∀c g a R,Lv c g a R->cE R gs gl
def StY(Q:Nat)(Y:List AA):Prop:=∀t:St,Q+Y.length+2<=t.up.length->Y.map (AJ t)=Y
theorem AFT{R Y:List AA}{Lq:AA}(hR:∀t:St,R.length+1<=t.up.length->R.map (AJ t)=R)(hq:∀t:St,R.length+2<=t.up.length->AJ t Lq=Lq)(hY:StY R.length Y):E0 (R++Lq::Y):=by
 intro t ht;have ht:R.length+Y.length+2<=t.up.length:=by simp at ht;omega
 rw[ck,bp,hR t (by omega),hq t (by omega),hY t ht]
theorem StY.more{Q:Nat}{Y:List AA}{l:AA}(h:StY Q Y)(hl:∀t:St,Q+Y.length+3<=t.up.length->AJ t l=l):StY Q (Y++[l]):=by intro t ht;simp only[cw,bn]at ht;rw[ck,h t (by omega),bp,List.map_nil,hl t (by omega)]
def K7:Option (Nat×Sp)->AA
 |none=>[]
 |some (g,x)=>[(10,g,.box (A6 x))]
theorem VU{R:List AA}{Q j:Nat}{Lj:AA}(hQ:R.length=Q)(hj:R[j]? = some Lj):j<Q/\(∀Z:List AA,(R++Z)[j]? = some Lj)/\∀m:Nat,¬j=Q+m:=by have h:=(List.getElem?_eq_some_iff.1 hj).1;exact⟨by omega,fun Z=>by rw[List.getElem?_append_left h];exact hj,fun m=>by omega⟩
theorem BEL(L2:AA)(R2:List AA)(Lq2 l:AA)(Y:List AA):B5 (L2::(R2++Lq2::(Y++[l])))=some (L2::(R2++Lq2::Y),l):=by
 have:L2::(R2++Lq2::(Y++[l]))=(L2::(R2++Lq2::Y))++[l]:=by simp
 rw[this,unsnoc_snoc]
section
variable {α:Type}{c:AU}{γ:Nat}{B:AA}{Q l0 γ0 N0:Nat}{Lv:Nat->Bool->α->List AA->Prop}{step:α->List Sp->α×Bool}{gs:List (Nat×Int)}{gl:V}{g3 g7 g8:Nat}
def AR0(c:AU)(γ:Nat)(B:AA)(Q l0 γ0:Nat)(Lv:Nat->Bool->α->List AA->Prop)(step:α->List Sp->α×Bool)(gl:V)(g3 g7 g8 M k:Nat)(ws:List (Nat×Int)):Prop :=
 ∀(o:List Sp),o.length=k->(∀x∈o,vR c x)->∀(a:α) (L Lq:AA) (R Y:List AA) (cc dd:Nat) (fr:Fr),Lw c γ B L->Lv cc true a R->dH γ l0 γ0 (Q+1) g3 g7 g8 gl o cc Lq->StY Q Y->γ+1<cc->γ0+1<cc ->
  ∃L' R' Lq' o' c',Lw c γ B L'/\Lv c' (runG step a (FI c (AV c) ws o)).2 (runG step a (FI c (AV c) ws o)).1 R'/\dH γ l0 γ0 (Q+1) g3 g7 g8 gl o' c' Lq'/\((runG step a (FI c (AV c) ws o)).2=true->o'=o)/\cc<=c' /\
   ∀n,bT cg (some dd) fr Tryz.f168.results.toList (AF cg ann kn (n+M) 76 oY ⟨cc,AD 0 [i k,.ref [gl],.ptr (Q+1) 3 g3 0,.ptr (Q+1) 7 g7 0,.ref [.ptr 0 911 (γ+1) 0],.ptr (Q+1) 8 g8 0],⟨L::(R++Lq::Y),[]⟩⟩)=UG (some dd) fr c' (.bool (runG step a (FI c (AV c) ws o)).2) (B5 (L'::(R'++Lq'::Y)))
def jJ(c:AU)(ws:List (Nat×Int))(g:Nat×Int)(o:List Sp)(r p:Nat):List (List Sp):=if ((BU c (AV c) ⟨g.1,g.2,(r:Int),(p:Int)⟩).enough&&o.all (GI c ⟨g.1,g.2,(r:Int),(p:Int)⟩))=true then FI c (AV c) ws (o++[⟨g.1,g.2,(r:Int),(p:Int)⟩]) else[]
set_option maxHeartbeats 4000000 in
theorem AKZ(hc:CW c)(hO:zN Q gs gl Lv)(hgl:gs.length<=9)(W k:Nat)(hk:k<gs.length)(hgk:gs[k].1<c.fams.length/\1<=gs[k].2/\gs[k].2<=4)(ws:List (Nat×Int))(hrec:AR0 c γ B Q l0 γ0 Lv step gl g3 g7 g8 (W+1000) (k+1) ws)(r:Nat)(hr:(r:Int)<c.beach.rows)(o:List Sp)(hol:o.length=k)(ho:∀x∈o,vR c x)(Y:List AA)(hY:StY Q Y)(PP:Int)(hPP:PP=c.beach.places-gs[k].2+1) :
  ∀(e p:Nat) (a:α) (L Lq:AA) (R:List AA) (l10:Option (Nat×Sp)) (cc:Nat),p+e=PP.toNat->Lw c γ B L->Lv cc true a R->dH γ l0 γ0 (Q+1) g3 g7 g8 gl o cc Lq->γ+1<cc->γ0+1<cc ->
  ∃(fr0:Fr) (L':AA) (R':List AA) (Lq':AA) (o':List Sp) (l10':Option (Nat×Sp)) (c':Nat),BS fr0 0=some (true,i k)/\BS fr0 1=some (true,.ref [gl])/\BS fr0 3=some (true,.ptr (Q+1) 7 g7 0)/\BS fr0 4=some (true,.ref [.ptr 0 911 (γ+1) 0])/\BS fr0 5=some (true,.ptr (Q+1) 8 g8 0)/\BS fr0 23=some (true,i c.beach.rows)/\BS fr0 24=some (true,i r) /\
   Lw c γ B L'/\Lv c' (runG step a (((bj PP.toNat).drop p).flatMap (jJ c ws gs[k] o r))).2 (runG step a (((bj PP.toNat).drop p).flatMap (jJ c ws gs[k] o r))).1 R'/\dH γ l0 γ0 (Q+1) g3 g7 g8 gl o' c' Lq'/\((runG step a (((bj PP.toNat).drop p).flatMap (jJ c ws gs[k] o r))).2=true->o'=o)/\cc<=c' /\
   ∀n m,e<m->BT (AF cg ann kn (n+W+1100) 76) S5 (ann 76 (CA S5)) m ⟨cc,[(0,true,i k),(1,true,.ref [gl]),(3,true,.ptr (Q+1) 7 g7 0),(4,true,.ref [.ptr 0 911 (γ+1) 0]),(5,true,.ptr (Q+1) 8 g8 0),(8,true,i r),(23,true,i c.beach.rows),(24,true,i r),(39,true,i PP),(40,true,i p)],⟨L::(R++Lq::Y),K7 l10⟩⟩ =
    if (runG step a (((bj PP.toNat).drop p).flatMap (jJ c ws gs[k] o r))).2=true then some (.exit 2,⟨c',fr0,⟨L'::(R'++Lq'::Y),K7 l10'⟩⟩) else some (.ret,⟨c',[(7,true,.bool false)],⟨L'::(R'++Lq'::Y),[]⟩⟩)
 |0,p,a,L,Lq,R,l10,cc,hd,hL,hLv,hLq,hc1,hc2=>by
  have hpl:=hc.be.pl;have hpp:¬(p:Int)<PP:=by omega
  rw[bh (by rw[bx];omega)];refine⟨?fr,L,R,Lq,o,l10,cc,?g1,?g2,?g3,?g4,?g5,?g6,?g7,hL,by simpa [runG]using hLv,hLq,fun _=>rfl,Nat.le_refl _,fun n m hm=>?g⟩;case g=>
   obtain⟨m,rfl⟩:=qNz m (by omega)
   rw[AB]
   cases l10<;>simp[runG,hpp,K7]
   all_goals rfl
  all_goals simp
 |e+1,p,a,L,Lq,R,l10,cc,hd,hL,hLv,hLq,hc1,hc2=>by
  have hlt:(p:Int)<PP:=by omega
  have hw:=CB (k:=p) (by have:=hc.be.pl;omega);have hwk:=CB (k:=k) (by omega);have hx:vR c ⟨gs[k].1,gs[k].2,(r:Int),(p:Int)⟩:=by refine⟨?_,hgk.1,by simp only;omega,by simp only;omega⟩;simp only[KE,Bool.and_eq_true,D7];omega
  have hQ:=hO.ln _ _ _ _ hLv;have hR:=hO.st _ _ _ _ hLv;have hgr:=hO.gr _ _ _ _ hLv;have hfl:((bj PP.toNat).drop p).flatMap (jJ c ws gs[k] o r)=jJ c ws gs[k] o r p++((bj PP.toNat).drop (p+1)).flatMap (jJ c ws gs[k] o r):=by rw[bw (by rw[bx];omega),cz,cx]
  have hgne:gs.map CN≠[]:=fun e0=>by have:=congrArg bg e0;simp at this;subst this;simp at hk
  have hsl:sl (gs.map CN)=.list false (gs.map CN):=by obtain⟨y,l,e0⟩:=bk hgne;rw[e0];rfl
  rw[hfl];generalize hX:(⟨gs[k].1,gs[k].2,(r:Int),(p:Int)⟩:Sp)=x at hx;have hstR:∀Lq2,dH γ l0 γ0 (Q+1) g3 g7 g8 gl o cc Lq2->E0 (R++Lq2::Y):=fun Lq2 h=>AFT (by rw[hQ];exact hR) (by rw[hQ];exact h.st) (by rw[hQ];exact hY);have hst10:∀t:St,Q+Y.length+3<=t.up.length->AJ t [(10,cc,.box (A6 x))]=[(10,cc,.box (A6 x))]:=fun t _=>by simp[A6]
  have hst1:E0 ((R++Lq::Y)++[[(10,cc,.box (A6 x))]]):=FY (hstR Lq hLq) fun t ht=>by simp[A6]
  obtain⟨L1,c1,r1,r2,r3⟩:=AFP c hc γ B x hx L hL (R++Lq::Y) [(10,cc,.box (A6 x))] hst1 (cc+1) (by omega);have hat5:∀(a:AA) (Z:List AA),(R++a::Z)[Q]? = some a:=fun a Z=>by rw[<-hQ];exact at5 R a Z
  have hset5:∀(a:AA) (Z:List AA) (f:AA->AA),(R++a::Z).modify Q f=R++f a::Z:=fun a Z f=>by rw[<-hQ];exact rT R a Z f
  have hxe:A6 x=[i gs[k].1,i gs[k].2,i r,i p]:=by rw[<-hX];rfl
  cases hz:(BU c (AV c) x).enough with
  |false=>
   have hap:jJ c ws gs[k] o r p=[]:=by unfold jJ;rw[hX,hz];simp
   rw[hap,List.nil_append]
   obtain⟨fr0,L',R',Lq',o',l10',c',e0,e1,e3,e4,e5,e23,e24,i1,i2,i3,i4,i5,ih⟩:=AKZ hc hO hgl W k hk hgk ws hrec r hr o hol ho Y hY PP hPP e (p+1) a L1 Lq R (some (cc,x)) c1 (by omega) r1 (hO.mo _ _ _ _ _ hLv (by omega)) (hLq.more (by omega)) (by omega) (by omega)
   refine⟨fr0,L',R',Lq',o',l10',c',e0,e1,e3,e4,e5,e23,e24,i1,i2,i3,i4,by omega,fun n m hm=>?_⟩
   obtain⟨m,rfl⟩:=qNz m (by omega)
   have ih:=ih n m (by omega)
   generalize (runG step a (((bj PP.toNat).drop (p+1)).flatMap (jJ c ws gs[k] o r))).2=z at ih|-
   generalize BU c (AV c) x=S at *
   obtain⟨S1,S2,S3⟩:=S
   simp only at hz
   subst hz
   rw[AB]
   simp only[K7,hxe,CM]at r3 ih|-
   rcases hgr with rfl|⟨j,γg,Lj,rfl,hj,hjg⟩
   ·simp only[hsl]at r3 ih|-;cases l10<;>(simp at ih r3;simp[hlt,hw,hwk,hk,hQ,hat5,hset5,CN,r3,DJ,C8,ih])
   ·obtain⟨hjR,hjl,hjn⟩:=VU hQ hj;cases l10<;>(simp at ih r3;simp[hlt,hw,hwk,hk,hQ,hat5,hset5,hjl,hjg,hjn,CN,r3,DJ,C8,ih])
  |true=>
  obtain⟨v,p7,hv⟩:=hLq.p7;have hstU:StU (L1::(R++Lq::Y)++[[(10,cc,.box (A6 x))]]):=fun t ht=>by have:=hst1 t (by simp at ht|-;omega);rw[bq,bp,this,r1.st t (by simp at ht;omega)]
  obtain⟨c2,hc12,qA⟩:=AKY c hc γ B L1 r1 x hx o ho (by omega) R Lq Y v c1 (by rw[hQ];exact hv.more (by omega)) [(10,cc,.box (A6 x))] cc rfl hstU;rw[hQ,show Q+Y.length+2=Q+(Y.length+1)+1 by omega]at qA;have hwv:weakV v=v:=by rcases hv with⟨rfl,_⟩|⟨_,_,rfl,_⟩<;>rfl
  cases hza:o.all (GI c x)with
  |false=>
   have hap:jJ c ws gs[k] o r p=[]:=by unfold jJ;rw[hX,hz,hza];simp
   rw[hap,List.nil_append]
   obtain⟨fr0,L',R',Lq',o',l10',c',e0,e1,e3,e4,e5,e23,e24,i1,i2,i3,i4,i5,ih⟩:=AKZ hc hO hgl W k hk hgk ws hrec r hr o hol ho Y hY PP hPP e (p+1) a L1 Lq R (some (cc,x)) c2 (by omega) r1 (hO.mo _ _ _ _ _ hLv (by omega)) (hLq.more (by omega)) (by omega) (by omega)
   refine⟨fr0,L',R',Lq',o',l10',c',e0,e1,e3,e4,e5,e23,e24,i1,i2,i3,i4,by omega,fun n m hm=>?_⟩
   obtain⟨m,rfl⟩:=qNz m (by omega)
   have ih:=ih n m (by omega)
   rw[hza]at qA
   generalize (runG step a (((bj PP.toNat).drop (p+1)).flatMap (jJ c ws gs[k] o r))).2=z at ih|-
   generalize BU c (AV c) x=S at *
   obtain⟨S1,S2,S3⟩:=S
   simp only at hz
   subst hz
   rw[AB]
   simp only[K7,hxe,CM]at r3 ih qA|-
   rcases hgr with rfl|⟨j,γg,Lj,rfl,hj,hjg⟩
   ·simp only[hsl]at r3 ih|-;cases l10<;>(simp at ih r3;simp[hlt,hw,hwk,hk,hQ,hat5,hset5,CN,r3,p7,qA,hwv,DJ,C8,ih])
   ·obtain⟨hjR,hjl,hjn⟩:=VU hQ hj;cases l10<;>(simp at ih r3;simp[hlt,hw,hwk,hk,hQ,hat5,hset5,hjl,hjg,hjn,CN,r3,p7,qA,hwv,DJ,C8,ih])
  |true=>
  have hap:jJ c ws gs[k] o r p=FI c (AV c) ws (o++[x]):=by unfold jJ;rw[hX,hz,hza];simp
  rw[hap,JH];rw[hza]at qA;have hox:∀y∈o++[x],vR c y:=fun y hy=>by
   rcases cj.1 hy with hy|hy
   ·exact ho y hy
   ·rw[bc]at hy;subst hy;exact hx
  have happ:∀m,m<=100->BZ cg 153 m [A6 x]=true:=fun m hm=>by rw[CC (by simp) (by simp[A6])];have h4:(A6 x).length=4:=rfl;simp[maxLen,h4];omega
  have hYx:StY Q (Y++[[(10,cc,.box (A6 x))]]):=hY.more hst10;let FR:Fr:=[(68,true,i ((k:Int)+1)),(67,true,i k),(66,true,.fn 168 [] [.ref [gl],.ptr (Q+1) 3 g3 0,.ptr (Q+1) 7 g7 0,.ref [.ptr 0 911 (γ+1) 0],.ptr (Q+1) 8 g8 0]),(0,true,i k),(1,true,.ref [gl]),(3,true,.ptr (Q+1) 7 g7 0),(4,true,.ref [.ptr 0 911 (γ+1) 0]),(5,true,.ptr (Q+1) 8 g8 0),(8,true,i r),(23,true,i c.beach.rows),(24,true,i r),(39,true,i PP),(40,true,i p)];have hsit:∃Lq1,dH γ l0 γ0 (Q+1) g3 g7 g8 gl (o++[x]) (c2+1) Lq1/\(v=.nil/\Lq1=((921,c2,.vec 153 [A6 x])::(7,g7,.box [.vec (Q+1) 921 c2 1])::JP 7 Lq)\/∃g es,v=.vec (Q+1) 921 g o.length/\Lq.get 921=some (g,.vec 153 es)/\o.length<=es.length/\(∀e∈es,e.length=4)/\Lq1=((7,g7,.box [.vec (Q+1) 921 c2 (o.length+1)])::(921,c2,.vec 153 (es.take o.length++[A6 x]))::Lq)):=by
   rcases hv with⟨rfl,rfl⟩|⟨g,es,rfl,v2,v3,v4,v5,v6⟩
   ·exact⟨_,(hLq.more (by omega:cc<=c2)).first x,.inl ⟨rfl,rfl⟩⟩
   ·have hes:es.take o.length=o.map A6:=by
     apply List.ext_getElem (by simp;omega);intro m h1 h2;have hm:m<o.length:=by simpa using h2
     rw[List.getElem_take,List.getElem_map];exact v4 m hm (by omega)
    exact⟨_,(hLq.more (by omega:cc<=c2)).next x hes,.inr ⟨g,es,rfl,v2,v3,v5,rfl⟩⟩
  obtain⟨Lq1,hLq1,hsit⟩:=hsit;obtain⟨L2,R2,Lq2,o2,c4,s1,s2,s3,s4,s5,s6⟩:=hrec (o++[x]) (by simp[hol]) hox a L1 Lq1 R (Y++[[(10,cc,.box (A6 x))]]) (c2+1) 69 FR r1 (hO.mo _ _ _ _ _ hLv (by omega)) hLq1 hYx (by omega) (by omega);have hca:=fun n=>A5 (A:=ann) (kn:=kn) (n:=n+W+1089) Tryz.func168 b168 rfl (args:=[i ((k:Int)+1),.ref [gl],.ptr (Q+1) 3 g3 0,.ptr (Q+1) 7 g7 0,.ref [.ptr 0 911 (γ+1) 0],.ptr (Q+1) 8 g8 0]) (by simp) (some 69) (c2+1) FR (L1::(R++Lq1::Y)) [(10,cc,.box (A6 x))];have s6':=fun n=>s6 (n+89);have e85:∀n,n+89+(W+1000)=n+W+1089:=fun n=>by omega
  simp only[e85]at s6';have hcb:=fun n=>by have h1:=hca n;rw[bq,cd,bq]at h1;exact h1.trans ((s6' n).trans (congrArg (UG (some 69) FR c4 _) (BEL _ _ _ _ _)))
  have hgc2:g7<c2+1:=by have:=hLq.b7;omega
  cases hG:(runG step a (FI c (AV c) ws (o++[x]))).2 with
  |false=>
   rw[if_neg (by simp)]
   refine⟨[(0,true,i k),(1,true,.ref [gl]),(3,true,.ptr (Q+1) 7 g7 0),(4,true,.ref [.ptr 0 911 (γ+1) 0]),(5,true,.ptr (Q+1) 8 g8 0),(23,true,i c.beach.rows),(24,true,i r)],L2,R2,Lq2,o2,none,c4,by simp,by simp,by simp,by simp,by simp,by simp,by simp,s1,by rw[hG]at s2;rw[hG];exact s2,s3,fun h=>absurd h (by rw[hG];decide),by omega,fun n m hm=>?_⟩
   obtain⟨m,rfl⟩:=qNz m (by omega)
   have hcb:=hcb n
   rw[hG]at hcb
   rw[if_neg (by rw[hG];decide)]
   generalize BU c (AV c) x=S at *
   obtain⟨S1,S2,S3⟩:=S
   simp only at hz
   subst hz
   rw[AB]
   simp only[K7,hxe,CM,FR]at r3 qA hcb happ hsit|-
   have p8:=hLq.p8
   rcases hsit with⟨rfl,rfl⟩|⟨g,es,rfl,v2,v3,v5,rfl⟩
   ·have hgh:=fun c1 fr (h3:BS fr 3=some (true,.ptr (Q+1) 7 g7 0))=>ANK c1 c2 g7 cc g7 0 153 [[i gs[k].1,i gs[k].2,i r,i p]] [i gs[k].1,i gs[k].2,i r,i p] fr L1 ((7,g7,.box [.vec (Q+(Y.length+1)+1) 65 c2 1])::Lq) R Y (.box [.vec (Q+(Y.length+1)+1) 65 c2 1]) (by rw[hQ];exact h3) rfl;rw[hQ,show Q+Y.length+2=Q+(Y.length+1)+1 by omega]at hgh;have ha0:=happ 0 (by omega);rcases hgr with rfl|⟨j,γg,Lj,rfl,hj,hjg⟩
    ·simp only[hsl]at r3 hcb p8|-;cases l10<;>(simp at hcb r3;simp[hlt,hw,hwk,hk,hQ,hat5,hset5,CN,r3,p7,p8,qA,GP,ha0,hgc2,LZ,hgh,J9,CV,CZ,CO,L5,D9,CD,EI,FE,hcb,DJ,C8])
    ·obtain⟨hjR,hjl,hjn⟩:=VU hQ hj;cases l10<;>(simp at hcb r3;simp[hlt,hw,hwk,hk,hQ,hat5,hset5,hjl,hjg,hjn,CN,r3,p7,p8,qA,GP,ha0,hgc2,LZ,hgh,J9,CV,CZ,CO,L5,D9,CD,EI,FE,hcb,DJ,C8])
   ·have hcut:ZC o.length [[i gs[k].1,i gs[k].2,i r,i p]] es=es.take o.length:=if_pos (List.all_eq_true.2 fun e he=>by rw[v5 e he];rfl);have hcl:(es.take o.length).length=o.length:=by rw[bm];omega
    have hcm:=eq_true fun e (he:e∈es.take o.length)=>v5 e (bz he);have hao:=happ o.length (by omega);generalize es.take o.length=ET at *;rcases hgr with rfl|⟨j,γg,Lj,rfl,hj,hjg⟩
    ·simp only[hsl]at r3 hcb p8|-;cases l10<;>(simp at hcb r3;simp[hlt,hw,hwk,hk,hQ,hat5,hset5,CN,r3,p7,p8,v2,qA,hwv,hcut,hcl,hcm,hao,hgc2,vS,hcb,DJ,C8])
    ·obtain⟨hjR,hjl,hjn⟩:=VU hQ hj;cases l10<;>(simp at hcb r3;simp[hlt,hw,hwk,hk,hQ,hat5,hset5,hjl,hjg,hjn,CN,r3,p7,p8,v2,qA,hwv,hcut,hcl,hcm,hao,hgc2,vS,hcb,DJ,C8])
  |true=>
   rw[if_pos rfl]
   obtain rfl:=s4 hG
   rw[hG]at s2
   obtain⟨gb,eb,b1,b2,b3,b4,hLq3⟩:=s3.back
   have hQ2:=hO.ln _ _ _ _ s2
   have hslc:∀s:St,C0 cg s 120 (.vec (Q+1) 921 gb (o.length+1)) none (some (i k)) none=some (.vec (Q+1) 921 gb o.length):=fun s=>by rw[<-hol];exact zV (e:=153) (by kernel_rfl) (by omega) (by simp)
   have hat6:∀(a:AA) (Z:List AA),(R2++a::Z)[Q]? = some a:=fun a Z=>by rw[<-hQ2];exact at5 R2 a Z
   have hset6:∀(a:AA) (Z:List AA) (f:AA->AA),(R2++a::Z).modify Q f=R2++f a::Z:=fun a Z f=>by rw[<-hQ2];exact rT R2 a Z f
   obtain⟨fr0,L',R',Lq',o',l10',c',e0,e1,e3,e4,e5,e23,e24,i1,i2,i3,i4,i5,ih⟩:=AKZ hc hO hgl W k hk hgk ws hrec r hr o hol ho Y hY PP hPP e (p+1) _ L2 _ R2 (some (cc,x)) c4 (by omega) s1 s2 hLq3 (by omega) (by omega)
   refine⟨fr0,L',R',Lq',o',l10',c',e0,e1,e3,e4,e5,e23,e24,i1,i2,i3,i4,by omega,fun n m hm=>?_⟩
   obtain⟨m,rfl⟩:=qNz m (by omega)
   have ih:=ih n m (by omega)
   have hcb:=hcb n
   rw[hG]at hcb
   generalize (runG step (runG step a (FI c (AV c) ws (o++[x]))).1 (((bj PP.toNat).drop (p+1)).flatMap (jJ c ws gs[k] o r))).2=zz at ih|-
   have hg74:g7<c4:=by omega
   generalize BU c (AV c) x=S at *
   obtain⟨S1,S2,S3⟩:=S
   simp only at hz
   subst hz
   rw[AB]
   simp only[K7,hxe,CM,FR]at r3 qA hcb happ hsit ih|-
   have p8:=hLq.p8
   rcases hsit with⟨rfl,rfl⟩|⟨g,es,rfl,v2,v3,v5,rfl⟩
   ·have hgh:=fun c1 fr (h3:BS fr 3=some (true,.ptr (Q+1) 7 g7 0))=>ANK c1 c2 g7 cc g7 0 153 [[i gs[k].1,i gs[k].2,i r,i p]] [i gs[k].1,i gs[k].2,i r,i p] fr L1 ((7,g7,.box [.vec (Q+(Y.length+1)+1) 65 c2 1])::Lq) R Y (.box [.vec (Q+(Y.length+1)+1) 65 c2 1]) (by rw[hQ];exact h3) rfl;rw[hQ,show Q+Y.length+2=Q+(Y.length+1)+1 by omega]at hgh;have ha0:=happ 0 (by omega);rcases hgr with rfl|⟨j,γg,Lj,rfl,hj,hjg⟩
    ·simp only[hsl]at r3 hcb p8 ih|-;cases l10<;>(simp at hcb r3 ih;simp[hlt,hw,hwk,hk,hQ,hQ2,hat5,hset5,hat6,hset6,b1,b2,b3,b4,hslc,hg74,ih,CN,r3,p7,p8,qA,GP,ha0,hgc2,LZ,hgh,J9,CV,CZ,CO,L5,D9,CD,EI,FE,hcb,DJ,C8])
    ·obtain⟨hjR,hjl,hjn⟩:=VU hQ hj;cases l10<;>(simp at hcb r3 ih;simp[hlt,hw,hwk,hk,hQ,hQ2,hat5,hset5,hat6,hset6,b1,b2,b3,b4,hslc,hg74,ih,hjl,hjg,hjn,CN,r3,p7,p8,qA,GP,ha0,hgc2,LZ,hgh,J9,CV,CZ,CO,L5,D9,CD,EI,FE,hcb,DJ,C8])
   ·have hcut:ZC o.length [[i gs[k].1,i gs[k].2,i r,i p]] es=es.take o.length:=if_pos (List.all_eq_true.2 fun e he=>by rw[v5 e he];rfl);have hcl:(es.take o.length).length=o.length:=by rw[bm];omega
    have hcm:=eq_true fun e (he:e∈es.take o.length)=>v5 e (bz he);have hao:=happ o.length (by omega);generalize es.take o.length=ET at *;rcases hgr with rfl|⟨j,γg,Lj,rfl,hj,hjg⟩
    ·simp only[hsl]at r3 hcb p8 ih|-;cases l10<;>(simp at hcb r3 ih;simp[hlt,hw,hwk,hk,hQ,hQ2,hat5,hset5,hat6,hset6,b1,b2,b3,b4,hslc,hg74,ih,CN,r3,p7,p8,v2,qA,hwv,hcut,hcl,hcm,hao,hgc2,vS,hcb,DJ,C8])
    ·obtain⟨hjR,hjl,hjn⟩:=VU hQ hj;cases l10<;>(simp at hcb r3 ih;simp[hlt,hw,hwk,hk,hQ,hQ2,hat5,hset5,hat6,hset6,b1,b2,b3,b4,hslc,hg74,ih,hjl,hjg,hjn,CN,r3,p7,p8,v2,qA,hwv,hcut,hcl,hcm,hao,hgc2,vS,hcb,DJ,C8])
end
section
variable {α:Type}{c:AU}{γ:Nat}{B:AA}{Q l0 γ0 N0:Nat}{Lv:Nat->Bool->α->List AA->Prop}{step:α->List Sp->α×Bool}{gs:List (Nat×Int)}{gl:V}{g3 g7 g8:Nat}
def atR(c:AU)(ws:List (Nat×Int))(g:Nat×Int)(o:List Sp)(r:Nat):List (List Sp):=(bj (c.beach.places-g.2+1).toNat).flatMap (jJ c ws g o r)
theorem AFU(c:AU)(ws:List (Nat×Int))(g:Nat×Int)(o:List Sp):FI c (AV c) (g::ws) o=(bj c.beach.rows.toNat).flatMap (atR c ws g o):=rfl
theorem A37(hc:CW c)(hO:zN Q gs gl Lv)(hgl:gs.length<=9)(W k:Nat)(hk:k<gs.length)(hgk:gs[k].1<c.fams.length/\1<=gs[k].2/\gs[k].2<=4)(ws:List (Nat×Int))(hrec:AR0 c γ B Q l0 γ0 Lv step gl g3 g7 g8 (W+1000) (k+1) ws)(o:List Sp)(hol:o.length=k)(ho:∀x∈o,vR c x)(Y:List AA)(hY:StY Q Y) :
  ∀(e r:Nat) (a:α) (L Lq:AA) (R:List AA) (l10:Option (Nat×Sp)) (cc:Nat),r+e=c.beach.rows.toNat->Lw c γ B L->Lv cc true a R->dH γ l0 γ0 (Q+1) g3 g7 g8 gl o cc Lq->γ+1<cc->γ0+1<cc ->
  ∃(fr0:Fr) (L':AA) (R':List AA) (Lq':AA) (o':List Sp) (l10':Option (Nat×Sp)) (c':Nat),
   Lw c γ B L'/\Lv c' (runG step a (((bj c.beach.rows.toNat).drop r).flatMap (atR c ws gs[k] o))).2 (runG step a (((bj c.beach.rows.toNat).drop r).flatMap (atR c ws gs[k] o))).1 R'/\dH γ l0 γ0 (Q+1) g3 g7 g8 gl o' c' Lq'/\((runG step a (((bj c.beach.rows.toNat).drop r).flatMap (atR c ws gs[k] o))).2=true->o'=o)/\cc<=c' /\
   ∀n m,e<m->BT (AF cg ann kn (n+W+1300) 76) S6 (ann 76 (CA S6)) m ⟨cc,[(0,true,i k),(1,true,.ref [gl]),(3,true,.ptr (Q+1) 7 g7 0),(4,true,.ref [.ptr 0 911 (γ+1) 0]),(5,true,.ptr (Q+1) 8 g8 0),(23,true,i c.beach.rows),(24,true,i r)],⟨L::(R++Lq::Y),K7 l10⟩⟩ =
    if (runG step a (((bj c.beach.rows.toNat).drop r).flatMap (atR c ws gs[k] o))).2=true then some (.exit 0,⟨c',fr0,⟨L'::(R'++Lq'::Y),K7 l10'⟩⟩) else some (.ret,⟨c',[(7,true,.bool false)],⟨L'::(R'++Lq'::Y),[]⟩⟩)
 |0,r,a,L,Lq,R,l10,cc,hd,hL,hLv,hLq,hc1,hc2=>by
  have hro:=hc.be.ro;have hrr:¬(r:Int)<c.beach.rows:=by omega
  rw[bh (by rw[bx];omega)];refine⟨?fr,L,R,Lq,o,l10,cc,hL,by simpa [runG]using hLv,hLq,fun _=>rfl,Nat.le_refl _,fun n m hm=>?g⟩;case g=>
   obtain⟨m,rfl⟩:=qNz m (by omega)
   rw[AB]
   cases l10<;>simp[runG,hrr,K7]
   all_goals rfl
 |e+1,r,a,L,Lq,R,l10,cc,hd,hL,hLv,hLq,hc1,hc2=>by
  have hro:=hc.be.ro;have hpl:=hc.be.pl;have hlt:(r:Int)<c.beach.rows:=by omega
  have hw:=CB (k:=r) (by omega);have hQ:=hO.ln _ _ _ _ hLv;have hgr:=hO.gr _ _ _ _ hLv;have w1:IntKind.i64.wrap (c.beach.places-gs[k].2)=c.beach.places-gs[k].2:=AY (by omega) (by omega);have w2:IntKind.i64.wrap (c.beach.places-gs[k].2+1)=c.beach.places-gs[k].2+1:=AY (by omega) (by omega);have hfl:((bj c.beach.rows.toNat).drop r).flatMap (atR c ws gs[k] o)=atR c ws gs[k] o r++((bj c.beach.rows.toNat).drop (r+1)).flatMap (atR c ws gs[k] o):=by rw[bw (by rw[bx];omega),cz,cx]
  have hgne:gs.map CN≠[]:=fun e0=>by have:=congrArg bg e0;simp at this;subst this;simp at hk
  have hsl:sl (gs.map CN)=.list false (gs.map CN):=by obtain⟨y,l,e0⟩:=bk hgne;rw[e0];rfl
  obtain⟨fr1,L1,R1,Lq1,o1,l11,c1,f0,f1,f3,f4,f5,f23,f24,j1,j2,j3,j4,j5,q7⟩:=AKZ hc hO hgl W k hk hgk ws hrec r hlt o hol ho Y hY (c.beach.places-gs[k].2+1) rfl (c.beach.places-gs[k].2+1).toNat 0 a L Lq R l10 cc (by omega) hL hLv hLq hc1 hc2;rw[cq,show(bj (c.beach.places-gs[k].2+1).toNat).flatMap (jJ c ws gs[k] o r)=atR c ws gs[k] o r from rfl]at j2 j4 q7;have q7:=fun n=>q7 (n+192) (n+W+1292) (by omega);have e192:∀n,n+192+W+1100=n+W+1292:=fun n=>by omega
  simp only[e192]at q7;rw[hfl,JH];have p1:=hL.p1;cases hG:(runG step a (atR c ws gs[k] o r)).2 with
  |false=>
   rw[if_neg (by simp)]
   rw[hG]at j2
   refine⟨[],L1,R1,Lq1,o1,none,c1,j1,by rw[hG];exact j2,j3,fun h=>absurd h (by rw[hG];decide),by omega,fun n m hm=>?_⟩
   obtain⟨m,rfl⟩:=qNz m (by omega)
   have q7:=q7 n
   rw[hG]at q7
   rw[if_neg (by rw[hG];decide),AB]
   simp only[DH,AE]at p1
   rcases hgr with rfl|⟨j,γg,Lj,rfl,hj,hjg⟩
   ·simp only[hsl]at q7|-;rcases l10 with _|⟨g1,x1⟩<;>(simp[K7]at q7;simp[hlt,hw,hk,hQ,p1,w1,w2,CN,DJ,K7,q7])
   ·obtain⟨hjR,hjl,hjn⟩:=VU hQ hj;rcases l10 with _|⟨g1,x1⟩<;>(simp[K7]at q7;simp[hlt,hw,hk,hQ,p1,w1,w2,hjl,hjg,hjn,CN,DJ,K7,q7])
  |true=>
   rw[if_pos rfl]
   obtain rfl:=j4 hG
   rw[hG]at j2
   obtain⟨fr0,L',R',Lq',o',l10',c',i1,i2,i3,i4,i5,ih⟩:=A37 hc hO hgl W k hk hgk ws hrec o1 hol ho Y hY e (r+1) _ L1 Lq1 R1 l11 c1 (by omega) j1 j2 j3 (by omega) (by omega)
   refine⟨fr0,L',R',Lq',o',l10',c',i1,i2,i3,i4,by omega,fun n m hm=>?_⟩
   obtain⟨m,rfl⟩:=qNz m (by omega)
   have ih:=ih n m (by omega)
   have q7:=q7 n
   rw[hG]at q7
   generalize (runG step (runG step a (atR c ws gs[k] o1 r)).1 (((bj c.beach.rows.toNat).drop (r+1)).flatMap (atR c ws gs[k] o1))).2=zz at ih|-
   rw[AB]
   simp only[DH,AE]at p1
   rcases hgr with rfl|⟨j,γg,Lj,rfl,hj,hjg⟩
   ·simp only[hsl]at q7 ih f1|-;rcases l10 with _|⟨g1,x1⟩<;>rcases l11 with _|⟨g2,x2⟩<;>(simp[K7]at q7 ih;simp[hlt,hw,hk,hQ,p1,w1,w2,CN,DJ,K7,q7,f0,f1,f3,f4,f5,f23,f24,ih])
   ·obtain⟨hjR,hjl,hjn⟩:=VU hQ hj;rcases l10 with _|⟨g1,x1⟩<;>rcases l11 with _|⟨g2,x2⟩<;>(simp[K7]at q7 ih;simp[hlt,hw,hk,hQ,p1,w1,w2,hjl,hjg,hjn,CN,DJ,K7,q7,f0,f1,f3,f4,f5,f23,f24,ih])
theorem kSt(hc:CW c)(hO:zN Q gs gl Lv)(hgl:gs.length<=9)(hgs:∀g∈gs,g.1<c.fams.length/\1<=g.2/\g.2<=4)(hs:vT c γ B Q l0 γ0 N0 Lv step):∀(ws:List (Nat×Int)) (k:Nat),gs.drop k=ws->k<=gs.length->AR0 c γ B Q l0 γ0 Lv step gl g3 g7 g8 (N0+400*ws.length+1000) k ws
 |[],k,hws,hkl=>by
  intro o hol ho a L Lq R Y cc dd fr hL hLv hLq hY hc1 hc2;have hkn:k=gs.length:=by have:=congrArg bg hws;simp at this;omega
  have hQ:=hO.ln _ _ _ _ hLv;have hR:=hO.st _ _ _ _ hLv;have hgr:=hO.gr _ _ _ _ hLv;obtain⟨v,p7,hv⟩:=hLq.p7;have p3:=hLq.p3;have hstR:E0 (R++Lq::Y):=AFT (by rw[hQ];exact hR) (by rw[hQ];exact hLq.st) (by rw[hQ];exact hY);have hst0:E0 (R++Lq::(Y++[[]])):=by have:=FY hstR (loc:=[]) (fun _ _=>rfl);rwa [cd,bq]at this
  have hrun:runG step a [o]=step a o:=by
   simp only[runG];split
   ·rename_i h;rw[<-h]
   ·rename_i h;rw[<-eq_false_of_ne_true h]
  have hat5:∀(a:AA) (Z:List AA),(R++a::Z)[Q]? = some a:=fun a Z=>by rw[<-hQ];exact at5 R a Z
  have hwv:weakV v=v:=by rcases hv with⟨rfl,_⟩|⟨_,_,rfl,_⟩<;>rfl
  rw[show FI c (AV c) [] o=[o] from rfl,hrun];obtain⟨L',R',c',s1,s2,s3,s4⟩:=hs a L Lq R Y [] cc [(16,true,v),(15,true,.yld l0 BE γ0),(2,true,.ptr (Q+1) 3 g3 0),(3,true,.ptr (Q+1) 7 g7 0)] o v hL hLv hc1 hc2 ho (by omega) hv hst0;refine⟨L',R',Lq,o,c',s1,s2,hLq.more s3,fun _=>rfl,s3,fun n=>?_⟩;have hQ2:=hO.ln _ _ _ _ s2;have hR2:=hO.st _ _ _ _ s2;have sR2:∀(A:AA) (lo:AA),R'.map (AJ ⟨A::(R'++Lq::Y),lo⟩)=R':=fun A lo=>hR2 _ (by simp;omega);have sY:∀(A:AA) (lo:AA),Y.map (AJ ⟨A::(R'++Lq::Y),lo⟩)=Y:=fun A lo=>hY _ (by simp;omega);have sQ:∀(A:AA) (lo:AA),AJ ⟨A::(R'++Lq::Y),lo⟩ Lq=Lq:=fun A lo=>hLq.st _ (by simp;omega);have sL:∀(A:AA) (lo:AA),AJ ⟨A::(R'++Lq::Y),lo⟩ L'=L':=fun A lo=>s1.st _ (by simp);have s4':=fun n=>s4 (n+994);simp only[Nat.add_right_comm _ 994 N0]at s4';have hne:¬Q=Q+Y.length+1:=by omega
  simp only[List.length_nil,Nat.mul_zero,Nat.add_zero];rw[hkn];rcases hgr with rfl|⟨j,γg,Lj,rfl,hj,hjg⟩
  ·cases gs with
   |nil=>
    simp[oY,AD,iQ,hat5,hQ,p3,p7,hwv,s4',sR2,sY,sQ,sL,hne,<-bf]
    done
   |cons g gs=>
    simp[oY,AD,rR,hat5,hQ,p3,p7,hwv,s4',sR2,sY,sQ,sL,hne,<-bf]
    done
  ·obtain⟨hjR,hjl,hjn⟩:=VU hQ hj;simp[oY,AD,hjl,hjg,hjn,hat5,hQ,p3,p7,hwv,s4',sR2,sY,sQ,sL,hne,<-bf];done
 |g::ws,k,hws,hkl=>by
  intro o hol ho a L Lq R Y cc dd fr hL hLv hLq hY hc1 hc2;have hk:k<gs.length:=by have:=congrArg bg hws;simp at this;omega
  rw[bw hk]at hws;cases hws;have hgk:=hgs gs[k] (List.getElem_mem hk);have hQ:=hO.ln _ _ _ _ hLv;have hgr:=hO.gr _ _ _ _ hLv;have p1:=hL.p1;have hlen:(gs[k]::gs.drop (k+1)).length=(gs.drop (k+1)).length+1:=rfl;obtain⟨fr0,L',R',Lq',o',l10',c',i1,i2,i3,i4,i5,q4⟩:=A37 hc hO hgl (N0+400*(gs.drop (k+1)).length) k hk hgk (gs.drop (k+1)) (kSt hc hO hgl hgs hs (gs.drop (k+1)) (k+1) rfl (by omega)) o hol ho Y hY c.beach.rows.toNat 0 a L Lq R none cc (by omega) hL hLv hLq hc1 hc2;rw[cq,<-AFU]at i2 i4 q4;refine⟨L',R',Lq',o',c',i1,i2,i3,i4,by omega,fun n=>?_⟩;have hQ2:=hO.ln _ _ _ _ i2;have hR2:=hO.st _ _ _ _ i2;have sR2:∀(A:AA) (lo:AA),R'.map (AJ ⟨A::(R'++Lq'::Y),lo⟩)=R':=fun A lo=>hR2 _ (by simp;omega);have sY:∀(A:AA) (lo:AA),Y.map (AJ ⟨A::(R'++Lq'::Y),lo⟩)=Y:=fun A lo=>hY _ (by simp;omega);have sQ:∀(A:AA) (lo:AA),AJ ⟨A::(R'++Lq'::Y),lo⟩ Lq'=Lq':=fun A lo=>i3.st _ (by simp;omega);have sL:∀(A:AA) (lo:AA),AJ ⟨A::(R'++Lq'::Y),lo⟩ L'=L':=fun A lo=>i1.st _ (by simp);rw[hlen,show n+(N0+400*((gs.drop (k+1)).length+1)+1000)=n+(N0+400*(gs.drop (k+1)).length)+1400 by omega];have hki:¬(k:Int)=(gs.length:Int):=by omega
  have hki2:¬k=gs.length:=by omega
  have hgne:gs.map CN≠[]:=fun e0=>by have:=congrArg bg e0;simp at this;subst this;simp at hk
  have hsl:sl (gs.map CN)=.list false (gs.map CN):=by obtain⟨y,l,e0⟩:=bk hgne;rw[e0];rfl
  have q4:=q4 (n+94) (n+(N0+400*(gs.drop (k+1)).length)+1394) (by have:=hc.be.ro;omega);rw[show n+94+(N0+400*(gs.drop (k+1)).length)+1300=n+(N0+400*(gs.drop (k+1)).length)+1394 by omega]at q4;generalize n+(N0+400*(gs.drop (k+1)).length)=n2 at q4|-;generalize (runG step a (FI c (AV c) (gs[k]::gs.drop (k+1)) o)).2=z at q4|-;simp only[DH,AE]at p1;rcases hgr with rfl|⟨j,γg,Lj,rfl,hj,hjg⟩
  ·simp only[hsl]at q4|-;cases z<;>(simp[K7]at q4;simp[oY,AD,hk,hki,hki2,hQ,p1,DJ,K7,q4,sR2,sY,sQ,sL])
  ·obtain⟨hjR,hjl,hjn⟩:=VU hQ hj;cases z<;>(simp[K7]at q4;simp[oY,AD,hk,hki,hki2,hQ,p1,hjl,hjg,hjn,DJ,K7,q4,sR2,sY,sQ,sL])
end
theorem iT{gs:List (Nat×Int)}{k:Nat}(hk:k<gs.length):DX (gs.take (k+1))=DX (gs.take k)+gs[k].2:=by unfold DX;rw[List.take_succ_eq_append_getElem hk,ck,List.sum_append];simp only[bp,List.map_nil,List.sum_cons,List.sum_nil,Int.add_zero]
theorem bJ{gs:List (Nat×Int)}(h:∀g∈gs,1<=g.2/\g.2<=4):0<=DX gs/\DX gs<=gs.length*4:=fS (f:=fun g:Nat×Int=>g.2) (m:=4) fun g hg=>by have:=h g hg;omega
section
variable {α:Type}{c:AU}{γ:Nat}{B:AA}{Q l0 γ0 N0:Nat}{Lv:Nat->Bool->α->List AA->Prop}{step:α->List Sp->α×Bool}{gs:List (Nat×Int)}{gl:V}
theorem A38(hgl:gs.length<=9)(hgs:∀g∈gs,1<=g.2/\g.2<=4)(L:AA)(R:List AA)(hQ:R.length=Q)(hgr:cE R gs gl)(g3:Nat)(B3:V):∀(d k cc:Nat),k+d=gs.length->g3<cc->∃fr,BS fr 1=some (true,.ref [gl])/\BS fr 2=some (true,.ref [.ptr 0 911 (γ+1) 0])/\BS fr 3=some (true,.ptr (Q+1) 3 g3 0)/\BS fr 4=some (true,i (DX gs)) /\
  ∀n m,d<m->BT (AF cg ann kn (n+400) 30) S7 (ann 30 (CA S7)) m ⟨cc,[(1,true,.ref [gl]),(2,true,.ref [.ptr 0 911 (γ+1) 0]),(3,true,.ptr (Q+1) 3 g3 0),(4,true,i (DX (gs.take k))),(9,true,gl),(10,true,i gs.length),(11,true,i k)],⟨L::R,[(3,g3,.box [B3])]⟩⟩ =
   some (.exit 0,⟨cc+d,fr,⟨L::R,[(3,g3,.box [B3])]⟩⟩)
 |0,k,cc,hd,hg=>by
  obtain rfl:k=gs.length:=by omega
  rw[List.take_length];refine⟨?fr,?g1,?g2,?g3,?g4,fun n m hm=>?g9⟩;case g9=>
   obtain⟨m,rfl⟩:=qNz m (by omega)
   rw[AB]
   simp
   rfl
  all_goals simp
 |d+1,k,cc,hd,hg=>by
  have hk:k<gs.length:=by omega
  have hw:=CB (k:=k) (by omega);have hb:=bJ (gs:=gs.take k) fun g hg=>hgs g (bz hg);have hbl:(gs.take k).length<=9:=by rw[bm];omega
  have hgk:=hgs _ (List.getElem_mem hk);have w1:IntKind.i64.wrap (DX (gs.take k)+gs[k].2)=DX (gs.take k)+gs[k].2:=AY (by omega) (by omega);obtain⟨fr,e1,e2,e3,e4,ih⟩:=A38 hgl hgs L R hQ hgr g3 B3 d (k+1) (cc+1) (by omega) (by omega);refine⟨fr,e1,e2,e3,e4,fun n m hm=>?_⟩;obtain⟨m,rfl⟩:=qNz m (by omega);have ih:=ih n m (by omega);rw[iT hk,show cc+1+d=cc+(d+1) by omega]at ih;generalize DX (gs.take k)=PP at *;have hgne:gs.map CN≠[]:=fun e0=>by have:=congrArg bg e0;simp at this;subst this;simp at hk
  have hsl:sl (gs.map CN)=.list false (gs.map CN):=by obtain⟨y,l,e0⟩:=bk hgne;rw[e0];rfl
  rw[AB];rcases hgr with rfl|⟨j,γg,Lj,rfl,hj,hjg⟩
  ·simp only[hsl]at ih|-;simp at ih;simp[hk,hw,hQ,w1,CN,DJ,AW,ih]
  ·obtain⟨hjR,hjl,hjn⟩:=VU hQ hj;have hjl0:=hjl [];rw[List.append_nil]at hjl0;have hjn0:¬j=Q:=by omega
   simp at ih;simp[hk,hw,hQ,w1,hjl0,hjg,hjn0,CN,DJ,AW,ih]
theorem AK0{gs:List (Nat×Int)}(h:∀g∈gs,1<=g.2/\g.2<=4)(hl:gs.length<=9):0<=DX gs/\DX gs<=36:=by have:=bJ h;omega
theorem bK(hc:CW c)(hO:zN Q gs gl Lv)(hgl:gs.length<=9)(hgs:∀g∈gs,g.1<c.fams.length/\1<=g.2/\g.2<=4)(hs:vT c γ B Q l0 γ0 N0 Lv step)(a:α)(L:AA)(RS:List AA)(Ly:AA)(hL:Lw c γ B L)(hLv:Lv (γ0+1) true a (RS++[Ly]))(hγ:γ+1<γ0+1)(fr:Fr):∃L' R' c',Lw c γ B L'/\Lv c' (runG step a (P5 c (AV c) gs)).2 (runG step a (P5 c (AV c) gs)).1 R'/\γ0+1<=c' /\
  ∀n,HQ (BL cg ann kn (n+N0+6000)) none ⟨γ0+1,fr,⟨L::RS,Ly⟩⟩ 167 [.yld l0 BE γ0,.ref [gl],.ref [.ptr 0 911 (γ+1) 0]]=UG none fr c' (.tup []) (B5 (L'::R')):=by
 have hQ:=hO.ln _ _ _ _ hLv
 have hR:=hO.st _ _ _ _ hLv
 have hgr:=hO.gr _ _ _ _ hLv
 have p1:=hL.p1
 have qch:=fun n=>AHN n c (by have:=hc.ch;have:=hc.be.ro;omega) (fun l hl=>by have:=hc.cr l hl;have:=hc.be.pl;omega)
 have hpl:=AK0 (fun g hg=>(hgs g hg).2) hgl
 have sL:=hL.st
 obtain⟨fr1,e1,e2,e3,e4,q3⟩:=A38 (γ:=γ) hgl (fun g hg=>(hgs g hg).2) L (RS++[Ly]) hQ hgr (γ0+1) (.yld l0 BE γ0) gs.length 0 (γ0+2) (by omega) (by omega)
 have q3:=fun n m=>q3 n (m+100) (by omega)
 rw[List.take_zero,show DX []=0 from rfl]at q3
 by_cases hp:(G5 c:Int)<DX gs
 ·have hall:P5 c (AV c) gs=[]:=if_pos hp;rw[hall];refine⟨L,RS++[Ly],γ0+2+gs.length,hL,hO.mo _ _ _ _ _ hLv (by omega),by omega,fun n=>?_⟩;rw[A5 Tryz.func167 b167 rfl (by simp)];have hst:∀lo,List.map (AJ ⟨L::(RS++[Ly]),lo⟩) (RS++[Ly])=RS++[Ly]:=fun lo=>hR _ (by simp at hQ|-;omega);have hQ2:RS.length+1=Q:=by simpa using hQ
  generalize n+N0=n2;simp only[DH,AE]at p1 qch;simp only[bq];generalize hRR:RS++[Ly]=R at *;rcases hgr with rfl|⟨j,γg,Lj,rfl,hj,hjg⟩
  ·cases gs with
   |nil=>
    rw[show DX []=0 from rfl]at hp
    omega
   |cons g gs=>
    simp[rR]at q3
    simp[xK,AD,rR,hQ,p1,q3,e1,e2,e3,e4,qch,AO,AZ,AP,hp,sL,hst,DJ]
    done
  ·obtain⟨hjR,hjl,hjn⟩:=VU hQ hj;simp at q3;simp[xK,AD,hQ,p1,q3,e1,e2,e3,e4,qch,AO,AZ,AP,hp,sL,hst,DJ];done
 ·have hall:P5 c (AV c) gs=FI c (AV c) gs []:=if_neg hp;rw[hall];have hQ2:RS.length+1=Q:=by simpa using hQ
  let Lq:AA:=[(3,γ0+1,.box [.yld l0 BE γ0]),(7,γ0+2+gs.length,.box [.nil]),(8,γ0+2+gs.length+1,.box [.fn 168 [] [.ref [gl],.ptr (Q+1) 3 (γ0+1) 0,.ptr (Q+1) 7 (γ0+2+gs.length) 0,.ref [.ptr 0 911 (γ+1) 0],.ptr (Q+1) 8 (γ0+2+gs.length+1) 0]])];have hLq:dH γ l0 γ0 (Q+1) (γ0+1) (γ0+2+gs.length) (γ0+2+gs.length+1) gl [] (γ0+2+gs.length+2) Lq:=by
   refine⟨rfl,⟨.nil,rfl,.inl ⟨rfl,rfl⟩⟩,rfl,fun t ht=>?_,by omega⟩;have e0:¬Q+1=t.up.length:=by omega
   obtain⟨up,lo⟩:=t;simp only at e0;simp[Lq,e0]
  obtain⟨L',R',Lq',o',c',i1,i2,i3,i4,i5,qq⟩:=kSt hc hO hgl hgs hs gs 0 (cq ..) (Nat.zero_le _) [] rfl (fun x hx=>by cases hx) a L Lq (RS++[Ly]) [] (γ0+2+gs.length+2) 29 [(28,true,.fn 168 [] [.ref [gl],.ptr (Q+1) 3 (γ0+1) 0,.ptr (Q+1) 7 (γ0+2+gs.length) 0,.ref [.ptr 0 911 (γ+1) 0],.ptr (Q+1) 8 (γ0+2+gs.length+1) 0]),(7,true,.ptr (Q+1) 7 (γ0+2+gs.length) 0),(8,true,.ptr (Q+1) 8 (γ0+2+gs.length+1) 0)] hL (hO.mo _ _ _ _ _ hLv (by omega)) hLq (fun _ _=>rfl) (by omega) (by omega);refine⟨L',R',c',i1,i2,by omega,fun n=>?_⟩;rw[A5 Tryz.func167 b167 rfl (by simp)];have hQ3:=hO.ln _ _ _ _ i2;have hR3:=hO.st _ _ _ _ i2;have qq:=qq (n+4992-400*gs.length);have hca:=A5 (A:=ann) (kn:=kn) (n:=n+N0+5992) Tryz.func168 b168 rfl (args:=[i ((0:Nat):Int),.ref [gl],.ptr (Q+1) 3 (γ0+1) 0,.ptr (Q+1) 7 (γ0+2+gs.length) 0,.ref [.ptr 0 911 (γ+1) 0],.ptr (Q+1) 8 (γ0+2+gs.length+1) 0]) (by simp) (some 29) (γ0+2+gs.length+2) [(28,true,.fn 168 [] [.ref [gl],.ptr (Q+1) 3 (γ0+1) 0,.ptr (Q+1) 7 (γ0+2+gs.length) 0,.ref [.ptr 0 911 (γ+1) 0],.ptr (Q+1) 8 (γ0+2+gs.length+1) 0]),(7,true,.ptr (Q+1) 7 (γ0+2+gs.length) 0),(8,true,.ptr (Q+1) 8 (γ0+2+gs.length+1) 0)] (L::(RS++[Ly])) Lq;rw[show n+4992-400*gs.length+(N0+400*gs.length+1000)=n+N0+5992 by omega]at qq;have hun:B5 (L'::(R'++Lq'::[]))=some (L'::R',Lq'):=by have:=unsnoc_snoc Lq' (L'::R');rwa [bq]at this
  rw[hun]at qq;have hca:=hca.trans qq;have sR3:∀lo,R'.map (AJ ⟨L'::R',lo⟩)=R':=fun lo=>hR3 _ (by simp;omega);have sL3:∀lo,AJ ⟨L'::R',lo⟩ L'=L':=fun lo=>i1.st _ (by simp);generalize n+N0=n2 at hca|-;generalize (runG step a (FI c (AV c) gs [])).2=z at *;simp only[DH,AE]at p1 qch;simp only[Lq]at hca;simp only[bq];generalize hRR:RS++[Ly]=R at *;have hpn:¬(G5 c:Int)<DX gs:=hp;rcases hgr with rfl|⟨j,γg,Lj,rfl,hj,hjg⟩
  ·cases gs with
   |nil=>
    simp[iQ]at q3 hca
    simp[xK,AD,iQ,hQ,p1,q3,e1,e2,e3,e4,qch,AO,AZ,AP,hpn,hca,sR3,sL3,DJ,AW]
    done
   |cons g gs=>
    simp[rR]at q3 hca
    simp[xK,AD,rR,hQ,p1,q3,e1,e2,e3,e4,qch,AO,AZ,AP,hpn,hca,sR3,sL3,DJ,AW]
    done
  ·obtain⟨hjR,hjl,hjn⟩:=VU hQ hj;simp at q3 hca;simp[xK,AD,hQ,p1,q3,e1,e2,e3,e4,qch,AO,AZ,AP,hpn,hca,sR3,sL3,DJ,AW];done
end
end Go.Proofs.Tryz.Op
