/- The contracts of seatings and possible, from any stack. No condition but a valid case. -/
import Derived.Test.YthhdhbalenanjaaGreatS5
noncomputable section
open Go.Proofs.Tryz renaming prog->cq
open List renaming cons_append->bj,append_assoc->bk,map_nil->bq,map_append->bw,map_cons->bx,append_inj->bz,getElem?_append_right->bb,getElem?_eq_some_iff->bc,nil_append->bf,getElem?_cons_succ->bg,not_mem_nil->bh,mem_map->bm,mem_cons->bp,cons->ck
open Nat renaming reduceAdd->bn,le_refl->cj
set_option maxRecDepth 100000
set_option linter.unusedSimpArgs false
open Go Go.Pg Go.Proofs Go.Wind
namespace Go.Pg
variable {fr:Fr}
theorem AA4{fr':Fr}{l q γ c N:Nat}{fr0:Fr}{ps:List Tmp}{asg body:Code}{up u:List AA}{loc lc:AA}(h:St.get ⟨up,loc⟩ l q=some (γ,.loop fr0 ps asg body N .busy))(hu:B9 up=some (u,lc))(hl:l<up.length)(hc:γ<c) :
  ON fr l q γ (some (.ret,⟨c,fr',⟨up,loc⟩⟩))=some (.bool false,⟨c,fr,St.put ⟨u.map (AH ⟨up,loc⟩),AH ⟨up,loc⟩ lc⟩ l q γ (.loop fr0 ps asg body N (.left .ret))⟩):=by
 unfold ON
 simp only[h,hu]
 have:(Nat.beq γ γ&&Nat.blt l up.length&&Nat.blt γ c)=true:=by simp[hc,hl]
 rw[this]
 rfl
theorem wQ{n γ c:Nat}{fr' fr0:Fr}{s:St}{ps:List Tmp}{asg body:Code}{N:Nat}(h:s.get n A8=some (γ,.loop fr0 ps asg body N (.left .ret)))(hc:γ<c):rE fr n γ (some ⟨c,fr',s⟩)=some (.ret,⟨c,fr,s.put n A8 γ .dead⟩):=by
 unfold rE;simp only[h];have:(Nat.beq γ γ&&Nat.blt γ c)=true:=by simpa using hc
 rw[this]
end Go.Pg
namespace Go.Proofs.Tryz.Op
abbrev fnS(γ:Nat)(gl:V):V:=.fn 167 [] [.ref [gl],.ref [.ptr 0 911 (γ+1) 0]]
theorem dC{c:AP}{γ:Nat}{B:AA}{gs:List (Nat×Int)}{gl:V}(hgl:gl=sl (gs.map CM)\/∃j g n,gl=.vec (j+1) 39 g n)(L:AA)(hL:Lw c γ B L)(RS:List AA)(Ly:AA)(hj:∀j g n,gl=.vec (j+1) 39 g n->j<RS.length+1)(hst:EQ (RS++[Ly]))(cc d:Nat)(fr:Fr)(n:Nat):G7 (BH cq ann kn (n+100)) (some d) ⟨cc,fr,⟨L::RS,Ly⟩⟩ 128 [.ptr 0 911 (γ+1) 0,gl]=some ⟨cc+2,(d,true,fnS γ gl)::fr,⟨L::RS,Ly⟩⟩:=by
 have sL:=hL.st;have sR:∀(A:AA) (lo:AA),(RS++[Ly]).map (AH ⟨A::(RS++[Ly]),lo⟩)=RS++[Ly]:=fun A lo=>hst _ (by simp);have sR1:∀(A:AA) (lo:AA),RS.map (AH ⟨A::(RS++[Ly]),lo⟩)=RS/\AH ⟨A::(RS++[Ly]),lo⟩ Ly=Ly:=fun A lo=>by have:=sR A lo;rw[bw]at this;have:=bz this (by simp);exact⟨this.1,by simpa using this.2⟩
 rw[A2 Tryz.func128 b128 rfl (by simp)];rcases hgl with rfl|⟨j,g,m,rfl⟩
 ·have hcl:∀f:Nat,AG (f+3) (sl (gs.map CM))=true:=fun f=>by cases gs<;>simp[sl,CM]
  cases gs with
  |nil=>simp[AIU,AD,iG,sL,(sR1 _ _).1,(sR1 _ _).2]
  |cons a gs=>simp[AIU,AD,rL,CM,sL,(sR1 _ _).1,(sR1 _ _).2]
 ·have hjn:=hj j g m rfl;have e1:¬j+1=RS.length+1+1:=by omega
  have e2:¬j=RS.length+1:=by omega
  simp[AIU,AD,e2,sL,(sR1 _ _).1,(sR1 _ _).2]
theorem bS.more{R:List AA}{gs:List (Nat×Int)}{gl:V}(h:bS R gs gl)(Z:List AA):bS (R++Z) gs gl:=by
 rcases h with h|⟨j,g,Lj,h1,h2,h3⟩
 ·exact .inl h
 ·refine .inr ⟨j,g,Lj,h1,?_,h3⟩;rw[List.getElem?_append_left (bc.1 h2).1];exact h2
def KJ(γ N c4:Nat)(gl:V):Fr:=[(7,true,fnS γ gl),(6,true,gl),(5,true,.ptr 0 911 (γ+1) 0),(0,true,.ptr 0 911 (γ+1) 0),(1,true,gl),(4,true,.ptr N 4 c4 0)]
def GF:Code:=.block 1 (.seq (g91 149) .ret)
@[simp] theorem BFS(n:Nat)(st:XS):AF cq ann kn n 9 GF st=AF cq ann kn n 9 (.block 1 (.seq (g91 149) .ret)) st:=rfl
def AA5(γ:Nat)(gl:V)(RS:List AA)(c4 γ0:Nat)(cc:Nat)(g:Bool)(_:Unit)(R:List AA):Prop:=∃Ly,R=RS++[Ly]/\Ly.get 4=some (c4,.box [.bool (!g)])/\Ly.get A8=some (γ0,.loop (KJ γ (RS.length+1) c4 gl) [8] .skip GF 9 (if g=true then .ready else .left .ret))/\(∀t:St,RS.length+2<=t.up.length->AH t Ly=Ly)/\c4<cc/\γ0<cc
theorem AX1{γ:Nat}{gs:List (Nat×Int)}{gl:V}{RS:List AA}{c4 γ0:Nat}(hgr:bS RS gs gl)(hst:EQ RS):zA (RS.length+1) gs gl (AA5 γ gl RS c4 γ0) where
 mo:=fun c c' g a R ⟨Ly,h1,h2,h3,h4,h5,h6⟩ hc=>⟨Ly,h1,h2,h3,h4,by omega,by omega⟩
 ln:=fun c g a R ⟨Ly,h1,_⟩=>by rw[h1];simp
 st:=fun c g a R ⟨Ly,h1,_,_,h4,_⟩ t ht=>by rw[h1,bw,hst t (by omega),bx,bq,h4 t (by omega)]
 gr:=fun c g a R ⟨Ly,h1,_⟩=>by rw[h1];exact hgr.more _
theorem AG9{c:AP}{γ:Nat}{B:AA}{gl:V}{RS:List AA}{c4 γ0:Nat}(_:EQ RS):vI c γ B (RS.length+1) (RS.length+1) γ0 100 (AA5 γ gl RS c4 γ0) (fun _ _=>((),false)):=by
 intro a L Lq R Y loc cc fr o v hL hLv hc1 hc2 ho hol hv hsta;obtain⟨Ly,rfl,p4,pr,pst,h4c,h0c⟩:=hLv;rw[if_pos rfl]at pr;refine⟨L,RS++[(A8,γ0,.loop (KJ γ (RS.length+1) c4 gl) [8] .skip GF 9 (.left .ret))::(4,c4,.box [.bool true])::(A8,γ0,.loop (KJ γ (RS.length+1) c4 gl) [8] .skip GF 9 .busy)::Ly],cc,hL,⟨_,rfl,?_,?_,?_,h4c,h0c⟩,cj _,fun n=>?_⟩
 ·simp[A8]
 ·simp
 ·intro t h;simp[A1,pst t h]
 ·have sL:=hL.st;have hsp:∀t:St,RS.length+Y.length+4<=t.up.length->RS.map (AH t)=RS/\AH t Lq=Lq/\Y.map (AH t)=Y/\AH t loc=loc:=fun t ht=>by have h:=hsta t (by simp;omega);simp only[bw,bx,bq,bk,bj,bf]at h;have h1:=bz h (by simp);have h2:=ck.inj h1.2;have h3:=ck.inj h2.2;have h4:=bz h3.2 (by simp);exact⟨h1.1,h3.1,h4.1,by simpa using h4.2⟩
  have hat:∀(x:AA) (Z:List AA),(RS++x::Z)[RS.length]? = some x:=at5 RS;have hset:∀(x:AA) (Z:List AA) (f:AA->AA),(RS++x::Z).modify RS.length f=RS++f x::Z:=rN RS;have hun:∀A b:AA,∀Z:List AA,B9 (A::(RS++b::Lq::(Y++[loc])))=some (A::(RS++b::Lq::Y),loc):=fun A b Z=>by have:=unsnoc_snoc loc (A::(RS++b::Lq::Y));rwa [bj,bk,bj,bj]at this
  have hne1:¬RS.length+1=(L::(RS++[Ly]++Lq::Y)).length:=by simp
  have hg1:∀(A b:AA) (Z:List AA) (lo:AA) (x:Nat×AV),Z≠[]->b.get A8=some x->St.get ⟨A::(RS++b::Z),lo⟩ (RS.length+1) A8=some x:=fun A b Z lo x hz hx=>by
   have:¬RS.length+1=(A::(RS++b::Z)).length:=by
    cases Z with
    |nil=>exact absurd rfl hz
    |cons z Z=>simp
   unfold St.get;rw[if_neg this];simp[hx]
  simp only[bk,bj,bf];rw[T6 (hg1 _ _ _ _ _ (by simp) pr) rfl h0c];simp only[IU,Fr.put,KJ];simp;rw[GC (fr0:=KJ γ (RS.length+1) c4 gl) (ps:=[8]) (asg:=.skip) (body':=GF) (N:=9) (hg1 _ _ _ _ _ (by simp) pr) h0c];generalize hB:AV.loop (KJ γ (RS.length+1) c4 gl) [8] .skip GF 9 LS.busy=BB;simp[p4,hset,St.put,AA.put,A8,h4c];subst hB;rw[AA4 (q:=1000000) (fr0:=KJ γ (RS.length+1) c4 gl) (ps:=[8]) (asg:=.skip) (body:=GF) (N:=9) (hg1 L ((4,c4,.box [.bool true])::(1000000,γ0,.loop (KJ γ (RS.length+1) c4 gl) [8] .skip GF 9 .busy)::Ly) (Lq::(Y++[loc])) [] _ (by simp) (by simp[A8])) (hun _ _ []) (by simp) h0c];have s1:∀(A:AA) (lo:AA),RS.map (AH ⟨L::(RS++A::Lq::(Y++[loc])),lo⟩)=RS/\AH ⟨L::(RS++A::Lq::(Y++[loc])),lo⟩ Lq=Lq/\Y.map (AH ⟨L::(RS++A::Lq::(Y++[loc])),lo⟩)=Y/\AH ⟨L::(RS++A::Lq::(Y++[loc])),lo⟩ loc=loc:=fun A lo=>hsp _ (by simp<;>omega);have s2:∀(A:AA) (lo:AA),AH ⟨L::(RS++A::Lq::(Y++[loc])),lo⟩ Ly=Ly:=fun A lo=>pst _ (by simp<;>omega);have hne:¬RS.length=RS.length+(Y.length+1+1):=by omega
  simp[sL,(s1 _ _).1,(s1 _ _).2.1,(s1 _ _).2.2.1,(s1 _ _).2.2.2,s2,hset,St.put,AA.put,KJ];done
theorem AOC(l:List (List Sp)):(runG (fun (_:Unit) (_:List Sp)=>((),false)) () l).2=l.isEmpty:=by cases l<;>simp[runG]
theorem AX2{c:AP}(hc:BZ c){γ:Nat}{B:AA}{gs:List (Nat×Int)}{gl:V}(hgl:gs.length<=9)(hgs:∀g∈gs,g.1<c.fams.length/\1<=g.2/\g.2<=4)(RS:List AA)(hst:EQ RS)(hgr:bS RS gs gl)(L:AA)(hL:Lw c γ B L)(cc:Nat)(hcc:γ+1<cc):∃L' c',Lw c γ B L'/\cc<=c' /\
  ∀n dd fr,bL cq (some dd) fr Tryz.f91.results.toList (AF cq ann kn (n+6500) 9 c91 ⟨cc,AD 0 [.ptr 0 911 (γ+1) 0,gl],⟨L::RS,[]⟩⟩)=UC (some dd) fr c' (.bool (WV c (AN c) gs)) (B9 (L'::RS)):=by
 have hLy:AA5 γ gl RS cc (cc+3) (cc+3+1) true () (RS++[[(A8,cc+3,.loop (KJ γ (RS.length+1) cc gl) [8] .skip GF 9 .ready),(4,cc,.box [.bool false])]]):=by refine⟨_,rfl,by simp[A8],by simp[A8],fun t ht=>by simp,by omega,by omega⟩
 have hst4:EQ (RS++[[(4,cc,.box [.bool false])]]):=FC hst fun t _=>by simp
 have q128:=fun n fr=>dC (c:=c) (γ:=γ) (B:=B) (gs:=gs) (gl:=gl) (by
  rcases hgr with h|⟨j,g,Lj,h,_⟩
  ·exact .inl h
  ·exact .inr ⟨j,g,_,h⟩) L hL RS [(4,cc,.box [.bool false])] (fun j g n h=>by
   rcases hgr with h2|⟨j2,g2,Lj,h2,h3,_⟩
   ·rw[h2]at h;cases gs<;>simp[sl]at h
   ·rw[h2]at h;have:=(bc.1 h3).1;simp at h;omega) hst4 (cc+1) 7 fr n
 obtain⟨L',R',c',r1,r2,r3,r4⟩:=bF hc (AX1 (c4:=cc) (γ0:=cc+3) hgr hst) hgl hgs (AG9 hst) () L RS _ hL hLy (by omega) (KJ γ (RS.length+1) cc gl)
 rw[AOC]at r2
 unfold WV
 generalize (L7 c (AN c) gs).isEmpty=z at r2|-
 obtain⟨Ly',rfl,p4,pr,pst,h4c,h0c⟩:=r2
 refine⟨L',c',r1,by omega,fun n dd fr=>?_⟩
 have hun:B9 (L'::(RS++[Ly']))=some (L'::RS,Ly'):=by have:=unsnoc_snoc Ly' (L'::RS);rwa [bj]at this
 rw[hun]at r4
 have r4:=r4 (n+395)
 have hwg:weakV gl=gl:=by
  rcases hgr with rfl|⟨j,g,Lj,rfl,_⟩
  ·cases gs<;>simp[sl]
  ·rfl
 have sL:=r1.st
 simp only[KJ]at r4
 simp[c91,AD,q128,hwg,M2]
 rw[PJ rfl]
 simp
 have hne:¬RS.length+1=0:=by omega
 rw[show(Code.block 1 ((g91 149).seq Code.ret))=GF from rfl]
 rw[show n+395+100+6000=n+6495 by omega]at r4
 simp only[r4]
 have sR1:∀(A lo:AA),RS.map (AH ⟨A::RS,lo⟩)=RS:=fun A lo=>hst _ (by simp)
 have h4c':cc<c':=by omega
 rw[show ∀fr0:Fr,UC none fr0 c' (.tup []) (some (L'::RS,Ly'))=some ⟨c',fr0,⟨L'::RS,Ly'⟩⟩ from fun _=>rfl]
 cases z with
 |true=>
  rw[T5 (fr0:=KJ γ (RS.length+1) cc gl) (ps:=[8]) (asg:=.skip) (body:=GF) (N:=9) (by simp[St.get];simpa using pr) (by omega)]
  simp[p4,St.put,AA.put,A8,h4c',sL,sR1]
 |false=>
  rw[wQ (fr0:=KJ γ (RS.length+1) cc gl) (ps:=[8]) (asg:=.skip) (body:=GF) (N:=9) (by simp[St.get];simpa using pr) (by omega)]
  simp[p4,St.put,AA.put,A8,sL,sR1]
def EA(x:Sp):List V:=[i x.row,i x.place]
theorem AX3(st:XS):LU [3003000923052] st=cO 52 (LR 3 st) 922 [2] st:=rfl
theorem AX4(c:Nat)(fr:Fr)(up:List AA)(a b:Nat×AV):LU [3003000923052] ⟨c,fr,⟨up,[(6,a),(8,b)]⟩⟩=⟨c,fr,⟨up,[(6,a),(8,b)]⟩⟩:=by rw[AX3];rfl
theorem AX5(c γ g2 g o:Nat)(T:TypeId)(es:List (List V))(a6 a8:Nat)(c6 c8:List V)(fr:Fr)(L Ly:AA)(RS Z:List AA)(r2:AV)(h3:BL fr 2=some (true,.ptr (RS.length+1) 2 g o))(h2:Ly.get 2=some (g2,r2)) :
  LU [3003000923052] ⟨c,fr,⟨L::(RS++Ly::Z),[(52,γ,.vec T es),(6,a6,.box c6),(8,a8,.box c8)]⟩⟩=⟨c,uK (RS.length+(Z.length+1)+1) 52 (RS.length+1) 922 fr,⟨L::(RS++((922,γ,Q9 (RS.length+(Z.length+1)+1) 52 (RS.length+1) 922 (.vec T es))::(2,g2,Q9 (RS.length+(Z.length+1)+1) 52 (RS.length+1) 922 r2)::I0 2 Ly)::Z),[(6,a6,Q9 (RS.length+(Z.length+1)+1) 52 (RS.length+1) 922 (.box c6)),(8,a8,Q9 (RS.length+(Z.length+1)+1) 52 (RS.length+1) 922 (.box c8))]⟩⟩:=by
 rw[AX3]
 have hl:(L::(RS++Ly::Z)).length=RS.length+(Z.length+1)+1:=by simp
 have e1:LR 3 ⟨c,fr,⟨L::(RS++Ly::Z),[(52,γ,.vec T es),(6,a6,.box c6),(8,a8,.box c8)]⟩⟩=RS.length+1:=by show(match BL fr 2 with|some (true,.ptr l _ _ _)=>l|_=>0)=RS.length+1;rw[h3]
 rw[e1]
 unfold cO
 have e3:Q5 (RS.length+1) (RS.length+(Z.length+1)+1) (some (γ,.vec T es))=true:=by
  have:Nat.blt (RS.length+1) (RS.length+(Z.length+1)+1)=true:=by rw[Nat.blt_eq];omega
  simp[Q5,bQ,this]
 have ne:¬RS.length=RS.length+(Z.length+1):=by omega
 simp[uL,AA.get,yT,h2,iY,St.put,DW,rN,e3]
structure wR(l0 g2:Nat)(Ly0:AA)(s:List (List V))(cc:Nat)(Ly:AA):Prop where
 p2:∃γ,γ<cc/\Ly.get 2=some (g2,.box [pvl l0 922 γ s])/\(s≠[]->Ly.get 922=some (γ,.vec 86 s))
 ot:∀k,¬k=2->¬k=922->Ly.get k=Ly0.get k
 st:∀t:St,l0+1<=t.up.length->AH t Ly=Ly
theorem wR.more{l0 g2:Nat}{Ly0 Ly:AA}{s:List (List V)}{cc c2:Nat}(h:wR l0 g2 Ly0 s cc Ly)(hc:cc<=c2):wR l0 g2 Ly0 s c2 Ly:=by obtain⟨γ,h1,h2⟩:=h.p2;exact⟨⟨γ,by omega,h2⟩,h.ot,h.st⟩
theorem dD(t:St)(T:TypeId)(l:List Sp):CH t (.vec T (l.map EA))=.vec T (l.map EA):=OV fun e he v hv=>by obtain⟨x,_,rfl⟩:=bm.1 he;simp only[EA,bp,bh,or_false]at hv;rcases hv with rfl|rfl<;>rfl
theorem wR.first{l0 g2:Nat}{Ly0 Ly:AA}{cc:Nat}(h:wR l0 g2 Ly0 [] cc Ly)(x:Sp):wR l0 g2 Ly0 ([x].map EA) (cc+1) ((922,cc,.vec 86 [EA x])::(2,g2,.box [.vec l0 922 cc 1])::I0 2 Ly) where
 p2:=⟨cc,by omega,by simp[pvl],fun _=>by simp⟩
 ot:=fun k h1 h2=>by rw[<-h.ot k h1 h2];simp[h1,h2]
 st:=fun t ht=>by
  have e:¬l0=t.up.length:=by omega
  have e2:=dD t 86 [x];rw[bx,bq]at e2;rw[A1,A1,SS,h.st t ht,e2];obtain⟨up,lo⟩:=t;simp only at e;simp[EX,e]
theorem wR.next{l0 g2:Nat}{Ly0 Ly:AA}{cc:Nat}{l:List Sp}(h:wR l0 g2 Ly0 (l.map EA) cc Ly)(x:Sp):wR l0 g2 Ly0 ((l++[x]).map EA) (cc+1) ((2,g2,.box [.vec l0 922 cc (l.length+1)])::(922,cc,.vec 86 (l.map EA++[EA x]))::Ly) where
 p2:=by
  refine⟨cc,by omega,?_,fun _=>by simp⟩;have:pvl l0 922 cc ((l++[x]).map EA)=.vec l0 922 cc (l.length+1):=by cases l<;>simp[pvl]
  rw[this];simp
 ot:=fun k h1 h2=>by rw[<-h.ot k h1 h2];simp[h1,h2]
 st:=fun t ht=>by
  have e:¬l0=t.up.length:=by omega
  have e2:=dD t 86 (l++[x]);rw[bw,bx,bq]at e2;rw[A1,A1,h.st t ht,e2];obtain⟨up,lo⟩:=t;simp only at e;simp[EX,e]
theorem ALU{m:Nat}(hm:m<=100)(x:Sp):B0 cq 86 m [EA x]=true:=by have h2:(EA x).length=2:=rfl;rw[CC (by simp) (by simp)];simp[maxLen,h2];omega
theorem AOD(o:List Sp)(ho:o.length<=10)(v:V)(L Lq:AA)(RS Y:List AA)(hv:(v=.nil/\o=[])\/∃γ es,v=.vec (RS.length+1+1) 921 γ o.length/\Lq.get 921=some (γ,.vec 153 es)/\o.length<=es.length/\∀k (h:k<o.length) (h2:k<es.length),es[k]=A6 o[k])(g2 g3 g4 g6:Nat)(B6:List V)(h6:∀n k l d,B6.map (J7 n k l d 3)=B6)(Ly0:AA):∀(d k cc:Nat) (Ly:AA),k+d=o.length->wR (RS.length+1) g2 Ly0 ((o.take k).map EA) cc Ly->g2<cc->∃fr Ly' c',wR (RS.length+1) g2 Ly0 (o.map EA) c' Ly'/\cc<=c'/\BL fr 3=some (true,.ptr (RS.length+1) 3 g3 0)/\BL fr 4=some (true,.ptr (RS.length+1) 4 g4 0)/\BL fr 6=some (true,.ptr (RS.length+(Y.length+1+1)+1) 6 g6 0) /\
  ∀n m,d<m->BM (AF cq ann kn (n+400) 58) NV (ann 58 (CG NV)) m ⟨cc,[(2,true,.ptr (RS.length+1) 2 g2 0),(3,true,.ptr (RS.length+1) 3 g3 0),(4,true,.ptr (RS.length+1) 4 g4 0),(6,true,.ptr (RS.length+(Y.length+1+1)+1) 6 g6 0),(42,true,v),(43,true,i o.length),(44,true,i k)],⟨L::(RS++Ly::Lq::Y),[(6,g6,.box B6)]⟩⟩ =
   some (.exit 2,⟨c',fr,⟨L::(RS++Ly'::Lq::Y),[(6,g6,.box B6)]⟩⟩)
 |0,k,cc,Ly,hd,hLy,hg=>by
  obtain rfl:k=o.length:=by omega
  rw[List.take_length]at hLy;refine⟨?fr,Ly,cc,hLy,cj _,?g1,?g2,?g3,fun n m hm=>?g9⟩;case g9=>
   obtain⟨m,rfl⟩:=qNz m (by omega)
   rw[AB]
   simp
   rfl
  all_goals simp
 |d+1,k,cc,Ly,hd,hLy,hg=>by
  have hk:k<o.length:=by omega
  have hw:=B7 (k:=k) (by omega);rcases hv with⟨_,rfl⟩|⟨γr,es,rfl,hq1,hq2,hq3⟩
  ·simp at hk
  have hke:k<es.length:=by omega
  have hel:=hq3 k hk hke;have htk:o.take (k+1)=o.take k++[o[k]]:=List.take_succ_eq_append_getElem hk;have hln:(o.take k).length=k:=by rw[List.length_take];omega
  have hat:∀(x:AA) (Z:List AA),(RS++x::Z)[RS.length]? = some x:=at5 RS;have hset:∀(x:AA) (Z:List AA) (f:AA->AA),(RS++x::Z).modify RS.length f=RS++f x::Z:=rN RS;have hatZ:∀x:AA,(RS++x::Lq::Y)[RS.length+1]? = some Lq:=fun x=>by rw[bb (by omega),show RS.length+1-RS.length=0+1 by omega,bg];rfl
  obtain⟨γ,hγ,p2,p922⟩:=hLy.p2;have hN1:¬RS.length+1=RS.length+(Y.length+1+1)+1:=by omega
  have hN2:¬RS.length+1+1=RS.length+(Y.length+1+1)+1:=by omega
  have hg2:g2<cc+1+1:=by omega
  have hg2':g2<cc+1:=by omega
  by_cases hnil:o.take k=[]
  ·obtain rfl:k=0:=by have:=congrArg List.length hnil;rw[hln]at this;exact this
   rw[hnil]at hLy p2;have hLy2:=(hLy.more (by omega:cc<=cc+1)).first o[0];rw[show[o[0]]=o.take (0+1) by rw[htk,hnil];rfl]at hLy2;obtain⟨fr,Ly',c',i1,i2,f3,f4,f6,ih⟩:=AOD o ho _ L Lq RS Y (.inr ⟨γr,es,rfl,hq1,hq2,hq3⟩) g2 g3 g4 g6 B6 h6 Ly0 d (0+1) (cc+1+1) _ (by omega) hLy2 (by omega);refine⟨fr,Ly',c',i1,by omega,f3,f4,f6,fun n m hm=>?_⟩;obtain⟨m,rfl⟩:=qNz m (by omega);have ih:=ih n m (by omega);have happ:=ALU (m:=0) (by omega) o[0];have hgh:=fun c1 fr (h2:BL fr 2=some (true,.ptr (RS.length+1) 2 g2 0))=>AX5 c1 (cc+1) g2 g2 0 86 [EA o[0]] g6 cc B6 (A6 o[0]) fr L ((2,g2,.box [.vec (RS.length+(Y.length+1+1)+1) 52 (cc+1) 1])::Ly) RS (Lq::Y) _ h2 rfl;rw[AB];simp only[EA,A6,bq,A1X]at ih happ hgh p2 hel|-;simp at ih;simp[hk,hset,hq1,hq2,hel,hke,p2,happ,hg2,DW,LA,hgh,JM,O1,G8,GG,LB,TZ,h6,ih]
  ·have p922:=p922 (by simpa using hnil);have hLy2:=(hLy.more (by omega:cc<=cc+1)).next o[k];rw[<-htk,hln]at hLy2;obtain⟨fr,Ly',c',i1,i2,f3,f4,f6,ih⟩:=AOD o ho _ L Lq RS Y (.inr ⟨γr,es,rfl,hq1,hq2,hq3⟩) g2 g3 g4 g6 B6 h6 Ly0 d (k+1) (cc+1+1) _ (by omega) hLy2 (by omega);refine⟨fr,Ly',c',i1,by omega,f3,f4,f6,fun n m hm=>?_⟩;obtain⟨m,rfl⟩:=qNz m (by omega);have ih:=ih n m (by omega);have happ:=ALU (m:=k) (by omega) o[k];have hpv:pvl (RS.length+1) 922 γ ((o.take k).map EA)=.vec (RS.length+1) 922 γ k:=by
    cases hq:o.take k with
    |nil=>exact absurd hq hnil
    |cons a l=>
     rw[hq]at hln
     simp only[bx,pvl,List.length_map]
     rw[<-hln]
     rfl
   rw[hpv]at p2;have hm2:∀e∈(o.take k).map EA,e.length=2:=fun e he=>by obtain⟨x,_,rfl⟩:=bm.1 he;rfl
   have hm2:=eq_true hm2;have hlm:((o.take k).map EA).length=k:=by rw[List.length_map,hln]
   have hkm:min k o.length=k:=by omega
   generalize (o.take k).map EA=OO at *;rw[AB];simp only[EA,A6]at ih happ hel|-;simp at ih;simp[hk,hw,hset,hq1,hq2,hel,hke,p2,p922,happ,hm2,hlm,hg2,DW,AX4,ih]
def I2:Option (List Sp×BJ)->List Sp
 |none=>[]
 |some q=>q.1
def KE:Option (List Sp×BJ)->BJ
 |none=>⟨0,0,false⟩
 |some q=>q.2
def GI:Code:=.block 1 (.seq (IC 149) (.seq (.seq (IC 597) (.cond (.tmp 41) (.exit 1) .skip)) (.seq (IC 725) (.seq (.seq (IC 2517) (.block 2 (.loop NV))) (IC 2005)))))
@[simp] theorem uBe(n:Nat)(st:XS):AF cq ann kn n 58 GI st=AF cq ann kn n 58 (.block 1 (.seq (IC 149) (.seq (.seq (IC 597) (.cond (.tmp 41) (.exit 1) .skip)) (.seq (IC 725) (.seq (.seq (IC 2517) (.block 2 (.loop NV))) (IC 2005)))))) st:=rfl
structure LyB(γ l0 g1 g2 g3 g4 γ0:Nat)(fr0:Fr)(ls:LS)(acc:Option (List Sp×BJ))(cc:Nat)(Ly:AA):Prop where
 p1:Ly.get 1=some (g1,.box [.ptr 0 911 (γ+1) 0])
 p2:∃γ2,γ2<cc/\Ly.get 2=some (g2,.box [pvl l0 922 γ2 ((I2 acc).map EA)])/\((I2 acc).map EA≠[]->Ly.get 922=some (γ2,.vec 86 ((I2 acc).map EA)))
 p3:Ly.get 3=some (g3,.box (BT (KE acc)))
 p4:Ly.get 4=some (g4,.box [.bool acc.isSome])
 pr:Ly.get A8=some (γ0,.loop fr0 [16] (IC 37) GI 58 ls)
 st:∀t:St,l0+1<=t.up.length->AH t Ly=Ly
 b:g1<cc/\g2<cc/\g3<cc/\g4<cc/\γ0<cc
section
variable {γ l0 g1 g2 g3 g4 γ0:Nat}{fr0:Fr}{ls ls':LS}{acc:Option (List Sp×BJ)}{cc:Nat}{Ly:AA}
theorem LyB.more(h:LyB γ l0 g1 g2 g3 g4 γ0 fr0 ls acc cc Ly){c2:Nat}(hc:cc<=c2):LyB γ l0 g1 g2 g3 g4 γ0 fr0 ls acc c2 Ly:=by obtain⟨γ2,h1,h2⟩:=h.p2;exact⟨h.p1,⟨γ2,by omega,h2⟩,h.p3,h.p4,h.pr,h.st,by have:=h.b;omega⟩
theorem LyB.loop(h:LyB γ l0 g1 g2 g3 g4 γ0 fr0 ls acc cc Ly):LyB γ l0 g1 g2 g3 g4 γ0 fr0 ls' acc cc ((A8,γ0,.loop fr0 [16] (IC 37) GI 58 ls')::Ly):=by obtain⟨γ2,h1,h2,h3⟩:=h.p2;refine⟨by simpa [A8]using h.p1,⟨γ2,h1,by simpa [A8]using h2,by simpa [A8]using h3⟩,by simpa [A8]using h.p3,by simpa [A8]using h.p4,by simp,fun t ht=>by rw[A1,h.st t ht];rfl,h.b⟩
end
theorem LyB.emptied{γ l0 g1 g2 g3 g4 γ0:Nat}{fr0:Fr}{ls:LS}{acc:Option (List Sp×BJ)}{cc:Nat}{Ly:AA}(h:LyB γ l0 g1 g2 g3 g4 γ0 fr0 ls acc cc Ly):wR l0 g2 Ly [] cc ((2,g2,.box [.nil])::Ly) :=
 ⟨⟨0,by have:=h.b;omega,by simp[pvl],fun h=>absurd rfl h⟩,fun k h1 _=>by simp[h1],fun t ht=>by rw[A1,h.st t ht];simp[EX]⟩
theorem LyB.taken{γ l0 g1 g2 g3 g4 γ0:Nat}{fr0:Fr}{ls:LS}{acc:Option (List Sp×BJ)}{cc c2:Nat}{Ly Ly2:AA}(h:LyB γ l0 g1 g2 g3 g4 γ0 fr0 ls acc cc Ly)(hc:cc<=c2){o:List Sp}{s:BJ}(h2:wR l0 g2 Ly (o.map EA) c2 Ly2):LyB γ l0 g1 g2 g3 g4 γ0 fr0 ls (some (o,s)) c2 ((4,g4,.box [.bool true])::(3,g3,.box (BT s))::Ly2):=by
 obtain⟨γ2,e1,e2,e3⟩:=h2.p2;have ot:=h2.ot;refine⟨?_,⟨γ2,e1,by simpa [I2]using e2,by simpa [I2]using e3⟩,by simp[KE],by simp,?_,fun t ht=>?_,by have:=h.b;omega⟩
 ·simpa [ot 1 (by decide) (by decide)]using h.p1
 ·simpa [A8,ot 1000000 (by decide) (by decide)]using h.pr
 ·rw[A1,A1,h2.st t ht];simp[EX,BT]
def AOE(γ:Nat)(RS:List AA)(g1 g2 g3 g4 γ0:Nat)(fr0:Fr)(cc:Nat)(g:Bool)(acc:Option (List Sp×BJ))(R:List AA):Prop:=∃Ly,R=RS++[Ly]/\g=true/\LyB γ (RS.length+1) g1 g2 g3 g4 γ0 fr0 .ready acc cc Ly
theorem A8P{γ:Nat}{gs:List (Nat×Int)}{gl:V}{RS:List AA}{g1 g2 g3 g4 γ0:Nat}{fr0:Fr}(hgr:bS RS gs gl)(hst:EQ RS):zA (RS.length+1) gs gl (AOE γ RS g1 g2 g3 g4 γ0 fr0) where
 mo:=fun c c' g a R ⟨Ly,h1,h2,h3⟩ hc=>⟨Ly,h1,h2,h3.more hc⟩
 ln:=fun c g a R ⟨Ly,h1,_⟩=>by rw[h1];simp
 st:=fun c g a R ⟨Ly,h1,_,h4⟩ t ht=>by rw[h1,bw,hst t (by omega),bx,bq,h4.st t (by omega)]
 gr:=fun c g a R ⟨Ly,h1,_⟩=>by rw[h1];exact hgr.more _
@[simp] theorem AX6:JA cq 86=false:=by kernel_rfl
theorem NO(rec:F8)(l k g o:Nat)(a:V):A3 cq kn rec 86 [.ptr l k g o,a]=none:=by rw[AQ rfl];unfold EM;rw[show([V.ptr l k g o,a].all (AG 9))=false from rfl]
set_option maxHeartbeats 2000000 in
theorem AOF{c:AP}(hc:BZ c){γ:Nat}{B:AA}{RS:List AA}{g1 g2 g3 g4 γ0:Nat}{fr0:Fr}(_:EQ RS)(f1:BL fr0 1=some (true,.ptr (RS.length+1) 1 g1 0))(f2:BL fr0 2=some (true,.ptr (RS.length+1) 2 g2 0))(f3:BL fr0 3=some (true,.ptr (RS.length+1) 3 g3 0))(f4:BL fr0 4=some (true,.ptr (RS.length+1) 4 g4 0)) :
  vI c γ B (RS.length+1) (RS.length+1) γ0 1500 (AOE γ RS g1 g2 g3 g4 γ0 fr0) (fun acc l=>(EB c (AN c) acc l,true)):=by
 intro a L Lq R Y loc cc fr o v hL hLv hc1 hc2 ho hol hv hsta
 obtain⟨Ly,rfl,_,hLy⟩:=hLv
 have h0c:γ0<cc:=hLy.b.2.2.2.2
 have sL:=hL.st
 have hsp:∀t:St,RS.length+Y.length+4<=t.up.length->RS.map (AH t)=RS/\AH t Lq=Lq/\Y.map (AH t)=Y/\AH t loc=loc:=fun t ht=>by have h:=hsta t (by simp;omega);simp only[bw,bx,bq,bk,bj,bf]at h;have h1:=bz h (by simp);have h2:=ck.inj h1.2;have h3:=ck.inj h2.2;have h4:=bz h3.2 (by simp);exact⟨h1.1,h3.1,h4.1,by simpa using h4.2⟩
 have hat:∀(x:AA) (Z:List AA),(RS++x::Z)[RS.length]? = some x:=at5 RS
 have hset:∀(x:AA) (Z:List AA) (f:AA->AA),(RS++x::Z).modify RS.length f=RS++f x::Z:=rN RS
 have hatZ:∀(x y:AA) (Z:List AA),(RS++x::y::Z)[RS.length+1]? = some y:=fun x y Z=>by rw[bb (by omega),show RS.length+1-RS.length=0+1 by omega,bg];rfl
 have hun:∀A b:AA,B9 (A::(RS++b::Lq::(Y++[loc])))=some (A::(RS++b::Lq::Y),loc):=fun A b=>by have:=unsnoc_snoc loc (A::(RS++b::Lq::Y));rwa [bj,bk,bj,bj]at this
 have hg1:∀(A b:AA) (Z:List AA) (lo:AA) (x:Nat×AV),Z≠[]->b.get A8=some x->St.get ⟨A::(RS++b::Z),lo⟩ (RS.length+1) A8=some x:=fun A b Z lo x hz hx=>by
  have:¬RS.length+1=(A::(RS++b::Z)).length:=by
   cases Z with
   |nil=>exact absurd rfl hz
   |cons z Z=>simp
  unfold St.get;rw[if_neg this];simp[hx]
 have hwv:weakV v=v:=by rcases hv with⟨rfl,_⟩|⟨_,_,rfl,_⟩<;>rfl
 have hLb:=hLy.loop (ls':=.busy)
 generalize hLbe:((A8,γ0,AV.loop fr0 [16] (IC 37) GI 58 .busy)::Ly:AA)=Lb at hLb
 have hLbst:EQ (RS++Lb::Lq::(Y++[loc])):=fun t ht=>by have h:=hsp t (by simp at ht;omega);simp only[bw,bx,bq,h.1,h.2.1,h.2.2.1,h.2.2.2,hLb.st t (by simp at ht;omega)]
 have hLV:nD ((RS++Lb::Lq::(Y++[loc]))++[[]]) o v:=by
  rcases hv with⟨rfl,rfl⟩|⟨γr,es,rfl,v2,v3,v4,v5,v6⟩
  ·exact .inr (.inl ⟨rfl,rfl⟩)
  ·refine .inr (.inr ⟨RS.length+1,γr,es,rfl,⟨Lq,?_,v2⟩,v3,v4⟩);rw[bk,bj,bj];exact hatZ _ _ _
 obtain⟨L1,c1,r1,r2,r3⟩:=A15 c hc γ B o (by omega) ho ((RS++Lb::Lq::(Y++[loc]))++[[]]) (FC hLbst fun _ _=>rfl) v hLV L hL cc hc1
 have hcT:=fun n fr=>A2 (A:=ann) (kn:=kn) (n:=n+900) Tryz.func86 b86 rfl (args:=[.ptr 0 911 (γ+1) 0,v]) (by simp) (some 19) cc fr (L::(RS++Lb::Lq::(Y++[loc]))) []
 have hcb:∀n fr,G7 (BH cq ann kn (n+900)) (some 19) ⟨cc,fr,⟨L::(RS++Lb::Lq::(Y++[loc])),[]⟩⟩ 86 [.ptr 0 911 (γ+1) 0,v]=some ⟨c1,(19,true,.agg (BT (EW c (AN c) o)))::fr,⟨L1::(RS++Lb::Lq::(Y++[loc])),[]⟩⟩:=fun n fr=>by have h1:=hcT n fr;rw[bj]at h1;refine(h1.trans (r3 n 19 fr)).trans ?_;rw[<-bj,unsnoc_snoc];rfl
 simp only[bk,bj,bf]
 have hYb:=hLy.b
 obtain⟨γ2,b2,b3,b4⟩:=hLb.p2
 have q1:=hLb.p1
 have q3:=hLb.p3
 have q4:=hLb.p4
 have tl:=AFF hc (l:=o) ho
 have hfin:∀(A b own:AA) (c9:Nat) (fr9:Fr),b.get A8=some (γ0,.loop fr0 [16] (IC 37) GI 58 .busy)->(∀t:St,1<=t.up.length->AH t A=A)->(∀t:St,RS.length+2<=t.up.length->AH t b=b)->γ0<c9->ON fr (RS.length+1) A8 γ0 (some (.normal,⟨c9,fr9,⟨A::(RS++b::Lq::(Y++[loc])),own⟩⟩))=some (.bool true,⟨c9,fr,⟨A::(RS++((A8,γ0,.loop fr0 [16] (IC 37) GI 58 .ready)::b)::Lq::Y),loc⟩⟩):=fun A b own c9 fr9 hb hA hbs h9=>by
  rw[QF (fr0:=fr0) (ps:=[16]) (asg:=(IC 37)) (body:=GI) (N:=58) (hg1 A b (Lq::(Y++[loc])) own _ (by simp) hb) (hun _ _) (by simp) h9];have s1:=hsp ⟨A::(RS++b::Lq::(Y++[loc])),own⟩ (by simp<;>omega);have s2:=hbs ⟨A::(RS++b::Lq::(Y++[loc])),own⟩ (by simp<;>omega);have s3:=hA ⟨A::(RS++b::Lq::(Y++[loc])),own⟩ (by simp);have hne:¬RS.length=RS.length+(Y.length+1+1):=by omega
  simp[s1.1,s1.2.1,s1.2.2.1,s1.2.2.2,s2,s3,hset,St.put,AA.put]
 have hpB:∀(A:AA) (Z:List AA) (lo:AA),Z≠[]->St.put ⟨A::(RS++Ly::Z),lo⟩ (RS.length+1) A8 γ0 (.loop fr0 [16] (IC 37) GI 58 .busy)=⟨A::(RS++Lb::Z),lo⟩:=fun A Z lo hz=>by
  have:¬RS.length+1=(A::(RS++Ly::Z)).length:=by
   cases Z with
   |nil=>exact absurd rfl hz
   |cons z Z=>simp
  unfold St.put;rw[if_neg this];simp[hset,AA.put,hLbe]
 obtain⟨fr7,Ly2,c2,i1,i2,h3,h4,h6,q7⟩:=AOD o hol v L1 Lq RS (Y++[loc]) (by
  rcases hv with⟨rfl,rfl⟩|⟨γr,es,rfl,v2,v3,v4,v5,v6⟩
  ·exact .inl ⟨rfl,rfl⟩
  ·exact .inr ⟨γr,es,rfl,v2,v3,v4⟩) g2 g3 g4 c1 (BT (EW c (AN c) o)) (fun _ _ _ _=>rfl) Lb o.length 0 (c1+1) _ (by omega) (hLb.more (by omega:cc<=c1+1)).emptied (by omega)
 have q7:=fun n m=>q7 n (m+100) (by omega)
 have hLt:=(hLb.more (by omega:cc<=c1+1)).taken i2 (s:=EW c (AN c) o) i1
 have hlv:v=.nil/\o=[]\/∃q γr,v=.vec q 921 γr o.length:=by
  rcases hv with h|⟨γr,es,h,_⟩
  ·exact .inl h
  ·exact .inr ⟨_,_,h⟩
 have hg34:g3<c2/\g4<c2:=by omega
 have hY3:=(i1.ot 3 (by decide) (by decide)).trans q3
 have hY4:=(i1.ot 4 (by decide) (by decide)).trans q4
 have hg2c:g2<c1+1:=by omega
 have hfT:=fun own fr9=>hfin L1 _ own c2 fr9 hLt.pr r1.st hLt.st (by omega)
 cases hacc:a with
 |none=>
  subst hacc
  have hstep:EB c (AN c) none o=some (o,EW c (AN c) o):=rfl
  simp only[hstep]
  refine⟨L1,_,c2,r1,⟨_,rfl,rfl,hLt.loop⟩,by omega,fun n=>?_⟩
  rw[T6 (hg1 _ _ _ _ _ (by simp) hLy.pr) rfl h0c]
  simp only[IU,Fr.put]
  simp[f1,f2,f3,f4]
  rw[GC (fr0:=fr0) (ps:=[16]) (asg:=(IC 37)) (body':=GI) (N:=58) (hg1 _ _ _ _ _ (by simp) hLy.pr) h0c]
  generalize EW c (AN c) o=S at *
  rw[hpB _ _ _ (by simp)]
  simp only[BT,KE]at hcb q3 q7 hfT hY3
  rcases hlv with⟨rfl,rfl⟩|⟨q,γr,rfl⟩
  ·simp at q7;simp[hcb,hset,q1,q4,b3,cR,cS,NO,cT,PM,hg2c,q7,h3,h4,h6,hg34,hY3,hY4,hfT,BT]
  ·simp at q7;simp[hcb,hset,q1,q4,b3,cR,cS,NO,cT,PM,hg2c,q7,h3,h4,h6,hg34,hY3,hY4,hfT,BT]
 |some bt=>
  obtain⟨b,t⟩:=bt
  subst hacc
  by_cases hcond:(EW c (AN c) o).sun<t.sun\/((EW c (AN c) o).sun=t.sun/\t.carried<=(EW c (AN c) o).carried)
  ·have hstep:EB c (AN c) (some (b,t)) o=some (b,t):=if_pos hcond;simp only[hstep];refine⟨L1,RS++[(A8,γ0,.loop fr0 [16] (IC 37) GI 58 .ready)::Lb],c1+1,r1,⟨_,rfl,rfl,(hLb.more (by omega)).loop⟩,by omega,fun n=>?_⟩;rw[T6 (hg1 _ _ _ _ _ (by simp) hLy.pr) rfl h0c];simp only[IU,Fr.put];simp[f1,f2,f3,f4];rw[GC (fr0:=fr0) (ps:=[16]) (asg:=(IC 37)) (body':=GI) (N:=58) (hg1 _ _ _ _ _ (by simp) hLy.pr) h0c];generalize EW c (AN c) o=S at *;rw[hpB _ _ _ (by simp)];have hf:=fun own fr9=>hfin L1 Lb own (c1+1) fr9 hLb.pr r1.st hLb.st (by omega);simp only[BT,KE]at hcb q3;rcases hcond with h|⟨h,h2⟩
   ·simp[hwv,hcb,q1,q3,q4,cR,cS,NO,cT,h,hf]
   ·have h3:¬S.sun<t.sun:=by omega
    simp[hwv,hcb,q1,q3,q4,cR,cS,NO,cT,h,h2,hf]
  ·have hstep:EB c (AN c) (some (b,t)) o=some (o,EW c (AN c) o):=if_neg hcond;simp only[hstep];refine⟨L1,_,c2,r1,⟨_,rfl,rfl,hLt.loop⟩,by omega,fun n=>?_⟩;rw[T6 (hg1 _ _ _ _ _ (by simp) hLy.pr) rfl h0c];simp only[IU,Fr.put];simp[f1,f2,f3,f4];rw[GC (fr0:=fr0) (ps:=[16]) (asg:=(IC 37)) (body':=GI) (N:=58) (hg1 _ _ _ _ _ (by simp) hLy.pr) h0c];generalize EW c (AN c) o=S at *;rw[hpB _ _ _ (by simp)];simp only[BT,KE]at hcb q3 q7 hfT hY3;have hA:¬S.sun<t.sun:=fun h=>hcond (.inl h);rcases hlv with⟨rfl,rfl⟩|⟨q,γr,rfl⟩
   ·simp at q7;by_cases hB:S.sun=t.sun
    ·have hC:¬t.carried<=S.carried:=fun h=>hcond (.inr ⟨hB,h⟩);simp[hcb,hset,q1,q3,q4,b3,cR,cS,NO,cT,PM,hA,eq_true hB,hC,hg2c,q7,h3,h4,h6,hg34,hY3,hY4,hfT,BT]
    ·simp[hcb,hset,q1,q3,q4,b3,cR,cS,NO,cT,PM,hA,hB,hg2c,q7,h3,h4,h6,hg34,hY3,hY4,hfT,BT]
   ·simp at q7;by_cases hB:S.sun=t.sun
    ·have hC:¬t.carried<=S.carried:=fun h=>hcond (.inr ⟨hB,h⟩);simp[hcb,hset,q1,q3,q4,b3,cR,cS,NO,cT,PM,hA,eq_true hB,hC,hg2c,q7,h3,h4,h6,hg34,hY3,hY4,hfT,BT]
    ·simp[hcb,hset,q1,q3,q4,b3,cR,cS,NO,cT,PM,hA,hB,hg2c,q7,h3,h4,h6,hg34,hY3,hY4,hfT,BT]
theorem ALV(c:AP)(s:List (List Int)):∀(ls:List (List Sp)) (acc:Option (List Sp×BJ)),runG (fun acc l=>(EB c s acc l,true)) acc ls=(ls.foldl (EB c s) acc,true)
 |[],_=>rfl
 |l::ls,acc=>by simp only[runG,if_true,List.foldl_cons];exact ALV c s ls _
theorem AA6{P:Program}{E:XE}(d c:Nat)(fr:Fr)(s:St)(T:TypeId)(a:Nat):EV (some d) ⟨c,fr,s⟩ (NB P fr s T (.tmp a))=CX P E (some d) (.ld T (.tmp a)) ⟨c,fr,s⟩:=rfl
def fK(c:AP)(γ N cc:Nat)(gl:V):Fr:=[(15,true,fnS γ gl),(14,true,gl),(13,true,.agg (AE c)),(12,true,.ptr 0 911 (γ+1) 0),(11,true,.ptr 0 911 (γ+1) 0),(10,true,.ptr 0 911 (γ+1) 0),(9,true,.ptr 0 911 (γ+1) 0),(1,true,.ptr N 1 cc 0),(2,true,.ptr N 2 (cc+1) 0),(3,true,.ptr N 3 (cc+1+1) 0),(4,true,.ptr N 4 (cc+1+1+1) 0)]
theorem AA7{c:AP}(hc:BZ c){γ:Nat}{B:AA}(RS:List AA)(hst:EQ RS)(L:AA)(hL:Lw c γ B L)(cc:Nat)(hcc:γ+1<cc):∃L' c',Lw c γ B L'/\cc<=c' /\
  ∀n dd fr,bL cq (some dd) fr Tryz.f85.results.toList (AF cq ann kn (n+9000) 58 c85 ⟨cc,AD 0 [.ptr 0 911 (γ+1) 0],⟨L::RS,[]⟩⟩)=UC (some dd) fr c' (.tup [sl ((I2 (ED c)).map EA),.agg (BT (KE (ED c))),.bool (ED c).isSome]) (B9 (L'::RS)):=by
 have hgr:bS RS (BA c []) (sl ((BA c []).map CM)):=.inl rfl
 have hfl:=hc.fl
 have hgs:∀g∈BA c [],g.1<c.fams.length/\1<=g.2/\g.2<=4:=fun g hg=>QN hc [] _ (cj _) g hg
 have hgl:(BA c []).length<=9:=by rw[YE];omega
 have p1:=hL.p1
 have qG:=fun n=>tD n c (by omega) [] (by simp)
 let Ly0:AA:=[(1,cc,.box [.ptr 0 911 (γ+1) 0]),(2,cc+1,.box [.nil]),(3,cc+1+1,.box [i 0,i 0,.bool false]),(4,cc+1+1+1,.box [.bool false])]
 have hLy0st:∀t:St,RS.length+1<=t.up.length->AH t Ly0=Ly0:=fun t ht=>by
  have e0:¬0=t.up.length:=by omega
  obtain⟨up,lo⟩:=t;simp only at e0;simp[Ly0,e0]
 have hst4:EQ (RS++[Ly0]):=FC hst fun t ht=>hLy0st t ht
 have q128:=fun n fr=>dC (c:=c) (γ:=γ) (B:=B) (gs:=BA c []) (gl:=sl ((BA c []).map CM)) (.inl rfl) L hL RS Ly0 (fun j g n h=>by
   cases hz:(BA c []).map CM <;> rw[hz]at h <;> simp[sl]at h) hst4 (cc+1+1+1+1) 15 fr n
 have hcG:∀f:Nat,AG (f+3) (sl ((BA c []).map CM))=true:=fun f=>by cases BA c []<;>simp[sl,CM]
 have hwG:weakV (sl ((BA c []).map CM))=sl ((BA c []).map CM):=by cases BA c []<;>simp[sl]
 have hclB:c.chairs.all ((fun e=>e.all (AG 7))∘AS)=true:=List.all_eq_true.2 fun x _=>by simp[AS,BU]
 have hclF:c.fams.all ((fun e=>e.all (AG 7))∘AU)=true:=List.all_eq_true.2 fun x _=>by simp[AU]
 have hb12:Nat.beq 12 1=false:=rfl
 have hLy:AOE γ RS cc (cc+1) (cc+1+1) (cc+1+1+1) (cc+1+1+1+1+2) (fK c γ (RS.length+1) cc (sl ((BA c []).map CM))) (cc+1+1+1+1+2+1) true none (RS++[(A8,cc+1+1+1+1+2,.loop (fK c γ (RS.length+1) cc (sl ((BA c []).map CM))) [16] (IC 37) GI 58 .ready)::Ly0]):=by refine⟨_,rfl,rfl,by simp[Ly0,A8],⟨0,by omega,by simp[Ly0,A8,I2,pvl],fun h=>absurd rfl h⟩,by simp[Ly0,A8,KE,BT],by simp[Ly0,A8],by simp[A8],fun t ht=>?_,by omega⟩;rw[A1,hLy0st t (by omega)];rfl
 obtain⟨L',R',c',r1,r2,r3,r4⟩:=bF hc (A8P hgr hst) hgl hgs (AOF hc hst (by simp[fK]) (by simp[fK]) (by simp[fK]) (by simp[fK])) none L RS _ hL hLy (by omega) (fK c γ (RS.length+1) cc (sl ((BA c []).map CM)))
 rw[ALV]at r2
 rw[show(L7 c (AN c) (BA c [])).foldl (EB c (AN c)) none=ED c from rfl]at r2
 obtain⟨Ly',rfl,_,hLy'⟩:=r2
 have hun:B9 (L'::(RS++[Ly']))=some (L'::RS,Ly'):=by have:=unsnoc_snoc Ly' (L'::RS);rwa [bj]at this
 rw[hun]at r4
 have r4:=fun n=>r4 (n+1495)
 refine⟨L',c',r1,by omega,fun n dd fr=>?_⟩
 have sL:=r1.st
 have sR1:∀(A lo:AA),RS.map (AH ⟨A::RS,lo⟩)=RS:=fun A lo=>hst _ (by simp)
 generalize sl ((BA c []).map CM)=gl at *
 simp only[BV,AE,Ly0,li,bq]at p1 qG q128
 try simp at q128
 simp[c85,AD,p1,qG,q128,hwG,hclB,hclF,hb12,B8,BO,M2]
 rw[PJ rfl]
 simp
 rw[show(Code.block 1 ((IC 149).seq (((IC 597).seq (Code.cond (Operand.tmp 41) (Code.exit 1) Code.skip)).seq ((IC 725).seq (((IC 2517).seq (Code.block 2 NV.loop)).seq (IC 2005))))))=GI from rfl]
 have r4:=r4 n
 rw[show n+1495+1500+6000=n+8995 by omega]at r4
 simp only[fK,AE,Ly0,li]at r4|-
 simp only[r4]
 rw[show ∀fr0:Fr,UC none fr0 c' (.tup []) (some (L'::RS,Ly'))=some ⟨c',fr0,⟨L'::RS,Ly'⟩⟩ from fun _=>rfl]
 rw[T5 (fr0:=fK c γ (RS.length+1) cc gl) (ps:=[16]) (asg:=(IC 37)) (body:=GI) (N:=58) (by simp[St.get];simpa using hLy'.pr) (by omega)]
 obtain⟨γ2,b1,b2,b3⟩:=hLy'.p2
 have y3:=hLy'.p3
 have y4:=hLy'.p4
 have hcs:∀x∈(I2 (ED c)).map EA,∀v∈x,AG 8 v=true:=fun x hx v hv=>by obtain⟨y,_,rfl⟩:=bm.1 hx;simp only[EA,bp,bh,or_false]at hv;rcases hv with rfl|rfl<;>rfl
 generalize (I2 (ED c)).map EA=O at *
 generalize KE (ED c)=S at *
 generalize (ED c).isSome=z at *
 simp only[BT]at y3|-
 cases O with
 |nil=>
  simp[St.put,AA.put,A8,LQ,AA6 (E:=BH cq ann kn 0),b2,y3,y4,A1X,iG,sL,sR1]
 |cons x O=>
  have b3:=b3 (by simp)
  have hx:=hcs x (by simp)
  have hcO:=eq_true fun e he=>hcs e (List.mem_cons_of_mem x he)
  simp[St.put,AA.put,A8,LQ,AA6 (E:=BH cq ann kn 0),b2,b3,y3,y4,BBS,rL,sL,sR1]
end Go.Proofs.Tryz.Op
namespace Go.Pg
def re4:Option V->Option V->Option V->Option V->Option V
 |some a,some b,some c,some d=>some (.tup [a,b,c,d])
 |_,_,_,_=>none
@[simp] theorem AX7(a b c d:V):re4 (some a) (some b) (some c) (some d)=some (.tup [a,b,c,d]):=rfl
@[simp] theorem ATZ{P:Program}{fr:Fr}{s:St}(x y z w:ResultVar):FM P [x,y,z,w] fr s=re4 (CP P fr s x) (CP P fr s y) (CP P fr s z) (CP P fr s w):=by
 unfold FM;simp only[List.mapM_cons,List.mapM_nil];cases CP P fr s x with
 |none=>rfl
 |some a=>cases CP P fr s y with
  |none=>rfl
  |some b=>cases CP P fr s z with
   |none=>rfl
   |some c=>cases CP P fr s w<;>rfl
end Go.Pg
namespace Go.Proofs.Tryz.Op
def lvW(c:AP)(p g:Nat):AA:=[(p,0,.box (AE c)),(910,g,.map []),(911,g+1,.box (BV c g))]
theorem AOG(c:AP)(p g:Nat)(h:p<900):Lw c g (lvW c p g) (lvW c p g) where
 p0:=by
  have e:¬910=p:=by omega
  exact⟨[],⟨by simp,by simp,by simp⟩,by simp[lvW,e]⟩
 p1:=by
  have e:¬911=p:=by omega
  simp[lvW,e]
 st:=fun t ht=>by
  have e0:¬0=t.up.length:=by omega
  have hcE:∀l∈AN c,encA l=l.map fun x=>i x:=fun _ _=>rfl;have hA:∀f:Nat,AG (f+3) (.list false ((AN c).map encA))=true:=fun f=>by simp[encA]
  obtain⟨up,lo⟩:=t;simp only at e0;simp[lvW,BV,AE,GS]
 ot:=fun _ _=>rfl
theorem oQ(n:Nat)(c:AP)(h40:∀l∈c.beach.winds,l.length<=40)(hch:c.chairs.length<=40):A3 cq kn (AF cq ann kn (n+9600)) 33 [.agg (AE c)]=some (.tup [sl ((QL c).1.map AL),i (QL c).2.1,i (QL c).2.2.1,i (QL c).2.2.2]):=by
 rw[AQ rfl,AR Tryz.func33 b33 rfl (by simp[AE,AS,BU,AU])];unfold QL;by_cases h:CZ c=0
 ·rw[if_neg (by simp[h])];have hc:=GR h;obtain⟨g',hg,q⟩:=XB c hc [(1,0,.box (AE c))] (fun t _=>tB c 1 0 t) 1 11 [(10,true,.agg (AE c)),(1,true,.ptr 0 1 0 0)];have q:=fun n=>q (n+1596);obtain⟨L',c',r1,r2,r3⟩:=AA7 hc [] (fun _ _=>rfl) (lvW c 1 2) (AOG c 1 2 (by omega)) g' (by omega);have hcb:=fun n fr=>(A2 (A:=ann) (kn:=kn) (n:=n+9000) Tryz.func85 b85 rfl (args:=[.ptr 0 911 (2+1) 0]) (by simp) (some 19) g' fr [] (lvW c 1 2)).trans (r3 n 19 fr);have sL:=r1.st;have q1:L'.get 1=some (0,.box (AE c)):=r1.ot 1 (by decide);have o7:L'.get 7=none:=r1.ot 7 (by decide);have o11:L'.get 11=none:=r1.ot 11 (by decide);have o19:L'.get 19=none:=r1.ot 19 (by decide);obtain⟨T,_,z910⟩:=r1.p0;have z911:=r1.p1;have hsp:(I2 (ED c)).map EA=((I2 (ED c)).map spt).map AL:=by rw[List.map_map];rfl
  rw[hsp]at hcb;have hcE:∀(f:Nat) (l:List (Int×Int)),AG (f+3) (sl (l.map AL))=true:=fun f l=>by cases l<;>simp[sl,AL]
  have hwE:∀l:List (Int×Int),weakV (sl (l.map AL))=sl (l.map AL):=fun l=>by cases l<;>simp[sl]
  cases hO:ED c with
  |none=>
   rw[hO]at hcb
   simp only[I2,KE,Option.isSome_none,bq,iG,BT,lvW,BV,AE,bn]at hcb q q1|-
   simp at hcb
   simp[c33,AD,q,hcb,q1,o11,o19,z910,z911]
   done
  |some bt=>
   obtain⟨b,t⟩:=bt
   rw[hO]at hcb
   simp only[I2,KE,Option.isSome_some,BT,lvW,BV,AE,bn]at hcb q q1|-
   have hBB:∀x∈(b.map spt).map AL,∀v∈x,AG 7 v=true:=fun x hx v hv=>by obtain⟨y,_,rfl⟩:=bm.1 hx;simp only[AL,bp,bh,or_false]at hv;rcases hv with rfl|rfl<;>rfl
   generalize (b.map spt).map AL=BB at *
   simp at hcb
   simp[c33,AD,q,hcb,q1,o11,o19,z910,z911]
   exact hBB
 ·rw[if_pos h];have q:=QM c h40 hch h [(1,0,.box (AE c))] (fun t _=>tB c 1 0 t) 1 11 [(10,true,.agg (AE c)),(1,true,.ptr 0 1 0 0)];have q:=fun n=>q (n+1596);generalize CZ c=E at *;simp only[AE,Nat.add_assoc,bn,bq,iG]at q|-;simp[c33,AD,q,h]
end Go.Proofs.Tryz.Op
