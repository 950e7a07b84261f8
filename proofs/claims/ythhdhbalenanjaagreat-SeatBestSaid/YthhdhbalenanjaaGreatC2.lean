/- The contracts of seatings and possible, from any stack. No condition but a valid case. -/
import Derived.Test.YthhdhbalenanjaaGreatS5
open Go.Proofs.Tryz renaming prog->bn
open List renaming cons_append->bj,map_nil->bk,map_append->bw,map_cons->bx,append_assoc->bz,getElem?_append_right->bb,getElem?_cons_succ->bc,not_mem_nil->bf,append_inj->bg,mem_map->bh,mem_cons->bm
open Nat renaming reduceAdd->bq
set_option maxRecDepth 100000
set_option linter.unusedSimpArgs false
open Go Go.Pg Go.Proofs Go.Wind
namespace Go.Pg
variable {fr:Fr}
end Go.Pg
namespace Go.Proofs.Tryz.Op
abbrev fnS(γ:Nat)(gl:V):V:=.fn 167 [] [.ref [gl],.ref [.ptr 0 911 (γ+1) 0]]
theorem AA3{c:AQ}{γ:Nat}{B:AA}{gs:List (Nat×Int)}{gl:V}(hgl:gl=sl (gs.map A2)\/∃j g n,gl=.vec (j+1) 39 g n)(L:AA)(hL:Lw c γ B L)(RS:List AA)(Ly:AA)(hj:∀j g n,gl=.vec (j+1) 39 g n->j<RS.length+1)(hst:HL (RS++[Ly]))(cc d:Nat)(fr:Fr)(n:Nat):GW (BT bn ann kn (n+100)) (some d) ⟨cc,fr,⟨L::RS,Ly⟩⟩ 128 [.ptr 0 911 (γ+1) 0,gl]=some ⟨cc+2,(d,true,fnS γ gl)::fr,⟨L::RS,Ly⟩⟩:=by
 have sL:=hL.st;have sR:∀(A:AA) (lo:AA),(RS++[Ly]).map (AH ⟨A::(RS++[Ly]),lo⟩)=RS++[Ly]:=fun A lo=>hst _ (by simp);have sR1:∀(A:AA) (lo:AA),RS.map (AH ⟨A::(RS++[Ly]),lo⟩)=RS/\AH ⟨A::(RS++[Ly]),lo⟩ Ly=Ly:=fun A lo=>by have:=sR A lo;rw[bw]at this;have:=bg this (by simp);exact⟨this.1,by simpa using this.2⟩
 rw[A9 Tryz.func128 b128 rfl (by simp)];rcases hgl with rfl|⟨j,g,m,rfl⟩
 ·have hcl:∀f:Nat,AG (f+3) (sl (gs.map A2))=true:=fun f=>by cases gs<;>simp[sl,A2]
  cases gs with
  |nil=>simp[AMH,AF,vJ,sL,(sR1 _ _).1,(sR1 _ _).2]
  |cons a gs=>simp[AMH,AF,vK,A2,sL,(sR1 _ _).1,(sR1 _ _).2]
 ·have hjn:=hj j g m rfl;have e1:¬j+1=RS.length+1+1:=by omega
  have e2:¬j=RS.length+1:=by omega
  simp[AMH,AF,e2,sL,(sR1 _ _).1,(sR1 _ _).2]
theorem sV.more{R:List AA}{gs:List (Nat×Int)}{gl:V}(h:sV R gs gl)(Z:List AA):sV (R++Z) gs gl:=by
 rcases h with h|⟨j,g,Lj,h1,h2,h3⟩
 ·exact .inl h
 ·refine .inr ⟨j,g,Lj,h1,?_,h3⟩;rw[List.getElem?_append_left (List.getElem?_eq_some_iff.1 h2).1];exact h2
def EK(x:Sp):List V:=[i x.row,i x.place]
theorem A20(st:XS):LJ [3003000923052] st=fO 52 (MU 3 st) 922 [2] st:=rfl
theorem A21(c:Nat)(fr:Fr)(up:List AA)(a b:Nat×A1):LJ [3003000923052] ⟨c,fr,⟨up,[(6,a),(8,b)]⟩⟩=⟨c,fr,⟨up,[(6,a),(8,b)]⟩⟩:=by rw[A20];rfl
theorem A22(c γ g2 g o:Nat)(T:TypeId)(es:List (List V))(a6 a8:Nat)(c6 c8:List V)(fr:Fr)(L Ly:AA)(RS Z:List AA)(r2:A1)(h3:BD fr 2=some (true,.ptr (RS.length+1) 2 g o))(h2:Ly.get 2=some (g2,r2)) :
  LJ [3003000923052] ⟨c,fr,⟨L::(RS++Ly::Z),[(52,γ,.vec T es),(6,a6,.box c6),(8,a8,.box c8)]⟩⟩=⟨c,yS (RS.length+(Z.length+1)+1) 52 (RS.length+1) 922 fr,⟨L::(RS++((922,γ,SQ (RS.length+(Z.length+1)+1) 52 (RS.length+1) 922 (.vec T es))::(2,g2,SQ (RS.length+(Z.length+1)+1) 52 (RS.length+1) 922 r2)::JF 2 Ly)::Z),[(6,a6,SQ (RS.length+(Z.length+1)+1) 52 (RS.length+1) 922 (.box c6)),(8,a8,SQ (RS.length+(Z.length+1)+1) 52 (RS.length+1) 922 (.box c8))]⟩⟩:=by
 rw[A20]
 have hl:(L::(RS++Ly::Z)).length=RS.length+(Z.length+1)+1:=by simp
 have e1:MU 3 ⟨c,fr,⟨L::(RS++Ly::Z),[(52,γ,.vec T es),(6,a6,.box c6),(8,a8,.box c8)]⟩⟩=RS.length+1:=by show(match BD fr 2 with|some (true,.ptr l _ _ _)=>l|_=>0)=RS.length+1;rw[h3]
 rw[e1]
 unfold fO
 have e3:SJ (RS.length+1) (RS.length+(Z.length+1)+1) (some (γ,.vec T es))=true:=by
  have:Nat.blt (RS.length+1) (RS.length+(Z.length+1)+1)=true:=by rw[Nat.blt_eq];omega
  simp[SJ,fL,this]
 have ne:¬RS.length=RS.length+(Z.length+1):=by omega
 simp[yT,AA.get,mvU,h2,mF,St.put,D8,ACU,e3]
structure LyT(l0 g2:Nat)(Ly0:AA)(s:List (List V))(cc:Nat)(Ly:AA):Prop where
 p2:∃γ,γ<cc/\Ly.get 2=some (g2,.box [pvl l0 922 γ s])/\(s≠[]->Ly.get 922=some (γ,.vec 86 s))
 ot:∀k,¬k=2->¬k=922->Ly.get k=Ly0.get k
 st:∀t:St,l0+1<=t.up.length->AH t Ly=Ly
theorem LyT.more{l0 g2:Nat}{Ly0 Ly:AA}{s:List (List V)}{cc c2:Nat}(h:LyT l0 g2 Ly0 s cc Ly)(hc:cc<=c2):LyT l0 g2 Ly0 s c2 Ly:=by obtain⟨γ,h1,h2⟩:=h.p2;exact⟨⟨γ,by omega,h2⟩,h.ot,h.st⟩
theorem fX(t:St)(T:TypeId)(l:List Sp):CW t (.vec T (l.map EK))=.vec T (l.map EK):=VM fun e he v hv=>by obtain⟨x,_,rfl⟩:=bh.1 he;simp only[EK,bm,bf,or_false]at hv;rcases hv with rfl|rfl<;>rfl
theorem LyT.first{l0 g2:Nat}{Ly0 Ly:AA}{cc:Nat}(h:LyT l0 g2 Ly0 [] cc Ly)(x:Sp):LyT l0 g2 Ly0 ([x].map EK) (cc+1) ((922,cc,.vec 86 [EK x])::(2,g2,.box [.vec l0 922 cc 1])::JF 2 Ly) where
 p2:=⟨cc,by omega,by simp[pvl],fun _=>by simp⟩
 ot:=fun k h1 h2=>by rw[<-h.ot k h1 h2];simp[h1,h2]
 st:=fun t ht=>by
  have e:¬l0=t.up.length:=by omega
  have e2:=fX t 86 [x];rw[bx,bk]at e2;rw[BC,BC,UG,h.st t ht,e2];obtain⟨up,lo⟩:=t;simp only at e;simp[E9,e]
theorem LyT.next{l0 g2:Nat}{Ly0 Ly:AA}{cc:Nat}{l:List Sp}(h:LyT l0 g2 Ly0 (l.map EK) cc Ly)(x:Sp):LyT l0 g2 Ly0 ((l++[x]).map EK) (cc+1) ((2,g2,.box [.vec l0 922 cc (l.length+1)])::(922,cc,.vec 86 (l.map EK++[EK x]))::Ly) where
 p2:=by
  refine⟨cc,by omega,?_,fun _=>by simp⟩;have:pvl l0 922 cc ((l++[x]).map EK)=.vec l0 922 cc (l.length+1):=by cases l<;>simp[pvl]
  rw[this];simp
 ot:=fun k h1 h2=>by rw[<-h.ot k h1 h2];simp[h1,h2]
 st:=fun t ht=>by
  have e:¬l0=t.up.length:=by omega
  have e2:=fX t 86 (l++[x]);rw[bw,bx,bk]at e2;rw[BC,BC,h.st t ht,e2];obtain⟨up,lo⟩:=t;simp only at e;simp[E9,e]
theorem APG{m:Nat}(hm:m<=100)(x:Sp):B5 bn 86 m [EK x]=true:=by have h2:(EK x).length=2:=rfl;rw[BZ (by simp) (by simp)];simp[maxLen,h2];omega
theorem ASR(o:List Sp)(ho:o.length<=10)(v:V)(L Lq:AA)(RS Y:List AA)(hv:(v=.nil/\o=[])\/∃γ es,v=.vec (RS.length+1+1) 921 γ o.length/\Lq.get 921=some (γ,.vec 153 es)/\o.length<=es.length/\∀k (h:k<o.length) (h2:k<es.length),es[k]=AP o[k])(g2 g3 g4 g6:Nat)(B6:List V)(h6:∀n k l d,B6.map (KS n k l d 3)=B6)(Ly0:AA):∀(d k cc:Nat) (Ly:AA),k+d=o.length->LyT (RS.length+1) g2 Ly0 ((o.take k).map EK) cc Ly->g2<cc->∃fr Ly' c',LyT (RS.length+1) g2 Ly0 (o.map EK) c' Ly'/\cc<=c'/\BD fr 3=some (true,.ptr (RS.length+1) 3 g3 0)/\BD fr 4=some (true,.ptr (RS.length+1) 4 g4 0)/\BD fr 6=some (true,.ptr (RS.length+(Y.length+1+1)+1) 6 g6 0) /\
  ∀n m,d<m->BA (AE bn ann kn (n+400) 58) O3 (ann 58 (BU O3)) m ⟨cc,[(2,true,.ptr (RS.length+1) 2 g2 0),(3,true,.ptr (RS.length+1) 3 g3 0),(4,true,.ptr (RS.length+1) 4 g4 0),(6,true,.ptr (RS.length+(Y.length+1+1)+1) 6 g6 0),(42,true,v),(43,true,i o.length),(44,true,i k)],⟨L::(RS++Ly::Lq::Y),[(6,g6,.box B6)]⟩⟩ =
   some (.exit 2,⟨c',fr,⟨L::(RS++Ly'::Lq::Y),[(6,g6,.box B6)]⟩⟩)
 |0,k,cc,Ly,hd,hLy,hg=>by
  obtain rfl:k=o.length:=by omega
  rw[List.take_length]at hLy;refine⟨?fr,Ly,cc,hLy,Nat.le_refl _,?g1,?g2,?g3,fun n m hm=>?g9⟩;case g9=>
   obtain⟨m,rfl⟩:=qNz m (by omega)
   rw[AB]
   simp
   rfl
  all_goals simp
 |d+1,k,cc,Ly,hd,hLy,hg=>by
  have hk:k<o.length:=by omega
  have hw:=BJ (k:=k) (by omega);rcases hv with⟨_,rfl⟩|⟨γr,es,rfl,hq1,hq2,hq3⟩
  ·simp at hk
  have hke:k<es.length:=by omega
  have hel:=hq3 k hk hke;have htk:o.take (k+1)=o.take k++[o[k]]:=List.take_succ_eq_append_getElem hk;have hln:(o.take k).length=k:=by rw[List.length_take];omega
  have hat:∀(x:AA) (Z:List AA),(RS++x::Z)[RS.length]? = some x:=at5 RS;have hset:∀(x:AA) (Z:List AA) (f:AA->AA),(RS++x::Z).modify RS.length f=RS++f x::Z:=ACU RS;have hatZ:∀x:AA,(RS++x::Lq::Y)[RS.length+1]? = some Lq:=fun x=>by rw[bb (by omega),show RS.length+1-RS.length=0+1 by omega,bc];rfl
  obtain⟨γ,hγ,p2,p922⟩:=hLy.p2;have hN1:¬RS.length+1=RS.length+(Y.length+1+1)+1:=by omega
  have hN2:¬RS.length+1+1=RS.length+(Y.length+1+1)+1:=by omega
  have hg2:g2<cc+1+1:=by omega
  have hg2':g2<cc+1:=by omega
  by_cases hnil:o.take k=[]
  ·obtain rfl:k=0:=by have:=congrArg List.length hnil;rw[hln]at this;exact this
   rw[hnil]at hLy p2;have hLy2:=(hLy.more (by omega:cc<=cc+1)).first o[0];rw[show[o[0]]=o.take (0+1) by rw[htk,hnil];rfl]at hLy2;obtain⟨fr,Ly',c',i1,i2,f3,f4,f6,ih⟩:=ASR o ho _ L Lq RS Y (.inr ⟨γr,es,rfl,hq1,hq2,hq3⟩) g2 g3 g4 g6 B6 h6 Ly0 d (0+1) (cc+1+1) _ (by omega) hLy2 (by omega);refine⟨fr,Ly',c',i1,by omega,f3,f4,f6,fun n m hm=>?_⟩;obtain⟨m,rfl⟩:=qNz m (by omega);have ih:=ih n m (by omega);have happ:=APG (m:=0) (by omega) o[0];have hgh:=fun c1 fr (h2:BD fr 2=some (true,.ptr (RS.length+1) 2 g2 0))=>A22 c1 (cc+1) g2 g2 0 86 [EK o[0]] g6 cc B6 (AP o[0]) fr L ((2,g2,.box [.vec (RS.length+(Y.length+1+1)+1) 52 (cc+1) 1])::Ly) RS (Lq::Y) _ h2 rfl;rw[AB];simp only[EK,AP,bk,A7F]at ih happ hgh p2 hel|-;simp at ih;simp[hk,hset,hq1,hq2,hel,hke,p2,happ,hg2,D8,MC,hgh,J8,P9,HK,GN,MD,VI,h6,ih]
  ·have p922:=p922 (by simpa using hnil);have hLy2:=(hLy.more (by omega:cc<=cc+1)).next o[k];rw[<-htk,hln]at hLy2;obtain⟨fr,Ly',c',i1,i2,f3,f4,f6,ih⟩:=ASR o ho _ L Lq RS Y (.inr ⟨γr,es,rfl,hq1,hq2,hq3⟩) g2 g3 g4 g6 B6 h6 Ly0 d (k+1) (cc+1+1) _ (by omega) hLy2 (by omega);refine⟨fr,Ly',c',i1,by omega,f3,f4,f6,fun n m hm=>?_⟩;obtain⟨m,rfl⟩:=qNz m (by omega);have ih:=ih n m (by omega);have happ:=APG (m:=k) (by omega) o[k];have hpv:pvl (RS.length+1) 922 γ ((o.take k).map EK)=.vec (RS.length+1) 922 γ k:=by
    cases hq:o.take k with
    |nil=>exact absurd hq hnil
    |cons a l=>
     rw[hq]at hln
     simp only[bx,pvl,List.length_map]
     rw[<-hln]
     rfl
   rw[hpv]at p2;have hm2:∀e∈(o.take k).map EK,e.length=2:=fun e he=>by obtain⟨x,_,rfl⟩:=bh.1 he;rfl
   have hm2:=eq_true hm2;have hlm:((o.take k).map EK).length=k:=by rw[List.length_map,hln]
   have hkm:min k o.length=k:=by omega
   generalize (o.take k).map EK=OO at *;rw[AB];simp only[EK,AP]at ih happ hel|-;simp at ih;simp[hk,hw,hset,hq1,hq2,hel,hke,p2,p922,happ,hm2,hlm,hg2,D8,A21,ih]
def V5:Option (List Sp×CB)->List Sp
 |none=>[]
 |some q=>q.1
def eR:Option (List Sp×CB)->CB
 |none=>⟨0,0,false⟩
 |some q=>q.2
noncomputable def GP:Code:=.block 1 (.seq (IV 149) (.seq (.seq (IV 597) (.cond (.tmp 41) (.exit 1) .skip)) (.seq (IV 725) (.seq (.seq (IV 2517) (.block 2 (.loop O3))) (IV 2005)))))
@[simp] theorem uBe(n:Nat)(st:XS):AE bn ann kn n 58 GP st=AE bn ann kn n 58 (.block 1 (.seq (IV 149) (.seq (.seq (IV 597) (.cond (.tmp 41) (.exit 1) .skip)) (.seq (IV 725) (.seq (.seq (IV 2517) (.block 2 (.loop O3))) (IV 2005)))))) st:=rfl
structure LyB(γ l0 g1 g2 g3 g4 γ0:Nat)(fr0:Fr)(ls:LS)(acc:Option (List Sp×CB))(cc:Nat)(Ly:AA):Prop where
 p1:Ly.get 1=some (g1,.box [.ptr 0 911 (γ+1) 0])
 p2:∃γ2,γ2<cc/\Ly.get 2=some (g2,.box [pvl l0 922 γ2 ((V5 acc).map EK)])/\((V5 acc).map EK≠[]->Ly.get 922=some (γ2,.vec 86 ((V5 acc).map EK)))
 p3:Ly.get 3=some (g3,.box (CK (eR acc)))
 p4:Ly.get 4=some (g4,.box [.bool acc.isSome])
 pr:Ly.get BO=some (γ0,.loop fr0 [16] (IV 37) GP 58 ls)
 st:∀t:St,l0+1<=t.up.length->AH t Ly=Ly
 b:g1<cc/\g2<cc/\g3<cc/\g4<cc/\γ0<cc
section
variable {γ l0 g1 g2 g3 g4 γ0:Nat}{fr0:Fr}{ls ls':LS}{acc:Option (List Sp×CB)}{cc:Nat}{Ly:AA}
theorem LyB.more(h:LyB γ l0 g1 g2 g3 g4 γ0 fr0 ls acc cc Ly){c2:Nat}(hc:cc<=c2):LyB γ l0 g1 g2 g3 g4 γ0 fr0 ls acc c2 Ly:=by obtain⟨γ2,h1,h2⟩:=h.p2;exact⟨h.p1,⟨γ2,by omega,h2⟩,h.p3,h.p4,h.pr,h.st,by have:=h.b;omega⟩
theorem LyB.loop(h:LyB γ l0 g1 g2 g3 g4 γ0 fr0 ls acc cc Ly):LyB γ l0 g1 g2 g3 g4 γ0 fr0 ls' acc cc ((BO,γ0,.loop fr0 [16] (IV 37) GP 58 ls')::Ly):=by obtain⟨γ2,h1,h2,h3⟩:=h.p2;refine⟨by simpa [BO]using h.p1,⟨γ2,h1,by simpa [BO]using h2,by simpa [BO]using h3⟩,by simpa [BO]using h.p3,by simpa [BO]using h.p4,by simp,fun t ht=>by rw[BC,h.st t ht];rfl,h.b⟩
end
theorem LyB.emptied{γ l0 g1 g2 g3 g4 γ0:Nat}{fr0:Fr}{ls:LS}{acc:Option (List Sp×CB)}{cc:Nat}{Ly:AA}(h:LyB γ l0 g1 g2 g3 g4 γ0 fr0 ls acc cc Ly):LyT l0 g2 Ly [] cc ((2,g2,.box [.nil])::Ly) :=
 ⟨⟨0,by have:=h.b;omega,by simp[pvl],fun h=>absurd rfl h⟩,fun k h1 _=>by simp[h1],fun t ht=>by rw[BC,h.st t ht];simp[E9]⟩
theorem LyB.taken{γ l0 g1 g2 g3 g4 γ0:Nat}{fr0:Fr}{ls:LS}{acc:Option (List Sp×CB)}{cc c2:Nat}{Ly Ly2:AA}(h:LyB γ l0 g1 g2 g3 g4 γ0 fr0 ls acc cc Ly)(hc:cc<=c2){o:List Sp}{s:CB}(h2:LyT l0 g2 Ly (o.map EK) c2 Ly2):LyB γ l0 g1 g2 g3 g4 γ0 fr0 ls (some (o,s)) c2 ((4,g4,.box [.bool true])::(3,g3,.box (CK s))::Ly2):=by
 obtain⟨γ2,e1,e2,e3⟩:=h2.p2;have ot:=h2.ot;refine⟨?_,⟨γ2,e1,by simpa [V5]using e2,by simpa [V5]using e3⟩,by simp[eR],by simp,?_,fun t ht=>?_,by have:=h.b;omega⟩
 ·simpa [ot 1 (by decide) (by decide)]using h.p1
 ·simpa [BO,ot 1000000 (by decide) (by decide)]using h.pr
 ·rw[BC,BC,h2.st t ht];simp[E9,CK]
def ASS(γ:Nat)(RS:List AA)(g1 g2 g3 g4 γ0:Nat)(fr0:Fr)(cc:Nat)(g:Bool)(acc:Option (List Sp×CB))(R:List AA):Prop:=∃Ly,R=RS++[Ly]/\g=true/\LyB γ (RS.length+1) g1 g2 g3 g4 γ0 fr0 .ready acc cc Ly
theorem BEE{γ:Nat}{gs:List (Nat×Int)}{gl:V}{RS:List AA}{g1 g2 g3 g4 γ0:Nat}{fr0:Fr}(hgr:sV RS gs gl)(hst:HL RS):AIR (RS.length+1) gs gl (ASS γ RS g1 g2 g3 g4 γ0 fr0) where
 mo:=fun c c' g a R ⟨Ly,h1,h2,h3⟩ hc=>⟨Ly,h1,h2,h3.more hc⟩
 ln:=fun c g a R ⟨Ly,h1,_⟩=>by rw[h1];simp
 st:=fun c g a R ⟨Ly,h1,_,h4⟩ t ht=>by rw[h1,bw,hst t (by omega),bx,bk,h4.st t (by omega)]
 gr:=fun c g a R ⟨Ly,h1,_⟩=>by rw[h1];exact hgr.more _
@[simp] theorem A23:LZ bn 86=false:=by kernel_rfl
theorem M4(rec:HC)(l k g o:Nat)(a:V):AY bn kn rec 86 [.ptr l k g o,a]=none:=by rw[AN rfl];unfold E2;rw[show([V.ptr l k g o,a].all (AG 9))=false from rfl]
set_option maxHeartbeats 2000000 in
theorem AST{c:AQ}(hc:BN c){γ:Nat}{B:AA}{RS:List AA}{g1 g2 g3 g4 γ0:Nat}{fr0:Fr}(_:HL RS)(f1:BD fr0 1=some (true,.ptr (RS.length+1) 1 g1 0))(f2:BD fr0 2=some (true,.ptr (RS.length+1) 2 g2 0))(f3:BD fr0 3=some (true,.ptr (RS.length+1) 3 g3 0))(f4:BD fr0 4=some (true,.ptr (RS.length+1) 4 g4 0)) :
  AIQ c γ B (RS.length+1) (RS.length+1) γ0 1500 (ASS γ RS g1 g2 g3 g4 γ0 fr0) (fun acc l=>(EL c (A0 c) acc l,true)):=by
 intro a L Lq R Y loc cc fr o v hL hLv hc1 hc2 ho hol hv hsta
 obtain⟨Ly,rfl,_,hLy⟩:=hLv
 have h0c:γ0<cc:=hLy.b.2.2.2.2
 have sL:=hL.st
 have hsp:∀t:St,RS.length+Y.length+4<=t.up.length->RS.map (AH t)=RS/\AH t Lq=Lq/\Y.map (AH t)=Y/\AH t loc=loc:=fun t ht=>by have h:=hsta t (by simp;omega);simp only[bw,bx,bk,bz,bj,List.nil_append]at h;have h1:=bg h (by simp);have h2:=List.cons.inj h1.2;have h3:=List.cons.inj h2.2;have h4:=bg h3.2 (by simp);exact⟨h1.1,h3.1,h4.1,by simpa using h4.2⟩
 have hat:∀(x:AA) (Z:List AA),(RS++x::Z)[RS.length]? = some x:=at5 RS
 have hset:∀(x:AA) (Z:List AA) (f:AA->AA),(RS++x::Z).modify RS.length f=RS++f x::Z:=ACU RS
 have hatZ:∀(x y:AA) (Z:List AA),(RS++x::y::Z)[RS.length+1]? = some y:=fun x y Z=>by rw[bb (by omega),show RS.length+1-RS.length=0+1 by omega,bc];rfl
 have hun:∀A b:AA,CJ (A::(RS++b::Lq::(Y++[loc])))=some (A::(RS++b::Lq::Y),loc):=fun A b=>by have:=C9 loc (A::(RS++b::Lq::Y));rwa [bj,bz,bj,bj]at this
 have hg1:∀(A b:AA) (Z:List AA) (lo:AA) (x:Nat×A1),Z≠[]->b.get BO=some x->St.get ⟨A::(RS++b::Z),lo⟩ (RS.length+1) BO=some x:=fun A b Z lo x hz hx=>by
  have:¬RS.length+1=(A::(RS++b::Z)).length:=by
   cases Z with
   |nil=>exact absurd rfl hz
   |cons z Z=>simp
  unfold St.get;rw[if_neg this];simp[hx]
 have hwv:weakV v=v:=by rcases hv with⟨rfl,_⟩|⟨_,_,rfl,_⟩<;>rfl
 have hLb:=hLy.loop (ls':=.busy)
 generalize hLbe:((BO,γ0,A1.loop fr0 [16] (IV 37) GP 58 .busy)::Ly:AA)=Lb at hLb
 have hLbst:HL (RS++Lb::Lq::(Y++[loc])):=fun t ht=>by have h:=hsp t (by simp at ht;omega);simp only[bw,bx,bk,h.1,h.2.1,h.2.2.1,h.2.2.2,hLb.st t (by simp at ht;omega)]
 have hLV:iX ((RS++Lb::Lq::(Y++[loc]))++[[]]) o v:=by
  rcases hv with⟨rfl,rfl⟩|⟨γr,es,rfl,v2,v3,v4,v5,v6⟩
  ·exact .inr (.inl ⟨rfl,rfl⟩)
  ·refine .inr (.inr ⟨RS.length+1,γr,es,rfl,⟨Lq,?_,v2⟩,v3,v4⟩);rw[bz,bj,bj];exact hatZ _ _ _
 obtain⟨L1,c1,r1,r2,r3⟩:=ARF c hc γ B o (by omega) ho ((RS++Lb::Lq::(Y++[loc]))++[[]]) (KJ hLbst fun _ _=>rfl) v hLV L hL cc hc1
 have hcT:=fun n fr=>A9 (A:=ann) (kn:=kn) (n:=n+900) Tryz.func86 b86 rfl (args:=[.ptr 0 911 (γ+1) 0,v]) (by simp) (some 19) cc fr (L::(RS++Lb::Lq::(Y++[loc]))) []
 have hcb:∀n fr,GW (BT bn ann kn (n+900)) (some 19) ⟨cc,fr,⟨L::(RS++Lb::Lq::(Y++[loc])),[]⟩⟩ 86 [.ptr 0 911 (γ+1) 0,v]=some ⟨c1,(19,true,.agg (CK (D6 c (A0 c) o)))::fr,⟨L1::(RS++Lb::Lq::(Y++[loc])),[]⟩⟩:=fun n fr=>by have h1:=hcT n fr;rw[bj]at h1;refine(h1.trans (r3 n 19 fr)).trans ?_;rw[<-bj,C9];rfl
 simp only[bz,bj,List.nil_append]
 have hYb:=hLy.b
 obtain⟨γ2,b2,b3,b4⟩:=hLb.p2
 have q1:=hLb.p1
 have q3:=hLb.p3
 have q4:=hLb.p4
 have tl:=AIO hc (l:=o) ho
 have hfin:∀(A b own:AA) (c9:Nat) (fr9:Fr),b.get BO=some (γ0,.loop fr0 [16] (IV 37) GP 58 .busy)->(∀t:St,1<=t.up.length->AH t A=A)->(∀t:St,RS.length+2<=t.up.length->AH t b=b)->γ0<c9->W2 fr (RS.length+1) BO γ0 (some (.normal,⟨c9,fr9,⟨A::(RS++b::Lq::(Y++[loc])),own⟩⟩))=some (.bool true,⟨c9,fr,⟨A::(RS++((BO,γ0,.loop fr0 [16] (IV 37) GP 58 .ready)::b)::Lq::Y),loc⟩⟩):=fun A b own c9 fr9 hb hA hbs h9=>by
  rw[RM (fr0:=fr0) (ps:=[16]) (asg:=(IV 37)) (body:=GP) (N:=58) (hg1 A b (Lq::(Y++[loc])) own _ (by simp) hb) (hun _ _) (by simp) h9];have s1:=hsp ⟨A::(RS++b::Lq::(Y++[loc])),own⟩ (by simp<;>omega);have s2:=hbs ⟨A::(RS++b::Lq::(Y++[loc])),own⟩ (by simp<;>omega);have s3:=hA ⟨A::(RS++b::Lq::(Y++[loc])),own⟩ (by simp);have hne:¬RS.length=RS.length+(Y.length+1+1):=by omega
  simp[s1.1,s1.2.1,s1.2.2.1,s1.2.2.2,s2,s3,hset,St.put,AA.put]
 have hpB:∀(A:AA) (Z:List AA) (lo:AA),Z≠[]->St.put ⟨A::(RS++Ly::Z),lo⟩ (RS.length+1) BO γ0 (.loop fr0 [16] (IV 37) GP 58 .busy)=⟨A::(RS++Lb::Z),lo⟩:=fun A Z lo hz=>by
  have:¬RS.length+1=(A::(RS++Ly::Z)).length:=by
   cases Z with
   |nil=>exact absurd rfl hz
   |cons z Z=>simp
  unfold St.put;rw[if_neg this];simp[hset,AA.put,hLbe]
 obtain⟨fr7,Ly2,c2,i1,i2,h3,h4,h6,q7⟩:=ASR o hol v L1 Lq RS (Y++[loc]) (by
  rcases hv with⟨rfl,rfl⟩|⟨γr,es,rfl,v2,v3,v4,v5,v6⟩
  ·exact .inl ⟨rfl,rfl⟩
  ·exact .inr ⟨γr,es,rfl,v2,v3,v4⟩) g2 g3 g4 c1 (CK (D6 c (A0 c) o)) (fun _ _ _ _=>rfl) Lb o.length 0 (c1+1) _ (by omega) (hLb.more (by omega:cc<=c1+1)).emptied (by omega)
 have q7:=fun n m=>q7 n (m+100) (by omega)
 have hLt:=(hLb.more (by omega:cc<=c1+1)).taken i2 (s:=D6 c (A0 c) o) i1
 have hlv:v=.nil/\o=[]\/∃q γr,v=.vec q 921 γr o.length:=by
  rcases hv with h|⟨γr,es,h,_⟩
  ·exact .inl h
  ·exact .inr ⟨_,_,h⟩
 have hg34:g3<c2/\g4<c2:=by omega
 have hY3:=(i1.ot 3 (by decide) (by decide)).trans q3
 have hY4:=(i1.ot 4 (by decide) (by decide)).trans q4
 have hg2c:g2<c1+1:=by omega
 have hfT:=fun own fr9=>hfin L1 _ own c2 fr9 hLt.pr r1.st hLt.st (by omega)
 cases hacc:a with
 |none=>
  subst hacc
  have hstep:EL c (A0 c) none o=some (o,D6 c (A0 c) o):=rfl
  simp only[hstep]
  refine⟨L1,_,c2,r1,⟨_,rfl,rfl,hLt.loop⟩,by omega,fun n=>?_⟩
  rw[Y7 (hg1 _ _ _ _ _ (by simp) hLy.pr) rfl h0c]
  simp only[JW,Fr.put]
  simp[f1,f2,f3,f4]
  rw[IX (fr0:=fr0) (ps:=[16]) (asg:=(IV 37)) (body':=GP) (N:=58) (hg1 _ _ _ _ _ (by simp) hLy.pr) h0c]
  generalize D6 c (A0 c) o=S at *
  rw[hpB _ _ _ (by simp)]
  simp only[CK,eR]at hcb q3 q7 hfT hY3
  rcases hlv with⟨rfl,rfl⟩|⟨q,γr,rfl⟩
  ·simp at q7;simp[hcb,hset,q1,q4,b3,dT,dU,M4,dV,LN,hg2c,q7,h3,h4,h6,hg34,hY3,hY4,hfT,CK]
  ·simp at q7;simp[hcb,hset,q1,q4,b3,dT,dU,M4,dV,LN,hg2c,q7,h3,h4,h6,hg34,hY3,hY4,hfT,CK]
 |some bt=>
  obtain⟨b,t⟩:=bt
  subst hacc
  by_cases hcond:(D6 c (A0 c) o).sun<t.sun\/((D6 c (A0 c) o).sun=t.sun/\t.carried<=(D6 c (A0 c) o).carried)
  ·have hstep:EL c (A0 c) (some (b,t)) o=some (b,t):=if_pos hcond;simp only[hstep];refine⟨L1,RS++[(BO,γ0,.loop fr0 [16] (IV 37) GP 58 .ready)::Lb],c1+1,r1,⟨_,rfl,rfl,(hLb.more (by omega)).loop⟩,by omega,fun n=>?_⟩;rw[Y7 (hg1 _ _ _ _ _ (by simp) hLy.pr) rfl h0c];simp only[JW,Fr.put];simp[f1,f2,f3,f4];rw[IX (fr0:=fr0) (ps:=[16]) (asg:=(IV 37)) (body':=GP) (N:=58) (hg1 _ _ _ _ _ (by simp) hLy.pr) h0c];generalize D6 c (A0 c) o=S at *;rw[hpB _ _ _ (by simp)];have hf:=fun own fr9=>hfin L1 Lb own (c1+1) fr9 hLb.pr r1.st hLb.st (by omega);simp only[CK,eR]at hcb q3;rcases hcond with h|⟨h,h2⟩
   ·simp[hwv,hcb,q1,q3,q4,dT,dU,M4,dV,h,hf]
   ·have h3:¬S.sun<t.sun:=by omega
    simp[hwv,hcb,q1,q3,q4,dT,dU,M4,dV,h,h2,hf]
  ·have hstep:EL c (A0 c) (some (b,t)) o=some (o,D6 c (A0 c) o):=if_neg hcond;simp only[hstep];refine⟨L1,_,c2,r1,⟨_,rfl,rfl,hLt.loop⟩,by omega,fun n=>?_⟩;rw[Y7 (hg1 _ _ _ _ _ (by simp) hLy.pr) rfl h0c];simp only[JW,Fr.put];simp[f1,f2,f3,f4];rw[IX (fr0:=fr0) (ps:=[16]) (asg:=(IV 37)) (body':=GP) (N:=58) (hg1 _ _ _ _ _ (by simp) hLy.pr) h0c];generalize D6 c (A0 c) o=S at *;rw[hpB _ _ _ (by simp)];simp only[CK,eR]at hcb q3 q7 hfT hY3;have hA:¬S.sun<t.sun:=fun h=>hcond (.inl h);rcases hlv with⟨rfl,rfl⟩|⟨q,γr,rfl⟩
   ·simp at q7;by_cases hB:S.sun=t.sun
    ·have hC:¬t.carried<=S.carried:=fun h=>hcond (.inr ⟨hB,h⟩);simp[hcb,hset,q1,q3,q4,b3,dT,dU,M4,dV,LN,hA,eq_true hB,hC,hg2c,q7,h3,h4,h6,hg34,hY3,hY4,hfT,CK]
    ·simp[hcb,hset,q1,q3,q4,b3,dT,dU,M4,dV,LN,hA,hB,hg2c,q7,h3,h4,h6,hg34,hY3,hY4,hfT,CK]
   ·simp at q7;by_cases hB:S.sun=t.sun
    ·have hC:¬t.carried<=S.carried:=fun h=>hcond (.inr ⟨hB,h⟩);simp[hcb,hset,q1,q3,q4,b3,dT,dU,M4,dV,LN,hA,eq_true hB,hC,hg2c,q7,h3,h4,h6,hg34,hY3,hY4,hfT,CK]
    ·simp[hcb,hset,q1,q3,q4,b3,dT,dU,M4,dV,LN,hA,hB,hg2c,q7,h3,h4,h6,hg34,hY3,hY4,hfT,CK]
theorem APH(c:AQ)(s:List (List Int)):∀(ls:List (List Sp)) (acc:Option (List Sp×CB)),runG (fun acc l=>(EL c s acc l,true)) acc ls=(ls.foldl (EL c s) acc,true)
 |[],_=>rfl
 |l::ls,acc=>by simp only[runG,if_true,List.foldl_cons];exact APH c s ls _
theorem AD9{P:Program}{E:XE}(d c:Nat)(fr:Fr)(s:St)(T:TypeId)(a:Nat):EO (some d) ⟨c,fr,s⟩ (OG P fr s T (.tmp a))=DE P E (some d) (.ld T (.tmp a)) ⟨c,fr,s⟩:=rfl
noncomputable def jL(c:AQ)(γ N cc:Nat)(gl:V):Fr:=[(15,true,fnS γ gl),(14,true,gl),(13,true,.agg (AD c)),(12,true,.ptr 0 911 (γ+1) 0),(11,true,.ptr 0 911 (γ+1) 0),(10,true,.ptr 0 911 (γ+1) 0),(9,true,.ptr 0 911 (γ+1) 0),(1,true,.ptr N 1 cc 0),(2,true,.ptr N 2 (cc+1) 0),(3,true,.ptr N 3 (cc+1+1) 0),(4,true,.ptr N 4 (cc+1+1+1) 0)]
theorem ASU{c:AQ}(hc:BN c){γ:Nat}{B:AA}(RS:List AA)(hst:HL RS)(L:AA)(hL:Lw c γ B L)(cc:Nat)(hcc:γ+1<cc):∃L' c',Lw c γ B L'/\cc<=c' /\
  ∀n dd fr,lT bn (some dd) fr Tryz.f85.results.toList (AE bn ann kn (n+9000) 58 c85 ⟨cc,AF 0 [.ptr 0 911 (γ+1) 0],⟨L::RS,[]⟩⟩)=eG (some dd) fr c' (.tup [sl ((V5 (H9 c)).map EK),.agg (CK (eR (H9 c))),.bool (H9 c).isSome]) (CJ (L'::RS)):=by
 have hgr:sV RS (AK c []) (sl ((AK c []).map A2)):=.inl rfl
 have hfl:=hc.fl
 have hgs:∀g∈AK c [],g.1<c.fams.length/\1<=g.2/\g.2<=4:=fun g hg=>FB hc [] _ (Nat.le_refl _) g hg
 have hgl:(AK c []).length<=9:=by rw[CL];omega
 have p1:=hL.p1
 have qG:=fun n=>wU n c (by omega) [] (by simp)
 let Ly0:AA:=[(1,cc,.box [.ptr 0 911 (γ+1) 0]),(2,cc+1,.box [.nil]),(3,cc+1+1,.box [i 0,i 0,.bool false]),(4,cc+1+1+1,.box [.bool false])]
 have hLy0st:∀t:St,RS.length+1<=t.up.length->AH t Ly0=Ly0:=fun t ht=>by
  have e0:¬0=t.up.length:=by omega
  obtain⟨up,lo⟩:=t;simp only at e0;simp[Ly0,e0]
 have hst4:HL (RS++[Ly0]):=KJ hst fun t ht=>hLy0st t ht
 have q128:=fun n fr=>AA3 (c:=c) (γ:=γ) (B:=B) (gs:=AK c []) (gl:=sl ((AK c []).map A2)) (.inl rfl) L hL RS Ly0 (fun j g n h=>by
   cases hz:(AK c []).map A2 <;> rw[hz]at h <;> simp[sl]at h) hst4 (cc+1+1+1+1) 15 fr n
 have hcG:∀f:Nat,AG (f+3) (sl ((AK c []).map A2))=true:=fun f=>by cases AK c []<;>simp[sl,A2]
 have hwG:weakV (sl ((AK c []).map A2))=sl ((AK c []).map A2):=by cases AK c []<;>simp[sl]
 have hclB:c.chairs.all ((fun e=>e.all (AG 7))∘AS)=true:=List.all_eq_true.2 fun x _=>by simp[AS,A6]
 have hclF:c.fams.all ((fun e=>e.all (AG 7))∘AU)=true:=List.all_eq_true.2 fun x _=>by simp[AU]
 have hb12:Nat.beq 12 1=false:=rfl
 have hLy:ASS γ RS cc (cc+1) (cc+1+1) (cc+1+1+1) (cc+1+1+1+1+2) (jL c γ (RS.length+1) cc (sl ((AK c []).map A2))) (cc+1+1+1+1+2+1) true none (RS++[(BO,cc+1+1+1+1+2,.loop (jL c γ (RS.length+1) cc (sl ((AK c []).map A2))) [16] (IV 37) GP 58 .ready)::Ly0]):=by refine⟨_,rfl,rfl,by simp[Ly0,BO],⟨0,by omega,by simp[Ly0,BO,V5,pvl],fun h=>absurd rfl h⟩,by simp[Ly0,BO,eR,CK],by simp[Ly0,BO],by simp[BO],fun t ht=>?_,by omega⟩;rw[BC,hLy0st t (by omega)];rfl
 obtain⟨L',R',c',r1,r2,r3,r4⟩:=vO hc (BEE hgr hst) hgl hgs (AST hc hst (by simp[jL]) (by simp[jL]) (by simp[jL]) (by simp[jL])) none L RS _ hL hLy (by omega) (jL c γ (RS.length+1) cc (sl ((AK c []).map A2)))
 rw[APH]at r2
 rw[show(mJ c (A0 c) (AK c [])).foldl (EL c (A0 c)) none=H9 c from rfl]at r2
 obtain⟨Ly',rfl,_,hLy'⟩:=r2
 have hun:CJ (L'::(RS++[Ly']))=some (L'::RS,Ly'):=by have:=C9 Ly' (L'::RS);rwa [bj]at this
 rw[hun]at r4
 have r4:=fun n=>r4 (n+1495)
 refine⟨L',c',r1,by omega,fun n dd fr=>?_⟩
 have sL:=r1.st
 have sR1:∀(A lo:AA),RS.map (AH ⟨A::RS,lo⟩)=RS:=fun A lo=>hst _ (by simp)
 generalize sl ((AK c []).map A2)=gl at *
 simp only[DZ,AD,Ly0,li,bk]at p1 qG q128
 try simp at q128
 simp[c85,AF,p1,qG,q128,hwG,hclB,hclF,hb12,CI,B7,SM]
 rw[W9 rfl]
 simp
 rw[show(Code.block 1 ((IV 149).seq (((IV 597).seq (Code.cond (Operand.tmp 41) (Code.exit 1) Code.skip)).seq ((IV 725).seq (((IV 2517).seq (Code.block 2 O3.loop)).seq (IV 2005))))))=GP from rfl]
 have r4:=r4 n
 rw[show n+1495+1500+6000=n+8995 by omega]at r4
 simp only[jL,AD,Ly0,li]at r4|-
 simp only[r4]
 rw[show ∀fr0:Fr,eG none fr0 c' (.tup []) (some (L'::RS,Ly'))=some ⟨c',fr0,⟨L'::RS,Ly'⟩⟩ from fun _=>rfl]
 rw[eA (fr0:=jL c γ (RS.length+1) cc gl) (ps:=[16]) (asg:=(IV 37)) (body:=GP) (N:=58) (by simp[St.get];simpa using hLy'.pr) (by omega)]
 obtain⟨γ2,b1,b2,b3⟩:=hLy'.p2
 have y3:=hLy'.p3
 have y4:=hLy'.p4
 have hcs:∀x∈(V5 (H9 c)).map EK,∀v∈x,AG 8 v=true:=fun x hx v hv=>by obtain⟨y,_,rfl⟩:=bh.1 hx;simp only[EK,bm,bf,or_false]at hv;rcases hv with rfl|rfl<;>rfl
 generalize (V5 (H9 c)).map EK=O at *
 generalize eR (H9 c)=S at *
 generalize (H9 c).isSome=z at *
 simp only[CK]at y3|-
 cases O with
 |nil=>
  simp[St.put,AA.put,BO,MT,AD9 (E:=BT bn ann kn 0),b2,y3,y4,A7F,vJ,sL,sR1]
 |cons x O=>
  have b3:=b3 (by simp)
  have hx:=hcs x (by simp)
  have hcO:=eq_true fun e he=>hcs e (List.mem_cons_of_mem x he)
  simp[St.put,AA.put,BO,MT,AD9 (E:=BT bn ann kn 0),b2,b3,y3,y4,BHL,vK,sL,sR1]
end Go.Proofs.Tryz.Op
namespace Go.Pg
def re4:Option V->Option V->Option V->Option V->Option V
 |some a,some b,some c,some d=>some (.tup [a,b,c,d])
 |_,_,_,_=>none
@[simp] theorem A24(a b c d:V):re4 (some a) (some b) (some c) (some d)=some (.tup [a,b,c,d]):=rfl
@[simp] theorem AYH{P:Program}{fr:Fr}{s:St}(x y z w:ResultVar):GD P [x,y,z,w] fr s=re4 (CU P fr s x) (CU P fr s y) (CU P fr s z) (CU P fr s w):=by
 unfold GD;simp only[List.mapM_cons,List.mapM_nil];cases CU P fr s x with
 |none=>rfl
 |some a=>cases CU P fr s y with
  |none=>rfl
  |some b=>cases CU P fr s z with
   |none=>rfl
   |some c=>cases CU P fr s w<;>rfl
end Go.Pg
namespace Go.Proofs.Tryz.Op
def lvW(c:AQ)(p g:Nat):AA:=[(p,0,.box (AD c)),(910,g,.map []),(911,g+1,.box (DZ c g))]
theorem AEA(c:AQ)(p g:Nat)(h:p<900):Lw c g (lvW c p g) (lvW c p g) where
 p0:=by
  have e:¬910=p:=by omega
  exact⟨[],⟨by simp,by simp,by simp⟩,by simp[lvW,e]⟩
 p1:=by
  have e:¬911=p:=by omega
  simp[lvW,e]
 st:=fun t ht=>by
  have e0:¬0=t.up.length:=by omega
  have hcE:∀l∈A0 c,encA l=l.map fun x=>i x:=fun _ _=>rfl;have hA:∀f:Nat,AG (f+3) (.list false ((A0 c).map encA))=true:=fun f=>by simp[encA]
  obtain⟨up,lo⟩:=t;simp only at e0;simp[lvW,DZ,AD,II]
 ot:=fun _ _=>rfl
theorem ASV(n:Nat)(c:AQ)(h40:∀l∈c.beach.winds,l.length<=40)(hch:c.chairs.length<=40):AY bn kn (AE bn ann kn (n+9600)) 33 [.agg (AD c)]=some (.tup [sl ((RO c).1.map AJ),i (RO c).2.1,i (RO c).2.2.1,i (RO c).2.2.2]):=by
 rw[AN rfl,AO Tryz.func33 b33 rfl (by simp[AD,AS,A6,AU])];unfold RO;by_cases h:EC c=0
 ·rw[if_neg (by simp[h])];have hc:=GY h;obtain⟨g',hg,q⟩:=wR c hc [(1,0,.box (AD c))] (fun t _=>wS c 1 0 t) 1 11 [(10,true,.agg (AD c)),(1,true,.ptr 0 1 0 0)];have q:=fun n=>q (n+1596);obtain⟨L',c',r1,r2,r3⟩:=ASU hc [] (fun _ _=>rfl) (lvW c 1 2) (AEA c 1 2 (by omega)) g' (by omega);have hcb:=fun n fr=>(A9 (A:=ann) (kn:=kn) (n:=n+9000) Tryz.func85 b85 rfl (args:=[.ptr 0 911 (2+1) 0]) (by simp) (some 19) g' fr [] (lvW c 1 2)).trans (r3 n 19 fr);have sL:=r1.st;have q1:L'.get 1=some (0,.box (AD c)):=r1.ot 1 (by decide);have o7:L'.get 7=none:=r1.ot 7 (by decide);have o11:L'.get 11=none:=r1.ot 11 (by decide);have o19:L'.get 19=none:=r1.ot 19 (by decide);obtain⟨T,_,z910⟩:=r1.p0;have z911:=r1.p1;have hsp:(V5 (H9 c)).map EK=((V5 (H9 c)).map SO).map AJ:=by rw[List.map_map];rfl
  rw[hsp]at hcb;have hcE:∀(f:Nat) (l:List (Int×Int)),AG (f+3) (sl (l.map AJ))=true:=fun f l=>by cases l<;>simp[sl,AJ]
  have hwE:∀l:List (Int×Int),weakV (sl (l.map AJ))=sl (l.map AJ):=fun l=>by cases l<;>simp[sl]
  cases hO:H9 c with
  |none=>
   rw[hO]at hcb
   simp only[V5,eR,Option.isSome_none,bk,vJ,CK,lvW,DZ,AD,bq]at hcb q q1|-
   simp at hcb
   simp[c33,AF,q,hcb,q1,o11,o19,z910,z911]
   done
  |some bt=>
   obtain⟨b,t⟩:=bt
   rw[hO]at hcb
   simp only[V5,eR,Option.isSome_some,CK,lvW,DZ,AD,bq]at hcb q q1|-
   have hBB:∀x∈(b.map SO).map AJ,∀v∈x,AG 7 v=true:=fun x hx v hv=>by obtain⟨y,_,rfl⟩:=bh.1 hx;simp only[AJ,bm,bf,or_false]at hv;rcases hv with rfl|rfl<;>rfl
   generalize (b.map SO).map AJ=BB at *
   simp at hcb
   simp[c33,AF,q,hcb,q1,o11,o19,z910,z911]
   exact hBB
 ·rw[if_pos h];have q:=ZE c h40 hch h [(1,0,.box (AD c))] (fun t _=>wS c 1 0 t) 1 11 [(10,true,.agg (AD c)),(1,true,.ptr 0 1 0 0)];have q:=fun n=>q (n+1596);generalize EC c=E at *;simp only[AD,Nat.add_assoc,bq,bk,vJ]at q|-;simp[c33,AF,q,h]
theorem AKM(n:Nat)(c:AQ)(h40:∀l∈c.beach.winds,l.length<=40)(hch:c.chairs.length<=40)(ss:List (Int×Int))(sun carried:Int):AY bn kn (AE bn ann kn (n+9600)) 34 [.agg (AD c),.list false (ss.map AJ),i sun,i carried]=some (.bool (V4 c ss sun carried)):=by
 rw[AN rfl,AO Tryz.func34 b34 rfl (by simp[AD,AS,A6,AU])];unfold V4;by_cases h:EC c=0
 ·have hc:=GY h;obtain⟨g',hg,q⟩:=wR c hc [(4,0,.box (AD c))] (fun t _=>wS c 4 0 t) 1 16 [(15,true,.agg (AD c)),(1,true,.list false (ss.map AJ)),(2,true,i sun),(3,true,i carried),(4,true,.ptr 0 4 0 0)];have q:=fun n=>q (n+1596);have qs:=fun n=>ASQ n c hc ss;have hsv:(OT c ss).2=D1 c ss:=by unfold OT D1;by_cases hs:ss.length=c.fams.length<;>simp[hs]
  rw[hsv]at qs;rw[decide_eq_true h,Bool.true_and];by_cases hs:D1 c ss=true
  ·rw[hs]at qs|-;have hsp:(OT c ss).1=A5 c ss:=by unfold OT;rw[if_pos (M3 hc hs).1]
   rw[hsp]at qs;rw[Bool.true_and];have hsl:(A5 c ss).length=c.fams.length:=DL (M3 hc hs).1;have hfl:=hc.fl;have hon:∀x∈A5 c ss,vN c x:=fun x hx=>by obtain⟨x1,x2,x3,x4,x5⟩:=(M3 hc hs).2 x hx;have h3:=OU hc (M3 hc hs).1 x hx;refine⟨?_,h3.1,by omega,by omega⟩;simp only[C4,Bool.and_eq_true,C6];omega
   have hlv:iX [] (A5 c ss) (sl ((A5 c ss).map AP)):=by
    cases hz:A5 c ss with
    |nil=>exact .inr (.inl ⟨rfl,rfl⟩)
    |cons a l=>exact .inl rfl
   obtain⟨L',c',r1,r2,r3⟩:=ARF c hc 2 (lvW c 4 2) (A5 c ss) (by omega) hon [] (fun _ _=>rfl) _ hlv (lvW c 4 2) (AEA c 4 2 (by omega)) g' (by omega);have hcb:=fun n fr=>(A9 (A:=ann) (kn:=kn) (n:=n+900) Tryz.func86 b86 rfl (args:=[.ptr 0 911 (2+1) 0,sl ((A5 c ss).map AP)]) (by simp) (some 31) g' fr [] (lvW c 4 2)).trans (r3 n 31 fr);have hwE:weakV (sl ((A5 c ss).map AP))=sl ((A5 c ss).map AP):=by cases A5 c ss<;>simp[sl]
   have sL:=r1.st;have q4:L'.get 4=some (0,.box (AD c)):=r1.ot 4 (by decide);have o13:L'.get 13=none:=r1.ot 13 (by decide);have o16:L'.get 16=none:=r1.ot 16 (by decide);have o24:L'.get 24=none:=r1.ot 24 (by decide);obtain⟨T,_,z910⟩:=r1.p0;have z911:=r1.p1;generalize D6 c (A0 c) (A5 c ss)=S at *;generalize sl ((A5 c ss).map AP)=sv at *;obtain⟨S1,S2,S3⟩:=S;simp only[CK,lvW,DZ,AD,bq]at hcb q qs q4|-;simp at hcb;generalize e1:decide (sun<=S1)=y1;generalize e2:decide (S2<=carried)=y2;cases S3<;>cases y1<;>cases y2<;>simp[c34,AF,AS,A6,AU,q,qs,hcb,hwE,dT,dU,M4,dV,e1,e2];done
  ·have hs:D1 c ss=false:=by simpa using hs
   rw[hs]at qs|-;generalize sl ((OT c ss).1.map AP)=sv at *;simp only[DZ,AD,bq]at q qs|-;simp[c34,AF,AS,A6,AU,q,qs];done
 ·have q:=ZE c h40 hch h [(4,0,.box (AD c))] (fun t _=>wS c 4 0 t) 1 16 [(15,true,.agg (AD c)),(1,true,.list false (ss.map AJ)),(2,true,i sun),(3,true,i carried),(4,true,.ptr 0 4 0 0)];have q:=fun n=>q (n+1596);rw[decide_eq_false h,Bool.false_and];generalize EC c=E at *;simp only[AD,Nat.add_assoc,bq]at q|-;simp[c34,AF,q,h]
end Go.Proofs.Tryz.Op
