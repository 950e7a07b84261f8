/- The contracts of seatings and possible, from any stack. No condition but a valid case. -/
import Derived.Test.YtanlhbmliegjeaaGreatS5
open Go.Proofs.Tryz renaming prog->bn
open List renaming cons_append->bj,map_nil->bk,map_append->bq,map_cons->bw,append_assoc->bx,getElem?_append_right->bz,getElem?_cons_succ->bb,not_mem_nil->bc,append_inj->bf,mem_map->bg,mem_cons->bm
set_option maxRecDepth 100000
set_option linter.unusedSimpArgs false
open Go Go.Pg Go.Proofs Go.Wind
namespace Go.Pg
variable {fr:Fr}
end Go.Pg
namespace Go.Proofs.Tryz.Op
abbrev fnS(γ:Nat)(gl:V):V:=.fn 76 [] [.ref [gl],.ref [.ptr 0 911 (γ+1) 0]]
theorem xG{c:A0}{γ:Nat}{B:AA}{gs:List (Nat×Int)}{gl:V}(hgl:gl=sl (gs.map CT)\/∃j g n,gl=.vec (j+1) 39 g n)(L:AA)(hL:Lw c γ B L)(RS:List AA)(Ly:AA)(hj:∀j g n,gl=.vec (j+1) 39 g n->j<RS.length+1)(hst:HC (RS++[Ly]))(cc d:Nat)(fr:Fr)(n:Nat):GH (BH bn ann kn (n+100)) (some d) ⟨cc,fr,⟨L::RS,Ly⟩⟩ 45 [.ptr 0 911 (γ+1) 0,gl]=some ⟨cc+2,(d,true,fnS γ gl)::fr,⟨L::RS,Ly⟩⟩:=by
 have sL:=hL.st;have sR:∀(A:AA) (lo:AA),(RS++[Ly]).map (AJ ⟨A::(RS++[Ly]),lo⟩)=RS++[Ly]:=fun A lo=>hst _ (by simp);have sR1:∀(A:AA) (lo:AA),RS.map (AJ ⟨A::(RS++[Ly]),lo⟩)=RS/\AJ ⟨A::(RS++[Ly]),lo⟩ Ly=Ly:=fun A lo=>by have:=sR A lo;rw[bq]at this;have:=bf this (by simp);exact⟨this.1,by simpa using this.2⟩
 rw[A3 Tryz.func45 b45 rfl (by simp)];rcases hgl with rfl|⟨j,g,m,rfl⟩
 ·have hcl:∀f:Nat,AG (f+3) (sl (gs.map CT))=true:=fun f=>by cases gs<;>simp[sl,CT]
  cases gs with
  |nil=>simp[c45,AD,rX,sL,(sR1 _ _).1,(sR1 _ _).2]
  |cons a gs=>simp[c45,AD,rY,CT,sL,(sR1 _ _).1,(sR1 _ _).2]
 ·have hjn:=hj j g m rfl;have e1:¬j+1=RS.length+1+1:=by omega
  have e2:¬j=RS.length+1:=by omega
  simp[c45,AD,e1,e2,sL,(sR1 _ _).1,(sR1 _ _).2]
theorem pC.more{R:List AA}{gs:List (Nat×Int)}{gl:V}(h:pC R gs gl)(Z:List AA):pC (R++Z) gs gl:=by
 rcases h with h|⟨j,g,Lj,h1,h2,h3⟩
 ·exact .inl h
 ·refine .inr ⟨j,g,Lj,h1,?_,h3⟩;rw[List.getElem?_append_left (List.getElem?_eq_some_iff.1 h2).1];exact h2
def D7(x:Sp):List V:=[i x.row,i x.place]
theorem AZQ(st:XS):K7 [3003000923052] st=cI 52 (L7 3 st) 922 [2] st:=rfl
theorem AZR(c:Nat)(fr:Fr)(up:List AA)(a b:Nat×AX):K7 [3003000923052] ⟨c,fr,⟨up,[(6,a),(8,b)]⟩⟩=⟨c,fr,⟨up,[(6,a),(8,b)]⟩⟩:=by rw[AZQ];rfl
theorem AZS(c γ g2 g o:Nat)(T:TypeId)(es:List (List V))(a6 a8:Nat)(c6 c8:List V)(fr:Fr)(L Ly:AA)(RS Z:List AA)(r2:AX)(h3:BQ fr 2=some (true,.ptr (RS.length+1) 2 g o))(h2:Ly.get 2=some (g2,r2)) :
  K7 [3003000923052] ⟨c,fr,⟨L::(RS++Ly::Z),[(52,γ,.vec T es),(6,a6,.box c6),(8,a8,.box c8)]⟩⟩=⟨c,vA (RS.length+(Z.length+1)+1) 52 (RS.length+1) 922 fr,⟨L::(RS++((922,γ,Q7 (RS.length+(Z.length+1)+1) 52 (RS.length+1) 922 (.vec T es))::(2,g2,Q7 (RS.length+(Z.length+1)+1) 52 (RS.length+1) 922 r2)::I7 2 Ly)::Z),[(6,a6,Q7 (RS.length+(Z.length+1)+1) 52 (RS.length+1) 922 (.box c6)),(8,a8,Q7 (RS.length+(Z.length+1)+1) 52 (RS.length+1) 922 (.box c8))]⟩⟩:=by
 rw[AZQ]
 have hl:(L::(RS++Ly::Z)).length=RS.length+(Z.length+1)+1:=by simp
 have e1:L7 3 ⟨c,fr,⟨L::(RS++Ly::Z),[(52,γ,.vec T es),(6,a6,.box c6),(8,a8,.box c8)]⟩⟩=RS.length+1:=by show(match BQ fr 2 with|some (true,.ptr l _ _ _)=>l|_=>0)=RS.length+1;rw[h3]
 rw[e1]
 unfold cI
 have e3:QZ (RS.length+1) (RS.length+(Z.length+1)+1) (some (γ,.vec T es))=true:=by
  have:Nat.blt (RS.length+1) (RS.length+(Z.length+1)+1)=true:=by rw[Nat.blt_eq];omega
  simp[QZ,bN,this]
 have ne:¬RS.length=RS.length+(Z.length+1):=by omega
 simp[vB,AA.get,zI,h2,jA,St.put,DB,zQ,ne,e3]
structure xH(l0 g2:Nat)(Ly0:AA)(s:List (List V))(cc:Nat)(Ly:AA):Prop where
 p2:∃γ,γ<cc/\Ly.get 2=some (g2,.box [pvl l0 922 γ s])/\(s≠[]->Ly.get 922=some (γ,.vec 87 s))
 ot:∀k,¬k=2->¬k=922->Ly.get k=Ly0.get k
 st:∀t:St,l0+1<=t.up.length->AJ t Ly=Ly
theorem xH.more{l0 g2:Nat}{Ly0 Ly:AA}{s:List (List V)}{cc c2:Nat}(h:xH l0 g2 Ly0 s cc Ly)(hc:cc<=c2):xH l0 g2 Ly0 s c2 Ly:=by obtain⟨γ,h1,h2⟩:=h.p2;exact⟨⟨γ,by omega,h2⟩,h.ot,h.st⟩
theorem cY(t:St)(T:TypeId)(l:List Sp):CC t (.vec T (l.map D7))=.vec T (l.map D7):=L9 fun e he v hv=>by obtain⟨x,_,rfl⟩:=bg.1 he;simp only[D7,bm,bc,or_false]at hv;rcases hv with rfl|rfl<;>rfl
theorem xH.first{l0 g2:Nat}{Ly0 Ly:AA}{cc:Nat}(h:xH l0 g2 Ly0 [] cc Ly)(x:Sp):xH l0 g2 Ly0 ([x].map D7) (cc+1) ((922,cc,.vec 87 [D7 x])::(2,g2,.box [.vec l0 922 cc 1])::I7 2 Ly) where
 p2:=⟨cc,by omega,by simp[pvl],fun _=>by simp⟩
 ot:=fun k h1 h2=>by rw[<-h.ot k h1 h2];simp[h1,h2]
 st:=fun t ht=>by
  have e:¬l0=t.up.length:=by omega
  have e2:=cY t 87 [x];rw[bw,bk]at e2;rw[A6,A6,RQ,h.st t ht,e2];obtain⟨up,lo⟩:=t;simp only at e;simp[EZ,e]
theorem xH.next{l0 g2:Nat}{Ly0 Ly:AA}{cc:Nat}{l:List Sp}(h:xH l0 g2 Ly0 (l.map D7) cc Ly)(x:Sp):xH l0 g2 Ly0 ((l++[x]).map D7) (cc+1) ((2,g2,.box [.vec l0 922 cc (l.length+1)])::(922,cc,.vec 87 (l.map D7++[D7 x]))::Ly) where
 p2:=by
  refine⟨cc,by omega,?_,fun _=>by simp⟩;have:pvl l0 922 cc ((l++[x]).map D7)=.vec l0 922 cc (l.length+1):=by cases l<;>simp[pvl]
  rw[this];simp
 ot:=fun k h1 h2=>by rw[<-h.ot k h1 h2];simp[h1,h2]
 st:=fun t ht=>by
  have e:¬l0=t.up.length:=by omega
  have e2:=cY t 87 (l++[x]);rw[bq,bw,bk]at e2;rw[A6,A6,h.st t ht,e2];obtain⟨up,lo⟩:=t;simp only at e;simp[EZ,e]
theorem AK5{m:Nat}(hm:m<=100)(x:Sp):CG bn 87 m [D7 x]=true:=by have h2:(D7 x).length=2:=rfl;rw[C3 (by simp) (by simp[D7])];simp[maxLen,h2];omega
theorem AOZ(o:List Sp)(ho:o.length<=10)(v:V)(L Lq:AA)(RS Y:List AA)(hv:(v=.nil/\o=[])\/∃γ es,v=.vec (RS.length+1+1) 921 γ o.length/\Lq.get 921=some (γ,.vec 129 es)/\o.length<=es.length/\∀k (h:k<o.length) (h2:k<es.length),es[k]=AO o[k])(g2 g3 g4 g6:Nat)(B6:List V)(h6:∀n k l d,B6.map (KG n k l d 3)=B6)(Ly0:AA):∀(d k cc:Nat) (Ly:AA),k+d=o.length->xH (RS.length+1) g2 Ly0 ((o.take k).map D7) cc Ly->g2<cc->∃fr Ly' c',xH (RS.length+1) g2 Ly0 (o.map D7) c' Ly'/\cc<=c'/\BQ fr 3=some (true,.ptr (RS.length+1) 3 g3 0)/\BQ fr 4=some (true,.ptr (RS.length+1) 4 g4 0)/\BQ fr 6=some (true,.ptr (RS.length+(Y.length+1+1)+1) 6 g6 0) /\
  ∀n m,d<m->BG (AE bn ann kn (n+400) 58) NW (ann 58 (BX NW)) m ⟨cc,[(2,true,.ptr (RS.length+1) 2 g2 0),(3,true,.ptr (RS.length+1) 3 g3 0),(4,true,.ptr (RS.length+1) 4 g4 0),(6,true,.ptr (RS.length+(Y.length+1+1)+1) 6 g6 0),(42,true,v),(43,true,i o.length),(44,true,i k)],⟨L::(RS++Ly::Lq::Y),[(6,g6,.box B6)]⟩⟩ =
   some (.exit 2,⟨c',fr,⟨L::(RS++Ly'::Lq::Y),[(6,g6,.box B6)]⟩⟩)
 |0,k,cc,Ly,hd,hLy,hg=>by
  obtain rfl:k=o.length:=by omega
  rw[List.take_length]at hLy;refine⟨?fr,Ly,cc,hLy,Nat.le_refl _,?g1,?g2,?g3,fun n m hm=>?g9⟩;case g9=>
   obtain⟨m,rfl⟩:=qNz m (by omega)
   rw[AC]
   simp
   rfl
  all_goals simp
 |d+1,k,cc,Ly,hd,hLy,hg=>by
  have hk:k<o.length:=by omega
  have hw:=BS (k:=k) (by omega);rcases hv with⟨_,rfl⟩|⟨γr,es,rfl,hq1,hq2,hq3⟩
  ·simp at hk
  have hke:k<es.length:=by omega
  have hel:=hq3 k hk hke;have htk:o.take (k+1)=o.take k++[o[k]]:=List.take_succ_eq_append_getElem hk;have hln:(o.take k).length=k:=by rw[List.length_take];omega
  have hat:∀(x:AA) (Z:List AA),(RS++x::Z)[RS.length]? = some x:=at5 RS;have hset:∀(x:AA) (Z:List AA) (f:AA->AA),(RS++x::Z).modify RS.length f=RS++f x::Z:=zQ RS;have hatZ:∀x:AA,(RS++x::Lq::Y)[RS.length+1]? = some Lq:=fun x=>by rw[bz (by omega),show RS.length+1-RS.length=0+1 by omega,bb];rfl
  obtain⟨γ,hγ,p2,p922⟩:=hLy.p2;have hN1:¬RS.length+1=RS.length+(Y.length+1+1)+1:=by omega
  have hN2:¬RS.length+1+1=RS.length+(Y.length+1+1)+1:=by omega
  have hg2:g2<cc+1+1:=by omega
  have hg2':g2<cc+1:=by omega
  by_cases hnil:o.take k=[]
  ·obtain rfl:k=0:=by have:=congrArg List.length hnil;rw[hln]at this;exact this
   rw[hnil]at hLy p2;have hLy2:=(hLy.more (by omega:cc<=cc+1)).first o[0];rw[show[o[0]]=o.take (0+1) by rw[htk,hnil];rfl]at hLy2;obtain⟨fr,Ly',c',i1,i2,f3,f4,f6,ih⟩:=AOZ o ho _ L Lq RS Y (.inr ⟨γr,es,rfl,hq1,hq2,hq3⟩) g2 g3 g4 g6 B6 h6 Ly0 d (0+1) (cc+1+1) _ (by omega) hLy2 (by omega);refine⟨fr,Ly',c',i1,by omega,f3,f4,f6,fun n m hm=>?_⟩;obtain⟨m,rfl⟩:=qNz m (by omega);have ih:=ih n m (by omega);have happ:=AK5 (m:=0) (by omega) o[0];have hgh:=fun c1 fr (h2:BQ fr 2=some (true,.ptr (RS.length+1) 2 g2 0))=>AZS c1 (cc+1) g2 g2 0 87 [D7 o[0]] g6 cc B6 (AO o[0]) fr L ((2,g2,.box [.vec (RS.length+(Y.length+1+1)+1) 52 (cc+1) 1])::Ly) RS (Lq::Y) _ h2 rfl;rw[AC];simp only[D7,AO,bk,A2H]at ih happ hgh p2 hel|-;simp at ih;simp[hk,hw,hN1,hN2,hat,hset,hatZ,hq1,hq2,hel,hke,p2,ES,happ,hg2,hg2',ED,IL,DB,LG,hgh,JT,GG,G9,GF,LI,SW,h6,ih]
  ·have p922:=p922 (by simpa using hnil);have hLy2:=(hLy.more (by omega:cc<=cc+1)).next o[k];rw[<-htk,hln]at hLy2;obtain⟨fr,Ly',c',i1,i2,f3,f4,f6,ih⟩:=AOZ o ho _ L Lq RS Y (.inr ⟨γr,es,rfl,hq1,hq2,hq3⟩) g2 g3 g4 g6 B6 h6 Ly0 d (k+1) (cc+1+1) _ (by omega) hLy2 (by omega);refine⟨fr,Ly',c',i1,by omega,f3,f4,f6,fun n m hm=>?_⟩;obtain⟨m,rfl⟩:=qNz m (by omega);have ih:=ih n m (by omega);have happ:=AK5 (m:=k) (by omega) o[k];have hpv:pvl (RS.length+1) 922 γ ((o.take k).map D7)=.vec (RS.length+1) 922 γ k:=by
    cases hq:o.take k with
    |nil=>exact absurd hq hnil
    |cons a l=>
     rw[hq]at hln
     simp only[bw,pvl,List.length_map]
     rw[<-hln]
     rfl
   rw[hpv]at p2;have hm2:∀e∈(o.take k).map D7,e.length=2:=fun e he=>by obtain⟨x,_,rfl⟩:=bg.1 he;rfl
   have hm2:=eq_true hm2;have hlm:((o.take k).map D7).length=k:=by rw[List.length_map,hln]
   have hkm:min k o.length=k:=by omega
   generalize (o.take k).map D7=OO at *;rw[AC];simp only[D7,AO]at ih happ hel|-;simp at ih;simp[hk,hw,hN1,hN2,hat,hset,hatZ,hq1,hq2,hel,hke,p2,p922,happ,hm2,hlm,hkm,hg2,hg2',ED,DB,AZR,h6,ih]
def TK:Option (List Sp×CD)->List Sp
 |none=>[]
 |some q=>q.1
def bR:Option (List Sp×CD)->CD
 |none=>⟨0,0,false⟩
 |some q=>q.2
noncomputable def GJ:Code:=.block 1 (.seq (II 149) (.seq (.seq (II 597) (.cond (.tmp 41) (.exit 1) .skip)) (.seq (II 725) (.seq (.seq (II 2517) (.block 2 (.loop NW))) (II 2005)))))
@[simp] theorem uBe(n:Nat)(st:XS):AE bn ann kn n 58 GJ st=AE bn ann kn n 58 (.block 1 (.seq (II 149) (.seq (.seq (II 597) (.cond (.tmp 41) (.exit 1) .skip)) (.seq (II 725) (.seq (.seq (II 2517) (.block 2 (.loop NW))) (II 2005)))))) st:=rfl
structure LyB(γ l0 g1 g2 g3 g4 γ0:Nat)(fr0:Fr)(ls:LS)(acc:Option (List Sp×CD))(cc:Nat)(Ly:AA):Prop where
 p1:Ly.get 1=some (g1,.box [.ptr 0 911 (γ+1) 0])
 p2:∃γ2,γ2<cc/\Ly.get 2=some (g2,.box [pvl l0 922 γ2 ((TK acc).map D7)])/\((TK acc).map D7≠[]->Ly.get 922=some (γ2,.vec 87 ((TK acc).map D7)))
 p3:Ly.get 3=some (g3,.box (CQ (bR acc)))
 p4:Ly.get 4=some (g4,.box [.bool acc.isSome])
 pr:Ly.get BJ=some (γ0,.loop fr0 [16] (II 37) GJ 58 ls)
 st:∀t:St,l0+1<=t.up.length->AJ t Ly=Ly
 b:g1<cc/\g2<cc/\g3<cc/\g4<cc/\γ0<cc
section
variable {γ l0 g1 g2 g3 g4 γ0:Nat}{fr0:Fr}{ls ls':LS}{acc:Option (List Sp×CD)}{cc:Nat}{Ly:AA}
theorem LyB.more(h:LyB γ l0 g1 g2 g3 g4 γ0 fr0 ls acc cc Ly){c2:Nat}(hc:cc<=c2):LyB γ l0 g1 g2 g3 g4 γ0 fr0 ls acc c2 Ly:=by obtain⟨γ2,h1,h2⟩:=h.p2;exact⟨h.p1,⟨γ2,by omega,h2⟩,h.p3,h.p4,h.pr,h.st,by have:=h.b;omega⟩
theorem LyB.loop(h:LyB γ l0 g1 g2 g3 g4 γ0 fr0 ls acc cc Ly):LyB γ l0 g1 g2 g3 g4 γ0 fr0 ls' acc cc ((BJ,γ0,.loop fr0 [16] (II 37) GJ 58 ls')::Ly):=by obtain⟨γ2,h1,h2,h3⟩:=h.p2;refine⟨by simpa [BJ]using h.p1,⟨γ2,h1,by simpa [BJ]using h2,by simpa [BJ]using h3⟩,by simpa [BJ]using h.p3,by simpa [BJ]using h.p4,by simp,fun t ht=>by rw[A6,h.st t ht];rfl,h.b⟩
end
theorem LyB.emptied{γ l0 g1 g2 g3 g4 γ0:Nat}{fr0:Fr}{ls:LS}{acc:Option (List Sp×CD)}{cc:Nat}{Ly:AA}(h:LyB γ l0 g1 g2 g3 g4 γ0 fr0 ls acc cc Ly):xH l0 g2 Ly [] cc ((2,g2,.box [.nil])::Ly) :=
 ⟨⟨0,by have:=h.b;omega,by simp[pvl],fun h=>absurd rfl h⟩,fun k h1 _=>by simp[h1],fun t ht=>by rw[A6,h.st t ht];simp[EZ]⟩
theorem LyB.taken{γ l0 g1 g2 g3 g4 γ0:Nat}{fr0:Fr}{ls:LS}{acc:Option (List Sp×CD)}{cc c2:Nat}{Ly Ly2:AA}(h:LyB γ l0 g1 g2 g3 g4 γ0 fr0 ls acc cc Ly)(hc:cc<=c2){o:List Sp}{s:CD}(h2:xH l0 g2 Ly (o.map D7) c2 Ly2):LyB γ l0 g1 g2 g3 g4 γ0 fr0 ls (some (o,s)) c2 ((4,g4,.box [.bool true])::(3,g3,.box (CQ s))::Ly2):=by
 obtain⟨γ2,e1,e2,e3⟩:=h2.p2;have ot:=h2.ot;refine⟨?_,⟨γ2,e1,by simpa [TK]using e2,by simpa [TK]using e3⟩,by simp[bR],by simp,?_,fun t ht=>?_,by have:=h.b;omega⟩
 ·simpa [ot 1 (by decide) (by decide)]using h.p1
 ·simpa [BJ,ot 1000000 (by decide) (by decide)]using h.pr
 ·rw[A6,A6,h2.st t ht];simp[EZ,CQ]
def AO0(γ:Nat)(RS:List AA)(g1 g2 g3 g4 γ0:Nat)(fr0:Fr)(cc:Nat)(g:Bool)(acc:Option (List Sp×CD))(R:List AA):Prop:=∃Ly,R=RS++[Ly]/\g=true/\LyB γ (RS.length+1) g1 g2 g3 g4 γ0 fr0 .ready acc cc Ly
theorem BBI{γ:Nat}{gs:List (Nat×Int)}{gl:V}{RS:List AA}{g1 g2 g3 g4 γ0:Nat}{fr0:Fr}(hgr:pC RS gs gl)(hst:HC RS):AEX (RS.length+1) gs gl (AO0 γ RS g1 g2 g3 g4 γ0 fr0) where
 mo:=fun c c' g a R ⟨Ly,h1,h2,h3⟩ hc=>⟨Ly,h1,h2,h3.more hc⟩
 ln:=fun c g a R ⟨Ly,h1,_⟩=>by rw[h1];simp
 st:=fun c g a R ⟨Ly,h1,_,h4⟩ t ht=>by rw[h1,bq,hst t (by omega),bw,bk,h4.st t (by omega)]
 gr:=fun c g a R ⟨Ly,h1,_⟩=>by rw[h1];exact hgr.more _
@[simp] theorem AUQ:HS bn 47=false:=by kernel_rfl
theorem NU(rec:G5)(l k g o:Nat)(a:V):AZ bn kn rec 47 [.ptr l k g o,a]=none:=by rw[AP rfl];unfold KD;rw[show([V.ptr l k g o,a].all (AG 9))=false from rfl]
set_option maxHeartbeats 2000000 in
theorem AO1{c:A0}(hc:CJ c){γ:Nat}{B:AA}{RS:List AA}{g1 g2 g3 g4 γ0:Nat}{fr0:Fr}(_:HC RS)(f1:BQ fr0 1=some (true,.ptr (RS.length+1) 1 g1 0))(f2:BQ fr0 2=some (true,.ptr (RS.length+1) 2 g2 0))(f3:BQ fr0 3=some (true,.ptr (RS.length+1) 3 g3 0))(f4:BQ fr0 4=some (true,.ptr (RS.length+1) 4 g4 0)) :
  AEW c γ B (RS.length+1) (RS.length+1) γ0 1500 (AO0 γ RS g1 g2 g3 g4 γ0 fr0) (fun acc l=>(EL c (AY c) acc l,true)):=by
 intro a L Lq R Y loc cc fr o v hL hLv hc1 hc2 ho hol hv hsta
 obtain⟨Ly,rfl,_,hLy⟩:=hLv
 have h0c:γ0<cc:=hLy.b.2.2.2.2
 have sL:=hL.st
 have hsp:∀t:St,RS.length+Y.length+4<=t.up.length->RS.map (AJ t)=RS/\AJ t Lq=Lq/\Y.map (AJ t)=Y/\AJ t loc=loc:=fun t ht=>by have h:=hsta t (by simp;omega);simp only[bq,bw,bk,bx,bj,List.nil_append]at h;have h1:=bf h (by simp);have h2:=List.cons.inj h1.2;have h3:=List.cons.inj h2.2;have h4:=bf h3.2 (by simp);exact⟨h1.1,h3.1,h4.1,by simpa using h4.2⟩
 have hat:∀(x:AA) (Z:List AA),(RS++x::Z)[RS.length]? = some x:=at5 RS
 have hset:∀(x:AA) (Z:List AA) (f:AA->AA),(RS++x::Z).modify RS.length f=RS++f x::Z:=zQ RS
 have hatZ:∀(x y:AA) (Z:List AA),(RS++x::y::Z)[RS.length+1]? = some y:=fun x y Z=>by rw[bz (by omega),show RS.length+1-RS.length=0+1 by omega,bb];rfl
 have hun:∀A b:AA,CM (A::(RS++b::Lq::(Y++[loc])))=some (A::(RS++b::Lq::Y),loc):=fun A b=>by have:=C9 loc (A::(RS++b::Lq::Y));rwa [bj,bx,bj,bj]at this
 have hg1:∀(A b:AA) (Z:List AA) (lo:AA) (x:Nat×AX),Z≠[]->b.get BJ=some x->St.get ⟨A::(RS++b::Z),lo⟩ (RS.length+1) BJ=some x:=fun A b Z lo x hz hx=>by
  have:¬RS.length+1=(A::(RS++b::Z)).length:=by
   cases Z with
   |nil=>exact absurd rfl hz
   |cons z Z=>simp
  unfold St.get;rw[if_neg this];simp[hat,hx]
 have hwv:weakV v=v:=by rcases hv with⟨rfl,_⟩|⟨_,_,rfl,_⟩<;>rfl
 have hLb:=hLy.loop (ls':=.busy)
 generalize hLbe:((BJ,γ0,AX.loop fr0 [16] (II 37) GJ 58 .busy)::Ly:AA)=Lb at hLb
 have hLbst:HC (RS++Lb::Lq::(Y++[loc])):=fun t ht=>by have h:=hsp t (by simp at ht;omega);simp only[bq,bw,bk,h.1,h.2.1,h.2.2.1,h.2.2.2,hLb.st t (by simp at ht;omega)]
 have hLV:nN ((RS++Lb::Lq::(Y++[loc]))++[[]]) o v:=by
  rcases hv with⟨rfl,rfl⟩|⟨γr,es,rfl,v2,v3,v4,v5,v6⟩
  ·exact .inr (.inl ⟨rfl,rfl⟩)
  ·refine .inr (.inr ⟨RS.length+1,γr,es,rfl,⟨Lq,?_,v2⟩,v3,v4⟩);rw[bx,bj,bj];exact hatZ _ _ _
 obtain⟨L1,c1,r1,r2,r3⟩:=A2P c hc γ B o (by omega) ho ((RS++Lb::Lq::(Y++[loc]))++[[]]) (J3 hLbst fun _ _=>rfl) v hLV L hL cc hc1
 have hcT:=fun n fr=>A3 (A:=ann) (kn:=kn) (n:=n+900) Tryz.func47 b47 rfl (args:=[.ptr 0 911 (γ+1) 0,v]) (by simp) (some 19) cc fr (L::(RS++Lb::Lq::(Y++[loc]))) []
 have hcb:∀n fr,GH (BH bn ann kn (n+900)) (some 19) ⟨cc,fr,⟨L::(RS++Lb::Lq::(Y++[loc])),[]⟩⟩ 47 [.ptr 0 911 (γ+1) 0,v]=some ⟨c1,(19,true,.agg (CQ (EY c (AY c) o)))::fr,⟨L1::(RS++Lb::Lq::(Y++[loc])),[]⟩⟩:=fun n fr=>by have h1:=hcT n fr;rw[bj]at h1;refine(h1.trans (r3 n 19 fr)).trans ?_;rw[<-bj,C9];rfl
 simp only[bx,bj,List.nil_append]
 have hYb:=hLy.b
 obtain⟨γ2,b2,b3,b4⟩:=hLb.p2
 have q1:=hLb.p1
 have q3:=hLb.p3
 have q4:=hLb.p4
 have tl:=AEU hc (l:=o) ho
 have hfin:∀(A b own:AA) (c9:Nat) (fr9:Fr),b.get BJ=some (γ0,.loop fr0 [16] (II 37) GJ 58 .busy)->(∀t:St,1<=t.up.length->AJ t A=A)->(∀t:St,RS.length+2<=t.up.length->AJ t b=b)->γ0<c9->UO fr (RS.length+1) BJ γ0 (some (.normal,⟨c9,fr9,⟨A::(RS++b::Lq::(Y++[loc])),own⟩⟩))=some (.bool true,⟨c9,fr,⟨A::(RS++((BJ,γ0,.loop fr0 [16] (II 37) GJ 58 .ready)::b)::Lq::Y),loc⟩⟩):=fun A b own c9 fr9 hb hA hbs h9=>by
  rw[QB (fr0:=fr0) (ps:=[16]) (asg:=(II 37)) (body:=GJ) (N:=58) (hg1 A b (Lq::(Y++[loc])) own _ (by simp) hb) (hun _ _) (by simp) h9];have s1:=hsp ⟨A::(RS++b::Lq::(Y++[loc])),own⟩ (by simp<;>omega);have s2:=hbs ⟨A::(RS++b::Lq::(Y++[loc])),own⟩ (by simp<;>omega);have s3:=hA ⟨A::(RS++b::Lq::(Y++[loc])),own⟩ (by simp);have hne:¬RS.length=RS.length+(Y.length+1+1):=by omega
  simp[s1.1,s1.2.1,s1.2.2.1,s1.2.2.2,s2,s3,hset,hne,St.put,AA.put]
 have hpB:∀(A:AA) (Z:List AA) (lo:AA),Z≠[]->St.put ⟨A::(RS++Ly::Z),lo⟩ (RS.length+1) BJ γ0 (.loop fr0 [16] (II 37) GJ 58 .busy)=⟨A::(RS++Lb::Z),lo⟩:=fun A Z lo hz=>by
  have:¬RS.length+1=(A::(RS++Ly::Z)).length:=by
   cases Z with
   |nil=>exact absurd rfl hz
   |cons z Z=>simp
  unfold St.put;rw[if_neg this];simp[hset,AA.put,hLbe]
 obtain⟨fr7,Ly2,c2,i1,i2,h3,h4,h6,q7⟩:=AOZ o hol v L1 Lq RS (Y++[loc]) (by
  rcases hv with⟨rfl,rfl⟩|⟨γr,es,rfl,v2,v3,v4,v5,v6⟩
  ·exact .inl ⟨rfl,rfl⟩
  ·exact .inr ⟨γr,es,rfl,v2,v3,v4⟩) g2 g3 g4 c1 (CQ (EY c (AY c) o)) (fun _ _ _ _=>rfl) Lb o.length 0 (c1+1) _ (by omega) (hLb.more (by omega:cc<=c1+1)).emptied (by omega)
 have q7:=fun n m=>q7 n (m+100) (by omega)
 have hLt:=(hLb.more (by omega:cc<=c1+1)).taken i2 (s:=EY c (AY c) o) i1
 have hlv:v=.nil/\o=[]\/∃q γr,v=.vec q 921 γr o.length:=by
  rcases hv with h|⟨γr,es,h,_⟩
  ·exact .inl h
  ·exact .inr ⟨_,_,h⟩
 have hg34:g3<c2/\g4<c2:=by omega
 have hY3:=(i1.ot 3 (by decide) (by decide)).trans q3
 have hY4:=(i1.ot 4 (by decide) (by decide)).trans q4
 have hg2c:g2<c1+1:=by omega
 have hfT:=fun own fr9=>hfin L1 _ own c2 fr9 hLt.pr r1.st hLt.st (by omega)
 cases hacc:a with
 |none=>
  subst hacc
  have hstep:EL c (AY c) none o=some (o,EY c (AY c) o):=rfl
  simp only[hstep]
  refine⟨L1,_,c2,r1,⟨_,rfl,rfl,hLt.loop⟩,by omega,fun n=>?_⟩
  rw[WO (hg1 _ _ _ _ _ (by simp) hLy.pr) rfl h0c]
  simp only[JL,Fr.put]
  simp[f1,f2,f3,f4]
  rw[IM (fr0:=fr0) (ps:=[16]) (asg:=(II 37)) (body':=GJ) (N:=58) (hg1 _ _ _ _ _ (by simp) hLy.pr) h0c]
  generalize EY c (AY c) o=S at *
  rw[hpB _ _ _ (by simp)]
  simp only[CQ,bR,List.take_zero,bk]at hcb q3 q7 hfT hY3
  rcases hlv with⟨rfl,rfl⟩|⟨q,γr,rfl⟩
  ·simp at q7;simp[hcb,hat,hset,q1,q3,q4,b3,cM,cN,NU,cO,ED,A2,hg2c,q7,h3,h4,h6,hg34,hY3,hY4,hfT,CQ]
  ·simp at q7;simp[hcb,hat,hset,q1,q3,q4,b3,cM,cN,NU,cO,ED,A2,hg2c,q7,h3,h4,h6,hg34,hY3,hY4,hfT,CQ]
 |some bt=>
  obtain⟨b,t⟩:=bt
  subst hacc
  by_cases hcond:(EY c (AY c) o).sun<t.sun\/((EY c (AY c) o).sun=t.sun/\t.carried<=(EY c (AY c) o).carried)
  ·have hstep:EL c (AY c) (some (b,t)) o=some (b,t):=if_pos hcond;simp only[hstep];refine⟨L1,RS++[(BJ,γ0,.loop fr0 [16] (II 37) GJ 58 .ready)::Lb],c1+1,r1,⟨_,rfl,rfl,(hLb.more (by omega)).loop⟩,by omega,fun n=>?_⟩;rw[WO (hg1 _ _ _ _ _ (by simp) hLy.pr) rfl h0c];simp only[JL,Fr.put];simp[f1,f2,f3,f4];rw[IM (fr0:=fr0) (ps:=[16]) (asg:=(II 37)) (body':=GJ) (N:=58) (hg1 _ _ _ _ _ (by simp) hLy.pr) h0c];generalize EY c (AY c) o=S at *;rw[hpB _ _ _ (by simp)];have hf:=fun own fr9=>hfin L1 Lb own (c1+1) fr9 hLb.pr r1.st hLb.st (by omega);simp only[CQ,bR]at hcb q3;rcases hcond with h|⟨h,h2⟩
   ·simp[hwv,hcb,hat,hset,q1,q3,q4,cM,cN,NU,cO,ED,A2,h,hf]
   ·have h3:¬S.sun<t.sun:=by omega
    simp[hwv,hcb,hat,hset,q1,q3,q4,cM,cN,NU,cO,ED,A2,h3,h,h2,hf]
  ·have hstep:EL c (AY c) (some (b,t)) o=some (o,EY c (AY c) o):=if_neg hcond;simp only[hstep];refine⟨L1,_,c2,r1,⟨_,rfl,rfl,hLt.loop⟩,by omega,fun n=>?_⟩;rw[WO (hg1 _ _ _ _ _ (by simp) hLy.pr) rfl h0c];simp only[JL,Fr.put];simp[f1,f2,f3,f4];rw[IM (fr0:=fr0) (ps:=[16]) (asg:=(II 37)) (body':=GJ) (N:=58) (hg1 _ _ _ _ _ (by simp) hLy.pr) h0c];generalize EY c (AY c) o=S at *;rw[hpB _ _ _ (by simp)];simp only[CQ,bR,List.take_zero,bk]at hcb q3 q7 hfT hY3;have hA:¬S.sun<t.sun:=fun h=>hcond (.inl h);rcases hlv with⟨rfl,rfl⟩|⟨q,γr,rfl⟩
   ·simp at q7;by_cases hB:S.sun=t.sun
    ·have hC:¬t.carried<=S.carried:=fun h=>hcond (.inr ⟨hB,h⟩);simp[hcb,hat,hset,q1,q3,q4,b3,cM,cN,NU,cO,ED,A2,hA,eq_true hB,hC,hg2c,q7,h3,h4,h6,hg34,hY3,hY4,hfT,CQ]
    ·simp[hcb,hat,hset,q1,q3,q4,b3,cM,cN,NU,cO,ED,A2,hA,hB,hg2c,q7,h3,h4,h6,hg34,hY3,hY4,hfT,CQ]
   ·simp at q7;by_cases hB:S.sun=t.sun
    ·have hC:¬t.carried<=S.carried:=fun h=>hcond (.inr ⟨hB,h⟩);simp[hcb,hat,hset,q1,q3,q4,b3,cM,cN,NU,cO,ED,A2,hA,eq_true hB,hC,hg2c,q7,h3,h4,h6,hg34,hY3,hY4,hfT,CQ]
    ·simp[hcb,hat,hset,q1,q3,q4,b3,cM,cN,NU,cO,ED,A2,hA,hB,hg2c,q7,h3,h4,h6,hg34,hY3,hY4,hfT,CQ]
theorem AK6(c:A0)(s:List (List Int)):∀(ls:List (List Sp)) (acc:Option (List Sp×CD)),runG (fun acc l=>(EL c s acc l,true)) acc ls=(ls.foldl (EL c s) acc,true)
 |[],_=>rfl
 |l::ls,acc=>by simp only[runG,if_true,List.foldl_cons];exact AK6 c s ls _
theorem ABJ{P:Program}{E:XE}(d c:Nat)(fr:Fr)(s:St)(T:TypeId)(a:Nat):DT (some d) ⟨c,fr,s⟩ (NJ P fr s T (.tmp a))=stepK P E (some d) (.ld T (.tmp a)) ⟨c,fr,s⟩:=rfl
noncomputable def fI(c:A0)(γ N cc:Nat)(gl:V):Fr:=[(15,true,fnS γ gl),(14,true,gl),(13,true,.agg (AF c)),(12,true,.ptr 0 911 (γ+1) 0),(11,true,.ptr 0 911 (γ+1) 0),(10,true,.ptr 0 911 (γ+1) 0),(9,true,.ptr 0 911 (γ+1) 0),(1,true,.ptr N 1 cc 0),(2,true,.ptr N 2 (cc+1) 0),(3,true,.ptr N 3 (cc+1+1) 0),(4,true,.ptr N 4 (cc+1+1+1) 0)]
theorem AO2{c:A0}(hc:CJ c){γ:Nat}{B:AA}(RS:List AA)(hst:HC RS)(L:AA)(hL:Lw c γ B L)(cc:Nat)(hcc:γ+1<cc):∃L' c',Lw c γ B L'/\cc<=c' /\
  ∀n dd fr,iL bn (some dd) fr Tryz.f19.results.toList (AE bn ann kn (n+9000) 58 c19 ⟨cc,AD 0 [.ptr 0 911 (γ+1) 0],⟨L::RS,[]⟩⟩)=bF (some dd) fr c' (.tup [sl ((TK (KQ c)).map D7),.agg (CQ (bR (KQ c))),.bool (KQ c).isSome]) (CM (L'::RS)):=by
 have hgr:pC RS (BT c []) (sl ((BT c []).map CT)):=.inl rfl
 have hfl:=hc.fl
 have hgs:∀g∈BT c [],g.1<c.fams.length/\1<=g.2/\g.2<=4:=fun g hg=>W3 hc [] _ (Nat.le_refl _) g hg
 have hgl:(BT c []).length<=9:=by rw[G8];omega
 have p1:=hL.p1
 have qG:=fun n=>tS n c (by omega) [] (by simp)
 let Ly0:AA:=[(1,cc,.box [.ptr 0 911 (γ+1) 0]),(2,cc+1,.box [.nil]),(3,cc+1+1,.box [i 0,i 0,.bool false]),(4,cc+1+1+1,.box [.bool false])]
 have hLy0st:∀t:St,RS.length+1<=t.up.length->AJ t Ly0=Ly0:=fun t ht=>by
  have e0:¬0=t.up.length:=by omega
  obtain⟨up,lo⟩:=t;simp only at e0;simp[Ly0,e0]
 have hst4:HC (RS++[Ly0]):=J3 hst fun t ht=>hLy0st t ht
 have q128:=fun n fr=>xG (c:=c) (γ:=γ) (B:=B) (gs:=BT c []) (gl:=sl ((BT c []).map CT)) (.inl rfl) L hL RS Ly0 (fun j g n h=>by
   cases hz:(BT c []).map CT <;> rw[hz]at h <;> simp[sl]at h) hst4 (cc+1+1+1+1) 15 fr n
 have hcG:∀f:Nat,AG (f+3) (sl ((BT c []).map CT))=true:=fun f=>by cases BT c []<;>simp[sl,CT]
 have hwG:weakV (sl ((BT c []).map CT))=sl ((BT c []).map CT):=by cases BT c []<;>simp[sl]
 have hclB:c.chairs.all ((fun e=>e.all (AG 7))∘AS)=true:=List.all_eq_true.2 fun x _=>by simp[AS,BD]
 have hclF:c.fams.all ((fun e=>e.all (AG 7))∘AU)=true:=List.all_eq_true.2 fun x _=>by simp[AU]
 have hb12:Nat.beq 12 1=false:=rfl
 have hLy:AO0 γ RS cc (cc+1) (cc+1+1) (cc+1+1+1) (cc+1+1+1+1+2) (fI c γ (RS.length+1) cc (sl ((BT c []).map CT))) (cc+1+1+1+1+2+1) true none (RS++[(BJ,cc+1+1+1+1+2,.loop (fI c γ (RS.length+1) cc (sl ((BT c []).map CT))) [16] (II 37) GJ 58 .ready)::Ly0]):=by refine⟨_,rfl,rfl,by simp[Ly0,BJ],⟨0,by omega,by simp[Ly0,BJ,TK,pvl],fun h=>absurd rfl h⟩,by simp[Ly0,BJ,bR,CQ],by simp[Ly0,BJ],by simp[BJ],fun t ht=>?_,by omega⟩;rw[A6,hLy0st t (by omega)];rfl
 obtain⟨L',R',c',r1,r2,r3,r4⟩:=sB hc (BBI hgr hst) hgl hgs (AO1 hc hst (by simp[fI]) (by simp[fI]) (by simp[fI]) (by simp[fI])) none L RS _ hL hLy (by omega) (fI c γ (RS.length+1) cc (sl ((BT c []).map CT)))
 rw[AK6]at r2
 rw[show(fD c (AY c) (BT c [])).foldl (EL c (AY c)) none=KQ c from rfl]at r2
 obtain⟨Ly',rfl,_,hLy'⟩:=r2
 have hun:CM (L'::(RS++[Ly']))=some (L'::RS,Ly'):=by have:=C9 Ly' (L'::RS);rwa [bj]at this
 rw[hun]at r4
 have r4:=fun n=>r4 (n+1495)
 refine⟨L',c',r1,by omega,fun n dd fr=>?_⟩
 have sL:=r1.st
 have sR1:∀(A lo:AA),RS.map (AJ ⟨A::RS,lo⟩)=RS:=fun A lo=>hst _ (by simp)
 generalize sl ((BT c []).map CT)=gl at *
 simp only[D4,AF,Ly0,li,bk]at p1 qG q128
 try simp at q128
 simp[c19,AD,p1,qG,q128,hcG,hwG,hclB,hclF,hb12,B8,CL,BM,ED,A2,Q3]
 rw[UV rfl]
 simp
 rw[show(Code.block 1 ((II 149).seq (((II 597).seq (Code.cond (Operand.tmp 41) (Code.exit 1) Code.skip)).seq ((II 725).seq (((II 2517).seq (Code.block 2 NW.loop)).seq (II 2005))))))=GJ from rfl]
 have r4:=r4 n
 rw[show n+1495+1500+6000=n+8995 by omega]at r4
 simp only[fI,AF,Ly0,li]at r4|-
 simp only[r4]
 rw[show ∀fr0:Fr,bF none fr0 c' (.tup []) (some (L'::RS,Ly'))=some ⟨c',fr0,⟨L'::RS,Ly'⟩⟩ from fun _=>rfl]
 rw[aY (fr0:=fI c γ (RS.length+1) cc gl) (ps:=[16]) (asg:=(II 37)) (body:=GJ) (N:=58) (by simp[St.get];simpa using hLy'.pr) (by omega)]
 obtain⟨γ2,b1,b2,b3⟩:=hLy'.p2
 have y3:=hLy'.p3
 have y4:=hLy'.p4
 have hcs:∀x∈(TK (KQ c)).map D7,∀v∈x,AG 8 v=true:=fun x hx v hv=>by obtain⟨y,_,rfl⟩:=bg.1 hx;simp only[D7,bm,bc,or_false]at hv;rcases hv with rfl|rfl<;>rfl
 generalize (TK (KQ c)).map D7=O at *
 generalize bR (KQ c)=S at *
 generalize (KQ c).isSome=z at *
 simp only[CQ]at y3|-
 cases O with
 |nil=>
  simp[St.put,AA.put,BJ,L6,ABJ (E:=BH bn ann kn 0),b2,y3,y4,A2H,rX,sL,sR1]
 |cons x O=>
  have b3:=b3 (by simp)
  have hx:=hcs x (by simp)
  have hcO:=eq_true fun e he=>hcs e (List.mem_cons_of_mem x he)
  simp[St.put,AA.put,BJ,L6,ABJ (E:=BH bn ann kn 0),b2,b3,y3,y4,BDB,rY,sL,sR1]
end Go.Proofs.Tryz.Op
namespace Go.Pg
def re4:Option V->Option V->Option V->Option V->Option V
 |some a,some b,some c,some d=>some (.tup [a,b,c,d])
 |_,_,_,_=>none
@[simp] theorem AZT(a b c d:V):re4 (some a) (some b) (some c) (some d)=some (.tup [a,b,c,d]):=rfl
@[simp] theorem AUR{P:Program}{fr:Fr}{s:St}(x y z w:ResultVar):FV P [x,y,z,w] fr s=re4 (CX P fr s x) (CX P fr s y) (CX P fr s z) (CX P fr s w):=by
 unfold FV;simp only[List.mapM_cons,List.mapM_nil];cases CX P fr s x with
 |none=>rfl
 |some a=>cases CX P fr s y with
  |none=>rfl
  |some b=>cases CX P fr s z with
   |none=>rfl
   |some c=>cases CX P fr s w<;>rfl
end Go.Pg
namespace Go.Proofs.Tryz.Op
def lvW(c:A0)(p g:Nat):AA:=[(p,0,.box (AF c)),(910,g,.map []),(911,g+1,.box (D4 c g))]
theorem AO3(c:A0)(p g:Nat)(h:p<900):Lw c g (lvW c p g) (lvW c p g) where
 p0:=by
  have e:¬910=p:=by omega
  exact⟨[],⟨by simp,by simp,by simp⟩,by simp[lvW,e]⟩
 p1:=by
  have e:¬911=p:=by omega
  simp[lvW,e]
 st:=fun t ht=>by
  have e0:¬0=t.up.length:=by omega
  have hcE:∀l∈AY c,encA l=l.map fun x=>i x:=fun _ _=>rfl;have hA:∀f:Nat,AG (f+3) (.list false ((AY c).map encA))=true:=fun f=>by simp[encA]
  obtain⟨up,lo⟩:=t;simp only at e0;simp[lvW,D4,AF,AH,AN,AM,AS,BD,AU,encA,e0,H8]
 ot:=fun _ _=>rfl
@[simp] theorem AZU:HS bn 19=false:=by kernel_rfl
theorem AO4(n:Nat)(c:A0)(h40:∀l∈c.beach.winds,l.length<=40)(hch:c.chairs.length<=40):AZ bn kn (AE bn ann kn (n+9600)) 7 [.agg (AF c)]=some (.tup [sl ((TI c).1.map AM),i (TI c).2.1,i (TI c).2.2.1,i (TI c).2.2.2]):=by
 rw[AP rfl,AQ Tryz.func7 b7 rfl (by simp[AF,AH,AN,AM,AS,BD,AU])];unfold TI;by_cases h:EQ c=0
 ·rw[if_neg (by simp[h])];have hc:=K9 h;obtain⟨g',hg,q⟩:=tO c hc [(1,0,.box (AF c))] (fun t _=>tP c 1 0 t) 1 11 [(10,true,.agg (AF c)),(1,true,.ptr 0 1 0 0)];have q:=fun n=>q (n+1596);obtain⟨L',c',r1,r2,r3⟩:=AO2 hc [] (fun _ _=>rfl) (lvW c 1 2) (AO3 c 1 2 (by omega)) g' (by omega);have hcb:=fun n fr=>(A3 (A:=ann) (kn:=kn) (n:=n+9000) Tryz.func19 b19 rfl (args:=[.ptr 0 911 (2+1) 0]) (by simp) (some 19) g' fr [] (lvW c 1 2)).trans (r3 n 19 fr);have sL:=r1.st;have q1:L'.get 1=some (0,.box (AF c)):=r1.ot 1 (by decide);have o7:L'.get 7=none:=r1.ot 7 (by decide);have o11:L'.get 11=none:=r1.ot 11 (by decide);have o19:L'.get 19=none:=r1.ot 19 (by decide);obtain⟨T,_,z910⟩:=r1.p0;have z911:=r1.p1;have hsp:(TK (KQ c)).map D7=((TK (KQ c)).map iS).map AM:=by rw[List.map_map];rfl
  rw[hsp]at hcb;have hcE:∀(f:Nat) (l:List (Int×Int)),AG (f+3) (sl (l.map AM))=true:=fun f l=>by cases l<;>simp[sl,AM]
  have hwE:∀l:List (Int×Int),weakV (sl (l.map AM))=sl (l.map AM):=fun l=>by cases l<;>simp[sl]
  cases hO:KQ c with
  |none=>
   rw[hO]at hcb
   simp only[TK,bR,Option.isSome_none,bk,rX,CQ,lvW,D4,AF,Nat.reduceAdd]at hcb q q1|-
   simp at hcb
   simp[c7,AD,AS,BD,AU,q,hcb,sL,q1,o7,o11,o19,z910,z911]
   done
  |some bt=>
   obtain⟨b,t⟩:=bt
   rw[hO]at hcb
   simp only[TK,bR,Option.isSome_some,CQ,lvW,D4,AF,Nat.reduceAdd]at hcb q q1|-
   have hBB:∀x∈(b.map iS).map AM,∀v∈x,AG 7 v=true:=fun x hx v hv=>by obtain⟨y,_,rfl⟩:=bg.1 hx;simp only[AM,bm,bc,or_false]at hv;rcases hv with rfl|rfl<;>rfl
   generalize (b.map iS).map AM=BB at *
   simp at hcb
   simp[c7,AD,AS,BD,AU,q,hcb,sL,q1,o7,o11,o19,z910,z911]
   exact hBB
 ·rw[if_pos h];have q:=WZ c h40 hch h [(1,0,.box (AF c))] (fun t _=>tP c 1 0 t) 1 11 [(10,true,.agg (AF c)),(1,true,.ptr 0 1 0 0)];have q:=fun n=>q (n+1596);generalize EQ c=E at *;simp only[AF,Nat.add_assoc,Nat.reduceAdd,bk,rX]at q|-;simp[c7,AD,AS,BD,AU,q,h]
end Go.Proofs.Tryz.Op
