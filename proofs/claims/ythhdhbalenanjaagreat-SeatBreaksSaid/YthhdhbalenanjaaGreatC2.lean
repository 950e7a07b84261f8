/- The contracts of seatings and possible, from any stack. No condition but a valid case. -/
import Derived.Test.YthhdhbalenanjaaGreatS5
open Go.Proofs.Tryz renaming prog->bg
open List renaming cons_append->bj,map_append->bk,map_nil->bq,map_cons->bw,append_assoc->bx,getElem?_append_right->bz,getElem?_cons_succ->bb,append_inj->bc,mem_map->bf
set_option maxRecDepth 100000
set_option linter.unusedSimpArgs false
open Go Go.Pg Go.Proofs Go.Wind
namespace Go.Pg
variable {fr:Fr}
end Go.Pg
namespace Go.Proofs.Tryz.Op
abbrev fnS(γ:Nat)(gl:V):V:=.fn 167 [] [.ref [gl],.ref [.ptr 0 911 (γ+1) 0]]
theorem AA9{c:AM}{γ:Nat}{B:AA}{gs:List (Nat×Int)}{gl:V}(hgl:gl=sl (gs.map A4)\/∃j g n,gl=.vec (j+1) 39 g n)(L:AA)(hL:Lw c γ B L)(RS:List AA)(Ly:AA)(hj:∀j g n,gl=.vec (j+1) 39 g n->j<RS.length+1)(hst:HK (RS++[Ly]))(cc d:Nat)(fr:Fr)(n:Nat):H9 (BS bg ann kn (n+100)) (some d) ⟨cc,fr,⟨L::RS,Ly⟩⟩ 128 [.ptr 0 911 (γ+1) 0,gl]=some ⟨cc+2,(d,true,fnS γ gl)::fr,⟨L::RS,Ly⟩⟩:=by
 have sL:=hL.st;have sR:∀(A:AA) (lo:AA),(RS++[Ly]).map (AJ ⟨A::(RS++[Ly]),lo⟩)=RS++[Ly]:=fun A lo=>hst _ (by simp);have sR1:∀(A:AA) (lo:AA),RS.map (AJ ⟨A::(RS++[Ly]),lo⟩)=RS/\AJ ⟨A::(RS++[Ly]),lo⟩ Ly=Ly:=fun A lo=>by have:=sR A lo;rw[bk]at this;have:=bc this (by simp);exact⟨this.1,by simpa using this.2⟩
 rw[BC Tryz.func128 b128 rfl (by simp)];rcases hgl with rfl|⟨j,g,m,rfl⟩
 ·have hcl:∀f:Nat,AG (f+3) (sl (gs.map A4))=true:=fun f=>by cases gs<;>simp[sl,A4]
  cases gs with
  |nil=>simp[AMV,AF,AIS,sL,(sR1 _ _).1,(sR1 _ _).2]
  |cons a gs=>simp[AMV,AF,vT,A4,sL,(sR1 _ _).1,(sR1 _ _).2]
 ·have hjn:=hj j g m rfl;have e1:¬j+1=RS.length+1+1:=by omega
  have e2:¬j=RS.length+1:=by omega
  simp[AMV,AF,e2,sL,(sR1 _ _).1,(sR1 _ _).2]
theorem tH.more{R:List AA}{gs:List (Nat×Int)}{gl:V}(h:tH R gs gl)(Z:List AA):tH (R++Z) gs gl:=by
 rcases h with h|⟨j,g,Lj,h1,h2,h3⟩
 ·exact .inl h
 ·refine .inr ⟨j,g,Lj,h1,?_,h3⟩;rw[List.getElem?_append_left (List.getElem?_eq_some_iff.1 h2).1];exact h2
def EP(x:Sp):List V:=[i x.row,i x.place]
theorem A28(st:XS):LD [3003000923052] st=fS 52 (MT 3 st) 922 [2] st:=rfl
theorem A29(c:Nat)(fr:Fr)(up:List AA)(a b:Nat×A0):LD [3003000923052] ⟨c,fr,⟨up,[(6,a),(8,b)]⟩⟩=⟨c,fr,⟨up,[(6,a),(8,b)]⟩⟩:=by rw[A28];rfl
theorem A3A(c γ g2 g o:Nat)(T:TypeId)(es:List (List V))(a6 a8:Nat)(c6 c8:List V)(fr:Fr)(L Ly:AA)(RS Z:List AA)(r2:A0)(h3:A3 fr 2=some (true,.ptr (RS.length+1) 2 g o))(h2:Ly.get 2=some (g2,r2)) :
  LD [3003000923052] ⟨c,fr,⟨L::(RS++Ly::Z),[(52,γ,.vec T es),(6,a6,.box c6),(8,a8,.box c8)]⟩⟩=⟨c,yV (RS.length+(Z.length+1)+1) 52 (RS.length+1) 922 fr,⟨L::(RS++((922,γ,SO (RS.length+(Z.length+1)+1) 52 (RS.length+1) 922 (.vec T es))::(2,g2,SO (RS.length+(Z.length+1)+1) 52 (RS.length+1) 922 r2)::JI 2 Ly)::Z),[(6,a6,SO (RS.length+(Z.length+1)+1) 52 (RS.length+1) 922 (.box c6)),(8,a8,SO (RS.length+(Z.length+1)+1) 52 (RS.length+1) 922 (.box c8))]⟩⟩:=by
 rw[A28]
 have hl:(L::(RS++Ly::Z)).length=RS.length+(Z.length+1)+1:=by simp
 have e1:MT 3 ⟨c,fr,⟨L::(RS++Ly::Z),[(52,γ,.vec T es),(6,a6,.box c6),(8,a8,.box c8)]⟩⟩=RS.length+1:=by show(match A3 fr 2 with|some (true,.ptr l _ _ _)=>l|_=>0)=RS.length+1;rw[h3]
 rw[e1]
 unfold fS
 have e3:SI (RS.length+1) (RS.length+(Z.length+1)+1) (some (γ,.vec T es))=true:=by
  have:Nat.blt (RS.length+1) (RS.length+(Z.length+1)+1)=true:=by rw[Nat.blt_eq];omega
  simp[SI,eU,this]
 have ne:¬RS.length=RS.length+(Z.length+1):=by omega
 simp[yW,AA.get,mvU,h2,mQ,St.put,D7,ACZ,e3]
structure LyT(l0 g2:Nat)(Ly0:AA)(s:List (List V))(cc:Nat)(Ly:AA):Prop where
 p2:∃γ,γ<cc/\Ly.get 2=some (g2,.box [pvl l0 922 γ s])/\(s≠[]->Ly.get 922=some (γ,.vec 86 s))
 ot:∀k,¬k=2->¬k=922->Ly.get k=Ly0.get k
 st:∀t:St,l0+1<=t.up.length->AJ t Ly=Ly
theorem LyT.more{l0 g2:Nat}{Ly0 Ly:AA}{s:List (List V)}{cc c2:Nat}(h:LyT l0 g2 Ly0 s cc Ly)(hc:cc<=c2):LyT l0 g2 Ly0 s c2 Ly:=by obtain⟨γ,h1,h2⟩:=h.p2;exact⟨⟨γ,by omega,h2⟩,h.ot,h.st⟩
theorem gG(t:St)(T:TypeId)(l:List Sp):CV t (.vec T (l.map EP))=.vec T (l.map EP):=VQ fun e he v hv=>by obtain⟨x,_,rfl⟩:=bf.1 he;simp only[EP,List.mem_cons,List.not_mem_nil,or_false]at hv;rcases hv with rfl|rfl<;>rfl
theorem LyT.first{l0 g2:Nat}{Ly0 Ly:AA}{cc:Nat}(h:LyT l0 g2 Ly0 [] cc Ly)(x:Sp):LyT l0 g2 Ly0 ([x].map EP) (cc+1) ((922,cc,.vec 86 [EP x])::(2,g2,.box [.vec l0 922 cc 1])::JI 2 Ly) where
 p2:=⟨cc,by omega,by simp[pvl],fun _=>by simp⟩
 ot:=fun k h1 h2=>by rw[<-h.ot k h1 h2];simp[h1,h2]
 st:=fun t ht=>by
  have e:¬l0=t.up.length:=by omega
  have e2:=gG t 86 [x];rw[bw,bq]at e2;rw[A8,A8,UI,h.st t ht,e2];obtain⟨up,lo⟩:=t;simp only at e;simp[E8,e]
theorem LyT.next{l0 g2:Nat}{Ly0 Ly:AA}{cc:Nat}{l:List Sp}(h:LyT l0 g2 Ly0 (l.map EP) cc Ly)(x:Sp):LyT l0 g2 Ly0 ((l++[x]).map EP) (cc+1) ((2,g2,.box [.vec l0 922 cc (l.length+1)])::(922,cc,.vec 86 (l.map EP++[EP x]))::Ly) where
 p2:=by
  refine⟨cc,by omega,?_,fun _=>by simp⟩;have:pvl l0 922 cc ((l++[x]).map EP)=.vec l0 922 cc (l.length+1):=by cases l<;>simp[pvl]
  rw[this];simp
 ot:=fun k h1 h2=>by rw[<-h.ot k h1 h2];simp[h1,h2]
 st:=fun t ht=>by
  have e:¬l0=t.up.length:=by omega
  have e2:=gG t 86 (l++[x]);rw[bk,bw,bq]at e2;rw[A8,A8,h.st t ht,e2];obtain⟨up,lo⟩:=t;simp only at e;simp[E8,e]
theorem APW{m:Nat}(hm:m<=100)(x:Sp):BZ bg 86 m [EP x]=true:=by have h2:(EP x).length=2:=rfl;rw[BT (by simp) (by simp)];simp[maxLen,h2];omega
theorem AS3(o:List Sp)(ho:o.length<=10)(v:V)(L Lq:AA)(RS Y:List AA)(hv:(v=.nil/\o=[])\/∃γ es,v=.vec (RS.length+1+1) 921 γ o.length/\Lq.get 921=some (γ,.vec 153 es)/\o.length<=es.length/\∀k (h:k<o.length) (h2:k<es.length),es[k]=BB o[k])(g2 g3 g4 g6:Nat)(B6:List V)(h6:∀n k l d,B6.map (KQ n k l d 3)=B6)(Ly0:AA):∀(d k cc:Nat) (Ly:AA),k+d=o.length->LyT (RS.length+1) g2 Ly0 ((o.take k).map EP) cc Ly->g2<cc->∃fr Ly' c',LyT (RS.length+1) g2 Ly0 (o.map EP) c' Ly'/\cc<=c'/\A3 fr 3=some (true,.ptr (RS.length+1) 3 g3 0)/\A3 fr 4=some (true,.ptr (RS.length+1) 4 g4 0)/\A3 fr 6=some (true,.ptr (RS.length+(Y.length+1+1)+1) 6 g6 0) /\
  ∀n m,d<m->A9 (AE bg ann kn (n+400) 58) O3 (ann 58 (BV O3)) m ⟨cc,[(2,true,.ptr (RS.length+1) 2 g2 0),(3,true,.ptr (RS.length+1) 3 g3 0),(4,true,.ptr (RS.length+1) 4 g4 0),(6,true,.ptr (RS.length+(Y.length+1+1)+1) 6 g6 0),(42,true,v),(43,true,i o.length),(44,true,i k)],⟨L::(RS++Ly::Lq::Y),[(6,g6,.box B6)]⟩⟩ =
   some (.exit 2,⟨c',fr,⟨L::(RS++Ly'::Lq::Y),[(6,g6,.box B6)]⟩⟩)
 |0,k,cc,Ly,hd,hLy,hg=>by
  obtain rfl:k=o.length:=by omega
  rw[List.take_length]at hLy;refine⟨?fr,Ly,cc,hLy,Nat.le_refl _,?g1,?g2,?g3,fun n m hm=>?g9⟩;case g9=>
   obtain⟨m,rfl⟩:=qNz m (by omega)
   rw[AB]
   simp
   rfl
  all_goals simp
 |d+1,k,cc,Ly,hd,hLy,hg=>by
  have hk:k<o.length:=by omega
  have hw:=BH (k:=k) (by omega);rcases hv with⟨_,rfl⟩|⟨γr,es,rfl,hq1,hq2,hq3⟩
  ·simp at hk
  have hke:k<es.length:=by omega
  have hel:=hq3 k hk hke;have htk:o.take (k+1)=o.take k++[o[k]]:=List.take_succ_eq_append_getElem hk;have hln:(o.take k).length=k:=by rw[List.length_take];omega
  have hat:∀(x:AA) (Z:List AA),(RS++x::Z)[RS.length]? = some x:=at5 RS;have hset:∀(x:AA) (Z:List AA) (f:AA->AA),(RS++x::Z).modify RS.length f=RS++f x::Z:=ACZ RS;have hatZ:∀x:AA,(RS++x::Lq::Y)[RS.length+1]? = some Lq:=fun x=>by rw[bz (by omega),show RS.length+1-RS.length=0+1 by omega,bb];rfl
  obtain⟨γ,hγ,p2,p922⟩:=hLy.p2;have hN1:¬RS.length+1=RS.length+(Y.length+1+1)+1:=by omega
  have hN2:¬RS.length+1+1=RS.length+(Y.length+1+1)+1:=by omega
  have hg2:g2<cc+1+1:=by omega
  have hg2':g2<cc+1:=by omega
  by_cases hnil:o.take k=[]
  ·obtain rfl:k=0:=by have:=congrArg List.length hnil;rw[hln]at this;exact this
   rw[hnil]at hLy p2;have hLy2:=(hLy.more (by omega:cc<=cc+1)).first o[0];rw[show[o[0]]=o.take (0+1) by rw[htk,hnil];rfl]at hLy2;obtain⟨fr,Ly',c',i1,i2,f3,f4,f6,ih⟩:=AS3 o ho _ L Lq RS Y (.inr ⟨γr,es,rfl,hq1,hq2,hq3⟩) g2 g3 g4 g6 B6 h6 Ly0 d (0+1) (cc+1+1) _ (by omega) hLy2 (by omega);refine⟨fr,Ly',c',i1,by omega,f3,f4,f6,fun n m hm=>?_⟩;obtain⟨m,rfl⟩:=qNz m (by omega);have ih:=ih n m (by omega);have happ:=APW (m:=0) (by omega) o[0];have hgh:=fun c1 fr (h2:A3 fr 2=some (true,.ptr (RS.length+1) 2 g2 0))=>A3A c1 (cc+1) g2 g2 0 86 [EP o[0]] g6 cc B6 (BB o[0]) fr L ((2,g2,.box [.vec (RS.length+(Y.length+1+1)+1) 52 (cc+1) 1])::Ly) RS (Lq::Y) _ h2 rfl;rw[AB];simp only[EP,BB,bq,A7J]at ih happ hgh p2 hel|-;simp at ih;simp[hk,hset,hq1,hq2,hel,hke,p2,happ,hg2,D7,MC,hgh,J7,P8,HJ,GR,MD,VM,h6,ih]
  ·have p922:=p922 (by simpa using hnil);have hLy2:=(hLy.more (by omega:cc<=cc+1)).next o[k];rw[<-htk,hln]at hLy2;obtain⟨fr,Ly',c',i1,i2,f3,f4,f6,ih⟩:=AS3 o ho _ L Lq RS Y (.inr ⟨γr,es,rfl,hq1,hq2,hq3⟩) g2 g3 g4 g6 B6 h6 Ly0 d (k+1) (cc+1+1) _ (by omega) hLy2 (by omega);refine⟨fr,Ly',c',i1,by omega,f3,f4,f6,fun n m hm=>?_⟩;obtain⟨m,rfl⟩:=qNz m (by omega);have ih:=ih n m (by omega);have happ:=APW (m:=k) (by omega) o[k];have hpv:pvl (RS.length+1) 922 γ ((o.take k).map EP)=.vec (RS.length+1) 922 γ k:=by
    cases hq:o.take k with
    |nil=>exact absurd hq hnil
    |cons a l=>
     rw[hq]at hln
     simp only[bw,pvl,List.length_map]
     rw[<-hln]
     rfl
   rw[hpv]at p2;have hm2:∀e∈(o.take k).map EP,e.length=2:=fun e he=>by obtain⟨x,_,rfl⟩:=bf.1 he;rfl
   have hm2:=eq_true hm2;have hlm:((o.take k).map EP).length=k:=by rw[List.length_map,hln]
   have hkm:min k o.length=k:=by omega
   generalize (o.take k).map EP=OO at *;rw[AB];simp only[EP,BB]at ih happ hel|-;simp at ih;simp[hk,hw,hset,hq1,hq2,hel,hke,p2,p922,happ,hm2,hlm,hg2,D7,A29,ih]
def LL:Option (List Sp×B5)->List Sp
 |none=>[]
 |some q=>q.1
def L5:Option (List Sp×B5)->B5
 |none=>⟨0,0,false⟩
 |some q=>q.2
noncomputable def GU:Code:=.block 1 (.seq (I0 149) (.seq (.seq (I0 597) (.cond (.tmp 41) (.exit 1) .skip)) (.seq (I0 725) (.seq (.seq (I0 2517) (.block 2 (.loop O3))) (I0 2005)))))
@[simp] theorem uBe(n:Nat)(st:XS):AE bg ann kn n 58 GU st=AE bg ann kn n 58 (.block 1 (.seq (I0 149) (.seq (.seq (I0 597) (.cond (.tmp 41) (.exit 1) .skip)) (.seq (I0 725) (.seq (.seq (I0 2517) (.block 2 (.loop O3))) (I0 2005)))))) st:=rfl
structure LyB(γ l0 g1 g2 g3 g4 γ0:Nat)(fr0:Fr)(ls:LS)(acc:Option (List Sp×B5))(cc:Nat)(Ly:AA):Prop where
 p1:Ly.get 1=some (g1,.box [.ptr 0 911 (γ+1) 0])
 p2:∃γ2,γ2<cc/\Ly.get 2=some (g2,.box [pvl l0 922 γ2 ((LL acc).map EP)])/\((LL acc).map EP≠[]->Ly.get 922=some (γ2,.vec 86 ((LL acc).map EP)))
 p3:Ly.get 3=some (g3,.box (B9 (L5 acc)))
 p4:Ly.get 4=some (g4,.box [.bool acc.isSome])
 pr:Ly.get BL=some (γ0,.loop fr0 [16] (I0 37) GU 58 ls)
 st:∀t:St,l0+1<=t.up.length->AJ t Ly=Ly
 b:g1<cc/\g2<cc/\g3<cc/\g4<cc/\γ0<cc
section
variable {γ l0 g1 g2 g3 g4 γ0:Nat}{fr0:Fr}{ls ls':LS}{acc:Option (List Sp×B5)}{cc:Nat}{Ly:AA}
theorem LyB.more(h:LyB γ l0 g1 g2 g3 g4 γ0 fr0 ls acc cc Ly){c2:Nat}(hc:cc<=c2):LyB γ l0 g1 g2 g3 g4 γ0 fr0 ls acc c2 Ly:=by obtain⟨γ2,h1,h2⟩:=h.p2;exact⟨h.p1,⟨γ2,by omega,h2⟩,h.p3,h.p4,h.pr,h.st,by have:=h.b;omega⟩
theorem LyB.loop(h:LyB γ l0 g1 g2 g3 g4 γ0 fr0 ls acc cc Ly):LyB γ l0 g1 g2 g3 g4 γ0 fr0 ls' acc cc ((BL,γ0,.loop fr0 [16] (I0 37) GU 58 ls')::Ly):=by obtain⟨γ2,h1,h2,h3⟩:=h.p2;refine⟨by simpa [BL]using h.p1,⟨γ2,h1,by simpa [BL]using h2,by simpa [BL]using h3⟩,by simpa [BL]using h.p3,by simpa [BL]using h.p4,by simp,fun t ht=>by rw[A8,h.st t ht];rfl,h.b⟩
end
theorem LyB.emptied{γ l0 g1 g2 g3 g4 γ0:Nat}{fr0:Fr}{ls:LS}{acc:Option (List Sp×B5)}{cc:Nat}{Ly:AA}(h:LyB γ l0 g1 g2 g3 g4 γ0 fr0 ls acc cc Ly):LyT l0 g2 Ly [] cc ((2,g2,.box [.nil])::Ly) :=
 ⟨⟨0,by have:=h.b;omega,by simp[pvl],fun h=>absurd rfl h⟩,fun k h1 _=>by simp[h1],fun t ht=>by rw[A8,h.st t ht];simp[E8]⟩
theorem LyB.taken{γ l0 g1 g2 g3 g4 γ0:Nat}{fr0:Fr}{ls:LS}{acc:Option (List Sp×B5)}{cc c2:Nat}{Ly Ly2:AA}(h:LyB γ l0 g1 g2 g3 g4 γ0 fr0 ls acc cc Ly)(hc:cc<=c2){o:List Sp}{s:B5}(h2:LyT l0 g2 Ly (o.map EP) c2 Ly2):LyB γ l0 g1 g2 g3 g4 γ0 fr0 ls (some (o,s)) c2 ((4,g4,.box [.bool true])::(3,g3,.box (B9 s))::Ly2):=by
 obtain⟨γ2,e1,e2,e3⟩:=h2.p2;have ot:=h2.ot;refine⟨?_,⟨γ2,e1,by simpa [LL]using e2,by simpa [LL]using e3⟩,by simp[L5],by simp,?_,fun t ht=>?_,by have:=h.b;omega⟩
 ·simpa [ot 1 (by decide) (by decide)]using h.p1
 ·simpa [BL,ot 1000000 (by decide) (by decide)]using h.pr
 ·rw[A8,A8,h2.st t ht];simp[E8,B9]
def AS4(γ:Nat)(RS:List AA)(g1 g2 g3 g4 γ0:Nat)(fr0:Fr)(cc:Nat)(g:Bool)(acc:Option (List Sp×B5))(R:List AA):Prop:=∃Ly,R=RS++[Ly]/\g=true/\LyB γ (RS.length+1) g1 g2 g3 g4 γ0 fr0 .ready acc cc Ly
theorem BEN{γ:Nat}{gs:List (Nat×Int)}{gl:V}{RS:List AA}{g1 g2 g3 g4 γ0:Nat}{fr0:Fr}(hgr:tH RS gs gl)(hst:HK RS):AI2 (RS.length+1) gs gl (AS4 γ RS g1 g2 g3 g4 γ0 fr0) where
 mo:=fun c c' g a R ⟨Ly,h1,h2,h3⟩ hc=>⟨Ly,h1,h2,h3.more hc⟩
 ln:=fun c g a R ⟨Ly,h1,_⟩=>by rw[h1];simp
 st:=fun c g a R ⟨Ly,h1,_,h4⟩ t ht=>by rw[h1,bk,hst t (by omega),bw,bq,h4.st t (by omega)]
 gr:=fun c g a R ⟨Ly,h1,_⟩=>by rw[h1];exact hgr.more _
@[simp] theorem A3B:IW bg 86=false:=by kernel_rfl
theorem OV(rec:GP)(l k g o:Nat)(a:V):AZ bg kn rec 86 [.ptr l k g o,a]=none:=by rw[AN rfl];unfold E1;rw[show([V.ptr l k g o,a].all (AG 9))=false from rfl]
set_option maxHeartbeats 2000000 in
theorem AS5{c:AM}(hc:BQ c){γ:Nat}{B:AA}{RS:List AA}{g1 g2 g3 g4 γ0:Nat}{fr0:Fr}(_:HK RS)(f1:A3 fr0 1=some (true,.ptr (RS.length+1) 1 g1 0))(f2:A3 fr0 2=some (true,.ptr (RS.length+1) 2 g2 0))(f3:A3 fr0 3=some (true,.ptr (RS.length+1) 3 g3 0))(f4:A3 fr0 4=some (true,.ptr (RS.length+1) 4 g4 0)) :
  AI1 c γ B (RS.length+1) (RS.length+1) γ0 1500 (AS4 γ RS g1 g2 g3 g4 γ0 fr0) (fun acc l=>(EL c (AV c) acc l,true)):=by
 intro a L Lq R Y loc cc fr o v hL hLv hc1 hc2 ho hol hv hsta
 obtain⟨Ly,rfl,_,hLy⟩:=hLv
 have h0c:γ0<cc:=hLy.b.2.2.2.2
 have sL:=hL.st
 have hsp:∀t:St,RS.length+Y.length+4<=t.up.length->RS.map (AJ t)=RS/\AJ t Lq=Lq/\Y.map (AJ t)=Y/\AJ t loc=loc:=fun t ht=>by have h:=hsta t (by simp;omega);simp only[bk,bw,bq,bx,bj,List.nil_append]at h;have h1:=bc h (by simp);have h2:=List.cons.inj h1.2;have h3:=List.cons.inj h2.2;have h4:=bc h3.2 (by simp);exact⟨h1.1,h3.1,h4.1,by simpa using h4.2⟩
 have hat:∀(x:AA) (Z:List AA),(RS++x::Z)[RS.length]? = some x:=at5 RS
 have hset:∀(x:AA) (Z:List AA) (f:AA->AA),(RS++x::Z).modify RS.length f=RS++f x::Z:=ACZ RS
 have hatZ:∀(x y:AA) (Z:List AA),(RS++x::y::Z)[RS.length+1]? = some y:=fun x y Z=>by rw[bz (by omega),show RS.length+1-RS.length=0+1 by omega,bb];rfl
 have hun:∀A b:AA,CO (A::(RS++b::Lq::(Y++[loc])))=some (A::(RS++b::Lq::Y),loc):=fun A b=>by have:=DG loc (A::(RS++b::Lq::Y));rwa [bj,bx,bj,bj]at this
 have hg1:∀(A b:AA) (Z:List AA) (lo:AA) (x:Nat×A0),Z≠[]->b.get BL=some x->St.get ⟨A::(RS++b::Z),lo⟩ (RS.length+1) BL=some x:=fun A b Z lo x hz hx=>by
  have:¬RS.length+1=(A::(RS++b::Z)).length:=by
   cases Z with
   |nil=>exact absurd rfl hz
   |cons z Z=>simp
  unfold St.get;rw[if_neg this];simp[hx]
 have hwv:weakV v=v:=by rcases hv with⟨rfl,_⟩|⟨_,_,rfl,_⟩<;>rfl
 have hLb:=hLy.loop (ls':=.busy)
 generalize hLbe:((BL,γ0,A0.loop fr0 [16] (I0 37) GU 58 .busy)::Ly:AA)=Lb at hLb
 have hLbst:HK (RS++Lb::Lq::(Y++[loc])):=fun t ht=>by have h:=hsp t (by simp at ht;omega);simp only[bk,bw,bq,h.1,h.2.1,h.2.2.1,h.2.2.2,hLb.st t (by simp at ht;omega)]
 have hLV:rQ ((RS++Lb::Lq::(Y++[loc]))++[[]]) o v:=by
  rcases hv with⟨rfl,rfl⟩|⟨γr,es,rfl,v2,v3,v4,v5,v6⟩
  ·exact .inr (.inl ⟨rfl,rfl⟩)
  ·refine .inr (.inr ⟨RS.length+1,γr,es,rfl,⟨Lq,?_,v2⟩,v3,v4⟩);rw[bx,bj,bj];exact hatZ _ _ _
 obtain⟨L1,c1,r1,r2,r3⟩:=A7R c hc γ B o (by omega) ho ((RS++Lb::Lq::(Y++[loc]))++[[]]) (KH hLbst fun _ _=>rfl) v hLV L hL cc hc1
 have hcT:=fun n fr=>BC (A:=ann) (kn:=kn) (n:=n+900) Tryz.func86 b86 rfl (args:=[.ptr 0 911 (γ+1) 0,v]) (by simp) (some 19) cc fr (L::(RS++Lb::Lq::(Y++[loc]))) []
 have hcb:∀n fr,H9 (BS bg ann kn (n+900)) (some 19) ⟨cc,fr,⟨L::(RS++Lb::Lq::(Y++[loc])),[]⟩⟩ 86 [.ptr 0 911 (γ+1) 0,v]=some ⟨c1,(19,true,.agg (B9 (EJ c (AV c) o)))::fr,⟨L1::(RS++Lb::Lq::(Y++[loc])),[]⟩⟩:=fun n fr=>by have h1:=hcT n fr;rw[bj]at h1;refine(h1.trans (r3 n 19 fr)).trans ?_;rw[<-bj,DG];rfl
 simp only[bx,bj,List.nil_append]
 have hYb:=hLy.b
 obtain⟨γ2,b2,b3,b4⟩:=hLb.p2
 have q1:=hLb.p1
 have q3:=hLb.p3
 have q4:=hLb.p4
 have tl:=AIZ hc (l:=o) ho
 have hfin:∀(A b own:AA) (c9:Nat) (fr9:Fr),b.get BL=some (γ0,.loop fr0 [16] (I0 37) GU 58 .busy)->(∀t:St,1<=t.up.length->AJ t A=A)->(∀t:St,RS.length+2<=t.up.length->AJ t b=b)->γ0<c9->W9 fr (RS.length+1) BL γ0 (some (.normal,⟨c9,fr9,⟨A::(RS++b::Lq::(Y++[loc])),own⟩⟩))=some (.bool true,⟨c9,fr,⟨A::(RS++((BL,γ0,.loop fr0 [16] (I0 37) GU 58 .ready)::b)::Lq::Y),loc⟩⟩):=fun A b own c9 fr9 hb hA hbs h9=>by
  rw[RL (fr0:=fr0) (ps:=[16]) (asg:=(I0 37)) (body:=GU) (N:=58) (hg1 A b (Lq::(Y++[loc])) own _ (by simp) hb) (hun _ _) (by simp) h9];have s1:=hsp ⟨A::(RS++b::Lq::(Y++[loc])),own⟩ (by simp<;>omega);have s2:=hbs ⟨A::(RS++b::Lq::(Y++[loc])),own⟩ (by simp<;>omega);have s3:=hA ⟨A::(RS++b::Lq::(Y++[loc])),own⟩ (by simp);have hne:¬RS.length=RS.length+(Y.length+1+1):=by omega
  simp[s1.1,s1.2.1,s1.2.2.1,s1.2.2.2,s2,s3,hset,St.put,AA.put]
 have hpB:∀(A:AA) (Z:List AA) (lo:AA),Z≠[]->St.put ⟨A::(RS++Ly::Z),lo⟩ (RS.length+1) BL γ0 (.loop fr0 [16] (I0 37) GU 58 .busy)=⟨A::(RS++Lb::Z),lo⟩:=fun A Z lo hz=>by
  have:¬RS.length+1=(A::(RS++Ly::Z)).length:=by
   cases Z with
   |nil=>exact absurd rfl hz
   |cons z Z=>simp
  unfold St.put;rw[if_neg this];simp[hset,AA.put,hLbe]
 obtain⟨fr7,Ly2,c2,i1,i2,h3,h4,h6,q7⟩:=AS3 o hol v L1 Lq RS (Y++[loc]) (by
  rcases hv with⟨rfl,rfl⟩|⟨γr,es,rfl,v2,v3,v4,v5,v6⟩
  ·exact .inl ⟨rfl,rfl⟩
  ·exact .inr ⟨γr,es,rfl,v2,v3,v4⟩) g2 g3 g4 c1 (B9 (EJ c (AV c) o)) (fun _ _ _ _=>rfl) Lb o.length 0 (c1+1) _ (by omega) (hLb.more (by omega:cc<=c1+1)).emptied (by omega)
 have q7:=fun n m=>q7 n (m+100) (by omega)
 have hLt:=(hLb.more (by omega:cc<=c1+1)).taken i2 (s:=EJ c (AV c) o) i1
 have hlv:v=.nil/\o=[]\/∃q γr,v=.vec q 921 γr o.length:=by
  rcases hv with h|⟨γr,es,h,_⟩
  ·exact .inl h
  ·exact .inr ⟨_,_,h⟩
 have hg34:g3<c2/\g4<c2:=by omega
 have hY3:=(i1.ot 3 (by decide) (by decide)).trans q3
 have hY4:=(i1.ot 4 (by decide) (by decide)).trans q4
 have hg2c:g2<c1+1:=by omega
 have hfT:=fun own fr9=>hfin L1 _ own c2 fr9 hLt.pr r1.st hLt.st (by omega)
 cases hacc:a with
 |none=>
  subst hacc
  have hstep:EL c (AV c) none o=some (o,EJ c (AV c) o):=rfl
  simp only[hstep]
  refine⟨L1,_,c2,r1,⟨_,rfl,rfl,hLt.loop⟩,by omega,fun n=>?_⟩
  rw[ZI (hg1 _ _ _ _ _ (by simp) hLy.pr) rfl h0c]
  simp only[JX,Fr.put]
  simp[f1,f2,f3,f4]
  rw[I2 (fr0:=fr0) (ps:=[16]) (asg:=(I0 37)) (body':=GU) (N:=58) (hg1 _ _ _ _ _ (by simp) hLy.pr) h0c]
  generalize EJ c (AV c) o=S at *
  rw[hpB _ _ _ (by simp)]
  simp only[B9,L5]at hcb q3 q7 hfT hY3
  rcases hlv with⟨rfl,rfl⟩|⟨q,γr,rfl⟩
  ·simp at q7;simp[hcb,hset,q1,q4,b3,fV,fW,OV,fX,LJ,hg2c,q7,h3,h4,h6,hg34,hY3,hY4,hfT,B9]
  ·simp at q7;simp[hcb,hset,q1,q4,b3,fV,fW,OV,fX,LJ,hg2c,q7,h3,h4,h6,hg34,hY3,hY4,hfT,B9]
 |some bt=>
  obtain⟨b,t⟩:=bt
  subst hacc
  by_cases hcond:(EJ c (AV c) o).sun<t.sun\/((EJ c (AV c) o).sun=t.sun/\t.carried<=(EJ c (AV c) o).carried)
  ·have hstep:EL c (AV c) (some (b,t)) o=some (b,t):=if_pos hcond;simp only[hstep];refine⟨L1,RS++[(BL,γ0,.loop fr0 [16] (I0 37) GU 58 .ready)::Lb],c1+1,r1,⟨_,rfl,rfl,(hLb.more (by omega)).loop⟩,by omega,fun n=>?_⟩;rw[ZI (hg1 _ _ _ _ _ (by simp) hLy.pr) rfl h0c];simp only[JX,Fr.put];simp[f1,f2,f3,f4];rw[I2 (fr0:=fr0) (ps:=[16]) (asg:=(I0 37)) (body':=GU) (N:=58) (hg1 _ _ _ _ _ (by simp) hLy.pr) h0c];generalize EJ c (AV c) o=S at *;rw[hpB _ _ _ (by simp)];have hf:=fun own fr9=>hfin L1 Lb own (c1+1) fr9 hLb.pr r1.st hLb.st (by omega);simp only[B9,L5]at hcb q3;rcases hcond with h|⟨h,h2⟩
   ·simp[hwv,hcb,q1,q3,q4,fV,fW,OV,fX,h,hf]
   ·have h3:¬S.sun<t.sun:=by omega
    simp[hwv,hcb,q1,q3,q4,fV,fW,OV,fX,h,h2,hf]
  ·have hstep:EL c (AV c) (some (b,t)) o=some (o,EJ c (AV c) o):=if_neg hcond;simp only[hstep];refine⟨L1,_,c2,r1,⟨_,rfl,rfl,hLt.loop⟩,by omega,fun n=>?_⟩;rw[ZI (hg1 _ _ _ _ _ (by simp) hLy.pr) rfl h0c];simp only[JX,Fr.put];simp[f1,f2,f3,f4];rw[I2 (fr0:=fr0) (ps:=[16]) (asg:=(I0 37)) (body':=GU) (N:=58) (hg1 _ _ _ _ _ (by simp) hLy.pr) h0c];generalize EJ c (AV c) o=S at *;rw[hpB _ _ _ (by simp)];simp only[B9,L5]at hcb q3 q7 hfT hY3;have hA:¬S.sun<t.sun:=fun h=>hcond (.inl h);rcases hlv with⟨rfl,rfl⟩|⟨q,γr,rfl⟩
   ·simp at q7;by_cases hB:S.sun=t.sun
    ·have hC:¬t.carried<=S.carried:=fun h=>hcond (.inr ⟨hB,h⟩);simp[hcb,hset,q1,q3,q4,b3,fV,fW,OV,fX,LJ,hA,eq_true hB,hC,hg2c,q7,h3,h4,h6,hg34,hY3,hY4,hfT,B9]
    ·simp[hcb,hset,q1,q3,q4,b3,fV,fW,OV,fX,LJ,hA,hB,hg2c,q7,h3,h4,h6,hg34,hY3,hY4,hfT,B9]
   ·simp at q7;by_cases hB:S.sun=t.sun
    ·have hC:¬t.carried<=S.carried:=fun h=>hcond (.inr ⟨hB,h⟩);simp[hcb,hset,q1,q3,q4,b3,fV,fW,OV,fX,LJ,hA,eq_true hB,hC,hg2c,q7,h3,h4,h6,hg34,hY3,hY4,hfT,B9]
    ·simp[hcb,hset,q1,q3,q4,b3,fV,fW,OV,fX,LJ,hA,hB,hg2c,q7,h3,h4,h6,hg34,hY3,hY4,hfT,B9]
theorem APX(c:AM)(s:List (List Int)):∀(ls:List (List Sp)) (acc:Option (List Sp×B5)),runG (fun acc l=>(EL c s acc l,true)) acc ls=(ls.foldl (EL c s) acc,true)
 |[],_=>rfl
 |l::ls,acc=>by simp only[runG,if_true,List.foldl_cons];exact APX c s ls _
theorem AEC{P:Program}{E:XE}(d c:Nat)(fr:Fr)(s:St)(T:TypeId)(a:Nat):EN (some d) ⟨c,fr,s⟩ (OD P fr s T (.tmp a))=DC P E (some d) (.ld T (.tmp a)) ⟨c,fr,s⟩:=rfl
noncomputable def jU(c:AM)(γ N cc:Nat)(gl:V):Fr:=[(15,true,fnS γ gl),(14,true,gl),(13,true,.agg (AD c)),(12,true,.ptr 0 911 (γ+1) 0),(11,true,.ptr 0 911 (γ+1) 0),(10,true,.ptr 0 911 (γ+1) 0),(9,true,.ptr 0 911 (γ+1) 0),(1,true,.ptr N 1 cc 0),(2,true,.ptr N 2 (cc+1) 0),(3,true,.ptr N 3 (cc+1+1) 0),(4,true,.ptr N 4 (cc+1+1+1) 0)]
theorem AS6{c:AM}(hc:BQ c){γ:Nat}{B:AA}(RS:List AA)(hst:HK RS)(L:AA)(hL:Lw c γ B L)(cc:Nat)(hcc:γ+1<cc):∃L' c',Lw c γ B L'/\cc<=c' /\
  ∀n dd fr,mD bg (some dd) fr Tryz.f85.results.toList (AE bg ann kn (n+9000) 58 c85 ⟨cc,AF 0 [.ptr 0 911 (γ+1) 0],⟨L::RS,[]⟩⟩)=eL (some dd) fr c' (.tup [sl ((LL (GA c)).map EP),.agg (B9 (L5 (GA c))),.bool (GA c).isSome]) (CO (L'::RS)):=by
 have hgr:tH RS (AP c []) (sl ((AP c []).map A4)):=.inl rfl
 have hfl:=hc.fl
 have hgs:∀g∈AP c [],g.1<c.fams.length/\1<=g.2/\g.2<=4:=fun g hg=>FQ hc [] _ (Nat.le_refl _) g hg
 have hgl:(AP c []).length<=9:=by rw[ED];omega
 have p1:=hL.p1
 have qG:=fun n=>AKZ n c (by omega) [] (by simp)
 let Ly0:AA:=[(1,cc,.box [.ptr 0 911 (γ+1) 0]),(2,cc+1,.box [.nil]),(3,cc+1+1,.box [i 0,i 0,.bool false]),(4,cc+1+1+1,.box [.bool false])]
 have hLy0st:∀t:St,RS.length+1<=t.up.length->AJ t Ly0=Ly0:=fun t ht=>by
  have e0:¬0=t.up.length:=by omega
  obtain⟨up,lo⟩:=t;simp only at e0;simp[Ly0,e0]
 have hst4:HK (RS++[Ly0]):=KH hst fun t ht=>hLy0st t ht
 have q128:=fun n fr=>AA9 (c:=c) (γ:=γ) (B:=B) (gs:=AP c []) (gl:=sl ((AP c []).map A4)) (.inl rfl) L hL RS Ly0 (fun j g n h=>by
   cases hz:(AP c []).map A4 <;> rw[hz]at h <;> simp[sl]at h) hst4 (cc+1+1+1+1) 15 fr n
 have hcG:∀f:Nat,AG (f+3) (sl ((AP c []).map A4))=true:=fun f=>by cases AP c []<;>simp[sl,A4]
 have hwG:weakV (sl ((AP c []).map A4))=sl ((AP c []).map A4):=by cases AP c []<;>simp[sl]
 have hclB:c.chairs.all ((fun e=>e.all (AG 7))∘AR)=true:=List.all_eq_true.2 fun x _=>by simp[AR,A7]
 have hclF:c.fams.all ((fun e=>e.all (AG 7))∘AS)=true:=List.all_eq_true.2 fun x _=>by simp[AS]
 have hb12:Nat.beq 12 1=false:=rfl
 have hLy:AS4 γ RS cc (cc+1) (cc+1+1) (cc+1+1+1) (cc+1+1+1+1+2) (jU c γ (RS.length+1) cc (sl ((AP c []).map A4))) (cc+1+1+1+1+2+1) true none (RS++[(BL,cc+1+1+1+1+2,.loop (jU c γ (RS.length+1) cc (sl ((AP c []).map A4))) [16] (I0 37) GU 58 .ready)::Ly0]):=by refine⟨_,rfl,rfl,by simp[Ly0,BL],⟨0,by omega,by simp[Ly0,BL,LL,pvl],fun h=>absurd rfl h⟩,by simp[Ly0,BL,L5,B9],by simp[Ly0,BL],by simp[BL],fun t ht=>?_,by omega⟩;rw[A8,hLy0st t (by omega)];rfl
 obtain⟨L',R',c',r1,r2,r3,r4⟩:=vW hc (BEN hgr hst) hgl hgs (AS5 hc hst (by simp[jU]) (by simp[jU]) (by simp[jU]) (by simp[jU])) none L RS _ hL hLy (by omega) (jU c γ (RS.length+1) cc (sl ((AP c []).map A4)))
 rw[APX]at r2
 rw[show(YP c (AV c) (AP c [])).foldl (EL c (AV c)) none=GA c from rfl]at r2
 obtain⟨Ly',rfl,_,hLy'⟩:=r2
 have hun:CO (L'::(RS++[Ly']))=some (L'::RS,Ly'):=by have:=DG Ly' (L'::RS);rwa [bj]at this
 rw[hun]at r4
 have r4:=fun n=>r4 (n+1495)
 refine⟨L',c',r1,by omega,fun n dd fr=>?_⟩
 have sL:=r1.st
 have sR1:∀(A lo:AA),RS.map (AJ ⟨A::RS,lo⟩)=RS:=fun A lo=>hst _ (by simp)
 generalize sl ((AP c []).map A4)=gl at *
 simp only[CQ,AD,Ly0,li,bq]at p1 qG q128
 try simp at q128
 simp[c85,AF,p1,qG,q128,hwG,hclB,hclF,hb12,BR,BG,SL]
 rw[XH rfl]
 simp
 rw[show(Code.block 1 ((I0 149).seq (((I0 597).seq (Code.cond (Operand.tmp 41) (Code.exit 1) Code.skip)).seq ((I0 725).seq (((I0 2517).seq (Code.block 2 O3.loop)).seq (I0 2005))))))=GU from rfl]
 have r4:=r4 n
 rw[show n+1495+1500+6000=n+8995 by omega]at r4
 simp only[jU,AD,Ly0,li]at r4|-
 simp only[r4]
 rw[show ∀fr0:Fr,eL none fr0 c' (.tup []) (some (L'::RS,Ly'))=some ⟨c',fr0,⟨L'::RS,Ly'⟩⟩ from fun _=>rfl]
 rw[eF (fr0:=jU c γ (RS.length+1) cc gl) (ps:=[16]) (asg:=(I0 37)) (body:=GU) (N:=58) (by simp[St.get];simpa using hLy'.pr) (by omega)]
 obtain⟨γ2,b1,b2,b3⟩:=hLy'.p2
 have y3:=hLy'.p3
 have y4:=hLy'.p4
 have hcs:∀x∈(LL (GA c)).map EP,∀v∈x,AG 8 v=true:=fun x hx v hv=>by obtain⟨y,_,rfl⟩:=bf.1 hx;simp only[EP,List.mem_cons,List.not_mem_nil,or_false]at hv;rcases hv with rfl|rfl<;>rfl
 generalize (LL (GA c)).map EP=O at *
 generalize L5 (GA c)=S at *
 generalize (GA c).isSome=z at *
 simp only[B9]at y3|-
 cases O with
 |nil=>
  simp[St.put,AA.put,BL,MS,AEC (E:=BS bg ann kn 0),b2,y3,y4,A7J,AIS,sL,sR1]
 |cons x O=>
  have b3:=b3 (by simp)
  have hx:=hcs x (by simp)
  have hcO:=eq_true fun e he=>hcs e (List.mem_cons_of_mem x he)
  simp[St.put,AA.put,BL,MS,AEC (E:=BS bg ann kn 0),b2,b3,y3,y4,BH0,vT,sL,sR1]
end Go.Proofs.Tryz.Op
namespace Go.Pg
end Go.Pg
namespace Go.Proofs.Tryz.Op
end Go.Proofs.Tryz.Op
