/- The contracts of seatings and possible, from any stack. No condition but a valid case. -/
import Derived.Test.YthhdhbalenanjaaGreatS5
noncomputable section
open List renaming cons_append->bj,getElem?_eq_some_iff->bk,append_assoc->bq,map_append->bw,append_inj->bx
set_option maxRecDepth 100000
set_option linter.unusedSimpArgs false
open Go Go.Pg Go.Proofs Go.Wind
namespace Go.Pg
variable {fr:Fr}
theorem AC9{fr':Fr}{l q γ c N:Nat}{fr0:Fr}{ps:List Tmp}{asg body:Code}{up u:List AA}{loc lc:AA}(h:St.get ⟨up,loc⟩ l q=some (γ,.loop fr0 ps asg body N .busy))(hu:CE up=some (u,lc))(hl:l<up.length)(hc:γ<c) :
  RI fr l q γ (some (.ret,⟨c,fr',⟨up,loc⟩⟩))=some (.bool false,⟨c,fr,St.put ⟨u.map (AH ⟨up,loc⟩),AH ⟨up,loc⟩ lc⟩ l q γ (.loop fr0 ps asg body N (.left .ret))⟩):=by
 unfold RI
 simp only[h,hu]
 have:(Nat.beq γ γ&&Nat.blt l up.length&&Nat.blt γ c)=true:=by simp[hc,hl]
 rw[this]
 rfl
theorem zM{n γ c:Nat}{fr' fr0:Fr}{s:St}{ps:List Tmp}{asg body:Code}{N:Nat}(h:s.get n BS=some (γ,.loop fr0 ps asg body N (.left .ret)))(hc:γ<c):rE fr n γ (some ⟨c,fr',s⟩)=some (.ret,⟨c,fr,s.put n BS γ .dead⟩):=by
 unfold rE;simp only[h];have:(Nat.beq γ γ&&Nat.blt γ c)=true:=by simpa using hc
 rw[this]
end Go.Pg
namespace Go.Proofs.Tryz.Op
abbrev fnS(γ:Nat)(gl:V):V:=.fn 167 [] [.ref [gl],.ref [.ptr 0 911 (γ+1) 0]]
theorem zN{c:AP}{γ:Nat}{B:AA}{gs:List (Nat×Int)}{gl:V}(hgl:gl=sl (gs.map AW)\/∃j g n,gl=.vec (j+1) 39 g n)(L:AA)(hL:Lw c γ B L)(RS:List AA)(Ly:AA)(hj:∀j g n,gl=.vec (j+1) 39 g n->j<RS.length+1)(hst:FK (RS++[Ly]))(cc d:Nat)(fr:Fr)(n:Nat):G4 (BN Tryz.prog ann kn (n+100)) (some d) ⟨cc,fr,⟨L::RS,Ly⟩⟩ 128 [.ptr 0 911 (γ+1) 0,gl]=some ⟨cc+2,(d,true,fnS γ gl)::fr,⟨L::RS,Ly⟩⟩:=by
 have sL:=hL.st;have sR:∀(A:AA) (lo:AA),(RS++[Ly]).map (AH ⟨A::(RS++[Ly]),lo⟩)=RS++[Ly]:=fun A lo=>hst _ (by simp);have sR1:∀(A:AA) (lo:AA),RS.map (AH ⟨A::(RS++[Ly]),lo⟩)=RS/\AH ⟨A::(RS++[Ly]),lo⟩ Ly=Ly:=fun A lo=>by have:=sR A lo;rw[bw]at this;have:=bx this (by simp);exact⟨this.1,by simpa using this.2⟩
 rw[A5 Tryz.func128 b128 rfl (by simp)];rcases hgl with rfl|⟨j,g,m,rfl⟩
 ·have hcl:∀f:Nat,AG (f+3) (sl (gs.map AW))=true:=fun f=>by cases gs<;>simp[sl,AW]
  cases gs with
  |nil=>simp[ALQ,AF,dJ,sL,(sR1 _ _).1,(sR1 _ _).2]
  |cons a gs=>simp[ALQ,AF,ABT,AW,sL,(sR1 _ _).1,(sR1 _ _).2]
 ·have hjn:=hj j g m rfl;have e1:¬j+1=RS.length+1+1:=by omega
  have e2:¬j=RS.length+1:=by omega
  simp[ALQ,AF,e2,sL,(sR1 _ _).1,(sR1 _ _).2]
theorem lY.more{R:List AA}{gs:List (Nat×Int)}{gl:V}(h:lY R gs gl)(Z:List AA):lY (R++Z) gs gl:=by
 rcases h with h|⟨j,g,Lj,h1,h2,h3⟩
 ·exact .inl h
 ·refine .inr ⟨j,g,Lj,h1,?_,h3⟩;rw[List.getElem?_append_left (bk.1 h2).1];exact h2
def KQ(γ N c4:Nat)(gl:V):Fr:=[(7,true,fnS γ gl),(6,true,gl),(5,true,.ptr 0 911 (γ+1) 0),(0,true,.ptr 0 911 (γ+1) 0),(1,true,gl),(4,true,.ptr N 4 c4 0)]
def GK:Code:=.block 1 (.seq (g91 149) .ret)
@[simp] theorem BKQ(n:Nat)(st:XS):AE Tryz.prog ann kn n 9 GK st=AE Tryz.prog ann kn n 9 (.block 1 (.seq (g91 149) .ret)) st:=rfl
def ADA(γ:Nat)(gl:V)(RS:List AA)(c4 γ0:Nat)(cc:Nat)(g:Bool)(_:Unit)(R:List AA):Prop:=∃Ly,R=RS++[Ly]/\Ly.get 4=some (c4,.box [.bool (!g)])/\Ly.get BS=some (γ0,.loop (KQ γ (RS.length+1) c4 gl) [8] .skip GK 9 (if g=true then .ready else .left .ret))/\(∀t:St,RS.length+2<=t.up.length->AH t Ly=Ly)/\c4<cc/\γ0<cc
theorem A1U{γ:Nat}{gs:List (Nat×Int)}{gl:V}{RS:List AA}{c4 γ0:Nat}(hgr:lY RS gs gl)(hst:FK RS):AHW (RS.length+1) gs gl (ADA γ gl RS c4 γ0) where
 mo:=fun c c' g a R ⟨Ly,h1,h2,h3,h4,h5,h6⟩ hc=>⟨Ly,h1,h2,h3,h4,by omega,by omega⟩
 ln:=fun c g a R ⟨Ly,h1,_⟩=>by rw[h1];simp
 st:=fun c g a R ⟨Ly,h1,_,_,h4,_⟩ t ht=>by rw[h1,bw,hst t (by omega),List.map_cons,List.map_nil,h4 t (by omega)]
 gr:=fun c g a R ⟨Ly,h1,_⟩=>by rw[h1];exact hgr.more _
theorem AJX{c:AP}{γ:Nat}{B:AA}{gl:V}{RS:List AA}{c4 γ0:Nat}(_:FK RS):AHV c γ B (RS.length+1) (RS.length+1) γ0 100 (ADA γ gl RS c4 γ0) (fun _ _=>((),false)):=by
 intro a L Lq R Y loc cc fr o v hL hLv hc1 hc2 ho hol hv hsta;obtain⟨Ly,rfl,p4,pr,pst,h4c,h0c⟩:=hLv;rw[if_pos rfl]at pr;refine⟨L,RS++[(BS,γ0,.loop (KQ γ (RS.length+1) c4 gl) [8] .skip GK 9 (.left .ret))::(4,c4,.box [.bool true])::(BS,γ0,.loop (KQ γ (RS.length+1) c4 gl) [8] .skip GK 9 .busy)::Ly],cc,hL,⟨_,rfl,?_,?_,?_,h4c,h0c⟩,Nat.le_refl _,fun n=>?_⟩
 ·simp[BS]
 ·simp
 ·intro t h;simp[BK,pst t h]
 ·have sL:=hL.st;have hsp:∀t:St,RS.length+Y.length+4<=t.up.length->RS.map (AH t)=RS/\AH t Lq=Lq/\Y.map (AH t)=Y/\AH t loc=loc:=fun t ht=>by have h:=hsta t (by simp;omega);simp only[bw,List.map_cons,List.map_nil,bq,bj,List.nil_append]at h;have h1:=bx h (by simp);have h2:=List.cons.inj h1.2;have h3:=List.cons.inj h2.2;have h4:=bx h3.2 (by simp);exact⟨h1.1,h3.1,h4.1,by simpa using h4.2⟩
  have hat:∀(x:AA) (Z:List AA),(RS++x::Z)[RS.length]? = some x:=at5 RS;have hset:∀(x:AA) (Z:List AA) (f:AA->AA),(RS++x::Z).modify RS.length f=RS++f x::Z:=ANH RS;have hun:∀A b:AA,∀Z:List AA,CE (A::(RS++b::Lq::(Y++[loc])))=some (A::(RS++b::Lq::Y),loc):=fun A b Z=>by have:=unsnoc_snoc loc (A::(RS++b::Lq::Y));rwa [bj,bq,bj,bj]at this
  have hne1:¬RS.length+1=(L::(RS++[Ly]++Lq::Y)).length:=by simp
  have hg1:∀(A b:AA) (Z:List AA) (lo:AA) (x:Nat×AX),Z≠[]->b.get BS=some x->St.get ⟨A::(RS++b::Z),lo⟩ (RS.length+1) BS=some x:=fun A b Z lo x hz hx=>by
   have:¬RS.length+1=(A::(RS++b::Z)).length:=by
    cases Z with
    |nil=>exact absurd rfl hz
    |cons z Z=>simp
   unfold St.get;rw[if_neg this];simp[hx]
  simp only[bq,bj,List.nil_append];rw[yE (hg1 _ _ _ _ _ (by simp) pr) rfl h0c];simp only[KX,Fr.put,KQ];simp;rw[QR (fr0:=KQ γ (RS.length+1) c4 gl) (ps:=[8]) (asg:=.skip) (body':=GK) (N:=9) (hg1 _ _ _ _ _ (by simp) pr) h0c];generalize hB:AX.loop (KQ γ (RS.length+1) c4 gl) [8] .skip GK 9 LS.busy=BB;simp[p4,hset,St.put,AA.put,BS,h4c];subst hB;rw[AC9 (q:=1000000) (fr0:=KQ γ (RS.length+1) c4 gl) (ps:=[8]) (asg:=.skip) (body:=GK) (N:=9) (hg1 L ((4,c4,.box [.bool true])::(1000000,γ0,.loop (KQ γ (RS.length+1) c4 gl) [8] .skip GK 9 .busy)::Ly) (Lq::(Y++[loc])) [] _ (by simp) (by simp[BS])) (hun _ _ []) (by simp) h0c];have s1:∀(A:AA) (lo:AA),RS.map (AH ⟨L::(RS++A::Lq::(Y++[loc])),lo⟩)=RS/\AH ⟨L::(RS++A::Lq::(Y++[loc])),lo⟩ Lq=Lq/\Y.map (AH ⟨L::(RS++A::Lq::(Y++[loc])),lo⟩)=Y/\AH ⟨L::(RS++A::Lq::(Y++[loc])),lo⟩ loc=loc:=fun A lo=>hsp _ (by simp<;>omega);have s2:∀(A:AA) (lo:AA),AH ⟨L::(RS++A::Lq::(Y++[loc])),lo⟩ Ly=Ly:=fun A lo=>pst _ (by simp<;>omega);have hne:¬RS.length=RS.length+(Y.length+1+1):=by omega
  simp[sL,(s1 _ _).1,(s1 _ _).2.1,(s1 _ _).2.2.1,(s1 _ _).2.2.2,s2,hset,St.put,AA.put,KQ];done
theorem ARR(l:List (List Sp)):(runG (fun (_:Unit) (_:List Sp)=>((),false)) () l).2=l.isEmpty:=by cases l<;>simp[runG]
theorem ADB{c:AP}(hc:B0 c){γ:Nat}{B:AA}{gs:List (Nat×Int)}{gl:V}(hgl:gs.length<=9)(hgs:∀g∈gs,g.1<c.fams.length/\1<=g.2/\g.2<=4)(RS:List AA)(hst:FK RS)(hgr:lY RS gs gl)(L:AA)(hL:Lw c γ B L)(cc:Nat)(hcc:γ+1<cc):∃L' c',Lw c γ B L'/\cc<=c' /\
  ∀n dd fr,fI Tryz.prog (some dd) fr Tryz.f91.results.toList (AE Tryz.prog ann kn (n+6500) 9 c91 ⟨cc,AF 0 [.ptr 0 911 (γ+1) 0,gl],⟨L::RS,[]⟩⟩)=YG (some dd) fr c' (.bool (EZ c (A7 c) gs)) (CE (L'::RS)):=by
 have hLy:ADA γ gl RS cc (cc+3) (cc+3+1) true () (RS++[[(BS,cc+3,.loop (KQ γ (RS.length+1) cc gl) [8] .skip GK 9 .ready),(4,cc,.box [.bool false])]]):=by refine⟨_,rfl,by simp[BS],by simp[BS],fun t ht=>by simp,by omega,by omega⟩
 have hst4:FK (RS++[[(4,cc,.box [.bool false])]]):=IA hst fun t _=>by simp
 have q128:=fun n fr=>zN (c:=c) (γ:=γ) (B:=B) (gs:=gs) (gl:=gl) (by
  rcases hgr with h|⟨j,g,Lj,h,_⟩
  ·exact .inl h
  ·exact .inr ⟨j,g,_,h⟩) L hL RS [(4,cc,.box [.bool false])] (fun j g n h=>by
   rcases hgr with h2|⟨j2,g2,Lj,h2,h3,_⟩
   ·rw[h2]at h;cases gs<;>simp[sl]at h
   ·rw[h2]at h;have:=(bk.1 h3).1;simp at h;omega) hst4 (cc+1) 7 fr n
 obtain⟨L',R',c',r1,r2,r3,r4⟩:=uR hc (A1U (c4:=cc) (γ0:=cc+3) hgr hst) hgl hgs (AJX hst) () L RS _ hL hLy (by omega) (KQ γ (RS.length+1) cc gl)
 rw[ARR]at r2
 unfold EZ
 generalize (VC c (A7 c) gs).isEmpty=z at r2|-
 obtain⟨Ly',rfl,p4,pr,pst,h4c,h0c⟩:=r2
 refine⟨L',c',r1,by omega,fun n dd fr=>?_⟩
 have hun:CE (L'::(RS++[Ly']))=some (L'::RS,Ly'):=by have:=unsnoc_snoc Ly' (L'::RS);rwa [bj]at this
 rw[hun]at r4
 have r4:=r4 (n+395)
 have hwg:weakV gl=gl:=by
  rcases hgr with rfl|⟨j,g,Lj,rfl,_⟩
  ·cases gs<;>simp[sl]
  ·rfl
 have sL:=r1.st
 simp only[KQ]at r4
 simp[c91,AF,q128,hwg,RL]
 rw[WM rfl]
 simp
 have hne:¬RS.length+1=0:=by omega
 rw[show(Code.block 1 ((g91 149).seq Code.ret))=GK from rfl]
 rw[show n+395+100+6000=n+6495 by omega]at r4
 simp only[r4]
 have sR1:∀(A lo:AA),RS.map (AH ⟨A::RS,lo⟩)=RS:=fun A lo=>hst _ (by simp)
 have h4c':cc<c':=by omega
 rw[show ∀fr0:Fr,YG none fr0 c' (.tup []) (some (L'::RS,Ly'))=some ⟨c',fr0,⟨L'::RS,Ly'⟩⟩ from fun _=>rfl]
 cases z with
 |true=>
  rw[dN (fr0:=KQ γ (RS.length+1) cc gl) (ps:=[8]) (asg:=.skip) (body:=GK) (N:=9) (by simp[St.get];simpa using pr) (by omega)]
  simp[p4,St.put,AA.put,BS,h4c',sL,sR1]
 |false=>
  rw[zM (fr0:=KQ γ (RS.length+1) cc gl) (ps:=[8]) (asg:=.skip) (body:=GK) (N:=9) (by simp[St.get];simpa using pr) (by omega)]
  simp[p4,St.put,AA.put,BS,sL,sR1]
def ADC(x:Sp):List V:=[i x.row,i x.place]
structure LyT(l0 g2:Nat)(Ly0:AA)(s:List (List V))(cc:Nat)(Ly:AA):Prop where
 p2:∃γ,γ<cc/\Ly.get 2=some (g2,.box [pvl l0 922 γ s])/\(s≠[]->Ly.get 922=some (γ,.vec 86 s))
 ot:∀k,¬k=2->¬k=922->Ly.get k=Ly0.get k
 st:∀t:St,l0+1<=t.up.length->AH t Ly=Ly
def ARS:Option (List Sp×C5)->List Sp
 |none=>[]
 |some q=>q.1
def BC2:Option (List Sp×C5)->C5
 |none=>⟨0,0,false⟩
 |some q=>q.2
def ART:Code:=.block 1 (.seq (iX 149) (.seq (.seq (iX 597) (.cond (.tmp 41) (.exit 1) .skip)) (.seq (iX 725) (.seq (.seq (iX 2517) (.block 2 (.loop iY))) (iX 2005)))))
structure LyB(γ l0 g1 g2 g3 g4 γ0:Nat)(fr0:Fr)(ls:LS)(acc:Option (List Sp×C5))(cc:Nat)(Ly:AA):Prop where
 p1:Ly.get 1=some (g1,.box [.ptr 0 911 (γ+1) 0])
 p2:∃γ2,γ2<cc/\Ly.get 2=some (g2,.box [pvl l0 922 γ2 ((ARS acc).map ADC)])/\((ARS acc).map ADC≠[]->Ly.get 922=some (γ2,.vec 86 ((ARS acc).map ADC)))
 p3:Ly.get 3=some (g3,.box (GJ (BC2 acc)))
 p4:Ly.get 4=some (g4,.box [.bool acc.isSome])
 pr:Ly.get BS=some (γ0,.loop fr0 [16] (iX 37) ART 58 ls)
 st:∀t:St,l0+1<=t.up.length->AH t Ly=Ly
 b:g1<cc/\g2<cc/\g3<cc/\g4<cc/\γ0<cc
section
variable {γ l0 g1 g2 g3 g4 γ0:Nat}{fr0:Fr}{ls ls':LS}{acc:Option (List Sp×C5)}{cc:Nat}{Ly:AA}
end
end Go.Proofs.Tryz.Op
namespace Go.Pg
end Go.Pg
namespace Go.Proofs.Tryz.Op
def lvW(c:AP)(p g:Nat):AA:=[(p,0,.box (AD c)),(910,g,.map []),(911,g+1,.box (CT c g))]
theorem ARU(c:AP)(p g:Nat)(h:p<900):Lw c g (lvW c p g) (lvW c p g) where
 p0:=by
  have e:¬910=p:=by omega
  exact⟨[],⟨by simp,by simp,by simp⟩,by simp[lvW,e]⟩
 p1:=by
  have e:¬911=p:=by omega
  simp[lvW,e]
 st:=fun t ht=>by
  have e0:¬0=t.up.length:=by omega
  have hcE:∀l∈A7 c,encA l=l.map fun x=>i x:=fun _ _=>rfl;have hA:∀f:Nat,AG (f+3) (.list false ((A7 c).map encA))=true:=fun f=>by simp[encA]
  obtain⟨up,lo⟩:=t;simp only at e0;simp[lvW,CT,AD,H8]
 ot:=fun _ _=>rfl
end Go.Proofs.Tryz.Op
