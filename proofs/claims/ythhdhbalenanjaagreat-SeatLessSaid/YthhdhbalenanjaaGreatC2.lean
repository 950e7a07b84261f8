/- The contracts of seatings and possible, from any stack. No condition but a valid case. -/
import Derived.Test.YthhdhbalenanjaaGreatS5
noncomputable section
open Go.Proofs.Tryz renaming prog->cw
open List renaming cons_append->bj,map_nil->bk,append_assoc->bq,map_append->bw,map_cons->bx,append_inj->bz,getElem?_append_right->bc,getElem?_eq_some_iff->bf,nil_append->bg,getElem?_cons_succ->bh,not_mem_nil->bm,mem_map->bn,mem_cons->cj,cons->cq
open Nat renaming reduceAdd->bp,le_refl->ck
set_option maxRecDepth 100000
set_option linter.unusedSimpArgs false
open Go Go.Pg Go.Proofs Go.Wind
namespace Go.Pg
variable {fr:Fr}
theorem ABR{fr':Fr}{l q γ c N:Nat}{fr0:Fr}{ps:List Tmp}{asg body:Code}{up u:List AA}{loc lc:AA}(h:St.get ⟨up,loc⟩ l q=some (γ,.loop fr0 ps asg body N .busy))(hu:B5 up=some (u,lc))(hl:l<up.length)(hc:γ<c) :
  O4 fr l q γ (some (.ret,⟨c,fr',⟨up,loc⟩⟩))=some (.bool false,⟨c,fr,St.put ⟨u.map (AJ ⟨up,loc⟩),AJ ⟨up,loc⟩ lc⟩ l q γ (.loop fr0 ps asg body N (.left .ret))⟩):=by
 unfold O4
 simp only[h,hu]
 have:(Nat.beq γ γ&&Nat.blt l up.length&&Nat.blt γ c)=true:=by simp[hc,hl]
 rw[this]
 rfl
theorem xE{n γ c:Nat}{fr' fr0:Fr}{s:St}{ps:List Tmp}{asg body:Code}{N:Nat}(h:s.get n BE=some (γ,.loop fr0 ps asg body N (.left .ret)))(hc:γ<c):rE fr n γ (some ⟨c,fr',s⟩)=some (.ret,⟨c,fr,s.put n BE γ .dead⟩):=by
 unfold rE;simp only[h];have:(Nat.beq γ γ&&Nat.blt γ c)=true:=by simpa using hc
 rw[this]
end Go.Pg
namespace Go.Proofs.Tryz.Op
abbrev fnS(γ:Nat)(gl:V):V:=.fn 167 [] [.ref [gl],.ref [.ptr 0 911 (γ+1) 0]]
theorem dL{c:AU}{γ:Nat}{B:AA}{gs:List (Nat×Int)}{gl:V}(hgl:gl=sl (gs.map CN)\/∃j g n,gl=.vec (j+1) 39 g n)(L:AA)(hL:Lw c γ B L)(RS:List AA)(Ly:AA)(hj:∀j g n,gl=.vec (j+1) 39 g n->j<RS.length+1)(hst:E0 (RS++[Ly]))(cc d:Nat)(fr:Fr)(n:Nat):HQ (BL cw ann kn (n+100)) (some d) ⟨cc,fr,⟨L::RS,Ly⟩⟩ 128 [.ptr 0 911 (γ+1) 0,gl]=some ⟨cc+2,(d,true,fnS γ gl)::fr,⟨L::RS,Ly⟩⟩:=by
 have sL:=hL.st;have sR:∀(A:AA) (lo:AA),(RS++[Ly]).map (AJ ⟨A::(RS++[Ly]),lo⟩)=RS++[Ly]:=fun A lo=>hst _ (by simp);have sR1:∀(A:AA) (lo:AA),RS.map (AJ ⟨A::(RS++[Ly]),lo⟩)=RS/\AJ ⟨A::(RS++[Ly]),lo⟩ Ly=Ly:=fun A lo=>by have:=sR A lo;rw[bw]at this;have:=bz this (by simp);exact⟨this.1,by simpa using this.2⟩
 rw[A5 Tryz.func128 b128 rfl (by simp)];rcases hgl with rfl|⟨j,g,m,rfl⟩
 ·have hcl:∀f:Nat,AG (f+3) (sl (gs.map CN))=true:=fun f=>by cases gs<;>simp[sl,CN]
  cases gs with
  |nil=>simp[AI6,AD,iQ,sL,(sR1 _ _).1,(sR1 _ _).2]
  |cons a gs=>simp[AI6,AD,rR,CN,sL,(sR1 _ _).1,(sR1 _ _).2]
 ·have hjn:=hj j g m rfl;have e1:¬j+1=RS.length+1+1:=by omega
  have e2:¬j=RS.length+1:=by omega
  simp[AI6,AD,e1,e2,sL,(sR1 _ _).1,(sR1 _ _).2]
theorem cE.more{R:List AA}{gs:List (Nat×Int)}{gl:V}(h:cE R gs gl)(Z:List AA):cE (R++Z) gs gl:=by
 rcases h with h|⟨j,g,Lj,h1,h2,h3⟩
 ·exact .inl h
 ·refine .inr ⟨j,g,Lj,h1,?_,h3⟩;rw[List.getElem?_append_left (bf.1 h2).1];exact h2
def KG(γ N c4:Nat)(gl:V):Fr:=[(7,true,fnS γ gl),(6,true,gl),(5,true,.ptr 0 911 (γ+1) 0),(0,true,.ptr 0 911 (γ+1) 0),(1,true,gl),(4,true,.ptr N 4 c4 0)]
def G6:Code:=.block 1 (.seq (g91 149) .ret)
@[simp] theorem BIP(n:Nat)(st:XS):AF cw ann kn n 9 G6 st=AF cw ann kn n 9 (.block 1 (.seq (g91 149) .ret)) st:=rfl
def ABS(γ:Nat)(gl:V)(RS:List AA)(c4 γ0:Nat)(cc:Nat)(g:Bool)(_:Unit)(R:List AA):Prop:=∃Ly,R=RS++[Ly]/\Ly.get 4=some (c4,.box [.bool (!g)])/\Ly.get BE=some (γ0,.loop (KG γ (RS.length+1) c4 gl) [8] .skip G6 9 (if g=true then .ready else .left .ret))/\(∀t:St,RS.length+2<=t.up.length->AJ t Ly=Ly)/\c4<cc/\γ0<cc
theorem AZ5{γ:Nat}{gs:List (Nat×Int)}{gl:V}{RS:List AA}{c4 γ0:Nat}(hgr:cE RS gs gl)(hst:E0 RS):zN (RS.length+1) gs gl (ABS γ gl RS c4 γ0) where
 mo:=fun c c' g a R ⟨Ly,h1,h2,h3,h4,h5,h6⟩ hc=>⟨Ly,h1,h2,h3,h4,by omega,by omega⟩
 ln:=fun c g a R ⟨Ly,h1,_⟩=>by rw[h1];simp
 st:=fun c g a R ⟨Ly,h1,_,_,h4,_⟩ t ht=>by rw[h1,bw,hst t (by omega),bx,bk,h4 t (by omega)]
 gr:=fun c g a R ⟨Ly,h1,_⟩=>by rw[h1];exact hgr.more _
theorem AHO{c:AU}{γ:Nat}{B:AA}{gl:V}{RS:List AA}{c4 γ0:Nat}(_:E0 RS):vT c γ B (RS.length+1) (RS.length+1) γ0 100 (ABS γ gl RS c4 γ0) (fun _ _=>((),false)):=by
 intro a L Lq R Y loc cc fr o v hL hLv hc1 hc2 ho hol hv hsta;obtain⟨Ly,rfl,p4,pr,pst,h4c,h0c⟩:=hLv;rw[if_pos rfl]at pr;refine⟨L,RS++[(BE,γ0,.loop (KG γ (RS.length+1) c4 gl) [8] .skip G6 9 (.left .ret))::(4,c4,.box [.bool true])::(BE,γ0,.loop (KG γ (RS.length+1) c4 gl) [8] .skip G6 9 .busy)::Ly],cc,hL,⟨_,rfl,?_,?_,?_,h4c,h0c⟩,ck _,fun n=>?_⟩
 ·simp[BE]
 ·simp
 ·intro t h;simp[A4,pst t h]
 ·have sL:=hL.st;have hsp:∀t:St,RS.length+Y.length+4<=t.up.length->RS.map (AJ t)=RS/\AJ t Lq=Lq/\Y.map (AJ t)=Y/\AJ t loc=loc:=fun t ht=>by have h:=hsta t (by simp;omega);simp only[bw,bx,bk,bq,bj,bg]at h;have h1:=bz h (by simp);have h2:=cq.inj h1.2;have h3:=cq.inj h2.2;have h4:=bz h3.2 (by simp);exact⟨h1.1,h3.1,h4.1,by simpa using h4.2⟩
  have hat:∀(x:AA) (Z:List AA),(RS++x::Z)[RS.length]? = some x:=at5 RS;have hset:∀(x:AA) (Z:List AA) (f:AA->AA),(RS++x::Z).modify RS.length f=RS++f x::Z:=rT RS;have hun:∀A b:AA,∀Z:List AA,B5 (A::(RS++b::Lq::(Y++[loc])))=some (A::(RS++b::Lq::Y),loc):=fun A b Z=>by have:=unsnoc_snoc loc (A::(RS++b::Lq::Y));rwa [bj,bq,bj,bj]at this
  have hne1:¬RS.length+1=(L::(RS++[Ly]++Lq::Y)).length:=by simp
  have hg1:∀(A b:AA) (Z:List AA) (lo:AA) (x:Nat×AX),Z≠[]->b.get BE=some x->St.get ⟨A::(RS++b::Z),lo⟩ (RS.length+1) BE=some x:=fun A b Z lo x hz hx=>by
   have:¬RS.length+1=(A::(RS++b::Z)).length:=by
    cases Z with
    |nil=>exact absurd rfl hz
    |cons z Z=>simp
   unfold St.get;rw[if_neg this];simp[hat,hx]
  simp only[bq,bj,bg];rw[UC (hg1 _ _ _ _ _ (by simp) pr) rfl h0c];simp only[JK,Fr.put,KG];simp;rw[G4 (fr0:=KG γ (RS.length+1) c4 gl) (ps:=[8]) (asg:=.skip) (body':=G6) (N:=9) (hg1 _ _ _ _ _ (by simp) pr) h0c];generalize hB:AX.loop (KG γ (RS.length+1) c4 gl) [8] .skip G6 9 LS.busy=BB;simp[p4,hat,hset,St.put,AA.put,BE,h4c];subst hB;rw[ABR (q:=1000000) (fr0:=KG γ (RS.length+1) c4 gl) (ps:=[8]) (asg:=.skip) (body:=G6) (N:=9) (hg1 L ((4,c4,.box [.bool true])::(1000000,γ0,.loop (KG γ (RS.length+1) c4 gl) [8] .skip G6 9 .busy)::Ly) (Lq::(Y++[loc])) [] _ (by simp) (by simp[BE])) (hun _ _ []) (by simp) h0c];have s1:∀(A:AA) (lo:AA),RS.map (AJ ⟨L::(RS++A::Lq::(Y++[loc])),lo⟩)=RS/\AJ ⟨L::(RS++A::Lq::(Y++[loc])),lo⟩ Lq=Lq/\Y.map (AJ ⟨L::(RS++A::Lq::(Y++[loc])),lo⟩)=Y/\AJ ⟨L::(RS++A::Lq::(Y++[loc])),lo⟩ loc=loc:=fun A lo=>hsp _ (by simp<;>omega);have s2:∀(A:AA) (lo:AA),AJ ⟨L::(RS++A::Lq::(Y++[loc])),lo⟩ Ly=Ly:=fun A lo=>pst _ (by simp<;>omega);have hne:¬RS.length=RS.length+(Y.length+1+1):=by omega
  simp[sL,(s1 _ _).1,(s1 _ _).2.1,(s1 _ _).2.2.1,(s1 _ _).2.2.2,s2,hset,hne,St.put,AA.put,KG,BE];done
theorem AO6(l:List (List Sp)):(runG (fun (_:Unit) (_:List Sp)=>((),false)) () l).2=l.isEmpty:=by cases l<;>simp[runG]
theorem AZ6{c:AU}(hc:CW c){γ:Nat}{B:AA}{gs:List (Nat×Int)}{gl:V}(hgl:gs.length<=9)(hgs:∀g∈gs,g.1<c.fams.length/\1<=g.2/\g.2<=4)(RS:List AA)(hst:E0 RS)(hgr:cE RS gs gl)(L:AA)(hL:Lw c γ B L)(cc:Nat)(hcc:γ+1<cc):∃L' c',Lw c γ B L'/\cc<=c' /\
  ∀n dd fr,bT cw (some dd) fr Tryz.f91.results.toList (AF cw ann kn (n+6500) 9 c91 ⟨cc,AD 0 [.ptr 0 911 (γ+1) 0,gl],⟨L::RS,[]⟩⟩)=UG (some dd) fr c' (.bool (W5 c (AV c) gs)) (B5 (L'::RS)):=by
 have hLy:ABS γ gl RS cc (cc+3) (cc+3+1) true () (RS++[[(BE,cc+3,.loop (KG γ (RS.length+1) cc gl) [8] .skip G6 9 .ready),(4,cc,.box [.bool false])]]):=by refine⟨_,rfl,by simp[BE],by simp[BE],fun t ht=>by simp,by omega,by omega⟩
 have hst4:E0 (RS++[[(4,cc,.box [.bool false])]]):=FY hst fun t _=>by simp
 have q128:=fun n fr=>dL (c:=c) (γ:=γ) (B:=B) (gs:=gs) (gl:=gl) (by
  rcases hgr with h|⟨j,g,Lj,h,_⟩
  ·exact .inl h
  ·exact .inr ⟨j,g,_,h⟩) L hL RS [(4,cc,.box [.bool false])] (fun j g n h=>by
   rcases hgr with h2|⟨j2,g2,Lj,h2,h3,_⟩
   ·rw[h2]at h;cases gs<;>simp[sl]at h
   ·rw[h2]at h;have:=(bf.1 h3).1;simp at h;omega) hst4 (cc+1) 7 fr n
 obtain⟨L',R',c',r1,r2,r3,r4⟩:=bK hc (AZ5 (c4:=cc) (γ0:=cc+3) hgr hst) hgl hgs (AHO hst) () L RS _ hL hLy (by omega) (KG γ (RS.length+1) cc gl)
 rw[AO6]at r2
 unfold W5
 generalize (P5 c (AV c) gs).isEmpty=z at r2|-
 obtain⟨Ly',rfl,p4,pr,pst,h4c,h0c⟩:=r2
 refine⟨L',c',r1,by omega,fun n dd fr=>?_⟩
 have hun:B5 (L'::(RS++[Ly']))=some (L'::RS,Ly'):=by have:=unsnoc_snoc Ly' (L'::RS);rwa [bj]at this
 rw[hun]at r4
 have r4:=r4 (n+395)
 have hwg:weakV gl=gl:=by
  rcases hgr with rfl|⟨j,g,Lj,rfl,_⟩
  ·cases gs<;>simp[sl]
  ·rfl
 have sL:=r1.st
 simp only[KG]at r4
 simp[c91,AD,q128,hwg,NI]
 rw[P0 rfl]
 simp
 have hne:¬RS.length+1=0:=by omega
 rw[show(Code.block 1 ((g91 149).seq Code.ret))=G6 from rfl]
 rw[show n+395+100+6000=n+6495 by omega]at r4
 simp only[KG,r4]
 have sR1:∀(A lo:AA),RS.map (AJ ⟨A::RS,lo⟩)=RS:=fun A lo=>hst _ (by simp)
 have h4c':cc<c':=by omega
 rw[show ∀fr0:Fr,UG none fr0 c' (.tup []) (some (L'::RS,Ly'))=some ⟨c',fr0,⟨L'::RS,Ly'⟩⟩ from fun _=>rfl]
 cases z with
 |true=>
  rw[UB (fr0:=KG γ (RS.length+1) cc gl) (ps:=[8]) (asg:=.skip) (body:=G6) (N:=9) (by simp[St.get];simpa using pr) (by omega)]
  simp[p4,St.put,AA.put,BE,h4c',sL,sR1]
 |false=>
  rw[xE (fr0:=KG γ (RS.length+1) cc gl) (ps:=[8]) (asg:=.skip) (body:=G6) (N:=9) (by simp[St.get];simpa using pr) (by omega)]
  simp[p4,St.put,AA.put,BE,h4c',sL,sR1]
def ED(x:Sp):List V:=[i x.row,i x.place]
theorem AZ7(st:XS):LR [3003000923052] st=aW 52 (KY 3 st) 922 [2] st:=rfl
theorem AZ8(c:Nat)(fr:Fr)(up:List AA)(a b:Nat×AX):LR [3003000923052] ⟨c,fr,⟨up,[(6,a),(8,b)]⟩⟩=⟨c,fr,⟨up,[(6,a),(8,b)]⟩⟩:=by rw[AZ7];rfl
theorem AZ9(c γ g2 g o:Nat)(T:TypeId)(es:List (List V))(a6 a8:Nat)(c6 c8:List V)(fr:Fr)(L Ly:AA)(RS Z:List AA)(r2:AX)(h3:BS fr 2=some (true,.ptr (RS.length+1) 2 g o))(h2:Ly.get 2=some (g2,r2)) :
  LR [3003000923052] ⟨c,fr,⟨L::(RS++Ly::Z),[(52,γ,.vec T es),(6,a6,.box c6),(8,a8,.box c8)]⟩⟩=⟨c,jH (RS.length+(Z.length+1)+1) 52 (RS.length+1) 922 fr,⟨L::(RS++((922,γ,QX (RS.length+(Z.length+1)+1) 52 (RS.length+1) 922 (.vec T es))::(2,g2,QX (RS.length+(Z.length+1)+1) 52 (RS.length+1) 922 r2)::JP 2 Ly)::Z),[(6,a6,QX (RS.length+(Z.length+1)+1) 52 (RS.length+1) 922 (.box c6)),(8,a8,QX (RS.length+(Z.length+1)+1) 52 (RS.length+1) 922 (.box c8))]⟩⟩:=by
 rw[AZ7]
 have hl:(L::(RS++Ly::Z)).length=RS.length+(Z.length+1)+1:=by simp
 have e1:KY 3 ⟨c,fr,⟨L::(RS++Ly::Z),[(52,γ,.vec T es),(6,a6,.box c6),(8,a8,.box c8)]⟩⟩=RS.length+1:=by show(match BS fr 2 with|some (true,.ptr l _ _ _)=>l|_=>0)=RS.length+1;rw[h3]
 rw[e1]
 unfold aW
 have e3:QK (RS.length+1) (RS.length+(Z.length+1)+1) (some (γ,.vec T es))=true:=by
  have:Nat.blt (RS.length+1) (RS.length+(Z.length+1)+1)=true:=by rw[Nat.blt_eq];omega
  simp[QK,cA,this]
 have ne:¬RS.length=RS.length+(Z.length+1):=by omega
 simp[qY,AA.get,zG,h2,aV,St.put,C8,rT,ne,e3]
structure xF(l0 g2:Nat)(Ly0:AA)(s:List (List V))(cc:Nat)(Ly:AA):Prop where
 p2:∃γ,γ<cc/\Ly.get 2=some (g2,.box [pvl l0 922 γ s])/\(s≠[]->Ly.get 922=some (γ,.vec 86 s))
 ot:∀k,¬k=2->¬k=922->Ly.get k=Ly0.get k
 st:∀t:St,l0+1<=t.up.length->AJ t Ly=Ly
theorem xF.more{l0 g2:Nat}{Ly0 Ly:AA}{s:List (List V)}{cc c2:Nat}(h:xF l0 g2 Ly0 s cc Ly)(hc:cc<=c2):xF l0 g2 Ly0 s c2 Ly:=by obtain⟨γ,h1,h2⟩:=h.p2;exact⟨⟨γ,by omega,h2⟩,h.ot,h.st⟩
theorem dM(t:St)(T:TypeId)(l:List Sp):CG t (.vec T (l.map ED))=.vec T (l.map ED):=PC fun e he v hv=>by obtain⟨x,_,rfl⟩:=bn.1 he;simp only[ED,cj,bm,or_false]at hv;rcases hv with rfl|rfl<;>rfl
theorem xF.first{l0 g2:Nat}{Ly0 Ly:AA}{cc:Nat}(h:xF l0 g2 Ly0 [] cc Ly)(x:Sp):xF l0 g2 Ly0 ([x].map ED) (cc+1) ((922,cc,.vec 86 [ED x])::(2,g2,.box [.vec l0 922 cc 1])::JP 2 Ly) where
 p2:=⟨cc,by omega,by simp[pvl],fun _=>by simp⟩
 ot:=fun k h1 h2=>by rw[<-h.ot k h1 h2];simp[h1,h2]
 st:=fun t ht=>by
  have e:¬l0=t.up.length:=by omega
  have e2:=dM t 86 [x];rw[bx,bk]at e2;rw[A4,A4,S8,h.st t ht,e2];obtain⟨up,lo⟩:=t;simp only at e;simp[E6,e]
theorem xF.next{l0 g2:Nat}{Ly0 Ly:AA}{cc:Nat}{l:List Sp}(h:xF l0 g2 Ly0 (l.map ED) cc Ly)(x:Sp):xF l0 g2 Ly0 ((l++[x]).map ED) (cc+1) ((2,g2,.box [.vec l0 922 cc (l.length+1)])::(922,cc,.vec 86 (l.map ED++[ED x]))::Ly) where
 p2:=by
  refine⟨cc,by omega,?_,fun _=>by simp⟩;have:pvl l0 922 cc ((l++[x]).map ED)=.vec l0 922 cc (l.length+1):=by cases l<;>simp[pvl]
  rw[this];simp
 ot:=fun k h1 h2=>by rw[<-h.ot k h1 h2];simp[h1,h2]
 st:=fun t ht=>by
  have e:¬l0=t.up.length:=by omega
  have e2:=dM t 86 (l++[x]);rw[bw,bx,bk]at e2;rw[A4,A4,h.st t ht,e2];obtain⟨up,lo⟩:=t;simp only at e;simp[E6,e]
theorem AMC{m:Nat}(hm:m<=100)(x:Sp):BZ cw 86 m [ED x]=true:=by have h2:(ED x).length=2:=rfl;rw[CC (by simp) (by simp[ED])];simp[maxLen,h2];omega
theorem AO7(o:List Sp)(ho:o.length<=10)(v:V)(L Lq:AA)(RS Y:List AA)(hv:(v=.nil/\o=[])\/∃γ es,v=.vec (RS.length+1+1) 921 γ o.length/\Lq.get 921=some (γ,.vec 153 es)/\o.length<=es.length/\∀k (h:k<o.length) (h2:k<es.length),es[k]=A6 o[k])(g2 g3 g4 g6:Nat)(B6:List V)(h6:∀n k l d,B6.map (JX n k l d 3)=B6)(Ly0:AA):∀(d k cc:Nat) (Ly:AA),k+d=o.length->xF (RS.length+1) g2 Ly0 ((o.take k).map ED) cc Ly->g2<cc->∃fr Ly' c',xF (RS.length+1) g2 Ly0 (o.map ED) c' Ly'/\cc<=c'/\BS fr 3=some (true,.ptr (RS.length+1) 3 g3 0)/\BS fr 4=some (true,.ptr (RS.length+1) 4 g4 0)/\BS fr 6=some (true,.ptr (RS.length+(Y.length+1+1)+1) 6 g6 0) /\
  ∀n m,d<m->BT (AF cw ann kn (n+400) 58) OI (ann 58 (CA OI)) m ⟨cc,[(2,true,.ptr (RS.length+1) 2 g2 0),(3,true,.ptr (RS.length+1) 3 g3 0),(4,true,.ptr (RS.length+1) 4 g4 0),(6,true,.ptr (RS.length+(Y.length+1+1)+1) 6 g6 0),(42,true,v),(43,true,i o.length),(44,true,i k)],⟨L::(RS++Ly::Lq::Y),[(6,g6,.box B6)]⟩⟩ =
   some (.exit 2,⟨c',fr,⟨L::(RS++Ly'::Lq::Y),[(6,g6,.box B6)]⟩⟩)
 |0,k,cc,Ly,hd,hLy,hg=>by
  obtain rfl:k=o.length:=by omega
  rw[List.take_length]at hLy;refine⟨?fr,Ly,cc,hLy,ck _,?g1,?g2,?g3,fun n m hm=>?g9⟩;case g9=>
   obtain⟨m,rfl⟩:=qNz m (by omega)
   rw[AB]
   simp
   rfl
  all_goals simp
 |d+1,k,cc,Ly,hd,hLy,hg=>by
  have hk:k<o.length:=by omega
  have hw:=CB (k:=k) (by omega);rcases hv with⟨_,rfl⟩|⟨γr,es,rfl,hq1,hq2,hq3⟩
  ·simp at hk
  have hke:k<es.length:=by omega
  have hel:=hq3 k hk hke;have htk:o.take (k+1)=o.take k++[o[k]]:=List.take_succ_eq_append_getElem hk;have hln:(o.take k).length=k:=by rw[List.length_take];omega
  have hat:∀(x:AA) (Z:List AA),(RS++x::Z)[RS.length]? = some x:=at5 RS;have hset:∀(x:AA) (Z:List AA) (f:AA->AA),(RS++x::Z).modify RS.length f=RS++f x::Z:=rT RS;have hatZ:∀x:AA,(RS++x::Lq::Y)[RS.length+1]? = some Lq:=fun x=>by rw[bc (by omega),show RS.length+1-RS.length=0+1 by omega,bh];rfl
  obtain⟨γ,hγ,p2,p922⟩:=hLy.p2;have hN1:¬RS.length+1=RS.length+(Y.length+1+1)+1:=by omega
  have hN2:¬RS.length+1+1=RS.length+(Y.length+1+1)+1:=by omega
  have hg2:g2<cc+1+1:=by omega
  have hg2':g2<cc+1:=by omega
  by_cases hnil:o.take k=[]
  ·obtain rfl:k=0:=by have:=congrArg List.length hnil;rw[hln]at this;exact this
   rw[hnil]at hLy p2;have hLy2:=(hLy.more (by omega:cc<=cc+1)).first o[0];rw[show[o[0]]=o.take (0+1) by rw[htk,hnil];rfl]at hLy2;obtain⟨fr,Ly',c',i1,i2,f3,f4,f6,ih⟩:=AO7 o ho _ L Lq RS Y (.inr ⟨γr,es,rfl,hq1,hq2,hq3⟩) g2 g3 g4 g6 B6 h6 Ly0 d (0+1) (cc+1+1) _ (by omega) hLy2 (by omega);refine⟨fr,Ly',c',i1,by omega,f3,f4,f6,fun n m hm=>?_⟩;obtain⟨m,rfl⟩:=qNz m (by omega);have ih:=ih n m (by omega);have happ:=AMC (m:=0) (by omega) o[0];have hgh:=fun c1 fr (h2:BS fr 2=some (true,.ptr (RS.length+1) 2 g2 0))=>AZ9 c1 (cc+1) g2 g2 0 86 [ED o[0]] g6 cc B6 (A6 o[0]) fr L ((2,g2,.box [.vec (RS.length+(Y.length+1+1)+1) 52 (cc+1) 1])::Ly) RS (Lq::Y) _ h2 rfl;rw[AB];simp only[ED,A6,bk,A3X]at ih happ hgh p2 hel|-;simp at ih;simp[hk,hw,hN1,hN2,hat,hset,hatZ,hq1,hq2,hel,hke,p2,GP,happ,hg2,hg2',DJ,FE,C8,LZ,hgh,J9,CV,CZ,CO,L5,D9,h6,ih]
  ·have p922:=p922 (by simpa using hnil);have hLy2:=(hLy.more (by omega:cc<=cc+1)).next o[k];rw[<-htk,hln]at hLy2;obtain⟨fr,Ly',c',i1,i2,f3,f4,f6,ih⟩:=AO7 o ho _ L Lq RS Y (.inr ⟨γr,es,rfl,hq1,hq2,hq3⟩) g2 g3 g4 g6 B6 h6 Ly0 d (k+1) (cc+1+1) _ (by omega) hLy2 (by omega);refine⟨fr,Ly',c',i1,by omega,f3,f4,f6,fun n m hm=>?_⟩;obtain⟨m,rfl⟩:=qNz m (by omega);have ih:=ih n m (by omega);have happ:=AMC (m:=k) (by omega) o[k];have hpv:pvl (RS.length+1) 922 γ ((o.take k).map ED)=.vec (RS.length+1) 922 γ k:=by
    cases hq:o.take k with
    |nil=>exact absurd hq hnil
    |cons a l=>
     rw[hq]at hln
     simp only[bx,pvl,List.length_map]
     rw[<-hln]
     rfl
   rw[hpv]at p2;have hm2:∀e∈(o.take k).map ED,e.length=2:=fun e he=>by obtain⟨x,_,rfl⟩:=bn.1 he;rfl
   have hm2:=eq_true hm2;have hlm:((o.take k).map ED).length=k:=by rw[List.length_map,hln]
   have hkm:min k o.length=k:=by omega
   generalize (o.take k).map ED=OO at *;rw[AB];simp only[ED,A6]at ih happ hel|-;simp at ih;simp[hk,hw,hN1,hN2,hat,hset,hatZ,hq1,hq2,hel,hke,p2,p922,happ,hm2,hlm,hkm,hg2,hg2',DJ,C8,AZ8,h6,ih]
def UQ:Option (List Sp×BW)->List Sp
 |none=>[]
 |some q=>q.1
def cF:Option (List Sp×BW)->BW
 |none=>⟨0,0,false⟩
 |some q=>q.2
def G7:Code:=.block 1 (.seq (JA 149) (.seq (.seq (JA 597) (.cond (.tmp 41) (.exit 1) .skip)) (.seq (JA 725) (.seq (.seq (JA 2517) (.block 2 (.loop OI))) (JA 2005)))))
@[simp] theorem uBe(n:Nat)(st:XS):AF cw ann kn n 58 G7 st=AF cw ann kn n 58 (.block 1 (.seq (JA 149) (.seq (.seq (JA 597) (.cond (.tmp 41) (.exit 1) .skip)) (.seq (JA 725) (.seq (.seq (JA 2517) (.block 2 (.loop OI))) (JA 2005)))))) st:=rfl
structure LyB(γ l0 g1 g2 g3 g4 γ0:Nat)(fr0:Fr)(ls:LS)(acc:Option (List Sp×BW))(cc:Nat)(Ly:AA):Prop where
 p1:Ly.get 1=some (g1,.box [.ptr 0 911 (γ+1) 0])
 p2:∃γ2,γ2<cc/\Ly.get 2=some (g2,.box [pvl l0 922 γ2 ((UQ acc).map ED)])/\((UQ acc).map ED≠[]->Ly.get 922=some (γ2,.vec 86 ((UQ acc).map ED)))
 p3:Ly.get 3=some (g3,.box (CM (cF acc)))
 p4:Ly.get 4=some (g4,.box [.bool acc.isSome])
 pr:Ly.get BE=some (γ0,.loop fr0 [16] (JA 37) G7 58 ls)
 st:∀t:St,l0+1<=t.up.length->AJ t Ly=Ly
 b:g1<cc/\g2<cc/\g3<cc/\g4<cc/\γ0<cc
section
variable {γ l0 g1 g2 g3 g4 γ0:Nat}{fr0:Fr}{ls ls':LS}{acc:Option (List Sp×BW)}{cc:Nat}{Ly:AA}
theorem LyB.more(h:LyB γ l0 g1 g2 g3 g4 γ0 fr0 ls acc cc Ly){c2:Nat}(hc:cc<=c2):LyB γ l0 g1 g2 g3 g4 γ0 fr0 ls acc c2 Ly:=by obtain⟨γ2,h1,h2⟩:=h.p2;exact⟨h.p1,⟨γ2,by omega,h2⟩,h.p3,h.p4,h.pr,h.st,by have:=h.b;omega⟩
theorem LyB.loop(h:LyB γ l0 g1 g2 g3 g4 γ0 fr0 ls acc cc Ly):LyB γ l0 g1 g2 g3 g4 γ0 fr0 ls' acc cc ((BE,γ0,.loop fr0 [16] (JA 37) G7 58 ls')::Ly):=by obtain⟨γ2,h1,h2,h3⟩:=h.p2;refine⟨by simpa [BE]using h.p1,⟨γ2,h1,by simpa [BE]using h2,by simpa [BE]using h3⟩,by simpa [BE]using h.p3,by simpa [BE]using h.p4,by simp,fun t ht=>by rw[A4,h.st t ht];rfl,h.b⟩
end
theorem LyB.emptied{γ l0 g1 g2 g3 g4 γ0:Nat}{fr0:Fr}{ls:LS}{acc:Option (List Sp×BW)}{cc:Nat}{Ly:AA}(h:LyB γ l0 g1 g2 g3 g4 γ0 fr0 ls acc cc Ly):xF l0 g2 Ly [] cc ((2,g2,.box [.nil])::Ly) :=
 ⟨⟨0,by have:=h.b;omega,by simp[pvl],fun h=>absurd rfl h⟩,fun k h1 _=>by simp[h1],fun t ht=>by rw[A4,h.st t ht];simp[E6]⟩
theorem LyB.taken{γ l0 g1 g2 g3 g4 γ0:Nat}{fr0:Fr}{ls:LS}{acc:Option (List Sp×BW)}{cc c2:Nat}{Ly Ly2:AA}(h:LyB γ l0 g1 g2 g3 g4 γ0 fr0 ls acc cc Ly)(hc:cc<=c2){o:List Sp}{s:BW}(h2:xF l0 g2 Ly (o.map ED) c2 Ly2):LyB γ l0 g1 g2 g3 g4 γ0 fr0 ls (some (o,s)) c2 ((4,g4,.box [.bool true])::(3,g3,.box (CM s))::Ly2):=by
 obtain⟨γ2,e1,e2,e3⟩:=h2.p2;have ot:=h2.ot;refine⟨?_,⟨γ2,e1,by simpa [UQ]using e2,by simpa [UQ]using e3⟩,by simp[cF],by simp,?_,fun t ht=>?_,by have:=h.b;omega⟩
 ·simpa [ot 1 (by decide) (by decide)]using h.p1
 ·simpa [BE,ot 1000000 (by decide) (by decide)]using h.pr
 ·rw[A4,A4,h2.st t ht];simp[E6,CM]
def AO8(γ:Nat)(RS:List AA)(g1 g2 g3 g4 γ0:Nat)(fr0:Fr)(cc:Nat)(g:Bool)(acc:Option (List Sp×BW))(R:List AA):Prop:=∃Ly,R=RS++[Ly]/\g=true/\LyB γ (RS.length+1) g1 g2 g3 g4 γ0 fr0 .ready acc cc Ly
theorem BBM{γ:Nat}{gs:List (Nat×Int)}{gl:V}{RS:List AA}{g1 g2 g3 g4 γ0:Nat}{fr0:Fr}(hgr:cE RS gs gl)(hst:E0 RS):zN (RS.length+1) gs gl (AO8 γ RS g1 g2 g3 g4 γ0 fr0) where
 mo:=fun c c' g a R ⟨Ly,h1,h2,h3⟩ hc=>⟨Ly,h1,h2,h3.more hc⟩
 ln:=fun c g a R ⟨Ly,h1,_⟩=>by rw[h1];simp
 st:=fun c g a R ⟨Ly,h1,_,h4⟩ t ht=>by rw[h1,bw,hst t (by omega),bx,bk,h4.st t (by omega)]
 gr:=fun c g a R ⟨Ly,h1,_⟩=>by rw[h1];exact hgr.more _
@[simp] theorem AU4:GL cw 86=false:=by kernel_rfl
theorem OA(rec:HD)(l k g o:Nat)(a:V):BA cw kn rec 86 [.ptr l k g o,a]=none:=by rw[AR rfl];unfold EZ;rw[show([V.ptr l k g o,a].all (AG 9))=false from rfl]
set_option maxHeartbeats 2000000 in
theorem AO9{c:AU}(hc:CW c){γ:Nat}{B:AA}{RS:List AA}{g1 g2 g3 g4 γ0:Nat}{fr0:Fr}(_:E0 RS)(f1:BS fr0 1=some (true,.ptr (RS.length+1) 1 g1 0))(f2:BS fr0 2=some (true,.ptr (RS.length+1) 2 g2 0))(f3:BS fr0 3=some (true,.ptr (RS.length+1) 3 g3 0))(f4:BS fr0 4=some (true,.ptr (RS.length+1) 4 g4 0)) :
  vT c γ B (RS.length+1) (RS.length+1) γ0 1500 (AO8 γ RS g1 g2 g3 g4 γ0 fr0) (fun acc l=>(EL c (AV c) acc l,true)):=by
 intro a L Lq R Y loc cc fr o v hL hLv hc1 hc2 ho hol hv hsta
 obtain⟨Ly,rfl,_,hLy⟩:=hLv
 have h0c:γ0<cc:=hLy.b.2.2.2.2
 have sL:=hL.st
 have hsp:∀t:St,RS.length+Y.length+4<=t.up.length->RS.map (AJ t)=RS/\AJ t Lq=Lq/\Y.map (AJ t)=Y/\AJ t loc=loc:=fun t ht=>by have h:=hsta t (by simp;omega);simp only[bw,bx,bk,bq,bj,bg]at h;have h1:=bz h (by simp);have h2:=cq.inj h1.2;have h3:=cq.inj h2.2;have h4:=bz h3.2 (by simp);exact⟨h1.1,h3.1,h4.1,by simpa using h4.2⟩
 have hat:∀(x:AA) (Z:List AA),(RS++x::Z)[RS.length]? = some x:=at5 RS
 have hset:∀(x:AA) (Z:List AA) (f:AA->AA),(RS++x::Z).modify RS.length f=RS++f x::Z:=rT RS
 have hatZ:∀(x y:AA) (Z:List AA),(RS++x::y::Z)[RS.length+1]? = some y:=fun x y Z=>by rw[bc (by omega),show RS.length+1-RS.length=0+1 by omega,bh];rfl
 have hun:∀A b:AA,B5 (A::(RS++b::Lq::(Y++[loc])))=some (A::(RS++b::Lq::Y),loc):=fun A b=>by have:=unsnoc_snoc loc (A::(RS++b::Lq::Y));rwa [bj,bq,bj,bj]at this
 have hg1:∀(A b:AA) (Z:List AA) (lo:AA) (x:Nat×AX),Z≠[]->b.get BE=some x->St.get ⟨A::(RS++b::Z),lo⟩ (RS.length+1) BE=some x:=fun A b Z lo x hz hx=>by
  have:¬RS.length+1=(A::(RS++b::Z)).length:=by
   cases Z with
   |nil=>exact absurd rfl hz
   |cons z Z=>simp
  unfold St.get;rw[if_neg this];simp[hat,hx]
 have hwv:weakV v=v:=by rcases hv with⟨rfl,_⟩|⟨_,_,rfl,_⟩<;>rfl
 have hLb:=hLy.loop (ls':=.busy)
 generalize hLbe:((BE,γ0,AX.loop fr0 [16] (JA 37) G7 58 .busy)::Ly:AA)=Lb at hLb
 have hLbst:E0 (RS++Lb::Lq::(Y++[loc])):=fun t ht=>by have h:=hsp t (by simp at ht;omega);simp only[bw,bx,bk,h.1,h.2.1,h.2.2.1,h.2.2.2,hLb.st t (by simp at ht;omega)]
 have hLV:nM ((RS++Lb::Lq::(Y++[loc]))++[[]]) o v:=by
  rcases hv with⟨rfl,rfl⟩|⟨γr,es,rfl,v2,v3,v4,v5,v6⟩
  ·exact .inr (.inl ⟨rfl,rfl⟩)
  ·refine .inr (.inr ⟨RS.length+1,γr,es,rfl,⟨Lq,?_,v2⟩,v3,v4⟩);rw[bq,bj,bj];exact hatZ _ _ _
 obtain⟨L1,c1,r1,r2,r3⟩:=A35 c hc γ B o (by omega) ho ((RS++Lb::Lq::(Y++[loc]))++[[]]) (FY hLbst fun _ _=>rfl) v hLV L hL cc hc1
 have hcT:=fun n fr=>A5 (A:=ann) (kn:=kn) (n:=n+900) Tryz.func86 b86 rfl (args:=[.ptr 0 911 (γ+1) 0,v]) (by simp) (some 19) cc fr (L::(RS++Lb::Lq::(Y++[loc]))) []
 have hcb:∀n fr,HQ (BL cw ann kn (n+900)) (some 19) ⟨cc,fr,⟨L::(RS++Lb::Lq::(Y++[loc])),[]⟩⟩ 86 [.ptr 0 911 (γ+1) 0,v]=some ⟨c1,(19,true,.agg (CM (EV c (AV c) o)))::fr,⟨L1::(RS++Lb::Lq::(Y++[loc])),[]⟩⟩:=fun n fr=>by have h1:=hcT n fr;rw[bj]at h1;refine(h1.trans (r3 n 19 fr)).trans ?_;rw[<-bj,unsnoc_snoc];rfl
 simp only[bq,bj,bg]
 have hYb:=hLy.b
 obtain⟨γ2,b2,b3,b4⟩:=hLb.p2
 have q1:=hLb.p1
 have q3:=hLb.p3
 have q4:=hLb.p4
 have tl:=AFR hc (l:=o) ho
 have hfin:∀(A b own:AA) (c9:Nat) (fr9:Fr),b.get BE=some (γ0,.loop fr0 [16] (JA 37) G7 58 .busy)->(∀t:St,1<=t.up.length->AJ t A=A)->(∀t:St,RS.length+2<=t.up.length->AJ t b=b)->γ0<c9->O4 fr (RS.length+1) BE γ0 (some (.normal,⟨c9,fr9,⟨A::(RS++b::Lq::(Y++[loc])),own⟩⟩))=some (.bool true,⟨c9,fr,⟨A::(RS++((BE,γ0,.loop fr0 [16] (JA 37) G7 58 .ready)::b)::Lq::Y),loc⟩⟩):=fun A b own c9 fr9 hb hA hbs h9=>by
  rw[QY (fr0:=fr0) (ps:=[16]) (asg:=(JA 37)) (body:=G7) (N:=58) (hg1 A b (Lq::(Y++[loc])) own _ (by simp) hb) (hun _ _) (by simp) h9];have s1:=hsp ⟨A::(RS++b::Lq::(Y++[loc])),own⟩ (by simp<;>omega);have s2:=hbs ⟨A::(RS++b::Lq::(Y++[loc])),own⟩ (by simp<;>omega);have s3:=hA ⟨A::(RS++b::Lq::(Y++[loc])),own⟩ (by simp);have hne:¬RS.length=RS.length+(Y.length+1+1):=by omega
  simp[s1.1,s1.2.1,s1.2.2.1,s1.2.2.2,s2,s3,hset,hne,St.put,AA.put]
 have hpB:∀(A:AA) (Z:List AA) (lo:AA),Z≠[]->St.put ⟨A::(RS++Ly::Z),lo⟩ (RS.length+1) BE γ0 (.loop fr0 [16] (JA 37) G7 58 .busy)=⟨A::(RS++Lb::Z),lo⟩:=fun A Z lo hz=>by
  have:¬RS.length+1=(A::(RS++Ly::Z)).length:=by
   cases Z with
   |nil=>exact absurd rfl hz
   |cons z Z=>simp
  unfold St.put;rw[if_neg this];simp[hset,AA.put,hLbe]
 obtain⟨fr7,Ly2,c2,i1,i2,h3,h4,h6,q7⟩:=AO7 o hol v L1 Lq RS (Y++[loc]) (by
  rcases hv with⟨rfl,rfl⟩|⟨γr,es,rfl,v2,v3,v4,v5,v6⟩
  ·exact .inl ⟨rfl,rfl⟩
  ·exact .inr ⟨γr,es,rfl,v2,v3,v4⟩) g2 g3 g4 c1 (CM (EV c (AV c) o)) (fun _ _ _ _=>rfl) Lb o.length 0 (c1+1) _ (by omega) (hLb.more (by omega:cc<=c1+1)).emptied (by omega)
 have q7:=fun n m=>q7 n (m+100) (by omega)
 have hLt:=(hLb.more (by omega:cc<=c1+1)).taken i2 (s:=EV c (AV c) o) i1
 have hlv:v=.nil/\o=[]\/∃q γr,v=.vec q 921 γr o.length:=by
  rcases hv with h|⟨γr,es,h,_⟩
  ·exact .inl h
  ·exact .inr ⟨_,_,h⟩
 have hg34:g3<c2/\g4<c2:=by omega
 have hY3:=(i1.ot 3 (by decide) (by decide)).trans q3
 have hY4:=(i1.ot 4 (by decide) (by decide)).trans q4
 have hg2c:g2<c1+1:=by omega
 have hfT:=fun own fr9=>hfin L1 _ own c2 fr9 hLt.pr r1.st hLt.st (by omega)
 cases hacc:a with
 |none=>
  subst hacc
  have hstep:EL c (AV c) none o=some (o,EV c (AV c) o):=rfl
  simp only[hstep]
  refine⟨L1,_,c2,r1,⟨_,rfl,rfl,hLt.loop⟩,by omega,fun n=>?_⟩
  rw[UC (hg1 _ _ _ _ _ (by simp) hLy.pr) rfl h0c]
  simp only[JK,Fr.put]
  simp[f1,f2,f3,f4]
  rw[G4 (fr0:=fr0) (ps:=[16]) (asg:=(JA 37)) (body':=G7) (N:=58) (hg1 _ _ _ _ _ (by simp) hLy.pr) h0c]
  generalize EV c (AV c) o=S at *
  rw[hpB _ _ _ (by simp)]
  simp only[CM,cF,List.take_zero,bk]at hcb q3 q7 hfT hY3
  rcases hlv with⟨rfl,rfl⟩|⟨q,γr,rfl⟩
  ·simp at q7;simp[hcb,hat,hset,q1,q3,q4,b3,dE,dF,OA,dG,DJ,AW,hg2c,q7,h3,h4,h6,hg34,hY3,hY4,hfT,CM]
  ·simp at q7;simp[hcb,hat,hset,q1,q3,q4,b3,dE,dF,OA,dG,DJ,AW,hg2c,q7,h3,h4,h6,hg34,hY3,hY4,hfT,CM]
 |some bt=>
  obtain⟨b,t⟩:=bt
  subst hacc
  by_cases hcond:(EV c (AV c) o).sun<t.sun\/((EV c (AV c) o).sun=t.sun/\t.carried<=(EV c (AV c) o).carried)
  ·have hstep:EL c (AV c) (some (b,t)) o=some (b,t):=if_pos hcond;simp only[hstep];refine⟨L1,RS++[(BE,γ0,.loop fr0 [16] (JA 37) G7 58 .ready)::Lb],c1+1,r1,⟨_,rfl,rfl,(hLb.more (by omega)).loop⟩,by omega,fun n=>?_⟩;rw[UC (hg1 _ _ _ _ _ (by simp) hLy.pr) rfl h0c];simp only[JK,Fr.put];simp[f1,f2,f3,f4];rw[G4 (fr0:=fr0) (ps:=[16]) (asg:=(JA 37)) (body':=G7) (N:=58) (hg1 _ _ _ _ _ (by simp) hLy.pr) h0c];generalize EV c (AV c) o=S at *;rw[hpB _ _ _ (by simp)];have hf:=fun own fr9=>hfin L1 Lb own (c1+1) fr9 hLb.pr r1.st hLb.st (by omega);simp only[CM,cF]at hcb q3;rcases hcond with h|⟨h,h2⟩
   ·simp[hwv,hcb,hat,hset,q1,q3,q4,dE,dF,OA,dG,DJ,AW,h,hf]
   ·have h3:¬S.sun<t.sun:=by omega
    simp[hwv,hcb,hat,hset,q1,q3,q4,dE,dF,OA,dG,DJ,AW,h3,h,h2,hf]
  ·have hstep:EL c (AV c) (some (b,t)) o=some (o,EV c (AV c) o):=if_neg hcond;simp only[hstep];refine⟨L1,_,c2,r1,⟨_,rfl,rfl,hLt.loop⟩,by omega,fun n=>?_⟩;rw[UC (hg1 _ _ _ _ _ (by simp) hLy.pr) rfl h0c];simp only[JK,Fr.put];simp[f1,f2,f3,f4];rw[G4 (fr0:=fr0) (ps:=[16]) (asg:=(JA 37)) (body':=G7) (N:=58) (hg1 _ _ _ _ _ (by simp) hLy.pr) h0c];generalize EV c (AV c) o=S at *;rw[hpB _ _ _ (by simp)];simp only[CM,cF,List.take_zero,bk]at hcb q3 q7 hfT hY3;have hA:¬S.sun<t.sun:=fun h=>hcond (.inl h);rcases hlv with⟨rfl,rfl⟩|⟨q,γr,rfl⟩
   ·simp at q7;by_cases hB:S.sun=t.sun
    ·have hC:¬t.carried<=S.carried:=fun h=>hcond (.inr ⟨hB,h⟩);simp[hcb,hat,hset,q1,q3,q4,b3,dE,dF,OA,dG,DJ,AW,hA,eq_true hB,hC,hg2c,q7,h3,h4,h6,hg34,hY3,hY4,hfT,CM]
    ·simp[hcb,hat,hset,q1,q3,q4,b3,dE,dF,OA,dG,DJ,AW,hA,hB,hg2c,q7,h3,h4,h6,hg34,hY3,hY4,hfT,CM]
   ·simp at q7;by_cases hB:S.sun=t.sun
    ·have hC:¬t.carried<=S.carried:=fun h=>hcond (.inr ⟨hB,h⟩);simp[hcb,hat,hset,q1,q3,q4,b3,dE,dF,OA,dG,DJ,AW,hA,eq_true hB,hC,hg2c,q7,h3,h4,h6,hg34,hY3,hY4,hfT,CM]
    ·simp[hcb,hat,hset,q1,q3,q4,b3,dE,dF,OA,dG,DJ,AW,hA,hB,hg2c,q7,h3,h4,h6,hg34,hY3,hY4,hfT,CM]
theorem AMD(c:AU)(s:List (List Int)):∀(ls:List (List Sp)) (acc:Option (List Sp×BW)),runG (fun acc l=>(EL c s acc l,true)) acc ls=(ls.foldl (EL c s) acc,true)
 |[],_=>rfl
 |l::ls,acc=>by simp only[runG,if_true,List.foldl_cons];exact AMD c s ls _
theorem ABT{P:Program}{E:XE}(d c:Nat)(fr:Fr)(s:St)(T:TypeId)(a:Nat):EG (some d) ⟨c,fr,s⟩ (NT P fr s T (.tmp a))=CX P E (some d) (.ld T (.tmp a)) ⟨c,fr,s⟩:=rfl
def fV(c:AU)(γ N cc:Nat)(gl:V):Fr:=[(15,true,fnS γ gl),(14,true,gl),(13,true,.agg (AE c)),(12,true,.ptr 0 911 (γ+1) 0),(11,true,.ptr 0 911 (γ+1) 0),(10,true,.ptr 0 911 (γ+1) 0),(9,true,.ptr 0 911 (γ+1) 0),(1,true,.ptr N 1 cc 0),(2,true,.ptr N 2 (cc+1) 0),(3,true,.ptr N 3 (cc+1+1) 0),(4,true,.ptr N 4 (cc+1+1+1) 0)]
theorem APA{c:AU}(hc:CW c){γ:Nat}{B:AA}(RS:List AA)(hst:E0 RS)(L:AA)(hL:Lw c γ B L)(cc:Nat)(hcc:γ+1<cc):∃L' c',Lw c γ B L'/\cc<=c' /\
  ∀n dd fr,bT cw (some dd) fr Tryz.f85.results.toList (AF cw ann kn (n+9000) 58 c85 ⟨cc,AD 0 [.ptr 0 911 (γ+1) 0],⟨L::RS,[]⟩⟩)=UG (some dd) fr c' (.tup [sl ((UQ (GO c)).map ED),.agg (CM (cF (GO c))),.bool (GO c).isSome]) (B5 (L'::RS)):=by
 have hgr:cE RS (BG c []) (sl ((BG c []).map CN)):=.inl rfl
 have hfl:=hc.fl
 have hgs:∀g∈BG c [],g.1<c.fams.length/\1<=g.2/\g.2<=4:=fun g hg=>Q5 hc [] _ (ck _) g hg
 have hgl:(BG c []).length<=9:=by rw[YD];omega
 have p1:=hL.p1
 have qG:=fun n=>tP n c (by omega) [] (by simp)
 let Ly0:AA:=[(1,cc,.box [.ptr 0 911 (γ+1) 0]),(2,cc+1,.box [.nil]),(3,cc+1+1,.box [i 0,i 0,.bool false]),(4,cc+1+1+1,.box [.bool false])]
 have hLy0st:∀t:St,RS.length+1<=t.up.length->AJ t Ly0=Ly0:=fun t ht=>by
  have e0:¬0=t.up.length:=by omega
  obtain⟨up,lo⟩:=t;simp only at e0;simp[Ly0,e0]
 have hst4:E0 (RS++[Ly0]):=FY hst fun t ht=>hLy0st t ht
 have q128:=fun n fr=>dL (c:=c) (γ:=γ) (B:=B) (gs:=BG c []) (gl:=sl ((BG c []).map CN)) (.inl rfl) L hL RS Ly0 (fun j g n h=>by
   cases hz:(BG c []).map CN <;> rw[hz]at h <;> simp[sl]at h) hst4 (cc+1+1+1+1) 15 fr n
 have hcG:∀f:Nat,AG (f+3) (sl ((BG c []).map CN))=true:=fun f=>by cases BG c []<;>simp[sl,CN]
 have hwG:weakV (sl ((BG c []).map CN))=sl ((BG c []).map CN):=by cases BG c []<;>simp[sl]
 have hclB:c.chairs.all ((fun e=>e.all (AG 7))∘AO)=true:=List.all_eq_true.2 fun x _=>by simp[AO,AZ]
 have hclF:c.fams.all ((fun e=>e.all (AG 7))∘AP)=true:=List.all_eq_true.2 fun x _=>by simp[AP]
 have hb12:Nat.beq 12 1=false:=rfl
 have hLy:AO8 γ RS cc (cc+1) (cc+1+1) (cc+1+1+1) (cc+1+1+1+1+2) (fV c γ (RS.length+1) cc (sl ((BG c []).map CN))) (cc+1+1+1+1+2+1) true none (RS++[(BE,cc+1+1+1+1+2,.loop (fV c γ (RS.length+1) cc (sl ((BG c []).map CN))) [16] (JA 37) G7 58 .ready)::Ly0]):=by refine⟨_,rfl,rfl,by simp[Ly0,BE],⟨0,by omega,by simp[Ly0,BE,UQ,pvl],fun h=>absurd rfl h⟩,by simp[Ly0,BE,cF,CM],by simp[Ly0,BE],by simp[BE],fun t ht=>?_,by omega⟩;rw[A4,hLy0st t (by omega)];rfl
 obtain⟨L',R',c',r1,r2,r3,r4⟩:=bK hc (BBM hgr hst) hgl hgs (AO9 hc hst (by simp[fV]) (by simp[fV]) (by simp[fV]) (by simp[fV])) none L RS _ hL hLy (by omega) (fV c γ (RS.length+1) cc (sl ((BG c []).map CN)))
 rw[AMD]at r2
 rw[show(P5 c (AV c) (BG c [])).foldl (EL c (AV c)) none=GO c from rfl]at r2
 obtain⟨Ly',rfl,_,hLy'⟩:=r2
 have hun:B5 (L'::(RS++[Ly']))=some (L'::RS,Ly'):=by have:=unsnoc_snoc Ly' (L'::RS);rwa [bj]at this
 rw[hun]at r4
 have r4:=fun n=>r4 (n+1495)
 refine⟨L',c',r1,by omega,fun n dd fr=>?_⟩
 have sL:=r1.st
 have sR1:∀(A lo:AA),RS.map (AJ ⟨A::RS,lo⟩)=RS:=fun A lo=>hst _ (by simp)
 generalize sl ((BG c []).map CN)=gl at *
 simp only[DH,AE,Ly0,li,bk]at p1 qG q128
 try simp at q128
 simp[c85,AD,p1,qG,q128,hcG,hwG,hclB,hclF,hb12,BH,BJ,A0,DJ,AW,NI]
 rw[P0 rfl]
 simp
 rw[show(Code.block 1 ((JA 149).seq (((JA 597).seq (Code.cond (Operand.tmp 41) (Code.exit 1) Code.skip)).seq ((JA 725).seq (((JA 2517).seq (Code.block 2 OI.loop)).seq (JA 2005))))))=G7 from rfl]
 have r4:=r4 n
 rw[show n+1495+1500+6000=n+8995 by omega]at r4
 simp only[fV,AE,Ly0,li]at r4|-
 simp only[r4]
 rw[show ∀fr0:Fr,UG none fr0 c' (.tup []) (some (L'::RS,Ly'))=some ⟨c',fr0,⟨L'::RS,Ly'⟩⟩ from fun _=>rfl]
 rw[UB (fr0:=fV c γ (RS.length+1) cc gl) (ps:=[16]) (asg:=(JA 37)) (body:=G7) (N:=58) (by simp[St.get];simpa using hLy'.pr) (by omega)]
 obtain⟨γ2,b1,b2,b3⟩:=hLy'.p2
 have y3:=hLy'.p3
 have y4:=hLy'.p4
 have hcs:∀x∈(UQ (GO c)).map ED,∀v∈x,AG 8 v=true:=fun x hx v hv=>by obtain⟨y,_,rfl⟩:=bn.1 hx;simp only[ED,cj,bm,or_false]at hv;rcases hv with rfl|rfl<;>rfl
 generalize (UQ (GO c)).map ED=O at *
 generalize cF (GO c)=S at *
 generalize (GO c).isSome=z at *
 simp only[CM]at y3|-
 cases O with
 |nil=>
  simp[St.put,AA.put,BE,MK,ABT (E:=BL cw ann kn 0),b2,y3,y4,A3X,iQ,sL,sR1]
 |cons x O=>
  have b3:=b3 (by simp)
  have hx:=hcs x (by simp)
  have hcO:=eq_true fun e he=>hcs e (List.mem_cons_of_mem x he)
  simp[St.put,AA.put,BE,MK,ABT (E:=BL cw ann kn 0),b2,b3,y3,y4,BEJ,rR,sL,sR1]
end Go.Proofs.Tryz.Op
namespace Go.Pg
def re4:Option V->Option V->Option V->Option V->Option V
 |some a,some b,some c,some d=>some (.tup [a,b,c,d])
 |_,_,_,_=>none
@[simp] theorem A0A(a b c d:V):re4 (some a) (some b) (some c) (some d)=some (.tup [a,b,c,d]):=rfl
@[simp] theorem AU5{P:Program}{fr:Fr}{s:St}(x y z w:ResultVar):F0 P [x,y,z,w] fr s=re4 (CR P fr s x) (CR P fr s y) (CR P fr s z) (CR P fr s w):=by
 unfold F0;simp only[List.mapM_cons,List.mapM_nil];cases CR P fr s x with
 |none=>rfl
 |some a=>cases CR P fr s y with
  |none=>rfl
  |some b=>cases CR P fr s z with
   |none=>rfl
   |some c=>cases CR P fr s w<;>rfl
end Go.Pg
namespace Go.Proofs.Tryz.Op
def lvW(c:AU)(p g:Nat):AA:=[(p,0,.box (AE c)),(910,g,.map []),(911,g+1,.box (DH c g))]
theorem APB(c:AU)(p g:Nat)(h:p<900):Lw c g (lvW c p g) (lvW c p g) where
 p0:=by
  have e:¬910=p:=by omega
  exact⟨[],⟨by simp,by simp,by simp⟩,by simp[lvW,e]⟩
 p1:=by
  have e:¬911=p:=by omega
  simp[lvW,e]
 st:=fun t ht=>by
  have e0:¬0=t.up.length:=by omega
  have hcE:∀l∈AV c,encA l=l.map fun x=>i x:=fun _ _=>rfl;have hA:∀f:Nat,AG (f+3) (.list false ((AV c).map encA))=true:=fun f=>by simp[encA]
  obtain⟨up,lo⟩:=t;simp only at e0;simp[lvW,DH,AE,AH,AM,AL,AO,AZ,AP,encA,e0,I0]
 ot:=fun _ _=>rfl
@[simp] theorem A0B:GL cw 85=false:=by kernel_rfl
theorem fW(n:Nat)(c:AU)(h40:∀l∈c.beach.winds,l.length<=40)(hch:c.chairs.length<=40):BA cw kn (AF cw ann kn (n+9600)) 33 [.agg (AE c)]=some (.tup [sl ((FU c).1.map AL),i (FU c).2.1,i (FU c).2.2.1,i (FU c).2.2.2]):=by
 rw[AR rfl,AS Tryz.func33 b33 rfl (by simp[AE,AH,AM,AL,AO,AZ,AP])];unfold FU;by_cases h:DE c=0
 ·rw[if_neg (by simp[h])];have hc:=HG h;obtain⟨g',hg,q⟩:=tM c hc [(1,0,.box (AE c))] (fun t _=>tN c 1 0 t) 1 11 [(10,true,.agg (AE c)),(1,true,.ptr 0 1 0 0)];have q:=fun n=>q (n+1596);obtain⟨L',c',r1,r2,r3⟩:=APA hc [] (fun _ _=>rfl) (lvW c 1 2) (APB c 1 2 (by omega)) g' (by omega);have hcb:=fun n fr=>(A5 (A:=ann) (kn:=kn) (n:=n+9000) Tryz.func85 b85 rfl (args:=[.ptr 0 911 (2+1) 0]) (by simp) (some 19) g' fr [] (lvW c 1 2)).trans (r3 n 19 fr);have sL:=r1.st;have q1:L'.get 1=some (0,.box (AE c)):=r1.ot 1 (by decide);have o7:L'.get 7=none:=r1.ot 7 (by decide);have o11:L'.get 11=none:=r1.ot 11 (by decide);have o19:L'.get 19=none:=r1.ot 19 (by decide);obtain⟨T,_,z910⟩:=r1.p0;have z911:=r1.p1;have hsp:(UQ (GO c)).map ED=((UQ (GO c)).map spt).map AL:=by rw[List.map_map];rfl
  rw[hsp]at hcb;have hcE:∀(f:Nat) (l:List (Int×Int)),AG (f+3) (sl (l.map AL))=true:=fun f l=>by cases l<;>simp[sl,AL]
  have hwE:∀l:List (Int×Int),weakV (sl (l.map AL))=sl (l.map AL):=fun l=>by cases l<;>simp[sl]
  cases hO:GO c with
  |none=>
   rw[hO]at hcb
   simp only[UQ,cF,Option.isSome_none,bk,iQ,CM,lvW,DH,AE,bp]at hcb q q1|-
   simp at hcb
   simp[c33,AD,AO,AZ,AP,q,hcb,sL,q1,o7,o11,o19,z910,z911]
   done
  |some bt=>
   obtain⟨b,t⟩:=bt
   rw[hO]at hcb
   simp only[UQ,cF,Option.isSome_some,CM,lvW,DH,AE,bp]at hcb q q1|-
   have hBB:∀x∈(b.map spt).map AL,∀v∈x,AG 7 v=true:=fun x hx v hv=>by obtain⟨y,_,rfl⟩:=bn.1 hx;simp only[AL,cj,bm,or_false]at hv;rcases hv with rfl|rfl<;>rfl
   generalize (b.map spt).map AL=BB at *
   simp at hcb
   simp[c33,AD,AO,AZ,AP,q,hcb,sL,q1,o7,o11,o19,z910,z911]
   exact hBB
 ·rw[if_pos h];have q:=YC c h40 hch h [(1,0,.box (AE c))] (fun t _=>tN c 1 0 t) 1 11 [(10,true,.agg (AE c)),(1,true,.ptr 0 1 0 0)];have q:=fun n=>q (n+1596);generalize DE c=E at *;simp only[AE,Nat.add_assoc,bp,bk,iQ]at q|-;simp[c33,AD,AO,AZ,AP,q,h]
end Go.Proofs.Tryz.Op
