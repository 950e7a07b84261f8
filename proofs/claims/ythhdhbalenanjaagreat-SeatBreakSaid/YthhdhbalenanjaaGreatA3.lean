/- A case without some families: it stays valid, its best seating is there just if the groups left can be seated. Plain law of SeatLeft and SeatParted. No program. -/
import Derived.Test.YthhdhbalenanjaaGreatA2
open Bool renaming and_eq_true->bj
set_option maxRecDepth 100000
open Go Go.Pg Go.Proofs Go.Wind
namespace Go.Proofs.Tryz.Op
end Go.Proofs.Tryz.Op
namespace Go.Wind
def IH(b:AK)(s:Int×Int)(re:Int):AK:={ b with breaks:=b.breaks++[s],reach:=re }
theorem jD{b:AK}(hb:Valid b)(h3:b.breaks.length<=3){s:Int×Int}(hs:DU b s=true){re:Int}(hr:0<=re/\re<=4):Valid (IH b s re):=by obtain⟨la,ro,pl,_,_,no,fa,su,wi,fd,sd,wo,bo,nok⟩:=hb;refine⟨la,ro,pl,hr,by simp[IH];omega,no,fa,su,wi,fd,sd,wo,?_,nok⟩;simp only[IH,List.all_append,List.all_cons,List.all_nil,Bool.and_true,bj];exact⟨bo,hs⟩
theorem wK{b:AK}{s q:Int×Int}{re f w:Int}(hr:b.reach<=re)(h:P6 b q f w=true):P6 (IH b s re) q f w=true:=by
 simp only[P6,Bool.or_eq_true,XH,List.any_eq_true]at h|-;rcases h with h|⟨k,k1,k2⟩
 ·exact .inl h
 ·refine .inr ⟨k,by simp[IH,k1],?_⟩;rw[DT]at k2|-;exact⟨k2.1,by simp only[IH];omega⟩
theorem oO{b:AK}{s:Int×Int}{re:Int}(hr:b.reach<=re)(plan:List (List Int))(t:List Int)(r p:Nat):(D5 b plan t r p).calm<=(D5 (IH b s re) plan t r p).calm/\(D5 b plan t r p).good<=(D5 (IH b s re) plan t r p).good/\(D5 (IH b s re) plan t r p).sun=(D5 b plan t r p).sun:=by
 have hc:∀h,JY b plan t r p h=true->JY (IH b s re) plan t r p h=true:=fun h=>wK hr;have h1:=Y2 (n:=t.length) fun i _=>hc i;have h2:=Y2 (f:=fun h=>QR b plan r h&&JY b plan t r p h) (g:=fun h=>QR b plan r h&&JY (IH b s re) plan t r p h) (n:=t.length) (fun h _ hh=>by
  simp only[bj]at hh |-;exact⟨hh.1,hc h hh.2⟩)
 have e1:(D5 b plan t r p).calm=((jV (JY b plan t r p) t.length:Nat):Int):=rfl;have e2:(D5 (IH b s re) plan t r p).calm=((jV (JY (IH b s re) plan t r p) t.length:Nat):Int):=rfl;have e3:(D5 b plan t r p).good=((jV (fun h=>QR b plan r h&&JY b plan t r p h) t.length:Nat):Int):=rfl;have e4:(D5 (IH b s re) plan t r p).good=((jV (fun h=>QR b plan r h&&JY (IH b s re) plan t r p h) t.length:Nat):Int):=rfl;exact⟨by omega,by omega,rfl⟩
end Go.Wind
namespace Go.Proofs.Tryz.Op
def BD(c:AP)(s:Int×Int):AP:={ c with beach:=IH c.beach s c.beach.reach }
theorem X9{c:AP}(h:CZ c=0)(h3:c.beach.breaks.length<=3){s:Int×Int}(hs:DU c.beach s=true):CZ (BD c s)=0:=by
 have hc:=GR h;have hfl:=hc.fl;have hv:=jD hc.be h3 hs (re:=c.beach.reach) hc.be.re;have hb:=JW hv;have h6:c.fams.all HZ=true:=List.all_eq_true.2 fun f hf=>by have:=hc.fo f hf;simp only[HZ,bj,DT];exact this
 have h5:EN c=true:=by simp only[EN,bj,decide_eq_true_eq,List.all_eq_true];exact⟨hc.ch,hc.cr⟩
 unfold CZ;rw[if_neg (show ¬3<(BD c s).fams.length from by show ¬3<c.fams.length;omega),if_neg (show ¬DJ (BD c s).beach≠0 from fun hh=>hh hb),if_neg (show ¬DV (BD c s).beach (BD c s).plan=false from by show ¬DV c.beach c.plan=false;rw[hc.pl];decide),if_neg (show ¬CE (BD c s).beach=[] from hc.tr),if_neg (show ¬EN (BD c s)=false from by show ¬EN c=false;rw[h5];decide),if_neg (show ¬(BD c s).fams.all HZ=false from by show ¬c.fams.all HZ=false;rw[h6];decide)]
theorem AG7{c:AP}(hc:BZ c){s:Int×Int}(hx:BZ (BD c s)):LeS c (AN c) (AN (BD c s)):=fun r p hr hp=>by rw[jC hc hr hp,jC hx hr hp];have h1:=X6 hc r p;have h2:=X6 hx r p;obtain⟨t,ht,e⟩:=h2.at';have:=h1.le t ht;have h3:=(oO (b:=c.beach) (s:=s) (re:=c.beach.reach) (Int.le_refl _) c.plan t r p).2.1;have e2:(D5 (IH c.beach s c.beach.reach) c.plan t r p).good=dA (BD c s) r p:=e;omega
theorem jE{c:AP}(hc:BZ c){s:Int×Int}(hx:BZ (BD c s))(gs:List (Nat×Int)):Eas c (BD c s) (AN c) (AN (BD c s)) gs id where
 ro:=rfl
 pl:=rfl
 su:=AG7 hc hx
 go:=fun _ _=>Int.le_refl _
 mi:=fun _ _ _ _ e=>e
 ch:=Nat.le_refl _
abbrev OZ:=Option ((Int×Int)×BJ)
def DS(c:AP)(acc:OZ)(s:Int×Int):OZ:=match ED (BD c s)with
 |none=>acc
 |some q=>match acc with
  |none=>some (s,q.2)
  |some a=>if a.2.sun<q.2.sun then some (s,q.2) else some a
def KZ(c:AP)(st:OZ×List (List Int))(s:Int×Int):OZ×List (List Int) :=
 if (st.1.isSome&&decide (AN (BD c s)=st.2))=true then st else(DS c st.1 s,AN (BD c s))
def JQ(c:AP)(r:Nat):Nat->Nat->OZ×List (List Int)->OZ×List (List Int)
 |0,_,st=>st
 |d+1,p,st=>JQ c r d (p+1) (KZ c st ((r:Int),(p:Int)))
def UK(c:AP):Nat->Nat->OZ×List (List Int)->OZ×List (List Int)
 |0,_,st=>st
 |d+1,r,st=>UK c d (r+1) (JQ c r c.beach.places.toNat 0 st)
def YA(c:AP):OZ:=(UK c c.beach.rows.toNat 0 (none,AN c)).1
def YB(c:AP):(Int×Int)×Int×Int:=if CZ c≠0 then((0,0),0,CZ c) else if 4<=c.beach.breaks.length then((0,0),0,9) else match YA c with
 |some a=>(a.1,a.2.sun,0)
 |none=>((0,0),0,10)
def ALP(c:AP)(S:List (List Int)):Option (List Sp×BJ):=XW c S (L7 c S (BA c []))
theorem YC(c:AP)(s:Int×Int)(S:List (List Int)):∀(gs:List (Nat×Int)) (out:List Sp),EI (BD c s) S gs out=EI c S gs out
 |[],_=>rfl
 |g::gs,out=>by simp only[EI];refine XV fun r _=>XV fun p _=>?_;rw[YC c s S gs];rfl
theorem AAY(c:AP)(s:Int×Int)(S:List (List Int))(gs:List (Nat×Int)):L7 (BD c s) S gs=L7 c S gs:=by unfold L7;rw[YC];rfl
theorem dB(c:AP)(s:Int×Int):ED (BD c s)=ALP c (AN (BD c s)):=by unfold ED ALP;rw[AAY];rfl
def AAZ(c:AP)(r:Nat):Nat->Nat->OZ->OZ
 |0,_,a=>a
 |d+1,p,a=>AAZ c r d (p+1) (DS c a ((r:Int),(p:Int)))
def AA0(c:AP):Nat->Nat->OZ->OZ
 |0,_,a=>a
 |d+1,r,a=>AA0 c d (r+1) (AAZ c r c.beach.places.toNat 0 a)
def UL(c:AP)(st:OZ×List (List Int)):Prop:=st.1.isSome=true->∀s,AN (BD c s)=st.2->DS c st.1 s=st.1
theorem fJ(c:AP)(a:OZ)(s s':Int×Int)(h:AN (BD c s')=AN (BD c s)):DS c (DS c a s) s'=DS c a s:=by
 have e:ED (BD c s')=ED (BD c s):=by rw[dB,dB,h]
 unfold DS;rw[e];cases ED (BD c s)with
 |none=>rfl
 |some q=>
  cases a with
  |none=>simp
  |some a=>
   by_cases h1:a.2.sun<q.2.sun
   ·simp[h1]
   ·simp[h1]
theorem wL{c:AP}{st:OZ×List (List Int)}(h:UL c st)(s:Int×Int):(KZ c st s).1=DS c st.1 s/\UL c (KZ c st s):=by
 unfold KZ;by_cases hz:(st.1.isSome&&decide (AN (BD c s)=st.2))=true
 ·rw[if_pos hz];rw[bj,decide_eq_true_eq]at hz;exact⟨(h hz.1 s hz.2).symm,h⟩
 ·rw[if_neg hz];exact⟨rfl,fun _ s' hs=>fJ c st.1 s s' hs⟩
theorem sV{c:AP}(r:Nat):∀(d p:Nat) (st:OZ×List (List Int)),UL c st->(JQ c r d p st).1=AAZ c r d p st.1/\UL c (JQ c r d p st)
 |0,_,_,h=>⟨rfl,h⟩
 |d+1,p,st,h=>by obtain⟨h1,h2⟩:=wL h ((r:Int),(p:Int));have:=sV r d (p+1) _ h2;rw[h1]at this;exact this
theorem sW{c:AP}:∀(d r:Nat) (st:OZ×List (List Int)),UL c st->(UK c d r st).1=AA0 c d r st.1/\UL c (UK c d r st)
 |0,_,_,h=>⟨rfl,h⟩
 |d+1,r,st,h=>by obtain⟨h1,h2⟩:=sV r c.beach.places.toNat 0 st h;have:=sW d (r+1) _ h2;rw[h1]at this;exact this
theorem wM(c:AP):YA c=AA0 c c.beach.rows.toNat 0 none:=(sW _ _ _ (fun h=>by cases h)).1
def NN(c:AP)(a:OZ)(s:Int×Int):Prop:=∀q,ED (BD c s)=some q->∃b,a=some b/\q.2.sun<=b.2.sun
theorem wN(c:AP)(a:OZ)(s:Int×Int):NN c (DS c a s) s:=fun q hq=>by
 unfold DS;rw[hq];cases a with
 |none=>exact⟨_,rfl,Int.le_refl _⟩
 |some a=>
  by_cases h:a.2.sun<q.2.sun
  ·exact⟨(s,q.2),if_pos h,Int.le_refl _⟩
  ·exact⟨a,if_neg h,by omega⟩
theorem NN.step{c:AP}{a:OZ}{s:Int×Int}(h:NN c a s)(s':Int×Int):NN c (DS c a s') s:=fun q hq=>by
 obtain⟨b,rfl,hb⟩:=h q hq;unfold DS;cases ED (BD c s')with
 |none=>exact⟨b,rfl,hb⟩
 |some q'=>
  by_cases h:b.2.sun<q'.2.sun
  ·exact⟨(s',q'.2),if_pos h,by show q.2.sun<=q'.2.sun;omega⟩
  ·exact⟨b,if_neg h,hb⟩
theorem NN.inn{c:AP}{s:Int×Int}(r:Nat):∀(d p:Nat) (a:OZ),NN c a s->NN c (AAZ c r d p a) s
 |0,_,_,h=>h
 |d+1,p,_,h=>NN.inn r d (p+1) _ (h.step _)
theorem NN.out{c:AP}{s:Int×Int}:∀(d r:Nat) (a:OZ),NN c a s->NN c (AA0 c d r a) s
 |0,_,_,h=>h
 |d+1,r,_,h=>NN.out d (r+1) _ (h.inn r _ _)
theorem sX{c:AP}(r p0:Nat):∀(d p:Nat) (a:OZ),p<=p0->p0<p+d->NN c (AAZ c r d p a) ((r:Int),(p0:Int))
 |0,p,_,h1,h2=>by omega
 |d+1,p,a,h1,h2=>by
  by_cases e:p=p0
  ·subst e;exact NN.inn r d (p+1) _ (wN c a _)
  ·exact sX r p0 d (p+1) _ (by omega) (by omega)
theorem sZ{c:AP}(r0 p0:Nat)(hp:p0<c.beach.places.toNat):∀(d r:Nat) (a:OZ),r<=r0->r0<r+d->NN c (AA0 c d r a) ((r0:Int),(p0:Int))
 |0,r,_,h1,h2=>by omega
 |d+1,r,a,h1,h2=>by
  by_cases e:r=r0
  ·subst e;exact NN.out d (r+1) _ (sX r p0 _ 0 _ (Nat.zero_le _) (by omega))
  ·exact sZ r0 p0 hp d (r+1) _ (by omega) (by omega)
theorem wO{c:AP}{r p:Nat}(hr:(r:Int)<c.beach.rows)(hp:(p:Int)<c.beach.places):NN c (YA c) ((r:Int),(p:Int)):=by rw[wM];exact sZ r p (by omega) _ 0 _ (Nat.zero_le _) (by omega)
end Go.Proofs.Tryz.Op
