/- A case without some families: it stays valid, its best seating is there just if the groups left can be seated. Plain law of SeatLeft and SeatParted. No program. -/
import Derived.Test.YthhdhbalenanjaaGreatA2
open Bool renaming and_eq_true->bj
set_option maxRecDepth 100000
open Go Go.Pg Go.Proofs Go.Wind
namespace Go.Proofs.Tryz.Op
end Go.Proofs.Tryz.Op
namespace Go.Wind
def wV(b:AK)(s:Int×Int)(re:Int):AK:={ b with breaks:=b.breaks++[s],reach:=re }
theorem mW{b:AK}(hb:Valid b)(h3:b.breaks.length<=3){s:Int×Int}(hs:D5 b s=true){re:Int}(hr:0<=re/\re<=4):Valid (wV b s re):=by obtain⟨la,ro,pl,_,_,no,fa,su,wi,fd,sd,wo,bo,nok⟩:=hb;refine⟨la,ro,pl,hr,by simp[wV];omega,no,fa,su,wi,fd,sd,wo,?_,nok⟩;simp only[wV,List.all_append,List.all_cons,List.all_nil,Bool.and_true,bj];exact⟨bo,hs⟩
end Go.Wind
namespace Go.Proofs.Tryz.Op
def B7(c:AM)(s:Int×Int):AM:={ c with beach:=wV c.beach s c.beach.reach }
theorem ZP{c:AM}(h:DT c=0)(h3:c.beach.breaks.length<=3){s:Int×Int}(hs:D5 c.beach s=true):DT (B7 c s)=0:=by
 have hc:=F1 h;have hfl:=hc.fl;have hv:=mW hc.be h3 hs (re:=c.beach.reach) hc.be.re;have hb:=MK hv;have h6:c.fams.all IB=true:=List.all_eq_true.2 fun f hf=>by have:=hc.fo f hf;simp only[IB,bj,C6];exact this
 have h5:E2 c=true:=by simp only[E2,bj,decide_eq_true_eq,List.all_eq_true];exact⟨hc.ch,hc.cr⟩
 unfold DT;rw[if_neg (show ¬3<(B7 c s).fams.length from by show ¬3<c.fams.length;omega),if_neg (show ¬DU (B7 c s).beach≠0 from fun hh=>hh hb),if_neg (show ¬D6 (B7 c s).beach (B7 c s).plan=false from by show ¬D6 c.beach c.plan=false;rw[hc.pl];decide),if_neg (show ¬BK (B7 c s).beach=[] from hc.tr),if_neg (show ¬E2 (B7 c s)=false from by show ¬E2 c=false;rw[h5];decide),if_neg (show ¬(B7 c s).fams.all IB=false from by show ¬c.fams.all IB=false;rw[h6];decide)]
abbrev ON:=Option ((Int×Int)×B5)
def C0(c:AM)(acc:ON)(s:Int×Int):ON:=match GA (B7 c s)with
 |none=>acc
 |some q=>match acc with
  |none=>some (s,q.2)
  |some a=>if a.2.sun<q.2.sun then some (s,q.2) else some a
def LK(c:AM)(st:ON×List (List Int))(s:Int×Int):ON×List (List Int) :=
 if (st.1.isSome&&decide (AV (B7 c s)=st.2))=true then st else(C0 c st.1 s,AV (B7 c s))
def KB(c:AM)(r:Nat):Nat->Nat->ON×List (List Int)->ON×List (List Int)
 |0,_,st=>st
 |d+1,p,st=>KB c r d (p+1) (LK c st ((r:Int),(p:Int)))
def V8(c:AM):Nat->Nat->ON×List (List Int)->ON×List (List Int)
 |0,_,st=>st
 |d+1,r,st=>V8 c d (r+1) (KB c r c.beach.places.toNat 0 st)
def OS(c:AM):ON:=(V8 c c.beach.rows.toNat 0 (none,AV c)).1
def ZQ(c:AM):(Int×Int)×Int×Int:=if DT c≠0 then((0,0),0,DT c) else if 4<=c.beach.breaks.length then((0,0),0,9) else match OS c with
 |some a=>(a.1,a.2.sun,0)
 |none=>((0,0),0,10)
def APR(c:AM)(S:List (List Int)):Option (List Sp×B5):=wM c S (YP c S (AP c []))
theorem ZR(c:AM)(s:Int×Int)(S:List (List Int)):∀(gs:List (Nat×Int)) (out:List Sp),EW (B7 c s) S gs out=EW c S gs out
 |[],_=>rfl
 |g::gs,out=>by simp only[EW];refine ZK fun r _=>ZK fun p _=>?_;rw[ZR c s S gs];rfl
theorem AD8(c:AM)(s:Int×Int)(S:List (List Int))(gs:List (Nat×Int)):YP (B7 c s) S gs=YP c S gs:=by unfold YP;rw[ZR];rfl
theorem gE(c:AM)(s:Int×Int):GA (B7 c s)=APR c (AV (B7 c s)):=by unfold GA APR;rw[AD8];rfl
def M0(c:AM)(r:Nat):Nat->Nat->ON->ON
 |0,_,a=>a
 |d+1,p,a=>M0 c r d (p+1) (C0 c a ((r:Int),(p:Int)))
def V9(c:AM):Nat->Nat->ON->ON
 |0,_,a=>a
 |d+1,r,a=>V9 c d (r+1) (M0 c r c.beach.places.toNat 0 a)
def WA(c:AM)(st:ON×List (List Int)):Prop:=st.1.isSome=true->∀s,AV (B7 c s)=st.2->C0 c st.1 s=st.1
theorem jT(c:AM)(a:ON)(s s':Int×Int)(h:AV (B7 c s')=AV (B7 c s)):C0 c (C0 c a s) s'=C0 c a s:=by
 have e:GA (B7 c s')=GA (B7 c s):=by rw[gE,gE,h]
 unfold C0;rw[e];cases GA (B7 c s)with
 |none=>rfl
 |some q=>
  cases a with
  |none=>simp
  |some a=>
   by_cases h1:a.2.sun<q.2.sun
   ·simp[h1]
   ·simp[h1]
theorem AA6{c:AM}{st:ON×List (List Int)}(h:WA c st)(s:Int×Int):(LK c st s).1=C0 c st.1 s/\WA c (LK c st s):=by
 unfold LK;by_cases hz:(st.1.isSome&&decide (AV (B7 c s)=st.2))=true
 ·rw[if_pos hz];rw[bj,decide_eq_true_eq]at hz;exact⟨(h hz.1 s hz.2).symm,h⟩
 ·rw[if_neg hz];exact⟨rfl,fun _ s' hs=>jT c st.1 s s' hs⟩
theorem wW{c:AM}(r:Nat):∀(d p:Nat) (st:ON×List (List Int)),WA c st->(KB c r d p st).1=M0 c r d p st.1/\WA c (KB c r d p st)
 |0,_,_,h=>⟨rfl,h⟩
 |d+1,p,st,h=>by obtain⟨h1,h2⟩:=AA6 h ((r:Int),(p:Int));have:=wW r d (p+1) _ h2;rw[h1]at this;exact this
theorem wX{c:AM}:∀(d r:Nat) (st:ON×List (List Int)),WA c st->(V8 c d r st).1=V9 c d r st.1/\WA c (V8 c d r st)
 |0,_,_,h=>⟨rfl,h⟩
 |d+1,r,st,h=>by obtain⟨h1,h2⟩:=wW r c.beach.places.toNat 0 st h;have:=wX d (r+1) _ h2;rw[h1]at this;exact this
theorem gF(c:AM):OS c=V9 c c.beach.rows.toNat 0 none:=(wX _ _ _ (fun h=>by cases h)).1
end Go.Proofs.Tryz.Op
