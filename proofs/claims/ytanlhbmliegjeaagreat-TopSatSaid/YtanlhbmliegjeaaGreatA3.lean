/- TopSat: families sit at places apart: together they have no more than all places have. No program. -/
import Derived.Test.YtanlhbmliegjeaaGreatA2
open Int renaming toNat_of_nonneg->bj,le_refl->bx
open List renaming map_congr_left->bq,getElem?_range->bw
set_option maxRecDepth 100000
open Go Go.Pg Go.Proofs Go.Wind
namespace Go.Proofs.Tryz.Op
def bQ(g:Nat->Nat->Int)(x:Sp):Int:=BZ (fun q=>g x.row.toNat (x.place.toNat+q)) x.size.toNat
def oX(g:Nat->Nat->Int)(R P:Nat):Int:=BZ (fun r=>BZ (g r) P) R
def tL(x:Sp)(r p:Nat):Bool:=decide (x.row.toNat=r/\x.place.toNat<=p/\p<x.place.toNat+x.size.toNat)
theorem LA{f:Nat->Int}:∀{n:Nat},(∀i,0<=f i)->0<=BZ f n
 |0,_=>bx 0
 |n+1,h=>by have:=LA (n:=n) h;have:=h n;simp only[BZ];omega
theorem jM{f:Nat->Int}{k:Nat}(h:∀i,0<=f i):∀{n:Nat},k<n->f k<=BZ f n
 |0,hk=>by omega
 |n+1,hk=>by
  have h1:=h n;have h2:=LA (n:=n) h;simp only[BZ];by_cases e:k=n
  ·subst e;omega
  ·have:=jM (n:=n) h (show k<n by omega);omega
theorem TJ{f:Nat->Int}{a:Nat}(h:∀i,0<=f i):∀{n m:Nat},a+m<=n->BZ (fun q=>f (a+q)) m<=BZ f n
 |n,0,_=>LA h
 |0,m+1,hm=>by omega
 |n+1,m+1,hm=>by
  have h1:=h n;by_cases e:a+m=n
  ·have:=TJ (a:=a) h (n:=n) (m:=m) (by omega);simp only[BZ];rw[e];omega
  ·have:=TJ (a:=a) h (n:=n) (m:=m+1) (by omega);simp only[BZ]at this|-;omega
theorem cW{R P:Nat}:∀(l:List Sp) (g:Nat->Nat->Int),(∀r p,0<=g r p)->(∀x∈l,x.row.toNat<R/\x.place.toNat+x.size.toNat<=P)->l.Pairwise (fun y x=>∀r p,tL x r p=true->tL y r p=true->False)->(l.map (bQ g)).sum<=oX g R P
 |[],g,h0,_,_=>LA fun r=>LA (h0 r)
 |x::l,g,h0,hf,hd=>by
  rw[List.pairwise_cons]at hd;obtain⟨x1,x2⟩:=hf x (by simp);let u:Nat->Nat->Int:=fun r p=>if tL x r p=true then 0 else g r p
  let v:Nat->Nat->Int:=fun r p=>if tL x r p=true then g r p else 0
  have u0:∀r p,0<=u r p:=fun r p=>by
   show 0<=if tL x r p=true then 0 else g r p
   split
   ·exact bx 0
   ·exact h0 r p
  have v0:∀r p,0<=v r p:=fun r p=>by
   show 0<=if tL x r p=true then g r p else 0
   split
   ·exact h0 r p
   ·exact bx 0
  have huv:∀r p,g r p=u r p+v r p:=fun r p=>by show g r p=(if tL x r p=true then 0 else g r p)+(if tL x r p=true then g r p else 0);split<;>omega
  have e1:oX g R P=oX u R P+oX v R P:=by unfold oX;rw[<-RU];refine D0 fun r _=>?_;rw[<-RU];exact D0 fun p _=>huv r p
  have e2:(l.map (bQ g)).sum=(l.map (bQ u)).sum:=by
   congr 1;refine bq fun y hy=>D0 fun q hq=>?_;show _=if tL x y.row.toNat (y.place.toNat+q)=true then 0 else g y.row.toNat (y.place.toNat+q)
   have hy2:tL y y.row.toNat (y.place.toNat+q)=true:=decide_eq_true ⟨rfl,Nat.le_add_right _ _,Nat.add_lt_add_left hq _⟩;rw[if_neg fun hx=>hd.1 y hy _ _ hy2 hx]
  have e3:bQ g x<=oX v R P:=by
   have h1:bQ g x=bQ v x:=D0 fun q hq=>by
    show _=if tL x x.row.toNat (x.place.toNat+q)=true then g x.row.toNat (x.place.toNat+q) else 0
    rw[if_pos];exact decide_eq_true ⟨rfl,Nat.le_add_right _ _,Nat.add_lt_add_left hq _⟩
   rw[h1];have h2:bQ v x<=BZ (v x.row.toNat) P:=TJ (v0 _) x2;have h3:BZ (v x.row.toNat) P<=oX v R P:=jM (f:=fun r=>BZ (v r) P) (fun r=>LA (v0 r)) x1;omega
  have ih:=cW l u u0 (fun y hy=>hf y (by simp[hy])) hd.2;rw[List.map_cons,List.sum_cons];omega
theorem oY{c:A0}{ss:List (Int×Int)}(hc:CJ c)(hs:FB c ss=true):(BF c ss).Pairwise (fun y x=>∀r p,tL x r p=true->tL y r p=true->False):=by
 obtain⟨_,h2⟩:=JN hc hs;simp only[FB,JM,Bool.and_eq_true,decide_eq_true_eq]at hs;have hp:=(cV.1 hs.2.1).2.2;refine List.Pairwise.imp_of_mem (fun {y x} hy hx h r p h3 h4=>?_) hp;have y1:=h2 y hy;have x1:=h2 x hx;simp only[tL,decide_eq_true_eq]at h3 h4;simp only[FA,wX,Bool.or_eq_true,Bool.and_eq_true,decide_eq_true_eq]at h;obtain⟨h5,h6,h7⟩:=h3;obtain⟨h8,h9,h10⟩:=h4;have hx:(x.place.toNat:Int)=x.place:=bj x1.2.2.1;have hy:(y.place.toNat:Int)=y.place:=bj y1.2.2.1;have hxs:(x.size.toNat:Int)=x.size:=bj (by omega);have hys:(y.size.toNat:Int)=y.size:=bj (by omega);have m1:max (x.place-y.place-y.size) (y.place-x.place-x.size)<0:=Int.max_lt.2 ⟨by omega,by omega⟩;rcases h with h|h|⟨h,_⟩
 ·exact h (by omega)
 ·exact absurd (of_decide_eq_true h) (Int.not_lt.2 (Int.le_of_lt m1))
 ·rw[of_decide_eq_true h]at m1;exact absurd m1 (Int.lt_irrefl 0)
theorem AHB{c:A0}{t:List Int}{r p:Nat}(hr:r<c.beach.rows.toNat)(hp:p<c.beach.places.toNat):(((JW c t).getD r []).getD p ⟨0,0,0⟩).good=(B7 c.beach c.plan t r p).good:=by simp[D6,P1,bw hr,bw hp]
theorem WX{c:A0}{ss:List (Int×Int)}(hc:CJ c)(hs:FB c ss=true)(t:List Int):(BF c ss).map (G4 (JW c t))=(BF c ss).map (bQ fun r p=>(B7 c.beach c.plan t r p).good):=by obtain⟨_,h2⟩:=JN hc hs;refine bq fun x hx=>D0 fun q hq=>?_;obtain⟨x1,x2,x3,x4,x5⟩:=h2 x hx;exact AHB (by omega) (by omega)
theorem tM{c:A0}{ss:List (Int×Int)}(hc:CJ c)(hs:FB c ss=true)(t:List Int):((BF c ss).map (G4 (JW c t))).sum<=fP c.beach c.plan t:=by obtain⟨_,h2⟩:=JN hc hs;rw[WX hc hs];refine cW (R:=c.beach.rows.toNat) (P:=c.beach.places.toNat) _ _ (fun r p=>(O5 c.beach c.plan t r p).2.2.2.2.1) (fun x hx=>?_) (oY hc hs);obtain⟨x1,x2,x3,x4,x5⟩:=h2 x hx;omega
theorem jN{c:A0}{ss:List (Int×Int)}(hc:CJ c)(hs:FB c ss=true){t:List Int}(ht:t∈BC c.beach):(EY c (AY c) (BF c ss)).sun<=((BF c ss).map (G4 (JW c t))).sum:=by
 obtain⟨_,h2⟩:=JN hc hs;rw[WX hc hs,oV];refine QF fun x hx=>QG fun q hq=>?_;obtain⟨x1,x2,x3,x4,x5⟩:=h2 x hx;have e1:x.row=(x.row.toNat:Int):=by omega
 have e2:x.place+(q:Int)=((x.place.toNat+q:Nat):Int):=by omega
 rw[e2,e1,jI hc (by omega) (by omega),Int.toNat_natCast];exact(jJ hc _ _).le t ht
theorem AHC{c:A0}(hc:CJ c){ss:List (Int×Int)}(hs:FB c ss=true):0<=(EY c (AY c) (BF c ss)).sun:=by
 obtain⟨_,h2⟩:=JN hc hs;rw[oV];have:(BF c ss).map (fun _=>(0:Int))=(BF c ss).map fun _=>(0:Int):=rfl;have h0:((BF c ss).map fun _=>(0:Int)).sum<=((BF c ss).map fun x=>(B5 c (AY c) x).sun).sum:=QF fun x hx=>by
  show(0:Int)<=BZ _ _;rw[<-TQ x.size.toNat];refine QG fun q hq=>?_;obtain⟨x1,x2,x3,x4,x5⟩:=h2 x hx;have e1:x.row=(x.row.toNat:Int):=by omega
  have e2:x.place+(q:Int)=((x.place.toNat+q:Nat):Int):=by omega
  rw[e2,e1,jI hc (by omega) (by omega)];exact(jK hc _ _).1
 have hz:∀l:List Sp,(l.map fun _=>(0:Int)).sum=0:=fun l=>by
  induction l with
  |nil=>rfl
  |cons a l ih=>rw[List.map_cons,List.sum_cons,ih];rfl
 rw[hz]at h0;exact h0
theorem AHD{c:A0}(h0:EQ c=0){q:List Sp×CD}(hb:KQ c=some q){t:List Int}(ht:t∈BC c.beach) :
  FB c (q.1.map iS)=true/\0<=q.2.sun/\q.2.sun<=(MJ c.beach (DZ c.beach) c.plan).1/\q.2.sun<=((BF c (q.1.map iS)).map (G4 (JW c t))).sum/\((BF c (q.1.map iS)).map (G4 (JW c t))).sum<=fP c.beach c.plan t/\(MJ c.beach (DZ c.beach) c.plan).1<=fP c.beach c.plan t/\fP c.beach c.plan t<=(MJ c.beach (DZ c.beach) c.plan).2:=by
 have hc:=K9 h0
 obtain⟨b,u⟩:=q
 obtain⟨g1,g2,_⟩:=wY (show ABC c (AY c) (fD c (AY c) (BT c []))=some (b,u) from hb)
 obtain⟨hs,hsp⟩:=AHA (AG9.1 g1)
 have ha:=PO hc.be (WV hc)
 obtain⟨hmin,hmax⟩:=xL hc.be ha (WF hc.pl)
 have hsun:u.sun=(EY c (AY c) (BF c (b.map iS))).sun:=by rw[hsp,g2]
 obtain⟨t0,ht0,e0⟩:=hmin.at'
 have a1:=jN hc hs ht0
 have a2:=tM hc hs t0
 have a3:=jN hc hs ht
 have a4:=tM hc hs t
 have a5:=AHC hc hs
 have a6:=hmin.le t ht
 have a7:=hmax.le t ht
 simp only
 rw[hsun]
 exact⟨hs,a5,by omega,a3,a4,a6,a7⟩
end Go.Proofs.Tryz.Op
