/- A case without some families: it stays valid, its best seating is there just if the groups left can be seated. Plain law of SeatLeft and SeatParted. No program. -/
import Derived.Test.YthhdhbalenanjaaGreatA2
open Bool renaming and_eq_true->bj
open List renaming getD_eq_getElem?_getD->bk,all_eq_true->bq,length_set->bw,mem_or_eq_of_mem_set->bx,count_cons->bz,getElem?_eq_some_iff->bc,getElem?_eq_getElem->bf,getElem?_set->bg,set_cons_zero->bm,set_cons_succ->bn
open Option renaming getD_some->bh
set_option maxRecDepth 100000
open Go Go.Pg Go.Proofs Go.Wind
namespace Go.Proofs.Tryz.Op
theorem jN{c:AU}{k:Nat}(hk:k<c.fams.length):DS c k∈c.fams:=by simp[DS,bf hk]
def RW(w:Nat)(f:QN):QN:=if w=0 then { f with good:=max 0 (f.good-1) } else if w=1 then { f with dog:=false } else { f with shy:=false }
def FL(c:AU)(k w:Nat):AU:={ c with fams:=c.fams.set k (RW w (DS c k)) }
def GG(c:AU)(r p:Nat):AU:={ c with chairs:=c.chairs.set r ((c.chairs.getD r []).set p true) }
theorem jO{c d:AU}(h:DE c=0)(hb:d.beach=c.beach)(hp:d.plan=c.plan)(h1:d.fams.length<=3)(h2:FB d=true)(h3:d.fams.all HF=true):DE d=0:=by have hc:=HG h;unfold DE;rw[if_neg (by omega),hb,hp,if_neg (by simp[MB hc.be]),if_neg (by simp[hc.pl]),if_neg hc.tr,if_neg (by simp[h2]),if_neg (by simp[h3])]
theorem oT(w:Nat)(f:QN):(RW w f).size=f.size:=by
 unfold RW;split
 ·rfl
 ·split<;>rfl
theorem X9(c:AU)(k w j:Nat)(hk:k<c.fams.length):DS (FL c k w) j=if j=k then RW w (DS c k) else DS c j:=by
 unfold DS FL;simp only[bk,bg];by_cases h:k=j
 ·subst h;simp[hk,DS]
 ·have h':¬j=k:=fun e=>h e.symm;simp[h,h']
theorem jP{c:AU}(h:DE c=0){k:Nat}(hk:k<c.fams.length)(w:Nat):DE (FL c k w)=0:=by
 have hc:=HG h;refine jO h rfl rfl (by show(c.fams.set k _).length<=3;rw[bw];exact hc.fl) ?_ ?_
 ·simp only[FB,bj,decide_eq_true_eq,bq];exact⟨hc.ch,hc.cr⟩
 ·refine bq.2 fun f hf=>?_;have hg:∀f∈c.fams,HF f=true:=fun f hf=>by have:=hc.fo f hf;simp only[HF,bj,D7];exact this
  rcases bx hf with hf|rfl
  ·exact hg f hf
  ·have:=hc.fo _ (jN hk);unfold RW;split
   ·simp only[HF,bj,D7];omega
   ·split<;>(simp only[HF,bj,D7];exact this)
theorem RY{c:AU}{k:Nat}(hk:k<c.fams.length)(w:Nat)(out:List Int):BG (FL c k w) out=BG c out:=by
 rw[J1,J1];rw[show(FL c k w).fams.length=c.fams.length from bw];refine List.map_congr_left fun j _=>?_;rw[X9 c k w j hk];by_cases h:j=k
 ·rw[if_pos h,oT,h]
 ·rw[if_neg h]
theorem dK{c:AU}(hc:CW c){k:Nat}(hk:k<c.fams.length)(w:Nat)(gs:List (Nat×Int)):Eas c (FL c k w) (AV c) (AV (FL c k w)) gs id where
 ro:=rfl
 pl:=rfl
 su:=LeS.rfl
 go:=fun g _=>by
  show(DS (FL c k w) g.1).good<=_;rw[X9 c k w _ hk];by_cases h:g.1=k
  ·rw[if_pos h,h];unfold RW;split
   ·have:=hc.fo _ (jN hk);show max 0 ((DS c k).good-1)<=(DS c k).good;omega
   ·split<;>exact Int.le_refl _
  ·rw[if_neg h];exact Int.le_refl _
 mi:=fun a _ b _=>by
  show RP (FL c k w) a.1 b.1=true->_;have hs:∀j,((DS (FL c k w) j).shy=true->(DS c j).shy=true)/\((DS (FL c k w) j).dog=true->(DS c j).dog=true):=fun j=>by
   rw[X9 c k w _ hk];by_cases h:j=k
   ·rw[if_pos h,h];unfold RW;split
    ·exact⟨fun h=>h,fun h=>h⟩
    ·split
     ·exact⟨fun h=>h,fun h=>Bool.noConfusion h⟩
     ·exact⟨fun h=>Bool.noConfusion h,fun h=>h⟩
   ·rw[if_neg h];exact⟨fun h=>h,fun h=>h⟩
  unfold RP;simp only[bj,Bool.or_eq_true];rintro ⟨h1,h2⟩;refine⟨h1,?_⟩;rcases h2 with⟨h2,h3⟩|⟨h2,h3⟩
  ·exact .inl ⟨(hs _).1 h2,(hs _).2 h3⟩
  ·exact .inr ⟨(hs _).2 h2,(hs _).1 h3⟩
 ch:=Nat.le_refl _
theorem xA(l:List Bool)(p:Nat):l.count true<=(l.set p true).count true:=by
 induction l generalizing p with
 |nil=>exact Nat.le_refl _
 |cons a l ih=>
  cases p with
  |zero=>
   rw[bm,bz,bz]
   cases a<;>simp
  |succ p=>
   rw[bn,bz,bz]
   have:=ih p
   omega
theorem oU(ls:List (List Bool))(r p:Nat):(ls.map fun l=>l.count true).sum<=((ls.set r ((ls.getD r []).set p true)).map fun l=>l.count true).sum:=by
 induction ls generalizing r with
 |nil=>exact Nat.le_refl _
 |cons a ls ih=>
  cases r with
  |zero=>
   have:=xA a p
   simp only[List.getD_cons_zero,bm,List.map_cons,List.sum_cons]
   omega
  |succ r=>
   have:=ih r
   simp only[List.getD_cons_succ,bn,List.map_cons,List.sum_cons]
   omega
theorem WA{c:AU}(h:DE c=0)(r p:Nat):DE (GG c r p)=0:=by
 have hc:=HG h;refine jO h rfl rfl hc.fl ?_ ?_
 ·simp only[FB,bj,decide_eq_true_eq,bq];refine⟨by show((c.chairs.set r _).length:Int)=_;rw[bw];exact hc.ch,fun l hl=>?_⟩;have hl:l∈c.chairs.set r ((c.chairs.getD r []).set p true):=hl;by_cases hr:r<c.chairs.length
  ·rcases bx hl with hl|rfl
   ·exact hc.cr l hl
   ·rw[bw,bk,bf hr,bh];exact hc.cr _ (List.getElem_mem hr)
  ·rw[List.set_eq_of_length_le (by omega)]at hl;exact hc.cr l hl
 ·refine bq.2 fun f hf=>?_;have:=hc.fo f hf;simp only[HF,bj,D7];exact this
theorem jQ{c:AU}(r p:Nat)(x y:Int)(h:F6 c x y=true):F6 (GG c r p) x y=true:=by
 unfold F6 at h|-;show((c.chairs.set r ((c.chairs.getD r []).set p true)).getD x.toNat []).getD y.toNat false=true;simp only[bk,bg]at h|-;by_cases hr:r=x.toNat
 ·subst hr;cases hl:c.chairs[x.toNat]? with
  |none=>
   rw[hl]at h
   cases h
  |some l=>
   have hlt:=(bc.1 hl).1
   rw[hl]at h
   simp only[bh]at h
   simp only[hlt,if_true,bh,bg]
   by_cases hp:p=y.toNat
   ·cases hy:l[y.toNat]? with
    |none=>
     rw[hy]at h
     cases h
    |some b=>
     have:=(bc.1 hy).1
     simp[hp,this]
   ·simp only[hp,if_false];exact h
 ·simp only[hr,if_false];exact h
theorem UP{c:AU}(r p:Nat)(gs:List (Nat×Int)):Eas c (GG c r p) (AV c) (AV (GG c r p)) gs id where
 ro:=rfl
 pl:=rfl
 su:=LeS.rfl
 go:=fun _ _=>Int.le_refl _
 mi:=fun _ _ _ _ h=>h
 ch:=oU c.chairs r p
theorem XI(gs:List (Nat×Int)):gs.map (fun g=>(id g.1,g.2))=gs:=List.map_id _
theorem xB{c:AU}(hc:CW c){k:Nat}(hk:k<c.fams.length)(w:Nat)(out:List Int)(h:FV c out=true):FV (FL c k w) out=true:=by have:=(dK hc hk w (BG c out)).can h;rw[XI,<-RY hk w out]at this;exact this
theorem oV{c:AU}(hc:CW c){k:Nat}(hk:k<c.fams.length)(w:Nat)(q:List Sp×BW)(h:GO c=some q):∃q',GO (FL c k w)=some q'/\q.2.sun<=q'.2.sun:=by obtain⟨b',t',h1,h2,_⟩:=(dK hc hk w (BG c [])).best (b:=q.1) (t:=q.2) h;rw[XI,<-RY hk w []]at h1;exact⟨(b',t'),h1,h2⟩
theorem xC{c:AU}(r p:Nat)(out:List Int)(h:FV c out=true):FV (GG c r p) out=true:=by have:=(UP r p (BG c out)).can h;rw[XI]at this;exact this
theorem YA{c:AU}(r p:Nat)(q:List Sp×BW)(h:GO c=some q):∃q',GO (GG c r p)=some q'/\q.2.sun<=q'.2.sun/\(q'.2.sun<=q.2.sun->q'.2.carried<=q.2.carried):=by
 obtain⟨b',t',h1,h2,h3⟩:=(UP r p (BG c [])).best (b:=q.1) (t:=q.2) h;obtain⟨g1,g2,_⟩:=UN (show XY c (AV c) (P5 c (AV c) (BG c []))=some (q.1,q.2) from h);have hok:=RU.1 g1;have hs:=(UP r p (BG c [])).sun hok;have hcl:=oR (c:=c) (d:=GG c r p) (s:=AV c) (u:=AV (GG c r p)) id (fun x y hh=>jQ r p x y hh) q.1;rw[XI]at h1;refine⟨(b',t'),h1,h2,fun hle=>?_⟩;rw[g2]at hle|-;show t'.carried<=_;have hle:t'.sun<=(EV c (AV c) q.1).sun:=hle;rcases h3 with h3|⟨h3,h4⟩
 ·omega
 ·omega
end Go.Proofs.Tryz.Op
