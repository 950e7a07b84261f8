/- Contracts of small functions: In, Directions, IsSpot, Has; list, lists, Spot, brief. No condition. -/
import Derived.Test.YthhdhbalenanjaaGreatSw
import Derived.Test.YthhdhbalenanjaaGreatL
import Derived.Test.YthhdhbalenanjaaGreatFz
open Go.Proofs.Tryz renaming prog->bh,f75->bm
open List renaming drop_eq_getElem_cons->bj,drop_length->bk,drop_zero->bq,take_of_length_le->bw,getElem_mem->bx,all_cons->bz,drop_eq_nil_of_le->bb,mem_cons->bf
set_option maxRecDepth 100000
set_option linter.unusedSimpArgs false
open Go Go.Pg Go.Proofs Go.Wind
namespace Go.Proofs.Tryz.Op
abbrev i(n:Int):V:=.int .i64 n
def AH(x:Int):List V:=[i x]
abbrev li(l:List Int):V:=.list false (l.map AH)
def AN(l:List Int):List V:=[li l]
abbrev HU(ls:List (List Int)):V:=.list false (ls.map AN)
def AJ(p:Int×Int):List V:=[i p.1,i p.2]
def AC(b:AM):List V:=[i b.last,i b.rows,i b.places,i b.reach,li b.face,li b.sun,HU b.winds,.list false (b.breaks.map AJ),.list false (b.notes.map AJ)]
def JA(b:AM):List V:=[i b.last,i b.rows,i b.places,i b.reach,li b.face,li b.sun,HU b.winds,sl (b.breaks.map AJ),sl (b.notes.map AJ)]
theorem BS{k:Nat}(h:k<=1000000):IntKind.i64.wrap ((k:Int)+1)=((k+1:Nat):Int):=by rw[AV (by omega) (by omega)];rfl
theorem kIn(n:Nat)(x lo hi:Int):A3 bh kn (AE bh ann kn (n+50)) 57 [i x,i lo,i hi]=some (.bool (GR x lo hi)):=by rw[AP rfl,AQ Tryz.func57 b57 rfl rfl];unfold GR;generalize e1:decide (lo<=x)=b1;simp[e1,c57,AF];cases b1<;>simp
theorem ATE(l:List Int)(lo:Int)(hl:l.length<=100):∀(d k:Nat),k+d=l.length->∃fr,∀n m,d<m->BI (AE bh ann kn (n+100) 19) TO (ann 19 (BZ TO)) m ⟨0,[(0,true,li l),(1,true,i lo),(5,true,i k)],⟨[],[]⟩⟩ =
  if EW (l.drop k) lo=true then some (.exit 0,⟨0,fr,⟨[],[]⟩⟩) else some (.ret,⟨0,[(4,true,.bool false)],⟨[],[]⟩⟩)
 |0,k,hk=>by
  have:k=l.length:=by omega
  subst this;refine⟨?fr,fun n m hm=>?_⟩;rotate_left
  ·obtain⟨m,rfl⟩:=qNz m (by omega);rw[bk,AB];simp[EW];rfl
 |d+1,k,hk=>by
  have hk':k<l.length:=by omega
  have hw:=BS (k:=k) (by omega);obtain⟨fr,ih⟩:=ATE l lo hl d (k+1) (by omega);have q:=fun n=>kIn n l[k] lo 3;rw[bj hk'];generalize hb:GR l[k] lo 3=b at q;simp only[EW,bz,hb]at ih|-;cases b with
  |true=>
   refine⟨fr,fun n m hm=>?_⟩
   obtain⟨m,rfl⟩:=qNz m (by omega)
   have ih:=ih n m (by omega)
   rw[AB]
   simp at ih
   simp[hk',hw,AH,q,ih]
  |false=>
   refine⟨[],fun n m hm=>?_⟩
   obtain⟨m,rfl⟩:=qNz m (by omega)
   rw[AB]
   simp[hk',hw,AH,q]
theorem AAR(n:Nat)(l:List Int)(lo:Int)(hl:l.length<=100):A3 bh kn (AE bh ann kn (n+300)) 134 [li l,i lo]=some (.bool (EW l lo)):=by rw[AP rfl,AQ Tryz.func134 BHF rfl (by simp[AH])];obtain⟨fr,q⟩:=ATE l lo hl l.length 0 (by omega);have q:=fun n m=>q n (m+200) (by omega);rw[bq]at q;generalize EW l lo=z at q|-;cases z<;>(simp at q;simp[A56,AF,q])
theorem AZE(n:Nat)(b:AM)(s:Int×Int)(h1:0<=b.rows/\b.rows<=1000)(h2:0<=b.places/\b.places<=1000):A3 bh kn (AE bh ann kn (n+200)) 135 [.agg (AC b),.agg (AJ s)]=some (.bool (GI b s)):=by rw[AP rfl,AQ Tryz.func135 BHG rfl (by simp[AC,AJ,AH,AN])];have w1:IntKind.i64.wrap (b.rows-1)=b.rows-1:=AV (by omega) (by omega);have w2:IntKind.i64.wrap (b.places-1)=b.places-1:=AV (by omega) (by omega);have q1:=fun n=>kIn n s.1 0 (b.rows-1);have q2:=fun n=>kIn n s.2 0 (b.places-1);unfold GI;generalize GR s.1 0 (b.rows-1)=z1 at q1|-;generalize GR s.2 0 (b.places-1)=z2 at q2|-;cases z1<;>simp[A57,AF,AC,AJ,w1,w2,q1,q2]
theorem BDG(l:List Int)(x:Int)(hl:l.length<=100):∀(d k:Nat),k+d=l.length->∃fr,∀n m,d<m->BI (AE bh ann kn (n+100) bm.ntmps) Z9 (ann bm.ntmps (BZ Z9)) m ⟨0,[(0,true,li l),(1,true,i x),(5,true,i k)],⟨[],[]⟩⟩ =
  if x∈l.drop k then some (.ret,⟨0,[(4,true,.bool true)],⟨[],[]⟩⟩) else some (.exit 0,⟨0,fr,⟨[],[]⟩⟩)
 |0,k,hk=>by
  have:k=l.length:=by omega
  subst this;refine⟨?fr,fun n m hm=>?_⟩;rotate_left
  ·obtain⟨m,rfl⟩:=qNz m (by omega);rw[bk,if_neg (by simp),AB];simp[show bm.ntmps=18 from rfl];rfl
 |d+1,k,hk=>by
  have hk':k<l.length:=by omega
  have hw:=BS (k:=k) (by omega);obtain⟨fr,ih⟩:=BDG l x hl d (k+1) (by omega);rw[bj hk'];by_cases h:x=l[k]
  ·refine⟨[],fun n m hm=>?_⟩;obtain⟨m,rfl⟩:=qNz m (by omega);rw[if_pos (bf.2 (.inl h)),AB];simp[show bm.ntmps=18 from rfl,hk',hw,AH,h]
  ·refine⟨fr,fun n m hm=>?_⟩;obtain⟨m,rfl⟩:=qNz m (by omega);have ih:=ih n m (by omega);have e:(x∈l[k]::l.drop (k+1))=(x∈l.drop (k+1)):=propext ⟨fun hh=>(bf.1 hh).resolve_left h,fun hh=>bf.2 (.inr hh)⟩;have h':¬l[k]=x:=fun hh=>h hh.symm;rw[AB];simp only[e];simp[show bm.ntmps=18 from rfl]at ih;simp[show bm.ntmps=18 from rfl,hk',hw,AH,h',ih]
theorem BLY(n:Nat)(l:List Int)(x:Int)(hl:l.length<=100):A3 bh kn (AE bh ann kn (n+300)) 75 [li l,i x]=some (.bool (decide (x∈l))):=by
 rw[AP rfl,AQ Tryz.func75 b75 rfl (by simp[AH])];obtain⟨fr,q⟩:=BDG l x hl l.length 0 (by omega);have q:=fun n m=>q n (m+200) (by omega);rw[bq]at q;by_cases h:x∈l
 ·rw[if_pos h]at q;simp[show bm.ntmps=18 from rfl]at q;simp[c75,AF,q,h]
 ·rw[if_neg h]at q;simp[show bm.ntmps=18 from rfl]at q;simp[c75,AF,q,h]
theorem BDH{k:Nat}{l:List Int}(h:k+l.length<=100000):B5 bh 3 k (l.map AH)=true:=by rw[B9 (by simp) (by simp)];simp[maxLen,AH];omega
theorem BLZ{k:Nat}{l:List (List Int)}(h:k+l.length<=100000):B5 bh 22 k (l.map AN)=true:=by rw[B9 (by simp) (by simp)];simp[maxLen,AN];omega
theorem AKO(n:Nat)(l:List Int)(hl:l.length<=100):A3 bh kn (AE bh ann kn (n+100)) 114 [li l]=some (li l):=by rw[AP rfl,AQ Tryz.func114 BHI rfl (by simp[AH])];have ha:=BDH (k:=0) (l:=l) (by omega);have ht:(l.map AH).take l.length=l.map AH:=bw (by simp);simp[A58,AF,ha,ht];simp[AH]
theorem AKP(ls:List (List Int))(h1:ls.length<=100)(h2:∀l∈ls,l.length<=100):∀(d k c γ:Nat) (acc:List (List Int)),k+d=ls.length->acc.length<=k->∃fr c' γ',fr=[(9,true,V.bool false),(8,true,i ls.length),(7,true,HU ls),(6,true,i ls.length),(0,true,HU ls),(3,true,pt 19 γ' ((acc++ls.drop k).map AN)),(4,true,i ls.length)]/\∀n m,d<m->BI (AE bh ann kn (n+200) 21) TQ (ann 21 (BZ TQ)) m ⟨c,[(0,true,HU ls),(3,true,pt 19 γ (acc.map AN)),(4,true,i k)],⟨[],pl 19 γ 22 (acc.map AN)⟩⟩ =
  some (.exit 0,⟨c',fr,⟨[],pl 19 γ' 22 ((acc++ls.drop k).map AN)⟩⟩)
 |0,k,c,γ,acc,hk,hc=>by
  have:k=ls.length:=by omega
  subst this;rw[bk,List.append_nil];refine⟨_,c,γ,rfl,fun n m hm=>?_⟩;obtain⟨m,rfl⟩:=qNz m (by omega);rw[AB];simp
 |d+1,k,c,γ,acc,hk,hc=>by
  have hk':k<ls.length:=by omega
  have hw:=BS (k:=k) (by omega);have q:=fun n=>AKO n ls[k] (h2 _ (bx hk'));have ha:=BLZ (k:=acc.length) (l:=[ls[k]]) (by simp;omega);obtain⟨fr,c',γ',e1,ih⟩:=AKP ls h1 h2 d (k+1) (c+1) c (acc++[ls[k]]) (by omega) (by simp;omega);rw[List.append_assoc,List.singleton_append,<-bj hk']at e1 ih;refine⟨fr,c',γ',e1,fun n m hm=>?_⟩;obtain⟨m,rfl⟩:=qNz m (by omega);have ih:=ih n m (by omega);generalize acc++ls.drop k=fin at ih|-;rw[AB];simp[AN]at ih ha;simp[hk',hw,AN,AH,q,ha,ih]
theorem AZF(n:Nat)(ls:List (List Int))(h1:ls.length<=100)(h2:∀l∈ls,l.length<=100):A3 bh kn (AE bh ann kn (n+400)) 115 [HU ls]=some (HU ls):=by rw[AP rfl,AQ Tryz.func115 BHJ rfl (by simp[AH,AN])];obtain⟨fr,c',γ',e1,q⟩:=AKP ls h1 h2 ls.length 0 0 0 [] (by omega) (by simp);have q:=fun n m=>q n (m+200) (by omega);simp at q e1;simp[A59,AF,q,e1];simp[AN,AH]
theorem AZG(n:Nat)(s:Int×Int):A3 bh kn (AE bh ann kn (n+50)) 48 [.agg (AJ s)]=some (.agg (AJ s)):=by rw[AP rfl,AQ Tryz.func48 b48 rfl (by simp[AJ])];simp[c48,AF,AJ]
def XR(ls:List (List Int)):Bool:=(ls.take 8).all (fun l=>decide (l.length<=5))&&decide (ls.length<=7)
theorem AKQ(ls:List (List Int))(N:Nat)(hN:N=min 8 ls.length):∀(d k:Nat),k+d=N->∃fr,BJ fr 0=some (true,HU ls)/\∀n m,d<m->BI (AE bh ann kn (n+100) 23) TS (ann 23 (BZ TS)) m ⟨0,[(0,true,HU ls),(3,true,i k)],⟨[],[]⟩⟩ =
  if ((ls.take N).drop k).all (fun l=>decide (l.length<=5))=true then some (.exit 0,⟨0,fr,⟨[],[]⟩⟩) else some (.ret,⟨0,[(2,true,.bool false)],⟨[],[]⟩⟩)
 |0,k,hk=>by
  have hd:(ls.take N).drop k=[]:=bb (by simp;omega);rw[hd];by_cases h:k<ls.length
  ·have h8:k=8:=by omega
   subst h8;refine⟨?fr,?g1,fun n m hm=>?g2⟩;case g2=>
    obtain⟨m,rfl⟩:=qNz m (by omega)
    rw[AB]
    have h:(8:Int)<ls.length:=by omega
    simp[h]
    rfl
   case g1=>simp
  ·refine⟨?fr2,?g3,fun n m hm=>?g4⟩;case g4=>
    obtain⟨m,rfl⟩:=qNz m (by omega)
    rw[AB]
    simp[h]
    rfl
   case g3=>simp
 |d+1,k,hk=>by
  have hk':k<ls.length:=by omega
  have hk8:(k:Int)<8:=by omega
  have hw:=BS (k:=k) (by omega);obtain⟨fr,e1,ih⟩:=AKQ ls N hN d (k+1) (by omega);have hd:(ls.take N).drop k=ls[k]::(ls.take N).drop (k+1):=by rw[bj (by simp;omega),List.getElem_take]
  rw[hd];refine⟨fr,e1,fun n m hm=>?_⟩;obtain⟨m,rfl⟩:=qNz m (by omega);have ih:=ih n m (by omega);rw[AB,bz];by_cases h5:ls[k].length<=5
  ·have h5':¬(5:Int)<ls[k].length:=by omega
   rw[decide_eq_true h5,Bool.true_and];generalize ((ls.take N).drop (k+1)).all (fun l=>decide (l.length<=5))=z at ih|-;cases z<;>(simp at ih;simp[hk',hk8,hw,AN,h5',ih])
  ·have h5':(5:Int)<ls[k].length:=by omega
   rw[decide_eq_false h5,Bool.false_and];simp[hk',hk8,hw,AN,h5']
theorem AZH(n:Nat)(ls:List (List Int)):A3 bh kn (AE bh ann kn (n+200)) 107 [HU ls]=some (.bool (XR ls)):=by
 rw[AP rfl,AQ Tryz.func107 BHK rfl (by simp[AH,AN])];obtain⟨fr,e1,q⟩:=AKQ ls _ rfl (min 8 ls.length) 0 (by omega);have q:=fun n m=>q n (m+20) (by omega);have e:(List.take (min 8 ls.length) ls).drop 0=ls.take 8:=by
  rw[bq];rcases Nat.le_total 8 ls.length with h|h
  ·rw[Nat.min_eq_left h]
  ·rw[Nat.min_eq_right h,List.take_length,bw h]
 rw[e]at q;unfold XR;generalize (ls.take 8).all (fun l=>decide (l.length<=5))=z at q|-;have e7:decide ((ls.length:Int)<=7)=decide (ls.length<=7):=by congr 1;exact propext (by omega)
 cases z<;>(simp at q;simp[A6A,AF,q,e1,e7])
theorem ATF(b:AM)(h4:∀l∈b.winds,l.length<=4)(hl:b.winds.length<=5):∀(d k v:Nat),k+d=b.winds.length->v*4 ^ d<=1024->∃fr,BJ fr 3=some (true,i ((v*GQ (b.winds.drop k):Nat):Int))/\∀n m,d<m->BI (AE bh ann kn (n+100) 21) TV (ann 21 (BZ TV)) m ⟨1,[(1,true,.ptr 0 1 0 0),(3,true,i v),(4,true,i k)],⟨[],[(1,0,.box (AC b))]⟩⟩ =
  some (.exit 0,⟨1,fr,⟨[],[(1,0,.box (AC b))]⟩⟩)
 |0,k,v,hk,hv=>by
  have:k=b.winds.length:=by omega
  subst this;rw[bk];refine⟨?fr,?g1,fun n m hm=>?g2⟩;case g2=>
   obtain⟨m,rfl⟩:=qNz m (by omega)
   rw[AB]
   simp[AC]
   rfl
  case g1=>simp[GQ]
 |d+1,k,v,hk,hv=>by
  have hk':k<b.winds.length:=by omega
  have hw:=BS (k:=k) (by omega);have h5:=h4 _ (bx hk');have hp:0<4 ^ d:=Nat.pow_pos (by omega);have hle:v*b.winds[k].length*4 ^ d<=1024:=by refine Nat.le_trans ?_ hv;rw[Nat.pow_succ,Nat.mul_assoc,Nat.mul_comm (4 ^ d) 4];exact Nat.mul_le_mul_left _ (Nat.mul_le_mul_right _ h5)
  have hb:v*b.winds[k].length<=1024:=by refine Nat.le_trans ?_ hle;exact Nat.le_mul_of_pos_right _ hp
  have hw2:IntKind.i64.wrap ((v:Int)*(b.winds[k].length:Int))=((v*b.winds[k].length:Nat):Int):=by rw[<-Int.natCast_mul,AV (by omega) (by omega)]
  obtain⟨fr,e1,ih⟩:=ATF b h4 hl d (k+1) (v*b.winds[k].length) (by omega) hle;rw[bj hk'];refine⟨fr,by rw[e1,GQ,Nat.mul_assoc],fun n m hm=>?_⟩;obtain⟨m,rfl⟩:=qNz m (by omega);have ih:=ih n m (by omega);generalize v*b.winds[k].length=v2 at *;rw[AB];simp only[AC]at ih|-;simp at ih;simp[hk',hw,hw2,AN,ih]
theorem AKR(n:Nat)(b:AM)(hb:Valid b):A3 bh kn (AE bh ann kn (n+200)) 100 [.agg (AC b)]=some (i (GQ b.winds)):=by
 rw[AP rfl,AQ Tryz.func100 BHL rfl (by simp[AC,AH,AN,AJ])];have hl:=hb.hl;obtain⟨fr,e1,q⟩:=ATF b (fun l h=>(hb.wl l h).2) hl b.winds.length 0 1 (by omega) (by
  have:4 ^ b.winds.length<=4 ^ 5:=Nat.pow_le_pow_right (by omega) hl;omega)
 have q:=fun n m=>q n (m+20) (by omega);rw[bq,Nat.one_mul]at e1;simp only[AC]at q|-;simp at q;simp[A6B,AF,q,e1]
theorem AD1{l:List Int}{j:Nat}(h:j+1<l.length):KP (l.drop j)=(decide (l[j]<l[j+1])&&KP (l.drop (j+1))):=by rw[bj (by omega:j<l.length),bj h];rfl
theorem BDI(b:AM)(h:Nat)(hh:h<b.winds.length)(hl:b.winds[h].length<=100):∀(d j:Nat),j+d+1=b.winds[h].length->∃fr,BJ fr 1=some (true,.ptr 0 1 0 0)/\BJ fr 3=some (true,i h) /\
  ∀n m,d<m->BI (AE bh ann kn (n+100) 181) O2 (ann 181 (BZ O2)) m ⟨1,[(1,true,.ptr 0 1 0 0),(3,true,i h),(4,true,i ((j+1:Nat):Int))],⟨[],[(1,0,.box (AC b))]⟩⟩ =
   if KP (b.winds[h].drop j)=true then some (.exit 2,⟨1,fr,⟨[],[(1,0,.box (AC b))]⟩⟩) else some (.ret,⟨1,[(2,true,i 1)],⟨[],[]⟩⟩)
 |0,j,hj=>by
  have hi:KP (b.winds[h].drop j)=true:=by rw[bj (by omega:j<b.winds[h].length),bb (by omega)];rfl
  rw[hi];have hlt:¬((j:Int)+1<b.winds[h].length):=by omega
  refine⟨?fr,?g1,?g3,fun n m hm=>?g2⟩;case g2=>
   obtain⟨m,rfl⟩:=qNz m (by omega)
   rw[AB]
   simp[AC,AN,hh,hlt]
   rfl
  case g1=>simp
  case g3=>simp
 |d+1,j,hj=>by
  have hlt:(j:Int)+1<b.winds[h].length:=by omega
  have hlt':j+1<b.winds[h].length:=by omega
  have hlt0:j<b.winds[h].length:=by omega
  have hw:IntKind.i64.wrap ((j:Int)+1+1)=(j:Int)+1+1:=AV (by omega) (by omega);have hw1:IntKind.i64.wrap (j:Int)=(j:Int):=AV (by omega) (by omega);have hj0:(0:Int)<=(j:Int)+1:=by omega
  have hjt:((j:Int)+1).toNat=j+1:=by omega
  obtain⟨fr,e1,e2,ih⟩:=BDI b h hh hl d (j+1) (by omega);rw[AD1 hlt'];by_cases hc:b.winds[h][j]<b.winds[h][j+1]
  ·refine⟨fr,e1,e2,fun n m hm=>?_⟩;obtain⟨m,rfl⟩:=qNz m (by omega);have ih:=ih n m (by omega);have hc':¬b.winds[h][j+1]<=b.winds[h][j]:=by omega
   rw[decide_eq_true hc,Bool.true_and];generalize KP (b.winds[h].drop (j+1))=z at ih|-;rw[AB];simp only[AC]at ih|-;cases z<;>(simp at ih;simp[AN,AH,hh,hlt,hlt',hlt0,hw,hw1,hj0,hjt,hc',ih])
  ·have hc':b.winds[h][j+1]<=b.winds[h][j]:=by omega
   rw[decide_eq_false hc,Bool.false_and];refine⟨fr,e1,e2,fun n m hm=>?_⟩;obtain⟨m,rfl⟩:=qNz m (by omega);rw[AB];simp[AC,AN,AH,hh,hlt,hlt',hlt0,hw,hw1,hj0,hjt,hc']
theorem lF6(b:AM)(hl:b.winds.length<=100)(hlen:(b.winds.length:Int)=b.last+1)(h100:∀l∈b.winds,l.length<=100):∀(d k:Nat),k+d=b.winds.length->∃fr,BJ fr 1=some (true,.ptr 0 1 0 0) /\
  ∀n m,d<m->BI (AE bh ann kn (n+700) 181) TW (ann 181 (BZ TW)) m ⟨1,[(1,true,.ptr 0 1 0 0),(3,true,i k)],⟨[],[(1,0,.box (AC b))]⟩⟩ =
   if (b.winds.drop k).all GS=true then some (.exit 0,⟨1,fr,⟨[],[(1,0,.box (AC b))]⟩⟩) else some (.ret,⟨1,[(2,true,i 1)],⟨[],[]⟩⟩)
 |0,k,hk=>by
  have:k=b.winds.length:=by omega
  subst this;rw[bk];have hlt:¬((b.winds.length:Int)<=b.last):=by omega
  refine⟨?fr,?g1,fun n m hm=>?g2⟩;case g2=>
   obtain⟨m,rfl⟩:=qNz m (by omega)
   rw[AB]
   simp[AC,hlt]
   rfl
  case g1=>simp
 |d+1,k,hk=>by
  have hk':k<b.winds.length:=by omega
  have hlt:(k:Int)<=b.last:=by omega
  have hw:=BS (k:=k) (by omega);have h1:=h100 _ (bx hk');obtain⟨fr,e1,ih⟩:=lF6 b hl hlen h100 d (k+1) (by omega);rw[bj hk',bz];have q:=fun n=>AAR n b.winds[k] 0 h1;by_cases h0:b.winds[k].length=0
  ·have hwk:GS b.winds[k]=false:=by rw[List.eq_nil_of_length_eq_zero h0];rfl
   rw[hwk,Bool.false_and];refine⟨fr,e1,fun n m hm=>?g2⟩;case g2=>
    obtain⟨m,rfl⟩:=qNz m (by omega)
    rw[AB]
    have h0':(b.winds[k].length:Int)=0:=by omega
    simp[AC,AN,hlt,hk',h0',h0]
  ·have h0':¬(b.winds[k].length:Int)=0:=by omega
   have hne:b.winds[k].isEmpty=false:=by
    cases hz:b.winds[k]with
    |nil=>rw[hz]at h0;simp at h0
    |cons x r=>rfl
   have hwk:GS b.winds[k]=(EW b.winds[k] 0&&KP b.winds[k]):=by simp[GS,hne]
   rw[hwk];cases hd:EW b.winds[k] 0 with
   |false=>
    rw[hd]at q
    refine⟨fr,e1,fun n m hm=>?g4⟩
    case g4=>
     obtain⟨m,rfl⟩:=qNz m (by omega)
     rw[AB]
     simp[AC,AN,AH,hlt,hk',h0',h0,q]
   |true=>
    rw[hd]at q
    obtain⟨f1,a1,a2,q2⟩:=BDI b k hk' h1 (b.winds[k].length-1) 0 (by omega)
    have q2:=fun n m=>q2 n (m+200) (by omega)
    rw[bq]at q2
    cases hi:KP b.winds[k]with
    |false=>
     rw[hi]at q2
     refine⟨fr,e1,fun n m hm=>?_⟩
     obtain⟨m,rfl⟩:=qNz m (by omega)
     rw[AB]
     simp only[AC]at q2|-
     simp at q2
     simp[AN,AH,hlt,hk',h0',h0,q,q2]
    |true=>
     rw[hi]at q2
     refine⟨fr,e1,fun n m hm=>?_⟩
     obtain⟨m,rfl⟩:=qNz m (by omega)
     have ih:=ih n m (by omega)
     generalize (b.winds.drop (k+1)).all GS=z at ih|-
     rw[AB]
     simp only[AC]at q2 ih|-
     simp at q2
     cases z<;>(simp at ih;simp[AN,AH,hlt,hk',h0',h0,q,q2,a1,a2,hw,ih])
theorem BDJ(b:AM)(h1:0<=b.rows/\b.rows<=1000)(h2:0<=b.places/\b.places<=1000)(hl:b.breaks.length<=100):∀(d k:Nat),k+d=b.breaks.length->∃fr,BJ fr 1=some (true,.ptr 0 1 0 0) /\
  ∀n m,d<m->BI (AE bh ann kn (n+300) 181) O3 (ann 181 (BZ O3)) m ⟨1,[(1,true,.ptr 0 1 0 0),(5,true,i k)],⟨[],[(1,0,.box (AC b))]⟩⟩ =
   if (b.breaks.drop k).all (GI b)=true then some (.exit 4,⟨1,fr,⟨[],[(1,0,.box (AC b))]⟩⟩) else some (.ret,⟨1,[(2,true,i 1)],⟨[],[]⟩⟩)
 |0,k,hk=>by
  have:k=b.breaks.length:=by omega
  subst this;rw[bk];refine⟨?fr,?g1,fun n m hm=>?g2⟩;case g2=>
   obtain⟨m,rfl⟩:=qNz m (by omega)
   rw[AB]
   simp[AC]
   rfl
  case g1=>simp
 |d+1,k,hk=>by
  have hk':k<b.breaks.length:=by omega
  have hw:=BS (k:=k) (by omega);obtain⟨fr,e1,ih⟩:=BDJ b h1 h2 hl d (k+1) (by omega);have q:=fun n=>AZE n b b.breaks[k] h1 h2;rw[bj hk',bz];refine⟨fr,e1,fun n m hm=>?_⟩;obtain⟨m,rfl⟩:=qNz m (by omega);have ih:=ih n m (by omega);generalize GI b b.breaks[k]=z1 at q|-;generalize (b.breaks.drop (k+1)).all (GI b)=z at ih|-;rw[AB];simp only[AC,AJ]at ih q|-;cases z1
  ·simp[hk',hw,AJ,AH,AN,q]
  ·cases z<;>(simp at ih;simp[hk',hw,AJ,AH,AN,q,ih])
theorem BDK(b:AM)(hl:b.notes.length<=100):∀(d k:Nat),k+d=b.notes.length->∃fr,
  ∀n m,d<m->BI (AE bh ann kn (n+300) 181) O4 (ann 181 (BZ O4)) m ⟨1,[(1,true,.ptr 0 1 0 0),(6,true,i k)],⟨[],[(1,0,.box (AC b))]⟩⟩ =
   if (b.notes.drop k).all (JV b)=true then some (.exit 6,⟨1,fr,⟨[],[(1,0,.box (AC b))]⟩⟩) else some (.ret,⟨1,[(2,true,i 1)],⟨[],[]⟩⟩)
 |0,k,hk=>by
  have:k=b.notes.length:=by omega
  subst this;rw[bk];refine⟨?fr,fun n m hm=>?g2⟩;case g2=>
   obtain⟨m,rfl⟩:=qNz m (by omega)
   rw[AB]
   simp[AC]
   rfl
 |d+1,k,hk=>by
  have hk':k<b.notes.length:=by omega
  have hw:=BS (k:=k) (by omega);obtain⟨fr,ih⟩:=BDK b hl d (k+1) (by omega);have q1:=fun n=>kIn n b.notes[k].1 0 b.last;have q2:=fun n=>kIn n b.notes[k].2 0 3;rw[bj hk',bz];refine⟨fr,fun n m hm=>?_⟩;obtain⟨m,rfl⟩:=qNz m (by omega);have ih:=ih n m (by omega);rw[show JV b b.notes[k]=(GR b.notes[k].1 0 b.last&&GR b.notes[k].2 0 3) from rfl];generalize GR b.notes[k].1 0 b.last=z1 at q1|-;generalize GR b.notes[k].2 0 3=z2 at q2|-;generalize (b.notes.drop (k+1)).all (JV b)=z at ih|-;rw[AB];simp only[AC]at ih|-;cases z1
  ·simp[hk',hw,AJ,q1,DB]
  ·cases z2
   ·simp[hk',hw,AJ,q1,q2,DB]
   ·cases z<;>(simp at ih;simp[hk',hw,AJ,q1,q2,DB,ih])
theorem AKS(n:Nat)(b:AM)(h100:∀l∈b.winds,l.length<=100):A3 bh kn (AE bh ann kn (n+1000)) 108 [.agg (AC b)]=some (i (D7 b)):=by
 rw[AP rfl,AQ Tryz.func108 BHM rfl (by simp[AC,AH,AN,AJ])];unfold D7;by_cases g1:(decide (4<b.last)||decide (3<b.rows)||decide (5<b.places)||decide (4<b.breaks.length)||decide (5<b.notes.length))=true
 ·rw[if_pos g1];have e4:decide ((4:Int)<(b.breaks.length:Int))=decide (4<b.breaks.length):=by congr 1;exact propext (by omega)
  have e5:decide ((5:Int)<(b.notes.length:Int))=decide (5<b.notes.length):=by congr 1;exact propext (by omega)
  generalize h1:decide (4<b.last)=z1 at g1;generalize h2:decide (3<b.rows)=z2 at g1;generalize h3:decide (5<b.places)=z3 at g1;generalize h4:decide (4<b.breaks.length)=z4 at g1 e4;generalize h5:decide (5<b.notes.length)=z5 at g1 e5;cases z1
  ·cases z2
   ·cases z3
    ·cases z4
     ·cases z5
      ·cases g1
      ·simp[ON,AF,AC,h1,h2,h3,e4,e5]
     ·simp[ON,AF,AC,h1,h2,h3,e4]
    ·simp[ON,AF,AC,h1,h2,h3]
   ·simp[ON,AF,AC,h1,h2]
  ·simp[ON,AF,AC,h1]
 ·rw[if_neg g1];simp only[Bool.or_eq_true,decide_eq_true_eq,not_or]at g1;obtain⟨⟨⟨⟨g1,g2⟩,g3⟩,g4⟩,g5⟩:=g1;have e4:¬((4:Int)<(b.breaks.length:Int)):=by omega
  have e5:¬((5:Int)<(b.notes.length:Int)):=by omega
  by_cases a1:b.last<0
  ·simp[ON,AF,AC,g1,g2,g3,e4,e5,a1]
  by_cases a2:b.rows<1
  ·simp[ON,AF,AC,g1,g2,g3,e4,e5,a1,a2]
  by_cases a3:b.places<1
  ·simp[ON,AF,AC,g1,g2,g3,e4,e5,a1,a2,a3]
  have qr:=fun n=>kIn n b.reach 0 4;have hwl:IntKind.i64.wrap (b.last+1)=b.last+1:=AV (by omega) (by omega);cases a4:GR b.reach 0 4 with
  |false=>
   rw[a4]at qr
   simp[ON,AF,AC,g1,g2,g3,e4,e5,a1,a2,a3,qr]
  |true=>
  rw[a4]at qr;by_cases a5:(b.face.length:Int)=b.rows
  ·by_cases a6:(b.sun.length:Int)=b.last+1
   ·by_cases a7:(b.winds.length:Int)=b.last+1
    ·have qf:=fun n=>AAR n b.face 0 (by omega);have qs:=fun n=>AAR n b.sun (-1) (by omega);cases a8:EW b.face 0 with
     |false=>
      rw[a8]at qf
      simp[ON,AF,AC,AH,g1,g2,g3,e4,e5,a1,a2,a3,qr,a5,a6,a7,hwl,qf]
     |true=>
     rw[a8]at qf;cases a9:EW b.sun (-1)with
     |false=>
      rw[a9]at qs
      simp[ON,AF,AC,AH,g1,g2,g3,e4,e5,a1,a2,a3,qr,a5,a6,a7,hwl,qf,qs]
     |true=>
     rw[a9]at qs;obtain⟨f6,x6,q6⟩:=lF6 b (by omega) a7 h100 b.winds.length 0 (by omega);obtain⟨f16,x16,q16⟩:=BDJ b (by omega) (by omega) (by omega) b.breaks.length 0 (by omega);obtain⟨f21,q21⟩:=BDK b (by omega) b.notes.length 0 (by omega);have q6:=fun n m=>q6 n (m+200) (by omega);have q16:=fun n m=>q16 n (m+200) (by omega);have q21:=fun n m=>q21 n (m+200) (by omega);rw[bq]at q6 q16 q21;generalize b.winds.all GS=z1 at q6|-;generalize b.breaks.all (GI b)=z2 at q16|-;generalize b.notes.all (JV b)=z3 at q21|-;have a5':=a5;simp only[AC]at q6 q16 q21|-;cases z1 with
     |false=>
      simp at q6
      simp[ON,AF,AH,g1,g2,g3,e4,e5,a1,a2,a3,qr,a5,a6,a7,hwl,qf,qs,q6,x6]
     |true=>
      simp at q6
      cases z2 with
      |false=>
       simp at q16
       simp[ON,AF,AH,g1,g2,g3,e4,e5,a1,a2,a3,qr,a5,a6,a7,hwl,qf,qs,q6,q16,x6,x16]
      |true=>
       simp at q16
       cases z3<;>(simp at q21;simp[ON,AF,AH,g1,g2,g3,e4,e5,a1,a2,a3,qr,a5,a6,a7,hwl,qf,qs,q6,q16,q21,x6,x16])
    ·simp[ON,AF,AC,g1,g2,g3,e4,e5,a1,a2,a3,qr,a5,a6,a7,hwl]
   ·simp[ON,AF,AC,g1,g2,g3,e4,e5,a1,a2,a3,qr,a5,a6,hwl]
  ·simp[ON,AF,AC,g1,g2,g3,e4,e5,a1,a2,a3,qr,a5]
def YV(b:AM):Bool:=!(decide (5<b.face.length)||decide (7<b.sun.length)||!XR b.winds||decide (6<b.breaks.length)||decide (7<b.notes.length))&&(!decide (D7 b=0)||decide (GQ b.winds<=80))
theorem XT{ls:List (List Int)}(h:XR ls=true):ls.length<=7/\∀l∈ls,l.length<=5:=by simp only[XR,Bool.and_eq_true,decide_eq_true_eq]at h;rw[bw (by omega)]at h;exact⟨h.2,fun l hl=>by simpa using List.all_eq_true.1 h.1 l hl⟩
theorem BDL(n:Nat)(b:AM):A3 bh kn (AE bh ann kn (n+1200)) 64 [.agg (AC b)]=some (.bool (YV b)):=by
 rw[AP rfl,AQ Tryz.func64 b64 rfl (by simp[AC,AH,AN,AJ])];unfold YV;have e1:decide ((5:Int)<(b.face.length:Int))=decide (5<b.face.length):=by congr 1;exact propext (by omega)
 have e2:decide ((7:Int)<(b.sun.length:Int))=decide (7<b.sun.length):=by congr 1;exact propext (by omega)
 have e4:decide ((6:Int)<(b.breaks.length:Int))=decide (6<b.breaks.length):=by congr 1;exact propext (by omega)
 have e5:decide ((7:Int)<(b.notes.length:Int))=decide (7<b.notes.length):=by congr 1;exact propext (by omega)
 have qb:=fun n=>AZH n b.winds;cases h1:decide (5<b.face.length)with
 |true=>rw[h1]at e1;simp[c64,AF,AC,e1]
 |false=>
 cases h2:decide (7<b.sun.length)with
 |true=>rw[h1]at e1;rw[h2]at e2;simp[c64,AF,AC,e1,e2]
 |false=>
 cases h3:XR b.winds with
 |false=>rw[h1]at e1;rw[h2]at e2;rw[h3]at qb;simp[c64,AF,AC,AH,AN,e1,e2,qb]
 |true=>
 cases h4:decide (6<b.breaks.length)with
 |true=>rw[h1]at e1;rw[h2]at e2;rw[h3]at qb;rw[h4]at e4;simp[c64,AF,AC,AH,AN,e1,e2,qb,e4]
 |false=>
 cases h5:decide (7<b.notes.length)with
 |true=>rw[h1]at e1;rw[h2]at e2;rw[h3]at qb;rw[h4]at e4;rw[h5]at e5;simp[c64,AF,AC,AH,AN,e1,e2,qb,e4,e5]
 |false=>
  rw[h1]at e1
  rw[h2]at e2
  rw[h4]at e4
  rw[h5]at e5
  have qf:=fun n=>AKS n b fun l hl=>by have:=(XT h3).2 l hl;omega
  rw[h3]at qb
  by_cases h0:D7 b=0
  ·have hb:=U1 h0;have qm:=fun n=>AKR n b hb;rw[h0]at qf;have e6:decide ((GQ b.winds:Int)<=80)=decide (GQ b.winds<=80):=by congr 1;exact propext (by omega)
   generalize decide (GQ b.winds<=80)=z at e6|-;simp only[AC]at qf qm|-;simp[c64,AF,AH,AN,AJ,e1,e2,qb,e4,e5,qf,qm,h0,e6]
  ·simp only[AC]at qf|-;simp[c64,AF,AH,AN,AJ,e1,e2,qb,e4,e5,qf,h0]
theorem BDM{k:Nat}{x:Int}(h:k<=10000):B5 bh 3 k [[.int .i64 x]]=true:=by rw[B9 (by simp) (by simp)];simp[maxLen];omega
theorem BDN(b:AM)(hb:∀l∈b.winds,l≠[]/\l.length<=100)(hl:b.winds.length<=100):∀(d k nn c γ:Nat) (acc:List Int),k+d=b.winds.length->nn<=1000000->acc.length<=k->∃fr c' γ',BJ fr 5=some (true,pv 29 γ' ((acc++EB (b.winds.drop k) nn).map AH)) /\
  ∀n m,d<m->BI (AE bh ann kn (n+100) 35) T4 (ann 35 (BZ T4)) m ⟨c,[(1,true,i nn),(2,true,.ptr 0 2 0 0),(5,true,pv 29 γ (acc.map AH)),(6,true,i k)],⟨[],(2,0,.box (AC b))::pl 29 γ 3 (acc.map AH)⟩⟩ =
   some (.exit 0,⟨c',fr,⟨[],(2,0,.box (AC b))::pl 29 γ' 3 ((acc++EB (b.winds.drop k) nn).map AH)⟩⟩)
 |0,k,nn,c,γ,acc,hk,hn,ha=>by
  have:k=b.winds.length:=by omega
  subst this;rw[bk];refine⟨?fr,c,γ,?g1,fun n m hm=>?g2⟩;case g2=>
   obtain⟨m,rfl⟩:=qNz m (by omega)
   rw[AB]
   simp[AC,EB]
   rfl
  case g1=>simp[EB]
 |d+1,k,nn,c,γ,acc,hk,hn,ha=>by
  have hk':k<b.winds.length:=by omega
  have hw:=BS (k:=k) (by omega);obtain⟨hne,h1⟩:=hb _ (bx hk');have hp:0<b.winds[k].length:=List.length_pos_iff.2 hne;have hp':¬(b.winds[k].length:Int)=0:=by omega
  have hmod:((nn:Int)).tmod (b.winds[k].length:Int)=((nn % b.winds[k].length:Nat):Int):=(Int.ofNat_tmod _ _).symm;have hdiv0:((nn:Int)).tdiv (b.winds[k].length:Int)=((nn / b.winds[k].length:Nat):Int):=(Int.ofNat_tdiv _ _).symm;have hml:nn % b.winds[k].length<b.winds[k].length:=Nat.mod_lt _ hp;have hdl:nn / b.winds[k].length<=nn:=Nat.div_le_self _ _;have hx:b.winds[k].getD (nn % b.winds[k].length) 0=b.winds[k][nn % b.winds[k].length]:=by rw[List.getD_eq_getElem?_getD,List.getElem?_eq_getElem hml];rfl
  have hgo:acc++EB (b.winds.drop k) nn=acc++[b.winds[k][nn % b.winds[k].length]]++EB (b.winds.drop (k+1)) (nn / b.winds[k].length):=by rw[bj hk'];simp only[EB,hx];simp
  have happ:=BDM (k:=acc.length) (x:=b.winds[k][nn % b.winds[k].length]) (by omega);obtain⟨fr,c',γ',e1,ih⟩:=BDN b hb hl d (k+1) (nn / b.winds[k].length) (c+1) c (acc++[b.winds[k][nn % b.winds[k].length]]) (by omega) (Nat.le_trans hdl hn) (by simp;omega);rw[<-hgo]at e1 ih;refine⟨fr,c',γ',e1,fun n m hm=>?_⟩;obtain⟨m,rfl⟩:=qNz m (by omega);have ih:=ih n m (by omega);generalize acc++EB (b.winds.drop k) nn=fin at ih|-;generalize hY:nn % b.winds[k].length=Y at *;generalize nn / b.winds[k].length=Z at *;have hwd:IntKind.i64.wrap (Z:Int)=(Z:Int):=AV (by omega) (by omega);rw[AB];simp only[AC]at ih|-;simp[AH]at ih;simp[hk',hw,AN,AH,hne,hmod,hdiv0,hwd,hml,happ,DB,GU,ih]
theorem BL0(n:Nat)(b:AM)(hb:Valid b)(k:Nat)(hk:k<=1000000):A3 bh kn (AE bh ann kn (n+300)) 101 [.agg (AC b),i k]=some (sl ((EB b.winds k).map AH)):=by rw[AP rfl,AQ Tryz.func101 BH2 rfl (by simp[AC,AH,AN,AJ])];have hl:=hb.hl;obtain⟨fr,c',γ',e1,q⟩:=BDN b (fun l h=>⟨hb.ne l h,by have:=(hb.wl l h).2;omega⟩) (by omega) b.winds.length 0 k 1 0 [] (by omega) hk (by simp);have q:=fun n m=>q n (m+20) (by omega);rw[bq,List.nil_append]at e1 q;generalize EB b.winds k=t at *;simp only[AC]at q|-;simp at q;simp[A6V,AF,q,e1];simp[AH]
theorem AZI{x j:Nat}(hj:j<=60):bL .shr .i64 (x:Int) (j:Int)=some (.int .i64 ((x / 2 ^ j:Nat):Int)):=by
 rw[V4,if_neg (by omega)];have e:min (j:Int).toNat IntKind.i64.bits=j:=by simp only[Int.toNat_natCast,IntKind.bits];omega
 rw[e];have:(x:Int).fdiv (2 ^ j)=((x / 2 ^ j:Nat):Int):=by rw[Int.fdiv_eq_ediv_of_nonneg _ (by exact Int.le_of_lt (Int.pow_pos (by decide)))];simp
 rw[this]
theorem AD2{p:Nat}(h:p<=100):IntKind.u64.wrap (p:Int)=(p:Int):=by simp only[IntKind.wrap,IntKind.bits,IntKind.signed];simp;omega
theorem wO(k:IntKind)(n:Int):L9 bh 3 115 (.int k n)=some (.int .u64 (IntKind.u64.wrap n)):=by unfold L9;simp
end Go.Proofs.Tryz.Op
