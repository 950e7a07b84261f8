/- Contracts of small functions: In, Directions, IsSpot, Has; list, lists, Spot, brief. No condition. -/
import Derived.Test.YthhdhbalenanjaaGreatSw
import Derived.Test.YthhdhbalenanjaaGreatL
import Derived.Test.YthhdhbalenanjaaGreatFz
open Go.Proofs.Tryz renaming prog->bh
open List renaming drop_eq_getElem_cons->bj,drop_length->bk,drop_zero->bq,take_of_length_le->bw,getElem_mem->bx,all_cons->bz,drop_eq_nil_of_le->bb,mem_cons->bf
set_option maxRecDepth 100000
set_option linter.unusedSimpArgs false
open Go Go.Pg Go.Proofs Go.Wind
namespace Go.Proofs.Tryz.Op
abbrev i(n:Int):V:=.int .i64 n
def AJ(x:Int):List V:=[i x]
abbrev li(l:List Int):V:=.list false (l.map AJ)
def AV(l:List Int):List V:=[li l]
abbrev FV(ls:List (List Int)):V:=.list false (ls.map AV)
def AQ(p:Int×Int):List V:=[i p.1,i p.2]
def AC(b:AK):List V:=[i b.last,i b.rows,i b.places,i b.reach,li b.face,li b.sun,FV b.winds,.list false (b.breaks.map AQ),.list false (b.notes.map AQ)]
def IJ(b:AK):List V:=[i b.last,i b.rows,i b.places,i b.reach,li b.face,li b.sun,FV b.winds,sl (b.breaks.map AQ),sl (b.notes.map AQ)]
theorem BM{k:Nat}(h:k<=1000000):IntKind.i64.wrap ((k:Int)+1)=((k+1:Nat):Int):=by rw[AO (by omega) (by omega)];rfl
theorem kIn(n:Nat)(x lo hi:Int):AY bh kn (AE bh ann kn (n+50)) 57 [i x,i lo,i hi]=some (.bool (GA x lo hi)):=by rw[AN rfl,AM Tryz.func57 b57 rfl rfl];unfold GA;generalize e1:decide (lo<=x)=b1;simp[e1,c57,AF];cases b1<;>simp
theorem ARK(l:List Int)(lo:Int)(hl:l.length<=100):∀(d k:Nat),k+d=l.length->∃fr,∀n m,d<m->A8 (AE bh ann kn (n+100) 19) R7 (ann 19 (BU R7)) m ⟨0,[(0,true,li l),(1,true,i lo),(5,true,i k)],⟨[],[]⟩⟩ =
  if EF (l.drop k) lo=true then some (.exit 0,⟨0,fr,⟨[],[]⟩⟩) else some (.ret,⟨0,[(4,true,.bool false)],⟨[],[]⟩⟩)
 |0,k,hk=>by
  have:k=l.length:=by omega
  subst this;refine⟨?fr,fun n m hm=>?_⟩;rotate_left
  ·obtain⟨m,rfl⟩:=qNz m (by omega);rw[bk,AB];simp[EF];rfl
 |d+1,k,hk=>by
  have hk':k<l.length:=by omega
  have hw:=BM (k:=k) (by omega);obtain⟨fr,ih⟩:=ARK l lo hl d (k+1) (by omega);have q:=fun n=>kIn n l[k] lo 3;rw[bj hk'];generalize hb:GA l[k] lo 3=b at q;simp only[EF,bz,hb]at ih|-;cases b with
  |true=>
   refine⟨fr,fun n m hm=>?_⟩
   obtain⟨m,rfl⟩:=qNz m (by omega)
   have ih:=ih n m (by omega)
   rw[AB]
   simp at ih
   simp[hk',hw,AJ,q,ih]
  |false=>
   refine⟨[],fun n m hm=>?_⟩
   obtain⟨m,rfl⟩:=qNz m (by omega)
   rw[AB]
   simp[hk',AJ,q]
theorem yR(n:Nat)(l:List Int)(lo:Int)(hl:l.length<=100):AY bh kn (AE bh ann kn (n+300)) 134 [li l,i lo]=some (.bool (EF l lo)):=by rw[AN rfl,AM Tryz.func134 BC8 rfl (by simp[AJ])];obtain⟨fr,q⟩:=ARK l lo hl l.length 0 (by omega);have q:=fun n m=>q n (m+200) (by omega);rw[bq]at q;generalize EF l lo=z at q|-;cases z<;>(simp at q;simp[A2N,AF,q])
theorem AW4(n:Nat)(b:AK)(s:Int×Int)(h1:0<=b.rows/\b.rows<=1000)(h2:0<=b.places/\b.places<=1000):AY bh kn (AE bh ann kn (n+200)) 135 [.agg (AC b),.agg (AQ s)]=some (.bool (FY b s)):=by rw[AN rfl,AM Tryz.func135 BC9 rfl (by simp[AC,AQ,AJ,AV])];have w1:IntKind.i64.wrap (b.rows-1)=b.rows-1:=AO (by omega) (by omega);have w2:IntKind.i64.wrap (b.places-1)=b.places-1:=AO (by omega) (by omega);have q1:=fun n=>kIn n s.1 0 (b.rows-1);have q2:=fun n=>kIn n s.2 0 (b.places-1);unfold FY;generalize GA s.1 0 (b.rows-1)=z1 at q1|-;generalize GA s.2 0 (b.places-1)=z2 at q2|-;cases z1<;>simp[A2O,AF,AC,AQ,w1,w2,q1,q2]
theorem A9G(l:List Int)(x:Int)(hl:l.length<=100):∀(d k:Nat),k+d=l.length->∃fr,∀n m,d<m->A8 (AE bh ann kn (n+100) Tryz.f75.ntmps) ZI (ann Tryz.f75.ntmps (BU ZI)) m ⟨0,[(0,true,li l),(1,true,i x),(5,true,i k)],⟨[],[]⟩⟩ =
  if x∈l.drop k then some (.ret,⟨0,[(4,true,.bool true)],⟨[],[]⟩⟩) else some (.exit 0,⟨0,fr,⟨[],[]⟩⟩)
 |0,k,hk=>by
  have:k=l.length:=by omega
  subst this;refine⟨?fr,fun n m hm=>?_⟩;rotate_left
  ·obtain⟨m,rfl⟩:=qNz m (by omega);rw[bk,if_neg (by simp),AB];simp;rfl
 |d+1,k,hk=>by
  have hk':k<l.length:=by omega
  have hw:=BM (k:=k) (by omega);obtain⟨fr,ih⟩:=A9G l x hl d (k+1) (by omega);rw[bj hk'];by_cases h:x=l[k]
  ·refine⟨[],fun n m hm=>?_⟩;obtain⟨m,rfl⟩:=qNz m (by omega);rw[if_pos (bf.2 (.inl h)),AB];simp[hk',AJ,h]
  ·refine⟨fr,fun n m hm=>?_⟩;obtain⟨m,rfl⟩:=qNz m (by omega);have ih:=ih n m (by omega);have e:(x∈l[k]::l.drop (k+1))=(x∈l.drop (k+1)):=propext ⟨fun hh=>(bf.1 hh).resolve_left h,fun hh=>bf.2 (.inr hh)⟩;have h':¬l[k]=x:=fun hh=>h hh.symm;rw[AB];simp only[e];simp at ih;simp[hk',hw,AJ,h',ih]
theorem BHH(n:Nat)(l:List Int)(x:Int)(hl:l.length<=100):AY bh kn (AE bh ann kn (n+300)) 75 [li l,i x]=some (.bool (decide (x∈l))):=by
 rw[AN rfl,AM Tryz.func75 b75 rfl (by simp[AJ])];obtain⟨fr,q⟩:=A9G l x hl l.length 0 (by omega);have q:=fun n m=>q n (m+200) (by omega);rw[bq]at q;by_cases h:x∈l
 ·rw[if_pos h]at q;simp at q;simp[c75,AF,q,h]
 ·rw[if_neg h]at q;simp at q;simp[c75,AF,q,h]
theorem A9H{k:Nat}{l:List Int}(h:k+l.length<=100000):BW bh 3 k (l.map AJ)=true:=by rw[BQ (by simp) (by simp)];simp[maxLen,AJ];omega
theorem BHI{k:Nat}{l:List (List Int)}(h:k+l.length<=100000):BW bh 22 k (l.map AV)=true:=by rw[BQ (by simp) (by simp)];simp[maxLen,AV];omega
theorem AI1(n:Nat)(l:List Int)(hl:l.length<=100):AY bh kn (AE bh ann kn (n+100)) 114 [li l]=some (li l):=by rw[AN rfl,AM Tryz.func114 BDB rfl (by simp[AJ])];have ha:=A9H (k:=0) (l:=l) (by omega);have ht:(l.map AJ).take l.length=l.map AJ:=bw (by simp);simp[A2P,AF,ha,ht];simp[AJ]
theorem AI2(ls:List (List Int))(h1:ls.length<=100)(h2:∀l∈ls,l.length<=100):∀(d k c γ:Nat) (acc:List (List Int)),k+d=ls.length->acc.length<=k->∃fr c' γ',fr=[(9,true,V.bool false),(8,true,i ls.length),(7,true,FV ls),(6,true,i ls.length),(0,true,FV ls),(3,true,pt 19 γ' ((acc++ls.drop k).map AV)),(4,true,i ls.length)]/\∀n m,d<m->A8 (AE bh ann kn (n+200) 21) R9 (ann 21 (BU R9)) m ⟨c,[(0,true,FV ls),(3,true,pt 19 γ (acc.map AV)),(4,true,i k)],⟨[],pl 19 γ 22 (acc.map AV)⟩⟩ =
  some (.exit 0,⟨c',fr,⟨[],pl 19 γ' 22 ((acc++ls.drop k).map AV)⟩⟩)
 |0,k,c,γ,acc,hk,hc=>by
  have:k=ls.length:=by omega
  subst this;rw[bk,List.append_nil];refine⟨_,c,γ,rfl,fun n m hm=>?_⟩;obtain⟨m,rfl⟩:=qNz m (by omega);rw[AB];simp
 |d+1,k,c,γ,acc,hk,hc=>by
  have hk':k<ls.length:=by omega
  have hw:=BM (k:=k) (by omega);have q:=fun n=>AI1 n ls[k] (h2 _ (bx hk'));have ha:=BHI (k:=acc.length) (l:=[ls[k]]) (by simp;omega);obtain⟨fr,c',γ',e1,ih⟩:=AI2 ls h1 h2 d (k+1) (c+1) c (acc++[ls[k]]) (by omega) (by simp;omega);rw[List.append_assoc,List.singleton_append,<-bj hk']at e1 ih;refine⟨fr,c',γ',e1,fun n m hm=>?_⟩;obtain⟨m,rfl⟩:=qNz m (by omega);have ih:=ih n m (by omega);generalize acc++ls.drop k=fin at ih|-;rw[AB];simp[AV]at ih ha;simp[hk',hw,AV,AJ,q,ha,ih]
theorem AW5(n:Nat)(ls:List (List Int))(h1:ls.length<=100)(h2:∀l∈ls,l.length<=100):AY bh kn (AE bh ann kn (n+400)) 115 [FV ls]=some (FV ls):=by rw[AN rfl,AM Tryz.func115 BDC rfl (by simp[AJ,AV])];obtain⟨fr,c',γ',e1,q⟩:=AI2 ls h1 h2 ls.length 0 0 0 [] (by omega) (by simp);have q:=fun n m=>q n (m+200) (by omega);simp at q e1;simp[A2Q,AF,q,e1];simp[AV,AJ]
theorem AW6(n:Nat)(s:Int×Int):AY bh kn (AE bh ann kn (n+50)) 48 [.agg (AQ s)]=some (.agg (AQ s)):=by rw[AN rfl,AM Tryz.func48 b48 rfl (by simp[AQ])];simp[c48,AF,AQ]
def WS(ls:List (List Int)):Bool:=(ls.take 8).all (fun l=>decide (l.length<=5))&&decide (ls.length<=7)
theorem AI3(ls:List (List Int))(N:Nat)(hN:N=min 8 ls.length):∀(d k:Nat),k+d=N->∃fr,BG fr 0=some (true,FV ls)/\∀n m,d<m->A8 (AE bh ann kn (n+100) 23) SB (ann 23 (BU SB)) m ⟨0,[(0,true,FV ls),(3,true,i k)],⟨[],[]⟩⟩ =
  if ((ls.take N).drop k).all (fun l=>decide (l.length<=5))=true then some (.exit 0,⟨0,fr,⟨[],[]⟩⟩) else some (.ret,⟨0,[(2,true,.bool false)],⟨[],[]⟩⟩)
 |0,k,hk=>by
  have hd:(ls.take N).drop k=[]:=bb (by simp;omega);rw[hd];by_cases h:k<ls.length
  ·have h8:k=8:=by omega
   subst h8;refine⟨?fr,?g1,fun n m hm=>?g2⟩;case g2=>
    obtain⟨m,rfl⟩:=qNz m (by omega)
    rw[AB]
    have h:(8:Int)<ls.length:=by omega
    simp[h]
    rfl
   case g1=>simp
  ·refine⟨?fr2,?g3,fun n m hm=>?g4⟩;case g4=>
    obtain⟨m,rfl⟩:=qNz m (by omega)
    rw[AB]
    simp[h]
    rfl
   case g3=>simp
 |d+1,k,hk=>by
  have hk':k<ls.length:=by omega
  have hk8:(k:Int)<8:=by omega
  have hw:=BM (k:=k) (by omega);obtain⟨fr,e1,ih⟩:=AI3 ls N hN d (k+1) (by omega);have hd:(ls.take N).drop k=ls[k]::(ls.take N).drop (k+1):=by rw[bj (by simp;omega),List.getElem_take]
  rw[hd];refine⟨fr,e1,fun n m hm=>?_⟩;obtain⟨m,rfl⟩:=qNz m (by omega);have ih:=ih n m (by omega);rw[AB,bz];by_cases h5:ls[k].length<=5
  ·have h5':¬(5:Int)<ls[k].length:=by omega
   rw[decide_eq_true h5,Bool.true_and];generalize ((ls.take N).drop (k+1)).all (fun l=>decide (l.length<=5))=z at ih|-;cases z<;>(simp at ih;simp[hk',hk8,hw,AV,h5',ih])
  ·have h5':(5:Int)<ls[k].length:=by omega
   rw[decide_eq_false h5,Bool.false_and];simp[hk',hk8,AV,h5']
theorem AW7(n:Nat)(ls:List (List Int)):AY bh kn (AE bh ann kn (n+200)) 107 [FV ls]=some (.bool (WS ls)):=by
 rw[AN rfl,AM Tryz.func107 BDD rfl (by simp[AJ,AV])];obtain⟨fr,e1,q⟩:=AI3 ls _ rfl (min 8 ls.length) 0 (by omega);have q:=fun n m=>q n (m+20) (by omega);have e:(List.take (min 8 ls.length) ls).drop 0=ls.take 8:=by
  rw[bq];rcases Nat.le_total 8 ls.length with h|h
  ·rw[Nat.min_eq_left h]
  ·rw[Nat.min_eq_right h,List.take_length,bw h]
 rw[e]at q;unfold WS;generalize (ls.take 8).all (fun l=>decide (l.length<=5))=z at q|-;have e7:decide ((ls.length:Int)<=7)=decide (ls.length<=7):=by congr 1;exact propext (by omega)
 cases z<;>(simp at q;simp[A2R,AF,q,e1,e7])
theorem ARL(b:AK)(h4:∀l∈b.winds,l.length<=4)(hl:b.winds.length<=5):∀(d k v:Nat),k+d=b.winds.length->v*4 ^ d<=1024->∃fr,BG fr 3=some (true,i ((v*F7 (b.winds.drop k):Nat):Int))/\∀n m,d<m->A8 (AE bh ann kn (n+100) 21) SE (ann 21 (BU SE)) m ⟨1,[(1,true,.ptr 0 1 0 0),(3,true,i v),(4,true,i k)],⟨[],[(1,0,.box (AC b))]⟩⟩ =
  some (.exit 0,⟨1,fr,⟨[],[(1,0,.box (AC b))]⟩⟩)
 |0,k,v,hk,hv=>by
  have:k=b.winds.length:=by omega
  subst this;rw[bk];refine⟨?fr,?g1,fun n m hm=>?g2⟩;case g2=>
   obtain⟨m,rfl⟩:=qNz m (by omega)
   rw[AB]
   simp[AC]
   rfl
  case g1=>simp[F7]
 |d+1,k,v,hk,hv=>by
  have hk':k<b.winds.length:=by omega
  have hw:=BM (k:=k) (by omega);have h5:=h4 _ (bx hk');have hp:0<4 ^ d:=Nat.pow_pos (by omega);have hle:v*b.winds[k].length*4 ^ d<=1024:=by refine Nat.le_trans ?_ hv;rw[Nat.pow_succ,Nat.mul_assoc,Nat.mul_comm (4 ^ d) 4];exact Nat.mul_le_mul_left _ (Nat.mul_le_mul_right _ h5)
  have hb:v*b.winds[k].length<=1024:=by refine Nat.le_trans ?_ hle;exact Nat.le_mul_of_pos_right _ hp
  have hw2:IntKind.i64.wrap ((v:Int)*(b.winds[k].length:Int))=((v*b.winds[k].length:Nat):Int):=by rw[<-Int.natCast_mul,AO (by omega) (by omega)]
  obtain⟨fr,e1,ih⟩:=ARL b h4 hl d (k+1) (v*b.winds[k].length) (by omega) hle;rw[bj hk'];refine⟨fr,by rw[e1,F7,Nat.mul_assoc],fun n m hm=>?_⟩;obtain⟨m,rfl⟩:=qNz m (by omega);have ih:=ih n m (by omega);generalize v*b.winds[k].length=v2 at *;rw[AB];simp only[AC]at ih|-;simp at ih;simp[hk',hw,hw2,AV,ih]
theorem AI4(n:Nat)(b:AK)(hb:Valid b):AY bh kn (AE bh ann kn (n+200)) 100 [.agg (AC b)]=some (i (F7 b.winds)):=by
 rw[AN rfl,AM Tryz.func100 BDE rfl (by simp[AC,AJ,AV,AQ])];have hl:=hb.hl;obtain⟨fr,e1,q⟩:=ARL b (fun l h=>(hb.wl l h).2) hl b.winds.length 0 1 (by omega) (by
  have:4 ^ b.winds.length<=4 ^ 5:=Nat.pow_le_pow_right (by omega) hl;omega)
 have q:=fun n m=>q n (m+20) (by omega);rw[bq,Nat.one_mul]at e1;simp only[AC]at q|-;simp at q;simp[A2S,AF,q,e1]
theorem ACG{l:List Int}{j:Nat}(h:j+1<l.length):J0 (l.drop j)=(decide (l[j]<l[j+1])&&J0 (l.drop (j+1))):=by rw[bj (by omega:j<l.length),bj h];rfl
theorem A9I(b:AK)(h:Nat)(hh:h<b.winds.length)(hl:b.winds[h].length<=100):∀(d j:Nat),j+d+1=b.winds[h].length->∃fr,BG fr 1=some (true,.ptr 0 1 0 0)/\BG fr 3=some (true,i h) /\
  ∀n m,d<m->A8 (AE bh ann kn (n+100) 181) N5 (ann 181 (BU N5)) m ⟨1,[(1,true,.ptr 0 1 0 0),(3,true,i h),(4,true,i ((j+1:Nat):Int))],⟨[],[(1,0,.box (AC b))]⟩⟩ =
   if J0 (b.winds[h].drop j)=true then some (.exit 2,⟨1,fr,⟨[],[(1,0,.box (AC b))]⟩⟩) else some (.ret,⟨1,[(2,true,i 1)],⟨[],[]⟩⟩)
 |0,j,hj=>by
  have hi:J0 (b.winds[h].drop j)=true:=by rw[bj (by omega:j<b.winds[h].length),bb (by omega)];rfl
  rw[hi];have hlt:¬((j:Int)+1<b.winds[h].length):=by omega
  refine⟨?fr,?g1,?g3,fun n m hm=>?g2⟩;case g2=>
   obtain⟨m,rfl⟩:=qNz m (by omega)
   rw[AB]
   simp[AC,AV,hh,hlt]
   rfl
  case g1=>simp
  case g3=>simp
 |d+1,j,hj=>by
  have hlt:(j:Int)+1<b.winds[h].length:=by omega
  have hlt':j+1<b.winds[h].length:=by omega
  have hlt0:j<b.winds[h].length:=by omega
  have hw:IntKind.i64.wrap ((j:Int)+1+1)=(j:Int)+1+1:=AO (by omega) (by omega);have hw1:IntKind.i64.wrap (j:Int)=(j:Int):=AO (by omega) (by omega);have hj0:(0:Int)<=(j:Int)+1:=by omega
  have hjt:((j:Int)+1).toNat=j+1:=by omega
  obtain⟨fr,e1,e2,ih⟩:=A9I b h hh hl d (j+1) (by omega);rw[ACG hlt'];by_cases hc:b.winds[h][j]<b.winds[h][j+1]
  ·refine⟨fr,e1,e2,fun n m hm=>?_⟩;obtain⟨m,rfl⟩:=qNz m (by omega);have ih:=ih n m (by omega);have hc':¬b.winds[h][j+1]<=b.winds[h][j]:=by omega
   rw[decide_eq_true hc,Bool.true_and];generalize J0 (b.winds[h].drop (j+1))=z at ih|-;rw[AB];simp only[AC]at ih|-;cases z<;>(simp at ih;simp[AV,AJ,hh,hlt,hlt',hlt0,hw,hw1,hj0,hjt,hc',ih])
  ·have hc':b.winds[h][j+1]<=b.winds[h][j]:=by omega
   rw[decide_eq_false hc,Bool.false_and];refine⟨fr,e1,e2,fun n m hm=>?_⟩;obtain⟨m,rfl⟩:=qNz m (by omega);rw[AB];simp[AC,AV,AJ,hh,hlt,hlt',hlt0,hw1,hj0,hjt,hc']
theorem lF6(b:AK)(hl:b.winds.length<=100)(hlen:(b.winds.length:Int)=b.last+1)(h100:∀l∈b.winds,l.length<=100):∀(d k:Nat),k+d=b.winds.length->∃fr,BG fr 1=some (true,.ptr 0 1 0 0) /\
  ∀n m,d<m->A8 (AE bh ann kn (n+700) 181) SF (ann 181 (BU SF)) m ⟨1,[(1,true,.ptr 0 1 0 0),(3,true,i k)],⟨[],[(1,0,.box (AC b))]⟩⟩ =
   if (b.winds.drop k).all GB=true then some (.exit 0,⟨1,fr,⟨[],[(1,0,.box (AC b))]⟩⟩) else some (.ret,⟨1,[(2,true,i 1)],⟨[],[]⟩⟩)
 |0,k,hk=>by
  have:k=b.winds.length:=by omega
  subst this;rw[bk];have hlt:¬((b.winds.length:Int)<=b.last):=by omega
  refine⟨?fr,?g1,fun n m hm=>?g2⟩;case g2=>
   obtain⟨m,rfl⟩:=qNz m (by omega)
   rw[AB]
   simp[AC,hlt]
   rfl
  case g1=>simp
 |d+1,k,hk=>by
  have hk':k<b.winds.length:=by omega
  have hlt:(k:Int)<=b.last:=by omega
  have hw:=BM (k:=k) (by omega);have h1:=h100 _ (bx hk');obtain⟨fr,e1,ih⟩:=lF6 b hl hlen h100 d (k+1) (by omega);rw[bj hk',bz];have q:=fun n=>yR n b.winds[k] 0 h1;by_cases h0:b.winds[k].length=0
  ·have hwk:GB b.winds[k]=false:=by rw[List.eq_nil_of_length_eq_zero h0];rfl
   rw[hwk,Bool.false_and];refine⟨fr,e1,fun n m hm=>?g2⟩;case g2=>
    obtain⟨m,rfl⟩:=qNz m (by omega)
    rw[AB]
    have h0':(b.winds[k].length:Int)=0:=by omega
    simp[AC,AV,hlt,hk',h0]
  ·have h0':¬(b.winds[k].length:Int)=0:=by omega
   have hne:b.winds[k].isEmpty=false:=by
    cases hz:b.winds[k]with
    |nil=>rw[hz]at h0;simp at h0
    |cons x r=>rfl
   have hwk:GB b.winds[k]=(EF b.winds[k] 0&&J0 b.winds[k]):=by simp[GB,hne]
   rw[hwk];cases hd:EF b.winds[k] 0 with
   |false=>
    rw[hd]at q
    refine⟨fr,e1,fun n m hm=>?g4⟩
    case g4=>
     obtain⟨m,rfl⟩:=qNz m (by omega)
     rw[AB]
     simp[AC,AV,AJ,hlt,hk',h0,q]
   |true=>
    rw[hd]at q
    obtain⟨f1,a1,a2,q2⟩:=A9I b k hk' h1 (b.winds[k].length-1) 0 (by omega)
    have q2:=fun n m=>q2 n (m+200) (by omega)
    rw[bq]at q2
    cases hi:J0 b.winds[k]with
    |false=>
     rw[hi]at q2
     refine⟨fr,e1,fun n m hm=>?_⟩
     obtain⟨m,rfl⟩:=qNz m (by omega)
     rw[AB]
     simp only[AC]at q2|-
     simp at q2
     simp[AV,AJ,hlt,hk',h0,q,q2]
    |true=>
     rw[hi]at q2
     refine⟨fr,e1,fun n m hm=>?_⟩
     obtain⟨m,rfl⟩:=qNz m (by omega)
     have ih:=ih n m (by omega)
     generalize (b.winds.drop (k+1)).all GB=z at ih|-
     rw[AB]
     simp only[AC]at q2 ih|-
     simp at q2
     cases z<;>(simp at ih;simp[AV,AJ,hlt,hk',h0,q,q2,a1,a2,hw,ih])
theorem A9J(b:AK)(h1:0<=b.rows/\b.rows<=1000)(h2:0<=b.places/\b.places<=1000)(hl:b.breaks.length<=100):∀(d k:Nat),k+d=b.breaks.length->∃fr,BG fr 1=some (true,.ptr 0 1 0 0) /\
  ∀n m,d<m->A8 (AE bh ann kn (n+300) 181) N6 (ann 181 (BU N6)) m ⟨1,[(1,true,.ptr 0 1 0 0),(5,true,i k)],⟨[],[(1,0,.box (AC b))]⟩⟩ =
   if (b.breaks.drop k).all (FY b)=true then some (.exit 4,⟨1,fr,⟨[],[(1,0,.box (AC b))]⟩⟩) else some (.ret,⟨1,[(2,true,i 1)],⟨[],[]⟩⟩)
 |0,k,hk=>by
  have:k=b.breaks.length:=by omega
  subst this;rw[bk];refine⟨?fr,?g1,fun n m hm=>?g2⟩;case g2=>
   obtain⟨m,rfl⟩:=qNz m (by omega)
   rw[AB]
   simp[AC]
   rfl
  case g1=>simp
 |d+1,k,hk=>by
  have hk':k<b.breaks.length:=by omega
  have hw:=BM (k:=k) (by omega);obtain⟨fr,e1,ih⟩:=A9J b h1 h2 hl d (k+1) (by omega);have q:=fun n=>AW4 n b b.breaks[k] h1 h2;rw[bj hk',bz];refine⟨fr,e1,fun n m hm=>?_⟩;obtain⟨m,rfl⟩:=qNz m (by omega);have ih:=ih n m (by omega);generalize FY b b.breaks[k]=z1 at q|-;generalize (b.breaks.drop (k+1)).all (FY b)=z at ih|-;rw[AB];simp only[AC,AQ]at ih q|-;cases z1
  ·simp[hk',AQ,AJ,AV,q]
  ·cases z<;>(simp at ih;simp[hk',hw,AQ,AJ,AV,q,ih])
theorem A9K(b:AK)(hl:b.notes.length<=100):∀(d k:Nat),k+d=b.notes.length->∃fr,
  ∀n m,d<m->A8 (AE bh ann kn (n+300) 181) N7 (ann 181 (BU N7)) m ⟨1,[(1,true,.ptr 0 1 0 0),(6,true,i k)],⟨[],[(1,0,.box (AC b))]⟩⟩ =
   if (b.notes.drop k).all (JA b)=true then some (.exit 6,⟨1,fr,⟨[],[(1,0,.box (AC b))]⟩⟩) else some (.ret,⟨1,[(2,true,i 1)],⟨[],[]⟩⟩)
 |0,k,hk=>by
  have:k=b.notes.length:=by omega
  subst this;rw[bk];refine⟨?fr,fun n m hm=>?g2⟩;case g2=>
   obtain⟨m,rfl⟩:=qNz m (by omega)
   rw[AB]
   simp[AC]
   rfl
 |d+1,k,hk=>by
  have hk':k<b.notes.length:=by omega
  have hw:=BM (k:=k) (by omega);obtain⟨fr,ih⟩:=A9K b hl d (k+1) (by omega);have q1:=fun n=>kIn n b.notes[k].1 0 b.last;have q2:=fun n=>kIn n b.notes[k].2 0 3;rw[bj hk',bz];refine⟨fr,fun n m hm=>?_⟩;obtain⟨m,rfl⟩:=qNz m (by omega);have ih:=ih n m (by omega);rw[show JA b b.notes[k]=(GA b.notes[k].1 0 b.last&&GA b.notes[k].2 0 3) from rfl];generalize GA b.notes[k].1 0 b.last=z1 at q1|-;generalize GA b.notes[k].2 0 3=z2 at q2|-;generalize (b.notes.drop (k+1)).all (JA b)=z at ih|-;rw[AB];simp only[AC]at ih|-;cases z1
  ·simp[hk',AQ,q1,XU]
  ·cases z2
   ·simp[hk',AQ,q1,q2]
   ·cases z<;>(simp at ih;simp[hk',hw,AQ,q1,q2,ih])
theorem AI5(n:Nat)(b:AK)(h100:∀l∈b.winds,l.length<=100):AY bh kn (AE bh ann kn (n+1000)) 108 [.agg (AC b)]=some (i (DU b)):=by
 rw[AN rfl,AM Tryz.func108 BDF rfl (by simp[AC,AJ,AV,AQ])];unfold DU;by_cases g1:(decide (4<b.last)||decide (3<b.rows)||decide (5<b.places)||decide (4<b.breaks.length)||decide (5<b.notes.length))=true
 ·rw[if_pos g1];have e4:decide ((4:Int)<(b.breaks.length:Int))=decide (4<b.breaks.length):=by congr 1;exact propext (by omega)
  have e5:decide ((5:Int)<(b.notes.length:Int))=decide (5<b.notes.length):=by congr 1;exact propext (by omega)
  generalize h1:decide (4<b.last)=z1 at g1;generalize h2:decide (3<b.rows)=z2 at g1;generalize h3:decide (5<b.places)=z3 at g1;generalize h4:decide (4<b.breaks.length)=z4 at g1 e4;generalize h5:decide (5<b.notes.length)=z5 at g1 e5;cases z1
  ·cases z2
   ·cases z3
    ·cases z4
     ·cases z5
      ·cases g1
      ·simp[NT,AF,AC,h1,h2,h3,e4,e5]
     ·simp[NT,AF,AC,h1,h2,h3,e4]
    ·simp[NT,AF,AC,h1,h2,h3]
   ·simp[NT,AF,AC,h1,h2]
  ·simp[NT,AF,AC,h1]
 ·rw[if_neg g1];simp only[Bool.or_eq_true,decide_eq_true_eq,not_or]at g1;obtain⟨⟨⟨⟨g1,g2⟩,g3⟩,g4⟩,g5⟩:=g1;have e4:¬((4:Int)<(b.breaks.length:Int)):=by omega
  have e5:¬((5:Int)<(b.notes.length:Int)):=by omega
  by_cases a1:b.last<0
  ·simp[NT,AF,AC,g1,g2,g3,e4,e5,a1]
  by_cases a2:b.rows<1
  ·simp[NT,AF,AC,g1,g2,g3,e4,e5,a1,a2]
  by_cases a3:b.places<1
  ·simp[NT,AF,AC,g1,g2,g3,e4,e5,a1,a2,a3]
  have qr:=fun n=>kIn n b.reach 0 4;have hwl:IntKind.i64.wrap (b.last+1)=b.last+1:=AO (by omega) (by omega);cases a4:GA b.reach 0 4 with
  |false=>
   rw[a4]at qr
   simp[NT,AF,AC,g1,g2,g3,e4,e5,a1,a2,a3,qr]
  |true=>
  rw[a4]at qr;by_cases a5:(b.face.length:Int)=b.rows
  ·by_cases a6:(b.sun.length:Int)=b.last+1
   ·by_cases a7:(b.winds.length:Int)=b.last+1
    ·have qf:=fun n=>yR n b.face 0 (by omega);have qs:=fun n=>yR n b.sun (-1) (by omega);cases a8:EF b.face 0 with
     |false=>
      rw[a8]at qf
      simp[NT,AF,AC,AJ,g1,g2,g3,e4,e5,a1,a2,a3,qr,a5,a6,a7,hwl,qf]
     |true=>
     rw[a8]at qf;cases a9:EF b.sun (-1)with
     |false=>
      rw[a9]at qs
      simp[NT,AF,AC,AJ,g1,g2,g3,e4,e5,a1,a2,a3,qr,a5,a6,a7,hwl,qf,qs]
     |true=>
     rw[a9]at qs;obtain⟨f6,x6,q6⟩:=lF6 b (by omega) a7 h100 b.winds.length 0 (by omega);obtain⟨f16,x16,q16⟩:=A9J b (by omega) (by omega) (by omega) b.breaks.length 0 (by omega);obtain⟨f21,q21⟩:=A9K b (by omega) b.notes.length 0 (by omega);have q6:=fun n m=>q6 n (m+200) (by omega);have q16:=fun n m=>q16 n (m+200) (by omega);have q21:=fun n m=>q21 n (m+200) (by omega);rw[bq]at q6 q16 q21;generalize b.winds.all GB=z1 at q6|-;generalize b.breaks.all (FY b)=z2 at q16|-;generalize b.notes.all (JA b)=z3 at q21|-;have a5':=a5;simp only[AC]at q6 q16 q21|-;cases z1 with
     |false=>
      simp at q6
      simp[NT,AF,AJ,g1,g2,g3,e4,e5,a1,a2,a3,qr,a5,a6,a7,hwl,qf,qs,q6]
     |true=>
      simp at q6
      cases z2 with
      |false=>
       simp at q16
       simp[NT,AF,AJ,g1,g2,g3,e4,e5,a1,a2,a3,qr,a5,a6,a7,hwl,qf,qs,q6,q16,x6]
      |true=>
       simp at q16
       cases z3<;>(simp at q21;simp[NT,AF,AJ,g1,g2,g3,e4,e5,a1,a2,a3,qr,a5,a6,a7,hwl,qf,qs,q6,q16,q21,x6,x16])
    ·simp[NT,AF,AC,g1,g2,g3,e4,e5,a1,a2,a3,qr,a5,a6,a7,hwl]
   ·simp[NT,AF,AC,g1,g2,g3,e4,e5,a1,a2,a3,qr,a5,a6,hwl]
  ·simp[NT,AF,AC,g1,g2,g3,e4,e5,a1,a2,a3,qr,a5]
def XX(b:AK):Bool:=!(decide (5<b.face.length)||decide (7<b.sun.length)||!WS b.winds||decide (6<b.breaks.length)||decide (7<b.notes.length))&&(!decide (DU b=0)||decide (F7 b.winds<=80))
theorem WT{ls:List (List Int)}(h:WS ls=true):ls.length<=7/\∀l∈ls,l.length<=5:=by simp only[WS,Bool.and_eq_true,decide_eq_true_eq]at h;rw[bw (by omega)]at h;exact⟨h.2,fun l hl=>by simpa using List.all_eq_true.1 h.1 l hl⟩
theorem A9L(n:Nat)(b:AK):AY bh kn (AE bh ann kn (n+1200)) 64 [.agg (AC b)]=some (.bool (XX b)):=by
 rw[AN rfl,AM Tryz.func64 b64 rfl (by simp[AC,AJ,AV,AQ])];unfold XX;have e1:decide ((5:Int)<(b.face.length:Int))=decide (5<b.face.length):=by congr 1;exact propext (by omega)
 have e2:decide ((7:Int)<(b.sun.length:Int))=decide (7<b.sun.length):=by congr 1;exact propext (by omega)
 have e4:decide ((6:Int)<(b.breaks.length:Int))=decide (6<b.breaks.length):=by congr 1;exact propext (by omega)
 have e5:decide ((7:Int)<(b.notes.length:Int))=decide (7<b.notes.length):=by congr 1;exact propext (by omega)
 have qb:=fun n=>AW7 n b.winds;cases h1:decide (5<b.face.length)with
 |true=>rw[h1]at e1;simp[c64,AF,AC,e1]
 |false=>
 cases h2:decide (7<b.sun.length)with
 |true=>rw[h1]at e1;rw[h2]at e2;simp[c64,AF,AC,e1,e2]
 |false=>
 cases h3:WS b.winds with
 |false=>rw[h1]at e1;rw[h2]at e2;rw[h3]at qb;simp[c64,AF,AC,AJ,AV,e1,e2,qb]
 |true=>
 cases h4:decide (6<b.breaks.length)with
 |true=>rw[h1]at e1;rw[h2]at e2;rw[h3]at qb;rw[h4]at e4;simp[c64,AF,AC,AJ,AV,e1,e2,qb,e4]
 |false=>
 cases h5:decide (7<b.notes.length)with
 |true=>rw[h1]at e1;rw[h2]at e2;rw[h3]at qb;rw[h4]at e4;rw[h5]at e5;simp[c64,AF,AC,AJ,AV,e1,e2,qb,e4,e5]
 |false=>
  rw[h1]at e1
  rw[h2]at e2
  rw[h4]at e4
  rw[h5]at e5
  have qf:=fun n=>AI5 n b fun l hl=>by have:=(WT h3).2 l hl;omega
  rw[h3]at qb
  by_cases h0:DU b=0
  ·have hb:=TO h0;have qm:=fun n=>AI4 n b hb;rw[h0]at qf;have e6:decide ((F7 b.winds:Int)<=80)=decide (F7 b.winds<=80):=by congr 1;exact propext (by omega)
   generalize decide (F7 b.winds<=80)=z at e6|-;simp only[AC]at qf qm|-;simp[c64,AF,AJ,AV,AQ,e1,e2,qb,e4,e5,qf,qm,h0,e6]
  ·simp only[AC]at qf|-;simp[c64,AF,AJ,AV,AQ,e1,e2,qb,e4,e5,qf,h0]
theorem A9M{k:Nat}{x:Int}(h:k<=10000):BW bh 3 k [[.int .i64 x]]=true:=by rw[BQ (by simp) (by simp)];simp[maxLen];omega
theorem A9N(b:AK)(hb:∀l∈b.winds,l≠[]/\l.length<=100)(hl:b.winds.length<=100):∀(d k nn c γ:Nat) (acc:List Int),k+d=b.winds.length->nn<=1000000->acc.length<=k->∃fr c' γ',BG fr 5=some (true,pv 29 γ' ((acc++DY (b.winds.drop k) nn).map AJ)) /\
  ∀n m,d<m->A8 (AE bh ann kn (n+100) 35) SK (ann 35 (BU SK)) m ⟨c,[(1,true,i nn),(2,true,.ptr 0 2 0 0),(5,true,pv 29 γ (acc.map AJ)),(6,true,i k)],⟨[],(2,0,.box (AC b))::pl 29 γ 3 (acc.map AJ)⟩⟩ =
   some (.exit 0,⟨c',fr,⟨[],(2,0,.box (AC b))::pl 29 γ' 3 ((acc++DY (b.winds.drop k) nn).map AJ)⟩⟩)
 |0,k,nn,c,γ,acc,hk,hn,ha=>by
  have:k=b.winds.length:=by omega
  subst this;rw[bk];refine⟨?fr,c,γ,?g1,fun n m hm=>?g2⟩;case g2=>
   obtain⟨m,rfl⟩:=qNz m (by omega)
   rw[AB]
   simp[AC,DY]
   rfl
  case g1=>simp[DY]
 |d+1,k,nn,c,γ,acc,hk,hn,ha=>by
  have hk':k<b.winds.length:=by omega
  have hw:=BM (k:=k) (by omega);obtain⟨hne,h1⟩:=hb _ (bx hk');have hp:0<b.winds[k].length:=List.length_pos_iff.2 hne;have hp':¬(b.winds[k].length:Int)=0:=by omega
  have hmod:((nn:Int)).tmod (b.winds[k].length:Int)=((nn % b.winds[k].length:Nat):Int):=(Int.ofNat_tmod _ _).symm;have hdiv0:((nn:Int)).tdiv (b.winds[k].length:Int)=((nn / b.winds[k].length:Nat):Int):=(Int.ofNat_tdiv _ _).symm;have hml:nn % b.winds[k].length<b.winds[k].length:=Nat.mod_lt _ hp;have hdl:nn / b.winds[k].length<=nn:=Nat.div_le_self _ _;have hx:b.winds[k].getD (nn % b.winds[k].length) 0=b.winds[k][nn % b.winds[k].length]:=by rw[List.getD_eq_getElem?_getD,List.getElem?_eq_getElem hml];rfl
  have hgo:acc++DY (b.winds.drop k) nn=acc++[b.winds[k][nn % b.winds[k].length]]++DY (b.winds.drop (k+1)) (nn / b.winds[k].length):=by rw[bj hk'];simp only[DY,hx];simp
  have happ:=A9M (k:=acc.length) (x:=b.winds[k][nn % b.winds[k].length]) (by omega);obtain⟨fr,c',γ',e1,ih⟩:=A9N b hb hl d (k+1) (nn / b.winds[k].length) (c+1) c (acc++[b.winds[k][nn % b.winds[k].length]]) (by omega) (Nat.le_trans hdl hn) (by simp;omega);rw[<-hgo]at e1 ih;refine⟨fr,c',γ',e1,fun n m hm=>?_⟩;obtain⟨m,rfl⟩:=qNz m (by omega);have ih:=ih n m (by omega);generalize acc++DY (b.winds.drop k) nn=fin at ih|-;generalize hY:nn % b.winds[k].length=Y at *;generalize nn / b.winds[k].length=Z at *;have hwd:IntKind.i64.wrap (Z:Int)=(Z:Int):=AO (by omega) (by omega);rw[AB];simp only[AC]at ih|-;simp[AJ]at ih;simp[hk',hw,AV,AJ,hne,hmod,hdiv0,hwd,hml,happ,J4,ih]
theorem BHJ(n:Nat)(b:AK)(hb:Valid b)(k:Nat)(hk:k<=1000000):AY bh kn (AE bh ann kn (n+300)) 101 [.agg (AC b),i k]=some (sl ((DY b.winds k).map AJ)):=by rw[AN rfl,AM Tryz.func101 BDV rfl (by simp[AC,AJ,AV,AQ])];have hl:=hb.hl;obtain⟨fr,c',γ',e1,q⟩:=A9N b (fun l h=>⟨hb.ne l h,by have:=(hb.wl l h).2;omega⟩) (by omega) b.winds.length 0 k 1 0 [] (by omega) hk (by simp);have q:=fun n m=>q n (m+20) (by omega);rw[bq,List.nil_append]at e1 q;generalize DY b.winds k=t at *;simp only[AC]at q|-;simp at q;simp[A3C,AF,q,e1];simp[AJ]
theorem vD{x j:Nat}(hj:j<=60):TR .shr .i64 (x:Int) (j:Int)=some (.int .i64 ((x / 2 ^ j:Nat):Int)):=by
 rw[KE,if_neg (by omega)];have e:min (j:Int).toNat IntKind.i64.bits=j:=by simp only[Int.toNat_natCast,IntKind.bits];omega
 rw[e];have:(x:Int).fdiv (2 ^ j)=((x / 2 ^ j:Nat):Int):=by rw[Int.fdiv_eq_ediv_of_nonneg _ (by exact Int.le_of_lt (Int.pow_pos (by decide)))];simp
 rw[this]
theorem MG{p:Nat}(h:p<=100):IntKind.u64.wrap (p:Int)=(p:Int):=by simp only[IntKind.wrap,IntKind.bits,IntKind.signed];simp;omega
theorem NG(k:IntKind)(n:Int):LC bh 3 115 (.int k n)=some (.int .u64 (IntKind.u64.wrap n)):=by unfold LC;simp
end Go.Proofs.Tryz.Op
