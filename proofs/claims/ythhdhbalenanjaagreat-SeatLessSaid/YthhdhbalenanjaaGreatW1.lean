/- Contracts of small functions: In, Directions, IsSpot, Has; list, lists, Spot, brief. No condition. -/
import Derived.Test.YthhdhbalenanjaaGreatSw
import Derived.Test.YthhdhbalenanjaaGreatL
import Derived.Test.YthhdhbalenanjaaGreatFz
open Go.Proofs.Tryz renaming prog->bm,f75->bn
open List renaming drop_eq_getElem_cons->bj,drop_length->bk,drop_zero->bq,take_of_length_le->bw,getElem_mem->bx,all_cons->bz,drop_eq_nil_of_le->bc,mem_cons->bg
set_option maxRecDepth 100000
set_option linter.unusedSimpArgs false
open Go Go.Pg Go.Proofs Go.Wind
namespace Go.Proofs.Tryz.Op
abbrev i(n:Int):V:=.int .i64 n
def AH(x:Int):List V:=[i x]
abbrev li(l:List Int):V:=.list false (l.map AH)
def AM(l:List Int):List V:=[li l]
abbrev KC(ls:List (List Int)):V:=.list false (ls.map AM)
def AL(p:Int×Int):List V:=[i p.1,i p.2]
def AC(b:AN):List V:=[i b.last,i b.rows,i b.places,i b.reach,li b.face,li b.sun,KC b.winds,.list false (b.breaks.map AL),.list false (b.notes.map AL)]
def FA(b:AN):List V:=[i b.last,i b.rows,i b.places,i b.reach,li b.face,li b.sun,KC b.winds,sl (b.breaks.map AL),sl (b.notes.map AL)]
theorem CB{k:Nat}(h:k<=1000000):IntKind.i64.wrap ((k:Int)+1)=((k+1:Nat):Int):=by rw[AY (by omega) (by omega)];rfl
theorem kIn(n:Nat)(x lo hi:Int):BA bm kn (AF bm ann kn (n+50)) 57 [i x,i lo,i hi]=some (.bool (IJ x lo hi)):=by rw[AR rfl,AS Tryz.func57 b57 rfl rfl];unfold IJ;generalize e1:decide (lo<=x)=b1;simp[e1,c57,AD];cases b1<;>simp
theorem AOX(l:List Int)(lo:Int)(hl:l.length<=100):∀(d k:Nat),k+d=l.length->∃fr,∀n m,d<m->BT (AF bm ann kn (n+100) 19) R3 (ann 19 (CA R3)) m ⟨0,[(0,true,li l),(1,true,i lo),(5,true,i k)],⟨[],[]⟩⟩ =
  if EO (l.drop k) lo=true then some (.exit 0,⟨0,fr,⟨[],[]⟩⟩) else some (.ret,⟨0,[(4,true,.bool false)],⟨[],[]⟩⟩)
 |0,k,hk=>by
  have:k=l.length:=by omega
  subst this;refine⟨?fr,fun n m hm=>?_⟩;rotate_left
  ·obtain⟨m,rfl⟩:=qNz m (by omega);rw[bk,AB];simp[EO];rfl
 |d+1,k,hk=>by
  have hk':k<l.length:=by omega
  have hw:=CB (k:=k) (by omega);obtain⟨fr,ih⟩:=AOX l lo hl d (k+1) (by omega);have q:=fun n=>kIn n l[k] lo 3;rw[bj hk'];generalize hb:IJ l[k] lo 3=b at q;simp only[EO,bz,hb]at ih|-;cases b with
  |true=>
   refine⟨fr,fun n m hm=>?_⟩
   obtain⟨m,rfl⟩:=qNz m (by omega)
   have ih:=ih n m (by omega)
   rw[AB]
   simp at ih
   simp[hk',hw,AH,q,ih]
  |false=>
   refine⟨[],fun n m hm=>?_⟩
   obtain⟨m,rfl⟩:=qNz m (by omega)
   rw[AB]
   simp[hk',hw,AH,q]
theorem wE(n:Nat)(l:List Int)(lo:Int)(hl:l.length<=100):BA bm kn (AF bm ann kn (n+300)) 134 [li l,i lo]=some (.bool (EO l lo)):=by rw[AR rfl,AS Tryz.func134 BBP rfl (by simp[AH])];obtain⟨fr,q⟩:=AOX l lo hl l.length 0 (by omega);have q:=fun n m=>q n (m+200) (by omega);rw[bq]at q;generalize EO l lo=z at q|-;cases z<;>(simp at q;simp[A0P,AD,q])
theorem AUN(n:Nat)(b:AN)(s:Int×Int)(h1:0<=b.rows/\b.rows<=1000)(h2:0<=b.places/\b.places<=1000):BA bm kn (AF bm ann kn (n+200)) 135 [.agg (AC b),.agg (AL s)]=some (.bool (F7 b s)):=by rw[AR rfl,AS Tryz.func135 BBQ rfl (by simp[AC,AL,AH,AM])];have w1:IntKind.i64.wrap (b.rows-1)=b.rows-1:=AY (by omega) (by omega);have w2:IntKind.i64.wrap (b.places-1)=b.places-1:=AY (by omega) (by omega);have q1:=fun n=>kIn n s.1 0 (b.rows-1);have q2:=fun n=>kIn n s.2 0 (b.places-1);unfold F7;generalize IJ s.1 0 (b.rows-1)=z1 at q1|-;generalize IJ s.2 0 (b.places-1)=z2 at q2|-;cases z1<;>simp[A0Q,AD,AC,AL,w1,w2,q1,q2]
theorem A7T(l:List Int)(x:Int)(hl:l.length<=100):∀(d k:Nat),k+d=l.length->∃fr,∀n m,d<m->BT (AF bm ann kn (n+100) bn.ntmps) YG (ann bn.ntmps (CA YG)) m ⟨0,[(0,true,li l),(1,true,i x),(5,true,i k)],⟨[],[]⟩⟩ =
  if x∈l.drop k then some (.ret,⟨0,[(4,true,.bool true)],⟨[],[]⟩⟩) else some (.exit 0,⟨0,fr,⟨[],[]⟩⟩)
 |0,k,hk=>by
  have:k=l.length:=by omega
  subst this;refine⟨?fr,fun n m hm=>?_⟩;rotate_left
  ·obtain⟨m,rfl⟩:=qNz m (by omega);rw[bk,if_neg (by simp),AB];simp[show bn.ntmps=18 from rfl];rfl
 |d+1,k,hk=>by
  have hk':k<l.length:=by omega
  have hw:=CB (k:=k) (by omega);obtain⟨fr,ih⟩:=A7T l x hl d (k+1) (by omega);rw[bj hk'];by_cases h:x=l[k]
  ·refine⟨[],fun n m hm=>?_⟩;obtain⟨m,rfl⟩:=qNz m (by omega);rw[if_pos (bg.2 (.inl h)),AB];simp[show bn.ntmps=18 from rfl,hk',hw,AH,h]
  ·refine⟨fr,fun n m hm=>?_⟩;obtain⟨m,rfl⟩:=qNz m (by omega);have ih:=ih n m (by omega);have e:(x∈l[k]::l.drop (k+1))=(x∈l.drop (k+1)):=propext ⟨fun hh=>(bg.1 hh).resolve_left h,fun hh=>bg.2 (.inr hh)⟩;have h':¬l[k]=x:=fun hh=>h hh.symm;rw[AB];simp only[e];simp[show bn.ntmps=18 from rfl]at ih;simp[show bn.ntmps=18 from rfl,hk',hw,AH,h',ih]
theorem BFY(n:Nat)(l:List Int)(x:Int)(hl:l.length<=100):BA bm kn (AF bm ann kn (n+300)) 75 [li l,i x]=some (.bool (decide (x∈l))):=by
 rw[AR rfl,AS Tryz.func75 b75 rfl (by simp[AH])];obtain⟨fr,q⟩:=A7T l x hl l.length 0 (by omega);have q:=fun n m=>q n (m+200) (by omega);rw[bq]at q;by_cases h:x∈l
 ·rw[if_pos h]at q;simp[show bn.ntmps=18 from rfl]at q;simp[c75,AD,q,h]
 ·rw[if_neg h]at q;simp[show bn.ntmps=18 from rfl]at q;simp[c75,AD,q,h]
theorem A7U{k:Nat}{l:List Int}(h:k+l.length<=100000):BZ bm 3 k (l.map AH)=true:=by rw[CC (by simp) (by simp)];simp[maxLen,AH];omega
theorem BFZ{k:Nat}{l:List (List Int)}(h:k+l.length<=100000):BZ bm 22 k (l.map AM)=true:=by rw[CC (by simp) (by simp)];simp[maxLen,AM];omega
theorem AGU(n:Nat)(l:List Int)(hl:l.length<=100):BA bm kn (AF bm ann kn (n+100)) 114 [li l]=some (li l):=by rw[AR rfl,AS Tryz.func114 BBS rfl (by simp[AH])];have ha:=A7U (k:=0) (l:=l) (by omega);have ht:(l.map AH).take l.length=l.map AH:=bw (by simp);simp[A0R,AD,ha,ht];simp[AH]
theorem AGV(ls:List (List Int))(h1:ls.length<=100)(h2:∀l∈ls,l.length<=100):∀(d k c γ:Nat) (acc:List (List Int)),k+d=ls.length->acc.length<=k->∃fr c' γ',fr=[(9,true,V.bool false),(8,true,i ls.length),(7,true,KC ls),(6,true,i ls.length),(0,true,KC ls),(3,true,pt 19 γ' ((acc++ls.drop k).map AM)),(4,true,i ls.length)]/\∀n m,d<m->BT (AF bm ann kn (n+200) 21) R5 (ann 21 (CA R5)) m ⟨c,[(0,true,KC ls),(3,true,pt 19 γ (acc.map AM)),(4,true,i k)],⟨[],pl 19 γ 22 (acc.map AM)⟩⟩ =
  some (.exit 0,⟨c',fr,⟨[],pl 19 γ' 22 ((acc++ls.drop k).map AM)⟩⟩)
 |0,k,c,γ,acc,hk,hc=>by
  have:k=ls.length:=by omega
  subst this;rw[bk,List.append_nil];refine⟨_,c,γ,rfl,fun n m hm=>?_⟩;obtain⟨m,rfl⟩:=qNz m (by omega);rw[AB];simp
 |d+1,k,c,γ,acc,hk,hc=>by
  have hk':k<ls.length:=by omega
  have hw:=CB (k:=k) (by omega);have q:=fun n=>AGU n ls[k] (h2 _ (bx hk'));have ha:=BFZ (k:=acc.length) (l:=[ls[k]]) (by simp;omega);obtain⟨fr,c',γ',e1,ih⟩:=AGV ls h1 h2 d (k+1) (c+1) c (acc++[ls[k]]) (by omega) (by simp;omega);rw[List.append_assoc,List.singleton_append,<-bj hk']at e1 ih;refine⟨fr,c',γ',e1,fun n m hm=>?_⟩;obtain⟨m,rfl⟩:=qNz m (by omega);have ih:=ih n m (by omega);generalize acc++ls.drop k=fin at ih|-;rw[AB];simp[AM]at ih ha;simp[hk',hw,AM,AH,q,ha,ih]
theorem AUO(n:Nat)(ls:List (List Int))(h1:ls.length<=100)(h2:∀l∈ls,l.length<=100):BA bm kn (AF bm ann kn (n+400)) 115 [KC ls]=some (KC ls):=by rw[AR rfl,AS Tryz.func115 BBT rfl (by simp[AH,AM])];obtain⟨fr,c',γ',e1,q⟩:=AGV ls h1 h2 ls.length 0 0 0 [] (by omega) (by simp);have q:=fun n m=>q n (m+200) (by omega);simp at q e1;simp[A0S,AD,q,e1];simp[AM,AH]
theorem AUP(n:Nat)(s:Int×Int):BA bm kn (AF bm ann kn (n+50)) 48 [.agg (AL s)]=some (.agg (AL s)):=by rw[AR rfl,AS Tryz.func48 b48 rfl (by simp[AL])];simp[c48,AD,AL]
def V1(ls:List (List Int)):Bool:=(ls.take 8).all (fun l=>decide (l.length<=5))&&decide (ls.length<=7)
theorem AGW(ls:List (List Int))(N:Nat)(hN:N=min 8 ls.length):∀(d k:Nat),k+d=N->∃fr,BS fr 0=some (true,KC ls)/\∀n m,d<m->BT (AF bm ann kn (n+100) 23) R7 (ann 23 (CA R7)) m ⟨0,[(0,true,KC ls),(3,true,i k)],⟨[],[]⟩⟩ =
  if ((ls.take N).drop k).all (fun l=>decide (l.length<=5))=true then some (.exit 0,⟨0,fr,⟨[],[]⟩⟩) else some (.ret,⟨0,[(2,true,.bool false)],⟨[],[]⟩⟩)
 |0,k,hk=>by
  have hd:(ls.take N).drop k=[]:=bc (by simp;omega);rw[hd];by_cases h:k<ls.length
  ·have h8:k=8:=by omega
   subst h8;refine⟨?fr,?g1,fun n m hm=>?g2⟩;case g2=>
    obtain⟨m,rfl⟩:=qNz m (by omega)
    rw[AB]
    have h:(8:Int)<ls.length:=by omega
    simp[h]
    rfl
   case g1=>simp
  ·refine⟨?fr2,?g3,fun n m hm=>?g4⟩;case g4=>
    obtain⟨m,rfl⟩:=qNz m (by omega)
    rw[AB]
    simp[h]
    rfl
   case g3=>simp
 |d+1,k,hk=>by
  have hk':k<ls.length:=by omega
  have hk8:(k:Int)<8:=by omega
  have hw:=CB (k:=k) (by omega);obtain⟨fr,e1,ih⟩:=AGW ls N hN d (k+1) (by omega);have hd:(ls.take N).drop k=ls[k]::(ls.take N).drop (k+1):=by rw[bj (by simp;omega),List.getElem_take]
  rw[hd];refine⟨fr,e1,fun n m hm=>?_⟩;obtain⟨m,rfl⟩:=qNz m (by omega);have ih:=ih n m (by omega);rw[AB,bz];by_cases h5:ls[k].length<=5
  ·have h5':¬(5:Int)<ls[k].length:=by omega
   rw[decide_eq_true h5,Bool.true_and];generalize ((ls.take N).drop (k+1)).all (fun l=>decide (l.length<=5))=z at ih|-;cases z<;>(simp at ih;simp[hk',hk8,hw,AM,h5',ih])
  ·have h5':(5:Int)<ls[k].length:=by omega
   rw[decide_eq_false h5,Bool.false_and];simp[hk',hk8,hw,AM,h5']
theorem AUQ(n:Nat)(ls:List (List Int)):BA bm kn (AF bm ann kn (n+200)) 107 [KC ls]=some (.bool (V1 ls)):=by
 rw[AR rfl,AS Tryz.func107 BBU rfl (by simp[AH,AM])];obtain⟨fr,e1,q⟩:=AGW ls _ rfl (min 8 ls.length) 0 (by omega);have q:=fun n m=>q n (m+20) (by omega);have e:(List.take (min 8 ls.length) ls).drop 0=ls.take 8:=by
  rw[bq];rcases Nat.le_total 8 ls.length with h|h
  ·rw[Nat.min_eq_left h]
  ·rw[Nat.min_eq_right h,List.take_length,bw h]
 rw[e]at q;unfold V1;generalize (ls.take 8).all (fun l=>decide (l.length<=5))=z at q|-;have e7:decide ((ls.length:Int)<=7)=decide (ls.length<=7):=by congr 1;exact propext (by omega)
 cases z<;>(simp at q;simp[A0T,AD,q,e1,e7])
theorem AOY(b:AN)(h4:∀l∈b.winds,l.length<=4)(hl:b.winds.length<=5):∀(d k v:Nat),k+d=b.winds.length->v*4 ^ d<=1024->∃fr,BS fr 3=some (true,i ((v*GR (b.winds.drop k):Nat):Int))/\∀n m,d<m->BT (AF bm ann kn (n+100) 21) R9 (ann 21 (CA R9)) m ⟨1,[(1,true,.ptr 0 1 0 0),(3,true,i v),(4,true,i k)],⟨[],[(1,0,.box (AC b))]⟩⟩ =
  some (.exit 0,⟨1,fr,⟨[],[(1,0,.box (AC b))]⟩⟩)
 |0,k,v,hk,hv=>by
  have:k=b.winds.length:=by omega
  subst this;rw[bk];refine⟨?fr,?g1,fun n m hm=>?g2⟩;case g2=>
   obtain⟨m,rfl⟩:=qNz m (by omega)
   rw[AB]
   simp[AC]
   rfl
  case g1=>simp[GR]
 |d+1,k,v,hk,hv=>by
  have hk':k<b.winds.length:=by omega
  have hw:=CB (k:=k) (by omega);have h5:=h4 _ (bx hk');have hp:0<4 ^ d:=Nat.pow_pos (by omega);have hle:v*b.winds[k].length*4 ^ d<=1024:=by refine Nat.le_trans ?_ hv;rw[Nat.pow_succ,Nat.mul_assoc,Nat.mul_comm (4 ^ d) 4];exact Nat.mul_le_mul_left _ (Nat.mul_le_mul_right _ h5)
  have hb:v*b.winds[k].length<=1024:=by refine Nat.le_trans ?_ hle;exact Nat.le_mul_of_pos_right _ hp
  have hw2:IntKind.i64.wrap ((v:Int)*(b.winds[k].length:Int))=((v*b.winds[k].length:Nat):Int):=by rw[<-Int.natCast_mul,AY (by omega) (by omega)]
  obtain⟨fr,e1,ih⟩:=AOY b h4 hl d (k+1) (v*b.winds[k].length) (by omega) hle;rw[bj hk'];refine⟨fr,by rw[e1,GR,Nat.mul_assoc],fun n m hm=>?_⟩;obtain⟨m,rfl⟩:=qNz m (by omega);have ih:=ih n m (by omega);generalize v*b.winds[k].length=v2 at *;rw[AB];simp only[AC]at ih|-;simp at ih;simp[hk',hw,hw2,AM,ih]
theorem AGX(n:Nat)(b:AN)(hb:Valid b):BA bm kn (AF bm ann kn (n+200)) 100 [.agg (AC b)]=some (i (GR b.winds)):=by
 rw[AR rfl,AS Tryz.func100 BBV rfl (by simp[AC,AH,AM,AL])];have hl:=hb.hl;obtain⟨fr,e1,q⟩:=AOY b (fun l h=>(hb.wl l h).2) hl b.winds.length 0 1 (by omega) (by
  have:4 ^ b.winds.length<=4 ^ 5:=Nat.pow_le_pow_right (by omega) hl;omega)
 have q:=fun n m=>q n (m+20) (by omega);rw[bq,Nat.one_mul]at e1;simp only[AC]at q|-;simp at q;simp[A0U,AD,q,e1]
theorem AAL{l:List Int}{j:Nat}(h:j+1<l.length):KM (l.drop j)=(decide (l[j]<l[j+1])&&KM (l.drop (j+1))):=by rw[bj (by omega:j<l.length),bj h];rfl
theorem A7V(b:AN)(h:Nat)(hh:h<b.winds.length)(hl:b.winds[h].length<=100):∀(d j:Nat),j+d+1=b.winds[h].length->∃fr,BS fr 1=some (true,.ptr 0 1 0 0)/\BS fr 3=some (true,i h) /\
  ∀n m,d<m->BT (AF bm ann kn (n+100) 181) OB (ann 181 (CA OB)) m ⟨1,[(1,true,.ptr 0 1 0 0),(3,true,i h),(4,true,i ((j+1:Nat):Int))],⟨[],[(1,0,.box (AC b))]⟩⟩ =
   if KM (b.winds[h].drop j)=true then some (.exit 2,⟨1,fr,⟨[],[(1,0,.box (AC b))]⟩⟩) else some (.ret,⟨1,[(2,true,i 1)],⟨[],[]⟩⟩)
 |0,j,hj=>by
  have hi:KM (b.winds[h].drop j)=true:=by rw[bj (by omega:j<b.winds[h].length),bc (by omega)];rfl
  rw[hi];have hlt:¬((j:Int)+1<b.winds[h].length):=by omega
  refine⟨?fr,?g1,?g3,fun n m hm=>?g2⟩;case g2=>
   obtain⟨m,rfl⟩:=qNz m (by omega)
   rw[AB]
   simp[AC,AM,hh,hlt]
   rfl
  case g1=>simp
  case g3=>simp
 |d+1,j,hj=>by
  have hlt:(j:Int)+1<b.winds[h].length:=by omega
  have hlt':j+1<b.winds[h].length:=by omega
  have hlt0:j<b.winds[h].length:=by omega
  have hw:IntKind.i64.wrap ((j:Int)+1+1)=(j:Int)+1+1:=AY (by omega) (by omega);have hw1:IntKind.i64.wrap (j:Int)=(j:Int):=AY (by omega) (by omega);have hj0:(0:Int)<=(j:Int)+1:=by omega
  have hjt:((j:Int)+1).toNat=j+1:=by omega
  obtain⟨fr,e1,e2,ih⟩:=A7V b h hh hl d (j+1) (by omega);rw[AAL hlt'];by_cases hc:b.winds[h][j]<b.winds[h][j+1]
  ·refine⟨fr,e1,e2,fun n m hm=>?_⟩;obtain⟨m,rfl⟩:=qNz m (by omega);have ih:=ih n m (by omega);have hc':¬b.winds[h][j+1]<=b.winds[h][j]:=by omega
   rw[decide_eq_true hc,Bool.true_and];generalize KM (b.winds[h].drop (j+1))=z at ih|-;rw[AB];simp only[AC]at ih|-;cases z<;>(simp at ih;simp[AM,AH,hh,hlt,hlt',hlt0,hw,hw1,hj0,hjt,hc',ih])
  ·have hc':b.winds[h][j+1]<=b.winds[h][j]:=by omega
   rw[decide_eq_false hc,Bool.false_and];refine⟨fr,e1,e2,fun n m hm=>?_⟩;obtain⟨m,rfl⟩:=qNz m (by omega);rw[AB];simp[AC,AM,AH,hh,hlt,hlt',hlt0,hw,hw1,hj0,hjt,hc']
theorem lF6(b:AN)(hl:b.winds.length<=100)(hlen:(b.winds.length:Int)=b.last+1)(h100:∀l∈b.winds,l.length<=100):∀(d k:Nat),k+d=b.winds.length->∃fr,BS fr 1=some (true,.ptr 0 1 0 0) /\
  ∀n m,d<m->BT (AF bm ann kn (n+700) 181) SA (ann 181 (CA SA)) m ⟨1,[(1,true,.ptr 0 1 0 0),(3,true,i k)],⟨[],[(1,0,.box (AC b))]⟩⟩ =
   if (b.winds.drop k).all GK=true then some (.exit 0,⟨1,fr,⟨[],[(1,0,.box (AC b))]⟩⟩) else some (.ret,⟨1,[(2,true,i 1)],⟨[],[]⟩⟩)
 |0,k,hk=>by
  have:k=b.winds.length:=by omega
  subst this;rw[bk];have hlt:¬((b.winds.length:Int)<=b.last):=by omega
  refine⟨?fr,?g1,fun n m hm=>?g2⟩;case g2=>
   obtain⟨m,rfl⟩:=qNz m (by omega)
   rw[AB]
   simp[AC,hlt]
   rfl
  case g1=>simp
 |d+1,k,hk=>by
  have hk':k<b.winds.length:=by omega
  have hlt:(k:Int)<=b.last:=by omega
  have hw:=CB (k:=k) (by omega);have h1:=h100 _ (bx hk');obtain⟨fr,e1,ih⟩:=lF6 b hl hlen h100 d (k+1) (by omega);rw[bj hk',bz];have q:=fun n=>wE n b.winds[k] 0 h1;by_cases h0:b.winds[k].length=0
  ·have hwk:GK b.winds[k]=false:=by rw[List.eq_nil_of_length_eq_zero h0];rfl
   rw[hwk,Bool.false_and];refine⟨fr,e1,fun n m hm=>?g2⟩;case g2=>
    obtain⟨m,rfl⟩:=qNz m (by omega)
    rw[AB]
    have h0':(b.winds[k].length:Int)=0:=by omega
    simp[AC,AM,hlt,hk',h0',h0]
  ·have h0':¬(b.winds[k].length:Int)=0:=by omega
   have hne:b.winds[k].isEmpty=false:=by
    cases hz:b.winds[k]with
    |nil=>rw[hz]at h0;simp at h0
    |cons x r=>rfl
   have hwk:GK b.winds[k]=(EO b.winds[k] 0&&KM b.winds[k]):=by simp[GK,hne]
   rw[hwk];cases hd:EO b.winds[k] 0 with
   |false=>
    rw[hd]at q
    refine⟨fr,e1,fun n m hm=>?g4⟩
    case g4=>
     obtain⟨m,rfl⟩:=qNz m (by omega)
     rw[AB]
     simp[AC,AM,AH,hlt,hk',h0',h0,q]
   |true=>
    rw[hd]at q
    obtain⟨f1,a1,a2,q2⟩:=A7V b k hk' h1 (b.winds[k].length-1) 0 (by omega)
    have q2:=fun n m=>q2 n (m+200) (by omega)
    rw[bq]at q2
    cases hi:KM b.winds[k]with
    |false=>
     rw[hi]at q2
     refine⟨fr,e1,fun n m hm=>?_⟩
     obtain⟨m,rfl⟩:=qNz m (by omega)
     rw[AB]
     simp only[AC]at q2|-
     simp at q2
     simp[AM,AH,hlt,hk',h0',h0,q,q2]
    |true=>
     rw[hi]at q2
     refine⟨fr,e1,fun n m hm=>?_⟩
     obtain⟨m,rfl⟩:=qNz m (by omega)
     have ih:=ih n m (by omega)
     generalize (b.winds.drop (k+1)).all GK=z at ih|-
     rw[AB]
     simp only[AC]at q2 ih|-
     simp at q2
     cases z<;>(simp at ih;simp[AM,AH,hlt,hk',h0',h0,q,q2,a1,a2,hw,ih])
theorem A7W(b:AN)(h1:0<=b.rows/\b.rows<=1000)(h2:0<=b.places/\b.places<=1000)(hl:b.breaks.length<=100):∀(d k:Nat),k+d=b.breaks.length->∃fr,BS fr 1=some (true,.ptr 0 1 0 0) /\
  ∀n m,d<m->BT (AF bm ann kn (n+300) 181) OC (ann 181 (CA OC)) m ⟨1,[(1,true,.ptr 0 1 0 0),(5,true,i k)],⟨[],[(1,0,.box (AC b))]⟩⟩ =
   if (b.breaks.drop k).all (F7 b)=true then some (.exit 4,⟨1,fr,⟨[],[(1,0,.box (AC b))]⟩⟩) else some (.ret,⟨1,[(2,true,i 1)],⟨[],[]⟩⟩)
 |0,k,hk=>by
  have:k=b.breaks.length:=by omega
  subst this;rw[bk];refine⟨?fr,?g1,fun n m hm=>?g2⟩;case g2=>
   obtain⟨m,rfl⟩:=qNz m (by omega)
   rw[AB]
   simp[AC]
   rfl
  case g1=>simp
 |d+1,k,hk=>by
  have hk':k<b.breaks.length:=by omega
  have hw:=CB (k:=k) (by omega);obtain⟨fr,e1,ih⟩:=A7W b h1 h2 hl d (k+1) (by omega);have q:=fun n=>AUN n b b.breaks[k] h1 h2;rw[bj hk',bz];refine⟨fr,e1,fun n m hm=>?_⟩;obtain⟨m,rfl⟩:=qNz m (by omega);have ih:=ih n m (by omega);generalize F7 b b.breaks[k]=z1 at q|-;generalize (b.breaks.drop (k+1)).all (F7 b)=z at ih|-;rw[AB];simp only[AC,AL]at ih q|-;cases z1
  ·simp[hk',hw,AL,AH,AM,q]
  ·cases z<;>(simp at ih;simp[hk',hw,AL,AH,AM,q,ih])
theorem A7X(b:AN)(hl:b.notes.length<=100):∀(d k:Nat),k+d=b.notes.length->∃fr,
  ∀n m,d<m->BT (AF bm ann kn (n+300) 181) OD (ann 181 (CA OD)) m ⟨1,[(1,true,.ptr 0 1 0 0),(6,true,i k)],⟨[],[(1,0,.box (AC b))]⟩⟩ =
   if (b.notes.drop k).all (JR b)=true then some (.exit 6,⟨1,fr,⟨[],[(1,0,.box (AC b))]⟩⟩) else some (.ret,⟨1,[(2,true,i 1)],⟨[],[]⟩⟩)
 |0,k,hk=>by
  have:k=b.notes.length:=by omega
  subst this;rw[bk];refine⟨?fr,fun n m hm=>?g2⟩;case g2=>
   obtain⟨m,rfl⟩:=qNz m (by omega)
   rw[AB]
   simp[AC]
   rfl
 |d+1,k,hk=>by
  have hk':k<b.notes.length:=by omega
  have hw:=CB (k:=k) (by omega);obtain⟨fr,ih⟩:=A7X b hl d (k+1) (by omega);have q1:=fun n=>kIn n b.notes[k].1 0 b.last;have q2:=fun n=>kIn n b.notes[k].2 0 3;rw[bj hk',bz];refine⟨fr,fun n m hm=>?_⟩;obtain⟨m,rfl⟩:=qNz m (by omega);have ih:=ih n m (by omega);rw[show JR b b.notes[k]=(IJ b.notes[k].1 0 b.last&&IJ b.notes[k].2 0 3) from rfl];generalize IJ b.notes[k].1 0 b.last=z1 at q1|-;generalize IJ b.notes[k].2 0 3=z2 at q2|-;generalize (b.notes.drop (k+1)).all (JR b)=z at ih|-;rw[AB];simp only[AC]at ih|-;cases z1
  ·simp[hk',hw,AL,q1,DJ]
  ·cases z2
   ·simp[hk',hw,AL,q1,q2,DJ]
   ·cases z<;>(simp at ih;simp[hk',hw,AL,q1,q2,DJ,ih])
theorem AGY(n:Nat)(b:AN)(h100:∀l∈b.winds,l.length<=100):BA bm kn (AF bm ann kn (n+1000)) 108 [.agg (AC b)]=some (i (DZ b)):=by
 rw[AR rfl,AS Tryz.func108 BBW rfl (by simp[AC,AH,AM,AL])];unfold DZ;by_cases g1:(decide (4<b.last)||decide (3<b.rows)||decide (5<b.places)||decide (4<b.breaks.length)||decide (5<b.notes.length))=true
 ·rw[if_pos g1];have e4:decide ((4:Int)<(b.breaks.length:Int))=decide (4<b.breaks.length):=by congr 1;exact propext (by omega)
  have e5:decide ((5:Int)<(b.notes.length:Int))=decide (5<b.notes.length):=by congr 1;exact propext (by omega)
  generalize h1:decide (4<b.last)=z1 at g1;generalize h2:decide (3<b.rows)=z2 at g1;generalize h3:decide (5<b.places)=z3 at g1;generalize h4:decide (4<b.breaks.length)=z4 at g1 e4;generalize h5:decide (5<b.notes.length)=z5 at g1 e5;cases z1
  ·cases z2
   ·cases z3
    ·cases z4
     ·cases z5
      ·cases g1
      ·simp[N3,AD,AC,h1,h2,h3,e4,e5]
     ·simp[N3,AD,AC,h1,h2,h3,e4]
    ·simp[N3,AD,AC,h1,h2,h3]
   ·simp[N3,AD,AC,h1,h2]
  ·simp[N3,AD,AC,h1]
 ·rw[if_neg g1];simp only[Bool.or_eq_true,decide_eq_true_eq,not_or]at g1;obtain⟨⟨⟨⟨g1,g2⟩,g3⟩,g4⟩,g5⟩:=g1;have e4:¬((4:Int)<(b.breaks.length:Int)):=by omega
  have e5:¬((5:Int)<(b.notes.length:Int)):=by omega
  by_cases a1:b.last<0
  ·simp[N3,AD,AC,g1,g2,g3,e4,e5,a1]
  by_cases a2:b.rows<1
  ·simp[N3,AD,AC,g1,g2,g3,e4,e5,a1,a2]
  by_cases a3:b.places<1
  ·simp[N3,AD,AC,g1,g2,g3,e4,e5,a1,a2,a3]
  have qr:=fun n=>kIn n b.reach 0 4;have hwl:IntKind.i64.wrap (b.last+1)=b.last+1:=AY (by omega) (by omega);cases a4:IJ b.reach 0 4 with
  |false=>
   rw[a4]at qr
   simp[N3,AD,AC,g1,g2,g3,e4,e5,a1,a2,a3,qr]
  |true=>
  rw[a4]at qr;by_cases a5:(b.face.length:Int)=b.rows
  ·by_cases a6:(b.sun.length:Int)=b.last+1
   ·by_cases a7:(b.winds.length:Int)=b.last+1
    ·have qf:=fun n=>wE n b.face 0 (by omega);have qs:=fun n=>wE n b.sun (-1) (by omega);cases a8:EO b.face 0 with
     |false=>
      rw[a8]at qf
      simp[N3,AD,AC,AH,g1,g2,g3,e4,e5,a1,a2,a3,qr,a5,a6,a7,hwl,qf]
     |true=>
     rw[a8]at qf;cases a9:EO b.sun (-1)with
     |false=>
      rw[a9]at qs
      simp[N3,AD,AC,AH,g1,g2,g3,e4,e5,a1,a2,a3,qr,a5,a6,a7,hwl,qf,qs]
     |true=>
     rw[a9]at qs;obtain⟨f6,x6,q6⟩:=lF6 b (by omega) a7 h100 b.winds.length 0 (by omega);obtain⟨f16,x16,q16⟩:=A7W b (by omega) (by omega) (by omega) b.breaks.length 0 (by omega);obtain⟨f21,q21⟩:=A7X b (by omega) b.notes.length 0 (by omega);have q6:=fun n m=>q6 n (m+200) (by omega);have q16:=fun n m=>q16 n (m+200) (by omega);have q21:=fun n m=>q21 n (m+200) (by omega);rw[bq]at q6 q16 q21;generalize b.winds.all GK=z1 at q6|-;generalize b.breaks.all (F7 b)=z2 at q16|-;generalize b.notes.all (JR b)=z3 at q21|-;have a5':=a5;simp only[AC]at q6 q16 q21|-;cases z1 with
     |false=>
      simp at q6
      simp[N3,AD,AH,g1,g2,g3,e4,e5,a1,a2,a3,qr,a5,a6,a7,hwl,qf,qs,q6,x6]
     |true=>
      simp at q6
      cases z2 with
      |false=>
       simp at q16
       simp[N3,AD,AH,g1,g2,g3,e4,e5,a1,a2,a3,qr,a5,a6,a7,hwl,qf,qs,q6,q16,x6,x16]
      |true=>
       simp at q16
       cases z3<;>(simp at q21;simp[N3,AD,AH,g1,g2,g3,e4,e5,a1,a2,a3,qr,a5,a6,a7,hwl,qf,qs,q6,q16,q21,x6,x16])
    ·simp[N3,AD,AC,g1,g2,g3,e4,e5,a1,a2,a3,qr,a5,a6,a7,hwl]
   ·simp[N3,AD,AC,g1,g2,g3,e4,e5,a1,a2,a3,qr,a5,a6,hwl]
  ·simp[N3,AD,AC,g1,g2,g3,e4,e5,a1,a2,a3,qr,a5]
def W3(b:AN):Bool:=!(decide (5<b.face.length)||decide (7<b.sun.length)||!V1 b.winds||decide (6<b.breaks.length)||decide (7<b.notes.length))&&(!decide (DZ b=0)||decide (GR b.winds<=80))
theorem V2{ls:List (List Int)}(h:V1 ls=true):ls.length<=7/\∀l∈ls,l.length<=5:=by simp only[V1,Bool.and_eq_true,decide_eq_true_eq]at h;rw[bw (by omega)]at h;exact⟨h.2,fun l hl=>by simpa using List.all_eq_true.1 h.1 l hl⟩
theorem A7Y(n:Nat)(b:AN):BA bm kn (AF bm ann kn (n+1200)) 64 [.agg (AC b)]=some (.bool (W3 b)):=by
 rw[AR rfl,AS Tryz.func64 b64 rfl (by simp[AC,AH,AM,AL])];unfold W3;have e1:decide ((5:Int)<(b.face.length:Int))=decide (5<b.face.length):=by congr 1;exact propext (by omega)
 have e2:decide ((7:Int)<(b.sun.length:Int))=decide (7<b.sun.length):=by congr 1;exact propext (by omega)
 have e4:decide ((6:Int)<(b.breaks.length:Int))=decide (6<b.breaks.length):=by congr 1;exact propext (by omega)
 have e5:decide ((7:Int)<(b.notes.length:Int))=decide (7<b.notes.length):=by congr 1;exact propext (by omega)
 have qb:=fun n=>AUQ n b.winds;cases h1:decide (5<b.face.length)with
 |true=>rw[h1]at e1;simp[c64,AD,AC,e1]
 |false=>
 cases h2:decide (7<b.sun.length)with
 |true=>rw[h1]at e1;rw[h2]at e2;simp[c64,AD,AC,e1,e2]
 |false=>
 cases h3:V1 b.winds with
 |false=>rw[h1]at e1;rw[h2]at e2;rw[h3]at qb;simp[c64,AD,AC,AH,AM,e1,e2,qb]
 |true=>
 cases h4:decide (6<b.breaks.length)with
 |true=>rw[h1]at e1;rw[h2]at e2;rw[h3]at qb;rw[h4]at e4;simp[c64,AD,AC,AH,AM,e1,e2,qb,e4]
 |false=>
 cases h5:decide (7<b.notes.length)with
 |true=>rw[h1]at e1;rw[h2]at e2;rw[h3]at qb;rw[h4]at e4;rw[h5]at e5;simp[c64,AD,AC,AH,AM,e1,e2,qb,e4,e5]
 |false=>
  rw[h1]at e1
  rw[h2]at e2
  rw[h4]at e4
  rw[h5]at e5
  have qf:=fun n=>AGY n b fun l hl=>by have:=(V2 h3).2 l hl;omega
  rw[h3]at qb
  by_cases h0:DZ b=0
  ·have hb:=TB h0;have qm:=fun n=>AGX n b hb;rw[h0]at qf;have e6:decide ((GR b.winds:Int)<=80)=decide (GR b.winds<=80):=by congr 1;exact propext (by omega)
   generalize decide (GR b.winds<=80)=z at e6|-;simp only[AC]at qf qm|-;simp[c64,AD,AH,AM,AL,e1,e2,qb,e4,e5,qf,qm,h0,e6]
  ·simp only[AC]at qf|-;simp[c64,AD,AH,AM,AL,e1,e2,qb,e4,e5,qf,h0]
theorem A7Z{k:Nat}{x:Int}(h:k<=10000):BZ bm 3 k [[.int .i64 x]]=true:=by rw[CC (by simp) (by simp)];simp[maxLen];omega
theorem A70(b:AN)(hb:∀l∈b.winds,l≠[]/\l.length<=100)(hl:b.winds.length<=100):∀(d k nn c γ:Nat) (acc:List Int),k+d=b.winds.length->nn<=1000000->acc.length<=k->∃fr c' γ',BS fr 5=some (true,pv 29 γ' ((acc++EA (b.winds.drop k) nn).map AH)) /\
  ∀n m,d<m->BT (AF bm ann kn (n+100) 35) SG (ann 35 (CA SG)) m ⟨c,[(1,true,i nn),(2,true,.ptr 0 2 0 0),(5,true,pv 29 γ (acc.map AH)),(6,true,i k)],⟨[],(2,0,.box (AC b))::pl 29 γ 3 (acc.map AH)⟩⟩ =
   some (.exit 0,⟨c',fr,⟨[],(2,0,.box (AC b))::pl 29 γ' 3 ((acc++EA (b.winds.drop k) nn).map AH)⟩⟩)
 |0,k,nn,c,γ,acc,hk,hn,ha=>by
  have:k=b.winds.length:=by omega
  subst this;rw[bk];refine⟨?fr,c,γ,?g1,fun n m hm=>?g2⟩;case g2=>
   obtain⟨m,rfl⟩:=qNz m (by omega)
   rw[AB]
   simp[AC,EA]
   rfl
  case g1=>simp[EA]
 |d+1,k,nn,c,γ,acc,hk,hn,ha=>by
  have hk':k<b.winds.length:=by omega
  have hw:=CB (k:=k) (by omega);obtain⟨hne,h1⟩:=hb _ (bx hk');have hp:0<b.winds[k].length:=List.length_pos_iff.2 hne;have hp':¬(b.winds[k].length:Int)=0:=by omega
  have hmod:((nn:Int)).tmod (b.winds[k].length:Int)=((nn % b.winds[k].length:Nat):Int):=(Int.ofNat_tmod _ _).symm;have hdiv0:((nn:Int)).tdiv (b.winds[k].length:Int)=((nn / b.winds[k].length:Nat):Int):=(Int.ofNat_tdiv _ _).symm;have hml:nn % b.winds[k].length<b.winds[k].length:=Nat.mod_lt _ hp;have hdl:nn / b.winds[k].length<=nn:=Nat.div_le_self _ _;have hx:b.winds[k].getD (nn % b.winds[k].length) 0=b.winds[k][nn % b.winds[k].length]:=by rw[List.getD_eq_getElem?_getD,List.getElem?_eq_getElem hml];rfl
  have hgo:acc++EA (b.winds.drop k) nn=acc++[b.winds[k][nn % b.winds[k].length]]++EA (b.winds.drop (k+1)) (nn / b.winds[k].length):=by rw[bj hk'];simp only[EA,hx];simp
  have happ:=A7Z (k:=acc.length) (x:=b.winds[k][nn % b.winds[k].length]) (by omega);obtain⟨fr,c',γ',e1,ih⟩:=A70 b hb hl d (k+1) (nn / b.winds[k].length) (c+1) c (acc++[b.winds[k][nn % b.winds[k].length]]) (by omega) (Nat.le_trans hdl hn) (by simp;omega);rw[<-hgo]at e1 ih;refine⟨fr,c',γ',e1,fun n m hm=>?_⟩;obtain⟨m,rfl⟩:=qNz m (by omega);have ih:=ih n m (by omega);generalize acc++EA (b.winds.drop k) nn=fin at ih|-;generalize hY:nn % b.winds[k].length=Y at *;generalize nn / b.winds[k].length=Z at *;have hwd:IntKind.i64.wrap (Z:Int)=(Z:Int):=AY (by omega) (by omega);rw[AB];simp only[AC]at ih|-;simp[AH]at ih;simp[hk',hw,AM,AH,hne,hmod,hdiv0,hwd,hml,happ,DJ,FE,ih]
theorem BF0(n:Nat)(b:AN)(hb:Valid b)(k:Nat)(hk:k<=1000000):BA bm kn (AF bm ann kn (n+300)) 101 [.agg (AC b),i k]=some (sl ((EA b.winds k).map AH)):=by rw[AR rfl,AS Tryz.func101 BCC rfl (by simp[AC,AH,AM,AL])];have hl:=hb.hl;obtain⟨fr,c',γ',e1,q⟩:=A70 b (fun l h=>⟨hb.ne l h,by have:=(hb.wl l h).2;omega⟩) (by omega) b.winds.length 0 k 1 0 [] (by omega) hk (by simp);have q:=fun n m=>q n (m+20) (by omega);rw[bq,List.nil_append]at e1 q;generalize EA b.winds k=t at *;simp only[AC]at q|-;simp at q;simp[A1E,AD,q,e1];simp[AH]
end Go.Proofs.Tryz.Op
