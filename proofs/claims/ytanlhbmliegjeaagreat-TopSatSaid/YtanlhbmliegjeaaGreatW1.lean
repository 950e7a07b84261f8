/- Contracts of small functions: In, Directions, IsSpot, Has; list, lists, Spot, brief. No condition. -/
import Derived.Test.YtanlhbmliegjeaaGreatSw
import Derived.Test.YtanlhbmliegjeaaGreatL
import Derived.Test.YtanlhbmliegjeaaGreatFz
open Go.Proofs.Tryz renaming prog->bh,f83->bm
open List renaming drop_eq_getElem_cons->bj,drop_length->bk,drop_zero->bq,take_of_length_le->bw,getElem_mem->bx,all_cons->bz,drop_eq_nil_of_le->bb,mem_cons->bf
set_option maxRecDepth 100000
set_option linter.unusedSimpArgs false
open Go Go.Pg Go.Proofs Go.Wind
namespace Go.Proofs.Tryz.Op
abbrev i(n:Int):V:=.int .i64 n
def AH(x:Int):List V:=[i x]
abbrev li(l:List Int):V:=.list false (l.map AH)
def AN(l:List Int):List V:=[li l]
abbrev H6(ls:List (List Int)):V:=.list false (ls.map AN)
def AM(p:Int×Int):List V:=[i p.1,i p.2]
def AB(b:AL):List V:=[i b.last,i b.rows,i b.places,i b.reach,li b.face,li b.sun,H6 b.winds,.list false (b.breaks.map AM),.list false (b.notes.map AM)]
def IG(b:AL):List V:=[i b.last,i b.rows,i b.places,i b.reach,li b.face,li b.sun,H6 b.winds,sl (b.breaks.map AM),sl (b.notes.map AM)]
theorem BS{k:Nat}(h:k<=1000000):IntKind.i64.wrap ((k:Int)+1)=((k+1:Nat):Int):=by rw[AW (by omega) (by omega)];rfl
theorem kIn(n:Nat)(x lo hi:Int):AZ bh kn (AE bh ann kn (n+50)) 17 [i x,i lo,i hi]=some (.bool (HB x lo hi)):=by rw[AP rfl,AQ Tryz.func17 b17 rfl rfl];unfold HB;generalize e1:decide (lo<=x)=b1;simp[e1,c17,AD];cases b1<;>simp
theorem AOI(l:List Int)(lo:Int)(hl:l.length<=100):∀(d k:Nat),k+d=l.length->∃fr,∀n m,d<m->BG (AE bh ann kn (n+100) 19) W7 (ann 19 (BX W7)) m ⟨0,[(0,true,li l),(1,true,i lo),(5,true,i k)],⟨[],[]⟩⟩ =
  if EH (l.drop k) lo=true then some (.exit 0,⟨0,fr,⟨[],[]⟩⟩) else some (.ret,⟨0,[(4,true,.bool false)],⟨[],[]⟩⟩)
 |0,k,hk=>by
  have:k=l.length:=by omega
  subst this;refine⟨?fr,fun n m hm=>?_⟩;rotate_left
  ·obtain⟨m,rfl⟩:=qNz m (by omega);rw[bk,AC];simp[EH];rfl
 |d+1,k,hk=>by
  have hk':k<l.length:=by omega
  have hw:=BS (k:=k) (by omega);obtain⟨fr,ih⟩:=AOI l lo hl d (k+1) (by omega);have q:=fun n=>kIn n l[k] lo 3;rw[bj hk'];generalize hb:HB l[k] lo 3=b at q;simp only[EH,bz,hb]at ih|-;cases b with
  |true=>
   refine⟨fr,fun n m hm=>?_⟩
   obtain⟨m,rfl⟩:=qNz m (by omega)
   have ih:=ih n m (by omega)
   rw[AC]
   simp at ih
   simp[hk',hw,AH,q,ih]
  |false=>
   refine⟨[],fun n m hm=>?_⟩
   obtain⟨m,rfl⟩:=qNz m (by omega)
   rw[AC]
   simp[hk',hw,AH,q]
theorem wI(n:Nat)(l:List Int)(lo:Int)(hl:l.length<=100):AZ bh kn (AE bh ann kn (n+300)) 38 [li l,i lo]=some (.bool (EH l lo)):=by rw[AP rfl,AQ Tryz.func38 b38 rfl (by simp[AH])];obtain⟨fr,q⟩:=AOI l lo hl l.length 0 (by omega);have q:=fun n m=>q n (m+200) (by omega);rw[bq]at q;generalize EH l lo=z at q|-;cases z<;>(simp at q;simp[c38,AD,q])
theorem AT8(n:Nat)(b:AL)(s:Int×Int)(h1:0<=b.rows/\b.rows<=1000)(h2:0<=b.places/\b.places<=1000):AZ bh kn (AE bh ann kn (n+200)) 39 [.agg (AB b),.agg (AM s)]=some (.bool (FS b s)):=by rw[AP rfl,AQ Tryz.func39 b39 rfl (by simp[AB,AM,AH,AN])];have w1:IntKind.i64.wrap (b.rows-1)=b.rows-1:=AW (by omega) (by omega);have w2:IntKind.i64.wrap (b.places-1)=b.places-1:=AW (by omega) (by omega);have q1:=fun n=>kIn n s.1 0 (b.rows-1);have q2:=fun n=>kIn n s.2 0 (b.places-1);unfold FS;generalize HB s.1 0 (b.rows-1)=z1 at q1|-;generalize HB s.2 0 (b.places-1)=z2 at q2|-;cases z1<;>simp[c39,AD,AB,AM,w1,w2,q1,q2]
theorem A6H(l:List Int)(x:Int)(hl:l.length<=100):∀(d k:Nat),k+d=l.length->∃fr,∀n m,d<m->BG (AE bh ann kn (n+100) bm.ntmps) W8 (ann bm.ntmps (BX W8)) m ⟨0,[(0,true,li l),(1,true,i x),(5,true,i k)],⟨[],[]⟩⟩ =
  if x∈l.drop k then some (.ret,⟨0,[(4,true,.bool true)],⟨[],[]⟩⟩) else some (.exit 0,⟨0,fr,⟨[],[]⟩⟩)
 |0,k,hk=>by
  have:k=l.length:=by omega
  subst this;refine⟨?fr,fun n m hm=>?_⟩;rotate_left
  ·obtain⟨m,rfl⟩:=qNz m (by omega);rw[bk,if_neg (by simp),AC];simp[show bm.ntmps=18 from rfl];rfl
 |d+1,k,hk=>by
  have hk':k<l.length:=by omega
  have hw:=BS (k:=k) (by omega);obtain⟨fr,ih⟩:=A6H l x hl d (k+1) (by omega);rw[bj hk'];by_cases h:x=l[k]
  ·refine⟨[],fun n m hm=>?_⟩;obtain⟨m,rfl⟩:=qNz m (by omega);rw[if_pos (bf.2 (.inl h)),AC];simp[show bm.ntmps=18 from rfl,hk',hw,AH,h]
  ·refine⟨fr,fun n m hm=>?_⟩;obtain⟨m,rfl⟩:=qNz m (by omega);have ih:=ih n m (by omega);have e:(x∈l[k]::l.drop (k+1))=(x∈l.drop (k+1)):=propext ⟨fun hh=>(bf.1 hh).resolve_left h,fun hh=>bf.2 (.inr hh)⟩;have h':¬l[k]=x:=fun hh=>h hh.symm;rw[AC];simp only[e];simp[show bm.ntmps=18 from rfl]at ih;simp[show bm.ntmps=18 from rfl,hk',hw,AH,h',ih]
theorem BEQ(n:Nat)(l:List Int)(x:Int)(hl:l.length<=100):AZ bh kn (AE bh ann kn (n+300)) 83 [li l,i x]=some (.bool (decide (x∈l))):=by
 rw[AP rfl,AQ Tryz.func83 b83 rfl (by simp[AH])];obtain⟨fr,q⟩:=A6H l x hl l.length 0 (by omega);have q:=fun n m=>q n (m+200) (by omega);rw[bq]at q;by_cases h:x∈l
 ·rw[if_pos h]at q;simp[show bm.ntmps=18 from rfl]at q;simp[c83,AD,q,h]
 ·rw[if_neg h]at q;simp[show bm.ntmps=18 from rfl]at q;simp[c83,AD,q,h]
theorem A6I{k:Nat}{l:List Int}(h:k+l.length<=100000):CG bh 3 k (l.map AH)=true:=by rw[C3 (by simp) (by simp)];simp[maxLen,AH];omega
theorem BER{k:Nat}{l:List (List Int)}(h:k+l.length<=100000):CG bh 22 k (l.map AN)=true:=by rw[C3 (by simp) (by simp)];simp[maxLen,AN];omega
theorem AFZ(n:Nat)(l:List Int)(hl:l.length<=100):AZ bh kn (AE bh ann kn (n+100)) 28 [li l]=some (li l):=by rw[AP rfl,AQ Tryz.func28 b28 rfl (by simp[AH])];have ha:=A6I (k:=0) (l:=l) (by omega);have ht:(l.map AH).take l.length=l.map AH:=bw (by simp);simp[c28,AD,ha,ht];simp[AH]
theorem AF0(ls:List (List Int))(h1:ls.length<=100)(h2:∀l∈ls,l.length<=100):∀(d k c γ:Nat) (acc:List (List Int)),k+d=ls.length->acc.length<=k->∃fr c' γ',fr=[(9,true,V.bool false),(8,true,i ls.length),(7,true,H6 ls),(6,true,i ls.length),(0,true,H6 ls),(3,true,pt 19 γ' ((acc++ls.drop k).map AN)),(4,true,i ls.length)]/\∀n m,d<m->BG (AE bh ann kn (n+200) 21) W9 (ann 21 (BX W9)) m ⟨c,[(0,true,H6 ls),(3,true,pt 19 γ (acc.map AN)),(4,true,i k)],⟨[],pl 19 γ 22 (acc.map AN)⟩⟩ =
  some (.exit 0,⟨c',fr,⟨[],pl 19 γ' 22 ((acc++ls.drop k).map AN)⟩⟩)
 |0,k,c,γ,acc,hk,hc=>by
  have:k=ls.length:=by omega
  subst this;rw[bk,List.append_nil];refine⟨_,c,γ,rfl,fun n m hm=>?_⟩;obtain⟨m,rfl⟩:=qNz m (by omega);rw[AC];simp
 |d+1,k,c,γ,acc,hk,hc=>by
  have hk':k<ls.length:=by omega
  have hw:=BS (k:=k) (by omega);have q:=fun n=>AFZ n ls[k] (h2 _ (bx hk'));have ha:=BER (k:=acc.length) (l:=[ls[k]]) (by simp;omega);obtain⟨fr,c',γ',e1,ih⟩:=AF0 ls h1 h2 d (k+1) (c+1) c (acc++[ls[k]]) (by omega) (by simp;omega);rw[List.append_assoc,List.singleton_append,<-bj hk']at e1 ih;refine⟨fr,c',γ',e1,fun n m hm=>?_⟩;obtain⟨m,rfl⟩:=qNz m (by omega);have ih:=ih n m (by omega);generalize acc++ls.drop k=fin at ih|-;rw[AC];simp[AN]at ih ha;simp[hk',hw,AN,AH,q,ha,ih]
theorem AT9(n:Nat)(ls:List (List Int))(h1:ls.length<=100)(h2:∀l∈ls,l.length<=100):AZ bh kn (AE bh ann kn (n+400)) 29 [H6 ls]=some (H6 ls):=by rw[AP rfl,AQ Tryz.func29 b29 rfl (by simp[AH,AN])];obtain⟨fr,c',γ',e1,q⟩:=AF0 ls h1 h2 ls.length 0 0 0 [] (by omega) (by simp);have q:=fun n m=>q n (m+200) (by omega);simp at q e1;simp[c29,AD,q,e1];simp[AN,AH]
theorem AUA(n:Nat)(s:Int×Int):AZ bh kn (AE bh ann kn (n+50)) 30 [.agg (AM s)]=some (.agg (AM s)):=by rw[AP rfl,AQ Tryz.func30 b30 rfl (by simp[AM])];simp[c30,AD,AM]
def U1(ls:List (List Int)):Bool:=(ls.take 8).all (fun l=>decide (l.length<=5))&&decide (ls.length<=7)
theorem AF1(ls:List (List Int))(N:Nat)(hN:N=min 8 ls.length):∀(d k:Nat),k+d=N->∃fr,BQ fr 0=some (true,H6 ls)/\∀n m,d<m->BG (AE bh ann kn (n+100) 23) XA (ann 23 (BX XA)) m ⟨0,[(0,true,H6 ls),(3,true,i k)],⟨[],[]⟩⟩ =
  if ((ls.take N).drop k).all (fun l=>decide (l.length<=5))=true then some (.exit 0,⟨0,fr,⟨[],[]⟩⟩) else some (.ret,⟨0,[(2,true,.bool false)],⟨[],[]⟩⟩)
 |0,k,hk=>by
  have hd:(ls.take N).drop k=[]:=bb (by simp;omega);rw[hd];by_cases h:k<ls.length
  ·have h8:k=8:=by omega
   subst h8;refine⟨?fr,?g1,fun n m hm=>?g2⟩;case g2=>
    obtain⟨m,rfl⟩:=qNz m (by omega)
    rw[AC]
    have h:(8:Int)<ls.length:=by omega
    simp[h]
    rfl
   case g1=>simp
  ·refine⟨?fr2,?g3,fun n m hm=>?g4⟩;case g4=>
    obtain⟨m,rfl⟩:=qNz m (by omega)
    rw[AC]
    simp[h]
    rfl
   case g3=>simp
 |d+1,k,hk=>by
  have hk':k<ls.length:=by omega
  have hk8:(k:Int)<8:=by omega
  have hw:=BS (k:=k) (by omega);obtain⟨fr,e1,ih⟩:=AF1 ls N hN d (k+1) (by omega);have hd:(ls.take N).drop k=ls[k]::(ls.take N).drop (k+1):=by rw[bj (by simp;omega),List.getElem_take]
  rw[hd];refine⟨fr,e1,fun n m hm=>?_⟩;obtain⟨m,rfl⟩:=qNz m (by omega);have ih:=ih n m (by omega);rw[AC,bz];by_cases h5:ls[k].length<=5
  ·have h5':¬(5:Int)<ls[k].length:=by omega
   rw[decide_eq_true h5,Bool.true_and];generalize ((ls.take N).drop (k+1)).all (fun l=>decide (l.length<=5))=z at ih|-;cases z<;>(simp at ih;simp[hk',hk8,hw,AN,h5',ih])
  ·have h5':(5:Int)<ls[k].length:=by omega
   rw[decide_eq_false h5,Bool.false_and];simp[hk',hk8,hw,AN,h5']
theorem AUB(n:Nat)(ls:List (List Int)):AZ bh kn (AE bh ann kn (n+200)) 37 [H6 ls]=some (.bool (U1 ls)):=by
 rw[AP rfl,AQ Tryz.func37 b37 rfl (by simp[AH,AN])];obtain⟨fr,e1,q⟩:=AF1 ls _ rfl (min 8 ls.length) 0 (by omega);have q:=fun n m=>q n (m+20) (by omega);have e:(List.take (min 8 ls.length) ls).drop 0=ls.take 8:=by
  rw[bq];rcases Nat.le_total 8 ls.length with h|h
  ·rw[Nat.min_eq_left h]
  ·rw[Nat.min_eq_right h,List.take_length,bw h]
 rw[e]at q;unfold U1;generalize (ls.take 8).all (fun l=>decide (l.length<=5))=z at q|-;have e7:decide ((ls.length:Int)<=7)=decide (ls.length<=7):=by congr 1;exact propext (by omega)
 cases z<;>(simp at q;simp[c37,AD,q,e1,e7])
theorem AOJ(b:AL)(h4:∀l∈b.winds,l.length<=4)(hl:b.winds.length<=5):∀(d k v:Nat),k+d=b.winds.length->v*4 ^ d<=1024->∃fr,BQ fr 3=some (true,i ((v*F6 (b.winds.drop k):Nat):Int))/\∀n m,d<m->BG (AE bh ann kn (n+100) 21) XB (ann 21 (BX XB)) m ⟨1,[(1,true,.ptr 0 1 0 0),(3,true,i v),(4,true,i k)],⟨[],[(1,0,.box (AB b))]⟩⟩ =
  some (.exit 0,⟨1,fr,⟨[],[(1,0,.box (AB b))]⟩⟩)
 |0,k,v,hk,hv=>by
  have:k=b.winds.length:=by omega
  subst this;rw[bk];refine⟨?fr,?g1,fun n m hm=>?g2⟩;case g2=>
   obtain⟨m,rfl⟩:=qNz m (by omega)
   rw[AC]
   simp[AB]
   rfl
  case g1=>simp[F6]
 |d+1,k,v,hk,hv=>by
  have hk':k<b.winds.length:=by omega
  have hw:=BS (k:=k) (by omega);have h5:=h4 _ (bx hk');have hp:0<4 ^ d:=Nat.pow_pos (by omega);have hle:v*b.winds[k].length*4 ^ d<=1024:=by refine Nat.le_trans ?_ hv;rw[Nat.pow_succ,Nat.mul_assoc,Nat.mul_comm (4 ^ d) 4];exact Nat.mul_le_mul_left _ (Nat.mul_le_mul_right _ h5)
  have hb:v*b.winds[k].length<=1024:=by refine Nat.le_trans ?_ hle;exact Nat.le_mul_of_pos_right _ hp
  have hw2:IntKind.i64.wrap ((v:Int)*(b.winds[k].length:Int))=((v*b.winds[k].length:Nat):Int):=by rw[<-Int.natCast_mul,AW (by omega) (by omega)]
  obtain⟨fr,e1,ih⟩:=AOJ b h4 hl d (k+1) (v*b.winds[k].length) (by omega) hle;rw[bj hk'];refine⟨fr,by rw[e1,F6,Nat.mul_assoc],fun n m hm=>?_⟩;obtain⟨m,rfl⟩:=qNz m (by omega);have ih:=ih n m (by omega);generalize v*b.winds[k].length=v2 at *;rw[AC];simp only[AB]at ih|-;simp at ih;simp[hk',hw,hw2,AN,ih]
theorem AF2(n:Nat)(b:AL)(hb:Valid b):AZ bh kn (AE bh ann kn (n+200)) 21 [.agg (AB b)]=some (i (F6 b.winds)):=by
 rw[AP rfl,AQ Tryz.func21 b21 rfl (by simp[AB,AH,AN,AM])];have hl:=hb.hl;obtain⟨fr,e1,q⟩:=AOJ b (fun l h=>(hb.wl l h).2) hl b.winds.length 0 1 (by omega) (by
  have:4 ^ b.winds.length<=4 ^ 5:=Nat.pow_le_pow_right (by omega) hl;omega)
 have q:=fun n m=>q n (m+20) (by omega);rw[bq,Nat.one_mul]at e1;simp only[AB]at q|-;simp at q;simp[c21,AD,q,e1]
theorem AAN{l:List Int}{j:Nat}(h:j+1<l.length):J1 (l.drop j)=(decide (l[j]<l[j+1])&&J1 (l.drop (j+1))):=by rw[bj (by omega:j<l.length),bj h];rfl
theorem A6J(b:AL)(h:Nat)(hh:h<b.winds.length)(hl:b.winds[h].length<=100):∀(d j:Nat),j+d+1=b.winds[h].length->∃fr,BQ fr 1=some (true,.ptr 0 1 0 0)/\BQ fr 3=some (true,i h) /\
  ∀n m,d<m->BG (AE bh ann kn (n+100) 181) RC (ann 181 (BX RC)) m ⟨1,[(1,true,.ptr 0 1 0 0),(3,true,i h),(4,true,i ((j+1:Nat):Int))],⟨[],[(1,0,.box (AB b))]⟩⟩ =
   if J1 (b.winds[h].drop j)=true then some (.exit 2,⟨1,fr,⟨[],[(1,0,.box (AB b))]⟩⟩) else some (.ret,⟨1,[(2,true,i 1)],⟨[],[]⟩⟩)
 |0,j,hj=>by
  have hi:J1 (b.winds[h].drop j)=true:=by rw[bj (by omega:j<b.winds[h].length),bb (by omega)];rfl
  rw[hi];have hlt:¬((j:Int)+1<b.winds[h].length):=by omega
  refine⟨?fr,?g1,?g3,fun n m hm=>?g2⟩;case g2=>
   obtain⟨m,rfl⟩:=qNz m (by omega)
   rw[AC]
   simp[AB,AN,hh,hlt]
   rfl
  case g1=>simp
  case g3=>simp
 |d+1,j,hj=>by
  have hlt:(j:Int)+1<b.winds[h].length:=by omega
  have hlt':j+1<b.winds[h].length:=by omega
  have hlt0:j<b.winds[h].length:=by omega
  have hw:IntKind.i64.wrap ((j:Int)+1+1)=(j:Int)+1+1:=AW (by omega) (by omega);have hw1:IntKind.i64.wrap (j:Int)=(j:Int):=AW (by omega) (by omega);have hj0:(0:Int)<=(j:Int)+1:=by omega
  have hjt:((j:Int)+1).toNat=j+1:=by omega
  obtain⟨fr,e1,e2,ih⟩:=A6J b h hh hl d (j+1) (by omega);rw[AAN hlt'];by_cases hc:b.winds[h][j]<b.winds[h][j+1]
  ·refine⟨fr,e1,e2,fun n m hm=>?_⟩;obtain⟨m,rfl⟩:=qNz m (by omega);have ih:=ih n m (by omega);have hc':¬b.winds[h][j+1]<=b.winds[h][j]:=by omega
   rw[decide_eq_true hc,Bool.true_and];generalize J1 (b.winds[h].drop (j+1))=z at ih|-;rw[AC];simp only[AB]at ih|-;cases z<;>(simp at ih;simp[AN,AH,hh,hlt,hlt',hlt0,hw,hw1,hj0,hjt,hc',ih])
  ·have hc':b.winds[h][j+1]<=b.winds[h][j]:=by omega
   rw[decide_eq_false hc,Bool.false_and];refine⟨fr,e1,e2,fun n m hm=>?_⟩;obtain⟨m,rfl⟩:=qNz m (by omega);rw[AC];simp[AB,AN,AH,hh,hlt,hlt',hlt0,hw,hw1,hj0,hjt,hc']
theorem lF6(b:AL)(hl:b.winds.length<=100)(hlen:(b.winds.length:Int)=b.last+1)(h100:∀l∈b.winds,l.length<=100):∀(d k:Nat),k+d=b.winds.length->∃fr,BQ fr 1=some (true,.ptr 0 1 0 0) /\
  ∀n m,d<m->BG (AE bh ann kn (n+700) 181) XC (ann 181 (BX XC)) m ⟨1,[(1,true,.ptr 0 1 0 0),(3,true,i k)],⟨[],[(1,0,.box (AB b))]⟩⟩ =
   if (b.winds.drop k).all F1=true then some (.exit 0,⟨1,fr,⟨[],[(1,0,.box (AB b))]⟩⟩) else some (.ret,⟨1,[(2,true,i 1)],⟨[],[]⟩⟩)
 |0,k,hk=>by
  have:k=b.winds.length:=by omega
  subst this;rw[bk];have hlt:¬((b.winds.length:Int)<=b.last):=by omega
  refine⟨?fr,?g1,fun n m hm=>?g2⟩;case g2=>
   obtain⟨m,rfl⟩:=qNz m (by omega)
   rw[AC]
   simp[AB,hlt]
   rfl
  case g1=>simp
 |d+1,k,hk=>by
  have hk':k<b.winds.length:=by omega
  have hlt:(k:Int)<=b.last:=by omega
  have hw:=BS (k:=k) (by omega);have h1:=h100 _ (bx hk');obtain⟨fr,e1,ih⟩:=lF6 b hl hlen h100 d (k+1) (by omega);rw[bj hk',bz];have q:=fun n=>wI n b.winds[k] 0 h1;by_cases h0:b.winds[k].length=0
  ·have hwk:F1 b.winds[k]=false:=by rw[List.eq_nil_of_length_eq_zero h0];rfl
   rw[hwk,Bool.false_and];refine⟨fr,e1,fun n m hm=>?g2⟩;case g2=>
    obtain⟨m,rfl⟩:=qNz m (by omega)
    rw[AC]
    have h0':(b.winds[k].length:Int)=0:=by omega
    simp[AB,AN,hlt,hk',h0',h0]
  ·have h0':¬(b.winds[k].length:Int)=0:=by omega
   have hne:b.winds[k].isEmpty=false:=by
    cases hz:b.winds[k]with
    |nil=>rw[hz]at h0;simp at h0
    |cons x r=>rfl
   have hwk:F1 b.winds[k]=(EH b.winds[k] 0&&J1 b.winds[k]):=by simp[F1,hne]
   rw[hwk];cases hd:EH b.winds[k] 0 with
   |false=>
    rw[hd]at q
    refine⟨fr,e1,fun n m hm=>?g4⟩
    case g4=>
     obtain⟨m,rfl⟩:=qNz m (by omega)
     rw[AC]
     simp[AB,AN,AH,hlt,hk',h0',h0,q]
   |true=>
    rw[hd]at q
    obtain⟨f1,a1,a2,q2⟩:=A6J b k hk' h1 (b.winds[k].length-1) 0 (by omega)
    have q2:=fun n m=>q2 n (m+200) (by omega)
    rw[bq]at q2
    cases hi:J1 b.winds[k]with
    |false=>
     rw[hi]at q2
     refine⟨fr,e1,fun n m hm=>?_⟩
     obtain⟨m,rfl⟩:=qNz m (by omega)
     rw[AC]
     simp only[AB]at q2|-
     simp at q2
     simp[AN,AH,hlt,hk',h0',h0,q,q2]
    |true=>
     rw[hi]at q2
     refine⟨fr,e1,fun n m hm=>?_⟩
     obtain⟨m,rfl⟩:=qNz m (by omega)
     have ih:=ih n m (by omega)
     generalize (b.winds.drop (k+1)).all F1=z at ih|-
     rw[AC]
     simp only[AB]at q2 ih|-
     simp at q2
     cases z<;>(simp at ih;simp[AN,AH,hlt,hk',h0',h0,q,q2,a1,a2,hw,ih])
theorem A6K(b:AL)(h1:0<=b.rows/\b.rows<=1000)(h2:0<=b.places/\b.places<=1000)(hl:b.breaks.length<=100):∀(d k:Nat),k+d=b.breaks.length->∃fr,BQ fr 1=some (true,.ptr 0 1 0 0) /\
  ∀n m,d<m->BG (AE bh ann kn (n+300) 181) RD (ann 181 (BX RD)) m ⟨1,[(1,true,.ptr 0 1 0 0),(5,true,i k)],⟨[],[(1,0,.box (AB b))]⟩⟩ =
   if (b.breaks.drop k).all (FS b)=true then some (.exit 4,⟨1,fr,⟨[],[(1,0,.box (AB b))]⟩⟩) else some (.ret,⟨1,[(2,true,i 1)],⟨[],[]⟩⟩)
 |0,k,hk=>by
  have:k=b.breaks.length:=by omega
  subst this;rw[bk];refine⟨?fr,?g1,fun n m hm=>?g2⟩;case g2=>
   obtain⟨m,rfl⟩:=qNz m (by omega)
   rw[AC]
   simp[AB]
   rfl
  case g1=>simp
 |d+1,k,hk=>by
  have hk':k<b.breaks.length:=by omega
  have hw:=BS (k:=k) (by omega);obtain⟨fr,e1,ih⟩:=A6K b h1 h2 hl d (k+1) (by omega);have q:=fun n=>AT8 n b b.breaks[k] h1 h2;rw[bj hk',bz];refine⟨fr,e1,fun n m hm=>?_⟩;obtain⟨m,rfl⟩:=qNz m (by omega);have ih:=ih n m (by omega);generalize FS b b.breaks[k]=z1 at q|-;generalize (b.breaks.drop (k+1)).all (FS b)=z at ih|-;rw[AC];simp only[AB,AM]at ih q|-;cases z1
  ·simp[hk',hw,AM,AH,AN,q]
  ·cases z<;>(simp at ih;simp[hk',hw,AM,AH,AN,q,ih])
theorem A6L(b:AL)(hl:b.notes.length<=100):∀(d k:Nat),k+d=b.notes.length->∃fr,
  ∀n m,d<m->BG (AE bh ann kn (n+300) 181) RE (ann 181 (BX RE)) m ⟨1,[(1,true,.ptr 0 1 0 0),(6,true,i k)],⟨[],[(1,0,.box (AB b))]⟩⟩ =
   if (b.notes.drop k).all (JB b)=true then some (.exit 6,⟨1,fr,⟨[],[(1,0,.box (AB b))]⟩⟩) else some (.ret,⟨1,[(2,true,i 1)],⟨[],[]⟩⟩)
 |0,k,hk=>by
  have:k=b.notes.length:=by omega
  subst this;rw[bk];refine⟨?fr,fun n m hm=>?g2⟩;case g2=>
   obtain⟨m,rfl⟩:=qNz m (by omega)
   rw[AC]
   simp[AB]
   rfl
 |d+1,k,hk=>by
  have hk':k<b.notes.length:=by omega
  have hw:=BS (k:=k) (by omega);obtain⟨fr,ih⟩:=A6L b hl d (k+1) (by omega);have q1:=fun n=>kIn n b.notes[k].1 0 b.last;have q2:=fun n=>kIn n b.notes[k].2 0 3;rw[bj hk',bz];refine⟨fr,fun n m hm=>?_⟩;obtain⟨m,rfl⟩:=qNz m (by omega);have ih:=ih n m (by omega);rw[show JB b b.notes[k]=(HB b.notes[k].1 0 b.last&&HB b.notes[k].2 0 3) from rfl];generalize HB b.notes[k].1 0 b.last=z1 at q1|-;generalize HB b.notes[k].2 0 3=z2 at q2|-;generalize (b.notes.drop (k+1)).all (JB b)=z at ih|-;rw[AC];simp only[AB]at ih|-;cases z1
  ·simp[hk',hw,AM,q1,ED]
  ·cases z2
   ·simp[hk',hw,AM,q1,q2,ED]
   ·cases z<;>(simp at ih;simp[hk',hw,AM,q1,q2,ED,ih])
theorem AF3(n:Nat)(b:AL)(h100:∀l∈b.winds,l.length<=100):AZ bh kn (AE bh ann kn (n+1000)) 15 [.agg (AB b)]=some (i (C6 b)):=by
 rw[AP rfl,AQ Tryz.func15 b15 rfl (by simp[AB,AH,AN,AM])];unfold C6;by_cases g1:(decide (4<b.last)||decide (3<b.rows)||decide (5<b.places)||decide (4<b.breaks.length)||decide (5<b.notes.length))=true
 ·rw[if_pos g1];have e4:decide ((4:Int)<(b.breaks.length:Int))=decide (4<b.breaks.length):=by congr 1;exact propext (by omega)
  have e5:decide ((5:Int)<(b.notes.length:Int))=decide (5<b.notes.length):=by congr 1;exact propext (by omega)
  generalize h1:decide (4<b.last)=z1 at g1;generalize h2:decide (3<b.rows)=z2 at g1;generalize h3:decide (5<b.places)=z3 at g1;generalize h4:decide (4<b.breaks.length)=z4 at g1 e4;generalize h5:decide (5<b.notes.length)=z5 at g1 e5;cases z1
  ·cases z2
   ·cases z3
    ·cases z4
     ·cases z5
      ·cases g1
      ·simp[iT,AD,AB,h1,h2,h3,e4,e5]
     ·simp[iT,AD,AB,h1,h2,h3,e4]
    ·simp[iT,AD,AB,h1,h2,h3]
   ·simp[iT,AD,AB,h1,h2]
  ·simp[iT,AD,AB,h1]
 ·rw[if_neg g1];simp only[Bool.or_eq_true,decide_eq_true_eq,not_or]at g1;obtain⟨⟨⟨⟨g1,g2⟩,g3⟩,g4⟩,g5⟩:=g1;have e4:¬((4:Int)<(b.breaks.length:Int)):=by omega
  have e5:¬((5:Int)<(b.notes.length:Int)):=by omega
  by_cases a1:b.last<0
  ·simp[iT,AD,AB,g1,g2,g3,e4,e5,a1]
  by_cases a2:b.rows<1
  ·simp[iT,AD,AB,g1,g2,g3,e4,e5,a1,a2]
  by_cases a3:b.places<1
  ·simp[iT,AD,AB,g1,g2,g3,e4,e5,a1,a2,a3]
  have qr:=fun n=>kIn n b.reach 0 4;have hwl:IntKind.i64.wrap (b.last+1)=b.last+1:=AW (by omega) (by omega);cases a4:HB b.reach 0 4 with
  |false=>
   rw[a4]at qr
   simp[iT,AD,AB,g1,g2,g3,e4,e5,a1,a2,a3,qr]
  |true=>
  rw[a4]at qr;by_cases a5:(b.face.length:Int)=b.rows
  ·by_cases a6:(b.sun.length:Int)=b.last+1
   ·by_cases a7:(b.winds.length:Int)=b.last+1
    ·have qf:=fun n=>wI n b.face 0 (by omega);have qs:=fun n=>wI n b.sun (-1) (by omega);cases a8:EH b.face 0 with
     |false=>
      rw[a8]at qf
      simp[iT,AD,AB,AH,g1,g2,g3,e4,e5,a1,a2,a3,qr,a5,a6,a7,hwl,qf]
     |true=>
     rw[a8]at qf;cases a9:EH b.sun (-1)with
     |false=>
      rw[a9]at qs
      simp[iT,AD,AB,AH,g1,g2,g3,e4,e5,a1,a2,a3,qr,a5,a6,a7,hwl,qf,qs]
     |true=>
     rw[a9]at qs;obtain⟨f6,x6,q6⟩:=lF6 b (by omega) a7 h100 b.winds.length 0 (by omega);obtain⟨f16,x16,q16⟩:=A6K b (by omega) (by omega) (by omega) b.breaks.length 0 (by omega);obtain⟨f21,q21⟩:=A6L b (by omega) b.notes.length 0 (by omega);have q6:=fun n m=>q6 n (m+200) (by omega);have q16:=fun n m=>q16 n (m+200) (by omega);have q21:=fun n m=>q21 n (m+200) (by omega);rw[bq]at q6 q16 q21;generalize b.winds.all F1=z1 at q6|-;generalize b.breaks.all (FS b)=z2 at q16|-;generalize b.notes.all (JB b)=z3 at q21|-;have a5':=a5;simp only[AB]at q6 q16 q21|-;cases z1 with
     |false=>
      simp at q6
      simp[iT,AD,AH,g1,g2,g3,e4,e5,a1,a2,a3,qr,a5,a6,a7,hwl,qf,qs,q6,x6]
     |true=>
      simp at q6
      cases z2 with
      |false=>
       simp at q16
       simp[iT,AD,AH,g1,g2,g3,e4,e5,a1,a2,a3,qr,a5,a6,a7,hwl,qf,qs,q6,q16,x6,x16]
      |true=>
       simp at q16
       cases z3<;>(simp at q21;simp[iT,AD,AH,g1,g2,g3,e4,e5,a1,a2,a3,qr,a5,a6,a7,hwl,qf,qs,q6,q16,q21,x6,x16])
    ·simp[iT,AD,AB,g1,g2,g3,e4,e5,a1,a2,a3,qr,a5,a6,a7,hwl]
   ·simp[iT,AD,AB,g1,g2,g3,e4,e5,a1,a2,a3,qr,a5,a6,hwl]
  ·simp[iT,AD,AB,g1,g2,g3,e4,e5,a1,a2,a3,qr,a5]
def VZ(b:AL):Bool:=!(decide (5<b.face.length)||decide (7<b.sun.length)||!U1 b.winds||decide (6<b.breaks.length)||decide (7<b.notes.length))&&(!decide (C6 b=0)||decide (F6 b.winds<=80))
theorem U2{ls:List (List Int)}(h:U1 ls=true):ls.length<=7/\∀l∈ls,l.length<=5:=by simp only[U1,Bool.and_eq_true,decide_eq_true_eq]at h;rw[bw (by omega)]at h;exact⟨h.2,fun l hl=>by simpa using List.all_eq_true.1 h.1 l hl⟩
theorem A6M(n:Nat)(b:AL):AZ bh kn (AE bh ann kn (n+1200)) 14 [.agg (AB b)]=some (.bool (VZ b)):=by
 rw[AP rfl,AQ Tryz.func14 b14 rfl (by simp[AB,AH,AN,AM])];unfold VZ;have e1:decide ((5:Int)<(b.face.length:Int))=decide (5<b.face.length):=by congr 1;exact propext (by omega)
 have e2:decide ((7:Int)<(b.sun.length:Int))=decide (7<b.sun.length):=by congr 1;exact propext (by omega)
 have e4:decide ((6:Int)<(b.breaks.length:Int))=decide (6<b.breaks.length):=by congr 1;exact propext (by omega)
 have e5:decide ((7:Int)<(b.notes.length:Int))=decide (7<b.notes.length):=by congr 1;exact propext (by omega)
 have qb:=fun n=>AUB n b.winds;cases h1:decide (5<b.face.length)with
 |true=>rw[h1]at e1;simp[c14,AD,AB,e1]
 |false=>
 cases h2:decide (7<b.sun.length)with
 |true=>rw[h1]at e1;rw[h2]at e2;simp[c14,AD,AB,e1,e2]
 |false=>
 cases h3:U1 b.winds with
 |false=>rw[h1]at e1;rw[h2]at e2;rw[h3]at qb;simp[c14,AD,AB,AH,AN,e1,e2,qb]
 |true=>
 cases h4:decide (6<b.breaks.length)with
 |true=>rw[h1]at e1;rw[h2]at e2;rw[h3]at qb;rw[h4]at e4;simp[c14,AD,AB,AH,AN,e1,e2,qb,e4]
 |false=>
 cases h5:decide (7<b.notes.length)with
 |true=>rw[h1]at e1;rw[h2]at e2;rw[h3]at qb;rw[h4]at e4;rw[h5]at e5;simp[c14,AD,AB,AH,AN,e1,e2,qb,e4,e5]
 |false=>
  rw[h1]at e1
  rw[h2]at e2
  rw[h4]at e4
  rw[h5]at e5
  have qf:=fun n=>AF3 n b fun l hl=>by have:=(U2 h3).2 l hl;omega
  rw[h3]at qb
  by_cases h0:C6 b=0
  ·have hb:=LP h0;have qm:=fun n=>AF2 n b hb;rw[h0]at qf;have e6:decide ((F6 b.winds:Int)<=80)=decide (F6 b.winds<=80):=by congr 1;exact propext (by omega)
   generalize decide (F6 b.winds<=80)=z at e6|-;simp only[AB]at qf qm|-;simp[c14,AD,AH,AN,AM,e1,e2,qb,e4,e5,qf,qm,h0,e6]
  ·simp only[AB]at qf|-;simp[c14,AD,AH,AN,AM,e1,e2,qb,e4,e5,qf,h0]
theorem AOK{k:Nat}{x:Int}(h:k<=10000):CG bh 3 k [[.int .i64 x]]=true:=by rw[C3 (by simp) (by simp)];simp[maxLen];omega
theorem A6N(b:AL)(hb:∀l∈b.winds,l≠[]/\l.length<=100)(hl:b.winds.length<=100):∀(d k nn c γ:Nat) (acc:List Int),k+d=b.winds.length->nn<=1000000->acc.length<=k->∃fr c' γ',BQ fr 5=some (true,pv 29 γ' ((acc++D5 (b.winds.drop k) nn).map AH)) /\
  ∀n m,d<m->BG (AE bh ann kn (n+100) 35) XD (ann 35 (BX XD)) m ⟨c,[(1,true,i nn),(2,true,.ptr 0 2 0 0),(5,true,pv 29 γ (acc.map AH)),(6,true,i k)],⟨[],(2,0,.box (AB b))::pl 29 γ 3 (acc.map AH)⟩⟩ =
   some (.exit 0,⟨c',fr,⟨[],(2,0,.box (AB b))::pl 29 γ' 3 ((acc++D5 (b.winds.drop k) nn).map AH)⟩⟩)
 |0,k,nn,c,γ,acc,hk,hn,ha=>by
  have:k=b.winds.length:=by omega
  subst this;rw[bk];refine⟨?fr,c,γ,?g1,fun n m hm=>?g2⟩;case g2=>
   obtain⟨m,rfl⟩:=qNz m (by omega)
   rw[AC]
   simp[AB,D5]
   rfl
  case g1=>simp[D5]
 |d+1,k,nn,c,γ,acc,hk,hn,ha=>by
  have hk':k<b.winds.length:=by omega
  have hw:=BS (k:=k) (by omega);obtain⟨hne,h1⟩:=hb _ (bx hk');have hp:0<b.winds[k].length:=List.length_pos_iff.2 hne;have hp':¬(b.winds[k].length:Int)=0:=by omega
  have hmod:((nn:Int)).tmod (b.winds[k].length:Int)=((nn % b.winds[k].length:Nat):Int):=(Int.ofNat_tmod _ _).symm;have hdiv0:((nn:Int)).tdiv (b.winds[k].length:Int)=((nn / b.winds[k].length:Nat):Int):=(Int.ofNat_tdiv _ _).symm;have hml:nn % b.winds[k].length<b.winds[k].length:=Nat.mod_lt _ hp;have hdl:nn / b.winds[k].length<=nn:=Nat.div_le_self _ _;have hx:b.winds[k].getD (nn % b.winds[k].length) 0=b.winds[k][nn % b.winds[k].length]:=by rw[List.getD_eq_getElem?_getD,List.getElem?_eq_getElem hml];rfl
  have hgo:acc++D5 (b.winds.drop k) nn=acc++[b.winds[k][nn % b.winds[k].length]]++D5 (b.winds.drop (k+1)) (nn / b.winds[k].length):=by rw[bj hk'];simp only[D5,hx];simp
  have happ:=AOK (k:=acc.length) (x:=b.winds[k][nn % b.winds[k].length]) (by omega);obtain⟨fr,c',γ',e1,ih⟩:=A6N b hb hl d (k+1) (nn / b.winds[k].length) (c+1) c (acc++[b.winds[k][nn % b.winds[k].length]]) (by omega) (Nat.le_trans hdl hn) (by simp;omega);rw[<-hgo]at e1 ih;refine⟨fr,c',γ',e1,fun n m hm=>?_⟩;obtain⟨m,rfl⟩:=qNz m (by omega);have ih:=ih n m (by omega);generalize acc++D5 (b.winds.drop k) nn=fin at ih|-;generalize hY:nn % b.winds[k].length=Y at *;generalize nn / b.winds[k].length=Z at *;have hwd:IntKind.i64.wrap (Z:Int)=(Z:Int):=AW (by omega) (by omega);rw[AC];simp only[AB]at ih|-;simp[AH]at ih;simp[hk',hw,AN,AH,hne,hmod,hdiv0,hwd,hml,happ,ED,IL,ih]
theorem BES(n:Nat)(b:AL)(hb:Valid b)(k:Nat)(hk:k<=1000000):AZ bh kn (AE bh ann kn (n+300)) 22 [.agg (AB b),i k]=some (sl ((D5 b.winds k).map AH)):=by rw[AP rfl,AQ Tryz.func22 b22 rfl (by simp[AB,AH,AN,AM])];have hl:=hb.hl;obtain⟨fr,c',γ',e1,q⟩:=A6N b (fun l h=>⟨hb.ne l h,by have:=(hb.wl l h).2;omega⟩) (by omega) b.winds.length 0 k 1 0 [] (by omega) hk (by simp);have q:=fun n m=>q n (m+20) (by omega);rw[bq,List.nil_append]at e1 q;generalize D5 b.winds k=t at *;simp only[AB]at q|-;simp at q;simp[c22,AD,q,e1];simp[AH]
end Go.Proofs.Tryz.Op
