/- Contracts of small functions: In, Directions, IsSpot, Has; list, lists, Spot, brief. No condition. -/
import Derived.Test.YthhdhbalenanjaaGreatSw
import Derived.Test.YthhdhbalenanjaaGreatL
import Derived.Test.YthhdhbalenanjaaGreatFz
set_option maxRecDepth 100000
set_option linter.unusedSimpArgs false
open Go Go.Pg Go.Proofs Go.Wind
namespace Go.Proofs.Tryz.Op
abbrev i(n:Int):V:=.int .i64 n
def AH(x:Int):List V:=[i x]
abbrev li(l:List Int):V:=.list false (l.map AH)
def AM(l:List Int):List V:=[li l]
abbrev GN(ls:List (List Int)):V:=.list false (ls.map AM)
def AG(p:Int×Int):List V:=[i p.1,i p.2]
def AB(b:AJ):List V:=[i b.last,i b.rows,i b.places,i b.reach,li b.face,li b.sun,GN b.winds,.list false (b.breaks.map AG),.list false (b.notes.map AG)]
def HR(b:AJ):List V:=[i b.last,i b.rows,i b.places,i b.reach,li b.face,li b.sun,GN b.winds,sl (b.breaks.map AG),sl (b.notes.map AG)]
theorem BH{k:Nat}(h:k≤1000000):IntKind.i64.wrap ((k:Int)+1)=((k+1:Nat):Int):=by rw[AV (by omega) (by omega)];rfl
theorem kIn(n:Nat)(x lo hi:Int):AW Tryz.prog kn (AE Tryz.prog ann kn (n+50)) 57 [i x,i lo,i hi]=some (.bool (FU x lo hi)):=by rw[AQ rfl,AP Tryz.func57 b57 rfl rfl];unfold FU;generalize e1:decide (lo≤x)=b1;simp[e1,c57,AF];cases b1<;>simp
theorem AOV(l:List Int)(lo:Int)(hl:l.length≤100):∀(d k:Nat),k+d=l.length→∃fr,∀n m,d<m→BC (AE Tryz.prog ann kn (n+100) 19) RS (ann 19 (BR RS)) m ⟨0,[(0,true,li l),(1,true,i lo),(5,true,i k)],⟨[],[]⟩⟩ =
  if EH (l.drop k) lo=true then some (.exit 0,⟨0,fr,⟨[],[]⟩⟩) else some (.ret,⟨0,[(4,true,.bool false)],⟨[],[]⟩⟩)
 |0,k,hk=>by
  have:k=l.length:=by omega
  subst this;refine⟨?fr,fun n m hm=>?_⟩;rotate_left
  ·obtain⟨m,rfl⟩:∃m',m=m'+1:=⟨m-1,by omega⟩;rw[List.drop_length,AC];simp[EH];rfl
 |d+1,k,hk=>by
  have hk':k<l.length:=by omega
  have hw:=BH (k:=k) (by omega);obtain⟨fr,ih⟩:=AOV l lo hl d (k+1) (by omega);have q:=fun n=>kIn n l[k] lo 3;rw[List.drop_eq_getElem_cons hk'];generalize hb:FU l[k] lo 3=b at q;simp only[EH,List.all_cons,hb]at ih⊢;cases b with
  |true=>
   refine⟨fr,fun n m hm=>?_⟩
   obtain⟨m,rfl⟩:∃m',m=m'+1:=⟨m-1,by omega⟩
   have ih:=ih n m (by omega)
   rw[AC]
   simp at ih
   simp[hk',hw,AH,q,ih]
  |false=>
   refine⟨[],fun n m hm=>?_⟩
   obtain⟨m,rfl⟩:∃m',m=m'+1:=⟨m-1,by omega⟩
   rw[AC]
   simp[hk',hw,AH,q]
theorem vU(n:Nat)(l:List Int)(lo:Int)(hl:l.length≤100):AW Tryz.prog kn (AE Tryz.prog ann kn (n+300)) 134 [li l,i lo]=some (.bool (EH l lo)):=by rw[AQ rfl,AP Tryz.func134 BCU rfl (by simp[AH])];obtain⟨fr,q⟩:=AOV l lo hl l.length 0 (by omega);have q:=fun n m=>q n (m+200) (by omega);rw[List.drop_zero]at q;generalize EH l lo=z at q⊢;cases z<;>(simp at q;simp[A00,AF,q])
theorem AUP(n:Nat)(b:AJ)(s:Int×Int)(h1:0≤b.rows∧b.rows≤1000)(h2:0≤b.places∧b.places≤1000):AW Tryz.prog kn (AE Tryz.prog ann kn (n+200)) 135 [.agg (AB b),.agg (AG s)]=some (.bool (FV b s)):=by rw[AQ rfl,AP Tryz.func135 BCV rfl (by simp[AB,AG,AH,AM])];have w1:IntKind.i64.wrap (b.rows-1)=b.rows-1:=AV (by omega) (by omega);have w2:IntKind.i64.wrap (b.places-1)=b.places-1:=AV (by omega) (by omega);have q1:=fun n=>kIn n s.1 0 (b.rows-1);have q2:=fun n=>kIn n s.2 0 (b.places-1);unfold FV;generalize FU s.1 0 (b.rows-1)=z1 at q1⊢;generalize FU s.2 0 (b.places-1)=z2 at q2⊢;cases z1<;>simp[A01,AF,AB,AG,w1,w2,q1,q2]
theorem A8M(l:List Int)(x:Int)(hl:l.length≤100):∀(d k:Nat),k+d=l.length→∃fr,∀n m,d<m→BC (AE Tryz.prog ann kn (n+100) Tryz.f75.ntmps) XO (ann Tryz.f75.ntmps (BR XO)) m ⟨0,[(0,true,li l),(1,true,i x),(5,true,i k)],⟨[],[]⟩⟩ =
  if x∈l.drop k then some (.ret,⟨0,[(4,true,.bool true)],⟨[],[]⟩⟩) else some (.exit 0,⟨0,fr,⟨[],[]⟩⟩)
 |0,k,hk=>by
  have:k=l.length:=by omega
  subst this;refine⟨?fr,fun n m hm=>?_⟩;rotate_left
  ·obtain⟨m,rfl⟩:∃m',m=m'+1:=⟨m-1,by omega⟩;rw[List.drop_length,if_neg (by simp),AC];simp[show Tryz.f75.ntmps=18 from rfl];rfl
 |d+1,k,hk=>by
  have hk':k<l.length:=by omega
  have hw:=BH (k:=k) (by omega);obtain⟨fr,ih⟩:=A8M l x hl d (k+1) (by omega);rw[List.drop_eq_getElem_cons hk'];by_cases h:x=l[k]
  ·refine⟨[],fun n m hm=>?_⟩;obtain⟨m,rfl⟩:∃m',m=m'+1:=⟨m-1,by omega⟩;rw[if_pos (List.mem_cons.2 (.inl h)),AC];simp[show Tryz.f75.ntmps=18 from rfl,hk',hw,AH,h]
  ·refine⟨fr,fun n m hm=>?_⟩;obtain⟨m,rfl⟩:∃m',m=m'+1:=⟨m-1,by omega⟩;have ih:=ih n m (by omega);have e:(x∈l[k]::l.drop (k+1))=(x∈l.drop (k+1)):=propext ⟨fun hh=>(List.mem_cons.1 hh).resolve_left h,fun hh=>List.mem_cons.2 (.inr hh)⟩;have h':¬l[k]=x:=fun hh=>h hh.symm;rw[AC];simp only[e];simp[show Tryz.f75.ntmps=18 from rfl]at ih;simp[show Tryz.f75.ntmps=18 from rfl,hk',hw,AH,h',ih]
theorem BHQ(n:Nat)(l:List Int)(x:Int)(hl:l.length≤100):AW Tryz.prog kn (AE Tryz.prog ann kn (n+300)) 75 [li l,i x]=some (.bool (decide (x∈l))):=by
 rw[AQ rfl,AP Tryz.func75 b75 rfl (by simp[AH])];obtain⟨fr,q⟩:=A8M l x hl l.length 0 (by omega);have q:=fun n m=>q n (m+200) (by omega);rw[List.drop_zero]at q;by_cases h:x∈l
 ·rw[if_pos h]at q;simp[show Tryz.f75.ntmps=18 from rfl]at q;simp[c75,AF,q,h]
 ·rw[if_neg h]at q;simp[show Tryz.f75.ntmps=18 from rfl]at q;simp[c75,AF,q,h]
theorem A8N{k:Nat}{l:List Int}(h:k+l.length≤100000):CA Tryz.prog 3 k (l.map AH)=true:=by rw[CH (by simp) (by simp)];simp[maxLen,AH];omega
theorem BHR{k:Nat}{l:List (List Int)}(h:k+l.length≤100000):CA Tryz.prog 22 k (l.map AM)=true:=by rw[CH (by simp) (by simp)];simp[maxLen,AM];omega
theorem AFX(n:Nat)(l:List Int)(hl:l.length≤100):AW Tryz.prog kn (AE Tryz.prog ann kn (n+100)) 114 [li l]=some (li l):=by rw[AQ rfl,AP Tryz.func114 BCX rfl (by simp[AH])];have ha:=A8N (k:=0) (l:=l) (by omega);have ht:(l.map AH).take l.length=l.map AH:=List.take_of_length_le (by simp);simp[A02,AF,ha,ht];simp[AH]
theorem AFY(ls:List (List Int))(h1:ls.length≤100)(h2:∀l∈ls,l.length≤100):∀(d k c γ:Nat) (acc:List (List Int)),k+d=ls.length→acc.length≤k→∃fr c' γ',fr=[(9,true,V.bool false),(8,true,i ls.length),(7,true,GN ls),(6,true,i ls.length),(0,true,GN ls),(3,true,pt 19 γ' ((acc++ls.drop k).map AM)),(4,true,i ls.length)]∧∀n m,d<m→BC (AE Tryz.prog ann kn (n+200) 21) RU (ann 21 (BR RU)) m ⟨c,[(0,true,GN ls),(3,true,pt 19 γ (acc.map AM)),(4,true,i k)],⟨[],pl 19 γ 22 (acc.map AM)⟩⟩ =
  some (.exit 0,⟨c',fr,⟨[],pl 19 γ' 22 ((acc++ls.drop k).map AM)⟩⟩)
 |0,k,c,γ,acc,hk,hc=>by
  have:k=ls.length:=by omega
  subst this;rw[List.drop_length,List.append_nil];refine⟨_,c,γ,rfl,fun n m hm=>?_⟩;obtain⟨m,rfl⟩:∃m',m=m'+1:=⟨m-1,by omega⟩;rw[AC];simp
 |d+1,k,c,γ,acc,hk,hc=>by
  have hk':k<ls.length:=by omega
  have hw:=BH (k:=k) (by omega);have q:=fun n=>AFX n ls[k] (h2 _ (List.getElem_mem hk'));have ha:=BHR (k:=acc.length) (l:=[ls[k]]) (by simp;omega);obtain⟨fr,c',γ',e1,ih⟩:=AFY ls h1 h2 d (k+1) (c+1) c (acc++[ls[k]]) (by omega) (by simp;omega);rw[List.append_assoc,List.singleton_append,←List.drop_eq_getElem_cons hk']at e1 ih;refine⟨fr,c',γ',e1,fun n m hm=>?_⟩;obtain⟨m,rfl⟩:∃m',m=m'+1:=⟨m-1,by omega⟩;have ih:=ih n m (by omega);generalize acc++ls.drop k=fin at ih⊢;rw[AC];simp[AM]at ih ha;simp[hk',hw,AM,AH,q,ha,ih]
theorem AUQ(n:Nat)(ls:List (List Int))(h1:ls.length≤100)(h2:∀l∈ls,l.length≤100):AW Tryz.prog kn (AE Tryz.prog ann kn (n+400)) 115 [GN ls]=some (GN ls):=by rw[AQ rfl,AP Tryz.func115 BCY rfl (by simp[AH,AM])];obtain⟨fr,c',γ',e1,q⟩:=AFY ls h1 h2 ls.length 0 0 0 [] (by omega) (by simp);have q:=fun n m=>q n (m+200) (by omega);simp at q e1;simp[A03,AF,q,e1];simp[AM,AH]
theorem AFZ(n:Nat)(s:Int×Int):AW Tryz.prog kn (AE Tryz.prog ann kn (n+50)) 48 [.agg (AG s)]=some (.agg (AG s)):=by rw[AQ rfl,AP Tryz.func48 b48 rfl (by simp[AG])];simp[c48,AF,AG]
def VT(ls:List (List Int)):Bool:=(ls.take 8).all (fun l=>decide (l.length≤5))&&decide (ls.length≤7)
theorem AF0(ls:List (List Int))(N:Nat)(hN:N=min 8 ls.length):∀(d k:Nat),k+d=N→∃fr,BZ fr 0=some (true,GN ls)∧∀n m,d<m→BC (AE Tryz.prog ann kn (n+100) 23) RW (ann 23 (BR RW)) m ⟨0,[(0,true,GN ls),(3,true,i k)],⟨[],[]⟩⟩ =
  if ((ls.take N).drop k).all (fun l=>decide (l.length≤5))=true then some (.exit 0,⟨0,fr,⟨[],[]⟩⟩) else some (.ret,⟨0,[(2,true,.bool false)],⟨[],[]⟩⟩)
 |0,k,hk=>by
  have hd:(ls.take N).drop k=[]:=List.drop_eq_nil_of_le (by simp;omega);rw[hd];by_cases h:k<ls.length
  ·have h8:k=8:=by omega
   subst h8;refine⟨?fr,?g1,fun n m hm=>?g2⟩;case g2=>
    obtain⟨m,rfl⟩:∃m',m=m'+1:=⟨m-1,by omega⟩
    rw[AC]
    have h:(8:Int)<ls.length:=by omega
    simp[h]
    rfl
   case g1=>simp
  ·refine⟨?fr2,?g3,fun n m hm=>?g4⟩;case g4=>
    obtain⟨m,rfl⟩:∃m',m=m'+1:=⟨m-1,by omega⟩
    rw[AC]
    simp[h]
    rfl
   case g3=>simp
 |d+1,k,hk=>by
  have hk':k<ls.length:=by omega
  have hk8:(k:Int)<8:=by omega
  have hw:=BH (k:=k) (by omega);obtain⟨fr,e1,ih⟩:=AF0 ls N hN d (k+1) (by omega);have hd:(ls.take N).drop k=ls[k]::(ls.take N).drop (k+1):=by rw[List.drop_eq_getElem_cons (by simp;omega),List.getElem_take]
  rw[hd];refine⟨fr,e1,fun n m hm=>?_⟩;obtain⟨m,rfl⟩:∃m',m=m'+1:=⟨m-1,by omega⟩;have ih:=ih n m (by omega);rw[AC,List.all_cons];by_cases h5:ls[k].length≤5
  ·have h5':¬(5:Int)<ls[k].length:=by omega
   rw[decide_eq_true h5,Bool.true_and];generalize ((ls.take N).drop (k+1)).all (fun l=>decide (l.length≤5))=z at ih⊢;cases z<;>(simp at ih;simp[hk',hk8,hw,AM,h5',ih])
  ·have h5':(5:Int)<ls[k].length:=by omega
   rw[decide_eq_false h5,Bool.false_and];simp[hk',hk8,hw,AM,h5']
theorem AUR(n:Nat)(ls:List (List Int)):AW Tryz.prog kn (AE Tryz.prog ann kn (n+200)) 107 [GN ls]=some (.bool (VT ls)):=by
 rw[AQ rfl,AP Tryz.func107 BCZ rfl (by simp[AH,AM])];obtain⟨fr,e1,q⟩:=AF0 ls _ rfl (min 8 ls.length) 0 (by omega);have q:=fun n m=>q n (m+20) (by omega);have e:(List.take (min 8 ls.length) ls).drop 0=ls.take 8:=by
  rw[List.drop_zero];rcases Nat.le_total 8 ls.length with h|h
  ·rw[Nat.min_eq_left h]
  ·rw[Nat.min_eq_right h,List.take_length,List.take_of_length_le h]
 rw[e]at q;unfold VT;generalize (ls.take 8).all (fun l=>decide (l.length≤5))=z at q⊢;have e7:decide ((ls.length:Int)≤7)=decide (ls.length≤7):=by congr 1;exact propext (by omega)
 cases z<;>(simp at q;simp[A04,AF,q,e1,e7])
theorem AOW(b:AJ)(h4:∀l∈b.winds,l.length≤4)(hl:b.winds.length≤5):∀(d k v:Nat),k+d=b.winds.length→v*4 ^ d≤1024→∃fr,BZ fr 3=some (true,i ((v*F4 (b.winds.drop k):Nat):Int))∧∀n m,d<m→BC (AE Tryz.prog ann kn (n+100) 21) RZ (ann 21 (BR RZ)) m ⟨1,[(1,true,.ptr 0 1 0 0),(3,true,i v),(4,true,i k)],⟨[],[(1,0,.box (AB b))]⟩⟩ =
  some (.exit 0,⟨1,fr,⟨[],[(1,0,.box (AB b))]⟩⟩)
 |0,k,v,hk,hv=>by
  have:k=b.winds.length:=by omega
  subst this;rw[List.drop_length];refine⟨?fr,?g1,fun n m hm=>?g2⟩;case g2=>
   obtain⟨m,rfl⟩:∃m',m=m'+1:=⟨m-1,by omega⟩
   rw[AC]
   simp[AB]
   rfl
  case g1=>simp[F4]
 |d+1,k,v,hk,hv=>by
  have hk':k<b.winds.length:=by omega
  have hw:=BH (k:=k) (by omega);have h5:=h4 _ (List.getElem_mem hk');have hp:0<4 ^ d:=Nat.pow_pos (by omega);have hle:v*b.winds[k].length*4 ^ d≤1024:=by refine Nat.le_trans ?_ hv;rw[Nat.pow_succ,Nat.mul_assoc,Nat.mul_comm (4 ^ d) 4];exact Nat.mul_le_mul_left _ (Nat.mul_le_mul_right _ h5)
  have hb:v*b.winds[k].length≤1024:=by refine Nat.le_trans ?_ hle;exact Nat.le_mul_of_pos_right _ hp
  have hw2:IntKind.i64.wrap ((v:Int)*(b.winds[k].length:Int))=((v*b.winds[k].length:Nat):Int):=by rw[←Int.natCast_mul,AV (by omega) (by omega)]
  obtain⟨fr,e1,ih⟩:=AOW b h4 hl d (k+1) (v*b.winds[k].length) (by omega) hle;rw[List.drop_eq_getElem_cons hk'];refine⟨fr,by rw[e1,F4,Nat.mul_assoc],fun n m hm=>?_⟩;obtain⟨m,rfl⟩:∃m',m=m'+1:=⟨m-1,by omega⟩;have ih:=ih n m (by omega);generalize v*b.winds[k].length=v2 at *;rw[AC];simp only[AB]at ih⊢;simp at ih;simp[hk',hw,hw2,AM,ih]
theorem AF1(n:Nat)(b:AJ)(hb:Valid b):AW Tryz.prog kn (AE Tryz.prog ann kn (n+200)) 100 [.agg (AB b)]=some (i (F4 b.winds)):=by
 rw[AQ rfl,AP Tryz.func100 BC0 rfl (by simp[AB,AH,AM,AG])];have hl:=hb.hl;obtain⟨fr,e1,q⟩:=AOW b (fun l h=>(hb.wl l h).2) hl b.winds.length 0 1 (by omega) (by
  have:4 ^ b.winds.length≤4 ^ 5:=Nat.pow_le_pow_right (by omega) hl;omega)
 have q:=fun n m=>q n (m+20) (by omega);rw[List.drop_zero,Nat.one_mul]at e1;simp only[AB]at q⊢;simp at q;simp[A05,AF,q,e1]
theorem zQ{l:List Int}{j:Nat}(h:j+1<l.length):JT (l.drop j)=(decide (l[j]<l[j+1])&&JT (l.drop (j+1))):=by rw[List.drop_eq_getElem_cons (by omega:j<l.length),List.drop_eq_getElem_cons h];rfl
theorem A8O(b:AJ)(h:Nat)(hh:h<b.winds.length)(hl:b.winds[h].length≤100):∀(d j:Nat),j+d+1=b.winds[h].length→∃fr,BZ fr 1=some (true,.ptr 0 1 0 0)∧BZ fr 3=some (true,i h) ∧
  ∀n m,d<m→BC (AE Tryz.prog ann kn (n+100) 181) NX (ann 181 (BR NX)) m ⟨1,[(1,true,.ptr 0 1 0 0),(3,true,i h),(4,true,i ((j+1:Nat):Int))],⟨[],[(1,0,.box (AB b))]⟩⟩ =
   if JT (b.winds[h].drop j)=true then some (.exit 2,⟨1,fr,⟨[],[(1,0,.box (AB b))]⟩⟩) else some (.ret,⟨1,[(2,true,i 1)],⟨[],[]⟩⟩)
 |0,j,hj=>by
  have hi:JT (b.winds[h].drop j)=true:=by rw[List.drop_eq_getElem_cons (by omega:j<b.winds[h].length),List.drop_eq_nil_of_le (by omega)];rfl
  rw[hi];have hlt:¬((j:Int)+1<b.winds[h].length):=by omega
  refine⟨?fr,?g1,?g3,fun n m hm=>?g2⟩;case g2=>
   obtain⟨m,rfl⟩:∃m',m=m'+1:=⟨m-1,by omega⟩
   rw[AC]
   simp[AB,AM,hh,hlt]
   rfl
  case g1=>simp
  case g3=>simp
 |d+1,j,hj=>by
  have hlt:(j:Int)+1<b.winds[h].length:=by omega
  have hlt':j+1<b.winds[h].length:=by omega
  have hlt0:j<b.winds[h].length:=by omega
  have hw:IntKind.i64.wrap ((j:Int)+1+1)=(j:Int)+1+1:=AV (by omega) (by omega);have hw1:IntKind.i64.wrap (j:Int)=(j:Int):=AV (by omega) (by omega);have hj0:(0:Int)≤(j:Int)+1:=by omega
  have hjt:((j:Int)+1).toNat=j+1:=by omega
  obtain⟨fr,e1,e2,ih⟩:=A8O b h hh hl d (j+1) (by omega);rw[zQ hlt'];by_cases hc:b.winds[h][j]<b.winds[h][j+1]
  ·refine⟨fr,e1,e2,fun n m hm=>?_⟩;obtain⟨m,rfl⟩:∃m',m=m'+1:=⟨m-1,by omega⟩;have ih:=ih n m (by omega);have hc':¬b.winds[h][j+1]≤b.winds[h][j]:=by omega
   rw[decide_eq_true hc,Bool.true_and];generalize JT (b.winds[h].drop (j+1))=z at ih⊢;rw[AC];simp only[AB]at ih⊢;cases z<;>(simp at ih;simp[AM,AH,hh,hlt,hlt',hlt0,hw,hw1,hj0,hjt,hc',ih])
  ·have hc':b.winds[h][j+1]≤b.winds[h][j]:=by omega
   rw[decide_eq_false hc,Bool.false_and];refine⟨fr,e1,e2,fun n m hm=>?_⟩;obtain⟨m,rfl⟩:∃m',m=m'+1:=⟨m-1,by omega⟩;rw[AC];simp[AB,AM,AH,hh,hlt,hlt',hlt0,hw,hw1,hj0,hjt,hc']
theorem lF6(b:AJ)(hl:b.winds.length≤100)(hlen:(b.winds.length:Int)=b.last+1)(h100:∀l∈b.winds,l.length≤100):∀(d k:Nat),k+d=b.winds.length→∃fr,BZ fr 1=some (true,.ptr 0 1 0 0) ∧
  ∀n m,d<m→BC (AE Tryz.prog ann kn (n+700) 181) R3 (ann 181 (BR R3)) m ⟨1,[(1,true,.ptr 0 1 0 0),(3,true,i k)],⟨[],[(1,0,.box (AB b))]⟩⟩ =
   if (b.winds.drop k).all F6=true then some (.exit 0,⟨1,fr,⟨[],[(1,0,.box (AB b))]⟩⟩) else some (.ret,⟨1,[(2,true,i 1)],⟨[],[]⟩⟩)
 |0,k,hk=>by
  have:k=b.winds.length:=by omega
  subst this;rw[List.drop_length];have hlt:¬((b.winds.length:Int)≤b.last):=by omega
  refine⟨?fr,?g1,fun n m hm=>?g2⟩;case g2=>
   obtain⟨m,rfl⟩:∃m',m=m'+1:=⟨m-1,by omega⟩
   rw[AC]
   simp[AB,hlt]
   rfl
  case g1=>simp
 |d+1,k,hk=>by
  have hk':k<b.winds.length:=by omega
  have hlt:(k:Int)≤b.last:=by omega
  have hw:=BH (k:=k) (by omega);have h1:=h100 _ (List.getElem_mem hk');obtain⟨fr,e1,ih⟩:=lF6 b hl hlen h100 d (k+1) (by omega);rw[List.drop_eq_getElem_cons hk',List.all_cons];have q:=fun n=>vU n b.winds[k] 0 h1;by_cases h0:b.winds[k].length=0
  ·have hwk:F6 b.winds[k]=false:=by rw[List.eq_nil_of_length_eq_zero h0];rfl
   rw[hwk,Bool.false_and];refine⟨fr,e1,fun n m hm=>?g2⟩;case g2=>
    obtain⟨m,rfl⟩:∃m',m=m'+1:=⟨m-1,by omega⟩
    rw[AC]
    have h0':(b.winds[k].length:Int)=0:=by omega
    simp[AB,AM,hlt,hk',h0',h0]
  ·have h0':¬(b.winds[k].length:Int)=0:=by omega
   have hne:b.winds[k].isEmpty=false:=by
    cases hz:b.winds[k]with
    |nil=>rw[hz]at h0;simp at h0
    |cons x r=>rfl
   have hwk:F6 b.winds[k]=(EH b.winds[k] 0&&JT b.winds[k]):=by simp[F6,hne]
   rw[hwk];cases hd:EH b.winds[k] 0 with
   |false=>
    rw[hd]at q
    refine⟨fr,e1,fun n m hm=>?g4⟩
    case g4=>
     obtain⟨m,rfl⟩:∃m',m=m'+1:=⟨m-1,by omega⟩
     rw[AC]
     simp[AB,AM,AH,hlt,hk',h0',h0,q]
   |true=>
    rw[hd]at q
    obtain⟨f1,a1,a2,q2⟩:=A8O b k hk' h1 (b.winds[k].length-1) 0 (by omega)
    have q2:=fun n m=>q2 n (m+200) (by omega)
    rw[List.drop_zero]at q2
    cases hi:JT b.winds[k]with
    |false=>
     rw[hi]at q2
     refine⟨fr,e1,fun n m hm=>?_⟩
     obtain⟨m,rfl⟩:∃m',m=m'+1:=⟨m-1,by omega⟩
     rw[AC]
     simp only[AB]at q2⊢
     simp at q2
     simp[AM,AH,hlt,hk',h0',h0,q,q2]
    |true=>
     rw[hi]at q2
     refine⟨fr,e1,fun n m hm=>?_⟩
     obtain⟨m,rfl⟩:∃m',m=m'+1:=⟨m-1,by omega⟩
     have ih:=ih n m (by omega)
     generalize (b.winds.drop (k+1)).all F6=z at ih⊢
     rw[AC]
     simp only[AB]at q2 ih⊢
     simp at q2
     cases z<;>(simp at ih;simp[AM,AH,hlt,hk',h0',h0,q,q2,a1,a2,hw,ih])
theorem A8P(b:AJ)(h1:0≤b.rows∧b.rows≤1000)(h2:0≤b.places∧b.places≤1000)(hl:b.breaks.length≤100):∀(d k:Nat),k+d=b.breaks.length→∃fr,BZ fr 1=some (true,.ptr 0 1 0 0) ∧
  ∀n m,d<m→BC (AE Tryz.prog ann kn (n+300) 181) NY (ann 181 (BR NY)) m ⟨1,[(1,true,.ptr 0 1 0 0),(5,true,i k)],⟨[],[(1,0,.box (AB b))]⟩⟩ =
   if (b.breaks.drop k).all (FV b)=true then some (.exit 4,⟨1,fr,⟨[],[(1,0,.box (AB b))]⟩⟩) else some (.ret,⟨1,[(2,true,i 1)],⟨[],[]⟩⟩)
 |0,k,hk=>by
  have:k=b.breaks.length:=by omega
  subst this;rw[List.drop_length];refine⟨?fr,?g1,fun n m hm=>?g2⟩;case g2=>
   obtain⟨m,rfl⟩:∃m',m=m'+1:=⟨m-1,by omega⟩
   rw[AC]
   simp[AB]
   rfl
  case g1=>simp
 |d+1,k,hk=>by
  have hk':k<b.breaks.length:=by omega
  have hw:=BH (k:=k) (by omega);obtain⟨fr,e1,ih⟩:=A8P b h1 h2 hl d (k+1) (by omega);have q:=fun n=>AUP n b b.breaks[k] h1 h2;rw[List.drop_eq_getElem_cons hk',List.all_cons];refine⟨fr,e1,fun n m hm=>?_⟩;obtain⟨m,rfl⟩:∃m',m=m'+1:=⟨m-1,by omega⟩;have ih:=ih n m (by omega);generalize FV b b.breaks[k]=z1 at q⊢;generalize (b.breaks.drop (k+1)).all (FV b)=z at ih⊢;rw[AC];simp only[AB,AG]at ih q⊢;cases z1
  ·simp[hk',hw,AG,AH,AM,q]
  ·cases z<;>(simp at ih;simp[hk',hw,AG,AH,AM,q,ih])
theorem A8Q(b:AJ)(hl:b.notes.length≤100):∀(d k:Nat),k+d=b.notes.length→∃fr,
  ∀n m,d<m→BC (AE Tryz.prog ann kn (n+300) 181) N3 (ann 181 (BR N3)) m ⟨1,[(1,true,.ptr 0 1 0 0),(6,true,i k)],⟨[],[(1,0,.box (AB b))]⟩⟩ =
   if (b.notes.drop k).all (JU b)=true then some (.exit 6,⟨1,fr,⟨[],[(1,0,.box (AB b))]⟩⟩) else some (.ret,⟨1,[(2,true,i 1)],⟨[],[]⟩⟩)
 |0,k,hk=>by
  have:k=b.notes.length:=by omega
  subst this;rw[List.drop_length];refine⟨?fr,fun n m hm=>?g2⟩;case g2=>
   obtain⟨m,rfl⟩:∃m',m=m'+1:=⟨m-1,by omega⟩
   rw[AC]
   simp[AB]
   rfl
 |d+1,k,hk=>by
  have hk':k<b.notes.length:=by omega
  have hw:=BH (k:=k) (by omega);obtain⟨fr,ih⟩:=A8Q b hl d (k+1) (by omega);have q1:=fun n=>kIn n b.notes[k].1 0 b.last;have q2:=fun n=>kIn n b.notes[k].2 0 3;rw[List.drop_eq_getElem_cons hk',List.all_cons];refine⟨fr,fun n m hm=>?_⟩;obtain⟨m,rfl⟩:∃m',m=m'+1:=⟨m-1,by omega⟩;have ih:=ih n m (by omega);rw[show JU b b.notes[k]=(FU b.notes[k].1 0 b.last&&FU b.notes[k].2 0 3) from rfl];generalize FU b.notes[k].1 0 b.last=z1 at q1⊢;generalize FU b.notes[k].2 0 3=z2 at q2⊢;generalize (b.notes.drop (k+1)).all (JU b)=z at ih⊢;rw[AC];simp only[AB]at ih⊢;cases z1
  ·simp[hk',hw,AG,q1,ET]
  ·cases z2
   ·simp[hk',hw,AG,q1,q2,ET]
   ·cases z<;>(simp at ih;simp[hk',hw,AG,q1,q2,ET,ih])
theorem AF2(n:Nat)(b:AJ)(h100:∀l∈b.winds,l.length≤100):AW Tryz.prog kn (AE Tryz.prog ann kn (n+1000)) 108 [.agg (AB b)]=some (i (CE b)):=by
 rw[AQ rfl,AP Tryz.func108 BC1 rfl (by simp[AB,AH,AM,AG])];unfold CE;by_cases g1:(decide (4<b.last)||decide (3<b.rows)||decide (5<b.places)||decide (4<b.breaks.length)||decide (5<b.notes.length))=true
 ·rw[if_pos g1];have e4:decide ((4:Int)<(b.breaks.length:Int))=decide (4<b.breaks.length):=by congr 1;exact propext (by omega)
  have e5:decide ((5:Int)<(b.notes.length:Int))=decide (5<b.notes.length):=by congr 1;exact propext (by omega)
  generalize h1:decide (4<b.last)=z1 at g1;generalize h2:decide (3<b.rows)=z2 at g1;generalize h3:decide (5<b.places)=z3 at g1;generalize h4:decide (4<b.breaks.length)=z4 at g1 e4;generalize h5:decide (5<b.notes.length)=z5 at g1 e5;cases z1
  ·cases z2
   ·cases z3
    ·cases z4
     ·cases z5
      ·cases g1
      ·simp[NH,AF,AB,h1,h2,h3,e4,e5]
     ·simp[NH,AF,AB,h1,h2,h3,e4]
    ·simp[NH,AF,AB,h1,h2,h3]
   ·simp[NH,AF,AB,h1,h2]
  ·simp[NH,AF,AB,h1]
 ·rw[if_neg g1];simp only[Bool.or_eq_true,decide_eq_true_eq,not_or]at g1;obtain⟨⟨⟨⟨g1,g2⟩,g3⟩,g4⟩,g5⟩:=g1;have e4:¬((4:Int)<(b.breaks.length:Int)):=by omega
  have e5:¬((5:Int)<(b.notes.length:Int)):=by omega
  by_cases a1:b.last<0
  ·simp[NH,AF,AB,g1,g2,g3,e4,e5,a1]
  by_cases a2:b.rows<1
  ·simp[NH,AF,AB,g1,g2,g3,e4,e5,a1,a2]
  by_cases a3:b.places<1
  ·simp[NH,AF,AB,g1,g2,g3,e4,e5,a1,a2,a3]
  have qr:=fun n=>kIn n b.reach 0 4;have hwl:IntKind.i64.wrap (b.last+1)=b.last+1:=AV (by omega) (by omega);cases a4:FU b.reach 0 4 with
  |false=>
   rw[a4]at qr
   simp[NH,AF,AB,g1,g2,g3,e4,e5,a1,a2,a3,qr]
  |true=>
  rw[a4]at qr;by_cases a5:(b.face.length:Int)=b.rows
  ·by_cases a6:(b.sun.length:Int)=b.last+1
   ·by_cases a7:(b.winds.length:Int)=b.last+1
    ·have qf:=fun n=>vU n b.face 0 (by omega);have qs:=fun n=>vU n b.sun (-1) (by omega);cases a8:EH b.face 0 with
     |false=>
      rw[a8]at qf
      simp[NH,AF,AB,AH,g1,g2,g3,e4,e5,a1,a2,a3,qr,a5,a6,a7,hwl,qf]
     |true=>
     rw[a8]at qf;cases a9:EH b.sun (-1)with
     |false=>
      rw[a9]at qs
      simp[NH,AF,AB,AH,g1,g2,g3,e4,e5,a1,a2,a3,qr,a5,a6,a7,hwl,qf,qs]
     |true=>
     rw[a9]at qs;obtain⟨f6,x6,q6⟩:=lF6 b (by omega) a7 h100 b.winds.length 0 (by omega);obtain⟨f16,x16,q16⟩:=A8P b (by omega) (by omega) (by omega) b.breaks.length 0 (by omega);obtain⟨f21,q21⟩:=A8Q b (by omega) b.notes.length 0 (by omega);have q6:=fun n m=>q6 n (m+200) (by omega);have q16:=fun n m=>q16 n (m+200) (by omega);have q21:=fun n m=>q21 n (m+200) (by omega);rw[List.drop_zero]at q6 q16 q21;generalize b.winds.all F6=z1 at q6⊢;generalize b.breaks.all (FV b)=z2 at q16⊢;generalize b.notes.all (JU b)=z3 at q21⊢;have a5':=a5;simp only[AB]at q6 q16 q21⊢;cases z1 with
     |false=>
      simp at q6
      simp[NH,AF,AH,g1,g2,g3,e4,e5,a1,a2,a3,qr,a5,a6,a7,hwl,qf,qs,q6,x6]
     |true=>
      simp at q6
      cases z2 with
      |false=>
       simp at q16
       simp[NH,AF,AH,g1,g2,g3,e4,e5,a1,a2,a3,qr,a5,a6,a7,hwl,qf,qs,q6,q16,x6,x16]
      |true=>
       simp at q16
       cases z3<;>(simp at q21;simp[NH,AF,AH,g1,g2,g3,e4,e5,a1,a2,a3,qr,a5,a6,a7,hwl,qf,qs,q6,q16,q21,x6,x16])
    ·simp[NH,AF,AB,g1,g2,g3,e4,e5,a1,a2,a3,qr,a5,a6,a7,hwl]
   ·simp[NH,AF,AB,g1,g2,g3,e4,e5,a1,a2,a3,qr,a5,a6,hwl]
  ·simp[NH,AF,AB,g1,g2,g3,e4,e5,a1,a2,a3,qr,a5]
def UG(b:AJ):Bool:=!(decide (5<b.face.length)||decide (7<b.sun.length)||!VT b.winds||decide (6<b.breaks.length)||decide (7<b.notes.length))&&(!decide (CE b=0)||decide (F4 b.winds≤80))
theorem VU{ls:List (List Int)}(h:VT ls=true):ls.length≤7∧∀l∈ls,l.length≤5:=by simp only[VT,Bool.and_eq_true,decide_eq_true_eq]at h;rw[List.take_of_length_le (by omega)]at h;exact⟨h.2,fun l hl=>by simpa using List.all_eq_true.1 h.1 l hl⟩
theorem A8R(n:Nat)(b:AJ):AW Tryz.prog kn (AE Tryz.prog ann kn (n+1200)) 64 [.agg (AB b)]=some (.bool (UG b)):=by
 rw[AQ rfl,AP Tryz.func64 b64 rfl (by simp[AB,AH,AM,AG])];unfold UG;have e1:decide ((5:Int)<(b.face.length:Int))=decide (5<b.face.length):=by congr 1;exact propext (by omega)
 have e2:decide ((7:Int)<(b.sun.length:Int))=decide (7<b.sun.length):=by congr 1;exact propext (by omega)
 have e4:decide ((6:Int)<(b.breaks.length:Int))=decide (6<b.breaks.length):=by congr 1;exact propext (by omega)
 have e5:decide ((7:Int)<(b.notes.length:Int))=decide (7<b.notes.length):=by congr 1;exact propext (by omega)
 have qb:=fun n=>AUR n b.winds;cases h1:decide (5<b.face.length)with
 |true=>rw[h1]at e1;simp[c64,AF,AB,e1]
 |false=>
 cases h2:decide (7<b.sun.length)with
 |true=>rw[h1]at e1;rw[h2]at e2;simp[c64,AF,AB,e1,e2]
 |false=>
 cases h3:VT b.winds with
 |false=>rw[h1]at e1;rw[h2]at e2;rw[h3]at qb;simp[c64,AF,AB,AH,AM,e1,e2,qb]
 |true=>
 cases h4:decide (6<b.breaks.length)with
 |true=>rw[h1]at e1;rw[h2]at e2;rw[h3]at qb;rw[h4]at e4;simp[c64,AF,AB,AH,AM,e1,e2,qb,e4]
 |false=>
 cases h5:decide (7<b.notes.length)with
 |true=>rw[h1]at e1;rw[h2]at e2;rw[h3]at qb;rw[h4]at e4;rw[h5]at e5;simp[c64,AF,AB,AH,AM,e1,e2,qb,e4,e5]
 |false=>
  rw[h1]at e1
  rw[h2]at e2
  rw[h4]at e4
  rw[h5]at e5
  have qf:=fun n=>AF2 n b fun l hl=>by have:=(VU h3).2 l hl;omega
  rw[h3]at qb
  by_cases h0:CE b=0
  ·have hb:=OC h0;have qm:=fun n=>AF1 n b hb;rw[h0]at qf;have e6:decide ((F4 b.winds:Int)≤80)=decide (F4 b.winds≤80):=by congr 1;exact propext (by omega)
   generalize decide (F4 b.winds≤80)=z at e6⊢;simp only[AB]at qf qm⊢;simp[c64,AF,AH,AM,AG,e1,e2,qb,e4,e5,qf,qm,h0,e6]
  ·simp only[AB]at qf⊢;simp[c64,AF,AH,AM,AG,e1,e2,qb,e4,e5,qf,h0]
def BHS(b:AJ):Bool:=UG b&&decide (CE b=0)
theorem AOX{k:Nat}{x:Int}(h:k≤10000):CA Tryz.prog 3 k [[.int .i64 x]]=true:=by rw[CH (by simp) (by simp)];simp[maxLen];omega
theorem A8S(b:AJ)(hb:∀l∈b.winds,l≠[]∧l.length≤100)(hl:b.winds.length≤100):∀(d k nn c γ:Nat) (acc:List Int),k+d=b.winds.length→nn≤1000000→acc.length≤k→∃fr c' γ',BZ fr 5=some (true,pv 29 γ' ((acc++D1 (b.winds.drop k) nn).map AH)) ∧
  ∀n m,d<m→BC (AE Tryz.prog ann kn (n+100) 35) R8 (ann 35 (BR R8)) m ⟨c,[(1,true,i nn),(2,true,.ptr 0 2 0 0),(5,true,pv 29 γ (acc.map AH)),(6,true,i k)],⟨[],(2,0,.box (AB b))::pl 29 γ 3 (acc.map AH)⟩⟩ =
   some (.exit 0,⟨c',fr,⟨[],(2,0,.box (AB b))::pl 29 γ' 3 ((acc++D1 (b.winds.drop k) nn).map AH)⟩⟩)
 |0,k,nn,c,γ,acc,hk,hn,ha=>by
  have:k=b.winds.length:=by omega
  subst this;rw[List.drop_length];refine⟨?fr,c,γ,?g1,fun n m hm=>?g2⟩;case g2=>
   obtain⟨m,rfl⟩:∃m',m=m'+1:=⟨m-1,by omega⟩
   rw[AC]
   simp[AB,D1]
   rfl
  case g1=>simp[D1]
 |d+1,k,nn,c,γ,acc,hk,hn,ha=>by
  have hk':k<b.winds.length:=by omega
  have hw:=BH (k:=k) (by omega);obtain⟨hne,h1⟩:=hb _ (List.getElem_mem hk');have hp:0<b.winds[k].length:=List.length_pos_iff.2 hne;have hp':¬(b.winds[k].length:Int)=0:=by omega
  have hmod:((nn:Int)).tmod (b.winds[k].length:Int)=((nn % b.winds[k].length:Nat):Int):=(Int.ofNat_tmod _ _).symm;have hdiv0:((nn:Int)).tdiv (b.winds[k].length:Int)=((nn / b.winds[k].length:Nat):Int):=(Int.ofNat_tdiv _ _).symm;have hml:nn % b.winds[k].length<b.winds[k].length:=Nat.mod_lt _ hp;have hdl:nn / b.winds[k].length≤nn:=Nat.div_le_self _ _;have hx:b.winds[k].getD (nn % b.winds[k].length) 0=b.winds[k][nn % b.winds[k].length]:=by rw[List.getD_eq_getElem?_getD,List.getElem?_eq_getElem hml];rfl
  have hgo:acc++D1 (b.winds.drop k) nn=acc++[b.winds[k][nn % b.winds[k].length]]++D1 (b.winds.drop (k+1)) (nn / b.winds[k].length):=by rw[List.drop_eq_getElem_cons hk'];simp only[D1,hx];simp
  have happ:=AOX (k:=acc.length) (x:=b.winds[k][nn % b.winds[k].length]) (by omega);obtain⟨fr,c',γ',e1,ih⟩:=A8S b hb hl d (k+1) (nn / b.winds[k].length) (c+1) c (acc++[b.winds[k][nn % b.winds[k].length]]) (by omega) (Nat.le_trans hdl hn) (by simp;omega);rw[←hgo]at e1 ih;refine⟨fr,c',γ',e1,fun n m hm=>?_⟩;obtain⟨m,rfl⟩:∃m',m=m'+1:=⟨m-1,by omega⟩;have ih:=ih n m (by omega);generalize acc++D1 (b.winds.drop k) nn=fin at ih⊢;generalize hY:nn % b.winds[k].length=Y at *;generalize nn / b.winds[k].length=Z at *;have hwd:IntKind.i64.wrap (Z:Int)=(Z:Int):=AV (by omega) (by omega);rw[AC];simp only[AB]at ih⊢;simp[AH]at ih;simp[hk',hw,AM,AH,hne,hmod,hdiv0,hwd,hml,happ,ET,HV,ih]
theorem BHT(n:Nat)(b:AJ)(hb:Valid b)(k:Nat)(hk:k≤1000000):AW Tryz.prog kn (AE Tryz.prog ann kn (n+300)) 101 [.agg (AB b),i k]=some (sl ((D1 b.winds k).map AH)):=by rw[AQ rfl,AP Tryz.func101 BDH rfl (by simp[AB,AH,AM,AG])];have hl:=hb.hl;obtain⟨fr,c',γ',e1,q⟩:=A8S b (fun l h=>⟨hb.ne l h,by have:=(hb.wl l h).2;omega⟩) (by omega) b.winds.length 0 k 1 0 [] (by omega) hk (by simp);have q:=fun n m=>q n (m+20) (by omega);rw[List.drop_zero,List.nil_append]at e1 q;generalize D1 b.winds k=t at *;simp only[AB]at q⊢;simp at q;simp[A1P,AF,q,e1];simp[AH]
def BP3(w:Nat):List V:=[.int .u16 w]
theorem AUS{x j:Nat}(hj:j≤60):YW .shr .i64 (x:Int) (j:Int)=some (.int .i64 ((x / 2 ^ j:Nat):Int)):=by
 rw[UF,if_neg (by omega)];have e:min (j:Int).toNat IntKind.i64.bits=j:=by simp only[Int.toNat_natCast,IntKind.bits];omega
 rw[e];have:(x:Int).fdiv (2 ^ j)=((x / 2 ^ j:Nat):Int):=by rw[Int.fdiv_eq_ediv_of_nonneg _ (by exact Int.le_of_lt (Int.pow_pos (by decide)))];simp
 rw[this]
theorem zR{p:Nat}(h:p≤100):IntKind.u64.wrap (p:Int)=(p:Int):=by simp only[IntKind.wrap,IntKind.bits,IntKind.signed];simp;omega
theorem sD(k:IntKind)(n:Int):K5 Tryz.prog 3 115 (.int k n)=some (.int .u64 (IntKind.u64.wrap n)):=by unfold K5;simp
end Go.Proofs.Tryz.Op
