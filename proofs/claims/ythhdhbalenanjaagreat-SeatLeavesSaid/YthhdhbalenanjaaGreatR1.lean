/- Contracts: Before, Shorter. No condition. -/
import Derived.Test.YthhdhbalenanjaaGreatW1
open Go.Proofs.Tryz renaming prog->bq
open List renaming drop_eq_getElem_cons->bj,drop_eq_nil_of_le->bk
set_option maxRecDepth 100000
set_option linter.unusedSimpArgs false
open Go Go.Pg Go.Proofs Go.Wind
namespace Go.Proofs.Tryz.Op
def DL:List Int->List Int->Bool
 |x::xs,y::ys=>if x=y then DL xs ys else decide (x<y)
 |[],_::_=>true
 |_,[]=>false
theorem dI(xs:List Int):DL xs []=false:=by cases xs<;>rfl
theorem xZ(xs ys:List Int)(hx:xs.length<=90)(hy:ys.length<=90)(c:Nat):∀(d j:Nat),j+d=xs.length->j<=ys.length->∀n p m,d<m ->
  dS bq [.tmp 4] (eZ (AE bq ann kn (p+20) 41) ((QX 11).seq .ret) (LG 0 (A8 (AE bq ann kn (n+100) 41) S7 (ann 41 (BU S7)) m ⟨c,[(0,true,.list false (xs.map AJ)),(1,true,.list false (ys.map AJ)),(5,true,i j)],⟨[],[]⟩⟩))) =
   some (.bool (DL (xs.drop j) (ys.drop j)))
 |0,j,hd,hj,n,p,m,hm=>by
  have hjx:j=xs.length:=by omega
  subst hjx;obtain⟨m,rfl⟩:=qNz m (by omega);have hv:DL (xs.drop xs.length) (ys.drop xs.length)=decide (xs.length<ys.length):=by
   rw[List.drop_length];by_cases h:xs.length<ys.length
   ·rw[bj h,decide_eq_true h];rfl
   ·rw[bk (by omega),decide_eq_false h];rfl
  rw[hv];simp[AB];done
 |d+1,j,hd,hj,n,p,m,hm=>by
  have hjx:j<xs.length:=by omega
  have hw:IntKind.i64.wrap ((j:Int)+1)=(j:Int)+1:=AO (by omega) (by omega);obtain⟨m,rfl⟩:=qNz m (by omega);by_cases hjy:j<ys.length
  ·rw[bj hjx,bj hjy];simp only[DL];by_cases h:xs[j]=ys[j]
   ·rw[if_pos h];have ih:=xZ xs ys hx hy c d (j+1) (by omega) (by omega) n p m (by omega);generalize DL (xs.drop (j+1)) (ys.drop (j+1))=z at ih|-;rw[AB];simp at ih;simp[hjx,hjy,hw,AJ,h,ih];done
   ·rw[if_neg h,AB];simp[hjx,hjy,AJ,h];done
  ·have hn:¬xs.length<ys.length:=by omega
   rw[bk (show ys.length<=j by omega),dI,AB];simp[hjx,hjy,hn];done
theorem ANC(n:Nat)(xs ys:List Int)(hx:xs.length<=90)(hy:ys.length<=90):AY bq kn (AE bq ann kn (n+200)) 104 [.list false (xs.map AJ),.list false (ys.map AJ)]=some (.bool (DL xs ys)):=by rw[AN rfl,AM Tryz.func104 BEM rfl (by simp[AJ])];have q:=xZ xs ys hx hy 0 xs.length 0 (by omega) (by omega) (n+95) (n+178) (n+195) (by omega);simp only[List.drop_zero]at q;generalize DL xs ys=z at q|-;simp at q;simp[A32,AF,q];done
def E8(xs ys:List Int):Bool:=decide (xs.length<ys.length)||(decide (xs.length=ys.length)&&DL xs ys)
theorem AHP(n:Nat)(xs ys:List Int)(hx:xs.length<=90)(hy:ys.length<=90):AY bq kn (AE bq ann kn (n+300)) 61 [.list false (xs.map AJ),.list false (ys.map AJ)]=some (.bool (E8 xs ys)):=by
 rw[AN rfl,AM Tryz.func61 b61 rfl (by simp[AJ])];have q:=fun n=>ANC n xs ys hx hy;unfold E8;generalize DL xs ys=z at q|-;by_cases h1:xs.length<ys.length
 ·simp[c61,AF,h1];done
 ·by_cases h2:xs.length=ys.length
  ·have h3:(xs.length:Int)=(ys.length:Int):=by omega
   simp[c61,AF,h2,q,AJ];done
  ·have h3:¬((xs.length:Int)=(ys.length:Int)):=by omega
   simp[c61,AF,h1,h2,h3];done
theorem A53(x N:Nat)(hN:N<=30)(hx:x<2 ^ N):∀(d j:Nat) (c γ:Nat),j+d=N->∃(c' γ' jf:Nat),∀n m,d<m ->
  A8 (AE bq ann kn (n+100) 23) QY (ann 23 (BU QY)) m ⟨c,[(0,true,i x),(3,true,pv 21 γ ((BR x j).map AJ)),(4,true,i j)],⟨[],pl 21 γ 3 ((BR x j).map AJ)⟩⟩ =
   some (.exit 0,⟨c',[(9,true,.bool false),(8,true,i 0),(7,true,.int .u64 jf),(6,true,i jf),(5,true,i x),(0,true,i x),(3,true,pv 21 γ' ((BR x N).map AJ)),(4,true,i jf)],⟨[],pl 21 γ' 3 ((BR x N).map AJ)⟩⟩):=by
 have base:∀(j c γ:Nat),j<=N->x<2 ^ j->∀n m,0<m ->
  A8 (AE bq ann kn (n+100) 23) QY (ann 23 (BU QY)) m ⟨c,[(0,true,i x),(3,true,pv 21 γ ((BR x j).map AJ)),(4,true,i j)],⟨[],pl 21 γ 3 ((BR x j).map AJ)⟩⟩ =
   some (.exit 0,⟨c,[(9,true,.bool false),(8,true,i 0),(7,true,.int .u64 j),(6,true,i j),(5,true,i x),(0,true,i x),(3,true,pv 21 γ ((BR x N).map AJ)),(4,true,i j)],⟨[],pl 21 γ 3 ((BR x N).map AJ)⟩⟩):=by
  intro j c γ hj hlt n m hm
  obtain⟨m,rfl⟩:=qNz m (by omega)
  have e1:=vD (x:=x) (j:=j) (by omega)
  have e2:=MG (p:=j) (by omega)
  rw[Nat.div_eq_of_lt hlt]at e1
  obtain⟨d,rfl⟩:∃d,N=j+d:=⟨N-j,by omega⟩
  rw[aM hlt d]
  simp[NG,AB,e2,e1,-KE]
  done
 intro d
 induction d with
 |zero=>
  intro j c γ hd
  exact⟨c,γ,j,fun n m hm=>base j c γ (by omega) (by rw[show j=N by omega];exact hx) n m hm⟩
 |succ d IH=>
  intro j c γ hd
  by_cases hlt:x<2 ^ j
  ·exact⟨c,γ,j,fun n m hm=>base j c γ (by omega) hlt n m (by omega)⟩
  ·have hp:=div_pos_iff.2 hlt;have e1:=vD (x:=x) (j:=j) (by omega);have e2:=MG (p:=j) (by omega);have hb:=wX x j;have hs:=FJ x j;have hw:IntKind.i64.wrap ((j:Int)+1)=(j:Int)+1:=AO (by omega) (by omega);have hbl:=PL x j;generalize ((x / 2 ^ j:Nat):Int)=X at hp e1 hb;cases hbit:x.testBit j with
   |false=>
    rw[hbit]at hb hs
    rw[if_neg (by decide)]at hs
    obtain⟨c',γ',jf,ih⟩:=IH (j+1) c γ (by omega)
    refine⟨c',γ',jf,fun n m hm=>?_⟩
    obtain⟨m,rfl⟩:=qNz m (by omega)
    have ih:=ih n m (by omega)
    rw[hs]at ih
    rw[AB]
    simp at ih
    simp[NG,e2,e1,-KE,hp,hb,hw,ih]
    done
   |true=>
    rw[hbit]at hb hs
    rw[if_pos rfl]at hs
    obtain⟨c',γ',jf,ih⟩:=IH (j+1) (c+1) c (by omega)
    refine⟨c',γ',jf,fun n m hm=>?_⟩
    obtain⟨m,rfl⟩:=qNz m (by omega)
    have ih:=ih n m (by omega)
    rw[hs]at ih
    have happ:BW bq 3 (BR x j).length [[.int .i64 j]]=true:=by rw[BQ (by simp) (by simp)];simp[maxLen];omega
    rw[AB]
    simp[AJ]at ih
    simp[NG,e2,e1,-KE,hp,hb,hw,happ,AJ,ih]
    done
theorem AQJ(n x N:Nat)(hN:N<=30)(hx:x<2 ^ N):AY bq kn (AE bq ann kn (n+200)) 62 [i x]=some (sl ((BR x N).map AJ)):=by
 rw[AN rfl,AM Tryz.func62 b62 rfl (by simp)];obtain⟨c',γ',jf,ih⟩:=A53 x N hN hx N 0 0 0 (by omega);have ih:=ih (n+94) (n+194) (by omega);have h0:BR x 0=[]:=rfl;rw[h0]at ih;simp at ih;have hcl:((BR x N).map AJ).all (fun e=>e.all (AG 8))=true:=by simp[AJ]
 simp at hcl;simp[c62,AF,ih,AJ];done
end Go.Proofs.Tryz.Op
