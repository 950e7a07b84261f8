/- Contracts: Before, Shorter. No condition. -/
import Derived.Test.YthhdhbalenanjaaGreatW1
open Go.Proofs.Tryz renaming prog->bq
open List renaming drop_eq_getElem_cons->bj,drop_eq_nil_of_le->bk
set_option maxRecDepth 100000
set_option linter.unusedSimpArgs false
open Go Go.Pg Go.Proofs Go.Wind
namespace Go.Proofs.Tryz.Op
def DJ:List Int->List Int->Bool
 |x::xs,y::ys=>if x=y then DJ xs ys else decide (x<y)
 |[],_::_=>true
 |_,[]=>false
theorem aT(xs:List Int):DJ xs []=false:=by cases xs<;>rfl
theorem uR(xs ys:List Int)(hx:xs.length<=90)(hy:ys.length<=90)(c:Nat):∀(d j:Nat),j+d=xs.length->j<=ys.length->∀n p m,d<m ->
  VS bq [.tmp 4] (cL (AE bq ann kn (p+20) 41) ((QQ 11).seq .ret) (K2 0 (BK (AE bq ann kn (n+100) 41) SK (ann 41 (BU SK)) m ⟨c,[(0,true,.list false (xs.map AG)),(1,true,.list false (ys.map AG)),(5,true,i j)],⟨[],[]⟩⟩))) =
   some (.bool (DJ (xs.drop j) (ys.drop j)))
 |0,j,hd,hj,n,p,m,hm=>by
  have hjx:j=xs.length:=by omega
  subst hjx;obtain⟨m,rfl⟩:=qNz m (by omega);have hv:DJ (xs.drop xs.length) (ys.drop xs.length)=decide (xs.length<ys.length):=by
   rw[List.drop_length];by_cases h:xs.length<ys.length
   ·rw[bj h,decide_eq_true h];rfl
   ·rw[bk (by omega),decide_eq_false h];rfl
  rw[hv];simp[AB];done
 |d+1,j,hd,hj,n,p,m,hm=>by
  have hjx:j<xs.length:=by omega
  have hw:IntKind.i64.wrap ((j:Int)+1)=(j:Int)+1:=AV (by omega) (by omega);obtain⟨m,rfl⟩:=qNz m (by omega);by_cases hjy:j<ys.length
  ·rw[bj hjx,bj hjy];simp only[DJ];by_cases h:xs[j]=ys[j]
   ·rw[if_pos h];have ih:=uR xs ys hx hy c d (j+1) (by omega) (by omega) n p m (by omega);generalize DJ (xs.drop (j+1)) (ys.drop (j+1))=z at ih|-;rw[AB];simp at ih;simp[hjx,hjy,hw,AG,h,ih];done
   ·rw[if_neg h,AB];simp[hjx,hjy,hw,AG,h];done
  ·have hn:¬xs.length<ys.length:=by omega
   rw[bk (show ys.length<=j by omega),aT,AB];simp[hjx,hjy,hn];done
theorem AJ7(n:Nat)(xs ys:List Int)(hx:xs.length<=90)(hy:ys.length<=90):A3 bq kn (AE bq ann kn (n+200)) 104 [.list false (xs.map AG),.list false (ys.map AG)]=some (.bool (DJ xs ys)):=by rw[AP rfl,AQ Tryz.func104 BCR rfl (by simp[AG])];have q:=uR xs ys hx hy 0 xs.length 0 (by omega) (by omega) (n+95) (n+178) (n+195) (by omega);simp only[List.drop_zero]at q;generalize DJ xs ys=z at q|-;simp at q;simp[A1T,AD,q];done
def FJ(xs ys:List Int):Bool:=decide (xs.length<ys.length)||(decide (xs.length=ys.length)&&DJ xs ys)
theorem AEZ(n:Nat)(xs ys:List Int)(hx:xs.length<=90)(hy:ys.length<=90):A3 bq kn (AE bq ann kn (n+300)) 61 [.list false (xs.map AG),.list false (ys.map AG)]=some (.bool (FJ xs ys)):=by
 rw[AP rfl,AQ Tryz.func61 b61 rfl (by simp[AG])];have q:=fun n=>AJ7 n xs ys hx hy;unfold FJ;generalize DJ xs ys=z at q|-;by_cases h1:xs.length<ys.length
 ·simp[c61,AD,h1];done
 ·by_cases h2:xs.length=ys.length
  ·have h3:(xs.length:Int)=(ys.length:Int):=by omega
   simp[c61,AD,h1,h2,q,AG];done
  ·have h3:¬((xs.length:Int)=(ys.length:Int)):=by omega
   simp[c61,AD,h1,h2,h3];done
theorem A3O(x N:Nat)(hN:N<=30)(hx:x<2 ^ N):∀(d j:Nat) (c γ:Nat),j+d=N->∃(c' γ' jf:Nat),∀n m,d<m ->
  BK (AE bq ann kn (n+100) 23) QR (ann 23 (BU QR)) m ⟨c,[(0,true,i x),(3,true,pv 21 γ ((BF x j).map AG)),(4,true,i j)],⟨[],pl 21 γ 3 ((BF x j).map AG)⟩⟩ =
   some (.exit 0,⟨c',[(9,true,.bool false),(8,true,i 0),(7,true,.int .u64 jf),(6,true,i jf),(5,true,i x),(0,true,i x),(3,true,pv 21 γ' ((BF x N).map AG)),(4,true,i jf)],⟨[],pl 21 γ' 3 ((BF x N).map AG)⟩⟩):=by
 have base:∀(j c γ:Nat),j<=N->x<2 ^ j->∀n m,0<m ->
  BK (AE bq ann kn (n+100) 23) QR (ann 23 (BU QR)) m ⟨c,[(0,true,i x),(3,true,pv 21 γ ((BF x j).map AG)),(4,true,i j)],⟨[],pl 21 γ 3 ((BF x j).map AG)⟩⟩ =
   some (.exit 0,⟨c,[(9,true,.bool false),(8,true,i 0),(7,true,.int .u64 j),(6,true,i j),(5,true,i x),(0,true,i x),(3,true,pv 21 γ ((BF x N).map AG)),(4,true,i j)],⟨[],pl 21 γ 3 ((BF x N).map AG)⟩⟩):=by
  intro j c γ hj hlt n m hm
  obtain⟨m,rfl⟩:=qNz m (by omega)
  have e1:=rN (x:=x) (j:=j) (by omega)
  have e2:=L6 (p:=j) (by omega)
  rw[Nat.div_eq_of_lt hlt]at e1
  obtain⟨d,rfl⟩:∃d,N=j+d:=⟨N-j,by omega⟩
  rw[YN hlt d]
  simp[M5,AB,e2,e1,-LZ]
  done
 intro d
 induction d with
 |zero=>
  intro j c γ hd
  exact⟨c,γ,j,fun n m hm=>base j c γ (by omega) (by rw[show j=N by omega];exact hx) n m hm⟩
 |succ d IH=>
  intro j c γ hd
  by_cases hlt:x<2 ^ j
  ·exact⟨c,γ,j,fun n m hm=>base j c γ (by omega) hlt n m (by omega)⟩
  ·have hp:=div_pos_iff.2 hlt;have e1:=rN (x:=x) (j:=j) (by omega);have e2:=L6 (p:=j) (by omega);have hb:=tN x j;have hs:=E9 x j;have hw:IntKind.i64.wrap ((j:Int)+1)=(j:Int)+1:=AV (by omega) (by omega);have hbl:=wR x j;generalize ((x / 2 ^ j:Nat):Int)=X at hp e1 hb;cases hbit:x.testBit j with
   |false=>
    rw[hbit]at hb hs
    rw[if_neg (by decide)]at hs
    obtain⟨c',γ',jf,ih⟩:=IH (j+1) c γ (by omega)
    refine⟨c',γ',jf,fun n m hm=>?_⟩
    obtain⟨m,rfl⟩:=qNz m (by omega)
    have ih:=ih n m (by omega)
    rw[hs]at ih
    rw[AB]
    simp at ih
    simp[M5,e2,e1,-LZ,hp,hb,hw,ih]
    done
   |true=>
    rw[hbit]at hb hs
    rw[if_pos rfl]at hs
    obtain⟨c',γ',jf,ih⟩:=IH (j+1) (c+1) c (by omega)
    refine⟨c',γ',jf,fun n m hm=>?_⟩
    obtain⟨m,rfl⟩:=qNz m (by omega)
    have ih:=ih n m (by omega)
    rw[hs]at ih
    have happ:B8 bq 3 (BF x j).length [[.int .i64 j]]=true:=by rw[CE (by simp) (by simp)];simp[maxLen];omega
    rw[AB]
    simp[AG]at ih
    simp[M5,e2,e1,-LZ,hp,hb,hw,happ,AG,ih]
    done
theorem A3P(n x N:Nat)(hN:N<=30)(hx:x<2 ^ N):A3 bq kn (AE bq ann kn (n+200)) 62 [i x]=some (sl ((BF x N).map AG)):=by
 rw[AP rfl,AQ Tryz.func62 b62 rfl (by simp)];obtain⟨c',γ',jf,ih⟩:=A3O x N hN hx N 0 0 0 (by omega);have ih:=ih (n+94) (n+194) (by omega);have h0:BF x 0=[]:=rfl;rw[h0]at ih;simp at ih;have hcl:((BF x N).map AG).all (fun e=>e.all (AF 8))=true:=by simp[AG]
 simp at hcl;simp[c62,AD,ih,AG];done
end Go.Proofs.Tryz.Op
