/- Contract of the reference: Bits. No condition but small numbers. -/
import Derived.Test.YtkemmiljbaneoaaGreatW1
import Derived.Test.YtkemmiljbaneoaaGreatL
import Derived.Test.YtkemmiljbaneoaaGreatFz
import Derived.Test.YtkemmiljbaneoaaGreatW2
open Go Go.Pg Go.Proofs Go.Wind
namespace Go.Proofs.Tryz.Op
set_option maxRecDepth 100000
set_option linter.unusedSimpArgs false
theorem lBits (x N:Nat) (hN:N≤30) (hx:x < 2 ^ N):∀ (d j:Nat) (c γ:Nat),j + d = N→∃ (c' γ' jf:Nat),∀ n m,d < m →
  loopA (execA Tryz.prog ann kn (n+100) 23) lb61_3 (ann 23 (fstR lb61_3)) m ⟨c,[(0,true,i x),(3,true,pv 21 γ ((bitsB x j).map encI)),(4,true,i j)],⟨[],pl 21 γ 3 ((bitsB x j).map encI)⟩⟩ =
   some (.exit 0,⟨c',[(9,true,.bool false),(8,true,i 0),(7,true,.int .u64 jf),(6,true,i jf),(5,true,i x),(0,true,i x),(3,true,pv 21 γ' ((bitsB x N).map encI)),(4,true,i jf)],⟨[],pl 21 γ' 3 ((bitsB x N).map encI)⟩⟩):=by
 have base:∀ (j c γ:Nat),j≤N→x < 2 ^ j→∀ n m,0 < m →
  loopA (execA Tryz.prog ann kn (n+100) 23) lb61_3 (ann 23 (fstR lb61_3)) m ⟨c,[(0,true,i x),(3,true,pv 21 γ ((bitsB x j).map encI)),(4,true,i j)],⟨[],pl 21 γ 3 ((bitsB x j).map encI)⟩⟩ =
   some (.exit 0,⟨c,[(9,true,.bool false),(8,true,i 0),(7,true,.int .u64 j),(6,true,i j),(5,true,i x),(0,true,i x),(3,true,pv 21 γ ((bitsB x N).map encI)),(4,true,i j)],⟨[],pl 21 γ 3 ((bitsB x N).map encI)⟩⟩):=by
  intro j c γ hj hlt n m hm
  obtain ⟨m,rfl⟩:∃ m',m = m' + 1:=⟨m - 1,by omega⟩
  have e1:=shr_ev (x:=x) (j:=j) (by omega)
  have e2:=wrap_u64s (p:=j) (by omega)
  rw [Nat.div_eq_of_lt hlt] at e1
  obtain ⟨d,rfl⟩:∃ d,N = j + d:=⟨N - j,by omega⟩
  rw [bitsB_high hlt d]
  simp [convUi,loopA_succ,e2,e1,-evSh_shr]
  done
 intro d
 induction d with
 | zero =>
  intro j c γ hd
  exact ⟨c,γ,j,fun n m hm=>base j c γ (by omega) (by rw [show j = N by omega]; exact hx) n m hm⟩
 | succ d IH =>
  intro j c γ hd
  by_cases hlt:x < 2 ^ j
  ·exact ⟨c,γ,j,fun n m hm=>base j c γ (by omega) hlt n m (by omega)⟩
  ·have hp:=div_pos_iff.2 hlt
   have e1:=shr_ev (x:=x) (j:=j) (by omega)
   have e2:=wrap_u64s (p:=j) (by omega)
   have hb:=mod_bit x j
   have hs:=bitsB_succ x j
   have hw:IntKind.i64.wrap ((j:Int) + 1) = (j:Int) + 1:=wrap_i64 (by omega) (by omega)
   have hbl:=bitsB_len x j
   generalize ((x / 2 ^ j:Nat):Int) = X at hp e1 hb
   cases hbit:x.testBit j with
   | false =>
    rw [hbit] at hb hs
    rw [if_neg (by decide)] at hs
    obtain ⟨c',γ',jf,ih⟩:=IH (j + 1) c γ (by omega)
    refine ⟨c',γ',jf,fun n m hm=>?_⟩
    obtain ⟨m,rfl⟩:∃ m',m = m' + 1:=⟨m - 1,by omega⟩
    have ih:=ih n m (by omega)
    rw [hs] at ih
    rw [loopA_succ]
    simp at ih
    simp [convUi,e2,e1,-evSh_shr,hp,hb,hw,ih]
    done
   | true =>
    rw [hbit] at hb hs
    rw [if_pos rfl] at hs
    obtain ⟨c',γ',jf,ih⟩:=IH (j + 1) (c + 1) c (by omega)
    refine ⟨c',γ',jf,fun n m hm=>?_⟩
    obtain ⟨m,rfl⟩:∃ m',m = m' + 1:=⟨m - 1,by omega⟩
    have ih:=ih n m (by omega)
    rw [hs] at ih
    have happ:appOK Tryz.prog 3 (bitsB x j).length [[.int .i64 j]] = true:=by
     rw [appOK_iff (by simp) (by simp)]
     simp [maxLen]
     omega
    rw [loopA_succ]
    simp [encI] at ih
    simp [convUi,e2,e1,-evSh_shr,hp,hb,hw,happ,encI,ih]
    done
theorem kBits (n x N:Nat) (hN:N≤30) (hx:x < 2 ^ N):callK Tryz.prog kn (execA Tryz.prog ann kn (n+200)) 61 [i x] = some (sl ((bitsB x N).map encI)):=by
 rw [callK_of rfl,call0_eq Tryz.func61 b61 rfl (by simp)]
 obtain ⟨c',γ',jf,ih⟩:=lBits x N hN hx N 0 0 0 (by omega)
 have ih:=ih (n + 94) (n + 194) (by omega)
 have h0:bitsB x 0 = []:=rfl
 rw [h0] at ih
 simp at ih
 have hcl:((bitsB x N).map encI).all (fun e=>e.all (closedV 8)) = true:=by simp [encI]
 simp at hcl
 simp [c61,argFr,ih,encI]
 done
end Go.Proofs.Tryz.Op
/- Contracts: Before, Shorter. No condition. -/
open Go Go.Pg Go.Proofs Go.Wind
namespace Go.Proofs.Tryz.Op
set_option maxRecDepth 100000
set_option linter.unusedSimpArgs false
def beforeB:List Int→List Int→Bool
 | x :: xs,y :: ys=>if x = y then beforeB xs ys else decide (x < y)
 | [],_ :: _=>true
 | _,[]=>false
theorem before_nil (xs:List Int):beforeB xs [] = false:=by cases xs <;> rfl
theorem lBefore (xs ys:List Int) (hx:xs.length≤90) (hy:ys.length≤90) (c:Nat):∀ (d j:Nat),j + d = xs.length→j≤ys.length→∀ n p m,d < m →
  finX Tryz.prog [.tmp 4] (xSeq (execA Tryz.prog ann kn (p + 20) 41) (r106_6.seq .ret) (xBlock 0 (loopA (execA Tryz.prog ann kn (n+100) 41) lb106_2 (ann 41 (fstR lb106_2)) m ⟨c,[(0,true,.list false (xs.map encI)),(1,true,.list false (ys.map encI)),(5,true,i j)],⟨[],[]⟩⟩))) =
   some (.bool (beforeB (xs.drop j) (ys.drop j)))
 | 0,j,hd,hj,n,p,m,hm=>by
  have hjx:j = xs.length:=by omega
  subst hjx
  obtain ⟨m,rfl⟩:∃ m',m = m' + 1:=⟨m - 1,by omega⟩
  have hv:beforeB (xs.drop xs.length) (ys.drop xs.length) = decide (xs.length < ys.length):=by
   rw [List.drop_length]
   by_cases h:xs.length < ys.length
   ·rw [List.drop_eq_getElem_cons h,decide_eq_true h]
    rfl
   ·rw [List.drop_eq_nil_of_le (by omega),decide_eq_false h]
    rfl
  rw [hv]
  simp [loopA_succ]
  done
 | d + 1,j,hd,hj,n,p,m,hm=>by
  have hjx:j < xs.length:=by omega
  have hw:IntKind.i64.wrap ((j:Int) + 1) = (j:Int) + 1:=wrap_i64 (by omega) (by omega)
  obtain ⟨m,rfl⟩:∃ m',m = m' + 1:=⟨m - 1,by omega⟩
  by_cases hjy:j < ys.length
  ·rw [List.drop_eq_getElem_cons hjx,List.drop_eq_getElem_cons hjy]
   simp only [beforeB]
   by_cases h:xs[j] = ys[j]
   ·rw [if_pos h]
    have ih:=lBefore xs ys hx hy c d (j + 1) (by omega) (by omega) n p m (by omega)
    generalize beforeB (xs.drop (j + 1)) (ys.drop (j + 1)) = z at ih ⊢
    rw [loopA_succ]
    simp at ih
    simp [hjx,hjy,hw,encI,h,ih]
    done
   ·rw [if_neg h,loopA_succ]
    simp [hjx,hjy,hw,encI,h]
    done
  ·have hn:¬ xs.length < ys.length:=by omega
   rw [List.drop_eq_nil_of_le (show ys.length≤j by omega),before_nil,loopA_succ]
   simp [hjx,hjy,hn]
   done
theorem kBefore (n:Nat) (xs ys:List Int) (hx:xs.length≤90) (hy:ys.length≤90):callK Tryz.prog kn (execA Tryz.prog ann kn (n+200)) 106 [.list false (xs.map encI),.list false (ys.map encI)] = some (.bool (beforeB xs ys)):=by
 rw [callK_of rfl,call0_eq Tryz.func106 b106 rfl (by simp [encI])]
 have q:=lBefore xs ys hx hy 0 xs.length 0 (by omega) (by omega) (n + 95) (n + 178) (n + 195) (by omega)
 simp only [List.drop_zero] at q
 generalize beforeB xs ys = z at q ⊢
 simp at q
 simp [c106,argFr,q]
 done
def shortB (xs ys:List Int):Bool:=decide (xs.length < ys.length) || (decide (xs.length = ys.length) && beforeB xs ys)
theorem kShorter (n:Nat) (xs ys:List Int) (hx:xs.length≤90) (hy:ys.length≤90):callK Tryz.prog kn (execA Tryz.prog ann kn (n+300)) 60 [.list false (xs.map encI),.list false (ys.map encI)] = some (.bool (shortB xs ys)):=by
 rw [callK_of rfl,call0_eq Tryz.func60 b60 rfl (by simp [encI])]
 have q:=fun n=>kBefore n xs ys hx hy
 unfold shortB
 generalize beforeB xs ys = z at q ⊢
 by_cases h1:xs.length < ys.length
 ·simp [c60,argFr,h1]
  done
 ·by_cases h2:xs.length = ys.length
  ·have h3:(xs.length:Int) = (ys.length:Int):=by omega
   simp [c60,argFr,h1,h2,q,encI]
   done
  ·have h3:¬ ((xs.length:Int) = (ys.length:Int)):=by omega
   simp [c60,argFr,h1,h2,h3]
   done
end Go.Proofs.Tryz.Op
/- Contracts of the reference: Can, Full, First. No condition but small numbers. -/
open Go Go.Pg Go.Proofs Go.Wind
namespace Go.Wind
def canB (all:List Nat) (m:Nat):Bool:=all.any fun x=>decide (x &&& m = m)
end Go.Wind
namespace Go.Proofs.Tryz.Op
set_option maxRecDepth 100000
set_option linter.unusedSimpArgs false
def encN (x:Nat):List V:=[i (x:Int)]
theorem and_nat {a b:Nat} (ha:a < 4611686018427387904) (hb:b < 4611686018427387904):IntKind.i64.wrap (((BitVec.ofInt 64 (a:Int) &&& BitVec.ofInt 64 (b:Int)).toNat:Nat):Int) = ((a &&& b:Nat):Int):=by
 have e:BitVec.ofInt 64 (a:Int) &&& BitVec.ofInt 64 (b:Int) = BitVec.ofNat 64 (a &&& b):=by
  apply BitVec.eq_of_toNat_eq
  simp only [BitVec.toNat_and,BitVec.toNat_ofInt,BitVec.toNat_ofNat]
  have h1:((a:Int) % ((2 ^ 64:Nat):Int)).toNat = a:=by omega
  have h2:((b:Int) % ((2 ^ 64:Nat):Int)).toNat = b:=by omega
  have h3:a &&& b≤a:=Nat.and_le_left
  rw [h1,h2,Nat.mod_eq_of_lt (by omega)]
 have h3:a &&& b≤a:=Nat.and_le_left
 rw [e,BitVec.toNat_ofNat,Nat.mod_eq_of_lt (by omega)]
 exact wrap_i64 (by omega) (by omega)
theorem and_ev {a b:Nat} (ha:a < 4611686018427387904) (hb:b < 4611686018427387904):evInt .and .i64 (a:Int) (b:Int) = some (.int .i64 ((a &&& b:Nat):Int)):=by
 rw [evInt_and]
 exact congrArg (fun z=>some (V.int IntKind.i64 z)) (and_nat ha hb)
theorem shl_ev {a j:Nat} (ha:a≤16) (hj:j≤30):evSh .shl .i64 (a:Int) (j:Int) = some (.int .i64 ((a * 2 ^ j:Nat):Int)):=by
 rw [evSh_shl,if_neg (by omega)]
 have e:min (j:Int).toNat IntKind.i64.bits = j:=by simp only [Int.toNat_natCast,IntKind.bits]; omega
 rw [e]
 have h1:2 ^ j≤2 ^ 30:=Nat.pow_le_pow_right (by decide) hj
 have h2:a * 2 ^ j≤16 * 2 ^ 30:=Nat.mul_le_mul ha h1
 have e2:(a:Int) * 2 ^ j = ((a * 2 ^ j:Nat):Int):=by simp
 rw [e2,wrap_i64 (by omega) (by omega)]
theorem kFull (n:Nat) (b:Beach) (hl:b.notes.length≤30):callK Tryz.prog kn (execA Tryz.prog ann kn (n+100)) 57 [.agg (cellsB b)] = some (i (2 ^ b.notes.length - 1:Nat)):=by
 rw [callK_of rfl,call0_eq Tryz.func57 b57 rfl (by simp [cellsB,encI,encL,encP])]
 have e1:=shl_ev (a:=1) (j:=b.notes.length) (by omega) hl
 have e2:=wrap_u64s (p:=b.notes.length) (by omega)
 have h1:2 ^ b.notes.length≤2 ^ 30:=Nat.pow_le_pow_right (by decide) hl
 have h2:0 < 2 ^ b.notes.length:=Nat.two_pow_pos _
 rw [Nat.one_mul] at e1
 generalize 2 ^ b.notes.length = A at *
 have e3:IntKind.i64.wrap ((A:Int) - 1) = ((A - 1:Nat):Int):=by rw [wrap_i64 (by omega) (by omega)]; omega
 have e1:evSh .shl .i64 1 (b.notes.length:Int) = some (.int .i64 (A:Int)):=e1
 simp [convUi,c57,argFr,cellsB,e2,e1,e3,-evSh_shl]
 done
end Go.Proofs.Tryz.Op
/- Contract of the reference: First. No condition but small numbers. -/
open Go Go.Pg Go.Proofs Go.Wind
namespace Go.Wind
def firstRGo (all:List Nat):Nat→Nat→Option Nat
 | 0,_=>none
 | d + 1,j=>if canB all (2 ^ (j + 1) - 1) = true then firstRGo all d (j + 1) else some j
def optN:Option Nat→Int
 | some x=>x
 | none=>-1
end Go.Wind
namespace Go.Proofs.Tryz.Op
set_option maxRecDepth 100000
set_option linter.unusedSimpArgs false
end Go.Proofs.Tryz.Op
/- Contract of the reference: Leave. No condition but small numbers. -/
open Go Go.Pg Go.Proofs Go.Wind
namespace Go.Proofs.Tryz.Op
def stepR (all:List Nat) (N x:Nat) (y:List Int):List Int :=
 if (shortB (bitsB x N) y && canB all (2 ^ N - 1 - x)) = true then bitsB x N else y
def goR (all:List Nat) (N:Nat):Nat→Nat→List Int→List Int
 | 0,_,y=>y
 | d + 1,x,y=>goR all N d (x + 1) (stepR all N x y)
set_option maxRecDepth 100000
set_option linter.unusedSimpArgs false
def andnOK:Bool:=(List.range 6).all fun N=>(List.range (2 ^ N)).all fun x=>decide (IntKind.i64.wrap ((BitVec.ofInt 64 ((2 ^ N - 1:Nat):Int) &&& ~~~ BitVec.ofInt 64 (x:Int)).toNat:Int) = ((2 ^ N - 1 - x:Nat):Int))
theorem andnOK_true:andnOK = true:=by decide +kernel
theorem andn_ev {N x:Nat} (hN:N≤5) (hx:x < 2 ^ N):evInt .andNot .i64 ((2 ^ N - 1:Nat):Int) (x:Int) = some (.int .i64 ((2 ^ N - 1 - x:Nat):Int)):=by
 rw [evInt_andNot]
 have q:=List.all_eq_true.1 (List.all_eq_true.1 andnOK_true N (List.mem_range.2 (by omega))) x (List.mem_range.2 hx)
 exact congrArg (fun z=>some (V.int IntKind.i64 z)) (of_decide_eq_true q)
def leaveR (all:List Nat) (N:Nat):List Int:=goR all N (2 ^ N) 0 (bitsB (2 ^ N - 1) N)
end Go.Proofs.Tryz.Op
