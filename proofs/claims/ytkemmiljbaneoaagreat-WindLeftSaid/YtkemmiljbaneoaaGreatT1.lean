/- The loop of WindLeft: a growing list of numbers, its bits. No condition. -/
import Derived.Test.YtkemmiljbaneoaaGreatR2
import Derived.Test.YtkemmiljbaneoaaGreatU1
import Derived.Test.YtkemmiljbaneoaaGreatN2
import Derived.Test.YtkemmiljbaneoaaGreatW3
import Derived.Test.YtkemmiljbaneoaaGreatFz
open Go Go.Pg Go.Proofs Go.Wind
namespace Go.Wind
def orG (ys:List Nat):Nat:=ys.foldl (fun m v=>m ||| 2 ^ v) 0
theorem orG_snoc (ys:List Nat) (v:Nat):orG (ys ++ [v]) = orG ys ||| 2 ^ v:=by
 unfold orG
 rw [List.foldl_append]
 rfl
theorem orG_bit (k:Nat) (ys:List Nat):∀ m:Nat,(ys.foldl (fun m v=>m ||| 2 ^ v) m).testBit k = (m.testBit k || decide (k ∈ ys)):=by
 induction ys with
 | nil=>intro m; simp
 | cons v r ih =>
  intro m
  rw [List.foldl_cons,ih,Nat.testBit_or,Nat.testBit_two_pow]
  by_cases h:v = k
  ·subst h; simp
  ·have h':¬ k = v:=fun e=>h e.symm
   simp [h,h']
theorem orG_lt {N:Nat} {ys:List Nat} (h:∀ v ∈ ys,v < N):orG ys < 2 ^ N:=by
 refine Nat.lt_pow_two_of_testBit _ fun k hk=>?_
 unfold orG
 rw [orG_bit,Nat.zero_testBit,Bool.false_or]
 exact decide_eq_false fun hh=>by have:=h k hh; omega
theorem orG_bits {N z:Nat} (hz:z < 2 ^ N):orG ((List.range N).filter fun i=>z.testBit i) = z:=by
 refine Nat.eq_of_testBit_eq fun k=>?_
 unfold orG
 rw [orG_bit,Nat.zero_testBit,Bool.false_or]
 by_cases h:z.testBit k = true
 ·have:k < N:=by
   rcases Nat.lt_or_ge k N with h2 | h2
   ·exact h2
   ·rw [Nat.testBit_lt_two_pow (Nat.lt_of_lt_of_le hz (Nat.pow_le_pow_right (by decide) h2))] at h
    cases h
  rw [h]
  exact decide_eq_true (List.mem_filter.2 ⟨List.mem_range.2 this,h⟩)
 ·rw [Bool.eq_false_iff.2 h]
  exact decide_eq_false fun hh=>h (List.mem_filter.1 hh).2
theorem mem_pickN {x:Nat} {p:Int × Int}:∀ {j:Nat} {l:List (Int × Int)},p ∈ pickN x j l ↔ ∃ k,∃ h:k < l.length,x.testBit (j + k) = true∧l[k] = p
 | j,[]=>by simp [pickN]
 | j,q :: r=>by
  have ih:=mem_pickN (x:=x) (p:=p) (j:=j + 1) (l:=r)
  have key:(p ∈ pickN x (j + 1) r) ↔ ∃ k,∃ h:k + 1 < (q :: r).length,x.testBit (j + (k + 1)) = true∧(q :: r)[k + 1] = p:=by
   rw [ih]
   constructor
   ·rintro ⟨k,h,h1,h2⟩
    exact ⟨k,by simpa using h,by rw [show j + (k + 1) = j + 1 + k by omega]; exact h1,by simpa using h2⟩
   ·rintro ⟨k,h,h1,h2⟩
    exact ⟨k,by simpa using h,by rw [show j + 1 + k = j + (k + 1) by omega]; exact h1,by simpa using h2⟩
  unfold pickN
  constructor
  ·intro h
   split at h
   ·rename_i hx
    rcases List.mem_cons.1 h with rfl | h
    ·exact ⟨0,by simp,hx,rfl⟩
    ·obtain ⟨k,h,h1,h2⟩:=key.1 h
     exact ⟨k + 1,h,h1,h2⟩
   ·obtain ⟨k,h,h1,h2⟩:=key.1 h
    exact ⟨k + 1,h,h1,h2⟩
  ·rintro ⟨k,h,h1,h2⟩
   cases k with
   | zero =>
    rw [if_pos (by simpa using h1)]
    exact List.mem_cons.2 (.inl h2.symm)
   | succ k =>
    have:=key.2 ⟨k,h,h1,h2⟩
    split
    ·exact List.mem_cons_of_mem _ this
    ·exact this
end Go.Wind
namespace Go.Proofs.Tryz.Op
set_option maxRecDepth 100000
set_option linter.unusedSimpArgs false
theorem some_poss {b:Beach} {x:Nat} (hx:x < 2 ^ b.notes.length):possB b (bitsB x b.notes.length) = !(dfsW (someN b (2 ^ b.notes.length - 1 - x)) [] b.winds []).isEmpty:=by
 have e:(!(dfsW (someN b (2 ^ b.notes.length - 1 - x)) [] b.winds []).isEmpty) = possB (someN b (2 ^ b.notes.length - 1 - x)) []:=by
  unfold possB
  show _ = !decide (dfsW (someN b (2 ^ b.notes.length - 1 - x)) [] b.winds [] = [])
  cases dfsW (someN b (2 ^ b.notes.length - 1 - x)) [] b.winds [] <;> rfl
 rw [e,Bool.eq_iff_iff,possB_iff,possB_iff]
 have hm:∀ i,(2 ^ b.notes.length - 1 - x).testBit i = (decide (i < b.notes.length) && !x.testBit i):=fun i=>by
  rw [show 2 ^ b.notes.length - 1 - x = 2 ^ b.notes.length - (x + 1) by omega,Nat.testBit_two_pow_sub_succ hx]
 refine exists_congr fun t=>and_congr_right fun _=>?_
 rw [rightGo_iff,rightGo_iff]
 simp only [Nat.zero_add,mem_bits,List.not_mem_nil,false_or]
 constructor
 ·intro h i hi
  obtain ⟨k,hk,h1,h2⟩:=mem_pickN.1 (List.getElem_mem (l:=(someN b (2 ^ b.notes.length - 1 - x)).notes) hi)
  rw [Nat.zero_add,hm,Bool.and_eq_true,Bool.not_eq_true'] at h1
  rcases h k hk with h3 | h3
  ·rw [h1.2] at h3
   cases h3.2
  ·rw [← h2]
   exact h3
 ·intro h i hi
  by_cases hxi:x.testBit i = true
  ·exact .inl ⟨hi,hxi⟩
  ·right
   have hmem:b.notes[i] ∈ pickN (2 ^ b.notes.length - 1 - x) 0 b.notes:=mem_pickN.2 ⟨i,hi,by rw [Nat.zero_add,hm,decide_eq_true hi]; simpa using hxi,rfl⟩
   obtain ⟨k,hk,e2⟩:=List.getElem_of_mem hmem
   have:=h k hk
   rw [← e2]
   exact this
theorem lLeft (b:Beach) (hN:b.notes.length≤8) (ys:List Nat) (hlt:∀ v ∈ ys,v < b.notes.length) (hgr:∀ i j (hi:i < j) (hj:j < ys.length),ys[i] < ys[j]) (hlen:ys.length≤30) (κ:Nat) (c:Nat):∀ (d j:Nat),j + d = ys.length→∀ n m,d < m →
  loopA (execA Tryz.prog ann kn (n+100) 103) lb10_8 (ann 103 (fstR lb10_8)) m ⟨c,[(1,true,.int .u8 κ),(2,true,.ptr 0 2 0 0),(5,true,.list false (ys.map encN)),(7,true,i (orG (ys.take j):Nat)),(8,true,i j)],⟨[],[(2,0,.box (cellsB b))]⟩⟩ =
   some (.exit 0,⟨c,[(27,true,.bool false),(26,true,i ys.length),(25,true,.list false (ys.map encN)),(24,true,i ys.length),(1,true,.int .u8 κ),(2,true,.ptr 0 2 0 0),(5,true,.list false (ys.map encN)),(7,true,i (orG ys:Nat)),(8,true,i ys.length)],⟨[],[(2,0,.box (cellsB b))]⟩⟩)
 | 0,j,hd,n,m,hm=>by
  have hj:j = ys.length:=by omega
  subst hj
  obtain ⟨m,rfl⟩:∃ m',m = m' + 1:=⟨m - 1,by omega⟩
  rw [List.take_length]
  simp [loopA_succ]
  done
 | d + 1,j,hd,n,m,hm=>by
  have hj:j < ys.length:=by omega
  have ih:=lLeft b hN ys hlt hgr hlen κ c d (j + 1) (by omega) n (m - 1) (by omega)
  obtain ⟨m,rfl⟩:∃ m',m = m' + 1:=⟨m - 1,by omega⟩
  rw [Nat.add_sub_cancel] at ih
  rw [List.take_succ_eq_append_getElem hj,orG_snoc] at ih
  have hv:=hlt ys[j] (List.getElem_mem hj)
  have hg:=fun i hi=>hgr i j hi hj
  have hm1:orG (ys.take j) < 2 ^ b.notes.length:=orG_lt fun v hv=>hlt v (List.mem_of_mem_take hv)
  have hp30:2 ^ b.notes.length≤2 ^ 8:=Nat.pow_le_pow_right (by decide) (by omega)
  have hp31:2 ^ ys[j]≤2 ^ 8:=Nat.pow_le_pow_right (by decide) (by omega)
  have e1:=shl_ev (a:=1) (j:=ys[j]) (by omega) (by omega)
  have e2:=wrap_u64s (p:=ys[j]) (by omega)
  have e3:=or_ev (a:=orG (ys.take j)) (b:=2 ^ ys[j]) (by omega) (by omega)
  rw [Nat.one_mul] at e1
  have hw:=wrapS (k:=j) (by omega)
  have wl:IntKind.i64.wrap ((b.notes.length:Int) - 1) = (b.notes.length:Int) - 1:=wrap_i64 (by omega) (by omega)
  have qi:=fun n=>kIn n (ys[j]:Int) 0 ((b.notes.length:Int) - 1)
  have hin:inI (ys[j]:Int) 0 ((b.notes.length:Int) - 1) = true:=inI_iff.2 ⟨by omega,by omega⟩
  rw [hin] at qi
  have hu:∀ (h:0 < j),¬ ys[j]≤ys[j - 1]:=fun h=>by have:=hg (j - 1) (by omega); omega
  generalize orG (ys.take j) = M at *
  rcases Nat.eq_zero_or_pos j with h0 | h0
  ·subst h0
   rw [loopA_succ]
   generalize hvv:ys[0] = v at *
   generalize M ||| 2 ^ v = M2 at *
   generalize 2 ^ v = A at *
   have e1:evSh .shl .i64 1 (v:Int) = some (.int .i64 (A:Int)):=e1
   simp only [cellsB] at ih ⊢
   simp at ih
   simp [hj,hw,wl,qi,plK,encN,encL,encP,hvv,e1,e2,e3,convUi,-evSh_shl,ih]
   done
  ·obtain ⟨p,rfl⟩:∃ p,j = p + 1:=⟨j - 1,by omega⟩
   have hu:=hu h0
   have hj2:p < ys.length:=by omega
   have wp:IntKind.i64.wrap (p:Int) = (p:Int):=wrap_i64 (by omega) (by omega)
   have hp0:(0:Int) < (p:Int) + 1:=by omega
   simp only [Nat.add_sub_cancel] at hu
   rw [loopA_succ]
   generalize hvv:ys[p + 1] = v at *
   generalize huu:ys[p] = u at *
   generalize M ||| 2 ^ v = M2 at *
   generalize 2 ^ v = A at *
   have e1:evSh .shl .i64 1 (v:Int) = some (.int .i64 (A:Int)):=e1
   simp only [cellsB] at ih ⊢
   simp at ih
   have hp1:(0:Int)≤(p:Int) + 1:=by omega
   have hw2:IntKind.i64.wrap ((p:Int) + 1 + 1) = (p:Int) + 1 + 1:=wrap_i64 (by omega) (by omega)
   have hjI:(p:Int) + 1 < (ys.length:Int):=by omega
   simp [hj,hjI,hj2,hp1,hw2,wp,hp0,wl,qi,encN,encL,encP,hvv,huu,hu,e1,e2,e3,convUi,-evSh_shl,ih]
   done
theorem lLefts (b:Beach) (hN:b.notes.length≤8) (z:Nat) (hz:z < 2 ^ b.notes.length) (κ:Nat) (c:Nat):∀ n m,10 < m →
  loopA (execA Tryz.prog ann kn (n+100) 103) lb10_8 (ann 103 (fstR lb10_8)) m ⟨c,[(1,true,.int .u8 κ),(2,true,.ptr 0 2 0 0),(5,true,sl ((bitsB z b.notes.length).map encI)),(7,true,i 0),(8,true,i 0)],⟨[],[(2,0,.box (cellsB b))]⟩⟩ =
   some (.exit 0,⟨c,[(27,true,.bool false),(26,true,i (bitsB z b.notes.length).length),(25,true,sl ((bitsB z b.notes.length).map encI)),(24,true,i (bitsB z b.notes.length).length),(1,true,.int .u8 κ),(2,true,.ptr 0 2 0 0),(5,true,sl ((bitsB z b.notes.length).map encI)),(7,true,i (z:Nat)),(8,true,i (bitsB z b.notes.length).length)],⟨[],[(2,0,.box (cellsB b))]⟩⟩):=by
 intro n m hm
 have hlt:∀ v ∈ (List.range b.notes.length).filter (fun i=>z.testBit i),v < b.notes.length:=fun v hv=>List.mem_range.1 (List.mem_filter.1 hv).1
 have hpw:((List.range b.notes.length).filter (fun i=>z.testBit i)).Pairwise (· < ·):=(List.pairwise_lt_range (n:=b.notes.length)).sublist (List.filter_sublist)
 have hlen:((List.range b.notes.length).filter (fun i=>z.testBit i)).length≤b.notes.length:=by
  have:=List.length_filter_le (fun i=>z.testBit i) (List.range b.notes.length)
  rw [List.length_range] at this
  exact this
 have he:(bitsB z b.notes.length).map encI = ((List.range b.notes.length).filter (fun i=>z.testBit i)).map encN:=by
  unfold bitsB
  rw [List.map_map]
  rfl
 have hl:(bitsB z b.notes.length).length = ((List.range b.notes.length).filter (fun i=>z.testBit i)).length:=by
  unfold bitsB
  rw [List.length_map]
 have ho:=orG_bits hz
 rw [he,hl]
 generalize (List.range b.notes.length).filter (fun i=>z.testBit i) = ys at *
 have hgr:∀ i j (hi:i < j) (hj:j < ys.length),ys[i] < ys[j]:=fun i j hi hj=>List.pairwise_iff_getElem.1 hpw i j (by omega) hj hi
 cases ys with
 | nil =>
  have:z = 0:=ho.symm
  subst this
  obtain ⟨m,rfl⟩:∃ m',m = m' + 1:=⟨m - 1,by omega⟩
  have slnil:sl ([]:List (List V)) = .nil:=rfl
  simp [loopA_succ,slnil]
  done
 | cons v r =>
  have h:=lLeft b hN (v :: r) hlt hgr (by omega) κ c (v :: r).length 0 (by omega) n m (by omega)
  rw [ho] at h
  exact h
theorem convB (k:IntKind) (n:Int):evConv Tryz.prog 5 3 (.int k n) = some (.int .i64 (IntKind.i64.wrap n)):=by
 kernel_rfl
set_option maxHeartbeats 4000000 in
theorem kLeftX (n:Nat) (b:Beach) (_:okB b) (κ:Nat) (hκ:κ≤255):call0 Tryz.prog (execA Tryz.prog ann kn (n+7000)) 10 [.agg (cellsB b),.int .u8 κ] = some (.bool true):=by
 rw [call0_eq Tryz.func10 b10 rfl (by simp [cellsB,encI,encL,encP])]
 have qr:=fun n=>kReady n b
 cases hR:readyB b with
 | false =>
  rw [hR] at qr
  simp only [cellsB] at qr ⊢
  simp [c10,argFr,qr,encI,encL,encP,kAwakeX]
 | true =>
  rw [hR] at qr
  obtain ⟨hb,_⟩:=ready_of hR
  have hno:=hb.no
  have qB:=fun n=>kBeachX n hb
  have qLe:=fun n=>kLeave n b hb.w40 (fun h0=>by rw [leave_eq hb]; rfl)
  have qf:=fun n=>kFull n b (by omega)
  unfold leaveV at qLe
  rw [if_pos (fault_of hb)] at qLe
  have hsp:=leave_spec b
  rw [leave_eq hb] at hsp
  obtain ⟨z,hz,ez⟩:=inc_bits _ _ hsp.inc
  rw [leave_eq hb,Option.getD_some,ez] at qLe
  rw [ez] at hsp
  have hp8:2 ^ b.notes.length≤2 ^ 5:=Nat.pow_le_pow_right (by decide) (by omega)
  have hpos:=Nat.two_pow_pos b.notes.length
  have hx:κ &&& (2 ^ b.notes.length - 1) < 2 ^ b.notes.length:=by
   have:=Nat.and_le_right (n:=κ) (m:=2 ^ b.notes.length - 1)
   omega
  have wk:IntKind.i64.wrap (κ:Int) = (κ:Int):=wrap_i64 (by omega) (by omega)
  have e1:=and_ev (a:=κ) (b:=2 ^ b.notes.length - 1) (by omega) (by omega)
  generalize κ &&& (2 ^ b.notes.length - 1) = x at hx e1
  have e2:=andn_ev (by omega) hx
  have e3:=andn_ev (by omega) hz
  have vx:=someN_valid hb (2 ^ b.notes.length - 1 - x)
  have vz:=someN_valid hb (2 ^ b.notes.length - 1 - z)
  have qsx:=fun n=>kSomeL n (2 ^ b.notes.length - 1 - x) b (by omega)
  have qsz:=fun n=>kSomeL n (2 ^ b.notes.length - 1 - z) b (by omega)
  have qtx:=fun n=>kTruthful n _ vx
  have qtz:=fun n=>kTruthful n _ vz
  have hcz:=hsp.can
  rw [some_poss hz,Bool.not_eq_true'] at hcz
  have hcx:=some_poss hx
  have ewx:(someN b (2 ^ b.notes.length - 1 - x)).winds = b.winds:=rfl
  have ewz:(someN b (2 ^ b.notes.length - 1 - z)).winds = b.winds:=rfl
  rw [ewz,hcz,if_neg (by decide)] at qtz
  rw [ewx] at qtx
  have hinx:=bits_inc x b.notes.length
  have ql:=fun n m=>lLefts b (by omega) z hz κ 1 n (m + 100) (by omega)
  have q50:=fun n=>kBits n x b.notes.length (by omega) hx
  have hbl:(bitsB x b.notes.length).length≤90:=by have:=inc_room hinx (Nat.zero_le _); omega
  have hbz:(bitsB z b.notes.length).length≤90:=by have:=inc_room hsp.inc (Nat.zero_le _); omega
  have q49:=fun n=>kShorter n (bitsB x b.notes.length) (bitsB z b.notes.length) hbl hbz
  cases hE:(dfsW (someN b (2 ^ b.notes.length - 1 - x)) [] b.winds []).isEmpty with
  | true =>
   rw [hE,if_pos rfl] at qtx
   clear hsp
   simp only [cellsB,cellsR,someN] at qr qB qf qLe qsx qsz qtx qtz ql ⊢
   generalize pickN (2 ^ b.notes.length - 1 - x) 0 b.notes = NX at *
   generalize pickN (2 ^ b.notes.length - 1 - z) 0 b.notes = NZ at *
   generalize 2 ^ b.notes.length - 1 - x = M at *
   generalize 2 ^ b.notes.length - 1 - z = M' at *
   generalize 2 ^ b.notes.length - 1 = F at *
   generalize bitsB z b.notes.length = Z at *
   simp at ql
   simp [c10,argFr,encI,encL,encP,qr,qB,qf,qLe,qsx,qsz,qtx,qtz,ql,wk,e1,e2,e3,convB,kAwakeX]
  | false =>
   rw [hE,if_neg (by decide)] at qtx
   rw [hE] at hcx
   have hs:=hsp.min _ hinx hcx
   rw [hs] at q49
   clear hsp
   simp only [cellsB,cellsR,someN] at qr qB qf qLe qsx qsz qtx qtz ql ⊢
   generalize pickN (2 ^ b.notes.length - 1 - x) 0 b.notes = NX at *
   generalize pickN (2 ^ b.notes.length - 1 - z) 0 b.notes = NZ at *
   generalize 2 ^ b.notes.length - 1 - x = M at *
   generalize 2 ^ b.notes.length - 1 - z = M' at *
   generalize 2 ^ b.notes.length - 1 = F at *
   generalize bitsB z b.notes.length = Z at *
   generalize bitsB x b.notes.length = X at *
   simp at ql
   simp [c10,argFr,encI,encL,encP,qr,qB,qf,qLe,qsx,qsz,qtx,qtz,ql,q49,q50,wk,e1,e2,e3,convB,kAwakeX]
end Go.Proofs.Tryz.Op
