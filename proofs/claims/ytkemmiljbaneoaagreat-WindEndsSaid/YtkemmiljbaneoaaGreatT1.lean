/- Contracts of laws: bounded; the loops of WindEnds. No condition but a valid beach. -/
import Derived.Test.YtkemmiljbaneoaaGreatX1
import Derived.Test.YtkemmiljbaneoaaGreatE1
import Derived.Test.YtkemmiljbaneoaaGreatFz
open Go Go.Pg Go.Proofs Go.Wind
namespace Go.Proofs.Tryz.Op
set_option maxRecDepth 100000
set_option linter.unusedSimpArgs false
theorem lBounded (b:Beach) (A:List (List Bnd)) (hA:A.length≤100):∀ (d k:Nat),k + d = A.length→∃ fr,getF fr 1 = some (true,.list false (A.map encBs))∧getF fr 2 = some (true,.ptr 0 2 0 0)∧∀ n m,d < m→loopA (execA Tryz.prog ann kn (n+100) 25) lb48_2 (ann 25 (fstR lb48_2)) m ⟨1,[(1,true,.list false (A.map encBs)),(2,true,.ptr 0 2 0 0),(5,true,i k)],⟨[],[(2,0,.box (cellsB b))]⟩⟩ =
  if (A.drop k).all (fun l=>decide ((l.length:Int) = b.places)) = true then some (.exit 0,⟨1,fr,⟨[],[(2,0,.box (cellsB b))]⟩⟩) else some (.ret,⟨1,[(4,true,.bool false)],⟨[],[]⟩⟩)
 | 0,k,hk=>by
  have:k = A.length:=by omega
  subst this
  refine ⟨?fr,?g1,?g2,fun n m hm=>?g3⟩
  case g3 =>
   obtain ⟨m,rfl⟩:∃ m',m = m' + 1:=⟨m - 1,by omega⟩
   rw [List.drop_length,loopA_succ]
   simp [cellsB]
   rfl
  case g1=>simp
  case g2=>simp
 | d + 1,k,hk=>by
  have hk':k < A.length:=by omega
  have hw:=wrapS (k:=k) (by omega)
  obtain ⟨fr,e1,e2,ih⟩:=lBounded b A hA d (k + 1) (by omega)
  rw [List.drop_eq_getElem_cons hk']
  simp only [List.all_cons]
  by_cases h:(A[k].length:Int) = b.places
  ·simp only [h,decide_true,Bool.true_and]
   refine ⟨fr,e1,e2,fun n m hm=>?_⟩
   obtain ⟨m,rfl⟩:∃ m',m = m' + 1:=⟨m - 1,by omega⟩
   have ih:=ih n m (by omega)
   generalize (A.drop (k + 1)).all (fun l=>decide ((l.length:Int) = b.places)) = z at ih ⊢
   rw [loopA_succ]
   simp only [cellsB] at ih ⊢
   simp at ih
   simp [hk',hw,encBs,h,plK,ih]
  ·simp only [h,decide_false,Bool.false_and]
   refine ⟨fr,e1,e2,fun n m hm=>?_⟩
   obtain ⟨m,rfl⟩:∃ m',m = m' + 1:=⟨m - 1,by omega⟩
   rw [loopA_succ]
   simp [cellsB,hk',hw,encBs,h,plK]
def boundedB (b:Beach) (A:List (List Bnd)):Bool:=(A.all fun l=>decide ((l.length:Int) = b.places)) && decide ((A.length:Int) = b.rows)
theorem kBounded (n:Nat) (b:Beach) (A:List (List Bnd)) (hA:A.length≤100):callK Tryz.prog kn (execA Tryz.prog ann kn (n+300)) 48 [.agg (cellsB b),.list false (A.map encBs)] = some (.bool (boundedB b A)):=by
 rw [callK_of rfl,call0_eq Tryz.func48 b48 rfl (by simp [cellsB,encI,encL,encP,encBs,encB])]
 obtain ⟨fr,e1,e2,q⟩:=lBounded b A hA A.length 0 (by omega)
 have q:=fun n m=>q n (m + 110) (by omega)
 rw [List.drop_zero] at q
 unfold boundedB
 generalize A.all (fun l=>decide ((l.length:Int) = b.places)) = z at q ⊢
 simp only [cellsB] at q ⊢
 cases z <;> (simp at q; simp [c48,argFr,q,e1,e2])
theorem bounded_ok {b:Beach} (hb:Valid b) (ws plan:List (List Int)):boundedB b (bndsP b ws plan b.rows.toNat) = true:=by
 have hro:=hb.ro
 have hpl:=hb.pl
 unfold boundedB
 rw [Bool.and_eq_true,List.all_eq_true,decide_eq_true_eq]
 refine ⟨fun l hl=>?_,by simp [bndsP]; omega⟩
 simp only [bndsP,List.mem_map] at hl
 obtain ⟨r,_,rfl⟩:=hl
 simp [rowB]; omega
def metG (e:List Bool):Nat→Nat→Nat→Nat
 | M,_,0=>M
 | M,j,d + 1=>metG e (if e.getD j false = true then M ||| 2 ^ j else M) (j + 1) d
theorem metG_lt (e:List Bool):∀ (d j M:Nat),j + d = 6→M < 64→metG e M j d < 64
 | 0,_,_,_,h=>h
 | d + 1,j,M,hd,h=>by
  unfold metG
  refine metG_lt e d (j + 1) _ (by omega) ?_
  split
  ·have h2:2 ^ j < 2 ^ 6:=Nat.pow_lt_pow_right (by decide) (by omega)
   exact Nat.or_lt_two_pow (n:=6) h h2
  ·exact h
theorem metG_bit (e:List Bool) (k:Nat):∀ (d j M:Nat),(metG e M j d).testBit k = (M.testBit k || (decide (j≤k∧k < j + d) && e.getD k false))
 | 0,j,M=>by
  have:¬ (j≤k∧k < j + 0):=by omega
  rw [decide_eq_false this,Bool.false_and,Bool.or_false]
  rfl
 | d + 1,j,M=>by
  unfold metG
  rw [metG_bit e k d (j + 1)]
  by_cases hjk:j = k
  ·subst hjk
   have h1:¬ (j + 1≤j∧j < j + 1 + d):=by omega
   have h2:(j≤j∧j < j + (d + 1)):=by omega
   rw [decide_eq_false h1,decide_eq_true h2]
   cases e.getD j false <;> simp [Nat.testBit_or]
  ·have h1:(j + 1≤k∧k < j + 1 + d) ↔ (j≤k∧k < j + (d + 1)):=by omega
   rw [decide_eq_decide.2 h1]
   split
   ·rw [Nat.testBit_or,Nat.testBit_two_pow_of_ne hjk,Bool.or_false]
   ·rfl
theorem convB (k:IntKind) (n:Int):evConv Tryz.prog 5 3 (.int k n) = some (.int .i64 (IntKind.i64.wrap n)):=by
 kernel_rfl
theorem or_small {a b:Nat} (ha:a < 64) (hb:b < 64):IntKind.i64.wrap (((BitVec.ofInt 64 (a:Int) ||| BitVec.ofInt 64 (b:Int)).toNat:Nat):Int) = ((a ||| b:Nat):Int):=by
 have h1:a ||| b < 2 ^ 6:=Nat.or_lt_two_pow (n:=6) ha hb
 have e:(BitVec.ofInt 64 (a:Int) ||| BitVec.ofInt 64 (b:Int)).toNat = a ||| b:=by
  rw [BitVec.ofInt_natCast,BitVec.ofInt_natCast,BitVec.toNat_or,BitVec.toNat_ofNat,BitVec.toNat_ofNat,Nat.mod_eq_of_lt (by omega),Nat.mod_eq_of_lt (by omega)]
 rw [e]
 exact wrap_i64 (by omega) (by omega)
theorem shlE {j:Nat} (hj:j≤30):evSh .shl .i64 1 (j:Int) = some (.int .i64 ((2 ^ j:Nat):Int)):=by
 rw [evSh_shl,if_neg (by omega)]
 have e:min (j:Int).toNat IntKind.i64.bits = j:=by simp only [Int.toNat_natCast,IntKind.bits]; omega
 rw [e]
 have h1:2 ^ j≤2 ^ 30:=Nat.pow_le_pow_right (by decide) hj
 have e2:(1:Int) * 2 ^ j = ((2 ^ j:Nat):Int):=by simp
 rw [e2]
 generalize 2 ^ j = A at *
 rw [wrap_i64 (by omega) (by omega)]
theorem build6 (e0 e1 e2 e3 e4 e5:Bool):evBuild Tryz.prog 92 [(0,.bool e0),(1,.bool e1),(2,.bool e2),(3,.bool e3),(4,.bool e4),(5,.bool e5)] = some (.agg [.bool e0,.bool e1,.bool e2,.bool e3,.bool e4,.bool e5]):=by
 kernel_rfl
section
variable {b:Beach}
def endsL (b:Beach) (P:List (List Int)) (D:Bnd) (R:Int × Int) (s1 s2:Nat) (t:List Int):List Bool:=[decide ((hoursP b P t s1 s2).calm = D.calm.1),decide ((hoursP b P t s1 s2).calm = D.calm.2),decide ((hoursP b P t s1 s2).good = D.good.1),decide ((hoursP b P t s1 s2).good = D.good.2),decide (totT b P t = R.1),decide (totT b P t = R.2)]
def metT (b:Beach) (P:List (List Int)) (D:Bnd) (R:Int × Int) (s1 s2:Nat) (T:List (List Int)):Nat:=T.foldl (fun M t=>metG (endsL b P D R s1 s2 t) M 0 6) 0
theorem metT_snoc (b:Beach) (P:List (List Int)) (D:Bnd) (R:Int × Int) (s1 s2:Nat) (T:List (List Int)) (t:List Int):metT b P D R s1 s2 (T ++ [t]) = metG (endsL b P D R s1 s2 t) (metT b P D R s1 s2 T) 0 6:=by
 unfold metT
 rw [List.foldl_append]
 rfl
theorem metT_lt (b:Beach) (P:List (List Int)) (D:Bnd) (R:Int × Int) (s1 s2:Nat) (T:List (List Int)):metT b P D R s1 s2 T < 64:=by
 unfold metT
 have:∀ (T:List (List Int)) (M:Nat),M < 64→T.foldl (fun M t=>metG (endsL b P D R s1 s2 t) M 0 6) M < 64:=fun T=>by
  induction T with
  | nil=>exact fun M h=>h
  | cons t r ih=>exact fun M h=>ih _ (metG_lt _ 6 0 M rfl h)
 exact this T 0 (by decide)
theorem metT_bit (b:Beach) (P:List (List Int)) (D:Bnd) (R:Int × Int) (s1 s2:Nat) (T:List (List Int)) {k:Nat} (hk:k < 6):(metT b P D R s1 s2 T).testBit k = T.any fun t=>(endsL b P D R s1 s2 t).getD k false:=by
 unfold metT
 have:∀ (T:List (List Int)) (M:Nat),(T.foldl (fun M t=>metG (endsL b P D R s1 s2 t) M 0 6) M).testBit k = (M.testBit k || T.any fun t=>(endsL b P D R s1 s2 t).getD k false):=fun T=>by
  induction T with
  | nil=>intro M; simp
  | cons t r ih =>
   intro M
   rw [List.foldl_cons,ih,metG_bit,List.any_cons,decide_eq_true (by omega:0≤k∧k < 0 + 6),Bool.true_and,Bool.or_assoc]
 rw [this,Nat.zero_testBit,Bool.false_or]
theorem met_all {b:Beach} {P:List (List Int)} {D:Bnd} {R:Int × Int} {s1 s2:Nat} {T:List (List Int)}
  (h1:IsMin T (fun t=>(hoursP b P t s1 s2).calm) D.calm.1) (h2:IsMax T (fun t=>(hoursP b P t s1 s2).calm) D.calm.2)
  (h3:IsMin T (fun t=>(hoursP b P t s1 s2).good) D.good.1) (h4:IsMax T (fun t=>(hoursP b P t s1 s2).good) D.good.2)
  (h5:IsMin T (totT b P) R.1) (h6:IsMax T (totT b P) R.2):metT b P D R s1 s2 T = 63:=by
 refine Nat.eq_of_testBit_eq fun k=>?_
 by_cases hk:k < 6
 ·rw [metT_bit b P D R s1 s2 T hk]
  have e63:Nat.testBit 63 k = true:=by
   have:k = 0∨k = 1∨k = 2∨k = 3∨k = 4∨k = 5:=by omega
   rcases this with rfl | rfl | rfl | rfl | rfl | rfl <;> decide
  rw [e63,List.any_eq_true]
  obtain ⟨t1,a1,g1⟩:=h1.2
  obtain ⟨t2,a2,g2⟩:=h2.2
  obtain ⟨t3,a3,g3⟩:=h3.2
  obtain ⟨t4,a4,g4⟩:=h4.2
  obtain ⟨t5,a5,g5⟩:=h5.2
  obtain ⟨t6,a6,g6⟩:=h6.2
  have:k = 0∨k = 1∨k = 2∨k = 3∨k = 4∨k = 5:=by omega
  rcases this with rfl | rfl | rfl | rfl | rfl | rfl
  ·exact ⟨t1,a1,decide_eq_true g1⟩
  ·exact ⟨t2,a2,decide_eq_true g2⟩
  ·exact ⟨t3,a3,decide_eq_true g3⟩
  ·exact ⟨t4,a4,decide_eq_true g4⟩
  ·exact ⟨t5,a5,decide_eq_true g5⟩
  ·exact ⟨t6,a6,decide_eq_true g6⟩
 ·have hp:2 ^ 6≤2 ^ k:=Nat.pow_le_pow_right (by decide) (by omega)
  rw [Nat.testBit_lt_two_pow (Nat.lt_of_lt_of_le (metT_lt b P D R s1 s2 T) hp),Nat.testBit_lt_two_pow (Nat.lt_of_lt_of_le (by decide:63 < 2 ^ 6) hp)]
theorem lEnds20 (e:List Bool) (he:e.length = 6) (v10 v15 v18:V) (B4 B9 B13 B16:Res) (c γ:Nat):∀ (d j M:Nat),j + d = 6→M < 64→∀ n k,d < k→loopA (execA Tryz.prog ann kn (n+100) 168) lb7_20 (ann 168 (fstR lb7_20)) k ⟨c,[(4,true,.ptr 0 4 0 0),(9,true,.ptr 0 9 1 0),(10,true,v10),(13,true,.ptr 0 13 2 0),(15,true,v15),(16,true,.ptr 0 16 3 0),(17,true,i M),(18,true,v18),(22,true,.ptr 0 22 γ 0),(23,true,i j)],⟨[],[(4,0,B4),(9,1,B9),(13,2,B13),(16,3,B16),(22,γ,.box (e.map V.bool))]⟩⟩ =
  some (.exit 2,⟨c,[(152,true,.bool false),(151,true,i 6),(4,true,.ptr 0 4 0 0),(9,true,.ptr 0 9 1 0),(10,true,v10),(13,true,.ptr 0 13 2 0),(15,true,v15),(16,true,.ptr 0 16 3 0),(17,true,i (metG e M j d:Nat)),(18,true,v18),(22,true,.ptr 0 22 γ 0),(23,true,i 6)],⟨[],[(4,0,B4),(9,1,B9),(13,2,B13),(16,3,B16),(22,γ,.box (e.map V.bool))]⟩⟩)
 | 0,j,M,hd,hM,n,k,hk=>by
  have:j = 6:=by omega
  subst this
  obtain ⟨k,rfl⟩:∃ k',k = k' + 1:=⟨k - 1,by omega⟩
  rw [loopA_succ]
  simp [metG]
 | d + 1,j,M,hd,hM,n,k,hk=>by
  have hj:j < e.length:=by omega
  have hj6:(j:Int) < 6:=by omega
  have hw:=wrapS (k:=j) (by omega)
  have h2:2 ^ j < 2 ^ 6:=Nat.pow_lt_pow_right (by decide) (by omega)
  have e1:=shlE (j:=j) (by omega)
  have e2:=wrap_u64s (p:=j) (by omega)
  have e3:evInt .or .i64 (M:Int) ((2 ^ j:Nat):Int) = some (.int .i64 ((M ||| 2 ^ j:Nat):Int)):=by
   rw [evInt_or]
   exact congrArg (fun z=>some (V.int IntKind.i64 z)) (or_small hM (by omega))
  have hor:M ||| 2 ^ j < 64:=Nat.or_lt_two_pow (n:=6) hM h2
  have hz:e.getD j false = e[j]:=by rw [List.getD_eq_getElem?_getD,List.getElem?_eq_getElem hj]; rfl
  unfold metG
  rw [hz]
  cases hb:e[j] with
  | true =>
   have ih:=lEnds20 e he v10 v15 v18 B4 B9 B13 B16 c γ d (j + 1) (M ||| 2 ^ j) (by omega) hor n (k - 1) (by omega)
   obtain ⟨k,rfl⟩:∃ k',k = k' + 1:=⟨k - 1,by omega⟩
   rw [Nat.add_sub_cancel] at ih
   rw [if_pos rfl,loopA_succ]
   generalize M ||| 2 ^ j = M2 at *
   generalize 2 ^ j = A at *
   simp at ih
   simp [hj,hj6,hw,hb,e1,e2,e3,convUi,-evSh_shl,ih]
  | false =>
   have ih:=lEnds20 e he v10 v15 v18 B4 B9 B13 B16 c γ d (j + 1) M (by omega) hM n (k - 1) (by omega)
   obtain ⟨k,rfl⟩:∃ k',k = k' + 1:=⟨k - 1,by omega⟩
   rw [Nat.add_sub_cancel] at ih
   rw [if_neg (by decide),loopA_succ]
   simp at ih
   simp [hj,hj6,hw,hb,ih]
theorem lEnds14 (hb:Valid b) {P:List (List Int)} (hp:PlanOf b P) (D:Bnd) (R:Int × Int) (s1 s2:Nat) (h1:s1 < b.rows.toNat) (h2:s2 < b.places.toNat) (T:List (List Int)) (hT:∀ t ∈ T,listedGo t b.winds = true) (hTl:T.length≤5000):∀ (d j c:Nat),j + d = T.length→4≤c→∃ c',∀ n k,d < k→loopA (execA Tryz.prog ann kn (n+3000) 168) lb7_14 (ann 168 (fstR lb7_14)) k ⟨c,[(4,true,.ptr 0 4 0 0),(9,true,.ptr 0 9 1 0),(10,true,lli P),(13,true,.ptr 0 13 2 0),(15,true,.list false (T.map encL)),(16,true,.ptr 0 16 3 0),(17,true,i (metT b P D R s1 s2 (T.take j):Nat)),(18,true,i j)],⟨[],[(4,0,.box (cellsB b)),(9,1,.box [i s1,i s2]),(13,2,.box [i R.1,i R.2]),(16,3,.box (encB D))]⟩⟩ =
  some (.exit 0,⟨c',[(97,true,.bool false),(96,true,i T.length),(95,true,.list false (T.map encL)),(94,true,i T.length),(4,true,.ptr 0 4 0 0),(9,true,.ptr 0 9 1 0),(10,true,lli P),(13,true,.ptr 0 13 2 0),(15,true,.list false (T.map encL)),(16,true,.ptr 0 16 3 0),(17,true,i (metT b P D R s1 s2 T:Nat)),(18,true,i T.length)],⟨[],[(4,0,.box (cellsB b)),(9,1,.box [i s1,i s2]),(13,2,.box [i R.1,i R.2]),(16,3,.box (encB D))]⟩⟩)
 | 0,j,c,hd,hc=>by
  have:j = T.length:=by omega
  subst this
  refine ⟨c,fun n k hk=>?_⟩
  obtain ⟨k,rfl⟩:∃ k',k = k' + 1:=⟨k - 1,by omega⟩
  rw [loopA_succ,List.take_length]
  simp only [cellsB,encB]
  simp
 | d + 1,j,c,hd,hc=>by
  have hj:j < T.length:=by omega
  have hw:=wrapS (k:=j) (by omega)
  have ht:=hT T[j] (List.getElem_mem hj)
  have qR:=fun n=>kRefPlay n b hb P hp T[j] ht
  rw [refP_eq hb hp ht] at qR
  obtain ⟨o1,o2⟩:=play_small hb P ht
  have qS:=fun n=>kSum n (playP b P T[j] b.rows.toNat) o1 o2
  rw [sum_tot] at qS
  have hpl:(playP b P T[j] b.rows.toNat).length = b.rows.toNat:=by simp [playP]
  have hpne:playP b P T[j] b.rows.toNat ≠ []:=fun h=>by
   rw [h] at hpl
   simp at hpl
   omega
  rw [slX hpne] at qR
  have hrl:(rowP b P T[j] s1).length = b.places.toNat:=by simp [rowP]
  have l1:s1 < (playP b P T[j] b.rows.toNat).length:=by omega
  have l2:s2 < (rowP b P T[j] s1).length:=by omega
  have hpg:(playP b P T[j] b.rows.toNat)[s1] = rowP b P T[j] s1:=by simp [playP]
  have hrg:(rowP b P T[j] s1)[s2] = hoursP b P T[j] s1 s2:=by simp [rowP]
  obtain ⟨c',ih⟩:=lEnds14 hb hp D R s1 s2 h1 h2 T hT hTl d (j + 1) (c + 1 + 1) (by omega) (by omega)
  rw [List.take_succ_eq_append_getElem hj,metT_snoc] at ih
  have ql:=fun n k=>lEnds20 (endsL b P D R s1 s2 T[j]) rfl (lli P) (.list false (T.map encL)) (i j) (.box (cellsB b)) (.box [i s1,i s2]) (.box [i R.1,i R.2]) (.box (encB D)) (c + 1 + 1) (c + 1) 6 0 (metT b P D R s1 s2 (T.take j)) rfl (metT_lt _ _ _ _ _ _ _) n (k + 10) (by omega)
  generalize metG (endsL b P D R s1 s2 T[j]) (metT b P D R s1 s2 (T.take j)) 0 6 = M2 at ql ih
  generalize metT b P D R s1 s2 (T.take j) = M1 at *
  refine ⟨c',fun n k hk=>?_⟩
  obtain ⟨k,rfl⟩:∃ k',k = k' + 1:=⟨k - 1,by omega⟩
  have ih:=ih n k (by omega)
  rw [loopA_succ]
  simp only [endsL,List.map_cons,List.map_nil] at ql
  generalize playP b P T[j] b.rows.toNat = A at *
  generalize rowP b P T[j] s1 = B at *
  generalize hoursP b P T[j] s1 s2 = x at *
  simp only [cellsB,encB] at qR ql ih ⊢
  simp at ql ih
  simp [hj,hw,encI,encL,encP,encHs,encH,plK,qR,qS,l1,l2,hpg,hrg,put_eqX,build6,ql,ih]
set_option maxHeartbeats 4000000 in
theorem kEnds (n:Nat) (b:Beach) (_:okB b) (ws:List Nat) (hws:∀ w ∈ ws,w≤65535) (w1:Nat) (hw1:w1≤255) (w2:Nat) (hw2:w2≤255):call0 Tryz.prog (execA Tryz.prog ann kn (n+7000)) 7 [.agg (cellsB b),.list false (ws.map encW),.int .u8 w1,.int .u8 w2] = some (.bool true):=by
 rw [call0_eq Tryz.func7 b7 rfl (by simp [cellsB,encI,encL,encP,encW])]
 have qr:=fun n=>kReady n b
 cases hR:readyB b with
 | false =>
  rw [hR] at qr
  simp only [cellsB] at qr ⊢
  simp [c7,argFr,qr,encI,encL,encP,encW,kAwakeX]
 | true =>
  rw [hR] at qr
  obtain ⟨hb,_⟩:=ready_of hR
  have hla:=hb.la
  have hro:=hb.ro
  have hpc:=hb.pl
  have hwi:=hb.wi
  have hp:=planW_ok hb ws
  have hpo:=plan_of hp
  have qp:=fun n=>kPlan n b hb ws hws
  have qB:=fun n=>kBeachX n hb
  have qli:=fun n=>kListsX n hb hpo
  have qT:=fun n=>kTotal n b hb.w40 (planOfW b ws)
  have qb:=fun n=>kBoundsV n b hb.w40 (planOfW b ws)
  have qt:=fun n=>kTruthsRR n b hb
  have wr1:IntKind.i64.wrap (w1:Int) = (w1:Int):=wrap_i64 (by omega) (by omega)
  have wr2:IntKind.i64.wrap (w2:Int) = (w2:Int):=wrap_i64 (by omega) (by omega)
  have m1:(w1:Int).tmod b.rows = ((w1 % b.rows.toNat:Nat):Int):=by
   have e:b.rows = ((b.rows.toNat:Nat):Int):=by omega
   rw [e,Int.toNat_natCast]
   exact (Int.ofNat_tmod _ _).symm
  have m2:(w2:Int).tmod b.places = ((w2 % b.places.toNat:Nat):Int):=by
   have e:b.places = ((b.places.toNat:Nat):Int):=by omega
   rw [e,Int.toNat_natCast]
   exact (Int.ofNat_tmod _ _).symm
  have hs1:w1 % b.rows.toNat < b.rows.toNat:=Nat.mod_lt _ (by omega)
  have hs2:w2 % b.places.toNat < b.places.toNat:=Nat.mod_lt _ (by omega)
  generalize w1 % b.rows.toNat = s1 at *
  generalize w2 % b.places.toNat = s2 at *
  have z1:¬ b.rows = 0:=by omega
  have z2:¬ b.places = 0:=by omega
  have n1:((s1:Nat):Int) < b.rows:=by omega
  have wm1:IntKind.i64.wrap (s1:Int) = (s1:Int):=wrap_i64 (by omega) (by omega)
  have wm2:IntKind.i64.wrap (s2:Int) = (s2:Int):=wrap_i64 (by omega) (by omega)
  by_cases hE:dfsW b [] b.winds [] = []
  ·have hT:truthsR b = []:=List.eq_nil_iff_forall_not_mem.2 fun t ht=>by
    have:=(mem_dfs b t).2 (mem_truths.1 ht)
    rw [hE] at this
    cases this
   rw [totalV_none hb (plan:=planOfW b ws) hp hE] at qT
   unfold boundsV at qb
   rw [if_pos (fault_of hb),if_pos hp,if_pos (by rw [hE]; rfl)] at qb
   rw [hT] at qt
   have slnil:sl ([]:List (List V)) = .nil:=rfl
   generalize planOfW b ws = P at *
   simp only [cellsB,cellsR,encR,List.map_nil,slnil] at qr qp qB qT qb qt ⊢
   simp [c7,argFr,encI,encL,encP,encW,plK,qr,qp,qB,qli,qT,qb,qt,wr1,wr2,m1,m2,wm1,wm2,z1,z2,convB,kAwakeX]
  ·have ha:=asked_dfs hb hE
   have hT:truthsR b ≠ []:=fun h=>hE (List.eq_nil_iff_forall_not_mem.2 fun t ht=>by
    have:=mem_truths.2 ((mem_dfs b t).1 ht)
    rw [h] at this
    cases this)
   rw [totalV_ok hb (plan:=planOfW b ws) hp hE] at qT
   unfold boundsV at qb
   rw [if_pos (fault_of hb),if_pos hp,if_neg (by simpa using hE)] at qb
   have hbl:(bndsP b (windsA b) (planOfW b ws) b.rows.toNat).length = b.rows.toNat:=by simp [bndsP]
   have hbne:bndsP b (windsA b) (planOfW b ws) b.rows.toNat ≠ []:=fun h=>by
    rw [h] at hbl
    simp at hbl
    omega
   have hrl:(rowB b (windsA b) (planOfW b ws) s1).length = b.places.toNat:=by simp [rowB]
   have la:s1 < (bndsP b (windsA b) (planOfW b ws) b.rows.toNat).length:=by omega
   have lb:s2 < (rowB b (windsA b) (planOfW b ws) s1).length:=by omega
   have hbg:(bndsP b (windsA b) (planOfW b ws) b.rows.toNat)[s1] = rowB b (windsA b) (planOfW b ws) s1:=by simp [bndsP]
   have hrg:(rowB b (windsA b) (planOfW b ws) s1)[s2] = bndP b (windsA b) (planOfW b ws) s1 s2:=by simp [rowB]
   have qo:=fun n=>kBounded n b (bndsP b (windsA b) (planOfW b ws) b.rows.toNat) (by omega)
   rw [bounded_ok hb] at qo
   rw [slX hbne] at qb
   rw [slX hT] at qt
   obtain ⟨g1,g2⟩:=calmB_is hb ha (planOfW b ws) s1 s2
   obtain ⟨g3,g4⟩:=goodB_is hb ha (planOfW b ws) s1 s2
   obtain ⟨g5,g6⟩:=totalP_is hb ha hpo
   have hmet:metT b (planOfW b ws) (bndP b (windsA b) (planOfW b ws) s1 s2) (totalP b (windsA b) (planOfW b ws)) s1 s2 (truthsR b) = 63:=met_all g1 g2 g3 g4 g5 g6
   have hTl:(truthsR b).length≤5000:=by
    have h1:=hb.many
    have h2:(truthsR b).length≤((List.range (manyN b.winds)).map (nthGo b.winds)).length:=List.length_filter_le _ _
    rw [List.length_map,List.length_range] at h2
    omega
   obtain ⟨c',ql⟩:=lEnds14 hb hpo (bndP b (windsA b) (planOfW b ws) s1 s2) (totalP b (windsA b) (planOfW b ws)) s1 s2 hs1 hs2 (truthsR b) (fun t ht=>truth_listed ht) hTl (truthsR b).length 0 4 (by omega) (by omega)
   have ql:=fun n k=>ql n (k + 5001) (by omega)
   rw [hmet] at ql
   have e0:metT b (planOfW b ws) (bndP b (windsA b) (planOfW b ws) s1 s2) (totalP b (windsA b) (planOfW b ws)) s1 s2 ((truthsR b).take 0) = 0:=rfl
   rw [e0] at ql
   clear g1 g2 g3 g4 g5 g6 hmet e0
   generalize bndsP b (windsA b) (planOfW b ws) b.rows.toNat = A at *
   generalize rowB b (windsA b) (planOfW b ws) s1 = B at *
   generalize bndP b (windsA b) (planOfW b ws) s1 s2 = D at *
   generalize totalP b (windsA b) (planOfW b ws) = R at *
   generalize planOfW b ws = P at *
   simp only [cellsB,cellsR,encR,encB,List.map_nil] at qr qp qB qT qb qo qt ql ⊢
   simp at ql
   simp [c7,argFr,encI,encL,encP,encW,encBs,encB,plK,qr,qp,qB,qli,qT,qb,qt,qo,wr1,wr2,m1,m2,wm1,wm2,z1,z2,convB,hbg,hrg,hT,la,lb,ql,kAwakeX]
end
end Go.Proofs.Tryz.Op
