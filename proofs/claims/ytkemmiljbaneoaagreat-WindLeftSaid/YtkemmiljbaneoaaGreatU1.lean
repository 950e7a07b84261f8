/- Contracts of the law: some, truthful. No condition but a valid beach. -/
import Derived.Test.YtkemmiljbaneoaaGreatX1
import Derived.Test.YtkemmiljbaneoaaGreatL
import Derived.Test.YtkemmiljbaneoaaGreatFz
open Go Go.Pg Go.Proofs Go.Wind
namespace Go.Wind
def pickN (x:Nat):Nat→List (Int × Int)→List (Int × Int)
 | _,[]=>[]
 | j,l :: r=>if x.testBit j = true then l :: pickN x (j + 1) r else pickN x (j + 1) r
def someN (b:Beach) (x:Nat):Beach:={ b with notes:=pickN x 0 b.notes }
theorem pickN_sub (x:Nat):∀ (j:Nat) (l:List (Int × Int)),(pickN x j l).length≤l.length∧∀ p ∈ pickN x j l,p ∈ l
 | _,[]=>by simp [pickN]
 | j,p :: r=>by
  obtain ⟨h1,h2⟩:=pickN_sub x (j + 1) r
  unfold pickN
  split
  ·refine ⟨by simp; omega,fun q hq=>?_⟩
   rcases List.mem_cons.1 hq with rfl | hq
   ·simp
   ·exact List.mem_cons_of_mem _ (h2 q hq)
  ·exact ⟨by simp; omega,fun q hq=>List.mem_cons_of_mem _ (h2 q hq)⟩
theorem someN_valid {b:Beach} (hb:Valid b) (x:Nat):Valid (someN b x):=by
 obtain ⟨la,ro,pl,re,br,no,fa,su,wi,fd,sd,wo,bo,nok⟩:=hb
 obtain ⟨h1,h2⟩:=pickN_sub x 0 b.notes
 refine ⟨la,ro,pl,re,br,by simp only [someN]; omega,fa,su,wi,fd,sd,wo,bo,?_⟩
 simp only [someN,List.all_eq_true] at nok ⊢
 exact fun p hp=>nok p (h2 p hp)
def stayP (b:Beach):List (List Int):=List.replicate (b.last + 1).toNat b.face
theorem stayP_ok {b:Beach} (hb:Valid b):isPlanB b (stayP b) = true:=by
 have hla:=hb.la
 simp only [isPlanB,Bool.and_eq_true,List.all_eq_true,decide_eq_true_eq]
 refine ⟨fun l hl=>?_,by simp [stayP]; omega⟩
 rw [List.eq_of_mem_replicate hl]
 exact ⟨hb.fa,hb.fd⟩
end Go.Wind
namespace Go.Proofs.Tryz.Op
set_option maxRecDepth 100000
set_option linter.unusedSimpArgs false
theorem lSome4 (x:Nat) (b:Beach) (hl:b.notes.length≤30) (Z:List V):∀ (d j:Nat) (out:List (Int × Int)) (c γ:Nat),j + d = b.notes.length→out.length≤j→3≤c→∃ (c' γ':Nat),3≤c'∧∀ n m,d < m →
  loopA (execA Tryz.prog ann kn (n+100) 33) lb59_4 (ann 33 (fstR lb59_4)) m ⟨c,[(1,true,i x),(2,true,.ptr 0 2 0 0),(4,true,.ptr 0 4 1 0),(5,true,.ptr 0 5 2 0),(6,true,i j)],
   ⟨[],(2,0,.box (cellsB b)) :: (4,1,.box Z) :: (5,2,.box [i b.last,i b.rows,i b.places,i b.reach,li b.face,li b.sun,lli b.winds,.list false (b.breaks.map encP),pv 30 γ (out.map encP)]) :: pl 30 γ 101 (out.map encP)⟩⟩ =
   some (.exit 0,⟨c',[(13,true,.bool false),(12,true,i b.notes.length),(11,true,.list false (b.notes.map encP)),(10,true,.ptr 0 2 0 8),(9,true,i b.notes.length),(1,true,i x),(2,true,.ptr 0 2 0 0),(4,true,.ptr 0 4 1 0),(5,true,.ptr 0 5 2 0),(6,true,i b.notes.length)],
   ⟨[],(2,0,.box (cellsB b)) :: (4,1,.box Z) :: (5,2,.box [i b.last,i b.rows,i b.places,i b.reach,li b.face,li b.sun,lli b.winds,.list false (b.breaks.map encP),pv 30 γ' ((out ++ pickN x j (b.notes.drop j)).map encP)]) :: pl 30 γ' 101 ((out ++ pickN x j (b.notes.drop j)).map encP)⟩⟩)
 | 0,j,out,c,γ,hd,ho,hc=>by
  have hj:j = b.notes.length:=by omega
  subst hj
  refine ⟨c,γ,hc,fun n m hm=>?_⟩
  obtain ⟨m,rfl⟩:∃ m',m = m' + 1:=⟨m - 1,by omega⟩
  simp [loopA_succ,cellsB,pickN]
 | d + 1,j,out,c,γ,hd,ho,hc=>by
  have hj:j < b.notes.length:=by omega
  have e1:=shr_ev (x:=x) (j:=j) (by omega)
  have e2:=wrap_u64s (p:=j) (by omega)
  have hb:=mod_bit x j
  have hw:=wrapS (k:=j) (by omega)
  generalize ((x / 2 ^ j:Nat):Int) = X at e1 hb
  rw [List.drop_eq_getElem_cons hj]
  simp only [pickN]
  cases hbit:x.testBit j with
  | false =>
   rw [hbit] at hb
   obtain ⟨c',γ',hc',ih⟩:=lSome4 x b hl Z d (j + 1) out c γ (by omega) (by omega) hc
   refine ⟨c',γ',hc',fun n m hm=>?_⟩
   obtain ⟨m,rfl⟩:∃ m',m = m' + 1:=⟨m - 1,by omega⟩
   have ih:=ih n m (by omega)
   rw [if_neg (by decide),loopA_succ]
   simp only [cellsB] at ih ⊢
   simp at ih
   simp [hj,convUi,e2,e1,-evSh_shr,hb,hw,ih]
  | true =>
   rw [hbit] at hb
   obtain ⟨c',γ',hc',ih⟩:=lSome4 x b hl Z d (j + 1) (out ++ [b.notes[j]]) (c + 1) c (by omega) (by simp; omega) (by omega)
   refine ⟨c',γ',hc',fun n m hm=>?_⟩
   obtain ⟨m,rfl⟩:∃ m',m = m' + 1:=⟨m - 1,by omega⟩
   have ih:=ih n m (by omega)
   have happ:appOK Tryz.prog 101 out.length [[.int .i64 b.notes[j].1,.int .i64 b.notes[j].2]] = true:=by
    rw [appOK_iff (by simp) (by simp)]
    simp [maxLen]
    omega
   have hg1:2 < c + 1:=by omega
   have hg2:2 < c:=by omega
   rw [if_pos rfl,loopA_succ]
   simp only [cellsB] at ih ⊢
   simp [encP] at ih
   simp [hj,convUi,e2,e1,-evSh_shr,hb,hw,happ,encP,plK,apK,hg1,hg2,ih]
theorem kSomeL (n x:Nat) (b:Beach) (hl:b.notes.length≤30):callK Tryz.prog kn (execA Tryz.prog ann kn (n+300)) 59 [.agg (cellsB b),i x] = some (.agg [i b.last,i b.rows,i b.places,i b.reach,li b.face,li b.sun,lli b.winds,.list false (b.breaks.map encP),sl ((pickN x 0 b.notes).map encP)]):=by
 rw [callK_of rfl,call0_eq Tryz.func59 b59 rfl (by simp [cellsB,encI,encL,encP])]
 obtain ⟨c',γ',hc',q⟩:=lSome4 x b hl [i 0,i 0,i 0,i 0,.nil,.nil,.nil,.nil,.nil] b.notes.length 0 [] 3 0 (by omega) (by simp) (Nat.le_refl _)
 have q:=fun n m=>q n (m + 100) (by omega)
 rw [List.drop_zero,List.nil_append] at q
 generalize pickN x 0 b.notes = F at q ⊢
 simp only [cellsB] at q ⊢
 simp at q
 simp [c59,argFr,encI,encL,encP,q,show 1 < c' by omega,put_eqX]
 rw [closeX_pv (T:=101) 2 _ 30 γ' (F.map encP) (by simp)]
 simp
theorem appLs {k:Nat} {x:List Int} (h:k≤10000):appOK Tryz.prog 22 k [encL x] = true:=by
 rw [appOK_iff (by simp [encL]) (by simp)]
 simp [maxLen,encL]; omega
theorem lTf3 (b:Beach) (hb:Valid b):∀ (d j c γ:Nat),j + d = (b.last + 1).toNat→∃ fr c' γ',getF fr 1 = some (true,.ptr 0 1 0 0)∧getF fr 3 = some (true,pv 18 γ' ((stayP b).map encL))∧∀ n m,d < m →
  loopA (execA Tryz.prog ann kn (n+300) 27) lb58_3 (ann 27 (fstR lb58_3)) m ⟨c,[(1,true,.ptr 0 1 0 0),(3,true,pv 18 γ ((List.replicate j b.face).map encL)),(4,true,i j)],⟨[],(1,0,.box (cellsB b)) :: pl 18 γ 22 ((List.replicate j b.face).map encL)⟩⟩ =
   some (.exit 0,⟨c',fr,⟨[],(1,0,.box (cellsB b)) :: pl 18 γ' 22 ((stayP b).map encL)⟩⟩)
 | 0,j,c,γ,hd=>by
  have hla:=hb.la
  have hj:j = (b.last + 1).toNat:=by omega
  have e:List.replicate j b.face = stayP b:=by rw [hj]; rfl
  have hlt:¬ ((j:Int)≤b.last):=by omega
  rw [e]
  refine ⟨?fr,c,γ,?g0,?g1,fun n m hm=>?g2⟩
  case g2 =>
   obtain ⟨m,rfl⟩:∃ m',m = m' + 1:=⟨m - 1,by omega⟩
   rw [loopA_succ]
   simp [cellsB,hlt]
   rfl
  case g0=>simp
  case g1=>simp
 | d + 1,j,c,γ,hd=>by
  have hla:=hb.la
  have hj:(j:Int)≤b.last:=by omega
  have hw:=wrapS (k:=j) (by omega)
  have hro:=hb.ro
  have hfa:=hb.fa
  have ql:=fun n=>kList n b.face (by omega)
  obtain ⟨fr,c',γ',e0,e1,ih⟩:=lTf3 b hb d (j + 1) (c + 1) c (by omega)
  have er:List.replicate (j + 1) b.face = List.replicate j b.face ++ [b.face]:=by rw [List.replicate_succ']
  rw [er] at ih
  have happ:=appLs (k:=(List.replicate j b.face).length) (x:=b.face) (by simp; omega)
  refine ⟨fr,c',γ',e0,e1,fun n m hm=>?_⟩
  obtain ⟨m,rfl⟩:∃ m',m = m' + 1:=⟨m - 1,by omega⟩
  have ih:=ih n m (by omega)
  generalize List.replicate j b.face = RR at ih happ ⊢
  generalize stayP b = S at ih ⊢
  rw [loopA_succ]
  simp only [cellsB] at ih ⊢
  simp [encL] at ih happ
  simp [hj,hw,encL,ql,happ,ih]
theorem kTruthful (n:Nat) (b:Beach) (hb:Valid b):callK Tryz.prog kn (execA Tryz.prog ann kn (n+6400)) 58 [.agg (cellsB b)] = some (i (if (dfsW b [] b.winds []).isEmpty = true then 11 else 0)):=by
 rw [callK_of rfl,call0_eq Tryz.func58 b58 rfl (by simp [cellsB,encI,encL,encP])]
 have hla:=hb.la
 obtain ⟨fr,c',γ',e0,e1,q⟩:=lTf3 b hb (b.last + 1).toNat 0 1 0 (by omega)
 have q:=fun n m=>q n (m + 100) (by omega)
 have qB:=fun n=>kBeachX n hb
 have qT:=fun n=>kTotal n b hb.w40 (stayP b)
 have hV:totalV b (stayP b) = if (dfsW b [] b.winds []).isEmpty = true then ((0,0),11) else (totalP b (windsA b) (stayP b),0):=by
  unfold totalV
  rw [if_pos (fault_of hb),if_pos (stayP_ok hb)]
 have hne:stayP b ≠ []:=fun e=>by
  have:=congrArg List.length e
  simp [stayP] at this
  omega
 have e2:(totalV b (stayP b)).2 = if (dfsW b [] b.winds []).isEmpty = true then 11 else 0:=by rw [hV]; split <;> rfl
 rw [← e2]
 have hsl:sl ((stayP b).map encL) = .list false ((stayP b).map encL):=slX hne
 rw [List.replicate_zero] at q
 generalize totalV b (stayP b) = R at qT ⊢
 generalize stayP b = S at *
 simp only [cellsB,cellsR,encR] at qB qT q ⊢
 simp at q
 simp [c58,argFr,encI,encL,encP,q,qB,qT,e0,e1,hsl]
end Go.Proofs.Tryz.Op
