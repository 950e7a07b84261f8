/- Contracts of small functions: In, Directions, IsSpot, Has; list, lists, Spot, brief. No condition. -/
import Derived.Test.YtkemmiljbaneoaaGreatSw
import Derived.Test.YtkemmiljbaneoaaGreatL
import Derived.Test.YtkemmiljbaneoaaGreatFz
open Go Go.Pg Go.Proofs Go.Wind
namespace Go.Proofs.Tryz.Op
set_option maxRecDepth 100000
set_option linter.unusedSimpArgs false
abbrev i (n:Int):V:=.int .i64 n
def encI (x:Int):List V:=[i x]
abbrev li (l:List Int):V:=.list false (l.map encI)
def encL (l:List Int):List V:=[li l]
abbrev lli (ls:List (List Int)):V:=.list false (ls.map encL)
def encP (p:Int × Int):List V:=[i p.1,i p.2]
def cellsB (b:Beach):List V:=[i b.last,i b.rows,i b.places,i b.reach,li b.face,li b.sun,lli b.winds,.list false (b.breaks.map encP),.list false (b.notes.map encP)]
def cellsR (b:Beach):List V:=[i b.last,i b.rows,i b.places,i b.reach,li b.face,li b.sun,lli b.winds,sl (b.breaks.map encP),sl (b.notes.map encP)]
theorem wrapS {k:Nat} (h:k≤1000000):IntKind.i64.wrap ((k:Int) + 1) = ((k + 1:Nat):Int):=by rw [wrap_i64 (by omega) (by omega)]; rfl
theorem kIn (n:Nat) (x lo hi:Int):callK Tryz.prog kn (execA Tryz.prog ann kn (n+50)) 31 [i x,i lo,i hi] = some (.bool (inI x lo hi)):=by
 rw [callK_of rfl,call0_eq Tryz.func31 b31 rfl rfl]
 unfold inI
 generalize e1:decide (lo≤x) = b1
 simp [e1,c31,argFr]
 cases b1 <;> simp
theorem lDirs (l:List Int) (lo:Int) (hl:l.length≤100):∀ (d k:Nat),k + d = l.length→∃ fr,∀ n m,d < m→loopA (execA Tryz.prog ann kn (n+100) 19) lb82_2 (ann 19 (fstR lb82_2)) m ⟨0,[(0,true,li l),(1,true,i lo),(5,true,i k)],⟨[],[]⟩⟩ =
  if dirsB (l.drop k) lo = true then some (.exit 0,⟨0,fr,⟨[],[]⟩⟩) else some (.ret,⟨0,[(4,true,.bool false)],⟨[],[]⟩⟩)
 | 0,k,hk=>by
  have:k = l.length:=by omega
  subst this
  refine ⟨?fr,fun n m hm=>?_⟩
  rotate_left
  ·obtain ⟨m,rfl⟩:∃ m',m = m' + 1:=⟨m - 1,by omega⟩
   rw [List.drop_length,loopA_succ]
   simp [dirsB]
   rfl
 | d + 1,k,hk=>by
  have hk':k < l.length:=by omega
  have hw:=wrapS (k:=k) (by omega)
  obtain ⟨fr,ih⟩:=lDirs l lo hl d (k + 1) (by omega)
  have q:=fun n=>kIn n l[k] lo 3
  rw [List.drop_eq_getElem_cons hk']
  generalize hb:inI l[k] lo 3 = b at q
  simp only [dirsB,List.all_cons,hb] at ih ⊢
  cases b with
  | true =>
   refine ⟨fr,fun n m hm=>?_⟩
   obtain ⟨m,rfl⟩:∃ m',m = m' + 1:=⟨m - 1,by omega⟩
   have ih:=ih n m (by omega)
   rw [loopA_succ]
   simp at ih
   simp [hk',hw,encI,q,ih]
  | false =>
   refine ⟨[],fun n m hm=>?_⟩
   obtain ⟨m,rfl⟩:∃ m',m = m' + 1:=⟨m - 1,by omega⟩
   rw [loopA_succ]
   simp [hk',hw,encI,q]
theorem kDirs (n:Nat) (l:List Int) (lo:Int) (hl:l.length≤100):callK Tryz.prog kn (execA Tryz.prog ann kn (n+300)) 82 [li l,i lo] = some (.bool (dirsB l lo)):=by
 rw [callK_of rfl,call0_eq Tryz.func82 b82 rfl (by simp [encI])]
 obtain ⟨fr,q⟩:=lDirs l lo hl l.length 0 (by omega)
 have q:=fun n m=>q n (m + 200) (by omega)
 rw [List.drop_zero] at q
 generalize dirsB l lo = z at q ⊢
 cases z <;> (simp at q; simp [c82,argFr,q])
theorem kSpotR (n:Nat) (b:Beach) (s:Int × Int) (h1:0≤b.rows∧b.rows≤1000) (h2:0≤b.places∧b.places≤1000):callK Tryz.prog kn (execA Tryz.prog ann kn (n+200)) 30 [.agg (cellsB b),.agg (encP s)] = some (.bool (isSpotB b s)):=by
 rw [callK_of rfl,call0_eq Tryz.func30 b30 rfl (by simp [cellsB,encP,encI,encL])]
 have w1:IntKind.i64.wrap (b.rows - 1) = b.rows - 1:=wrap_i64 (by omega) (by omega)
 have w2:IntKind.i64.wrap (b.places - 1) = b.places - 1:=wrap_i64 (by omega) (by omega)
 have q1:=fun n=>kIn n s.1 0 (b.rows - 1)
 have q2:=fun n=>kIn n s.2 0 (b.places - 1)
 unfold isSpotB
 generalize inI s.1 0 (b.rows - 1) = z1 at q1 ⊢
 generalize inI s.2 0 (b.places - 1) = z2 at q2 ⊢
 cases z1 <;> simp [c30,argFr,cellsB,encP,w1,w2,q1,q2]
theorem lHas (l:List Int) (x:Int) (hl:l.length≤100):∀ (d k:Nat),k + d = l.length→∃ fr,∀ n m,d < m→loopA (execA Tryz.prog ann kn (n+100) Tryz.f51.ntmps) lb51_2 (ann Tryz.f51.ntmps (fstR lb51_2)) m ⟨0,[(0,true,li l),(1,true,i x),(5,true,i k)],⟨[],[]⟩⟩ =
  if x ∈ l.drop k then some (.ret,⟨0,[(4,true,.bool true)],⟨[],[]⟩⟩) else some (.exit 0,⟨0,fr,⟨[],[]⟩⟩)
 | 0,k,hk=>by
  have:k = l.length:=by omega
  subst this
  refine ⟨?fr,fun n m hm=>?_⟩
  rotate_left
  ·obtain ⟨m,rfl⟩:∃ m',m = m' + 1:=⟨m - 1,by omega⟩
   rw [List.drop_length,if_neg (by simp),loopA_succ]
   simp [show Tryz.f51.ntmps = 18 from rfl]
   rfl
 | d + 1,k,hk=>by
  have hk':k < l.length:=by omega
  have hw:=wrapS (k:=k) (by omega)
  obtain ⟨fr,ih⟩:=lHas l x hl d (k + 1) (by omega)
  rw [List.drop_eq_getElem_cons hk']
  by_cases h:x = l[k]
  ·refine ⟨[],fun n m hm=>?_⟩
   obtain ⟨m,rfl⟩:∃ m',m = m' + 1:=⟨m - 1,by omega⟩
   rw [if_pos (List.mem_cons.2 (.inl h)),loopA_succ]
   simp [show Tryz.f51.ntmps = 18 from rfl,hk',hw,encI,h]
  ·refine ⟨fr,fun n m hm=>?_⟩
   obtain ⟨m,rfl⟩:∃ m',m = m' + 1:=⟨m - 1,by omega⟩
   have ih:=ih n m (by omega)
   have e:(x ∈ l[k] :: l.drop (k + 1)) = (x ∈ l.drop (k + 1)):=propext ⟨fun hh=>(List.mem_cons.1 hh).resolve_left h,fun hh=>List.mem_cons.2 (.inr hh)⟩
   have h':¬ l[k] = x:=fun hh=>h hh.symm
   rw [loopA_succ]
   simp only [e]
   simp [show Tryz.f51.ntmps = 18 from rfl] at ih
   simp [show Tryz.f51.ntmps = 18 from rfl,hk',hw,encI,h',ih]
theorem kHas (n:Nat) (l:List Int) (x:Int) (hl:l.length≤100):callK Tryz.prog kn (execA Tryz.prog ann kn (n+300)) 51 [li l,i x] = some (.bool (decide (x ∈ l))):=by
 rw [callK_of rfl,call0_eq Tryz.func51 b51 rfl (by simp [encI])]
 obtain ⟨fr,q⟩:=lHas l x hl l.length 0 (by omega)
 have q:=fun n m=>q n (m + 200) (by omega)
 rw [List.drop_zero] at q
 by_cases h:x ∈ l
 ·rw [if_pos h] at q
  simp [show Tryz.f51.ntmps = 18 from rfl] at q
  simp [c51,argFr,q,h]
 ·rw [if_neg h] at q
  simp [show Tryz.f51.ntmps = 18 from rfl] at q
  simp [c51,argFr,q,h]
theorem appI {k:Nat} {l:List Int} (h:k + l.length≤100000):appOK Tryz.prog 3 k (l.map encI) = true:=by
 rw [appOK_iff (by simp) (by simp)]
 simp [maxLen,encI]; omega
theorem appL {k:Nat} {l:List (List Int)} (h:k + l.length≤100000):appOK Tryz.prog 22 k (l.map encL) = true:=by
 rw [appOK_iff (by simp) (by simp)]
 simp [maxLen,encL]; omega
theorem kList (n:Nat) (l:List Int) (hl:l.length≤100):callK Tryz.prog kn (execA Tryz.prog ann kn (n+100)) 55 [li l] = some (li l):=by
 rw [callK_of rfl,call0_eq Tryz.func55 b55 rfl (by simp [encI])]
 have ha:=appI (k:=0) (l:=l) (by omega)
 have ht:(l.map encI).take l.length = l.map encI:=List.take_of_length_le (by simp)
 simp [c55,argFr,ha,ht]
 simp [encI]
theorem lLists (ls:List (List Int)) (h1:ls.length≤100) (h2:∀ l ∈ ls,l.length≤100):∀ (d k c γ:Nat) (acc:List (List Int)),k + d = ls.length→acc.length≤k→∃ fr c' γ',getF fr 3 = some (true,pt 19 γ' ((acc ++ ls.drop k).map encL))∧∀ n m,d < m→loopA (execA Tryz.prog ann kn (n+200) 21) lb18_3 (ann 21 (fstR lb18_3)) m ⟨c,[(0,true,lli ls),(3,true,pt 19 γ (acc.map encL)),(4,true,i k)],⟨[],pl 19 γ 22 (acc.map encL)⟩⟩ =
  some (.exit 0,⟨c',fr,⟨[],pl 19 γ' 22 ((acc ++ ls.drop k).map encL)⟩⟩)
 | 0,k,c,γ,acc,hk,hc=>by
  have:k = ls.length:=by omega
  subst this
  rw [List.drop_length,List.append_nil]
  refine ⟨?fr,c,γ,?_,fun n m hm=>?_⟩
  rotate_left 2
  ·obtain ⟨m,rfl⟩:∃ m',m = m' + 1:=⟨m - 1,by omega⟩
   rw [loopA_succ]
   simp
   rfl
  ·simp
 | d + 1,k,c,γ,acc,hk,hc=>by
  have hk':k < ls.length:=by omega
  have hw:=wrapS (k:=k) (by omega)
  have q:=fun n=>kList n ls[k] (h2 _ (List.getElem_mem hk'))
  have ha:=appL (k:=acc.length) (l:=[ls[k]]) (by simp; omega)
  obtain ⟨fr,c',γ',e1,ih⟩:=lLists ls h1 h2 d (k + 1) (c + 1) c (acc ++ [ls[k]]) (by omega) (by simp; omega)
  rw [List.append_assoc,List.singleton_append,← List.drop_eq_getElem_cons hk'] at e1 ih
  refine ⟨fr,c',γ',e1,fun n m hm=>?_⟩
  obtain ⟨m,rfl⟩:∃ m',m = m' + 1:=⟨m - 1,by omega⟩
  have ih:=ih n m (by omega)
  generalize acc ++ ls.drop k = fin at ih ⊢
  rw [loopA_succ]
  simp [encL] at ih ha
  simp [hk',hw,encL,encI,q,ha,ih]
theorem kLists (n:Nat) (ls:List (List Int)) (h1:ls.length≤100) (h2:∀ l ∈ ls,l.length≤100):callK Tryz.prog kn (execA Tryz.prog ann kn (n+400)) 18 [lli ls] = some (lli ls):=by
 rw [callK_of rfl,call0_eq Tryz.func18 b18 rfl (by simp [encI,encL])]
 obtain ⟨fr,c',γ',e1,q⟩:=lLists ls h1 h2 ls.length 0 0 0 [] (by omega) (by simp)
 have q:=fun n m=>q n (m + 200) (by omega)
 simp at q e1
 simp [c18,argFr,q,e1]
 simp [encL,encI]
theorem kSpotL (n:Nat) (s:Int × Int):callK Tryz.prog kn (execA Tryz.prog ann kn (n+50)) 28 [.agg (encP s)] = some (.agg (encP s)):=by
 rw [callK_of rfl,call0_eq Tryz.func28 b28 rfl (by simp [encP])]
 simp [c28,argFr,encP]
def briefB (ls:List (List Int)):Bool:=(ls.take 8).all (fun l=>decide (l.length≤5)) && decide (ls.length≤7)
end Go.Proofs.Tryz.Op
/- Contracts: brief, Many, Fault, Thin, fault, ready. No condition. -/
open Go Go.Pg Go.Proofs Go.Wind
namespace Go.Proofs.Tryz.Op
set_option maxRecDepth 100000
set_option linter.unusedSimpArgs false
theorem lBrief (ls:List (List Int)) (N:Nat) (hN:N = min 8 ls.length):∀ (d k:Nat),k + d = N→∃ fr,getF fr 0 = some (true,lli ls)∧∀ n m,d < m→loopA (execA Tryz.prog ann kn (n+100) 23) lb14_2 (ann 23 (fstR lb14_2)) m ⟨0,[(0,true,lli ls),(3,true,i k)],⟨[],[]⟩⟩ =
  if ((ls.take N).drop k).all (fun l=>decide (l.length≤5)) = true then some (.exit 0,⟨0,fr,⟨[],[]⟩⟩) else some (.ret,⟨0,[(2,true,.bool false)],⟨[],[]⟩⟩)
 | 0,k,hk=>by
  have hd:(ls.take N).drop k = []:=List.drop_eq_nil_of_le (by simp; omega)
  rw [hd]
  by_cases h:k < ls.length
  ·have h8:k = 8:=by omega
   subst h8
   refine ⟨?fr,?g1,fun n m hm=>?g2⟩
   case g2 =>
    obtain ⟨m,rfl⟩:∃ m',m = m' + 1:=⟨m - 1,by omega⟩
    rw [loopA_succ]
    have h:(8:Int) < ls.length:=by omega
    simp [h]
    rfl
   case g1=>simp
  ·refine ⟨?fr2,?g3,fun n m hm=>?g4⟩
   case g4 =>
    obtain ⟨m,rfl⟩:∃ m',m = m' + 1:=⟨m - 1,by omega⟩
    rw [loopA_succ]
    simp [h]
    rfl
   case g3=>simp
 | d + 1,k,hk=>by
  have hk':k < ls.length:=by omega
  have hk8:(k:Int) < 8:=by omega
  have hw:=wrapS (k:=k) (by omega)
  obtain ⟨fr,e1,ih⟩:=lBrief ls N hN d (k + 1) (by omega)
  have hd:(ls.take N).drop k = ls[k] :: (ls.take N).drop (k + 1):=by
   rw [List.drop_eq_getElem_cons (by simp; omega),List.getElem_take]
  rw [hd]
  refine ⟨fr,e1,fun n m hm=>?_⟩
  obtain ⟨m,rfl⟩:∃ m',m = m' + 1:=⟨m - 1,by omega⟩
  have ih:=ih n m (by omega)
  rw [loopA_succ,List.all_cons]
  by_cases h5:ls[k].length≤5
  ·have h5':¬ (5:Int) < ls[k].length:=by omega
   rw [decide_eq_true h5,Bool.true_and]
   generalize ((ls.take N).drop (k + 1)).all (fun l=>decide (l.length≤5)) = z at ih ⊢
   cases z <;> (simp at ih; simp [hk',hk8,hw,encL,h5',ih])
  ·have h5':(5:Int) < ls[k].length:=by omega
   rw [decide_eq_false h5,Bool.false_and]
   simp [hk',hk8,hw,encL,h5']
theorem kBrief (n:Nat) (ls:List (List Int)):callK Tryz.prog kn (execA Tryz.prog ann kn (n+200)) 14 [lli ls] = some (.bool (briefB ls)):=by
 rw [callK_of rfl,call0_eq Tryz.func14 b14 rfl (by simp [encI,encL])]
 obtain ⟨fr,e1,q⟩:=lBrief ls _ rfl (min 8 ls.length) 0 (by omega)
 have q:=fun n m=>q n (m + 20) (by omega)
 have e:(List.take (min 8 ls.length) ls).drop 0 = ls.take 8:=by
  rw [List.drop_zero]
  rcases Nat.le_total 8 ls.length with h | h
  ·rw [Nat.min_eq_left h]
  ·rw [Nat.min_eq_right h,List.take_length,List.take_of_length_le h]
 rw [e] at q
 unfold briefB
 generalize (ls.take 8).all (fun l=>decide (l.length≤5)) = z at q ⊢
 have e7:decide ((ls.length:Int)≤7) = decide (ls.length≤7):=by congr 1; exact propext (by omega)
 cases z <;> (simp at q; simp [c14,argFr,q,e1,e7])
theorem lMany (b:Beach) (h4:∀ l ∈ b.winds,l.length≤4) (hl:b.winds.length≤5):∀ (d k v:Nat),k + d = b.winds.length→v * 4 ^ d≤1024→∃ fr,getF fr 3 = some (true,i ((v * manyN (b.winds.drop k):Nat):Int))∧∀ n m,d < m→loopA (execA Tryz.prog ann kn (n+100) 21) lb35_3 (ann 21 (fstR lb35_3)) m ⟨1,[(1,true,.ptr 0 1 0 0),(3,true,i v),(4,true,i k)],⟨[],[(1,0,.box (cellsB b))]⟩⟩ =
  some (.exit 0,⟨1,fr,⟨[],[(1,0,.box (cellsB b))]⟩⟩)
 | 0,k,v,hk,hv=>by
  have:k = b.winds.length:=by omega
  subst this
  rw [List.drop_length]
  refine ⟨?fr,?g1,fun n m hm=>?g2⟩
  case g2 =>
   obtain ⟨m,rfl⟩:∃ m',m = m' + 1:=⟨m - 1,by omega⟩
   rw [loopA_succ]
   simp [cellsB]
   rfl
  case g1=>simp [manyN]
 | d + 1,k,v,hk,hv=>by
  have hk':k < b.winds.length:=by omega
  have hw:=wrapS (k:=k) (by omega)
  have h5:=h4 _ (List.getElem_mem hk')
  have hp:0 < 4 ^ d:=Nat.pow_pos (by omega)
  have hle:v * b.winds[k].length * 4 ^ d≤1024:=by
   refine Nat.le_trans ?_ hv
   rw [Nat.pow_succ,Nat.mul_assoc,Nat.mul_comm (4 ^ d) 4]
   exact Nat.mul_le_mul_left _ (Nat.mul_le_mul_right _ h5)
  have hb:v * b.winds[k].length≤1024:=by
   refine Nat.le_trans ?_ hle
   exact Nat.le_mul_of_pos_right _ hp
  have hw2:IntKind.i64.wrap ((v:Int) * (b.winds[k].length:Int)) = ((v * b.winds[k].length:Nat):Int):=by
   rw [← Int.natCast_mul,wrap_i64 (by omega) (by omega)]
  obtain ⟨fr,e1,ih⟩:=lMany b h4 hl d (k + 1) (v * b.winds[k].length) (by omega) hle
  rw [List.drop_eq_getElem_cons hk']
  refine ⟨fr,by rw [e1,manyN,Nat.mul_assoc],fun n m hm=>?_⟩
  obtain ⟨m,rfl⟩:∃ m',m = m' + 1:=⟨m - 1,by omega⟩
  have ih:=ih n m (by omega)
  generalize v * b.winds[k].length = v2 at *
  rw [loopA_succ]
  simp only [cellsB] at ih ⊢
  simp at ih
  simp [hk',hw,hw2,encL,ih]
theorem kMany (n:Nat) (b:Beach) (hb:Valid b):callK Tryz.prog kn (execA Tryz.prog ann kn (n+200)) 35 [.agg (cellsB b)] = some (i (manyN b.winds)):=by
 rw [callK_of rfl,call0_eq Tryz.func35 b35 rfl (by simp [cellsB,encI,encL,encP])]
 have hl:=hb.hl
 obtain ⟨fr,e1,q⟩:=lMany b (fun l h=>(hb.wl l h).2) hl b.winds.length 0 1 (by omega) (by
  have:4 ^ b.winds.length≤4 ^ 5:=Nat.pow_le_pow_right (by omega) hl
  omega)
 have q:=fun n m=>q n (m + 20) (by omega)
 rw [List.drop_zero,Nat.one_mul] at e1
 simp only [cellsB] at q ⊢
 simp at q
 simp [c35,argFr,q,e1]
end Go.Proofs.Tryz.Op
/- Contracts: Fault, Thin, fault, ready. No condition. -/
open Go Go.Pg Go.Proofs Go.Wind
namespace Go.Proofs.Tryz.Op
set_option maxRecDepth 100000
set_option linter.unusedSimpArgs false
theorem incB_drop {l:List Int} {j:Nat} (h:j + 1 < l.length):incB (l.drop j) = (decide (l[j] < l[j + 1]) && incB (l.drop (j + 1))):=by
 rw [List.drop_eq_getElem_cons (by omega:j < l.length),List.drop_eq_getElem_cons h]
 rfl
theorem lF11 (b:Beach) (h:Nat) (hh:h < b.winds.length) (hl:b.winds[h].length≤100):∀ (d j:Nat),j + d + 1 = b.winds[h].length→∃ fr,getF fr 1 = some (true,.ptr 0 1 0 0)∧getF fr 3 = some (true,i h) ∧
  ∀ n m,d < m→loopA (execA Tryz.prog ann kn (n+100) 181) lb69_11 (ann 181 (fstR lb69_11)) m ⟨1,[(1,true,.ptr 0 1 0 0),(3,true,i h),(4,true,i ((j + 1:Nat):Int))],⟨[],[(1,0,.box (cellsB b))]⟩⟩ =
   if incB (b.winds[h].drop j) = true then some (.exit 2,⟨1,fr,⟨[],[(1,0,.box (cellsB b))]⟩⟩) else some (.ret,⟨1,[(2,true,i 1)],⟨[],[]⟩⟩)
 | 0,j,hj=>by
  have hi:incB (b.winds[h].drop j) = true:=by
   rw [List.drop_eq_getElem_cons (by omega:j < b.winds[h].length),List.drop_eq_nil_of_le (by omega)]
   rfl
  rw [hi]
  have hlt:¬ ((j:Int) + 1 < b.winds[h].length):=by omega
  refine ⟨?fr,?g1,?g3,fun n m hm=>?g2⟩
  case g2 =>
   obtain ⟨m,rfl⟩:∃ m',m = m' + 1:=⟨m - 1,by omega⟩
   rw [loopA_succ]
   simp [cellsB,encL,hh,hlt]
   rfl
  case g1=>simp
  case g3=>simp
 | d + 1,j,hj=>by
  have hlt:(j:Int) + 1 < b.winds[h].length:=by omega
  have hlt':j + 1 < b.winds[h].length:=by omega
  have hlt0:j < b.winds[h].length:=by omega
  have hw:IntKind.i64.wrap ((j:Int) + 1 + 1) = (j:Int) + 1 + 1:=wrap_i64 (by omega) (by omega)
  have hw1:IntKind.i64.wrap (j:Int) = (j:Int):=wrap_i64 (by omega) (by omega)
  have hj0:(0:Int)≤(j:Int) + 1:=by omega
  have hjt:((j:Int) + 1).toNat = j + 1:=by omega
  obtain ⟨fr,e1,e2,ih⟩:=lF11 b h hh hl d (j + 1) (by omega)
  rw [incB_drop hlt']
  by_cases hc:b.winds[h][j] < b.winds[h][j + 1]
  ·refine ⟨fr,e1,e2,fun n m hm=>?_⟩
   obtain ⟨m,rfl⟩:∃ m',m = m' + 1:=⟨m - 1,by omega⟩
   have ih:=ih n m (by omega)
   have hc':¬ b.winds[h][j + 1]≤b.winds[h][j]:=by omega
   rw [decide_eq_true hc,Bool.true_and]
   generalize incB (b.winds[h].drop (j + 1)) = z at ih ⊢
   rw [loopA_succ]
   simp only [cellsB] at ih ⊢
   cases z <;> (simp at ih; simp [encL,encI,hh,hlt,hlt',hlt0,hw,hw1,hj0,hjt,hc',ih])
  ·have hc':b.winds[h][j + 1]≤b.winds[h][j]:=by omega
   rw [decide_eq_false hc,Bool.false_and]
   refine ⟨fr,e1,e2,fun n m hm=>?_⟩
   obtain ⟨m,rfl⟩:∃ m',m = m' + 1:=⟨m - 1,by omega⟩
   rw [loopA_succ]
   simp [cellsB,encL,encI,hh,hlt,hlt',hlt0,hw,hw1,hj0,hjt,hc']
theorem lF6 (b:Beach) (hl:b.winds.length≤100) (hlen:(b.winds.length:Int) = b.last + 1) (h100:∀ l ∈ b.winds,l.length≤100):∀ (d k:Nat),k + d = b.winds.length→∃ fr,getF fr 1 = some (true,.ptr 0 1 0 0) ∧
  ∀ n m,d < m→loopA (execA Tryz.prog ann kn (n+700) 181) lb69_6 (ann 181 (fstR lb69_6)) m ⟨1,[(1,true,.ptr 0 1 0 0),(3,true,i k)],⟨[],[(1,0,.box (cellsB b))]⟩⟩ =
   if (b.winds.drop k).all windOk = true then some (.exit 0,⟨1,fr,⟨[],[(1,0,.box (cellsB b))]⟩⟩) else some (.ret,⟨1,[(2,true,i 1)],⟨[],[]⟩⟩)
 | 0,k,hk=>by
  have:k = b.winds.length:=by omega
  subst this
  rw [List.drop_length]
  have hlt:¬ ((b.winds.length:Int)≤b.last):=by omega
  refine ⟨?fr,?g1,fun n m hm=>?g2⟩
  case g2 =>
   obtain ⟨m,rfl⟩:∃ m',m = m' + 1:=⟨m - 1,by omega⟩
   rw [loopA_succ]
   simp [cellsB,hlt]
   rfl
  case g1=>simp
 | d + 1,k,hk=>by
  have hk':k < b.winds.length:=by omega
  have hlt:(k:Int)≤b.last:=by omega
  have hw:=wrapS (k:=k) (by omega)
  have h1:=h100 _ (List.getElem_mem hk')
  obtain ⟨fr,e1,ih⟩:=lF6 b hl hlen h100 d (k + 1) (by omega)
  rw [List.drop_eq_getElem_cons hk',List.all_cons]
  have q:=fun n=>kDirs n b.winds[k] 0 h1
  by_cases h0:b.winds[k].length = 0
  ·have hwk:windOk b.winds[k] = false:=by
    rw [List.eq_nil_of_length_eq_zero h0]; rfl
   rw [hwk,Bool.false_and]
   refine ⟨fr,e1,fun n m hm=>?g2⟩
   case g2 =>
    obtain ⟨m,rfl⟩:∃ m',m = m' + 1:=⟨m - 1,by omega⟩
    rw [loopA_succ]
    have h0':(b.winds[k].length:Int) = 0:=by omega
    simp [cellsB,encL,hlt,hk',h0',h0]
  ·have h0':¬ (b.winds[k].length:Int) = 0:=by omega
   have hne:b.winds[k].isEmpty = false:=by
    cases hz:b.winds[k] with
    | nil=>rw [hz] at h0; simp at h0
    | cons x r=>rfl
   have hwk:windOk b.winds[k] = (dirsB b.winds[k] 0 && incB b.winds[k]):=by simp [windOk,hne]
   rw [hwk]
   cases hd:dirsB b.winds[k] 0 with
   | false =>
    rw [hd] at q
    refine ⟨fr,e1,fun n m hm=>?g4⟩
    case g4 =>
     obtain ⟨m,rfl⟩:∃ m',m = m' + 1:=⟨m - 1,by omega⟩
     rw [loopA_succ]
     simp [cellsB,encL,encI,hlt,hk',h0',h0,q]
   | true =>
    rw [hd] at q
    obtain ⟨f1,a1,a2,q2⟩:=lF11 b k hk' h1 (b.winds[k].length - 1) 0 (by omega)
    have q2:=fun n m=>q2 n (m + 200) (by omega)
    rw [List.drop_zero] at q2
    cases hi:incB b.winds[k] with
    | false =>
     rw [hi] at q2
     refine ⟨fr,e1,fun n m hm=>?_⟩
     obtain ⟨m,rfl⟩:∃ m',m = m' + 1:=⟨m - 1,by omega⟩
     rw [loopA_succ]
     simp only [cellsB] at q2 ⊢
     simp at q2
     simp [encL,encI,hlt,hk',h0',h0,q,q2]
    | true =>
     rw [hi] at q2
     refine ⟨fr,e1,fun n m hm=>?_⟩
     obtain ⟨m,rfl⟩:∃ m',m = m' + 1:=⟨m - 1,by omega⟩
     have ih:=ih n m (by omega)
     generalize (b.winds.drop (k + 1)).all windOk = z at ih ⊢
     rw [loopA_succ]
     simp only [cellsB] at q2 ih ⊢
     simp at q2
     cases z <;> (simp at ih; simp [encL,encI,hlt,hk',h0',h0,q,q2,a1,a2,hw,ih])
theorem lF16 (b:Beach) (h1:0≤b.rows∧b.rows≤1000) (h2:0≤b.places∧b.places≤1000) (hl:b.breaks.length≤100):∀ (d k:Nat),k + d = b.breaks.length→∃ fr,getF fr 1 = some (true,.ptr 0 1 0 0) ∧
  ∀ n m,d < m→loopA (execA Tryz.prog ann kn (n+300) 181) lb69_16 (ann 181 (fstR lb69_16)) m ⟨1,[(1,true,.ptr 0 1 0 0),(5,true,i k)],⟨[],[(1,0,.box (cellsB b))]⟩⟩ =
   if (b.breaks.drop k).all (isSpotB b) = true then some (.exit 4,⟨1,fr,⟨[],[(1,0,.box (cellsB b))]⟩⟩) else some (.ret,⟨1,[(2,true,i 1)],⟨[],[]⟩⟩)
 | 0,k,hk=>by
  have:k = b.breaks.length:=by omega
  subst this
  rw [List.drop_length]
  refine ⟨?fr,?g1,fun n m hm=>?g2⟩
  case g2 =>
   obtain ⟨m,rfl⟩:∃ m',m = m' + 1:=⟨m - 1,by omega⟩
   rw [loopA_succ]
   simp [cellsB]
   rfl
  case g1=>simp
 | d + 1,k,hk=>by
  have hk':k < b.breaks.length:=by omega
  have hw:=wrapS (k:=k) (by omega)
  obtain ⟨fr,e1,ih⟩:=lF16 b h1 h2 hl d (k + 1) (by omega)
  have q:=fun n=>kSpotR n b b.breaks[k] h1 h2
  rw [List.drop_eq_getElem_cons hk',List.all_cons]
  refine ⟨fr,e1,fun n m hm=>?_⟩
  obtain ⟨m,rfl⟩:∃ m',m = m' + 1:=⟨m - 1,by omega⟩
  have ih:=ih n m (by omega)
  generalize isSpotB b b.breaks[k] = z1 at q ⊢
  generalize (b.breaks.drop (k + 1)).all (isSpotB b) = z at ih ⊢
  rw [loopA_succ]
  simp only [cellsB,encP] at ih q ⊢
  cases z1
  ·simp [hk',hw,encP,encI,encL,q]
  ·cases z <;> (simp at ih; simp [hk',hw,encP,encI,encL,q,ih])
theorem lF21 (b:Beach) (hl:b.notes.length≤100):∀ (d k:Nat),k + d = b.notes.length→∃ fr,
  ∀ n m,d < m→loopA (execA Tryz.prog ann kn (n+300) 181) lb69_21 (ann 181 (fstR lb69_21)) m ⟨1,[(1,true,.ptr 0 1 0 0),(6,true,i k)],⟨[],[(1,0,.box (cellsB b))]⟩⟩ =
   if (b.notes.drop k).all (noteOk b) = true then some (.exit 6,⟨1,fr,⟨[],[(1,0,.box (cellsB b))]⟩⟩) else some (.ret,⟨1,[(2,true,i 1)],⟨[],[]⟩⟩)
 | 0,k,hk=>by
  have:k = b.notes.length:=by omega
  subst this
  rw [List.drop_length]
  refine ⟨?fr,fun n m hm=>?g2⟩
  case g2 =>
   obtain ⟨m,rfl⟩:∃ m',m = m' + 1:=⟨m - 1,by omega⟩
   rw [loopA_succ]
   simp [cellsB]
   rfl
 | d + 1,k,hk=>by
  have hk':k < b.notes.length:=by omega
  have hw:=wrapS (k:=k) (by omega)
  obtain ⟨fr,ih⟩:=lF21 b hl d (k + 1) (by omega)
  have q1:=fun n=>kIn n b.notes[k].1 0 b.last
  have q2:=fun n=>kIn n b.notes[k].2 0 3
  rw [List.drop_eq_getElem_cons hk',List.all_cons]
  refine ⟨fr,fun n m hm=>?_⟩
  obtain ⟨m,rfl⟩:∃ m',m = m' + 1:=⟨m - 1,by omega⟩
  have ih:=ih n m (by omega)
  rw [show noteOk b b.notes[k] = (inI b.notes[k].1 0 b.last && inI b.notes[k].2 0 3) from rfl]
  generalize inI b.notes[k].1 0 b.last = z1 at q1 ⊢
  generalize inI b.notes[k].2 0 3 = z2 at q2 ⊢
  generalize (b.notes.drop (k + 1)).all (noteOk b) = z at ih ⊢
  rw [loopA_succ]
  simp only [cellsB] at ih ⊢
  cases z1
  ·simp [hk',hw,encP,q1,plK]
  ·cases z2
   ·simp [hk',hw,encP,q1,q2,plK]
   ·cases z <;> (simp at ih; simp [hk',hw,encP,q1,q2,plK,ih])
theorem kFault (n:Nat) (b:Beach) (h100:∀ l ∈ b.winds,l.length≤100):callK Tryz.prog kn (execA Tryz.prog ann kn (n+1000)) 69 [.agg (cellsB b)] = some (i (faultB b)):=by
 rw [callK_of rfl,call0_eq Tryz.func69 b69 rfl (by simp [cellsB,encI,encL,encP])]
 unfold faultB
 by_cases g1:(decide (4 < b.last) || decide (3 < b.rows) || decide (5 < b.places) || decide (4 < b.breaks.length) || decide (5 < b.notes.length)) = true
 ·rw [if_pos g1]
  have e4:decide ((4:Int) < (b.breaks.length:Int)) = decide (4 < b.breaks.length):=by congr 1; exact propext (by omega)
  have e5:decide ((5:Int) < (b.notes.length:Int)) = decide (5 < b.notes.length):=by congr 1; exact propext (by omega)
  generalize h1:decide (4 < b.last) = z1 at g1
  generalize h2:decide (3 < b.rows) = z2 at g1
  generalize h3:decide (5 < b.places) = z3 at g1
  generalize h4:decide (4 < b.breaks.length) = z4 at g1 e4
  generalize h5:decide (5 < b.notes.length) = z5 at g1 e5
  cases z1
  ·cases z2
   ·cases z3
    ·cases z4
     ·cases z5
      ·cases g1
      ·simp [c69,argFr,cellsB,h1,h2,h3,e4,e5]
     ·simp [c69,argFr,cellsB,h1,h2,h3,e4]
    ·simp [c69,argFr,cellsB,h1,h2,h3]
   ·simp [c69,argFr,cellsB,h1,h2]
  ·simp [c69,argFr,cellsB,h1]
 ·rw [if_neg g1]
  simp only [Bool.or_eq_true,decide_eq_true_eq,not_or] at g1
  obtain ⟨⟨⟨⟨g1,g2⟩,g3⟩,g4⟩,g5⟩:=g1
  have e4:¬ ((4:Int) < (b.breaks.length:Int)):=by omega
  have e5:¬ ((5:Int) < (b.notes.length:Int)):=by omega
  by_cases a1:b.last < 0
  ·simp [c69,argFr,cellsB,g1,g2,g3,e4,e5,a1]
  by_cases a2:b.rows < 1
  ·simp [c69,argFr,cellsB,g1,g2,g3,e4,e5,a1,a2]
  by_cases a3:b.places < 1
  ·simp [c69,argFr,cellsB,g1,g2,g3,e4,e5,a1,a2,a3]
  have qr:=fun n=>kIn n b.reach 0 4
  have hwl:IntKind.i64.wrap (b.last + 1) = b.last + 1:=wrap_i64 (by omega) (by omega)
  cases a4:inI b.reach 0 4 with
  | false =>
   rw [a4] at qr
   simp [c69,argFr,cellsB,g1,g2,g3,e4,e5,a1,a2,a3,qr]
  | true =>
  rw [a4] at qr
  by_cases a5:(b.face.length:Int) = b.rows
  ·by_cases a6:(b.sun.length:Int) = b.last + 1
   ·by_cases a7:(b.winds.length:Int) = b.last + 1
    ·have qf:=fun n=>kDirs n b.face 0 (by omega)
     have qs:=fun n=>kDirs n b.sun (-1) (by omega)
     cases a8:dirsB b.face 0 with
     | false =>
      rw [a8] at qf
      simp [c69,argFr,cellsB,encI,g1,g2,g3,e4,e5,a1,a2,a3,qr,a5,a6,a7,hwl,qf]
     | true =>
     rw [a8] at qf
     cases a9:dirsB b.sun (-1) with
     | false =>
      rw [a9] at qs
      simp [c69,argFr,cellsB,encI,g1,g2,g3,e4,e5,a1,a2,a3,qr,a5,a6,a7,hwl,qf,qs]
     | true =>
     rw [a9] at qs
     obtain ⟨f6,x6,q6⟩:=lF6 b (by omega) a7 h100 b.winds.length 0 (by omega)
     obtain ⟨f16,x16,q16⟩:=lF16 b (by omega) (by omega) (by omega) b.breaks.length 0 (by omega)
     obtain ⟨f21,q21⟩:=lF21 b (by omega) b.notes.length 0 (by omega)
     have q6:=fun n m=>q6 n (m + 200) (by omega)
     have q16:=fun n m=>q16 n (m + 200) (by omega)
     have q21:=fun n m=>q21 n (m + 200) (by omega)
     rw [List.drop_zero] at q6 q16 q21
     generalize b.winds.all windOk = z1 at q6 ⊢
     generalize b.breaks.all (isSpotB b) = z2 at q16 ⊢
     generalize b.notes.all (noteOk b) = z3 at q21 ⊢
     have a5':=a5
     simp only [cellsB] at q6 q16 q21 ⊢
     cases z1 with
     | false =>
      simp at q6
      simp [c69,argFr,encI,g1,g2,g3,e4,e5,a1,a2,a3,qr,a5,a6,a7,hwl,qf,qs,q6,x6]
     | true =>
      simp at q6
      cases z2 with
      | false =>
       simp at q16
       simp [c69,argFr,encI,g1,g2,g3,e4,e5,a1,a2,a3,qr,a5,a6,a7,hwl,qf,qs,q6,q16,x6,x16]
      | true =>
       simp at q16
       cases z3 <;> (simp at q21; simp [c69,argFr,encI,g1,g2,g3,e4,e5,a1,a2,a3,qr,a5,a6,a7,hwl,qf,qs,q6,q16,q21,x6,x16])
    ·simp [c69,argFr,cellsB,g1,g2,g3,e4,e5,a1,a2,a3,qr,a5,a6,a7,hwl]
   ·simp [c69,argFr,cellsB,g1,g2,g3,e4,e5,a1,a2,a3,qr,a5,a6,hwl]
  ·simp [c69,argFr,cellsB,g1,g2,g3,e4,e5,a1,a2,a3,qr,a5]
def thinB (b:Beach):Bool:=!(decide (5 < b.face.length) || decide (7 < b.sun.length) || !briefB b.winds || decide (6 < b.breaks.length) || decide (7 < b.notes.length)) && (!decide (faultB b = 0) || decide (manyN b.winds≤80))
theorem brief_len {ls:List (List Int)} (h:briefB ls = true):ls.length≤7∧∀ l ∈ ls,l.length≤5:=by
 simp only [briefB,Bool.and_eq_true,decide_eq_true_eq] at h
 rw [List.take_of_length_le (by omega)] at h
 exact ⟨h.2,fun l hl=>by simpa using List.all_eq_true.1 h.1 l hl⟩
theorem kThin (n:Nat) (b:Beach):callK Tryz.prog kn (execA Tryz.prog ann kn (n+1200)) 13 [.agg (cellsB b)] = some (.bool (thinB b)):=by
 rw [callK_of rfl,call0_eq Tryz.func13 b13 rfl (by simp [cellsB,encI,encL,encP])]
 unfold thinB
 have e1:decide ((5:Int) < (b.face.length:Int)) = decide (5 < b.face.length):=by congr 1; exact propext (by omega)
 have e2:decide ((7:Int) < (b.sun.length:Int)) = decide (7 < b.sun.length):=by congr 1; exact propext (by omega)
 have e4:decide ((6:Int) < (b.breaks.length:Int)) = decide (6 < b.breaks.length):=by congr 1; exact propext (by omega)
 have e5:decide ((7:Int) < (b.notes.length:Int)) = decide (7 < b.notes.length):=by congr 1; exact propext (by omega)
 have qb:=fun n=>kBrief n b.winds
 cases h1:decide (5 < b.face.length) with
 | true=>rw [h1] at e1; simp [c13,argFr,cellsB,e1]
 | false =>
 cases h2:decide (7 < b.sun.length) with
 | true=>rw [h1] at e1; rw [h2] at e2; simp [c13,argFr,cellsB,e1,e2]
 | false =>
 cases h3:briefB b.winds with
 | false=>rw [h1] at e1; rw [h2] at e2; rw [h3] at qb; simp [c13,argFr,cellsB,encI,encL,e1,e2,qb]
 | true =>
 cases h4:decide (6 < b.breaks.length) with
 | true=>rw [h1] at e1; rw [h2] at e2; rw [h3] at qb; rw [h4] at e4; simp [c13,argFr,cellsB,encI,encL,e1,e2,qb,e4]
 | false =>
 cases h5:decide (7 < b.notes.length) with
 | true=>rw [h1] at e1; rw [h2] at e2; rw [h3] at qb; rw [h4] at e4; rw [h5] at e5; simp [c13,argFr,cellsB,encI,encL,e1,e2,qb,e4,e5]
 | false =>
  rw [h1] at e1
  rw [h2] at e2
  rw [h4] at e4
  rw [h5] at e5
  have qf:=fun n=>kFault n b fun l hl=>by have:=(brief_len h3).2 l hl; omega
  rw [h3] at qb
  by_cases h0:faultB b = 0
  ·have hb:=valid_of h0
   have qm:=fun n=>kMany n b hb
   rw [h0] at qf
   have e6:decide ((manyN b.winds:Int)≤80) = decide (manyN b.winds≤80):=by congr 1; exact propext (by omega)
   generalize decide (manyN b.winds≤80) = z at e6 ⊢
   simp only [cellsB] at qf qm ⊢
   simp [c13,argFr,encI,encL,encP,e1,e2,qb,e4,e5,qf,qm,h0,e6]
  ·simp only [cellsB] at qf ⊢
   simp [c13,argFr,encI,encL,encP,e1,e2,qb,e4,e5,qf,h0]
theorem kfault (n:Nat) (b:Beach) (h100:∀ l ∈ b.winds,l.length≤100):callK Tryz.prog kn (execA Tryz.prog ann kn (n+1100)) 21 [.agg (cellsB b)] = some (i (faultB b)):=by
 rw [callK_of rfl,call0_eq Tryz.func21 b21 rfl (by simp [cellsB,encI,encL,encP])]
 have qf:=fun n=>kFault n b h100
 simp only [cellsB] at qf ⊢
 simp [c21,argFr,encI,encL,encP,qf]
def readyB (b:Beach):Bool:=thinB b && decide (faultB b = 0)
theorem kReady (n:Nat) (b:Beach):callK Tryz.prog kn (execA Tryz.prog ann kn (n+1400)) 45 [.agg (cellsB b)] = some (.bool (readyB b)):=by
 rw [callK_of rfl,call0_eq Tryz.func45 b45 rfl (by simp [cellsB,encI,encL,encP])]
 have qt:=fun n=>kThin n b
 unfold readyB
 cases ht:thinB b with
 | false =>
  rw [ht] at qt
  simp only [cellsB] at qt ⊢
  simp [c45,argFr,encI,encL,encP,qt]
 | true =>
  have h3:briefB b.winds = true:=by
   simp only [thinB,Bool.and_eq_true,Bool.not_eq_true',Bool.or_eq_false_iff,Bool.not_eq_false'] at ht
   exact ht.1.1.1.2
  have qf:=fun n=>kfault n b fun l hl=>by have:=(brief_len h3).2 l hl; omega
  rw [ht] at qt
  simp only [cellsB] at qt qf ⊢
  simp [c45,argFr,encI,encL,encP,qt,qf]
theorem ready_of {b:Beach} (h:readyB b = true):Valid b∧manyN b.winds≤80:=by
 simp only [readyB,thinB,Bool.and_eq_true,decide_eq_true_eq] at h
 obtain ⟨⟨_,h1⟩,h2⟩:=h
 simp [h2] at h1
 exact ⟨valid_of h2,h1⟩
end Go.Proofs.Tryz.Op
/- Contracts: Nth, word, Plan. No condition but a valid beach. -/
open Go Go.Pg Go.Proofs Go.Wind
namespace Go.Proofs.Tryz.Op
set_option maxRecDepth 100000
set_option linter.unusedSimpArgs false
theorem convU (k:IntKind) (n:Int):evConv Tryz.prog 95 3 (.int k n) = some (.int .i64 (IntKind.i64.wrap n)):=by
 unfold evConv
 simp
theorem appI1 {k:Nat} {x:Int} (h:k≤10000):appOK Tryz.prog 3 k [[.int .i64 x]] = true:=by
 rw [appOK_iff (by simp) (by simp)]
 simp [maxLen]; omega
theorem lNth (b:Beach) (hb:∀ l ∈ b.winds,l ≠ []∧l.length≤100) (hl:b.winds.length≤100):∀ (d k nn c γ:Nat) (acc:List Int),k + d = b.winds.length→nn≤1000000→acc.length≤k→∃ fr c' γ',getF fr 5 = some (true,pv 29 γ' ((acc ++ nthGo (b.winds.drop k) nn).map encI)) ∧
  ∀ n m,d < m→loopA (execA Tryz.prog ann kn (n+100) 35) lb53_3 (ann 35 (fstR lb53_3)) m ⟨c,[(1,true,i nn),(2,true,.ptr 0 2 0 0),(5,true,pv 29 γ (acc.map encI)),(6,true,i k)],⟨[],(2,0,.box (cellsB b)) :: pl 29 γ 3 (acc.map encI)⟩⟩ =
   some (.exit 0,⟨c',fr,⟨[],(2,0,.box (cellsB b)) :: pl 29 γ' 3 ((acc ++ nthGo (b.winds.drop k) nn).map encI)⟩⟩)
 | 0,k,nn,c,γ,acc,hk,hn,ha=>by
  have:k = b.winds.length:=by omega
  subst this
  rw [List.drop_length]
  refine ⟨?fr,c,γ,?g1,fun n m hm=>?g2⟩
  case g2 =>
   obtain ⟨m,rfl⟩:∃ m',m = m' + 1:=⟨m - 1,by omega⟩
   rw [loopA_succ]
   simp [cellsB,nthGo]
   rfl
  case g1=>simp [nthGo]
 | d + 1,k,nn,c,γ,acc,hk,hn,ha=>by
  have hk':k < b.winds.length:=by omega
  have hw:=wrapS (k:=k) (by omega)
  obtain ⟨hne,h1⟩:=hb _ (List.getElem_mem hk')
  have hp:0 < b.winds[k].length:=List.length_pos_iff.2 hne
  have hp':¬ (b.winds[k].length:Int) = 0:=by omega
  have hmod:((nn:Int)).tmod (b.winds[k].length:Int) = ((nn % b.winds[k].length:Nat):Int):=(Int.ofNat_tmod _ _).symm
  have hdiv0:((nn:Int)).tdiv (b.winds[k].length:Int) = ((nn / b.winds[k].length:Nat):Int):=(Int.ofNat_tdiv _ _).symm
  have hml:nn % b.winds[k].length < b.winds[k].length:=Nat.mod_lt _ hp
  have hdl:nn / b.winds[k].length≤nn:=Nat.div_le_self _ _
  have hx:b.winds[k].getD (nn % b.winds[k].length) 0 = b.winds[k][nn % b.winds[k].length]:=by
   rw [List.getD_eq_getElem?_getD,List.getElem?_eq_getElem hml]; rfl
  have hgo:acc ++ nthGo (b.winds.drop k) nn = acc ++ [b.winds[k][nn % b.winds[k].length]] ++ nthGo (b.winds.drop (k + 1)) (nn / b.winds[k].length):=by
   rw [List.drop_eq_getElem_cons hk']
   simp only [nthGo,hx]
   simp
  have happ:=appI1 (k:=acc.length) (x:=b.winds[k][nn % b.winds[k].length]) (by omega)
  obtain ⟨fr,c',γ',e1,ih⟩:=lNth b hb hl d (k + 1) (nn / b.winds[k].length) (c + 1) c (acc ++ [b.winds[k][nn % b.winds[k].length]]) (by omega) (Nat.le_trans hdl hn) (by simp; omega)
  rw [← hgo] at e1 ih
  refine ⟨fr,c',γ',e1,fun n m hm=>?_⟩
  obtain ⟨m,rfl⟩:∃ m',m = m' + 1:=⟨m - 1,by omega⟩
  have ih:=ih n m (by omega)
  generalize acc ++ nthGo (b.winds.drop k) nn = fin at ih ⊢
  generalize hY:nn % b.winds[k].length = Y at *
  generalize nn / b.winds[k].length = Z at *
  have hwd:IntKind.i64.wrap (Z:Int) = (Z:Int):=wrap_i64 (by omega) (by omega)
  rw [loopA_succ]
  simp only [cellsB] at ih ⊢
  simp [encI] at ih
  simp [hk',hw,encL,encI,hne,hmod,hdiv0,hwd,hml,happ,plK,apK,ih]
theorem kNth (n:Nat) (b:Beach) (hb:Valid b) (k:Nat) (hk:k≤1000000):callK Tryz.prog kn (execA Tryz.prog ann kn (n+300)) 53 [.agg (cellsB b),i k] = some (sl ((nthGo b.winds k).map encI)):=by
 rw [callK_of rfl,call0_eq Tryz.func53 b53 rfl (by simp [cellsB,encI,encL,encP])]
 have hl:=hb.hl
 obtain ⟨fr,c',γ',e1,q⟩:=lNth b (fun l h=>⟨hb.ne l h,by have:=(hb.wl l h).2; omega⟩) (by omega) b.winds.length 0 k 1 0 [] (by omega) hk (by simp)
 have q:=fun n m=>q n (m + 20) (by omega)
 rw [List.drop_zero,List.nil_append] at e1 q
 generalize nthGo b.winds k = t at *
 simp only [cellsB] at q ⊢
 simp at q
 simp [c53,argFr,q,e1]
 simp [encI]
def encW (w:Nat):List V:=[.int .u16 w]
theorem kWord (n:Nat) (ws:List Nat) (hw:∀ w ∈ ws,w≤65535) (k:Nat):callK Tryz.prog kn (execA Tryz.prog ann kn (n+100)) 103 [.list false (ws.map encW),i k] = some (i (wordN ws k)):=by
 rw [callK_of rfl,call0_eq Tryz.func103 b103 rfl (by simp [encW])]
 unfold wordN
 by_cases h:ws.length = 0
 ·have h':ws = []:=List.length_eq_zero_iff.1 h
  simp [c103,argFr,h']
 ·have h':ws ≠ []:=by intro e; exact h (by rw [e]; rfl)
  have hmod:(k:Int).tmod (ws.length:Int) = ((k % ws.length:Nat):Int):=(Int.ofNat_tmod _ _).symm
  have hml:k % ws.length < ws.length:=Nat.mod_lt _ (by omega)
  have hx:ws.getD (k % ws.length) 0 = ws[k % ws.length]:=by
   rw [List.getD_eq_getElem?_getD,List.getElem?_eq_getElem hml]; rfl
  have hwl:=hw _ (List.getElem_mem hml)
  rw [if_neg h,hx]
  generalize k % ws.length = Y at *
  have hwr:IntKind.i64.wrap (ws[Y]:Int) = (ws[Y]:Int):=wrap_i64 (by omega) (by omega)
  simp [c103,argFr,encW,h',hmod,hml,hwr,convU]
end Go.Proofs.Tryz.Op
/- Contract: Plan. No condition but a valid beach and words of 16 bits. -/
open Go Go.Pg Go.Proofs Go.Wind
namespace Go.Proofs.Tryz.Op
set_option maxRecDepth 100000
set_option linter.unusedSimpArgs false
theorem shr_ev {x j:Nat} (hj:j≤60):evSh .shr .i64 (x:Int) (j:Int) = some (.int .i64 ((x / 2 ^ j:Nat):Int)):=by
 rw [evSh_shr,if_neg (by omega)]
 have e:min (j:Int).toNat IntKind.i64.bits = j:=by simp only [Int.toNat_natCast,IntKind.bits]; omega
 rw [e]
 have:(x:Int).fdiv (2 ^ j) = ((x / 2 ^ j:Nat):Int):=by
  rw [Int.fdiv_eq_ediv_of_nonneg _ (by exact Int.le_of_lt (Int.pow_pos (by decide)))]
  simp
 rw [this]
theorem wrap_u64s {p:Nat} (h:p≤100):IntKind.u64.wrap (p:Int) = (p:Int):=by
 simp only [IntKind.wrap,IntKind.bits,IntKind.signed]
 simp
 omega
theorem convUi (k:IntKind) (n:Int):evConv Tryz.prog 3 93 (.int k n) = some (.int .u64 (IntKind.u64.wrap n)):=by
 unfold evConv
 simp
theorem lPlan7 (b:Beach) (hb:Valid b) (ws:List Nat) (hw:∀ w ∈ ws,w≤65535) (h:Nat) (hh:h≤10) (γ3:Nat) (A:List (List V)):∀ (d r c γ:Nat),r + d = b.rows.toNat→∃ c' γ',∀ n m,d < m→loopA (execA Tryz.prog ann kn (n+200) 39) lb46_7 (ann 39 (fstR lb46_7)) m ⟨c,[(1,true,.list false (ws.map encW)),(2,true,.ptr 0 2 0 0),(5,true,pv 37 γ3 A),(6,true,i h),(7,true,pv 33 γ ((planRow ws h r).map encI)),(8,true,i r)],⟨[],(2,0,.box (cellsB b)) :: (pl 33 γ 3 ((planRow ws h r).map encI) ++ pl 37 γ3 22 A)⟩⟩ =
  some (.exit 2,⟨c',[(19,true,.bool false),(18,true,i b.rows),(17,true,.ptr 0 2 0 1),(16,true,i b.rows),(1,true,.list false (ws.map encW)),(2,true,.ptr 0 2 0 0),(5,true,pv 37 γ3 A),(6,true,i h),(7,true,pv 33 γ' ((planRow ws h b.rows.toNat).map encI)),(8,true,i b.rows)],⟨[],(2,0,.box (cellsB b)) :: (pl 33 γ' 3 ((planRow ws h b.rows.toNat).map encI) ++ pl 37 γ3 22 A)⟩⟩)
 | 0,r,c,γ,hd=>by
  have hro:=hb.ro
  have hr:r = b.rows.toNat:=by omega
  have hr':b.rows = (r:Int):=by omega
  rw [← hr]
  refine ⟨c,γ,fun n m hm=>?_⟩
  obtain ⟨m,rfl⟩:∃ m',m = m' + 1:=⟨m - 1,by omega⟩
  rw [loopA_succ]
  simp [cellsB,hr',kl_pl2,kl_pl3,kl_pl7,get_pl2,get_pl5,get_pl6]
 | d + 1,r,c,γ,hd=>by
  have hro:=hb.ro
  have hw1:=wrapS (k:=r) (by omega)
  have hr':(r:Int) < b.rows:=by omega
  have q:=fun n=>kWord n ws hw h
  obtain ⟨c',γ',ih⟩:=lPlan7 b hb ws hw h hh γ3 A d (r + 1) (c + 1) c (by omega)
  rw [planRow_succ] at ih
  have e1:=shr_ev (x:=wordN ws h) (j:=2 * r) (by omega)
  have e2:=wrap_u64s (p:=2 * r) (by omega)
  have e3:IntKind.i64.wrap (2 * (r:Int)) = ((2 * r:Nat):Int):=by rw [wrap_i64 (by omega) (by omega)]; simp
  have e4:((wordN ws h / 2 ^ (2 * r):Nat):Int).tmod 4 = planE ws h r:=(Int.ofNat_tmod _ 4).symm
  have happ:=appI1 (k:=(planRow ws h r).length) (x:=planE ws h r) (by simp [planRow]; omega)
  refine ⟨c',γ',fun n m hm=>?_⟩
  obtain ⟨m,rfl⟩:∃ m',m = m' + 1:=⟨m - 1,by omega⟩
  have ih:=ih n m (by omega)
  generalize planRow ws h b.rows.toNat = FF at ih ⊢
  generalize planRow ws h r = RR at ih happ ⊢
  generalize ((wordN ws h / 2 ^ (2 * r):Nat):Int) = Y at e1 e4
  generalize planE ws h r = Z at *
  generalize ((2 * r:Nat):Int) = W at *
  rw [loopA_succ]
  simp only [cellsB] at ih ⊢
  simp [encI,encW] at ih q
  simp [hr',hw1,encI,encW,q,ih,e1,e2,e3,e4,happ,convUi,-evSh_shr,kl_pl2,kl_pl3,kl_pl7,get_pl2,get_pl5,get_pl6]
theorem appL1 {k:Nat} {x:List Int} (h:k≤10000):appOK Tryz.prog 22 k [[li x]] = true:=by
 rw [appOK_iff (by simp) (by simp)]
 simp [maxLen]; omega
theorem lPlan3 (b:Beach) (hb:Valid b) (ws:List Nat) (hw:∀ w ∈ ws,w≤65535):∀ (d h c γ:Nat),h + d = (b.last + 1).toNat→∃ fr c' γ',getF fr 5 = some (true,pv 37 γ' ((planOfW b ws).map encL))∧∀ n m,d < m→loopA (execA Tryz.prog ann kn (n+400) 39) lb46_3 (ann 39 (fstR lb46_3)) m ⟨c,[(1,true,.list false (ws.map encW)),(2,true,.ptr 0 2 0 0),(5,true,pv 37 γ ((planW ws b.rows.toNat h).map encL)),(6,true,i h)],⟨[],(2,0,.box (cellsB b)) :: pl 37 γ 22 ((planW ws b.rows.toNat h).map encL)⟩⟩ =
  some (.exit 0,⟨c',fr,⟨[],(2,0,.box (cellsB b)) :: pl 37 γ' 22 ((planOfW b ws).map encL)⟩⟩)
 | 0,h,c,γ,hd=>by
  have hla:=hb.la
  have hr:h = (b.last + 1).toNat:=by omega
  have hr':¬ (h:Int)≤b.last:=by omega
  unfold planOfW
  rw [← hr]
  refine ⟨?fr,c,γ,?g1,fun n m hm=>?g2⟩
  case g2 =>
   obtain ⟨m,rfl⟩:∃ m',m = m' + 1:=⟨m - 1,by omega⟩
   rw [loopA_succ]
   simp [cellsB,hr']
   rfl
  case g1=>simp
 | d + 1,h,c,γ,hd=>by
  have hla:=hb.la
  have hro:=hb.ro
  have hw1:=wrapS (k:=h) (by omega)
  have hr':(h:Int)≤b.last:=by omega
  obtain ⟨c1,γ1,q⟩:=lPlan7 b hb ws hw h (by omega) γ ((planW ws b.rows.toNat h).map encL) b.rows.toNat 0 c 0 (by omega)
  have q:=fun n m=>q n (m + 100) (by omega)
  obtain ⟨fr,c',γ',e1,ih⟩:=lPlan3 b hb ws hw d (h + 1) (c1 + 1) c1 (by omega)
  rw [planW_succ] at ih
  have h0:planRow ws h 0 = []:=rfl
  rw [h0] at q
  have happ:=appL1 (k:=(planW ws b.rows.toNat h).length) (x:=planRow ws h b.rows.toNat) (by simp [planW]; omega)
  have hne:planRow ws h b.rows.toNat ≠ []:=by
   intro e
   have:=congrArg List.length e
   simp [planRow] at this
   omega
  refine ⟨fr,c',γ',e1,fun n m hm=>?_⟩
  obtain ⟨m,rfl⟩:∃ m',m = m' + 1:=⟨m - 1,by omega⟩
  have ih:=ih n m (by omega)
  generalize planOfW b ws = FF at ih ⊢
  generalize planRow ws h b.rows.toNat = RR at ih q happ hne
  obtain ⟨x,RR,rfl⟩:=List.exists_cons_of_ne_nil hne
  have htl:∀ o,toldL 0 33 o (pl 37 γ 22 ((planW ws b.rows.toNat h).map encL)) = pl 37 γ 22 ((planW ws b.rows.toNat h).map encL):=fun o=>toldL_pl3 (by decide) _ _ _ (by simp [encL,encI])
  have hsl:sl ([i x] :: RR.map encI) = .list false ([i x] :: RR.map encI):=rfl
  rw [loopA_succ]
  simp only [cellsB] at ih q ⊢
  simp [encL,encI] at ih q
  have happ:appOK Tryz.prog 22 (planW ws b.rows.toNat h).length [[V.list false ([i x] :: RR.map encI)]] = true:=happ
  simp [hr',hw1,encL,encI,q,ih,happ,htl,hsl,kl_pl2,kl_pl3,kl_pl7,get_pl2,get_pl5,get_pl6]
  exact ih
theorem kPlan (n:Nat) (b:Beach) (hb:Valid b) (ws:List Nat) (hw:∀ w ∈ ws,w≤65535):callK Tryz.prog kn (execA Tryz.prog ann kn (n+600)) 46 [.agg (cellsB b),.list false (ws.map encW)] = some (lli (planOfW b ws)):=by
 rw [callK_of rfl,call0_eq Tryz.func46 b46 rfl (by simp [cellsB,encI,encL,encP,encW])]
 have hla:=hb.la
 obtain ⟨fr,c',γ',e1,q⟩:=lPlan3 b hb ws hw (b.last + 1).toNat 0 1 0 (by omega)
 have q:=fun n m=>q n (m + 100) (by omega)
 have h0:planW ws b.rows.toNat 0 = []:=rfl
 rw [h0] at q
 have hne:planOfW b ws ≠ []:=by
  intro e
  have:=congrArg List.length e
  simp [planOfW,planW] at this
  omega
 generalize planOfW b ws = FF at *
 simp only [cellsB] at q ⊢
 simp at q
 simp [c46,argFr,q,e1]
 obtain ⟨x,RR,rfl⟩:=List.exists_cons_of_ne_nil hne
 simp [encL,encI]
 try rfl
end Go.Proofs.Tryz.Op
