/- Contracts: play, Play. No condition but a valid beach. -/
import Derived.Test.YtkemmiljbaneoaaW3
import Derived.Test.YtkemmiljbaneoaaFz
open Go Go.Pg Go.Proofs Go.Wind
namespace Go.Wind
def addH (x y:Hrs):Hrs:=⟨x.sun + y.sun,x.calm + y.calm,x.good + y.good⟩
end Go.Wind
namespace Go.Proofs.Try.Op
set_option maxRecDepth 100000
set_option linter.unusedSimpArgs false
@[simp] theorem weakV_eptr (l k γ i o:Nat):weakV (.eptr l k γ i o) = .eptr l k γ i o:=rfl
@[simp] theorem closedV_eptr (f l k γ i o:Nat):closedV (f + 1) (.eptr l k γ i o) = false:=rfl
theorem put_eq (L:Level) (k γ:Nat) (r:Res):Level.put L k γ r = (k,γ,r) :: L:=rfl
def encHs (l:List Hrs):List V:=[.list false (l.map encH)]
def totRow (b:Beach) (plan:List (List Int)) (t:List Int) (r:Nat):Nat→Int
 | 0=>0
 | p + 1=>totRow b plan t r p + (hoursP b plan t r p).good
def mixR (b:Beach) (plan:List (List Int)) (t:List Int) (r p:Nat):List Hrs:=(List.range b.places.toNat).map fun j=>if j < p then hoursP b plan t r j else ⟨0,0,0⟩
def rowP (b:Beach) (plan:List (List Int)) (t:List Int) (r:Nat):List Hrs:=(List.range b.places.toNat).map (hoursP b plan t r)
def totAll (b:Beach) (plan:List (List Int)) (t:List Int):Nat→Int
 | 0=>0
 | r + 1=>totAll b plan t r + totRow b plan t r b.places.toNat
def playP (b:Beach) (plan:List (List Int)) (t:List Int) (n:Nat):List (List Hrs):=(List.range n).map (rowP b plan t)
def playV (b:Beach) (plan:List (List Int)) (t:List Int):List (List Hrs) × Int :=
 if faultB b ≠ 0 then ([],faultB b) else if isPlanB b plan = true∧listedGo t b.winds = true then (playP b plan t b.rows.toNat,0) else ([],2)
end Go.Proofs.Try.Op
/- Contracts: Beach, shaped. No condition but lists of at most 100. -/
open Go Go.Pg Go.Proofs Go.Wind
namespace Go.Proofs.Try.Op
set_option maxRecDepth 100000
set_option linter.unusedSimpArgs false
theorem get_pl8 {j k m:Nat} (h1:j ≠ m) (h2:k ≠ m) (γ:Nat) (T:TypeId) (es:List (List V)) (x:Nat × Res):(pl j γ T es ++ [(k,x)]).get m = none:=by
 cases es <;> simp [h1.symm,h2.symm]
theorem appP {k:Nat} {x:Int × Int} (h:k≤10000):appOK Try.prog 66 k [[i x.1,i x.2]] = true:=by
 rw [appOK_iff (by simp) (by simp)]
 simp [maxLen]; omega
theorem appN {k:Nat} {x:Int × Int} (h:k≤10000):appOK Try.prog 89 k [[i x.1,i x.2]] = true:=by
 rw [appOK_iff (by simp) (by simp)]
 simp [maxLen]; omega
def boxW (b:Beach) (x y:V):Res:=.box [i b.last,i b.rows,i b.places,i b.reach,li b.face,li b.sun,lli b.winds,x,y]
theorem lBeach3 (b:Beach) (Z:Res) (hl:b.breaks.length≤100):∀ (d k c γ:Nat) (acc:List (Int × Int)),k + d = b.breaks.length→acc.length≤k→2 < c→∃ c' γ',2 < c'∧∀ n m,d < m→loopA (execA Try.prog ann kn (n+400) 68) lb14_3 (ann 68 (fstR lb14_3)) m ⟨c,[(1,true,.ptr 0 1 0 0),(2,true,.ptr 0 2 1 0),(3,true,.ptr 0 3 2 0),(4,true,i k)],⟨[],(1,0,.box (cellsB b)) :: (2,1,Z) :: (3,2,boxW b (pv 40 γ (acc.map encP)) .nil) :: pl 40 γ 66 (acc.map encP)⟩⟩ =
  some (.exit 0,⟨c',[(28,true,.bool false),(27,true,i b.breaks.length),(26,true,.list false (b.breaks.map encP)),(25,true,.ptr 0 1 0 7),(24,true,i b.breaks.length),(1,true,.ptr 0 1 0 0),(2,true,.ptr 0 2 1 0),(3,true,.ptr 0 3 2 0),(4,true,i b.breaks.length)],⟨[],(1,0,.box (cellsB b)) :: (2,1,Z) :: (3,2,boxW b (pv 40 γ' ((acc ++ b.breaks.drop k).map encP)) .nil) :: pl 40 γ' 66 ((acc ++ b.breaks.drop k).map encP)⟩⟩)
 | 0,k,c,γ,acc,hk,ha,hc=>by
  have:k = b.breaks.length:=by omega
  subst this
  refine ⟨c,γ,hc,fun n m hm=>?_⟩
  obtain ⟨m,rfl⟩:∃ m',m = m' + 1:=⟨m - 1,by omega⟩
  rw [List.drop_length,List.append_nil,loopA_succ]
  simp [cellsB,boxW]
 | d + 1,k,c,γ,acc,hk,ha,hc=>by
  have hk':k < b.breaks.length:=by omega
  have hw:=wrapS (k:=k) (by omega)
  have q:=fun n=>kSpotL n b.breaks[k]
  have happ:=appP (k:=acc.length) (x:=b.breaks[k]) (by omega)
  obtain ⟨c',γ',h1,ih⟩:=lBeach3 b Z hl d (k + 1) (c + 1) c (acc ++ [b.breaks[k]]) (by omega) (by simp; omega) (by omega)
  have hgo:acc ++ b.breaks.drop k = acc ++ [b.breaks[k]] ++ b.breaks.drop (k + 1):=by
   rw [List.drop_eq_getElem_cons hk']; simp
  rw [← hgo] at ih
  refine ⟨c',γ',h1,fun n m hm=>?_⟩
  obtain ⟨m,rfl⟩:∃ m',m = m' + 1:=⟨m - 1,by omega⟩
  have ih:=ih n m (by omega)
  have hc2:2 < c + 1:=by omega
  generalize acc ++ b.breaks.drop k = fin at ih ⊢
  rw [loopA_succ]
  simp only [cellsB,boxW] at ih ⊢
  simp [encP] at ih q
  simp [hk',hw,encP,q,happ,plK,apK,put_eq,hc2,ih]
theorem lBeach7 (b:Beach) (Z:Res) (hl:b.notes.length≤100) (γ0:Nat) (A:List (List V)):∀ (d k c γ:Nat) (acc:List (Int × Int)),k + d = b.notes.length→acc.length≤k→2 < c→∃ c' γ',2 < c'∧∀ n m,d < m→loopA (execA Try.prog ann kn (n+400) 68) lb14_7 (ann 68 (fstR lb14_7)) m ⟨c,[(1,true,.ptr 0 1 0 0),(2,true,.ptr 0 2 1 0),(3,true,.ptr 0 3 2 0),(5,true,i k)],⟨[],(1,0,.box (cellsB b)) :: (2,1,Z) :: (3,2,boxW b (pv 40 γ0 A) (pv 65 γ (acc.map encP))) :: (pl 40 γ0 66 A ++ pl 65 γ 89 (acc.map encP))⟩⟩ =
  some (.exit 2,⟨c',[(46,true,.bool false),(45,true,i b.notes.length),(44,true,.list false (b.notes.map encP)),(43,true,.ptr 0 1 0 8),(42,true,i b.notes.length),(1,true,.ptr 0 1 0 0),(2,true,.ptr 0 2 1 0),(3,true,.ptr 0 3 2 0),(5,true,i b.notes.length)],⟨[],(1,0,.box (cellsB b)) :: (2,1,Z) :: (3,2,boxW b (pv 40 γ0 A) (pv 65 γ' ((acc ++ b.notes.drop k).map encP))) :: (pl 40 γ0 66 A ++ pl 65 γ' 89 ((acc ++ b.notes.drop k).map encP))⟩⟩)
 | 0,k,c,γ,acc,hk,ha,hc=>by
  have:k = b.notes.length:=by omega
  subst this
  refine ⟨c,γ,hc,fun n m hm=>?_⟩
  obtain ⟨m,rfl⟩:∃ m',m = m' + 1:=⟨m - 1,by omega⟩
  rw [List.drop_length,List.append_nil,loopA_succ]
  simp [cellsB,boxW,kl_pl2,kl_pl3,kl_pl7,get_pl2,get_pl5,get_pl6]
 | d + 1,k,c,γ,acc,hk,ha,hc=>by
  have hk':k < b.notes.length:=by omega
  have hw:=wrapS (k:=k) (by omega)
  have happ:=appN (k:=acc.length) (x:=b.notes[k]) (by omega)
  obtain ⟨c',γ',h1,ih⟩:=lBeach7 b Z hl γ0 A d (k + 1) (c + 1) c (acc ++ [b.notes[k]]) (by omega) (by simp; omega) (by omega)
  have hgo:acc ++ b.notes.drop k = acc ++ [b.notes[k]] ++ b.notes.drop (k + 1):=by
   rw [List.drop_eq_getElem_cons hk']; simp
  rw [← hgo] at ih
  refine ⟨c',γ',h1,fun n m hm=>?_⟩
  obtain ⟨m,rfl⟩:∃ m',m = m' + 1:=⟨m - 1,by omega⟩
  have ih:=ih n m (by omega)
  have hc2:2 < c + 1:=by omega
  generalize acc ++ b.notes.drop k = fin at ih ⊢
  rw [loopA_succ]
  simp only [cellsB,boxW] at ih ⊢
  simp [encP] at ih
  simp [hk',hw,encP,happ,plK,apK,put_eq,hc2,kl_pl2,kl_pl3,kl_pl7,get_pl2,get_pl5,get_pl6,get_pl4,kl_pl4,get_pl8,ih]
theorem closed_sl {f:Nat} {l:List (List V)} (h:closedV f (.list false l) = true) (hf:f ≠ 0):closedV f (sl l) = true:=by
 cases l with
 | nil =>
  cases f with
  | zero=>exact absurd rfl hf
  | succ f=>rfl
 | cons e es=>exact h
theorem kBeach (n:Nat) (b:Beach) (hf:b.face.length≤100) (hs:b.sun.length≤100) (hw:b.winds.length≤100) (h1:∀ l ∈ b.winds,l.length≤100) (hb:b.breaks.length≤100) (hn:b.notes.length≤100):callK Try.prog kn (execA Try.prog ann kn (n+600)) 14 [.agg (cellsB b)] = some (.agg (cellsR b)):=by
 rw [callK_of rfl,call0_eq Try.func14 b14 rfl (by simp [cellsB,encI,encL,encP])]
 have q1:=fun n=>kList n b.face hf
 have q2:=fun n=>kList n b.sun hs
 have q3:=fun n=>kLists n b.winds hw h1
 obtain ⟨c1,γ1,g1,r1⟩:=lBeach3 b (.box [i 0,i 0,i 0,i 0,.nil,.nil,.nil,.nil,.nil]) hb b.breaks.length 0 3 0 [] (by omega) (by simp) (by omega)
 have r1:=fun n m=>r1 n (m + 200) (by omega)
 rw [List.drop_zero,List.nil_append] at r1
 obtain ⟨c2,γ2,g2,r2⟩:=lBeach7 b (.box [i 0,i 0,i 0,i 0,.nil,.nil,.nil,.nil,.nil]) hn γ1 (b.breaks.map encP) b.notes.length 0 c1 0 [] (by omega) (by simp) (by omega)
 have r2:=fun n m=>r2 n (m + 200) (by omega)
 rw [List.drop_zero,List.nil_append] at r2
 simp only [cellsB,cellsR,boxW] at r1 r2 ⊢
 simp at r1 r2
 have g3:1 < c2:=by omega
 simp [c14,argFr,encI,encL,q1,q2,q3,r1,r2,put_eq,g3,kl_pl2,kl_pl3,kl_pl7,get_pl2,get_pl5,get_pl6]
 rw [closeX_pv (T:=66) 2 _ 40 γ1 _ (by simp [get_pl5]),closeX_pv (T:=89) 2 _ 65 γ2 _ (by simp [get_pl2])]
 have hcl:∀ l:List (Int × Int),closedV 8 (sl (l.map encP)) = true:=fun l=>closed_sl (by simp [encP]) (by decide)
 simp [encI,encL,hcl]
def shapedB (b:Beach) (A:List (List Hrs)):Bool:=(A.all fun l=>decide ((l.length:Int) = b.places)) && decide ((A.length:Int) = b.rows)
end Go.Proofs.Try.Op
