/- Contracts of the reference: IsPlan, IsListed, IsTruth. No condition but a valid beach. -/
import Derived.Test.YtkemmiljbaneoaaGreatW3
import Derived.Test.YtkemmiljbaneoaaGreatFz
import Derived.Test.YtkemmiljbaneoaaGreatW4
open Go Go.Pg Go.Proofs Go.Wind
namespace Go.Proofs.Tryz.Op
set_option maxRecDepth 100000
set_option linter.unusedSimpArgs false
theorem lIsPlanR (b:Beach) (hb:Valid b) (pl:List (List Int)) (hl:pl.length≤100):∀ (d k:Nat),k + d = pl.length→∃ fr,(getF fr 1 = some (true,lli pl)∧getF fr 2 = some (true,.ptr 0 2 0 0))∧∀ n m,d < m→loopA (execA Tryz.prog ann kn (n+400) 34) lb22_2 (ann 34 (fstR lb22_2)) m ⟨1,[(1,true,lli pl),(2,true,.ptr 0 2 0 0),(5,true,i k)],⟨[],[(2,0,.box (cellsB b))]⟩⟩ =
  if (pl.drop k).all (fun l=>decide ((l.length:Int) = b.rows) && dirsB l 0) = true then some (.exit 0,⟨1,fr,⟨[],[(2,0,.box (cellsB b))]⟩⟩) else some (.ret,⟨1,[(4,true,.bool false)],⟨[],[]⟩⟩)
 | 0,k,hk=>by
  have:k = pl.length:=by omega
  subst this
  refine ⟨?fr,?g1,fun n m hm=>?g3⟩
  case g3 =>
   obtain ⟨m,rfl⟩:∃ m',m = m' + 1:=⟨m - 1,by omega⟩
   rw [List.drop_length,loopA_succ]
   simp [cellsB]
   rfl
  case g1=>simp
 | d + 1,k,hk=>by
  have hk':k < pl.length:=by omega
  have hw:=wrapS (k:=k) (by omega)
  have hro:=hb.ro
  obtain ⟨fr,e1,ih⟩:=lIsPlanR b hb pl hl d (k + 1) (by omega)
  rw [List.drop_eq_getElem_cons hk',List.all_cons]
  by_cases h:(pl[k].length:Int) = b.rows
  ·have q:=fun n=>kDirs n pl[k] 0 (by omega)
   cases hz:dirsB pl[k] 0 with
   | true =>
    rw [hz] at q
    simp only [h,decide_true,Bool.true_and]
    refine ⟨fr,e1,fun n m hm=>?_⟩
    obtain ⟨m,rfl⟩:∃ m',m = m' + 1:=⟨m - 1,by omega⟩
    have ih:=ih n m (by omega)
    rw [loopA_succ]
    simp only [cellsB] at ih ⊢
    simp at ih
    simp [hk',hw,encI,encL,h,q,plK,ih]
   | false =>
    rw [hz] at q
    simp only [h,decide_true,Bool.true_and,Bool.false_and]
    refine ⟨fr,e1,fun n m hm=>?_⟩
    obtain ⟨m,rfl⟩:∃ m',m = m' + 1:=⟨m - 1,by omega⟩
    rw [loopA_succ]
    simp [cellsB,hk',hw,encI,encL,h,q,plK]
  ·simp only [h,decide_false,Bool.false_and]
   refine ⟨fr,e1,fun n m hm=>?_⟩
   obtain ⟨m,rfl⟩:∃ m',m = m' + 1:=⟨m - 1,by omega⟩
   rw [loopA_succ]
   simp [cellsB,hk',hw,encI,encL,h,plK]
theorem kIsPlanR (n:Nat) (b:Beach) (hb:Valid b) (pl:List (List Int)) (hl:pl.length≤100):callK Tryz.prog kn (execA Tryz.prog ann kn (n+600)) 22 [.agg (cellsB b),lli pl] = some (.bool (isPlanB b pl)):=by
 rw [callK_of rfl,call0_eq Tryz.func22 b22 rfl (by simp [cellsB,encI,encL,encP])]
 have hla:=hb.la
 have hwl:IntKind.i64.wrap (b.last + 1) = b.last + 1:=wrap_i64 (by omega) (by omega)
 obtain ⟨fr,⟨e1,e2⟩,q⟩:=lIsPlanR b hb pl hl pl.length 0 (by omega)
 have q:=fun n m=>q n (m + 110) (by omega)
 rw [List.drop_zero] at q
 unfold isPlanB
 generalize (pl.all fun l=>decide ((l.length:Int) = b.rows) && dirsB l 0) = z at q ⊢
 simp only [cellsB] at q ⊢
 cases z <;> (simp at q; simp [c22,argFr,q,e1,e2,hwl])
theorem lListedR (b:Beach) (t:List Int) (hl:t.length = b.winds.length) (h100:t.length≤100) (h4:∀ l ∈ b.winds,l.length≤100):∀ (d k:Nat),k + d = t.length→∃ fr,∀ n m,d < m→loopA (execA Tryz.prog ann kn (n+400) 29) lb65_4 (ann 29 (fstR lb65_4)) m ⟨1,[(1,true,li t),(2,true,.ptr 0 2 0 0),(5,true,i k)],⟨[],[(2,0,.box (cellsB b))]⟩⟩ =
  if listedGo (t.drop k) (b.winds.drop k) = true then some (.exit 0,⟨1,fr,⟨[],[(2,0,.box (cellsB b))]⟩⟩) else some (.ret,⟨1,[(4,true,.bool false)],⟨[],[]⟩⟩)
 | 0,k,hk=>by
  have:k = t.length:=by omega
  subst this
  refine ⟨?fr,fun n m hm=>?g3⟩
  case g3 =>
   obtain ⟨m,rfl⟩:∃ m',m = m' + 1:=⟨m - 1,by omega⟩
   have:b.winds.drop t.length = []:=by rw [hl]; exact List.drop_length
   rw [List.drop_length,this,loopA_succ]
   simp [listedGo,cellsB]
   rfl
 | d + 1,k,hk=>by
  have hk':k < t.length:=by omega
  have hk2:k < b.winds.length:=by omega
  have hw:=wrapS (k:=k) (by omega)
  obtain ⟨fr,ih⟩:=lListedR b t hl h100 h4 d (k + 1) (by omega)
  have q:=fun n=>kHas n b.winds[k] t[k] (h4 _ (List.getElem_mem hk2))
  rw [List.drop_eq_getElem_cons hk',List.drop_eq_getElem_cons hk2]
  simp only [listedGo]
  by_cases h:t[k] ∈ b.winds[k]
  ·simp only [h,decide_true,Bool.true_and] at q ⊢
   refine ⟨fr,fun n m hm=>?_⟩
   obtain ⟨m,rfl⟩:∃ m',m = m' + 1:=⟨m - 1,by omega⟩
   have ih:=ih n m (by omega)
   rw [loopA_succ]
   simp only [cellsB] at ih ⊢
   simp at ih
   simp [hk',hk2,hw,encI,encL,q,plK,ih]
  ·simp only [h,decide_false,Bool.false_and] at q ⊢
   refine ⟨[],fun n m hm=>?_⟩
   obtain ⟨m,rfl⟩:∃ m',m = m' + 1:=⟨m - 1,by omega⟩
   rw [loopA_succ]
   simp [cellsB,hk',hk2,hw,encI,encL,plK,q]
theorem kListedR (n:Nat) (b:Beach) (hb:Valid b) (t:List Int):callK Tryz.prog kn (execA Tryz.prog ann kn (n+600)) 65 [.agg (cellsB b),li t] = some (.bool (listedGo t b.winds)):=by
 rw [callK_of rfl,call0_eq Tryz.func65 b65 rfl (by simp [cellsB,encI,encL,encP])]
 have hla:=hb.la
 have hwi:=hb.wi
 by_cases h:t.length = b.winds.length
 ·obtain ⟨fr,q⟩:=lListedR b t h (by omega) (fun l hl=>by have:=hb.wl l hl; omega) t.length 0 (by omega)
  have q:=fun n m=>q n (m + 110) (by omega)
  rw [List.drop_zero,List.drop_zero] at q
  generalize listedGo t b.winds = z at q ⊢
  simp only [cellsB] at q ⊢
  cases z <;> (simp at q; simp [c65,argFr,h,q])
 ·rw [listed_eq h]
  have h':¬ (t.length:Int) = (b.winds.length:Int):=by omega
  simp [c65,argFr,cellsB,h']
theorem lTruthR (b:Beach) (t:List Int) (hn:∀ x ∈ b.notes,0≤x.1∧x.1 < t.length) (hl:b.notes.length≤100):∀ (d k:Nat),k + d = b.notes.length→∃ fr,∀ n m,d < m→loopA (execA Tryz.prog ann kn (n+400) 33) lb64_4 (ann 33 (fstR lb64_4)) m ⟨1,[(1,true,li t),(2,true,.ptr 0 2 0 0),(5,true,i k)],⟨[],[(2,0,.box (cellsB b))]⟩⟩ =
  if (b.notes.drop k).all (rightB t) = true then some (.exit 0,⟨1,fr,⟨[],[(2,0,.box (cellsB b))]⟩⟩) else some (.ret,⟨1,[(4,true,.bool false)],⟨[],[]⟩⟩)
 | 0,k,hk=>by
  have:k = b.notes.length:=by omega
  subst this
  refine ⟨?fr,fun n m hm=>?g3⟩
  case g3 =>
   obtain ⟨m,rfl⟩:∃ m',m = m' + 1:=⟨m - 1,by omega⟩
   rw [List.drop_length,loopA_succ]
   simp [cellsB]
   rfl
 | d + 1,k,hk=>by
  have hk':k < b.notes.length:=by omega
  have hw:=wrapS (k:=k) (by omega)
  obtain ⟨fr,ih⟩:=lTruthR b t hn hl d (k + 1) (by omega)
  obtain ⟨h0,h1⟩:=hn _ (List.getElem_mem hk')
  rw [List.drop_eq_getElem_cons hk']
  have h1':b.notes[k].1.toNat < t.length:=by omega
  have ha:atI t b.notes[k].1 = t[b.notes[k].1.toNat]:=by
   unfold atI
   rw [List.getD_eq_getElem?_getD,List.getElem?_eq_getElem (by omega)]; rfl
  have hr:rightB t b.notes[k] = decide (t[b.notes[k].1.toNat] = b.notes[k].2):=by unfold rightB; rw [ha]
  simp only [List.all_cons,hr]
  by_cases h2:t[b.notes[k].1.toNat] = b.notes[k].2
  ·simp only [h2,decide_true,Bool.true_and]
   refine ⟨fr,fun n m hm=>?_⟩
   obtain ⟨m,rfl⟩:∃ m',m = m' + 1:=⟨m - 1,by omega⟩
   have ih:=ih n m (by omega)
   rw [loopA_succ]
   simp only [cellsB] at ih ⊢
   simp at ih
   simp [hk',hw,encI,encP,plK,h0,h1,h1',h2,ih]
  ·simp only [h2,decide_false,Bool.false_and]
   refine ⟨[],fun n m hm=>?_⟩
   obtain ⟨m,rfl⟩:∃ m',m = m' + 1:=⟨m - 1,by omega⟩
   rw [loopA_succ]
   simp [cellsB,hk',hw,encI,encP,plK,h0,h1,h1',h2]
theorem kTruthR (n:Nat) (b:Beach) (hb:Valid b) (t:List Int):callK Tryz.prog kn (execA Tryz.prog ann kn (n+800)) 64 [.agg (cellsB b),li t] = some (.bool (isTruthB b t)):=by
 rw [callK_of rfl,call0_eq Tryz.func64 b64 rfl (by simp [cellsB,encI,encL,encP])]
 have q1:=fun n=>kListedR n b hb t
 have hno:=hb.no
 unfold isTruthB
 by_cases h:listedGo t b.winds = true
 ·rw [h] at q1
  obtain ⟨fr,q⟩:=lTruthR b t (Valid.notes' hb (listed_len h)) (by have:=hb.no; omega) b.notes.length 0 (by omega)
  have q:=fun n m=>q n (m + 110) (by omega)
  rw [List.drop_zero] at q
  rw [h]
  generalize b.notes.all (rightB t) = z at q ⊢
  simp only [cellsB] at q q1 ⊢
  cases z <;> (simp at q; simp [c64,argFr,encI,encL,encP,q1,q])
 ·have h:listedGo t b.winds = false:=by simpa using h
  rw [h] at q1
  simp only [cellsB] at q1 ⊢
  simp [c64,argFr,encI,encL,encP,q1,h]
end Go.Proofs.Tryz.Op
/- Contract of the reference: Sheltered. No condition but a valid beach. -/
open Go Go.Pg Go.Proofs Go.Wind
namespace Go.Wind
def shGo (b:Beach) (s:Int × Int) (w:Int):Nat→Nat→Bool
 | 0,_=>false
 | d + 1,j=>(b.breaks.any fun k=>decide (k = stepW s w ((j:Int) + 1))) || shGo b s w d (j + 1)
theorem shGo_eq (b:Beach) (s:Int × Int) (w:Int):∀ (d j:Nat),shGo b s w d j = (List.range d).any fun i=>b.breaks.any fun k=>decide (k = stepW s w (((j + i:Nat):Int) + 1))
 | 0,_=>rfl
 | d + 1,j=>by
  rw [shGo,shGo_eq b s w d (j + 1),List.range_succ_eq_map,List.any_cons,List.any_map]
  congr 1
  congr 1
  funext i
  simp only [Function.comp]
  rw [show j + 1 + i = j + (i + 1) by omega]
theorem sh_go (b:Beach) (s:Int × Int) (f w:Int):shR b s f w = (decide ((f + 2) % 4 = w) || shGo b s w b.reach.toNat 0):=by
 unfold shR
 rw [shGo_eq]
 simp
end Go.Wind
namespace Go.Proofs.Tryz.Op
set_option maxRecDepth 100000
set_option linter.unusedSimpArgs false
theorem put_eq' (L:Level) (k γ:Nat) (r:Res):Level.put L k γ r = (k,γ,r) :: L:=rfl
theorem eqS (a1 a2 b1 b2:Int) (h1:okI a1) (h2:okI a2) (g1:okI b1) (g2:okI b2):evEq Tryz.prog 50 [i a1,i a2] [i b1,i b2] = some (decide (a1 = b1) && decide (a2 = b2)):=by
 have kl:∀ a b:Int,okI a→okI b→Program.keyLits Tryz.prog 16 50 [.int .i64 a,.int .i64 b] = some [.int .i64 a,.int .i64 b]:=fun a b ha hb=>by
  unfold Program.keyLits
  simp [Tryz.underlying50,k3I (wfI ha),k3I (wfI hb)]
 have kt:(aggT Tryz.prog 50 && Program.keyTypeAt Tryz.prog 16 50 && !(Tryz.prog.eqGuardType Tryz.prog.depth 50)) = true:=by kernel_rfl
 unfold evEq
 simp [plainC,kl _ _ h1 h2,kl _ _ g1 g2]
 refine ⟨⟨by simpa using kt,by simp [flatLits]⟩,?_⟩
 simp only [eqLits,Bool.and_true]
 congr 1
theorem lShelt17 (b:Beach) (hbr:∀ k ∈ b.breaks,0≤k.1∧k.1≤100∧0≤k.2∧k.2≤100) (hl:b.breaks.length≤100) (x:Int × Int) (hx:-1000≤x.1∧x.1≤1000∧-1000≤x.2∧x.2≤1000) (w:Int) (j γ c:Nat):∀ (d k:Nat),k + d = b.breaks.length→∀ n m,d < m→loopA (execA Tryz.prog ann kn (n+100) 63) lb86_17 (ann 63 (fstR lb86_17)) m ⟨c,[(3,true,i w),(4,true,.ptr 0 4 0 0),(9,true,.ptr 0 9 γ 0),(10,true,i j),(11,true,i k)],⟨[],[(4,0,.box (cellsB b)),(9,γ,.box (encP x))]⟩⟩ =
  if ((b.breaks.drop k).any fun q=>decide (q = x)) = true then some (.ret,⟨c,[(8,true,.bool true)],⟨[],[]⟩⟩)
  else some (.exit 3,⟨c,[(53,true,.bool false),(52,true,i b.breaks.length),(51,true,.list false (b.breaks.map encP)),(50,true,.ptr 0 4 0 7),(49,true,i b.breaks.length),(3,true,i w),(4,true,.ptr 0 4 0 0),(9,true,.ptr 0 9 γ 0),(10,true,i j),(11,true,i b.breaks.length)],⟨[],[(4,0,.box (cellsB b)),(9,γ,.box (encP x))]⟩⟩)
 | 0,k,hk,n,m + 1,hm=>by
  have:k = b.breaks.length:=by omega
  subst this
  rw [List.drop_length,loopA_succ]
  simp [cellsB,encP]
 | d + 1,k,hk,n,m + 1,hm=>by
  have hk':k < b.breaks.length:=by omega
  have hw:=wrapS (k:=k) (by omega)
  have ih:=lShelt17 b hbr hl x hx w j γ c d (k + 1) (by omega) n m (by omega)
  obtain ⟨g1,g2,g3,g4⟩:=hbr _ (List.getElem_mem hk')
  obtain ⟨x1,x2,x3,x4⟩:=hx
  have he:=eqS b.breaks[k].1 b.breaks[k].2 x.1 x.2 ⟨by omega,by omega⟩ ⟨by omega,by omega⟩ ⟨by omega,by omega⟩ ⟨by omega,by omega⟩
  rw [List.drop_eq_getElem_cons hk',List.any_cons]
  have hq:decide (b.breaks[k] = x) = (decide (b.breaks[k].1 = x.1) && decide (b.breaks[k].2 = x.2)):=by
   rw [Bool.eq_iff_iff]; simp [Prod.ext_iff]
  rw [← hq] at he
  generalize decide (b.breaks[k] = x) = z at he ⊢
  rw [loopA_succ]
  simp only [cellsB,encP] at ih he ⊢
  cases z with
  | true=>simp [hk',hw,encP,plK,he]
  | false =>
   simp only [Bool.false_or]
   simp at ih
   simp [hk',hw,encP,plK,he,ih]
theorem step_next (s:Int × Int) (w:Int) (hw:0≤w∧w≤3) (j:Nat):stepW s w ((j:Int) + 1) = if w = 0 then ((stepW s w j).1 - 1,(stepW s w j).2) else if w = 1 then ((stepW s w j).1,(stepW s w j).2 + 1) else if w = 2 then ((stepW s w j).1 + 1,(stepW s w j).2) else ((stepW s w j).1,(stepW s w j).2 - 1):=by
 have:w = 0∨w = 1∨w = 2∨w = 3:=by omega
 unfold stepW
 rcases this with rfl | rfl | rfl | rfl <;> simp <;> omega
theorem step_le (s:Int × Int) (hs:0≤s.1∧s.1≤100∧0≤s.2∧s.2≤100) (w:Int) (j:Int) (hj:0≤j∧j≤100):-1000≤(stepW s w j).1∧(stepW s w j).1≤1000∧-1000≤(stepW s w j).2∧(stepW s w j).2≤1000:=by
 unfold stepW
 split <;> (try split) <;> (try split) <;> (try split) <;> (try simp only) <;> omega
theorem lShelt5 (b:Beach) (hb:Valid b) (hbr:∀ k ∈ b.breaks,0≤k.1∧k.1≤100∧0≤k.2∧k.2≤100) (s:Int × Int) (hs:0≤s.1∧s.1≤100∧0≤s.2∧s.2≤100) (w:Int) (hw:0≤w∧w≤3) (γ c:Nat) (hγ:γ < c):∀ (d j:Nat),j + d = b.reach.toNat→∃ fr,∀ n m,d < m→loopA (execA Tryz.prog ann kn (n+300) 63) lb86_5 (ann 63 (fstR lb86_5)) m ⟨c,[(3,true,i w),(4,true,.ptr 0 4 0 0),(9,true,.ptr 0 9 γ 0),(10,true,i j)],⟨[],[(4,0,.box (cellsB b)),(9,γ,.box (encP (stepW s w j)))]⟩⟩ =
  if shGo b s w d j = true then some (.ret,⟨c,[(8,true,.bool true)],⟨[],[]⟩⟩) else some (.exit 0,⟨c,fr,⟨[],[(4,0,.box (cellsB b)),(9,γ,.box (encP (stepW s w b.reach.toNat)))]⟩⟩)
 | 0,j,hd=>by
  have hre:=hb.re
  have h1:j = b.reach.toNat:=by omega
  have h2:b.reach = (j:Int):=by omega
  rw [← h1]
  refine ⟨?fr,fun n m hm=>?g2⟩
  case g2 =>
   obtain ⟨m,rfl⟩:∃ m',m = m' + 1:=⟨m - 1,by omega⟩
   rw [loopA_succ]
   simp [cellsB,encP,h2,shGo]
   rfl
 | d + 1,j,hd=>by
  have hre:=hb.re
  have hbk:=hb.br
  have hj:(j:Int) < b.reach:=by omega
  have hw1:=wrapS (k:=j) (by omega)
  have x0:=step_le s hs w j (by omega)
  have x1:=step_le s hs w ((j:Int) + 1) (by omega)
  have q:=lShelt17 b hbr (by omega) (stepW s w ((j:Int) + 1)) x1 w j γ c b.breaks.length 0 (by omega)
  have q:=fun n m=>q n (m + 150) (by omega)
  rw [List.drop_zero] at q
  obtain ⟨fr,ih⟩:=lShelt5 b hb hbr s hs w hw γ c hγ d (j + 1) (by omega)
  have e:stepW s w ((j + 1:Nat):Int) = stepW s w ((j:Int) + 1):=by rw [Int.natCast_succ]
  rw [e] at ih
  have hn:=step_next s w hw j
  refine ⟨fr,fun n m hm=>?_⟩
  obtain ⟨m,rfl⟩:∃ m',m = m' + 1:=⟨m - 1,by omega⟩
  have ih:=ih n m (by omega)
  rw [show shGo b s w (d + 1) j = ((b.breaks.any fun k=>decide (k = stepW s w ((j:Int) + 1))) || shGo b s w d (j + 1)) from rfl]
  generalize stepW s w ((j:Int) + 1) = X' at *
  generalize stepW s w (j:Int) = X at *
  generalize stepW s w (b.reach.toNat:Int) = X2 at *
  generalize (b.breaks.any fun k=>decide (k = X')) = z at q ⊢
  have wa:IntKind.i64.wrap (X.1 - 1) = X.1 - 1:=wrap_i64 (by omega) (by omega)
  have wb:IntKind.i64.wrap (X.1 + 1) = X.1 + 1:=wrap_i64 (by omega) (by omega)
  have wc:IntKind.i64.wrap (X.2 - 1) = X.2 - 1:=wrap_i64 (by omega) (by omega)
  have wd:IntKind.i64.wrap (X.2 + 1) = X.2 + 1:=wrap_i64 (by omega) (by omega)
  have hw4:w = 0∨w = 1∨w = 2∨w = 3:=by omega
  rw [loopA_succ]
  simp only [cellsB] at q ih ⊢
  rcases hw4 with rfl | rfl | rfl | rfl <;> (simp at hn; subst hn; cases z <;> (simp [encP] at q ih; simp [hj,hw1,hγ,encP,put_eq',wa,wb,wc,wd,q,ih]))
theorem kShelt (n:Nat) (b:Beach) (hb:Valid b) (s:Int × Int) (hs:0≤s.1∧s.1≤100∧0≤s.2∧s.2≤100) (f w:Int) (hf:0≤f∧f≤3) (hw:0≤w∧w≤3):callK Tryz.prog kn (execA Tryz.prog ann kn (n+500)) 86 [.agg (cellsB b),.agg (encP s),i f,i w] = some (.bool (shR b s f w)):=by
 rw [callK_of rfl,call0_eq Tryz.func86 b86 rfl (by simp [cellsB,encI,encL,encP])]
 have hre:=hb.re
 obtain ⟨fr,q⟩:=lShelt5 b hb (Valid.br' hb) s hs w hw 2 3 (by omega) b.reach.toNat 0 (by omega)
 have q:=fun n m=>q n (m + 150) (by omega)
 have e0:stepW s w ((0:Nat):Int) = s:=by
  unfold stepW
  split <;> (try split) <;> (try split) <;> (try split) <;> simp
 rw [e0] at q
 have hwf:IntKind.i64.wrap (f + 2) = f + 2:=wrap_i64 (by omega) (by omega)
 have hm:(f + 2).tmod 4 = (f + 2) % 4:=Int.tmod_eq_emod_of_nonneg (by omega)
 rw [sh_go]
 generalize shGo b s w b.reach.toNat 0 = z at q ⊢
 generalize stepW s w (b.reach.toNat:Int) = X2 at q
 simp only [cellsB] at q ⊢
 by_cases h:(f + 2) % 4 = w
 ·simp [c86,argFr,hwf,hm,h]
 ·cases z <;> (simp [encP] at q; simp [c86,argFr,encP,hwf,hm,h,q,put_eq'])
end Go.Proofs.Tryz.Op
/- Contract of the reference: Play. No condition but a valid beach, plan and list. -/
open Go Go.Pg Go.Proofs Go.Wind
namespace Go.Wind
def refH (b:Beach) (p:List (List Int)) (t:List Int) (r q h:Nat):Hrs:=hoursB (fun h=>shR b (r,q) (planAt p h r) (t.getD h 0)) (litB b p r) h
def refRow (b:Beach) (p:List (List Int)) (t:List Int) (r n:Nat):List Hrs:=(List.range n).map fun q=>refH b p t r q t.length
def refP (b:Beach) (p:List (List Int)) (t:List Int) (n:Nat):List (List Hrs):=(List.range n).map fun r=>refRow b p t r b.places.toNat
theorem refRow_succ (b:Beach) (p:List (List Int)) (t:List Int) (r n:Nat):refRow b p t r (n + 1) = refRow b p t r n ++ [refH b p t r n t.length]:=by simp [refRow,List.range_succ]
theorem refP_succ (b:Beach) (p:List (List Int)) (t:List Int) (n:Nat):refP b p t (n + 1) = refP b p t n ++ [refRow b p t n b.places.toNat]:=by simp [refP,List.range_succ]
end Go.Wind
namespace Go.Proofs.Tryz.Op
set_option maxRecDepth 100000
set_option linter.unusedSimpArgs false
theorem lRef11 (b:Beach) (hb:Valid b) (p:List (List Int)) (hp:PlanOf b p) (t:List Int) (ht:listedGo t b.winds = true) (r q:Nat) (hr:(r:Int) < b.rows) (hq:(q:Int) < b.places) (γ7 γ9 γ:Nat) (A B:List (List V)):∀ (d h c:Nat),h + d = t.length→γ < c→∀ n m,d < m→loopA (execA Tryz.prog ann kn (n+800) 89) lb25_11 (ann 89 (fstR lb25_11)) m ⟨c,[(1,true,lli p),(2,true,li t),(3,true,.ptr 0 3 0 0),(7,true,pv 87 γ7 A),(8,true,i r),(9,true,pv 83 γ9 B),(10,true,i q),(11,true,.ptr 0 11 γ 0),(12,true,i h)],⟨[],(3,0,.box (cellsB b)) :: (11,γ,.box (encH (refH b p t r q h))) :: (pl 83 γ9 59 B ++ pl 87 γ7 60 A)⟩⟩ =
  some (.exit 4,⟨c,[(30,true,.bool false),(29,true,i t.length),(28,true,li t),(27,true,i t.length),(1,true,lli p),(2,true,li t),(3,true,.ptr 0 3 0 0),(7,true,pv 87 γ7 A),(8,true,i r),(9,true,pv 83 γ9 B),(10,true,i q),(11,true,.ptr 0 11 γ 0),(12,true,i t.length)],⟨[],(3,0,.box (cellsB b)) :: (11,γ,.box (encH (refH b p t r q t.length))) :: (pl 83 γ9 59 B ++ pl 87 γ7 60 A)⟩⟩)
 | 0,h,c,hd,hγ,n,m + 1,hm=>by
  have:h = t.length:=by omega
  rw [← this,loopA_succ]
  simp [cellsB,this,encH,kl_pl2,kl_pl3,kl_pl7,get_pl2,get_pl5,get_pl6]
 | d + 1,h,c,hd,hγ,n,m + 1,hm=>by
  have hla:=hb.la
  have hro:=hb.ro
  have hpc:=hb.pl
  have hlw:=listed_len ht
  have hwi:=hb.wi
  have hsu:=hb.su
  have hpn:=hp.len
  have hw:=wrapS (k:=h) (by omega)
  have hh:h < p.length:=by omega
  have ht':h < t.length:=by omega
  have hs':h < b.sun.length:=by omega
  have hpe:p.getD h [] = p[h]:=by rw [List.getD_eq_getElem?_getD,List.getElem?_eq_getElem hh]; rfl
  have hr2:r < p[h].length:=by have:=hp.row h hh; rw [hpe] at this; omega
  have hx:planAt p h r = p[h][r]:=by unfold planAt; rw [hpe,List.getD_eq_getElem?_getD,List.getElem?_eq_getElem hr2]; rfl
  have htd:t.getD h 0 = t[h]:=by rw [List.getD_eq_getElem?_getD,List.getElem?_eq_getElem ht']; rfl
  have hsd:b.sun.getD h 0 = b.sun[h]:=by rw [List.getD_eq_getElem?_getD,List.getElem?_eq_getElem hs']; rfl
  have hdir:=hp.dir h r hh (by rw [hpe]; exact hr2)
  have htdir:=listed_dir hb ht ht'
  rw [hx,inI_iff] at hdir
  rw [htd,inI_iff] at htdir
  have qs:=fun n=>kShelt n b hb (r,q) (by simp only; omega) p[h][r] t[h] hdir htdir
  have ih:=lRef11 b hb p hp t ht r q hr hq γ7 γ9 γ A B d (h + 1) c (by omega) hγ n m (by omega)
  have b1:=hrs_le (fun h=>shR b (r,q) (planAt p h r) (t.getD h 0)) (litB b p r) h
  have hlit:litB b p r h = decide (p[h][r] = b.sun[h]):=by unfold litB; rw [hx,hsd]
  have hdue:refH b p t r q (h + 1) = ⟨(refH b p t r q h).sun + (if litB b p r h = true then 1 else 0),(refH b p t r q h).calm + (if shR b (r,q) p[h][r] t[h] = true then 1 else 0),(refH b p t r q h).good + (if (litB b p r h && shR b (r,q) p[h][r] t[h]) = true then 1 else 0)⟩:=by
   simp only [refH,hoursB,cnt]
   have g:∀ (f:Nat→Bool),((cnt f h + if f h = true then 1 else 0:Nat):Int) = ((cnt f h:Nat):Int) + (if f h = true then 1 else 0):=fun f=>by
    split <;> simp
   rw [g,g (fun h=>shR b (r,q) (planAt p h r) (t.getD h 0)),g (fun h=>litB b p r h && shR b (r,q) (planAt p h r) (t.getD h 0)),hx,htd]
  change 0≤(refH b p t r q h).sun∧(refH b p t r q h).sun≤h∧0≤(refH b p t r q h).calm∧(refH b p t r q h).calm≤h∧0≤(refH b p t r q h).good∧(refH b p t r q h).good≤h at b1
  have w1:IntKind.i64.wrap ((refH b p t r q h).sun + 1) = (refH b p t r q h).sun + 1:=wrap_i64 (by omega) (by omega)
  have w2:IntKind.i64.wrap ((refH b p t r q h).calm + 1) = (refH b p t r q h).calm + 1:=wrap_i64 (by omega) (by omega)
  have w3:IntKind.i64.wrap ((refH b p t r q h).good + 1) = (refH b p t r q h).good + 1:=wrap_i64 (by omega) (by omega)
  rw [hdue,hlit] at ih
  generalize refH b p t r q t.length = FF at ih ⊢
  generalize refH b p t r q h = D at *
  generalize e1:decide (p[h][r] = b.sun[h]) = z1 at ih
  generalize shR b (r,q) p[h][r] t[h] = z2 at ih qs
  rw [loopA_succ]
  simp only [cellsB,encP] at ih qs ⊢
  cases z1 <;> cases z2 <;> (simp [encH] at ih; simp [hw,hh,ht',hs',hr2,encL,encI,encP,encH,e1,qs,w1,w2,w3,hγ,put_eq,plK,kl_pl2,kl_pl3,kl_pl7,get_pl2,get_pl5,get_pl6,ih])
theorem appH1 {k:Nat} {x:Hrs} (h:k≤10000):appOK Tryz.prog 59 k [encH x] = true:=by
 rw [appOK_iff (by simp [encH]) (by simp)]
 simp [maxLen,encH]; omega
theorem appHs1 {k:Nat} {v:V} (h:k≤10000):appOK Tryz.prog 60 k [[v]] = true:=by
 rw [appOK_iff (by simp) (by simp)]
 simp [maxLen]; omega
theorem lRef7 (b:Beach) (hb:Valid b) (p:List (List Int)) (hp:PlanOf b p) (t:List Int) (ht:listedGo t b.winds = true) (r:Nat) (hr:(r:Int) < b.rows) (γ7:Nat) (A:List (List V)):∀ (d q c γ:Nat),q + d = b.places.toNat→∃ c' γ',∀ n m,d < m→loopA (execA Tryz.prog ann kn (n+1000) 89) lb25_7 (ann 89 (fstR lb25_7)) m ⟨c,[(1,true,lli p),(2,true,li t),(3,true,.ptr 0 3 0 0),(7,true,pv 87 γ7 A),(8,true,i r),(9,true,pv 83 γ ((refRow b p t r q).map encH)),(10,true,i q)],⟨[],(3,0,.box (cellsB b)) :: (pl 83 γ 59 ((refRow b p t r q).map encH) ++ pl 87 γ7 60 A)⟩⟩ =
  some (.exit 2,⟨c',[(24,true,.bool false),(23,true,i b.places),(22,true,.ptr 0 3 0 2),(21,true,i b.places),(1,true,lli p),(2,true,li t),(3,true,.ptr 0 3 0 0),(7,true,pv 87 γ7 A),(8,true,i r),(9,true,pv 83 γ' ((refRow b p t r b.places.toNat).map encH)),(10,true,i b.places)],⟨[],(3,0,.box (cellsB b)) :: (pl 83 γ' 59 ((refRow b p t r b.places.toNat).map encH) ++ pl 87 γ7 60 A)⟩⟩)
 | 0,q,c,γ,hd=>by
  have hpc:=hb.pl
  have h1:q = b.places.toNat:=by omega
  have h2:b.places = (q:Int):=by omega
  rw [← h1]
  refine ⟨c,γ,fun n m hm=>?_⟩
  obtain ⟨m,rfl⟩:∃ m',m = m' + 1:=⟨m - 1,by omega⟩
  rw [loopA_succ]
  simp [cellsB,h2,kl_pl2,kl_pl3,kl_pl7,get_pl2,get_pl5,get_pl6]
 | d + 1,q,c,γ,hd=>by
  have hpc:=hb.pl
  have hla:=hb.la
  have hlw:=listed_len ht
  have hwi:=hb.wi
  have hq:(q:Int) < b.places:=by omega
  have hw:=wrapS (k:=q) (by omega)
  have qq:=lRef11 b hb p hp t ht r q hr hq γ7 γ c A ((refRow b p t r q).map encH) t.length 0 (c + 1) (by omega) (by omega)
  have qq:=fun n m=>qq n (m + 100) (by omega)
  have h0:refH b p t r q 0 = ⟨0,0,0⟩:=rfl
  rw [h0] at qq
  obtain ⟨c',γ',ih⟩:=lRef7 b hb p hp t ht r hr γ7 A d (q + 1) (c + 2) (c + 1) (by omega)
  rw [refRow_succ] at ih
  have happ:=appH1 (k:=(refRow b p t r q).length) (x:=refH b p t r q t.length) (by simp [refRow]; omega)
  refine ⟨c',γ',fun n m hm=>?_⟩
  obtain ⟨m,rfl⟩:∃ m',m = m' + 1:=⟨m - 1,by omega⟩
  have ih:=ih n m (by omega)
  generalize refH b p t r q t.length = Y at *
  generalize refRow b p t r b.places.toNat = RR at *
  generalize refRow b p t r q = R at *
  rw [loopA_succ]
  simp only [cellsB] at qq ih ⊢
  simp [encH] at qq ih happ
  simp [hq,hw,encH,qq,happ,put_eq,kl_pl2,kl_pl3,kl_pl7,get_pl2,get_pl5,get_pl6,get_pl4,kl_pl4,ih]
theorem lRef3 (b:Beach) (hb:Valid b) (p:List (List Int)) (hp:PlanOf b p) (t:List Int) (ht:listedGo t b.winds = true):∀ (d r c γ:Nat),r + d = b.rows.toNat→∃ fr c' γ',getF fr 7 = some (true,pv 87 γ' ((refP b p t b.rows.toNat).map encHs))∧∀ n m,d < m→loopA (execA Tryz.prog ann kn (n+1200) 89) lb25_3 (ann 89 (fstR lb25_3)) m ⟨c,[(1,true,lli p),(2,true,li t),(3,true,.ptr 0 3 0 0),(7,true,pv 87 γ ((refP b p t r).map encHs)),(8,true,i r)],⟨[],(3,0,.box (cellsB b)) :: pl 87 γ 60 ((refP b p t r).map encHs)⟩⟩ =
  some (.exit 0,⟨c',fr,⟨[],(3,0,.box (cellsB b)) :: pl 87 γ' 60 ((refP b p t b.rows.toNat).map encHs)⟩⟩)
 | 0,r,c,γ,hd=>by
  have hro:=hb.ro
  have h1:r = b.rows.toNat:=by omega
  have h2:b.rows = (r:Int):=by omega
  rw [← h1]
  refine ⟨?fr,c,γ,?g1,fun n m hm=>?g2⟩
  case g2 =>
   obtain ⟨m,rfl⟩:∃ m',m = m' + 1:=⟨m - 1,by omega⟩
   rw [loopA_succ]
   simp [cellsB,h2]
   rfl
  case g1=>simp
 | d + 1,r,c,γ,hd=>by
  have hro:=hb.ro
  have hpc:=hb.pl
  have hr:(r:Int) < b.rows:=by omega
  have hw:=wrapS (k:=r) (by omega)
  obtain ⟨c1,γ1,q⟩:=lRef7 b hb p hp t ht r hr γ ((refP b p t r).map encHs) b.places.toNat 0 c 0 (by omega)
  have q:=fun n m=>q n (m + 100) (by omega)
  have h0:refRow b p t r 0 = []:=rfl
  rw [h0] at q
  obtain ⟨fr,c',γ',e1,ih⟩:=lRef3 b hb p hp t ht d (r + 1) (c1 + 1) c1 (by omega)
  rw [refP_succ] at ih
  have happ:=appHs1 (k:=(refP b p t r).length) (v:=.list false ((refRow b p t r b.places.toNat).map encH)) (by simp [refP]; omega)
  have hne:refRow b p t r b.places.toNat ≠ []:=by
   intro e
   have:=congrArg List.length e
   simp [refRow] at this
   omega
  have hsl:sl ((refRow b p t r b.places.toNat).map encH) = .list false ((refRow b p t r b.places.toNat).map encH):=by
   obtain ⟨x,L,e⟩:=List.exists_cons_of_ne_nil hne
   rw [e]; rfl
  refine ⟨fr,c',γ',e1,fun n m hm=>?_⟩
  obtain ⟨m,rfl⟩:∃ m',m = m' + 1:=⟨m - 1,by omega⟩
  have ih:=ih n m (by omega)
  generalize refP b p t b.rows.toNat = FF at ih ⊢
  generalize refRow b p t r b.places.toNat = RR at ih q happ hsl
  have htl:∀ o,toldL 0 83 o (pl 87 γ 60 ((refP b p t r).map encHs)) = pl 87 γ 60 ((refP b p t r).map encHs):=fun o=>toldL_pl3 (by decide) _ _ _ (by simp [encHs,encH])
  rw [loopA_succ]
  simp only [cellsB] at ih q ⊢
  simp [encHs] at ih q happ
  simp [hr,hw,encHs,q,ih,happ,htl,hsl,kl_pl2,kl_pl3,kl_pl7,get_pl2,get_pl5,get_pl6]
theorem kRefPlay (n:Nat) (b:Beach) (hb:Valid b) (p:List (List Int)) (hp:PlanOf b p) (t:List Int) (ht:listedGo t b.winds = true):callK Tryz.prog kn (execA Tryz.prog ann kn (n+1400)) 25 [.agg (cellsB b),lli p,li t] = some (sl ((refP b p t b.rows.toNat).map encHs)):=by
 rw [callK_of rfl,call0_eq Tryz.func25 b25 rfl (by simp [cellsB,encI,encL,encP])]
 have hro:=hb.ro
 obtain ⟨fr,c',γ',e1,q⟩:=lRef3 b hb p hp t ht b.rows.toNat 0 1 0 (by omega)
 have q:=fun n m=>q n (m + 100) (by omega)
 have h0:refP b p t 0 = []:=rfl
 rw [h0] at q
 generalize refP b p t b.rows.toNat = FF at *
 simp only [cellsB] at q ⊢
 simp at q
 simp [c25,argFr,q,e1]
 simp [encHs,encH]
theorem refP_eq {b:Beach} (hb:Valid b) {p:List (List Int)} (hp:PlanOf b p) {t:List Int} (ht:listedGo t b.winds = true):refP b p t b.rows.toNat = playP b p t b.rows.toNat:=by
 unfold refP playP
 apply List.map_congr_left
 intro r hr
 have hr:=List.mem_range.1 hr
 unfold refRow rowP
 apply List.map_congr_left
 intro q _
 exact (hours_eq hb hp ht (by omega) q).symm
end Go.Proofs.Tryz.Op
