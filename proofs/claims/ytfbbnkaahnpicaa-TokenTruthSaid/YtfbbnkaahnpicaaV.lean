/- Contracts: Contains for numbers, Clone, and a book without some lines. No condition. -/
import Derived.Test.YtfbbnkaahnpicaaZ1
import Derived.Test.YtfbbnkaahnpicaaT3
import Derived.Test.YtfbbnkaahnpicaaFz
import Derived.Test.YtfbbnkaahnpicaaZ2
import Derived.Test.YtfbbnkaahnpicaaUz
import Derived.Test.YtfbbnkaahnpicaaLa
open Go Go.Pg Go.Proofs
namespace Go.Proofs.Try.Op
set_option maxRecDepth 100000
set_option linter.unusedSimpArgs false
theorem l119 (xs:List Int) (x:Int) (c:Nat):∀ (d j:Nat),j + d = xs.length→xs.length≤90→∃ z:Int,0≤z∧∀ n m,d < m →
  loopA (execA Try.prog ann kn (n+50) 19) lb119_2 (some ([0,1,3,7,8],[3])) m ⟨c,[(0,true,.list false (xs.map encI)),(1,true,i x),(7,true,i xs.length),(8,true,i j)],⟨[],[]⟩⟩ =
   if x ∈ xs.drop j then some (.ret,⟨c,[(4,true,i z),(17,true,i z),(5,true,i z)],⟨[],[]⟩⟩)
   else some (.exit 0,⟨c,[(9,true,.bool false),(0,true,.list false (xs.map encI)),(1,true,i x),(7,true,i xs.length),(8,true,i xs.length)],⟨[],[]⟩⟩)
 | 0,j,hd,hl=>by
  have hj:j = xs.length:=by omega
  subst hj
  refine ⟨0,by omega,fun n m hm=>?_⟩
  obtain ⟨m,rfl⟩:∃ m',m = m' + 1:=⟨m - 1,by omega⟩
  rw [List.drop_length,if_neg (by simp)]
  simp [loopA_succ]
  done
 | d + 1,j,hd,hl=>by
  have hj:j < xs.length:=by omega
  have hw:IntKind.i64.wrap ((j:Int) + 1) = (j:Int) + 1:=wrap_i64 (by omega) (by omega)
  obtain ⟨z,hz,ih⟩:=l119 xs x c d (j + 1) (by omega) hl
  rw [List.drop_eq_getElem_cons hj]
  by_cases h:x = xs[j]
  ·refine ⟨j,by omega,fun n m hm=>?_⟩
   obtain ⟨m,rfl⟩:∃ m',m = m' + 1:=⟨m - 1,by omega⟩
   rw [if_pos (List.mem_cons.2 (.inl h)),loopA_succ]
   simp [hj,hw,encI,h]
   done
  ·refine ⟨z,hz,fun n m hm=>?_⟩
   obtain ⟨m,rfl⟩:∃ m',m = m' + 1:=⟨m - 1,by omega⟩
   have ih:=ih n m (by omega)
   have e:(x ∈ xs[j] :: xs.drop (j + 1)) = (x ∈ xs.drop (j + 1)):=propext ⟨fun hh=>(List.mem_cons.1 hh).resolve_left h,fun hh=>List.mem_cons.2 (.inr hh)⟩
   rw [loopA_succ]
   simp only [e]
   simp at ih
   simp [hj,hw,encI,h,ih]
   done
theorem k109 (n:Nat) (xs:List Int) (x:Int) (hl:xs.length≤90):callK Try.prog kn (execA Try.prog ann kn (n+300)) 109 [.list false (xs.map encI),i x] = some (.bool (decide (x ∈ xs))):=by
 have q119:∃ z:Int,decide (0≤z) = decide (x ∈ xs)∧∀ n,callK Try.prog kn (execA Try.prog ann kn (n+150)) 119 [.list false (xs.map encI),i x] = some (i z):=by
  obtain ⟨z,hz,h⟩:=l119 xs x 0 xs.length 0 (by omega) hl
  by_cases hm:x ∈ xs
  ·refine ⟨z,by simp [hz,hm],fun n=>?_⟩
   have h:=h (n + 95) (n + 145) (by omega)
   rw [callK_of rfl,call0_eq Try.func119 b119 rfl (by simp [encI])]
   rw [List.drop_zero,if_pos hm] at h
   simp at h
   simp [c119,argFr,h]
   done
  ·refine ⟨-1,by simp [hm],fun n=>?_⟩
   have h:=h (n + 95) (n + 145) (by omega)
   rw [callK_of rfl,call0_eq Try.func119 b119 rfl (by simp [encI])]
   rw [List.drop_zero,if_neg hm] at h
   simp at h
   simp [c119,argFr,h]
   done
 obtain ⟨z,hz,q⟩:=q119
 rw [callK_of rfl,call0_eq Try.func109 b109 rfl (by simp [encI])]
 simp [c109,argFr,encI,q,hz]
 done
theorem nil28:evBin Try.prog .eql 28 .nil .nil = some (.bool true):=by kernel_rfl
theorem some28 (e:List V) (es:List (List V)):evBin Try.prog .eql 28 (.list false (e :: es)) .nil = some (.bool false):=by
 have h:sliceT Try.prog 28 = true:=by kernel_rfl
 show (if sliceT Try.prog 28 = true then (isNilS (.list false (e :: es))).map V.bool else none) = _
 rw [if_pos h]
 rfl
theorem o87 (n:Nat) (xs:List Int) (hl:xs.length≤90):callO1 Try.prog (execA Try.prog ann kn (n+100)) 87 [sl (xs.map encI)] = some ⟨.vec 3 (xs.map encI),none⟩:=by
 rw [callO1_eq Try.func87 b87 rfl (by simp [encI])]
 cases xs with
 | nil =>
  simp [c87,argFr,retO_eq,sl,nil28]
  exact rO_pv (R:=28) (T:=3) (by kernel_rfl) (by simp) _ _ _ 0 0 [] rfl rfl
 | cons x xs =>
  have ha:appOK Try.prog 3 0 ((x :: xs).map encI) = true:=by
   rw [appOK_iff (by simp) (by simp)]
   simp [maxLen,encI] at hl ⊢
   omega
  simp only [sl,List.map_cons] at ha ⊢
  simp [c87,argFr,retO_eq,ha,some28]
  rw [show xs.length + 1 = (encI x :: xs.map encI).length by simp]
  exact rO_pv (P:=Try.prog) (R:=28) (T:=3) (by kernel_rfl) (by simp) _ _ _ 7 0 (encI x :: xs.map encI) (by simp) (by simp [encI])
def wlGo (out:List Int):Nat→List Line→List Line
 | _,[]=>[]
 | j,l :: r=>if (j:Int) ∈ out then wlGo out (j + 1) r else l :: wlGo out (j + 1) r
theorem l86a (b:Book) (hl:b.lines.length≤30) (out:List Int) (ho:out.length≤90) (Z:List V) (g4 g5:Nat):∀ (d j:Nat) (acc:List Line) (c γ:Nat),j + d = b.lines.length→acc.length≤j→g5 < c→∃ (c' γ':Nat),c≤c'∧∀ n m,d < m →
  loopA (execA Try.prog ann kn (n+400) 69) lb86_4 (some ([1,2,4,5,17,18,19],[2,4,5,32,65])) m ⟨c,[(1,true,.list false (out.map encI)),(2,true,.ptr 0 2 0 0),(4,true,.ptr 0 4 g4 0),(5,true,.ptr 0 5 g5 0),(17,true,.list false (b.lines.map encL)),(18,true,i b.lines.length),(19,true,i j)],
   ⟨[],(2,0,.box (cellsT b)) :: (4,g4,.box Z) :: (5,g5,.box [i b.chairs,i b.coin,i b.box,pv 32 γ (acc.map encL),.nil]) :: pl 32 γ 96 (acc.map encL)⟩⟩ =
   some (.exit 0,⟨c',[(20,true,.bool false),(1,true,.list false (out.map encI)),(2,true,.ptr 0 2 0 0),(4,true,.ptr 0 4 g4 0),(5,true,.ptr 0 5 g5 0),(17,true,.list false (b.lines.map encL)),(18,true,i b.lines.length),(19,true,i b.lines.length)],
   ⟨[],(2,0,.box (cellsT b)) :: (4,g4,.box Z) :: (5,g5,.box [i b.chairs,i b.coin,i b.box,pv 32 γ' ((acc ++ wlGo out j (b.lines.drop j)).map encL),.nil]) :: pl 32 γ' 96 ((acc ++ wlGo out j (b.lines.drop j)).map encL)⟩⟩)
 | 0,j,acc,c,γ,hd,ha,hg=>by
  have hj:j = b.lines.length:=by omega
  subst hj
  refine ⟨c,γ,Nat.le_refl _,fun n m hm=>?_⟩
  obtain ⟨m,rfl⟩:∃ m',m = m' + 1:=⟨m - 1,by omega⟩
  simp [loopA_succ,cellsT,wlGo]
  done
 | d + 1,j,acc,c,γ,hd,ha,hg=>by
  have hj:j < b.lines.length:=by omega
  have hw:IntKind.i64.wrap ((j:Int) + 1) = (j:Int) + 1:=wrap_i64 (by omega) (by omega)
  have q109:=fun n=>k109 n out j ho
  rw [List.drop_eq_getElem_cons hj]
  simp only [wlGo]
  by_cases h:(j:Int) ∈ out
  ·rw [decide_eq_true h] at q109
   obtain ⟨c',γ',i0,ih⟩:=l86a b hl out ho Z g4 g5 d (j + 1) acc (c + 1) γ (by omega) (by omega) (by omega)
   refine ⟨c',γ',by omega,fun n m hm=>?_⟩
   obtain ⟨m,rfl⟩:∃ m',m = m' + 1:=⟨m - 1,by omega⟩
   have ih:=ih n m (by omega)
   rw [if_pos h,loopA_succ]
   simp only [cellsT] at ih ⊢
   simp at ih
   simp [hj,hw,encL,encI,q109,ih]
   done
  ·rw [decide_eq_false h] at q109
   obtain ⟨c',γ',i0,ih⟩:=l86a b hl out ho Z g4 g5 d (j + 1) (acc ++ [b.lines[j]]) (c + 1 + 1) (c + 1) (by omega) (by simp; omega) (by omega)
   refine ⟨c',γ',by omega,fun n m hm=>?_⟩
   obtain ⟨m,rfl⟩:∃ m',m = m' + 1:=⟨m - 1,by omega⟩
   have ih:=ih n m (by omega)
   have happ:appOK Try.prog 96 acc.length [[.int .i64 b.lines[j].k,.int .i64 b.lines[j].c,.int .i64 b.lines[j].t]] = true:=by
    rw [appOK_iff (by simp) (by simp)]
    simp [maxLen]
    omega
   have hg1:g5 < c + 1:=by omega
   have hg2:g5 < c + 1 + 1:=by omega
   rw [if_neg h,loopA_succ]
   simp only [cellsT] at ih ⊢
   simp [encL] at ih
   simp [hj,hw,encL,encI,q109,happ,plK,apK,hg,hg1,hg2,ih]
   done
def less (out:List Int) (a:Int):Nat:=out.countP fun x=>decide (x < a)
theorem l86c (b:Book) (out:List Int) (ho:out.length≤90) (x:Count) (C:List (List V)) (Z:List V) (g4 g5 g9 j0 nc:Nat) (c:Nat) (Y:List V) (M:Level) (hM2:M.get 2 = none) (hM4:M.get 4 = none) (hM5:M.get 5 = none) (hM9:M.get 9 = none)
  (hMk:kl 32 (kl 65 [] (M.get 65)) (M.get 32) = M):∀ (d j:Nat) (g:Nat),j + d = out.length→g≤j→∀ n m,d < m →
  loopA (execA Try.prog ann kn (n+100) 69) lb86_14 (some ([1,4,5,9,10,36,37,38,42,43,44],[2,4,5,9,32,65])) m ⟨c,[(1,true,.list false (out.map encI)),(4,true,.ptr 0 4 g4 0),(5,true,.ptr 0 5 g5 0),(9,true,.ptr 0 9 g9 0),(10,true,i g),(36,true,.list false C),(37,true,i nc),(38,true,i j0),(42,true,.list false (out.map encI)),(43,true,i out.length),(44,true,i j)],
   ⟨[],(2,0,.box (cellsT b)) :: (4,g4,.box Z) :: (5,g5,.box Y) :: (9,g9,.box (encC x)) :: M⟩⟩ =
   some (.exit 4,⟨c,[(45,true,.bool false),(1,true,.list false (out.map encI)),(4,true,.ptr 0 4 g4 0),(5,true,.ptr 0 5 g5 0),(9,true,.ptr 0 9 g9 0),(10,true,i ((g + less (out.drop j) x.a:Nat):Int)),(36,true,.list false C),(37,true,i nc),(38,true,i j0),(42,true,.list false (out.map encI)),(43,true,i out.length),(44,true,i out.length)],
   ⟨[],(2,0,.box (cellsT b)) :: (4,g4,.box Z) :: (5,g5,.box Y) :: (9,g9,.box (encC x)) :: M⟩⟩)
 | 0,j,g,hd,hg,n,m,hm=>by
  have hj:j = out.length:=by omega
  subst hj
  obtain ⟨m,rfl⟩:∃ m',m = m' + 1:=⟨m - 1,by omega⟩
  have e:less (out.drop out.length) x.a = 0:=by rw [List.drop_length]; rfl
  rw [e]
  simp [loopA_succ,cellsT,encC,hM2,hM4,hM5,hM9,hMk]
  done
 | d + 1,j,g,hd,hg,n,m,hm=>by
  have hj:j < out.length:=by omega
  have hw:IntKind.i64.wrap ((j:Int) + 1) = (j:Int) + 1:=wrap_i64 (by omega) (by omega)
  have hwg:IntKind.i64.wrap ((g:Int) + 1) = ((g + 1:Nat):Int):=by rw [wrap_i64 (by omega) (by omega)]; rfl
  obtain ⟨m,rfl⟩:∃ m',m = m' + 1:=⟨m - 1,by omega⟩
  rw [List.drop_eq_getElem_cons hj,loopA_succ]
  by_cases h:out[j] < x.a
  ·have e:less (out[j] :: out.drop (j + 1)) x.a = less (out.drop (j + 1)) x.a + 1:=by
    unfold less; rw [List.countP_cons_of_pos (by simpa using h)]
   rw [e,show g + (less (out.drop (j + 1)) x.a + 1) = g + 1 + less (out.drop (j + 1)) x.a by omega]
   have ih:=l86c b out ho x C Z g4 g5 g9 j0 nc c Y M hM2 hM4 hM5 hM9 hMk d (j + 1) (g + 1) (by omega) (by omega) n m (by omega)
   generalize less (out.drop (j + 1)) x.a = y at ih ⊢
   simp only [cellsT,encC] at ih ⊢
   simp at ih
   simp [hj,hw,hwg,encI,h,hM2,hM4,hM5,hM9,hMk,ih]
   done
  ·have e:less (out[j] :: out.drop (j + 1)) x.a = less (out.drop (j + 1)) x.a:=by
    unfold less; rw [List.countP_cons_of_neg (by simpa using h)]
   rw [e]
   have ih:=l86c b out ho x C Z g4 g5 g9 j0 nc c Y M hM2 hM4 hM5 hM9 hMk d (j + 1) g (by omega) (by omega) n m (by omega)
   generalize less (out.drop (j + 1)) x.a = y at ih ⊢
   simp only [cellsT,encC] at ih ⊢
   simp at ih
   simp [hj,hw,encI,h,hM2,hM4,hM5,hM9,hMk,ih]
   done
def wc (out:List Int) (x:Count):Count:=⟨x.a - (less out x.a:Nat),x.lo,x.hi⟩
theorem l86b (b:Book) (hcn:b.counts.length≤30) (hca:∀ x ∈ b.counts,0≤x.a∧x.a≤1000) (out:List Int) (ho:out.length≤90) (L:List Line) (Z:List V) (g4 g5:Nat) (γ:Nat):∀ (d j:Nat) (acc:List Count) (c γ2:Nat),j + d = b.counts.length→acc.length≤j→g5 < c→∃ (c' γ':Nat),c≤c'∧∀ n m,d < m →
  loopA (execA Try.prog ann kn (n+200) 69) lb86_10 (some ([1,4,5,36,37,38],[2,4,5,32,65])) m ⟨c,[(1,true,.list false (out.map encI)),(4,true,.ptr 0 4 g4 0),(5,true,.ptr 0 5 g5 0),(36,true,.list false (b.counts.map encC)),(37,true,i b.counts.length),(38,true,i j)],
   ⟨[],(2,0,.box (cellsT b)) :: (4,g4,.box Z) :: (5,g5,.box [i b.chairs,i b.coin,i b.box,pv 32 γ (L.map encL),pv 65 γ2 (acc.map encC)]) :: (pl 32 γ 96 (L.map encL) ++ pl 65 γ2 99 (acc.map encC))⟩⟩ =
   some (.exit 2,⟨c',[(39,true,.bool false),(1,true,.list false (out.map encI)),(4,true,.ptr 0 4 g4 0),(5,true,.ptr 0 5 g5 0),(36,true,.list false (b.counts.map encC)),(37,true,i b.counts.length),(38,true,i b.counts.length)],
   ⟨[],(2,0,.box (cellsT b)) :: (4,g4,.box Z) :: (5,g5,.box [i b.chairs,i b.coin,i b.box,pv 32 γ (L.map encL),pv 65 γ' ((acc ++ (b.counts.drop j).map (wc out)).map encC)]) :: (pl 32 γ 96 (L.map encL) ++ pl 65 γ' 99 ((acc ++ (b.counts.drop j).map (wc out)).map encC))⟩⟩)
 | 0,j,acc,c,γ2,hd,ha,hg=>by
  have hj:j = b.counts.length:=by omega
  subst hj
  refine ⟨c,γ2,Nat.le_refl _,fun n m hm=>?_⟩
  obtain ⟨m,rfl⟩:∃ m',m = m' + 1:=⟨m - 1,by omega⟩
  simp [loopA_succ,cellsT,kl_pl2]
  done
 | d + 1,j,acc,c,γ2,hd,ha,hg=>by
  have hj:j < b.counts.length:=by omega
  have hw:IntKind.i64.wrap ((j:Int) + 1) = (j:Int) + 1:=wrap_i64 (by omega) (by omega)
  have hx:=hca _ (List.getElem_mem hj)
  have hle:less out b.counts[j].a≤out.length:=List.countP_le_length
  have hws:IntKind.i64.wrap (b.counts[j].a - (less out b.counts[j].a:Nat)) = b.counts[j].a - (less out b.counts[j].a:Nat):=wrap_i64 (by omega) (by omega)
  obtain ⟨c',γ',i0,ih⟩:=l86b b hcn hca out ho L Z g4 g5 γ d (j + 1) (acc ++ [wc out b.counts[j]]) (c + 1 + 1) (c + 1) (by omega) (by simp; omega) (by omega)
  have q:=l86c b out ho b.counts[j] (b.counts.map encC) Z g4 g5 c j b.counts.length (c + 1) [i b.chairs,i b.coin,i b.box,pv 32 γ (L.map encL),pv 65 γ2 (acc.map encC)] (pl 32 γ 96 (L.map encL) ++ pl 65 γ2 99 (acc.map encC))
   (get_pl6 (by decide) (by decide) _ _ _ _ _ _) (get_pl6 (by decide) (by decide) _ _ _ _ _ _) (get_pl6 (by decide) (by decide) _ _ _ _ _ _) (get_pl6 (by decide) (by decide) _ _ _ _ _ _) (kl_pl2 (by decide) _ _ _ _ _ _) out.length 0 0 (by omega) (by omega)
  rw [List.drop_eq_getElem_cons hj,List.map_cons]
  rw [List.append_assoc,List.singleton_append] at ih
  generalize acc ++ wc out b.counts[j] :: (b.counts.drop (j + 1)).map (wc out) = fin at ih ⊢
  refine ⟨c',γ',by omega,fun n m hm=>?_⟩
  obtain ⟨m,rfl⟩:∃ m',m = m' + 1:=⟨m - 1,by omega⟩
  have ih:=ih n m (by omega)
  have q:=q (n + 90) (n + 190) (by omega)
  have happ:appOK Try.prog 99 acc.length [[.int .i64 (b.counts[j].a - (less out b.counts[j].a:Nat)),.int .i64 b.counts[j].lo,.int .i64 b.counts[j].hi]] = true:=by
   rw [appOK_iff (by simp) (by simp)]
   simp [maxLen]
   omega
  have hg1:g5 < c + 1:=by omega
  have hg2:g5 < c + 1 + 1:=by omega
  rw [List.drop_zero,Nat.zero_add] at q
  simp only [wc] at ih
  generalize less out b.counts[j].a = y at *
  rw [loopA_succ]
  simp only [cellsT] at ih q ⊢
  simp [encC] at ih q
  simp [hj,hw,hws,encC,encI,q,happ,plK,apK,hg,hg1,hg2,kl_pl3,get_pl2,get_pl4,get_pl6,kl_pl4,ih]
  done
def woB (b:Book) (out:List Int):Book:={ b with lines:=wlGo out 0 b.lines,counts:=b.counts.map (wc out) }
theorem k86 (n:Nat) (b:Book) (hl:b.lines.length≤30) (hcn:b.counts.length≤30) (hca:∀ x ∈ b.counts,0≤x.a∧x.a≤1000) (out:List Int) (ho:out.length≤90):callK Try.prog kn (execA Try.prog ann kn (n+600)) 86 [.agg (cellsT b),.list false (out.map encI)] = some (.agg (cellsR (woB b out))):=by
 rw [callK_of rfl,call0_eq Try.func86 b86 rfl (by simp [cellsT,encL,encC,encI])]
 obtain ⟨c1,γ1,i1,h1⟩:=l86a b hl out ho [i 0,i 0,i 0,.nil,.nil] 1 2 b.lines.length 0 [] 3 0 (by omega) (by simp) (by omega)
 obtain ⟨c2,γ2,i2,h2⟩:=l86b b hcn hca out ho (wlGo out 0 b.lines) [i 0,i 0,i 0,.nil,.nil] 1 2 γ1 b.counts.length 0 [] c1 0 (by omega) (by simp) (by omega)
 have h1:=h1 (n + 193) (n + 593) (by omega)
 have h2:=h2 (n + 392) (n + 592) (by omega)
 simp only [List.nil_append,List.drop_zero] at h1 h2
 unfold woB
 generalize wlGo out 0 b.lines = L at *
 generalize b.counts.map (wc out) = C at *
 simp only [cellsT,cellsR,List.nil_append,List.drop_zero,List.map_nil,pv_nil,pl_nil] at h1 h2 ⊢
 simp at h1 h2
 have hc2:1 < c2:=by omega
 simp [c86,argFr,h1,h2,kl_pl3,get_pl2,hc2]
 rw [closeX_pv (T:=96) 2 _ 32 γ1 (L.map encL) (by simp [get_pl5]),closeX_pv (T:=99) 2 _ 65 γ2 (C.map encC) (by simp [get_pl2])]
 simp [encL,encC]
 done
@[simp] theorem cells_130:Try.prog.cellsOf 130 = 1:=by kernel_rfl
@[simp] theorem bytes_130:Try.prog.bytesOf 130 = 8:=by kernel_rfl
@[simp] theorem zero_130:zeroC Try.prog 130 = some [Go.Pg.V.raw Go.Value.nilFunc]:=by kernel_rfl
@[simp] theorem zok_130:zOk Try.prog 130 = true:=by kernel_rfl
@[simp] theorem whole_130 (cs:List V):whole Try.prog 130 cs = cs[0]?:=by kernel_rfl
@[simp] theorem part_130 (cs:List V) (o:Nat):partV Try.prog 130 cs o = cs[o]?:=by kernel_rfl
@[simp] theorem sr_87:sliceR Try.prog 87 = true:=by kernel_rfl
def firstS (f:Nat→Option (List Int)):Nat→Nat→Option (List Int)
 | 0,_=>none
 | e + 1,j=>match f j with
  | some x=>some x
  | none=>firstS f e (j + 1)
def srch (b:Book):Nat→Nat→List Int→Option (List Int)
 | 0,_,out=>if possP (woB b out) = true then some out else none
 | m + 1,fr,out=>firstS (fun j=>srch b m (j + 1) (out ++ [(j:Int)])) (b.lines.length - m - fr) fr
theorem wl_sub {out:List Int}:∀ {ls:List Line} {j:Nat},(wlGo out j ls).length≤ls.length∧∀ l ∈ wlGo out j ls,l ∈ ls
 | [],_=>⟨Nat.le_refl _,fun l h=>h⟩
 | l :: r,j=>by
  obtain ⟨h1,h2⟩:=wl_sub (out:=out) (ls:=r) (j:=j + 1)
  unfold wlGo
  split
  ·exact ⟨by simp; omega,fun x hx=>by simp [h2 x hx]⟩
  ·refine ⟨by simp; omega,fun x hx=>?_⟩
   rcases List.mem_cons.1 hx with rfl | hx
   ·simp
   ·simp [h2 x hx]
theorem wo_fair {b:Book} (h:Fair b) (out:List Int):Fair (woB b out) where
 ch1:=h.ch1
 ch4:=h.ch4
 ln:=Nat.le_trans wl_sub.1 h.ln
 cn:=by simpa [woB] using h.cn
 co1:=h.co1
 co2:=h.co2
 bx1:=h.bx1
 bx2:=h.bx2
 lok:=List.all_eq_true.2 fun x hx=>List.all_eq_true.1 h.lok x (wl_sub.2 x hx)
structure Lv38 (b:Book) (f:List Int) (L:Level):Prop where
 p1:L.get 1 = some (0,.box (cellsT b))
 p5:L.get 5 = some (1,.box [sl (f.map encI)])
 p6:L.get 6 = some (2,.box [.fn 85 [] [.ptr 0 5 1 0,.ptr 0 1 0 0,.ptr 0 6 2 0]])
 st:∀ t:St,1≤t.up.length→shutLv t L = L
theorem Lv38.put {b:Book} {f:List Int} {L:Level} (h:Lv38 b f L) (out:List Int):Lv38 b out ((5,1,.box [sl (out.map encI)]) :: L) where
 p1:=by simpa using h.p1
 p5:=by simp
 p6:=by simpa using h.p6
 st:=fun t ht=>by simp [h.st t ht]
theorem takeI_vec {t c l q γ n:Nat} {fr:Fr} {s:St} {U:TypeId} {es:List (List V)} (h:getF fr t = some (true,.vec l q γ n)) (hg:s.get l q = some (γ,.vec U es)) (hn:n≤es.length) (hc:γ < c):takeI (some t) ⟨c,fr,s⟩ = ⟨c,(t,true,.list false (es.take n)) :: fr,s.put l q γ .dead⟩:=by
 have hb:(Nat.beq γ γ && Nat.ble n es.length && Nat.blt γ c) = true:=by simp [Nat.blt_eq,hn,hc,Nat.beq_eq]
 unfold takeI
 simp only [h,hg,hb]
def Rec85 (b:Book) (M m:Nat):Prop:=∀ (rs:List Level) (f:List Int) (L:Level) (out:List Int) (fr0 c:Nat),Lv38 b f L→(∀ t:St,rs.length + 1≤t.up.length→rs.map (shutLv t) = rs)→2 < c→out.length + m≤b.lines.length→fr0≤b.lines.length →
 ∃ L' f' c',Lv38 b f' L'∧c≤c'∧(∀ x,srch b m fr0 out = some x→f' = x) ∧
  ∀ (n dd:Nat) (fr:Fr),finS Try.prog (some dd) fr Try.f85.results.toList (execA Try.prog ann kn (n + M) Try.f85.ntmps c85 ⟨c,argFr 0 [sl (out.map encI),i fr0,i m,.ptr 0 5 1 0,.ptr 0 1 0 0,.ptr 0 6 2 0],⟨L :: rs,[]⟩⟩) =
   finU (some dd) fr c' (.bool (srch b m fr0 out).isSome) (unsnoc (L' :: rs))
theorem k85_0 (b:Book) (hb:Fair b) (hca:∀ x ∈ b.counts,0≤x.a∧x.a≤1000):Rec85 b 1500 0:=by
 intro rs f L out fr0 c hL hst hc ho hfr
 have hl:=hb.ln
 have hcn:=hb.cn
 have p1:=hL.p1
 have p5:=hL.p5
 have hs:=(hL.put out).st
 refine ⟨(5,1,.box [sl (out.map encI)]) :: L,out,c,hL.put out,Nat.le_refl _,fun x hx=>?_,fun n dd fr=>?_⟩
 ·unfold srch at hx
  split at hx
  ·cases hx; rfl
  ·cases hx
 ·have q86:=fun n=>k86 n b (by omega) (by omega) hca out (by omega)
  have q84:=fun n=>k84 n (woB b out) (wo_fair hb out)
  have hsr:(srch b 0 fr0 out).isSome = possP (woB b out):=by
   unfold srch
   cases possP (woB b out) <;> rfl
  rw [hsr]
  generalize possP (woB b out) = z at q84 ⊢
  have hlv:∀ t:St,rs.length + 1≤t.up.length→rs.map (shutLv t) = rs:=hst
  simp only [show Try.f85.ntmps = 39 from rfl]
  generalize woB b out = w at q86 q84
  have h1c:1 < c:=by omega
  simp only [cellsT,cellsR] at q86 q84 p1
  simp [c85,argFr,p1,p5,q86,q84,Level.put,encL,encC,encI,h1c]
  rw [hL.st _ (by simp),hst _ (by simp)]
  done
theorem l85 (b:Book) (hb:Fair b) (W m:Nat) (hrec:Rec85 b (W + 1500) m) (rs:List Level) (hst:∀ t:St,rs.length + 1≤t.up.length→rs.map (shutLv t) = rs) (out:List Int) (ho:out.length + (m + 1)≤b.lines.length) :
  ∀ (e j:Nat) (f:List Int) (L D:Level) (c:Nat),b.lines.length - m - j = e→j≤b.lines.length→Lv38 b f L→2 < c→(D = []∨∃ g,D = [(30,g,.dead)]) →
  ∃ (L' D':Level) (f':List Int) (c':Nat) (x:Fr),Lv38 b f' L'∧c≤c'∧(∀ y,firstS (fun j=>srch b m (j + 1) (out ++ [(j:Int)])) e j = some y→f' = y) ∧
   ∀ n k,e < k→loopA (execA Try.prog ann kn (n + W + 1550) 39) lb85_5 (some ([0,2,4,5,10],[16,30,33])) k ⟨c,[(0,true,sl (out.map encI)),(2,true,i ((m + 1:Nat):Int)),(4,true,.ptr 0 1 0 0),(5,true,.ptr 0 6 2 0),(10,true,i j)],⟨L :: rs,D⟩⟩ =
    match firstS (fun j=>srch b m (j + 1) (out ++ [(j:Int)])) e j with
    | some _=>some (.ret,⟨c',[(9,true,.bool true)],⟨L' :: rs,[]⟩⟩)
    | none=>some (.exit 0,⟨c',x,⟨L' :: rs,D'⟩⟩)
 | 0,j,f,L,D,c,he,hj,hL,hc,hD=>by
  have hl:=hb.ln
  have p1:=hL.p1
  have hw:IntKind.i64.wrap ((b.lines.length:Int) - ((m + 1:Nat):Int)) = (b.lines.length:Int) - ((m + 1:Nat):Int):=wrap_i64 (by omega) (by omega)
  have hnot:¬ ((j:Int)≤(b.lines.length:Int) - ((m + 1:Nat):Int)):=by omega
  simp only [cellsT] at p1
  generalize ((m + 1:Nat):Int) = mi at *
  refine ⟨L,D,f,c,?_,hL,Nat.le_refl _,fun y hy=>(by cases hy),fun n k hk=>?_⟩
  rotate_left
  ·obtain ⟨k,rfl⟩:∃ k',k = k' + 1:=⟨k - 1,by omega⟩
   rcases hD with rfl | ⟨g,rfl⟩
   ·simp [loopA_succ,firstS,p1,hw,hnot]
    rfl
   ·simp [loopA_succ,firstS,p1,hw,hnot]
 | e + 1,j,f,L,D,c,he,hj,hL,hc,hD=>by
  have hl:=hb.ln
  have p1:=hL.p1
  have p6:=hL.p6
  have hw:IntKind.i64.wrap ((b.lines.length:Int) - ((m + 1:Nat):Int)) = (b.lines.length:Int) - ((m + 1:Nat):Int):=wrap_i64 (by omega) (by omega)
  have hle:(j:Int)≤(b.lines.length:Int) - ((m + 1:Nat):Int):=by omega
  have hw1:IntKind.i64.wrap ((j:Int) + 1) = (j:Int) + 1:=wrap_i64 (by omega) (by omega)
  have hw2:IntKind.i64.wrap (((m + 1:Nat):Int) - 1) = (m:Int):=by rw [wrap_i64 (by omega) (by omega)]; omega
  simp only [cellsT] at p1
  have q87:=fun n=>o87 n out (by omega)
  have happ:appOK Try.prog 3 out.length [[.int .i64 j]] = true:=by
   rw [appOK_iff (by simp) (by simp)]
   simp [maxLen]
   omega
  have hga:(out.map encI ++ [[V.int .i64 (j:Int)]]) = (out ++ [(j:Int)]).map encI:=by simp [encI]
  have hlen:(out ++ [(j:Int)]).length = out.length + 1:=by simp
  generalize hout:out ++ [(j:Int)] = out' at *
  obtain ⟨loc,hloc⟩:∃ loc:Level,loc = [(30,c + 1,Res.dead),(30,c + 1,.vec 3 (out'.map encI)),(30,c,.vec 3 (out.map encI))]:=⟨_,rfl⟩
  have hcl:∀ (t:St) (l:List Int),shutRes t (.vec 3 (l.map encI)) = .vec 3 (l.map encI):=fun t l=>shut_vec fun e he v hv=>by
   obtain ⟨x,_,rfl⟩:=List.mem_map.1 he
   simp only [encI,List.mem_cons,List.not_mem_nil,or_false] at hv
   rw [hv]; rfl
  have hst':∀ t:St,(rs ++ [loc]).length + 1≤t.up.length→(rs ++ [loc]).map (shutLv t) = rs ++ [loc]:=fun t ht=>by
   rw [List.map_append,hst t (by simp at ht; omega),hloc]
   simp [shutLv_cons,hcl]
  obtain ⟨L1,f1,c1,hL1,hc1,hf1,q⟩:=hrec (rs ++ [loc]) f L out' (j + 1) (c + 1 + 1) hL hst' (by omega) (by omega) (by omega)
  have q2:∀ n fr,ca2 (envA Try.prog ann kn (n + W + 1545)) (some 38) ⟨c + 1 + 1,fr,⟨L :: rs,loc⟩⟩ 85 [sl (out'.map encI),i ((j + 1:Nat):Int),i m,.ptr 0 5 1 0,.ptr 0 1 0 0,.ptr 0 6 2 0] = some ⟨c1,(38,true,.bool (srch b m (j + 1) out').isSome) :: fr,⟨L1 :: rs,loc⟩⟩:=fun n fr=>by
   have q:=q (n + 45) 38 fr
   rw [show n + 45 + (W + 1500) = n + W + 1545 by omega] at q
   rw [cf_open Try.func85 b85 rfl (by simp),List.cons_append,q,← List.cons_append,unsnoc_snoc]
   rfl
  have hti:=fun fr h=>takeI_vec (t:=33) (c:=c + 1 + 1) (l:=rs.length + 1) (q:=30) (γ:=c + 1) (n:=out.length + 1) (fr:=fr) (s:=⟨L :: rs,[(30,c + 1,.vec 3 (out'.map encI)),(30,c,.vec 3 (out.map encI))]⟩) (U:=3) (es:=out'.map encI) h (by simp) (by simp; omega) (by omega)
  have htk:(out'.map encI).take (out.length + 1) = out'.map encI:=List.take_of_length_le (by simp; omega)
  have hsl:sl (out'.map encI) = .list false (out'.map encI):=by
   cases out' with
   | nil=>simp at hlen
   | cons y ys=>rfl
  rw [hsl] at q2
  simp only [hloc] at q2
  cases hz:srch b m (j + 1) out' with
  | some y =>
   rw [hz] at q2
   simp only [Option.isSome_some] at q2
   have hy:firstS (fun j=>srch b m (j + 1) (out ++ [(j:Int)])) (e + 1) j = some y:=by
    simp only [firstS]
    rw [hout,hz]
   refine ⟨L1,[],f1,c1,[],hL1,by omega,fun y' hy'=>?_,fun n k hk=>?_⟩
   ·rw [hy] at hy'
    cases hy'
    exact hf1 _ hz
   ·obtain ⟨k,rfl⟩:∃ k',k = k' + 1:=⟨k - 1,by omega⟩
    rw [loopA_succ,hy]
    generalize ((m + 1:Nat):Int) = mi at *
    simp at q2
    rcases hD with rfl | ⟨g,rfl⟩
    ·simp [p1,p6,hw,hle,hw1,hw2,q87,happ,plK,apK,encI,hga,hti,htk,q2]
     done
    ·simp [p1,p6,hw,hle,hw1,hw2,q87,happ,plK,apK,encI,hga,hti,htk,q2]
     done
  | none =>
   rw [hz] at q2
   simp only [Option.isSome_none] at q2
   have hy:firstS (fun j=>srch b m (j + 1) (out ++ [(j:Int)])) (e + 1) j = firstS (fun j=>srch b m (j + 1) (out ++ [(j:Int)])) e (j + 1):=by
    simp only [firstS]
    rw [hout,hz]
   obtain ⟨L2,D2,f2,c2,x2,hL2,hc2,hf2,ih⟩:=l85 b hb W m hrec rs hst out ho e (j + 1) f1 L1 [(30,c + 1,.dead)] c1 (by omega) (by omega) hL1 (by omega) (.inr ⟨_,rfl⟩)
   rw [hy]
   refine ⟨L2,D2,f2,c2,x2,hL2,by omega,hf2,fun n k hk=>?_⟩
   obtain ⟨k,rfl⟩:∃ k',k = k' + 1:=⟨k - 1,by omega⟩
   have ih:=ih n k (by omega)
   rw [loopA_succ]
   generalize firstS (fun j=>srch b m (j + 1) (out ++ [(j:Int)])) e (j + 1) = r at ih ⊢
   generalize ((m + 1:Nat):Int) = mi at *
   simp at q2 ih
   rcases hD with rfl | ⟨g,rfl⟩
   ·simp [p1,p6,hw,hle,hw1,hw2,q87,happ,plK,apK,encI,hga,hti,htk,q2,ih]
    done
   ·simp [p1,p6,hw,hle,hw1,hw2,q87,happ,plK,apK,encI,hga,hti,htk,q2,ih]
    done
theorem k85 (b:Book) (hb:Fair b) (hca:∀ x ∈ b.counts,0≤x.a∧x.a≤1000):∀ m,Rec85 b (100 * m + 1500) m
 | 0=>k85_0 b hb hca
 | m + 1=>by
  intro rs f L out fr0 c hL hst hc ho hfr
  have hl:=hb.ln
  obtain ⟨L1,D1,f1,c1,x,hL1,hc1,hf1,hlp⟩:=l85 b hb (100 * m) m (k85 b hb hca m) rs hst out ho (b.lines.length - m - fr0) fr0 f L [] c rfl hfr hL hc (.inl rfl)
  have hsr:srch b (m + 1) fr0 out = firstS (fun j=>srch b m (j + 1) (out ++ [(j:Int)])) (b.lines.length - m - fr0) fr0:=rfl
  rw [hsr]
  refine ⟨L1,f1,c1,hL1,hc1,hf1,fun n dd fr=>?_⟩
  have hlp:=hlp (n + 44) (n + 100 * m + 1594) (by omega)
  have hm1:¬ (((m + 1:Nat):Int) = 0):=by omega
  rw [show n + 44 + 100 * m + 1550 = n + 100 * m + 1594 by omega] at hlp
  rw [show n + (100 * (m + 1) + 1500) = n + 100 * m + 1600 by omega]
  simp only [show Try.f85.ntmps = 39 from rfl]
  generalize firstS (fun j=>srch b m (j + 1) (out ++ [(j:Int)])) (b.lines.length - m - fr0) fr0 = r at hlp ⊢
  generalize ((m + 1:Nat):Int) = mi at *
  have hs1:=hL1.st
  cases r with
  | some y =>
   simp at hlp
   simp [c85,argFr,hm1,hlp]
   rw [hs1 _ (by simp),hst _ (by simp)]
   done
  | none =>
   simp at hlp
   simp [c85,argFr,hm1,hlp]
   rw [hs1 _ (by simp),hst _ (by simp)]
   done
@[simp] theorem exec_label {P:Program} {A:Ann} {kn:CF0} {n N l:Nat} {st:XS}:execA P A kn (n + 1) N (.label l) st = some (.normal,st):=rfl
def lv3 (b:Book) (f:List Int):Level:=[(1,0,.box (cellsT b)),(5,1,.box [sl (f.map encI)]),(6,2,.box [.fn 85 [] [.ptr 0 5 1 0,.ptr 0 1 0 0,.ptr 0 6 2 0]])]
theorem lv3_ok (b:Book) (f:List Int):Lv38 b f (lv3 b f) where
 p1:=by simp [lv3]
 p5:=by simp [lv3]
 p6:=by simp [lv3]
 st:=fun t ht=>by
  have e0:¬ 0 = t.up.length:=by omega
  obtain ⟨up,loc⟩:=t
  simp only at e0
  simp [lv3,cellsT,e0]
def leaveP (b:Book):Option (List Int):=firstS (fun m=>srch b m 0 []) (b.lines.length + 1) 0
theorem l38 (b:Book) (hb:Fair b) (hca:∀ x ∈ b.counts,0≤x.a∧x.a≤1000):∀ (e j:Nat) (f:List Int) (c:Nat),j + e = b.lines.length + 1→2 < c →
  ∃ (f':List Int) (c' h:Nat) (hb jf:V),c≤c'∧(h = 20∨h = 25)∧(∀ y,firstS (fun m=>srch b m 0 []) e j = some y→f' = y)∧∀ n k,e < k →
   loopA (execA Try.prog ann kn (n + 2500) 30) lb38_9 (some ([5,6,7,18,19],[1,5,6])) k ⟨c,[(5,true,.ptr 0 5 1 0),(6,true,.ptr 0 6 2 0),(7,true,.bool false),(18,true,i ((b.lines.length + 1:Nat):Int)),(19,true,i j)],⟨[],lv3 b f⟩⟩ =
    some (.exit 0,⟨c',[(h,true,hb),(5,true,.ptr 0 5 1 0),(6,true,.ptr 0 6 2 0),(7,true,.bool (firstS (fun m=>srch b m 0 []) e j).isSome),(18,true,i ((b.lines.length + 1:Nat):Int)),(19,true,jf)],⟨[],lv3 b f'⟩⟩)
 | 0,j,f,c,hd,hc=>by
  have hnot:¬ ((j:Int) < ((b.lines.length + 1:Nat):Int)):=by omega
  generalize ((b.lines.length + 1:Nat):Int) = N at *
  refine ⟨f,c,20,.bool false,i j,Nat.le_refl _,.inl rfl,fun y hy=>(by cases hy),fun n k hk=>?_⟩
  obtain ⟨k,rfl⟩:∃ k',k = k' + 1:=⟨k - 1,by omega⟩
  simp [loopA_succ,firstS,lv3,hnot]
  done
 | e + 1,j,f,c,hd,hc=>by
  have hl:=hb.ln
  have hlt:(j:Int) < ((b.lines.length + 1:Nat):Int):=by omega
  have hw:IntKind.i64.wrap ((j:Int) + 1) = (j:Int) + 1:=wrap_i64 (by omega) (by omega)
  obtain ⟨L1,f1,c1,hL1,hc1,hf1,q⟩:=k85 b hb hca j [] f (lv3 b f) [] 0 c (lv3_ok b f) (fun t _=>rfl) hc (by simp; omega) (by omega)
  have p1:=hL1.p1
  have p5:=hL1.p5
  have p6:=hL1.p6
  have q2:∀ n fr,ca2 (envA Try.prog ann kn (n + 2493)) (some 24) ⟨c,fr,⟨[],lv3 b f⟩⟩ 85 [.nil,i 0,i j,.ptr 0 5 1 0,.ptr 0 1 0 0,.ptr 0 6 2 0] = some ⟨c1,(24,true,.bool (srch b j 0 []).isSome) :: fr,⟨[],L1⟩⟩:=fun n fr=>by
   have q:=q (n + 993 - 100 * j) 24 fr
   rw [show n + 993 - 100 * j + (100 * j + 1500) = n + 2493 by omega] at q
   rw [cf_open Try.func85 b85 rfl (by simp)]
   have hs:sl (List.map encI []) = .nil:=rfl
   rw [hs] at q
   simp only [Int.natCast_zero,List.nil_append] at q ⊢
   rw [q]
   rfl
  cases hz:srch b j 0 [] with
  | some y =>
   rw [hz] at q2
   have hy:firstS (fun m=>srch b m 0 []) (e + 1) j = some y:=by
    simp only [firstS]
    rw [hz]
   rw [hy]
   refine ⟨f1,c1,25,.bool true,i j,hc1,.inr rfl,fun y' h=>?_,fun n k hk=>?_⟩
   ·cases h
    exact hf1 _ hz
   ·obtain ⟨k,rfl⟩:∃ k',k = k' + 1:=⟨k - 1,by omega⟩
    generalize ((b.lines.length + 1:Nat):Int) = N at *
    rw [loopA_succ]
    simp only [lv3] at q2 ⊢
    simp at q2
    simp [hlt,hw,p1,p5,p6,q2]
    done
  | none =>
   rw [hz] at q2
   have hy:firstS (fun m=>srch b m 0 []) (e + 1) j = firstS (fun m=>srch b m 0 []) e (j + 1):=by
    simp only [firstS]
    rw [hz]
   obtain ⟨f2,c2,h,hb2,jf,hc2,hh,hf2,ih⟩:=l38 b hb hca e (j + 1) f1 c1 (by omega) (by omega)
   rw [hy]
   refine ⟨f2,c2,h,hb2,jf,by omega,hh,hf2,fun n k hk=>?_⟩
   obtain ⟨k,rfl⟩:∃ k',k = k' + 1:=⟨k - 1,by omega⟩
   have ih:=ih n k (by omega)
   generalize (firstS (fun m=>srch b m 0 []) e (j + 1)).isSome = r at ih ⊢
   generalize ((b.lines.length + 1:Nat):Int) = N at *
   rw [loopA_succ]
   simp only [lv3] at q2 ih ⊢
   simp at q2 ih
   simp [hlt,hw,p1,p5,p6,q2,ih]
   done
def leaveV (b:Book):V:=if checkP b = 0 then (match leaveP b with
 | some y=>.tup [sl (y.map encI),i 0]
 | none=>.tup [.nil,i 10]) else .tup [.nil,i (checkP b)]
theorem k38 (n:Nat) (b:Book):callK Try.prog kn (execA Try.prog ann kn (n+2700)) 38 [.agg (cellsT b)] = some (leaveV b):=by
 rw [callK_of rfl,call0_eq Try.func38 b38 rfl (by simp [cellsT,encL,encC])]
 have q55:=fun n=>k55 n b
 unfold leaveV
 by_cases h0:checkP b = 0
 ·have hb:=fair_of h0
  have hl:=hb.ln
  have hf:faultB b = 0:=by rw [← check_eq]; exact h0
  obtain ⟨_,_,_,_,_,_,_,_,_,hcok,_⟩:=fault0 hf
  have hca:∀ x ∈ b.counts,0≤x.a∧x.a≤1000:=fun x hx=>by
   have:=List.all_eq_true.1 hcok x hx
   simp only [countOk,inB,Bool.and_eq_true,decide_eq_true_eq] at this
   omega
  rw [h0] at q55
  rw [if_pos h0]
  obtain ⟨f',c',h,hb2,jf,i0,hh,hf',q⟩:=l38 b hb hca (b.lines.length + 1) 0 [] 3 (by omega) (by omega)
  have q:=q (n + 188) (n + 2688) (by omega)
  have hw:IntKind.i64.wrap ((b.lines.length:Int) + 1) = ((b.lines.length + 1:Nat):Int):=by rw [wrap_i64 (by omega) (by omega)]; rfl
  have hP:leaveP b = firstS (fun m=>srch b m 0 []) (b.lines.length + 1) 0:=rfl
  rw [← hP] at q hf'
  generalize ((b.lines.length + 1:Nat):Int) = N at *
  generalize leaveP b = r at *
  have hs:sl (List.map encI []) = V.nil:=rfl
  simp only [cellsT,lv3,hs] at q55 q ⊢
  cases r with
  | some y =>
   have:=hf' y rfl
   subst this
   simp at q
   rcases hh with rfl | rfl <;> simp [c38,argFr,q55,hw,q,encL,encC,encI]
   done
  | none =>
   simp at q
   rcases hh with rfl | rfl <;> simp [c38,argFr,q55,hw,q,encL,encC,encI]
   done
 ·have e:decide (checkP b = 0) = false:=by simpa using h0
  rw [if_neg h0]
  generalize checkP b = A at *
  simp only [cellsT] at q55 ⊢
  simp [c38,argFr,q55,e,encL,encC]
  done
def optN:Option Nat→Int
 | some x=>x
 | none=>-1
def beforeB:List Int→List Int→Bool
 | x :: xs,y :: ys=>if x = y then beforeB xs ys else decide (x < y)
 | [],_ :: _=>true
 | _,[]=>false
theorem before_nil (xs:List Int):beforeB xs [] = false:=by cases xs <;> rfl
def shortB (xs ys:List Int):Bool:=decide (xs.length < ys.length) || (decide (xs.length = ys.length) && beforeB xs ys)
end Go.Proofs.Try.Op
