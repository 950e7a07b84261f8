/- The truths of a beach, one after another: what is gone through, and who goes through it. No condition. -/
import Derived.Test.YtkemmiljbaneoaaW3
import Derived.Test.YtkemmiljbaneoaaFz
open Go Go.Pg Go.Proofs Go.Wind
namespace Go.Wind
def dfsW (b:Beach) (out:List Int):List (List Int)→List Int→List (List Int)
 | [],p=>if rightGo p out b.notes 0 = true then [p] else []
 | l :: r,p=>l.flatMap fun x=>dfsW b out r (p ++ [x])
def runG {α β:Type} (step:α→β→α × Bool):α→List β→α × Bool
 | a,[]=>(a,true)
 | a,t :: ts=>if (step a t).2 = true then runG step (step a t).1 ts else ((step a t).1,false)
theorem runG_append {α β:Type} (step:α→β→α × Bool):∀ (a:α) (l r:List β),runG step a (l ++ r) = if (runG step a l).2 = true then runG step (runG step a l).1 r else runG step a l
 | a,[],r=>by simp [runG]
 | a,t :: l,r=>by
  simp only [List.cons_append,runG]
  by_cases h:(step a t).2 = true
  ·simp only [h,if_true]; exact runG_append step _ l r
  ·simp only [h,if_false,Bool.false_eq_true]
theorem dfsW_eq (b:Beach) (out:List Int):∀ (ws:List (List Int)) (p:List Int),dfsW b out ws p = ((prods ws).map (p ++ ·)).filter fun t=>rightGo t out b.notes 0
 | [],p=>by
  simp only [dfsW,prods,List.map_cons,List.map_nil,List.append_nil,List.filter_cons,List.filter_nil]
 | l :: r,p=>by
  simp only [dfsW,prods]
  induction l with
  | nil=>rfl
  | cons x l ih =>
   rw [List.flatMap_cons,List.flatMap_cons,ih,dfsW_eq b out r (p ++ [x]),List.map_append,List.filter_append,List.map_map]
   congr 2
   apply List.map_congr_left
   intro t _
   simp
end Go.Wind
namespace Go.Proofs.Try.Op
set_option maxRecDepth 100000
set_option linter.unusedSimpArgs false
@[simp] theorem envA_cy {P:Program} {A:Ann} {kn:CF0} {n:Nat}:(envA P A kn n).cy = yldX (execA P A kn n):=rfl
def Stays (rs:List Level):Prop:=∀ t:St,rs.length + 1≤t.up.length→rs.map (shutLv t) = rs
structure Lt (b:Beach) (out:List Int) (γ0 g3 g4 g5 g9:Nat) (t:List Int) (L:Level):Prop where
 p3:L.get 3 = some (g3,.box [.yld 0 rkey γ0])
 p4:L.get 4 = some (g4,.box [.vec 1 9 g9 b.winds.length])
 p5:L.get 5 = some (g5,.box [.fn 103 [] [.ptr 1 4 g4 0,.ref (cellsB b),.ref [li out],.ptr 1 3 g3 0,.ptr 1 5 g5 0]])
 p9:L.get 9 = some (g9,.vec 3 (t.map encI))
 st:∀ s:St,2≤s.up.length→shutLv s L = L
 b9:g9 < γ0 + 4
theorem put_eq0 (L:Level) (k γ:Nat) (r:Res):Level.put L k γ r = (k,γ,r) :: L:=rfl
theorem stays_more {rs:List Level} {loc:Level} (h:Stays rs) (hl:∀ t:St,rs.length + 1≤t.up.length→shutLv t loc = loc):Stays (rs ++ [loc]):=by
 intro t ht
 have ht':rs.length + 1 + 1≤t.up.length:=by simpa using ht
 simp only [List.map_append,List.map_cons,List.map_nil]
 rw [h t (by omega),hl t (by omega)]
theorem stays_set {L1 L2:Level} {rs:List Level} (h:Stays (L1 :: rs)) (h2:∀ t:St,2≤t.up.length→shutLv t L2 = L2):Stays (L2 :: rs):=by
 intro t ht
 have:=h t ht
 simp only [List.map_cons,List.cons.injEq] at this ⊢
 exact ⟨h2 t (by simp at ht; omega),this.2⟩
theorem shut_vecI (t:St) (T:TypeId) (l:List Int):shutRes t (.vec T (l.map encI)) = .vec T (l.map encI):=by
 refine shut_vec fun e he v hv=>?_
 obtain ⟨x,_,rfl⟩:=List.mem_map.1 he
 simp only [encI,List.mem_cons,List.not_mem_nil,or_false] at hv
 rcases hv with rfl; rfl
theorem encI_set (l:List Int) (k:Nat) (x:Int):(l.set k x).map encI = (l.map encI).set k (encI x):=List.map_set
theorem Lt.set {b:Beach} {out:List Int} {γ0 g3 g4 g5 g9:Nat} {t:List Int} {L:Level} (h:Lt b out γ0 g3 g4 g5 g9 t L) {k:Nat} (x:Int):Lt b out γ0 g3 g4 g5 g9 (t.set k x) ((9,g9,.vec 3 ((t.map encI).set k (encI x))) :: L) where
 p3:=by simpa using h.p3
 p4:=by simpa using h.p4
 p5:=by simpa using h.p5
 p9:=by simp [List.map_set]
 st:=by
  intro s hs
  rw [shutLv_cons,h.st s hs,← encI_set,shut_vecI]
 b9:=h.b9
def StepOK {α:Type} (b:Beach) (Lv:Bool→α→Level→Prop) (step:α→List Int→α × Bool) (γ0 N0:Nat):Prop :=
 ∀ (a:α) (L L1:Level) (rest:List Level) (loc:Level) (c:Nat) (fr:Fr) (t:List Int) (g9:Nat),Lv true a L→γ0 + 1 < c→listedGo t b.winds = true→L1.get 9 = some (g9,.vec 3 (t.map encI))→Stays (L1 :: (rest ++ [loc])) →
  ∃ L' c',Lv (step a t).2 (step a t).1 L'∧c≤c'∧∀ n,yldX (execA Try.prog ann kn (n + N0)) 0 rkey γ0 [.vec 1 9 g9 b.winds.length] ⟨c,fr,⟨L :: L1 :: rest,loc⟩⟩ = some (.bool (step a t).2,⟨c',fr,⟨L' :: L1 :: rest,loc⟩⟩)
theorem take_set {β:Type} {l p:List β} {n:Nat} {x:β} (h:l.take n = p) (hl:n < l.length):(l.set n x).take (n + 1) = p ++ [x]:=by
 rw [List.take_succ_eq_append_getElem (by simpa using hl),List.take_set_of_le (Nat.le_refl _),h]
 simp
theorem take_less {β:Type} {l p:List β} {n:Nat} {x:β} (h:l.take (n + 1) = p ++ [x]) (hp:p.length = n):l.take n = p:=by
 have:l.take n = (l.take (n + 1)).take n:=by rw [List.take_take]; congr 1; omega
 rw [this,h,← hp]
 simp
end Go.Proofs.Try.Op
/- The walk through the truths of a beach. No condition. -/
open Go Go.Pg Go.Proofs Go.Wind
namespace Go.Wind
theorem listed_snoc {ws:List (List Int)} {p:List Int} {k:Nat} (h:listedGo p (ws.take k) = true) (hk:k < ws.length) {x:Int} (hx:x ∈ ws[k]):listedGo (p ++ [x]) (ws.take (k + 1)) = true:=by
 have hl:=listed_len h
 rw [List.length_take] at hl
 refine listed_of (by simp; omega) fun j h1 h2=>?_
 rw [List.getElem_take]
 by_cases hj:j < p.length
 ·rw [List.getElem_append_left hj]
  have:=listed_at h j hj (by rw [List.length_take]; omega)
  rwa [List.getElem_take] at this
 ·have:j = k:=by simp at h1; omega
  subst this
  rw [List.getElem_append_right (by omega)]
  simpa using hx
end Go.Wind
namespace Go.Proofs.Try.Op
set_option maxRecDepth 100000
set_option linter.unusedSimpArgs false
section
variable {α:Type} {b:Beach} {out:List Int} {Lv:Bool→α→Level→Prop} {step:α→List Int→α × Bool} {γ0 N0:Nat}
def RecT (b:Beach) (out:List Int) (Lv:Bool→α→Level→Prop) (step:α→List Int→α × Bool) (γ0 g3 g4 g5 g9 M k:Nat) (ws:List (List Int)):Prop :=
 ∀ (p:List Int),p.length = k→listedGo p (b.winds.take k) = true→∀ (a:α) (L L1:Level) (rs:List Level) (c dd:Nat) (fr:Fr) (t:List Int),Lv true a L→Lt b out γ0 g3 g4 g5 g9 t L1→Stays (L1 :: rs)→γ0 + 4 < c→t.length = b.winds.length→t.take k = p →
  ∃ L' L1' c' t',Lv (runG step a (dfsW b out ws p)).2 (runG step a (dfsW b out ws p)).1 L'∧Lt b out γ0 g3 g4 g5 g9 t' L1'∧c≤c'∧t'.length = b.winds.length∧t'.take k = p ∧
   ∀ n,finS Try.prog (some dd) fr Try.f103.results.toList (execA Try.prog ann kn (n + M) 44 c103 ⟨c,argFr 0 [i k,.ptr 1 4 g4 0,.ref (cellsB b),.ref [li out],.ptr 1 3 g3 0,.ptr 1 5 g5 0],⟨L :: L1 :: rs,[]⟩⟩) = finU (some dd) fr c' (.bool (runG step a (dfsW b out ws p)).2) (unsnoc (L' :: L1' :: rs))
theorem lTr (hlv:∀ g a L,Lv g a L→∀ t:St,1≤t.up.length→shutLv t L = L) (g3 g4 g5 g9 W k:Nat) (hkl:k < b.winds.length) (h5:b.winds.length≤100) (ws:List (List Int)) (p:List Int) (hp:p.length = k) (hpl:listedGo p (b.winds.take k) = true)
  (hrec:RecT b out Lv step γ0 g3 g4 g5 g9 (W + 2000) (k + 1) ws) (rs:List Level) (xs:List Int) (hxs:xs = b.winds[k]) (hlen:xs.length≤100) :
  ∀ (e j:Nat) (a:α) (L L1:Level) (c:Nat) (t:List Int),j + e = xs.length→Lv true a L→Lt b out γ0 g3 g4 g5 g9 t L1→Stays (L1 :: rs)→γ0 + 4 < c→t.length = b.winds.length→t.take k = p →
  ∃ (fr0:Fr) (L' L1':Level) (c':Nat) (t':List Int),Lv (runG step a ((xs.drop j).flatMap fun x=>dfsW b out ws (p ++ [x]))).2 (runG step a ((xs.drop j).flatMap fun x=>dfsW b out ws (p ++ [x]))).1 L'∧Lt b out γ0 g3 g4 g5 g9 t' L1'∧c≤c'∧t'.length = b.winds.length∧t'.take k = p ∧
   ∀ n m,e < m→loopA (execA Try.prog ann kn (n + W + 2054) 44) lb103_4 (ann 44 (fstR lb103_4)) m ⟨c,[(0,true,i k),(1,true,.ptr 1 4 g4 0),(5,true,.ptr 1 5 g5 0),(28,true,li xs),(29,true,i xs.length),(30,true,i j)],⟨L :: L1 :: rs,[]⟩⟩ =
    if (runG step a ((xs.drop j).flatMap fun x=>dfsW b out ws (p ++ [x]))).2 = true then some (.exit 0,⟨c',fr0,⟨L' :: L1' :: rs,[]⟩⟩) else some (.ret,⟨c',[(7,true,.bool false)],⟨L' :: L1' :: rs,[]⟩⟩)
 | 0,j,a,L,L1,c,t,hd,hL,hL1,hst,hc,htl,htk=>by
  have:j = xs.length:=by omega
  subst this
  refine ⟨?fr,L,L1,c,t,by simpa [runG] using hL,hL1,by omega,htl,htk,fun n m hm=>?g⟩
  case g =>
   obtain ⟨m,rfl⟩:∃ m',m = m' + 1:=⟨m - 1,by omega⟩
   rw [List.drop_length,loopA_succ]
   simp [runG]
   rfl
 | e + 1,j,a,L,L1,c,t,hd,hL,hL1,hst,hc,htl,htk=>by
  have hL1o:=hL1
  obtain ⟨p3,p4,p5,p9,pst,b9⟩:=hL1
  have hj:j < xs.length:=by omega
  have hw:=wrapS (k:=j) (by omega)
  have hwk:=wrapS (k:=k) (by omega)
  have hxm:xs[j] ∈ b.winds[k]:=by rw [← hxs]; exact List.getElem_mem hj
  have hg9:g9 < c:=by omega
  have hL1':=Lt.set hL1o (k:=k) xs[j]
  obtain ⟨L2,L3,c2,t2,r1,r2,r3,r4,r5,r6⟩:=hrec (p ++ [xs[j]]) (by simp [hp]) (listed_snoc hpl hkl hxm) a L _ (rs ++ [[]]) c 41 [(40,true,i ((k:Int) + 1)),(39,true,i k),(38,true,.fn 103 [] [.ptr 1 4 g4 0,.ref (cellsB b),.ref [li out],.ptr 1 3 g3 0,.ptr 1 5 g5 0]),
   (0,true,i k),(1,true,.ptr 1 4 g4 0),(5,true,.ptr 1 5 g5 0),(28,true,li xs),(29,true,i xs.length),(30,true,i j)] (t.set k xs[j]) hL hL1' (by have:=stays_more (loc:=[]) (stays_set hst hL1'.st) (fun _ _=>rfl); rwa [List.cons_append] at this) (by omega) (by simpa using htl) (take_set htk (by omega))
  have hca:=fun n=>cf_open (A:=ann) (kn:=kn) (n:=n + W + 2046) Try.func103 b103 rfl (args:=[i ((k:Int) + 1),.ptr 1 4 g4 0,.ref (cellsB b),.ref [li out],.ptr 1 3 g3 0,.ptr 1 5 g5 0]) (by simp) (some 41) c [(40,true,i ((k:Int) + 1)),(39,true,i k),(38,true,.fn 103 [] [.ptr 1 4 g4 0,.ref (cellsB b),.ref [li out],.ptr 1 3 g3 0,.ptr 1 5 g5 0]),
   (0,true,i k),(1,true,.ptr 1 4 g4 0),(5,true,.ptr 1 5 g5 0),(28,true,li xs),(29,true,i xs.length),(30,true,i j)] (L :: ((9,g9,.vec 3 ((t.map encI).set k (encI xs[j]))) :: L1) :: rs) []
  have r6':=fun n=>r6 (n + 46)
  have e46:∀ n,n + 46 + (W + 2000) = n + W + 2046:=fun n=>by omega
  simp only [e46] at r6'
  have hcb:=fun n=>by
   have h1:=hca n
   rw [List.cons_append,List.cons_append] at h1
   exact h1.trans ((r6' n).trans (by rw [← List.cons_append,← List.cons_append,unsnoc_snoc]))
  have hfl:(xs.drop j).flatMap (fun x=>dfsW b out ws (p ++ [x])) = dfsW b out ws (p ++ [xs[j]]) ++ (xs.drop (j + 1)).flatMap (fun x=>dfsW b out ws (p ++ [x])):=by
   rw [List.drop_eq_getElem_cons hj,List.flatMap_cons]
  cases hgo:(runG step a (dfsW b out ws (p ++ [xs[j]]))).2 with
  | true =>
   obtain ⟨fr0,L',L1',c',t',i1,i2,i3,i4,i5,ih⟩:=lTr hlv g3 g4 g5 g9 W k hkl h5 ws p hp hpl hrec rs xs hxs hlen e (j + 1) (runG step a (dfsW b out ws (p ++ [xs[j]]))).1 L2 L3 c2 t2 (by omega) (by rwa [hgo] at r1) r2 (stays_set hst r2.st) (by omega) r4 (take_less r5 hp)
   rw [hfl,runG_append,if_pos hgo]
   refine ⟨fr0,L',L1',c',t',i1,i2,by omega,i4,i5,fun n m hm=>?_⟩
   obtain ⟨m,rfl⟩:∃ m',m = m' + 1:=⟨m - 1,by omega⟩
   have ih:=ih n m (by omega)
   have hcb:=hcb n
   rw [hgo] at hcb
   generalize (runG step (runG step a (dfsW b out ws (p ++ [xs[j]]))).1 ((xs.drop (j + 1)).flatMap fun x=>dfsW b out ws (p ++ [x]))).2 = z at ih ⊢
   rw [loopA_succ]
   simp only [cellsB,encI] at hcb p5 ih ⊢
   simp at hcb ih
   simp [hj,hw,hwk,encI,p3,p4,p5,p9,htl,hkl,hg9,put_eq0,hcb,ih]
  | false =>
   rw [hfl,runG_append,if_neg (by simp [hgo])]
   refine ⟨[],L2,L3,c2,t2,r1,r2,by omega,r4,take_less r5 hp,fun n m hm=>?_⟩
   obtain ⟨m,rfl⟩:∃ m',m = m' + 1:=⟨m - 1,by omega⟩
   have hcb:=hcb n
   rw [hgo] at hcb
   rw [if_neg (by simp [hgo]),loopA_succ]
   simp only [cellsB,encI] at hcb p5 ⊢
   simp at hcb
   simp [hj,hw,hwk,encI,p3,p4,p5,p9,htl,hkl,hg9,put_eq0,hcb]
theorem kTr (hb:Valid b) (hout:out.length≤100) (hlv:∀ g a L,Lv g a L→∀ t:St,1≤t.up.length→shutLv t L = L) (hs:StepOK b Lv step γ0 N0) (g3 g4 g5 g9:Nat):∀ (ws:List (List Int)) (k:Nat),b.winds.drop k = ws→k≤b.winds.length→RecT b out Lv step γ0 g3 g4 g5 g9 (N0 + 60 * ws.length + 2000) k ws
 | [],k,hw,hk=>by
  intro p hp hpl a L L1 rs c dd fr t hL hL1 hst hc htl htk
  have hL1o:=hL1
  obtain ⟨p3,p4,p5,p9,pst,b9⟩:=hL1
  have hkn:k = b.winds.length:=by
   have:=congrArg List.length hw
   simp at this
   omega
  have he:p = t:=by rw [← htk,List.take_of_length_le (by omega)]
  subst he
  have hlis:listedGo p b.winds = true:=by rwa [hkn,List.take_length] at hpl
  have q68:=fun n=>kRight n b p out (Valid.notes' hb htl) (by have:=hb.no; omega) hout
  have hki:decide ((k:Int) = (b.winds.length:Int)) = true:=by simp; omega
  have hrs:∀ t:St,rs.length + 2≤t.up.length→rs.map (shutLv t) = rs:=fun t h=>by
   have:=hst t (by simpa using h)
   simp only [List.map_cons,List.cons.injEq] at this
   exact this.2
  simp only [dfsW]
  cases hr:rightGo p out b.notes 0 with
  | false =>
   rw [hr] at q68
   refine ⟨L,L1,c,p,by simpa [runG] using hL,hL1o,by omega,htl,htk,fun n=>?_⟩
   simp only [cellsB] at q68 ⊢
   simp [c103,argFr,encI,encL,encP,p3,p4,p5,p9,htl,hki,q68,hlv _ _ _ hL,pst,hrs,← Nat.add_assoc,runG]
  | true =>
   rw [hr] at q68
   obtain ⟨L',c',s1,s2,s3⟩:=hs a L L1 rs [] c [(21,true,V.vec 1 9 g9 b.winds.length),(20,true,V.yld 0 rkey γ0),(19,true,.bool false),(18,true,.bool false),(17,true,.bool true),(16,true,li out),(15,true,V.vec 1 9 g9 b.winds.length),(14,true,.agg (cellsB b)),(1,true,.ptr 1 4 g4 0),(2,true,.ref (cellsB b)),(3,true,.ref [li out]),(4,true,.ptr 1 3 g3 0)] p g9 hL (by omega) hlis p9 (stays_more hst (fun _ _=>rfl))
   have hrun:runG step a [p] = step a p:=by
    simp only [runG]
    split
    ·rename_i h; rw [← h]
    ·rename_i h; rw [← eq_false_of_ne_true h]
   rw [if_pos rfl,hrun]
   refine ⟨L',L1,c',p,s1,hL1o,by omega,htl,htk,fun n=>?_⟩
   have hl2:=hlv _ _ _ s1
   have s4:=fun n=>s3 (n + 1994)
   simp only [Nat.add_right_comm _ 1994 N0] at s4
   have hcy:∀ E:XE,(cfU [20009,30009] E).cy = E.cy:=fun _=>rfl
   simp only [cellsB] at q68 s4 ⊢
   simp [hcy,s4,hl2,Nat.mul_zero,c103,argFr,encI,encL,encP,p3,p4,p5,p9,htl,hki,q68,hlv _ _ _ hL,pst,hrs,← Nat.add_assoc,runG]
 | l :: ws,k,hw,hk=>by
  intro p hp hpl a L L1 rs c dd fr t hL hL1 hst hc htl htk
  have hL1o:=hL1
  obtain ⟨p3,p4,p5,p9,pst,b9⟩:=hL1
  have hkl:k < b.winds.length:=by
   have:=congrArg List.length hw
   simp at this
   omega
  rw [List.drop_eq_getElem_cons hkl] at hw
  cases hw
  have h5:=hb.hl
  have hx4:=hb.wl _ (List.getElem_mem hkl)
  have hki:decide ((k:Int) = (b.winds.length:Int)) = false:=by simp; omega
  have hrs:∀ t:St,rs.length + 2≤t.up.length→rs.map (shutLv t) = rs:=fun t h=>by
   have:=hst t (by simpa using h)
   simp only [List.map_cons,List.cons.injEq] at this
   exact this.2
  obtain ⟨fr0,L',L1',c',t',i1,i2,i3,i4,i5,i6⟩:=lTr hlv g3 g4 g5 g9 (N0 + 60 * (b.winds.drop (k + 1)).length) k hkl (by omega) (b.winds.drop (k + 1)) p hp hpl (kTr hb hout hlv hs g3 g4 g5 g9 (b.winds.drop (k + 1)) (k + 1) rfl (by omega)) rs _ rfl (by omega) (b.winds[k]).length 0 a L L1 c t (by omega) hL hL1o hst hc htl htk
  rw [List.drop_zero] at i1 i6
  refine ⟨L',L1',c',t',by simpa [dfsW] using i1,i2,by omega,i4,i5,fun n=>?_⟩
  have hl2:=hlv _ _ _ i1
  have pst2:=i2.st
  have hlen:(b.winds[k] :: b.winds.drop (k + 1)).length = (b.winds.drop (k + 1)).length + 1:=rfl
  rw [hlen,show n + (N0 + 60 * ((b.winds.drop (k + 1)).length + 1) + 2000) = n + (N0 + 60 * (b.winds.drop (k + 1)).length) + 2060 by omega]
  have i6:=i6 n (n + (N0 + 60 * (b.winds.drop (k + 1)).length) + 2054) (by omega)
  simp only [dfsW]
  generalize n + (N0 + 60 * (b.winds.drop (k + 1)).length) = n2 at i6 ⊢
  generalize (runG step a (b.winds[k].flatMap fun x=>dfsW b out (b.winds.drop (k + 1)) (p ++ [x]))).2 = z at i6 ⊢
  simp only [cellsB] at i6 ⊢
  cases z <;> (simp at i6; simp [c103,argFr,encI,encL,encP,p3,p4,p5,p9,htl,hki,hkl,pst2,hl2,hrs,i6])
end
end Go.Proofs.Try.Op
/- The loop over the truths; whether there is one. No condition but a valid beach. -/
open Go Go.Pg Go.Proofs Go.Wind
namespace Go.Proofs.Try.Op
set_option maxRecDepth 100000
set_option linter.unusedSimpArgs false
theorem kTruths (n:Nat) (b:Beach) (out:List Int):callK Try.prog kn (execA Try.prog ann kn (n+100)) 79 [.agg (cellsB b),li out] = some (.fn 102 [] [.ref (cellsB b),.ref [li out]]):=by
 rw [callK_of rfl,call0_eq Try.func79 b79 rfl (by simp [cellsB,encI,encL,encP])]
 simp [c79,argFr,cellsB,encI,encL,encP]
section
variable {α:Type} {b:Beach} {out:List Int} {Lv:Bool→α→Level→Prop} {step:α→List Int→α × Bool} {γ0 N0:Nat}
theorem kTruths1 (hb:Valid b) (hout:out.length≤100) (hlv:∀ g a L,Lv g a L→∀ t:St,1≤t.up.length→shutLv t L = L) (hs:StepOK b Lv step γ0 N0) (a:α) (L:Level) (hL:Lv true a L) (fr:Fr) :
  ∃ L' c',Lv (runG step a (dfsW b out b.winds [])).2 (runG step a (dfsW b out b.winds [])).1 L'∧γ0 + 1≤c'∧∀ n,ca2 (envA Try.prog ann kn (n + N0 + 3000)) none ⟨γ0 + 1,fr,⟨[],L⟩⟩ 102 [.yld 0 rkey γ0,.ref (cellsB b),.ref [li out]] = some ⟨c',fr,⟨[],L'⟩⟩:=by
 have h5:=hb.hl
 have hla:=hb.la
 have hwi:=hb.wi
 let L1:Level:=[(3,γ0 + 1,.box [.yld 0 rkey γ0]),(4,γ0 + 3,.box [.vec 1 9 (γ0 + 2) b.winds.length]),
  (5,γ0 + 4,.box [.fn 103 [] [.ptr 1 4 (γ0 + 3) 0,.ref (cellsB b),.ref [li out],.ptr 1 3 (γ0 + 1) 0,.ptr 1 5 (γ0 + 4) 0]]),
  (9,γ0 + 2,.vec 3 ((List.replicate b.winds.length 0).map encI))]
 have hL1:Lt b out γ0 (γ0 + 1) (γ0 + 3) (γ0 + 4) (γ0 + 2) (List.replicate b.winds.length 0) L1:=by
  refine ⟨rfl,rfl,rfl,rfl,fun t ht=>?_,by omega⟩
  have e0:¬ 0 = t.up.length:=by omega
  have e1:¬ 1 = t.up.length:=by omega
  obtain ⟨up,loc⟩:=t
  simp only at e0 e1
  simp only [L1,shutLv_cons,shutLv_nil,shut_vecI]
  simp [e0,e1,cellsB,encI,encL,encP]
 obtain ⟨L',L1',c',t',r1,r2,r3,r4,r5,r6⟩:=kTr hb hout hlv hs (γ0 + 1) (γ0 + 3) (γ0 + 4) (γ0 + 2) b.winds 0 rfl (by omega) [] rfl rfl a L L1 [] (γ0 + 5) 12 [(11,true,.fn 103 [] [.ptr 1 4 (γ0 + 3) 0,.ref (cellsB b),.ref [li out],.ptr 1 3 (γ0 + 1) 0,.ptr 1 5 (γ0 + 4) 0]),(5,true,.ptr 1 5 (γ0 + 4) 0)]
  (List.replicate b.winds.length 0) hL hL1 (by intro t ht; simp only [List.map_cons,List.map_nil,hL1.st t (by simpa using ht)]) (by omega) (by simp) (by simp)
 refine ⟨L',c',r1,by omega,fun n=>?_⟩
 have hl2:=hlv _ _ _ r1
 rw [cf_open Try.func102 b102 rfl (by simp)]
 have hw:IntKind.i64.wrap (b.last + 1) = (b.winds.length:Int):=by rw [wrap_i64 (by omega) (by omega)]; omega
 have m1:b.winds.length * 8≤140737488355328:=by omega
 have m2:b.winds.length≤maxLen:=by unfold maxLen; omega
 have r6:=r6 (n + 995 - 60 * b.winds.length)
 have hca:=cf_open (A:=ann) (kn:=kn) (n:=n + N0 + 2995) Try.func103 b103 rfl (args:=[i ((0:Nat):Int),.ptr 1 4 (γ0 + 3) 0,.ref (cellsB b),.ref [li out],.ptr 1 3 (γ0 + 1) 0,.ptr 1 5 (γ0 + 4) 0]) (by simp) (some 12) (γ0 + 5) [(11,true,.fn 103 [] [.ptr 1 4 (γ0 + 3) 0,.ref (cellsB b),.ref [li out],.ptr 1 3 (γ0 + 1) 0,.ptr 1 5 (γ0 + 4) 0]),(5,true,.ptr 1 5 (γ0 + 4) 0)] [L] L1
 rw [show n + 995 - 60 * b.winds.length + (N0 + 60 * b.winds.length + 2000) = n + N0 + 2995 by omega] at r6
 have hca:=hca.trans (r6.trans rfl)
 generalize n + N0 = n2 at hca ⊢
 have z1:(List.replicate b.winds.length (0:Int)).map encI = List.replicate b.winds.length [V.int IntKind.i64 0]:=by simp [encI]
 simp only [L1,z1,cellsB] at hca ⊢
 simp at hca
 simp [c102,argFr,hw,m1,m2,Nat.add_assoc,hca,hl2]
end
end Go.Proofs.Try.Op
/- The contract of possible. No condition but a valid beach. -/
open Go Go.Pg Go.Proofs Go.Wind
namespace Go.Pg
variable {fr:Fr}
theorem roundE_ret {fr':Fr} {l q γ c N:Nat} {fr0:Fr} {ps:List Tmp} {asg body:Code} {up u:List Level} {loc lc:Level} (h:St.get ⟨up,loc⟩ l q = some (γ,.loop fr0 ps asg body N .busy)) (hu:unsnoc up = some (u,lc)) (hl:l < up.length) (hc:γ < c) :
  roundE fr l q γ (some (.ret,⟨c,fr',⟨up,loc⟩⟩)) = some (.bool false,⟨c,fr,St.put ⟨u.map (shutLv ⟨up,loc⟩),shutLv ⟨up,loc⟩ lc⟩ l q γ (.loop fr0 ps asg body N (.left .ret))⟩):=by
 unfold roundE
 simp only [h,hu]
 have:(Nat.beq γ γ && Nat.blt l up.length && Nat.blt γ c) = true:=by simp [hc,hl]
 rw [this]
 rfl
theorem rE_left {n γ c:Nat} {fr' fr0:Fr} {s:St} {ps:List Tmp} {asg body:Code} {N:Nat} (h:s.get n rkey = some (γ,.loop fr0 ps asg body N (.left .ret))) (hc:γ < c):rE fr n γ (some ⟨c,fr',s⟩) = some (.ret,⟨c,fr,s.put n rkey γ .dead⟩):=by
 unfold rE
 simp only [h]
 have:(Nat.beq γ γ && Nat.blt γ c) = true:=by simpa using hc
 rw [this]
end Go.Pg
namespace Go.Proofs.Try.Op
set_option maxRecDepth 100000
set_option linter.unusedSimpArgs false
noncomputable def frPo (b:Beach) (out:List Int):Fr:=[(7,true,.fn 102 [] [.ref (cellsB b),.ref [li out]]),(6,true,li out),(5,true,.agg (cellsB b)),(1,true,li out),(2,true,.ptr 0 2 0 0),(4,true,.ptr 0 4 1 0)]
noncomputable def bodyPo:Code:=.block 1 (.seq r57_2 .ret)
@[simp] theorem uPo (n:Nat) (st:XS):execA Try.prog ann kn n 9 bodyPo st = execA Try.prog ann kn n 9 (.block 1 (.seq r57_2 .ret)) st:=rfl
structure LvPo (b:Beach) (out:List Int) (g:Bool) (_:Unit) (L:Level):Prop where
 p4:L.get 4 = some (1,.box [.bool (!g)])
 pr:L.get rkey = some (2,.loop (frPo b out) [8] .skip bodyPo 9 (if g = true then .ready else .left .ret))
 st:∀ t:St,1≤t.up.length→shutLv t L = L
theorem stepPo (b:Beach) (out:List Int):StepOK b (LvPo b out) (fun _ _=>((),false)) 2 100:=by
 intro a L L1 rest loc c fr t g9 hL hc ht p9 hst
 obtain ⟨p4,pr,pst⟩:=hL
 have e2:2 < c:=by omega
 have e1:1 < c:=by omega
 rw [if_pos rfl] at pr
 refine ⟨(rkey,2,.loop (frPo b out) [8] .skip bodyPo 9 (.left .ret)) :: (4,1,.box [.bool true]) :: (rkey,2,.loop (frPo b out) [8] .skip bodyPo 9 .busy) :: L,c,⟨?_,?_,?_⟩,Nat.le_refl _,fun n=>?_⟩
 ·simp [rkey]
 ·simp
 ·intro t h
  simp [shutLv_cons,pst t h]
 ·have hun:∀ A:Level,unsnoc (A :: L1 :: (rest ++ [loc])) = some (A :: L1 :: rest,loc):=fun A=>by
   rw [← List.cons_append,← List.cons_append,unsnoc_snoc]
  have hst':=fun t h=>hst t h
  simp only [List.map_cons,List.map_append,List.map_nil,List.cons.injEq] at hst'
  have hsr:∀ t:St,(L1 :: (rest ++ [loc])).length + 1≤t.up.length→(rest.map (shutLv t) = rest∧shutLv t loc = loc):=fun t h=>by
   have:=(hst' t h).2
   exact ⟨List.append_inj_left' this rfl,by simpa using List.append_inj_right' this rfl⟩
  have h1s:∀ t:St,(L1 :: (rest ++ [loc])).length + 1≤t.up.length→shutLv t L1 = L1:=fun t h=>(hst' t h).1
  rw [yld_run (by simpa using pr) rfl e2]
  simp only [putPs,Fr.put,frPo]
  simp
  rw [roundB_normal (fr0:=frPo b out) (ps:=[8]) (asg:=.skip) (body':=bodyPo) (N:=9) (by simpa using pr) e2]
  generalize hB:Res.loop (frPo b out) [8] .skip bodyPo 9 LS.busy = B
  simp [p4,Level.put,rkey,e1]
  subst hB
  rw [roundE_ret (fr0:=frPo b out) (ps:=[8]) (asg:=.skip) (body:=bodyPo) (N:=9) (by simp) (hun _) (by simp) e2]
  simp [pst,h1s,hsr,Level.put,frPo]
theorem runPo (l:List (List Int)):(runG (fun (_:Unit) (_:List Int)=>((),false)) () l).2 = decide (l = []):=by
 cases l <;> simp [runG]
def possB (b:Beach) (out:List Int):Bool:=!decide (dfsW b out b.winds [] = [])
theorem kPossible (n:Nat) (b:Beach) (hb:Valid b) (out:List Int) (hout:out.length≤100):callK Try.prog kn (execA Try.prog ann kn (n+3600)) 57 [.agg (cellsB b),li out] = some (.bool (possB b out)):=by
 rw [callK_of rfl,call0_eq Try.func57 b57 rfl (by simp [cellsB,encI,encL,encP])]
 have q79:=fun n=>kTruths n b out
 have hL0:LvPo b out true () [(rkey,2,.loop (frPo b out) [8] .skip bodyPo 9 .ready),(2,0,.box (cellsB b)),(4,1,.box [.bool false])] :=
  ⟨by simp [rkey],by simp,fun t ht=>by simp [cellsB,encI,encL,encP]⟩
 obtain ⟨L',c',r1,r2,r3⟩:=kTruths1 hb hout (fun g a L h=>h.st) (stepPo b out) () _ hL0 (frPo b out)
 rw [runPo] at r1
 unfold possB
 generalize decide (dfsW b out b.winds [] = []) = R at r1 ⊢
 obtain ⟨p4,pr,pst⟩:=r1
 have r3:=r3 (n + 495)
 have e1:1 < c':=by omega
 simp only [cellsB,frPo,Nat.add_assoc,Nat.reduceAdd] at q79 r3 ⊢
 simp [c57,argFr,encI,encL,encP,q79,exec_range]
 rw [xRange_eq rfl]
 simp
 rw [show (Code.block 1 (r57_2.seq Code.ret)) = bodyPo from rfl]
 simp only [r3]
 cases R with
 | true =>
  rw [rE_ready (fr0:=frPo b out) (ps:=[8]) (asg:=.skip) (body:=bodyPo) (N:=9) (by simpa using pr) (by omega)]
  simp [p4,Level.put,rkey,e1]
 | false =>
  rw [rE_left (fr0:=frPo b out) (ps:=[8]) (asg:=.skip) (body:=bodyPo) (N:=9) (by simpa using pr) (by omega)]
  simp [p4,Level.put,rkey,e1]
end Go.Proofs.Try.Op
/- The contract of First. No condition but lists of at most 40. -/
open Go Go.Pg Go.Proofs Go.Wind
namespace Go.Wind
def withN (b:Beach) (k:Nat):Beach:={ b with notes:=b.notes.take k }
end Go.Wind
namespace Go.Proofs.Try.Op
set_option maxRecDepth 100000
set_option linter.unusedSimpArgs false
def firstGo (b:Beach):Nat→Nat→Int × Int
 | 0,_=>(0,7)
 | d + 1,k=>if possB (withN b (k + 1)) [] = true then firstGo b d (k + 1) else (k,0)
def firstV (b:Beach):Int × Int:=if faultB b = 0 then firstGo b b.notes.length 0 else (0,faultB b)
def boxN (b:Beach) (v:V):Res:=.box [i b.last,i b.rows,i b.places,i b.reach,li b.face,li b.sun,lli b.winds,.list false (b.breaks.map encP),v]
end Go.Proofs.Try.Op
