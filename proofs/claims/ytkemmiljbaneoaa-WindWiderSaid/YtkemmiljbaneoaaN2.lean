/- The search of Leave: Clone, handed over; sets of a size, one after another. No condition but a valid beach. -/
import Derived.Test.YtkemmiljbaneoaaN1
import Derived.Test.YtkemmiljbaneoaaFz
open Go Go.Pg Go.Proofs Go.Wind
namespace Go.Proofs.Try.Op
set_option maxRecDepth 100000
set_option linter.unusedSimpArgs false
@[simp] theorem sr_clone:sliceR Try.prog 54 = true:=by kernel_rfl
theorem nilI:evBin Try.prog .eql 22 .nil .nil = some (.bool true):=by kernel_rfl
theorem someI (e:List V) (es:List (List V)):evBin Try.prog .eql 22 (.list false (e :: es)) .nil = some (.bool false):=by
 have h:sliceT Try.prog 22 = true:=by kernel_rfl
 show (if sliceT Try.prog 22 = true then (isNilS (.list false (e :: es))).map V.bool else none) = _
 rw [if_pos h]
 rfl
theorem oClone (n:Nat) (xs:List Int) (hl:xs.length≤90):callO1 Try.prog (execA Try.prog ann kn (n+100)) 54 [sl (xs.map encI)] = some ⟨.vec 3 (xs.map encI),none⟩:=by
 rw [callO1_eq Try.func54 b54 rfl (by simp [encI])]
 cases xs with
 | nil =>
  simp [c54,argFr,retO_eq,sl,nilI]
  exact rO_pv (R:=22) (T:=3) (by kernel_rfl) (by simp) _ _ _ 0 0 [] rfl rfl
 | cons x xs =>
  have ha:appOK Try.prog 3 0 ((x :: xs).map encI) = true:=by
   rw [appOK_iff (by simp) (by simp)]
   simp [maxLen,encI] at hl ⊢
   omega
  simp only [sl,List.map_cons] at ha ⊢
  simp [c54,argFr,retO_eq,ha,someI]
  rw [show xs.length + 1 = (encI x :: xs.map encI).length by simp]
  exact rO_pv (P:=Try.prog) (R:=22) (T:=3) (by kernel_rfl) (by simp) _ _ _ 7 0 (encI x :: xs.map encI) (by simp) (by simp [encI])
def firstS (f:Nat→Option (List Int)):Nat→Nat→Option (List Int)
 | 0,_=>none
 | e + 1,j=>match f j with
  | some x=>some x
  | none=>firstS f e (j + 1)
def srch (b:Beach):Nat→Nat→List Int→Option (List Int)
 | 0,_,out=>if possB b out = true then some out else none
 | m + 1,fr,out=>firstS (fun j=>srch b m (j + 1) (out ++ [(j:Int)])) (b.notes.length - m - fr) fr
structure LvLe (b:Beach) (f:List Int) (L:Level):Prop where
 p1:L.get 1 = some (0,.box (cellsB b))
 p5:L.get 5 = some (1,.box [sl (f.map encI)])
 p6:L.get 6 = some (2,.box [.fn 56 [] [.ptr 0 5 1 0,.ptr 0 1 0 0,.ptr 0 6 2 0]])
 st:∀ t:St,1≤t.up.length→shutLv t L = L
theorem LvLe.put {b:Beach} {f:List Int} {L:Level} (h:LvLe b f L) (out:List Int):LvLe b out ((5,1,.box [sl (out.map encI)]) :: L) where
 p1:=by simpa using h.p1
 p5:=by simp
 p6:=by simpa using h.p6
 st:=fun t ht=>by simp [h.st t ht]
def RecLe (b:Beach) (M m:Nat):Prop:=∀ (rs:List Level) (f:List Int) (L:Level) (out:List Int) (fr0 c:Nat),LvLe b f L→(∀ t:St,rs.length + 1≤t.up.length→rs.map (shutLv t) = rs)→2 < c→out.length + m≤b.notes.length→fr0≤b.notes.length →
 ∃ L' f' c',LvLe b f' L'∧c≤c'∧(∀ x,srch b m fr0 out = some x→f' = x) ∧
  ∀ (n dd:Nat) (fr:Fr),finS Try.prog (some dd) fr Try.f56.results.toList (execA Try.prog ann kn (n + M) Try.f56.ntmps c56 ⟨c,argFr 0 [sl (out.map encI),i fr0,i m,.ptr 0 5 1 0,.ptr 0 1 0 0,.ptr 0 6 2 0],⟨L :: rs,[]⟩⟩) =
   finU (some dd) fr c' (.bool (srch b m fr0 out).isSome) (unsnoc (L' :: rs))
theorem kLe0 (b:Beach) (hb:Valid b):RecLe b 4000 0:=by
 intro rs f L out fr0 c hL hst hc ho hfr
 have hl:=hb.no
 have p1:=hL.p1
 have p5:=hL.p5
 have hs:=(hL.put out).st
 refine ⟨(5,1,.box [sl (out.map encI)]) :: L,out,c,hL.put out,Nat.le_refl _,fun x hx=>?_,fun n dd fr=>?_⟩
 ·unfold srch at hx
  split at hx
  ·cases hx; rfl
  ·cases hx
 ·have q57:=fun n=>kPossible n b hb out (by omega)
  have hsr:(srch b 0 fr0 out).isSome = possB b out:=by
   unfold srch
   cases possB b out <;> rfl
  rw [hsr]
  generalize possB b out = z at q57 ⊢
  have hlv:∀ t:St,rs.length + 1≤t.up.length→rs.map (shutLv t) = rs:=hst
  simp only [show Try.f56.ntmps = 38 from rfl]
  have h1c:1 < c:=by omega
  simp only [cellsB] at q57 p1
  simp [c56,argFr,p1,p5,q57,Level.put,encI,encL,encP,h1c]
  rw [hL.st _ (by simp),hst _ (by simp)]
theorem lLe (b:Beach) (hb:Valid b) (W m:Nat) (hrec:RecLe b (W + 4000) m) (rs:List Level) (hst:∀ t:St,rs.length + 1≤t.up.length→rs.map (shutLv t) = rs) (out:List Int) (ho:out.length + (m + 1)≤b.notes.length) :
  ∀ (e j:Nat) (f:List Int) (L D:Level) (c:Nat),b.notes.length - m - j = e→j≤b.notes.length→LvLe b f L→2 < c→(D = []∨∃ g,D = [(29,g,.dead)]) →
  ∃ (L' D':Level) (f':List Int) (c':Nat) (x:Fr),LvLe b f' L'∧c≤c'∧(∀ y,firstS (fun j=>srch b m (j + 1) (out ++ [(j:Int)])) e j = some y→f' = y) ∧
   ∀ n k,e < k→loopA (execA Try.prog ann kn (n + W + 4050) 38) lb56_5 (ann 38 (fstR lb56_5)) k ⟨c,[(0,true,sl (out.map encI)),(2,true,i ((m + 1:Nat):Int)),(4,true,.ptr 0 1 0 0),(5,true,.ptr 0 6 2 0),(10,true,i j)],⟨L :: rs,D⟩⟩ =
    match firstS (fun j=>srch b m (j + 1) (out ++ [(j:Int)])) e j with
    | some _=>some (.ret,⟨c',[(9,true,.bool true)],⟨L' :: rs,[]⟩⟩)
    | none=>some (.exit 0,⟨c',x,⟨L' :: rs,D'⟩⟩)
 | 0,j,f,L,D,c,he,hj,hL,hc,hD=>by
  have hl:=hb.no
  have p1:=hL.p1
  have hw:IntKind.i64.wrap ((b.notes.length:Int) - ((m + 1:Nat):Int)) = (b.notes.length:Int) - ((m + 1:Nat):Int):=wrap_i64 (by omega) (by omega)
  have hnot:¬ ((j:Int)≤(b.notes.length:Int) - ((m + 1:Nat):Int)):=by omega
  simp only [cellsB] at p1
  generalize ((m + 1:Nat):Int) = mi at *
  refine ⟨L,D,f,c,?_,hL,Nat.le_refl _,fun y hy=>(by cases hy),fun n k hk=>?_⟩
  rotate_left
  ·obtain ⟨k,rfl⟩:∃ k',k = k' + 1:=⟨k - 1,by omega⟩
   rcases hD with rfl | ⟨g,rfl⟩
   ·simp [loopA_succ,firstS,p1,hw,hnot]
    rfl
   ·simp [loopA_succ,firstS,p1,hw,hnot]
 | e + 1,j,f,L,D,c,he,hj,hL,hc,hD=>by
  have hl:=hb.no
  have p1:=hL.p1
  have p6:=hL.p6
  have hw:IntKind.i64.wrap ((b.notes.length:Int) - ((m + 1:Nat):Int)) = (b.notes.length:Int) - ((m + 1:Nat):Int):=wrap_i64 (by omega) (by omega)
  have hle:(j:Int)≤(b.notes.length:Int) - ((m + 1:Nat):Int):=by omega
  have hw1:IntKind.i64.wrap ((j:Int) + 1) = (j:Int) + 1:=wrap_i64 (by omega) (by omega)
  have hw2:IntKind.i64.wrap (((m + 1:Nat):Int) - 1) = (m:Int):=by rw [wrap_i64 (by omega) (by omega)]; omega
  simp only [cellsB] at p1
  have qC:=fun n=>oClone n out (by omega)
  have happ:appOK Try.prog 3 out.length [[.int .i64 j]] = true:=by
   rw [appOK_iff (by simp) (by simp)]
   simp [maxLen]
   omega
  have hga:(out.map encI ++ [[V.int .i64 (j:Int)]]) = (out ++ [(j:Int)]).map encI:=by simp [encI]
  have hlen:(out ++ [(j:Int)]).length = out.length + 1:=by simp
  generalize hout:out ++ [(j:Int)] = out' at *
  obtain ⟨loc,hloc⟩:∃ loc:Level,loc = [(29,c + 1,Res.dead),(29,c + 1,.vec 3 (out'.map encI)),(29,c,.vec 3 (out.map encI))]:=⟨_,rfl⟩
  have hcl:∀ (t:St) (l:List Int),shutRes t (.vec 3 (l.map encI)) = .vec 3 (l.map encI):=fun t l=>shut_vec fun e he v hv=>by
   obtain ⟨x,_,rfl⟩:=List.mem_map.1 he
   simp only [encI,List.mem_cons,List.not_mem_nil,or_false] at hv
   rw [hv]; rfl
  have hst':∀ t:St,(rs ++ [loc]).length + 1≤t.up.length→(rs ++ [loc]).map (shutLv t) = rs ++ [loc]:=fun t ht=>by
   rw [List.map_append,hst t (by simp at ht; omega),hloc]
   simp [shutLv_cons,hcl]
  obtain ⟨L1,f1,c1,hL1,hc1,hf1,q⟩:=hrec (rs ++ [loc]) f L out' (j + 1) (c + 1 + 1) hL hst' (by omega) (by omega) (by omega)
  have q2:∀ n fr,ca2 (envA Try.prog ann kn (n + W + 4045)) (some 37) ⟨c + 1 + 1,fr,⟨L :: rs,loc⟩⟩ 56 [sl (out'.map encI),i ((j + 1:Nat):Int),i m,.ptr 0 5 1 0,.ptr 0 1 0 0,.ptr 0 6 2 0] = some ⟨c1,(37,true,.bool (srch b m (j + 1) out').isSome) :: fr,⟨L1 :: rs,loc⟩⟩:=fun n fr=>by
   have q:=q (n + 45) 37 fr
   rw [show n + 45 + (W + 4000) = n + W + 4045 by omega] at q
   rw [cf_open Try.func56 b56 rfl (by simp),List.cons_append,q,← List.cons_append,unsnoc_snoc]
   rfl
  have hti:=fun fr h=>takeI_vec (t:=32) (c:=c + 1 + 1) (l:=rs.length + 1) (q:=29) (γ:=c + 1) (n:=out.length + 1) (fr:=fr) (s:=⟨L :: rs,[(29,c + 1,.vec 3 (out'.map encI)),(29,c,.vec 3 (out.map encI))]⟩) (U:=3) (es:=out'.map encI) h (by simp) (by simp; omega) (by omega)
  have htk:(out'.map encI).take (out.length + 1) = out'.map encI:=List.take_of_length_le (by simp; omega)
  have hsl:sl (out'.map encI) = .list false (out'.map encI):=by
   cases out' with
   | nil=>simp at hlen
   | cons y ys=>rfl
  rw [hsl] at q2
  simp only [hloc] at q2
  cases hz:srch b m (j + 1) out' with
  | some y =>
   rw [hz] at q2
   simp only [Option.isSome_some] at q2
   have hy:firstS (fun j=>srch b m (j + 1) (out ++ [(j:Int)])) (e + 1) j = some y:=by
    simp only [firstS]
    rw [hout,hz]
   refine ⟨L1,[],f1,c1,[],hL1,by omega,fun y' hy'=>?_,fun n k hk=>?_⟩
   ·rw [hy] at hy'
    cases hy'
    exact hf1 _ hz
   ·obtain ⟨k,rfl⟩:∃ k',k = k' + 1:=⟨k - 1,by omega⟩
    rw [loopA_succ,hy]
    generalize ((m + 1:Nat):Int) = mi at *
    simp at q2
    rcases hD with rfl | ⟨g,rfl⟩
    ·simp [p1,p6,hw,hle,hw1,hw2,qC,happ,plK,apK,encI,hga,hti,htk,q2]
     done
    ·simp [p1,p6,hw,hle,hw1,hw2,qC,happ,plK,apK,encI,hga,hti,htk,q2]
     done
  | none =>
   rw [hz] at q2
   simp only [Option.isSome_none] at q2
   have hy:firstS (fun j=>srch b m (j + 1) (out ++ [(j:Int)])) (e + 1) j = firstS (fun j=>srch b m (j + 1) (out ++ [(j:Int)])) e (j + 1):=by
    simp only [firstS]
    rw [hout,hz]
   obtain ⟨L2,D2,f2,c2,x2,hL2,hc2,hf2,ih⟩:=lLe b hb W m hrec rs hst out ho e (j + 1) f1 L1 [(29,c + 1,.dead)] c1 (by omega) (by omega) hL1 (by omega) (.inr ⟨_,rfl⟩)
   rw [hy]
   refine ⟨L2,D2,f2,c2,x2,hL2,by omega,hf2,fun n k hk=>?_⟩
   obtain ⟨k,rfl⟩:∃ k',k = k' + 1:=⟨k - 1,by omega⟩
   have ih:=ih n k (by omega)
   rw [loopA_succ]
   generalize firstS (fun j=>srch b m (j + 1) (out ++ [(j:Int)])) e (j + 1) = r at ih ⊢
   generalize ((m + 1:Nat):Int) = mi at *
   simp at q2 ih
   rcases hD with rfl | ⟨g,rfl⟩
   ·simp [p1,p6,hw,hle,hw1,hw2,qC,happ,plK,apK,encI,hga,hti,htk,q2,ih]
    done
   ·simp [p1,p6,hw,hle,hw1,hw2,qC,happ,plK,apK,encI,hga,hti,htk,q2,ih]
    done
theorem kLe (b:Beach) (hb:Valid b):∀ m,RecLe b (100 * m + 4000) m
 | 0=>kLe0 b hb
 | m + 1=>by
  intro rs f L out fr0 c hL hst hc ho hfr
  have hl:=hb.no
  obtain ⟨L1,D1,f1,c1,x,hL1,hc1,hf1,hlp⟩:=lLe b hb (100 * m) m (kLe b hb m) rs hst out ho (b.notes.length - m - fr0) fr0 f L [] c rfl hfr hL hc (.inl rfl)
  have hsr:srch b (m + 1) fr0 out = firstS (fun j=>srch b m (j + 1) (out ++ [(j:Int)])) (b.notes.length - m - fr0) fr0:=rfl
  rw [hsr]
  refine ⟨L1,f1,c1,hL1,hc1,hf1,fun n dd fr=>?_⟩
  have hlp:=hlp (n + 44) (n + 100 * m + 4094) (by omega)
  have hm1:¬ (((m + 1:Nat):Int) = 0):=by omega
  rw [show n + 44 + 100 * m + 4050 = n + 100 * m + 4094 by omega] at hlp
  rw [show n + (100 * (m + 1) + 4000) = n + 100 * m + 4100 by omega]
  simp only [show Try.f56.ntmps = 38 from rfl]
  generalize firstS (fun j=>srch b m (j + 1) (out ++ [(j:Int)])) (b.notes.length - m - fr0) fr0 = r at hlp ⊢
  generalize ((m + 1:Nat):Int) = mi at *
  have hs1:=hL1.st
  cases r with
  | some y =>
   simp at hlp
   simp [c56,argFr,hm1,hlp]
   rw [hs1 _ (by simp),hst _ (by simp)]
   done
  | none =>
   simp at hlp
   simp [c56,argFr,hm1,hlp]
   rw [hs1 _ (by simp),hst _ (by simp)]
   done
end Go.Proofs.Try.Op
/- The contract of Leave. No condition but lists of at most 40. -/
open Go Go.Pg Go.Proofs Go.Wind
namespace Go.Proofs.Try.Op
set_option maxRecDepth 100000
set_option linter.unusedSimpArgs false
def lv3 (b:Beach) (f:List Int):Level:=[(1,0,.box (cellsB b)),(5,1,.box [sl (f.map encI)]),(6,2,.box [.fn 56 [] [.ptr 0 5 1 0,.ptr 0 1 0 0,.ptr 0 6 2 0]])]
theorem lv3_ok (b:Beach) (f:List Int):LvLe b f (lv3 b f) where
 p1:=by simp [lv3]
 p5:=by simp [lv3]
 p6:=by simp [lv3]
 st:=fun t ht=>by
  have e0:¬ 0 = t.up.length:=by omega
  obtain ⟨up,loc⟩:=t
  simp only at e0
  simp [lv3,cellsB,encI,encL,encP,e0]
def leaveP (b:Beach):Option (List Int):=firstS (fun m=>srch b m 0 []) (b.notes.length + 1) 0
theorem lLeave (b:Beach) (hb:Valid b):∀ (e j:Nat) (f:List Int) (L:Level) (c:Nat),j + e = b.notes.length + 1→LvLe b f L→2 < c →
  ∃ (f':List Int) (L':Level) (c':Nat) (fr:Fr),LvLe b f' L'∧getF fr 5 = some (true,.ptr 0 5 1 0)∧(∀ y,firstS (fun m=>srch b m 0 []) e j = some y→f' = y)∧∀ n k,e < k →
   loopA (execA Try.prog ann kn (n + 5000) 26) lb23_8 (ann 26 (fstR lb23_8)) k ⟨c,[(5,true,.ptr 0 5 1 0),(6,true,.ptr 0 6 2 0),(17,true,i ((b.notes.length + 1:Nat):Int)),(18,true,i j)],⟨[],L⟩⟩ =
    some (.exit 0,⟨c',fr,⟨[],L'⟩⟩)
 | 0,j,f,L,c,hd,hL,hc=>by
  have hnot:¬ ((j:Int) < ((b.notes.length + 1:Nat):Int)):=by omega
  generalize ((b.notes.length + 1:Nat):Int) = N at *
  have p1:=hL.p1
  have p5:=hL.p5
  have p6:=hL.p6
  refine ⟨f,lv3 b f,c,?fr,lv3_ok b f,?g1,fun y hy=>(by cases hy),fun n k hk=>?g⟩
  case g =>
   obtain ⟨k,rfl⟩:∃ k',k = k' + 1:=⟨k - 1,by omega⟩
   simp [loopA_succ,lv3,hnot,p1,p5,p6]
   rfl
  case g1=>simp
 | e + 1,j,f,L,c,hd,hL,hc=>by
  have hl:=hb.no
  have hlt:(j:Int) < ((b.notes.length + 1:Nat):Int):=by omega
  have hw:=wrapS (k:=j) (by omega)
  have o1:=hL.p1
  have o5:=hL.p5
  have o6:=hL.p6
  obtain ⟨L1,f1,c1,hL1,hc1,hf1,q⟩:=kLe b hb j [] f (lv3 b f) [] 0 c (lv3_ok b f) (fun t _=>rfl) hc (by simp; omega) (by omega)
  have p1:=hL1.p1
  have p5:=hL1.p5
  have p6:=hL1.p6
  have q2:∀ n fr,ca2 (envA Try.prog ann kn (n + 4993)) (some 23) ⟨c,fr,⟨[],lv3 b f⟩⟩ 56 [.nil,i 0,i j,.ptr 0 5 1 0,.ptr 0 1 0 0,.ptr 0 6 2 0] = some ⟨c1,(23,true,.bool (srch b j 0 []).isSome) :: fr,⟨[],L1⟩⟩:=fun n fr=>by
   have q:=q (n + 993 - 100 * j) 23 fr
   rw [show n + 993 - 100 * j + (100 * j + 4000) = n + 4993 by omega] at q
   rw [cf_open Try.func56 b56 rfl (by simp)]
   have hs:sl (List.map encI []) = .nil:=rfl
   rw [hs] at q
   simp only [Int.natCast_zero,List.nil_append] at q ⊢
   rw [q]
   rfl
  cases hz:srch b j 0 [] with
  | some y =>
   rw [hz] at q2
   have hy:firstS (fun m=>srch b m 0 []) (e + 1) j = some y:=by
    simp only [firstS]
    rw [hz]
   rw [hy]
   generalize ((b.notes.length + 1:Nat):Int) = N at *
   refine ⟨f1,L1,c1,?fr2,hL1,?g3,fun y' h=>?g5,fun n k hk=>?g4⟩
   case g5 =>
    cases h
    exact hf1 _ hz
   case g4 =>
    obtain ⟨k,rfl⟩:∃ k',k = k' + 1:=⟨k - 1,by omega⟩
    rw [loopA_succ]
    simp only [lv3] at q2 ⊢
    simp at q2
    simp [hlt,hw,o1,o5,o6,q2]
    rfl
   case g3=>simp
  | none =>
   rw [hz] at q2
   have hy:firstS (fun m=>srch b m 0 []) (e + 1) j = firstS (fun m=>srch b m 0 []) e (j + 1):=by
    simp only [firstS]
    rw [hz]
   obtain ⟨f2,L2,c2,fr2,hL2,hg2,hf2,ih⟩:=lLeave b hb e (j + 1) f1 (lv3 b f1) c1 (by omega) (lv3_ok b f1) (by omega)
   rw [hy]
   refine ⟨f2,L2,c2,fr2,hL2,hg2,hf2,fun n k hk=>?_⟩
   obtain ⟨k,rfl⟩:∃ k',k = k' + 1:=⟨k - 1,by omega⟩
   have ih:=ih n k (by omega)
   generalize ((b.notes.length + 1:Nat):Int) = N at *
   rw [loopA_succ]
   simp only [lv3] at q2 ih ⊢
   simp at q2 ih
   simp [hlt,hw,o1,o5,o6,p1,p5,p6,q2,ih]
def leaveV (b:Beach):List Int × Int:=if faultB b = 0 then ((leaveP b).getD [],0) else ([],faultB b)
theorem kLeave (n:Nat) (b:Beach) (h40:∀ l ∈ b.winds,l.length≤40) (hs:faultB b = 0→(leaveP b).isSome = true):callK Try.prog kn (execA Try.prog ann kn (n+5200)) 23 [.agg (cellsB b)] = some (.tup [sl ((leaveV b).1.map encI),i (leaveV b).2]):=by
 rw [callK_of rfl,call0_eq Try.func23 b23 rfl (by simp [cellsB,encI,encL,encP])]
 have q1:=fun n=>kCheck n b h40
 unfold leaveV
 by_cases h0:faultB b = 0
 ·have hb:=valid_of h0
  have hl:=hb.no
  rw [h0] at q1
  rw [if_pos h0]
  obtain ⟨f',L',c',fr,hL,g5,hf',q⟩:=lLeave b hb (b.notes.length + 1) 0 [] (lv3 b []) 3 (by omega) (lv3_ok b []) (by omega)
  have q:=fun n m=>q n (m + 150) (by omega)
  have hw:IntKind.i64.wrap ((b.notes.length:Int) + 1) = ((b.notes.length + 1:Nat):Int):=by rw [wrap_i64 (by omega) (by omega)]; rfl
  obtain ⟨y,hy⟩:=Option.isSome_iff_exists.1 (hs h0)
  have:=hf' y hy
  subst this
  rw [hy]
  have p5:=hL.p5
  have p1:=hL.p1
  have p6:=hL.p6
  generalize ((b.notes.length + 1:Nat):Int) = N at *
  have hs:sl (List.map encI []) = V.nil:=rfl
  simp only [cellsB,lv3,hs] at q1 q ⊢
  simp at q
  simp [c23,argFr,q1,hw,q,encI,encL,encP,put_eq0,g5,p1,p5,p6]
 ·rw [if_neg h0]
  simp only [cellsB] at q1 ⊢
  simp [c23,argFr,encI,encL,encP,q1,h0]
  try rfl
end Go.Proofs.Try.Op
