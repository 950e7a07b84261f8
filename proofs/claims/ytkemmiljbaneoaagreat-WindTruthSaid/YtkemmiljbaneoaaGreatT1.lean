/- Contracts of laws: Noted, in. No condition but a valid beach. -/
import Derived.Test.YtkemmiljbaneoaaGreatX1
import Derived.Test.YtkemmiljbaneoaaGreatFz
import Derived.Test.YtkemmiljbaneoaaGreatN1
import Derived.Test.YtkemmiljbaneoaaGreatN2
import Derived.Test.YtkemmiljbaneoaaGreatW3
open Go Go.Pg Go.Proofs Go.Wind
namespace Go.Wind
def noteT (t:List Int) (ws:List Nat) (m i:Nat):Int × Int:=(((wordN ws (i + 7) % m:Nat):Int),t.getD (wordN ws (i + 7) % m) 0)
def notesT (t:List Int) (ws:List Nat) (m k:Nat):List (Int × Int):=(List.range k).map (noteT t ws m)
end Go.Wind
namespace Go.Proofs.Tryz.Op
set_option maxRecDepth 100000
set_option linter.unusedSimpArgs false
theorem kInR (n:Nat) (x:Int) (r:Int × Int):callK Tryz.prog kn (execA Tryz.prog ann kn (n+50)) 68 [i x,.agg [i r.1,i r.2]] = some (.bool (decide (r.1≤x) && decide (x≤r.2))):=by
 rw [callK_of rfl,call0_eq Tryz.func68 b68 rfl (by simp)]
 by_cases h1:r.1≤x <;> by_cases h2:x≤r.2 <;> simp [c68,argFr,h1,h2]
theorem noted_succ (t:List Int) (ws:List Nat) (m k:Nat):notesT t ws m (k + 1) = notesT t ws m k ++ [noteT t ws m k]:=by
 simp [notesT,List.range_succ]
theorem appNo {k:Nat} {x:Int × Int} (h:k≤10000):appOK Tryz.prog 101 k [[i x.1,i x.2]] = true:=by
 rw [appOK_iff (by simp) (by simp)]
 simp [maxLen]; omega
theorem lNoted5 (b:Beach) (hb:Valid b) (ws:List Nat) (hws:∀ w ∈ ws,w≤65535) (t:List Int) (ht:t.length = b.winds.length) (Z:Res):∀ (d j c γ:Nat),j + d = wordN ws 6 % 6→2 < c→∃ c' γ',2 < c'∧∀ n k,d < k →
  loopA (execA Tryz.prog ann kn (n+300) 49) lb67_5 (ann 49 (fstR lb67_5)) k ⟨c,[(2,true,.list false (ws.map encW)),(3,true,.ptr 0 3 0 0),(6,true,.ptr 0 6 1 0),(8,true,sl (t.map encI)),(9,true,.ptr 0 9 2 0),(10,true,i j)],
   ⟨[],(3,0,.box (cellsB b)) :: (6,1,Z) :: (9,2,.box [i b.last,i b.rows,i b.places,i b.reach,li b.face,li b.sun,lli b.winds,.list false (b.breaks.map encP),pv 45 γ ((notesT t ws (b.last + 1).toNat j).map encP)]) :: pl 45 γ 101 ((notesT t ws (b.last + 1).toNat j).map encP)⟩⟩ =
   some (.exit 0,⟨c',[(25,true,.bool false),(24,true,i (wordN ws 6 % 6:Nat)),(23,true,i (wordN ws 6)),(22,true,.list false (ws.map encW)),(21,true,i (wordN ws 6 % 6:Nat)),(2,true,.list false (ws.map encW)),(3,true,.ptr 0 3 0 0),(6,true,.ptr 0 6 1 0),(8,true,sl (t.map encI)),(9,true,.ptr 0 9 2 0),(10,true,i (wordN ws 6 % 6:Nat))],
   ⟨[],(3,0,.box (cellsB b)) :: (6,1,Z) :: (9,2,.box [i b.last,i b.rows,i b.places,i b.reach,li b.face,li b.sun,lli b.winds,.list false (b.breaks.map encP),pv 45 γ' ((notesT t ws (b.last + 1).toNat (wordN ws 6 % 6)).map encP)]) :: pl 45 γ' 101 ((notesT t ws (b.last + 1).toNat (wordN ws 6 % 6)).map encP)⟩⟩)
 | 0,j,c,γ,hd,hc=>by
  have hj:j = wordN ws 6 % 6:=by omega
  have q6:=fun n=>kWord n ws hws 6
  have hm:(wordN ws 6:Int).tmod 6 = ((wordN ws 6 % 6:Nat):Int):=(Int.ofNat_tmod _ 6).symm
  have hw1:IntKind.i64.wrap ((wordN ws 6 % 6:Nat):Int) = ((wordN ws 6 % 6:Nat):Int):=wrap_i64 (by omega) (by omega)
  rw [← hj] at hm hw1 ⊢
  refine ⟨c,γ,hc,fun n m hk=>?_⟩
  obtain ⟨m,rfl⟩:∃ m',m = m' + 1:=⟨m - 1,by omega⟩
  rw [loopA_succ]
  generalize notesT t ws (b.last + 1).toNat j = F
  generalize wordN ws 6 = W at *
  have q6:∀ n,callK Tryz.prog kn (execA Tryz.prog ann kn (n+100)) 103 [.list false (ws.map encW),.int .i64 6] = some (i W):=q6
  simp only [cellsB]
  simp [q6,hm,hw1,encW]
 | d + 1,j,c,γ,hd,hc=>by
  have hla:=hb.la
  have hwi:=hb.wi
  have q6:=fun n=>kWord n ws hws 6
  have hm:(wordN ws 6:Int).tmod 6 = ((wordN ws 6 % 6:Nat):Int):=(Int.ofNat_tmod _ 6).symm
  have hw1:IntKind.i64.wrap ((wordN ws 6 % 6:Nat):Int) = ((wordN ws 6 % 6:Nat):Int):=wrap_i64 (by omega) (by omega)
  have hlt:(j:Int) < ((wordN ws 6 % 6:Nat):Int):=by omega
  have hw:=wrapS (k:=j) (by omega)
  have qj:∀ n,callK Tryz.prog kn (execA Tryz.prog ann kn (n+100)) 103 [.list false (ws.map encW),i ((j:Int) + 7)] = some (i (wordN ws (j + 7))):=fun n=>kWord n ws hws (j + 7)
  have hw7:IntKind.i64.wrap ((j:Int) + 7) = (j:Int) + 7:=wrap_i64 (by omega) (by omega)
  have hla1:IntKind.i64.wrap (b.last + 1) = b.last + 1:=wrap_i64 (by omega) (by omega)
  have hmj:(wordN ws (j + 7):Int).tmod (b.last + 1) = ((wordN ws (j + 7) % (b.last + 1).toNat:Nat):Int):=by
   have e:b.last + 1 = (((b.last + 1).toNat:Nat):Int):=by omega
   rw [e,Int.toNat_natCast]
   exact (Int.ofNat_tmod _ _).symm
  have hx:wordN ws (j + 7) % (b.last + 1).toNat < (b.last + 1).toNat:=Nat.mod_lt _ (by omega)
  have hlz:¬ b.last + 1 = 0:=by omega
  have hll:wordN ws (j + 7) % (b.last + 1).toNat < t.length:=by omega
  have hN:noteT t ws (b.last + 1).toNat j = (((wordN ws (j + 7) % (b.last + 1).toNat:Nat):Int),t[wordN ws (j + 7) % (b.last + 1).toNat]):=by
   simp only [noteT]
   rw [List.getD_eq_getElem?_getD,List.getElem?_eq_getElem hll]
   rfl
  have hw2:IntKind.i64.wrap ((wordN ws (j + 7) % (b.last + 1).toNat:Nat):Int) = ((wordN ws (j + 7) % (b.last + 1).toNat:Nat):Int):=wrap_i64 (by omega) (by omega)
  have hlen:(notesT t ws (b.last + 1).toNat j).length = j:=by simp [notesT]
  have happ:=appNo (k:=(notesT t ws (b.last + 1).toNat j).length) (x:=noteT t ws (b.last + 1).toNat j) (by omega)
  obtain ⟨c',γ',hc',ih⟩:=lNoted5 b hb ws hws t ht Z d (j + 1) (c + 1) c (by omega) (by omega)
  refine ⟨c',γ',hc',fun n m hk=>?_⟩
  obtain ⟨m,rfl⟩:∃ m',m = m' + 1:=⟨m - 1,by omega⟩
  have ih:=ih n m (by omega)
  rw [noted_succ] at ih
  rw [hN] at ih happ
  clear hN
  rw [loopA_succ]
  have hst:sl (t.map encI) = .list false (t.map encI):=slX (by intro h; rw [h] at hll; simp at hll)
  rw [hst] at ih ⊢
  generalize notesT t ws (b.last + 1).toNat (wordN ws 6 % 6) = FF at ih ⊢
  generalize notesT t ws (b.last + 1).toNat j = F at *
  generalize wordN ws (j + 7) % (b.last + 1).toNat = X at *
  generalize hv:t[X] = v at *
  generalize wordN ws 6 % 6 = W6 at *
  generalize wordN ws 6 = W at *
  generalize wordN ws (j + 7) = W7 at *
  have q6:∀ n,callK Tryz.prog kn (execA Tryz.prog ann kn (n+100)) 103 [.list false (ws.map encW),.int .i64 6] = some (i W):=q6
  have hg1:2 < c + 1:=by omega
  have hg2:2 < c:=by omega
  simp only [cellsB] at ih ⊢
  simp [encP] at ih
  simp [q6,hm,hw1,hlt,hw,qj,hw7,hla1,hmj,hlz,hw2,hll,hv,happ,encP,encI,encW,plK,apK,anyK,celK,placeS,placeL,placeOf,put_eqX,hg1,hg2,ih]
theorem kNoted (n:Nat) (b:Beach) (hb:Valid b) (w:Nat) (hw:w≤65535) (ws:List Nat) (hws:∀ w ∈ ws,w≤65535):callK Tryz.prog kn (execA Tryz.prog ann kn (n+1400)) 67 [.agg (cellsB b),.int .u16 w,.list false (ws.map encW)] = some (.tup [.agg [i b.last,i b.rows,i b.places,i b.reach,li b.face,li b.sun,lli b.winds,.list false (b.breaks.map encP),sl ((notesT (nthGo b.winds (w % manyN b.winds)) ws (b.last + 1).toNat (wordN ws 6 % 6)).map encP)],sl ((nthGo b.winds (w % manyN b.winds)).map encI)]):=by
 rw [callK_of rfl,call0_eq Tryz.func67 b67 rfl (by simp [cellsB,encI,encL,encP,encW])]
 simp only [cellsB] at *
 have hmp:=many_pos (fun l hl=>hb.ne l hl)
 have hm80:=hb.many
 have hm:(w:Int).tmod (manyN b.winds:Int) = ((w % manyN b.winds:Nat):Int):=(Int.ofNat_tmod _ _).symm
 have hml:=Nat.mod_lt w hmp
 have hmz:¬ ((manyN b.winds:Int) = 0):=by omega
 have qm:=fun n=>kMany n b hb
 have qn:=fun n=>kNth n b hb (w % manyN b.winds) (by omega)
 have w1:IntKind.i64.wrap (w:Int) = (w:Int):=wrap_i64 (by omega) (by omega)
 have w2:IntKind.i64.wrap ((w % manyN b.winds:Nat):Int) = ((w % manyN b.winds:Nat):Int):=wrap_i64 (by omega) (by omega)
 simp only [cellsB] at qm qn
 have hnl:(nthGo b.winds (w % manyN b.winds)).length = b.winds.length:=listed_len (nth_listed (fun l hl=>hb.ne l hl) _)
 obtain ⟨c',γ',hc',ql⟩:=lNoted5 b hb ws hws (nthGo b.winds (w % manyN b.winds)) hnl (.box [i 0,i 0,i 0,i 0,.nil,.nil,.nil,.nil,.nil]) (wordN ws 6 % 6) 0 3 0 (by omega) (by omega)
 have ql:=fun n k=>ql n (k + 10) (by omega)
 have hz:manyN b.winds ≠ 0:=by omega
 generalize w % manyN b.winds = W at *
 have e0:notesT (nthGo b.winds W) ws (b.last + 1).toNat 0 = []:=rfl
 rw [e0] at ql
 generalize notesT (nthGo b.winds W) ws (b.last + 1).toNat (wordN ws 6 % 6) = F at *
 simp only [cellsB] at ql
 simp at ql
 simp [c67,argFr,encI,encL,encP,encW,put_eqX,convU,hm,hmz,w1,w2,qm,qn,plK,placeL,show Nat.beq 9 1 = false from rfl,hz,ql,show 1 < c' by omega]
 rw [closeX_pv (T:=101) 1 _ 45 γ' (F.map encP) (by simp)]
 simp [clP]
end Go.Proofs.Tryz.Op
/- The plain law of WindTruth. No program. -/
open Go Go.Pg Go.Proofs Go.Wind
namespace Go.Wind
def notedB (b:Beach) (t:List Int) (ws:List Nat) (k:Nat):Beach:={ b with notes:=notesT t ws (b.last + 1).toNat k }
theorem noted_mem {b:Beach} {t:List Int} {ws:List Nat} {k:Nat} (hla:0≤b.last) {p:Int × Int} (h:p ∈ notesT t ws (b.last + 1).toNat k):∃ h:Nat,(h:Int)≤b.last∧p = ((h:Int),t.getD h 0):=by
 simp only [notesT,List.mem_map] at h
 obtain ⟨i,_,rfl⟩:=h
 refine ⟨wordN ws (i + 7) % (b.last + 1).toNat,?_,rfl⟩
 have:=Nat.mod_lt (wordN ws (i + 7)) (show 0 < (b.last + 1).toNat by omega)
 omega
theorem noted_valid {b:Beach} (hb:Valid b) {t:List Int} (ht:listedGo t b.winds = true) (ws:List Nat) {k:Nat} (hk:k≤5):Valid (notedB b t ws k):=by
 have hnum:=listed_nums hb ht
 have hlen:=listed_len ht
 obtain ⟨la,ro,pl,re,br,no,fa,su,wi,fd,sd,wo,bo,nok⟩:=hb
 refine ⟨la,ro,pl,re,br,by simp [notedB,notesT]; omega,fa,su,wi,fd,sd,wo,bo,?_⟩
 rw [List.all_eq_true]
 intro p hp
 obtain ⟨h,h1,rfl⟩:=noted_mem la.1 hp
 have hl:h < t.length:=by omega
 have:=hnum _ (List.getElem_mem hl)
 simp only [noteOk,notedB,Bool.and_eq_true,inI_iff]
 rw [List.getD_eq_getElem?_getD,List.getElem?_eq_getElem hl]
 simp only [Option.getD_some]
 omega
theorem noted_truth {b:Beach} (hb:Valid b) {t:List Int} (ht:listedGo t b.winds = true) (ws:List Nat) (k:Nat):isTruthB (notedB b t ws k) t = true:=by
 have hla:=hb.la
 simp only [isTruthB,Bool.and_eq_true,List.all_eq_true]
 refine ⟨ht,fun p hp=>?_⟩
 obtain ⟨h,h1,rfl⟩:=noted_mem hla.1 hp
 have hh:¬ (h:Int) < 0:=by omega
 simp [rightB,atI]
end Go.Wind
namespace Go.Proofs.Tryz.Op
theorem poss_truth {b:Beach} {t:List Int} (ht:isTruthB b t = true):possB b [] = true:=by
 have:=(mem_dfs b t).2 ht
 unfold possB
 have:dfsW b [] b.winds [] ≠ []:=List.ne_nil_of_mem this
 cases h:dfsW b [] b.winds [] with
 | nil=>exact absurd h this
 | cons a l=>rfl
theorem leave_none {b:Beach} {t:List Int} (ht:isTruthB b t = true):leaveP b = some []:=by
 have e:leaveP b = firstS (fun m=>srch b m 0 []) (b.notes.length + 1) 0:=rfl
 rw [e]
 unfold firstS
 have e2:srch b 0 0 [] = some []:=by
  unfold srch
  rw [if_pos (poss_truth ht)]
 rw [e2]
theorem withN_truth {b:Beach} {t:List Int} (ht:isTruthB b t = true) (k:Nat):isTruthB (withN b k) t = true:=by
 simp only [isTruthB,Bool.and_eq_true,List.all_eq_true] at ht ⊢
 exact ⟨ht.1,fun p hp=>ht.2 p (List.mem_of_mem_take hp)⟩
theorem first_none' {b:Beach} {t:List Int} (ht:isTruthB b t = true):∀ d k,firstGo b d k = (0,7)
 | 0,_=>rfl
 | d + 1,k=>by
  have e:firstGo b (d + 1) k = (if possB (withN b (k + 1)) [] = true then firstGo b d (k + 1) else ((k:Int),0)):=rfl
  rw [e,if_pos (poss_truth (withN_truth ht _))]
  exact first_none' ht d (k + 1)
end Go.Proofs.Tryz.Op
namespace Go.Wind
theorem cnt_and (f g:Nat→Bool):∀ n,cnt (fun h=>f h && g h) n≤cnt f n∧cnt (fun h=>f h && g h) n≤cnt g n∧cnt f n + cnt g n≤cnt (fun h=>f h && g h) n + n
 | 0=>by simp [cnt]
 | n + 1=>by
  have ih:=cnt_and f g n
  have e:cnt (fun h=>f h && g h) (n + 1) = cnt (fun h=>f h && g h) n + (if (f n && g n) = true then 1 else 0):=rfl
  have e1:cnt f (n + 1) = cnt f n + (if f n = true then 1 else 0):=rfl
  have e2:cnt g (n + 1) = cnt g n + (if g n = true then 1 else 0):=rfl
  rw [e,e1,e2]
  cases hf:f n <;> cases hg:g n <;> simp <;> omega
theorem minF_bool (q:Int→Bool):∀ (l:List Int) (z:Int),z = 0∨z = 1→minF z (l.map fun w=>boolI (q w)) = if z = 1∧l.all q = true then 1 else 0
 | [],z,hz=>by
  rcases hz with rfl | rfl <;> simp [minF]
 | w :: l,z,hz=>by
  have e:minF z ((w :: l).map fun w=>boolI (q w)) = minF (min z (boolI (q w))) (l.map fun w=>boolI (q w)):=rfl
  rw [e,minF_bool q l _ (by rcases hz with rfl | rfl <;> cases q w <;> decide)]
  rcases hz with rfl | rfl <;> cases h:q w <;> simp [boolI,h,show min (0:Int) 1 = 0 from rfl,show min (1:Int) 0 = 0 from rfl]
theorem verd_one {l:List Int} {q:Int→Bool}:verd l q = 1 ↔ l.all q = true:=by
 unfold verd
 rw [List.all_eq_true,← List.countP_eq_length]
 constructor
 ·intro h
  split at h
  ·assumption
  ·split at h <;> cases h
 ·intro h
  rw [if_pos h]
theorem verd_rng (l:List Int) (q:Int→Bool):1≤verd l q∧verd l q≤3:=by
 unfold verd
 split
 ·decide
 ·split <;> decide
def sureH (b:Beach) (ws plan:List (List Int)) (r p:Nat) (h:Nat):Bool:=decide (verd (ws.getD h []) (fun w=>calmP b (r,p) (planAt plan h r) w) = 1)
theorem sure_min (b:Beach) (ws plan:List (List Int)) (r p:Nat):((cnt (sureH b ws plan r p) ws.length:Nat):Int) = (calmB b ws plan r p).1:=by
 rw [cnt_U]
 show _ = sumU (fun h=>(rngF (1,0) ((ws.getD h []).map fun w=>boolI (calmP b (r,p) (planAt plan h r) w))).1) ws.length
 refine sumU_congr fun h _=>?_
 rw [rngF_eq]
 show _ = minF 1 _
 rw [minF_bool _ _ 1 (.inr rfl)]
 unfold sureH boolI
 simp only [decide_eq_true_eq,verd_one,true_and]
end Go.Wind
/- Contract of the law: bounded. No condition but a valid beach. -/
open Go Go.Pg Go.Proofs Go.Wind
namespace Go.Proofs.Tryz.Op
set_option maxRecDepth 100000
set_option linter.unusedSimpArgs false
theorem lBounded (b:Beach) (A:List (List Bnd)) (hA:A.length≤100):∀ (d k:Nat),k + d = A.length→∃ fr,getF fr 1 = some (true,.list false (A.map encBs))∧getF fr 2 = some (true,.ptr 0 2 0 0)∧∀ n m,d < m→loopA (execA Tryz.prog ann kn (n+100) 25) lb48_2 (ann 25 (fstR lb48_2)) m ⟨1,[(1,true,.list false (A.map encBs)),(2,true,.ptr 0 2 0 0),(5,true,i k)],⟨[],[(2,0,.box (cellsB b))]⟩⟩ =
  if (A.drop k).all (fun l=>decide ((l.length:Int) = b.places)) = true then some (.exit 0,⟨1,fr,⟨[],[(2,0,.box (cellsB b))]⟩⟩) else some (.ret,⟨1,[(4,true,.bool false)],⟨[],[]⟩⟩)
 | 0,k,hk=>by
  have:k = A.length:=by omega
  subst this
  refine ⟨?fr,?g1,?g2,fun n m hm=>?g3⟩
  case g3 =>
   obtain ⟨m,rfl⟩:∃ m',m = m' + 1:=⟨m - 1,by omega⟩
   rw [List.drop_length,loopA_succ]
   simp [cellsB]
   rfl
  case g1=>simp
  case g2=>simp
 | d + 1,k,hk=>by
  have hk':k < A.length:=by omega
  have hw:=wrapS (k:=k) (by omega)
  obtain ⟨fr,e1,e2,ih⟩:=lBounded b A hA d (k + 1) (by omega)
  rw [List.drop_eq_getElem_cons hk']
  simp only [List.all_cons]
  by_cases h:(A[k].length:Int) = b.places
  ·simp only [h,decide_true,Bool.true_and]
   refine ⟨fr,e1,e2,fun n m hm=>?_⟩
   obtain ⟨m,rfl⟩:∃ m',m = m' + 1:=⟨m - 1,by omega⟩
   have ih:=ih n m (by omega)
   generalize (A.drop (k + 1)).all (fun l=>decide ((l.length:Int) = b.places)) = z at ih ⊢
   rw [loopA_succ]
   simp only [cellsB] at ih ⊢
   simp at ih
   simp [hk',hw,encBs,h,plK,ih]
  ·simp only [h,decide_false,Bool.false_and]
   refine ⟨fr,e1,e2,fun n m hm=>?_⟩
   obtain ⟨m,rfl⟩:∃ m',m = m' + 1:=⟨m - 1,by omega⟩
   rw [loopA_succ]
   simp [cellsB,hk',hw,encBs,h,plK]
def boundedB (b:Beach) (A:List (List Bnd)):Bool:=(A.all fun l=>decide ((l.length:Int) = b.places)) && decide ((A.length:Int) = b.rows)
theorem kBounded (n:Nat) (b:Beach) (A:List (List Bnd)) (hA:A.length≤100):callK Tryz.prog kn (execA Tryz.prog ann kn (n+300)) 48 [.agg (cellsB b),.list false (A.map encBs)] = some (.bool (boundedB b A)):=by
 rw [callK_of rfl,call0_eq Tryz.func48 b48 rfl (by simp [cellsB,encI,encL,encP,encBs,encB])]
 obtain ⟨fr,e1,e2,q⟩:=lBounded b A hA A.length 0 (by omega)
 have q:=fun n m=>q n (m + 110) (by omega)
 rw [List.drop_zero] at q
 unfold boundedB
 generalize A.all (fun l=>decide ((l.length:Int) = b.places)) = z at q ⊢
 simp only [cellsB] at q ⊢
 cases z <;> (simp at q; simp [c48,argFr,q,e1,e2])
theorem bounded_ok {b:Beach} (hb:Valid b) (ws plan:List (List Int)):boundedB b (bndsP b ws plan b.rows.toNat) = true:=by
 have hro:=hb.ro
 have hpl:=hb.pl
 unfold boundedB
 rw [Bool.and_eq_true,List.all_eq_true,decide_eq_true_eq]
 refine ⟨fun l hl=>?_,by simp [bndsP]; omega⟩
 simp only [bndsP,List.mem_map] at hl
 obtain ⟨r,_,rfl⟩:=hl
 simp [rowB]; omega
end Go.Proofs.Tryz.Op
/- The walk of WindTruth. No condition. -/
open Go Go.Pg Go.Proofs Go.Wind
namespace Go.Proofs.Tryz.Op
set_option maxRecDepth 100000
set_option linter.unusedSimpArgs false
theorem shaped_any {b x:Beach} (hb:Valid b) (e1:x.places = b.places) (p:List (List Int)) (t:List Int):shapedB b (playP x p t b.rows.toNat) = true:=by
 have hro:=hb.ro
 have hpl:=hb.pl
 unfold shapedB
 rw [Bool.and_eq_true,List.all_eq_true,decide_eq_true_eq]
 refine ⟨fun l hl=>?_,by simp [playP]; omega⟩
 simp only [playP,List.mem_map] at hl
 obtain ⟨r,_,rfl⟩:=hl
 simp [rowP,e1]; omega
def nB (b:Beach) (N:List (Int × Int)):Beach:={ b with notes:=N }
def box7 (b:Beach) (N:List (Int × Int)):Res:=.box [i b.last,i b.rows,i b.places,i b.reach,li b.face,li b.sun,lli b.winds,.list false (b.breaks.map encP),sl (N.map encP)]
section
variable {b:Beach} {N:List (Int × Int)} {P:List (List Int)} {t:List Int}
theorem lTr25 (hx:Valid (nB b N)) (hp:isPlanB (nB b N) P = true) (hE:dfsW (nB b N) [] b.winds [] ≠ []) (r q:Nat) (hr:r < b.rows.toNat) (hq:q < b.places.toNat) (v10 v12 v14 v20:V) (X14 X23 X24:Res) (c γ γ':Nat):∀ (d h:Nat),h + d = (b.last + 1).toNat→∀ n k,d < k→loopA (execA Tryz.prog ann kn (n+6500) 249) lb12_25 (ann 249 (fstR lb12_25)) k ⟨c,[(3,true,.ptr 0 3 0 0),(7,true,.ptr 0 7 1 0),(9,true,lli P),(10,true,v10),(12,true,v12),(14,true,v14),(20,true,v20),(21,true,i r),(22,true,i q),(23,true,.ptr 0 23 γ 0),(24,true,.ptr 0 24 γ' 0),(25,true,i (cnt (sureH (nB b N) (windsA (nB b N)) P r q) h:Nat)),(26,true,i h)],⟨[],[(3,0,.box (cellsB b)),(7,1,box7 b N),(14,2,X14),(23,γ,X23),(24,γ',X24)]⟩⟩ =
  some (.exit 4,⟨c,[(206,true,.bool false),(205,true,i b.last),(204,true,.ptr 0 3 0 0),(203,true,i (b.last + 1).toNat),(3,true,.ptr 0 3 0 0),(7,true,.ptr 0 7 1 0),(9,true,lli P),(10,true,v10),(12,true,v12),(14,true,v14),(20,true,v20),(21,true,i r),(22,true,i q),(23,true,.ptr 0 23 γ 0),(24,true,.ptr 0 24 γ' 0),(25,true,i (cnt (sureH (nB b N) (windsA (nB b N)) P r q) (b.last + 1).toNat:Nat)),(26,true,i (b.last + 1).toNat)],⟨[],[(3,0,.box (cellsB b)),(7,1,box7 b N),(14,2,X14),(23,γ,X23),(24,γ',X24)]⟩⟩)
 | 0,h,hd,n,k,hk=>by
  have hla:=hx.la
  have hh:(h:Int) = b.last + 1:=by simp only [nB] at hla; omega
  obtain ⟨k,rfl⟩:∃ k',k = k' + 1:=⟨k - 1,by omega⟩
  have hlt:¬ (h:Int)≤b.last:=by omega
  rw [loopA_succ,show (b.last + 1).toNat = h by omega]
  simp only [cellsB,box7]
  simp [hlt]
 | d + 1,h,hd,n,k,hk=>by
  have hla:=hx.la
  have hro:=hx.ro
  have hpl:=hx.pl
  simp only [nB] at hla hro hpl
  have hh:(h:Int)≤b.last:=by omega
  have hw:=wrapS (k:=h) (by omega)
  have qB:=fun n=>kBeachX n hx
  have qli:=fun n=>kListsX n hx (plan_of hp)
  have qC:=fun n=>kCalmV n (nB b N) hx.w40 P (r,q) h
  have hs:(isPlanB (nB b N) P && isSpotB (nB b N) ((r:Int),(q:Int)) && inI (h:Int) 0 (nB b N).last) = true:=by
   rw [hp,Bool.true_and,Bool.and_eq_true,inI_iff]
   simp only [isSpotB,Bool.and_eq_true,inI_iff,nB]
   omega
  unfold calmV at qC
  rw [if_pos (fault_of hx),if_pos hs,if_neg (by simpa using (show ¬ dfsW (nB b N) [] (nB b N).winds [] = [] from hE))] at qC
  have hv:=verd_rng ((windsA (nB b N)).getD (h:Int).toNat []) (fun w=>calmP (nB b N) ((r:Int),(q:Int)) (planAt P (h:Int).toNat ((r:Int),(q:Int)).1.toNat) w)
  have hv1:sureH (nB b N) (windsA (nB b N)) P r q h = decide (verd ((windsA (nB b N)).getD (h:Int).toNat []) (fun w=>calmP (nB b N) ((r:Int),(q:Int)) (planAt P (h:Int).toNat ((r:Int),(q:Int)).1.toNat) w) = 1):=rfl
  have hcl:=cnt_le (sureH (nB b N) (windsA (nB b N)) P r q) h
  have hcs:cnt (sureH (nB b N) (windsA (nB b N)) P r q) (h + 1) = cnt (sureH (nB b N) (windsA (nB b N)) P r q) h + (if sureH (nB b N) (windsA (nB b N)) P r q h = true then 1 else 0):=rfl
  have ih:=lTr25 hx hp hE r q hr hq v10 v12 v14 v20 X14 X23 X24 c γ γ' d (h + 1) (by omega) n (k - 1) (by omega)
  obtain ⟨k,rfl⟩:∃ k',k = k' + 1:=⟨k - 1,by omega⟩
  rw [Nat.add_sub_cancel,hcs,hv1] at ih
  have qi:=fun v n=>kIn n v 1 3
  generalize verd ((windsA (nB b N)).getD (h:Int).toNat []) (fun w=>calmP (nB b N) ((r:Int),(q:Int)) (planAt P (h:Int).toNat ((r:Int),(q:Int)).1.toNat) w) = v at *
  have hin:inI v 1 3 = true:=inI_iff.2 hv
  have qi:=qi v
  rw [hin] at qi
  generalize cnt (sureH (nB b N) (windsA (nB b N)) P r q) h = M at *
  have hwM:IntKind.i64.wrap ((M:Int) + 1) = (M:Int) + 1:=wrap_i64 (by omega) (by omega)
  rw [loopA_succ]
  simp only [cellsB,cellsR,box7,nB,encP] at qB qC ih ⊢
  by_cases h1:v = 1
  ·subst h1
   simp at ih
   simp [hh,hw,hwM,encI,encL,encP,plK,qB,qli,qC,qi,ih]
  ·simp [h1] at ih
   simp [hh,hw,h1,encI,encL,encP,plK,qB,qli,qC,qi,ih]
end
theorem cell_ok {x:Beach} (hx:Valid x) {ws:List (List Int)} (ha:Asked x ws) {t:List Int} (ht:t ∈ truthsR x) {P:List (List Int)} (hp:PlanOf x P) (r q:Nat) :
  (hoursP x P t r q).sun = (bndP x ws P r q).sun∧((bndP x ws P r q).calm.1≤(hoursP x P t r q).calm∧(hoursP x P t r q).calm≤(bndP x ws P r q).calm.2)∧((bndP x ws P r q).good.1≤(hoursP x P t r q).good∧(hoursP x P t r q).good≤(bndP x ws P r q).good.2) ∧
  (hoursP x P t r q).good≤(hoursP x P t r q).sun∧(hoursP x P t r q).good≤(hoursP x P t r q).calm∧(hoursP x P t r q).sun + (hoursP x P t r q).calm≤(hoursP x P t r q).good + x.last + 1 ∧
  ((cnt (sureH x ws P r q) (x.last + 1).toNat:Nat):Int) = (bndP x ws P r q).calm.1∧0≤(hoursP x P t r q).sun∧(hoursP x P t r q).sun≤5∧0≤(hoursP x P t r q).calm∧(hoursP x P t r q).calm≤5∧0≤(hoursP x P t r q).good∧(hoursP x P t r q).good≤5:=by
 obtain ⟨g1,g2⟩:=calmB_is hx ha P r q
 obtain ⟨g3,g4⟩:=goodB_is hx ha P r q
 have hle:=hoursP_le x P t r q
 have h5:=truth_len hx ht
 have hlt:=listed_len (truth_listed ht)
 have hwi:=hx.wi
 have hla:=hx.la
 have hpl:=hp.len
 have hc:=cnt_and (litB x P r) (calmAt x P t r q) t.length
 have e1:(hoursP x P t r q).sun = ((cnt (litB x P r) t.length:Nat):Int):=rfl
 have e2:(hoursP x P t r q).calm = ((cnt (calmAt x P t r q) t.length:Nat):Int):=rfl
 have e3:(hoursP x P t r q).good = ((cnt (fun h=>litB x P r h && calmAt x P t r q h) t.length:Nat):Int):=rfl
 have e4:(bndP x ws P r q).sun = ((cnt (litB x P r) P.length:Nat):Int):=rfl
 have e5:(x.last + 1).toNat = ws.length:=by rw [ha.len]; omega
 refine ⟨by rw [e1,e4,show P.length = t.length by omega],⟨g1.le t ht,g2.le t ht⟩,⟨g3.le t ht,g4.le t ht⟩,by omega,by omega,by omega,?_,by omega,by omega,by omega,by omega,by omega,by omega⟩
 rw [e5]
 exact sure_min x ws P r q
section
variable {b:Beach} {N:List (Int × Int)} {P:List (List Int)} {t:List Int}
def totQ (x:Beach) (P:List (List Int)) (t:List Int) (r q:Nat):Int:=sumU (fun r=>sumU (fun p=>(hoursP x P t r p).good) x.places.toNat) r + sumU (fun p=>(hoursP x P t r p).good) q
theorem totQ_le {x:Beach} (hx:Valid x) {P:List (List Int)} {t:List Int} (ht:t ∈ truthsR x) {r q:Nat} (hr:r≤3) (hq:q≤5):0≤totQ x P t r q∧totQ x P t r q≤1000:=by
 have h5:=truth_len hx ht
 have hpl:=hx.pl
 have hg:∀ r p,0≤(hoursP x P t r p).good∧(hoursP x P t r p).good≤5:=fun r p=>by have:=hoursP_le x P t r p; omega
 have h1:∀ r n,n≤5→0≤sumU (fun p=>(hoursP x P t r p).good) n∧sumU (fun p=>(hoursP x P t r p).good) n≤25:=fun r n hn=>by
  have:=sumU_le (n:=n) (c:=5) fun i _=>hg r i
  omega
 have h2:=sumU_le (n:=r) (c:=25) fun i _=>h1 i x.places.toNat (by omega)
 have h3:=h1 r q hq
 unfold totQ
 omega
theorem lTr17 (hx:Valid (nB b N)) (hp:isPlanB (nB b N) P = true) (hE:dfsW (nB b N) [] b.winds [] ≠ []) (ht:t ∈ truthsR (nB b N)) (r:Nat) (hr:r < b.rows.toNat) (v14:V) (X14:Res):∀ (d q c:Nat),q + d = b.places.toNat→3≤c→∃ c',3≤c'∧∀ n k,d < k→loopA (execA Tryz.prog ann kn (n+6600) 249) lb12_17 (ann 249 (fstR lb12_17)) k ⟨c,[(3,true,.ptr 0 3 0 0),(7,true,.ptr 0 7 1 0),(9,true,lli P),(10,true,.list false ((playP (nB b N) P t b.rows.toNat).map encHs)),(12,true,.list false ((bndsP (nB b N) (windsA (nB b N)) P b.rows.toNat).map encBs)),(14,true,v14),(20,true,i (totQ (nB b N) P t r q)),(21,true,i r),(22,true,i q)],⟨[],[(3,0,.box (cellsB b)),(7,1,box7 b N),(14,2,X14)]⟩⟩ =
  some (.exit 2,⟨c',[(133,true,.bool false),(132,true,i b.places),(131,true,.ptr 0 3 0 2),(130,true,i b.places.toNat),(3,true,.ptr 0 3 0 0),(7,true,.ptr 0 7 1 0),(9,true,lli P),(10,true,.list false ((playP (nB b N) P t b.rows.toNat).map encHs)),(12,true,.list false ((bndsP (nB b N) (windsA (nB b N)) P b.rows.toNat).map encBs)),(14,true,v14),(20,true,i (totQ (nB b N) P t r b.places.toNat)),(21,true,i r),(22,true,i b.places.toNat)],⟨[],[(3,0,.box (cellsB b)),(7,1,box7 b N),(14,2,X14)]⟩⟩)
 | 0,q,c,hd,hc=>by
  have hpl:=hx.pl
  simp only [nB] at hpl
  have hq:(q:Int) = b.places:=by omega
  have hlt:¬ (q:Int) < b.places:=by omega
  refine ⟨c,hc,fun n k hk=>?_⟩
  obtain ⟨k,rfl⟩:∃ k',k = k' + 1:=⟨k - 1,by omega⟩
  rw [loopA_succ,show b.places.toNat = q by omega]
  simp only [cellsB,box7]
  simp [hlt]
 | d + 1,q,c,hd,hc=>by
  have hla:=hx.la
  have hro:=hx.ro
  have hpl:=hx.pl
  simp only [nB] at hla hro hpl
  have hq:(q:Int) < b.places:=by omega
  have hw:=wrapS (k:=q) (by omega)
  have ha:=asked_dfs hx hE
  obtain ⟨k1,⟨k2,k3⟩,⟨k4,k5⟩,k6,k7,k8,k9,b1,b2,b3,b4,b5,b6⟩:=cell_ok hx ha ht (plan_of hp) r q
  have k8:(hoursP (nB b N) P t r q).sun + (hoursP (nB b N) P t r q).calm≤(hoursP (nB b N) P t r q).good + b.last + 1:=k8
  have k9:((cnt (sureH (nB b N) (windsA (nB b N)) P r q) (b.last + 1).toNat:Nat):Int) = (bndP (nB b N) (windsA (nB b N)) P r q).calm.1:=k9
  have htq:=totQ_le hx ht (P:=P) (r:=r) (q:=q) (by omega) (by omega)
  have hts:totQ (nB b N) P t r (q + 1) = totQ (nB b N) P t r q + (hoursP (nB b N) P t r q).good:=(Int.add_assoc _ _ _).symm
  have l1:r < (playP (nB b N) P t b.rows.toNat).length:=by simp [playP]; omega
  have g1:(playP (nB b N) P t b.rows.toNat)[r] = rowP (nB b N) P t r:=by simp [playP]
  have l2:q < (rowP (nB b N) P t r).length:=by simp [rowP,nB]; omega
  have g2:(rowP (nB b N) P t r)[q] = hoursP (nB b N) P t r q:=by simp [rowP]
  have l3:r < (bndsP (nB b N) (windsA (nB b N)) P b.rows.toNat).length:=by simp [bndsP]; omega
  have g3:(bndsP (nB b N) (windsA (nB b N)) P b.rows.toNat)[r] = rowB (nB b N) (windsA (nB b N)) P r:=by simp [bndsP]
  have l4:q < (rowB (nB b N) (windsA (nB b N)) P r).length:=by simp [rowB,nB]; omega
  have g4:(rowB (nB b N) (windsA (nB b N)) P r)[q] = bndP (nB b N) (windsA (nB b N)) P r q:=by simp [rowB]
  obtain ⟨c',hc',ih⟩:=lTr17 hx hp hE ht r hr v14 X14 d (q + 1) (c + 1 + 1) (by omega) (by omega)
  rw [hts] at ih
  have qh:=fun n k=>lTr25 hx hp hE r q hr (by omega) (.list false ((playP (nB b N) P t b.rows.toNat).map encHs)) (.list false ((bndsP (nB b N) (windsA (nB b N)) P b.rows.toNat).map encBs)) v14 (i (totQ (nB b N) P t r q + (hoursP (nB b N) P t r q).good)) X14 (.box (encH (hoursP (nB b N) P t r q))) (.box (encB (bndP (nB b N) (windsA (nB b N)) P r q))) (c + 1 + 1) c (c + 1) (b.last + 1).toNat 0 (by omega) n (k + 10) (by omega)
  rw [k9] at qh
  have c0:cnt (sureH (nB b N) (windsA (nB b N)) P r q) 0 = 0:=rfl
  rw [c0] at qh
  generalize totQ (nB b N) P t r q = TQ at *
  generalize playP (nB b N) P t b.rows.toNat = K at *
  generalize bndsP (nB b N) (windsA (nB b N)) P b.rows.toNat = A at *
  generalize rowP (nB b N) P t r = Kr at *
  generalize rowB (nB b N) (windsA (nB b N)) P r = Ar at *
  generalize hoursP (nB b N) P t r q = a at *
  generalize bndP (nB b N) (windsA (nB b N)) P r q = D at *
  have w1:IntKind.i64.wrap (TQ + a.good) = TQ + a.good:=wrap_i64 (by omega) (by omega)
  have w2:IntKind.i64.wrap (D.sun + a.calm) = D.sun + a.calm:=wrap_i64 (by omega) (by omega)
  have w3:IntKind.i64.wrap (D.sun + a.calm - b.last) = D.sun + a.calm - b.last:=wrap_i64 (by omega) (by omega)
  have w4:IntKind.i64.wrap (D.sun + a.calm - b.last - 1) = D.sun + a.calm - b.last - 1:=wrap_i64 (by omega) (by omega)
  have q1:=fun n=>kInR n a.calm D.calm
  have q2:=fun n=>kInR n a.good D.good
  rw [decide_eq_true k2,decide_eq_true k3,Bool.and_self] at q1
  rw [decide_eq_true k4,decide_eq_true k5,Bool.and_self] at q2
  have t1:¬ D.sun < a.good:=by omega
  have t2:¬ a.calm < a.good:=by omega
  have t3:¬ a.good < D.sun + a.calm - b.last - 1:=by omega
  have t4:¬ a.calm < D.calm.1:=by omega
  refine ⟨c',hc',fun n k hk=>?_⟩
  obtain ⟨k,rfl⟩:∃ k',k = k' + 1:=⟨k - 1,by omega⟩
  have ih:=ih n k (by omega)
  rw [loopA_succ]
  simp only [cellsB,box7,encH,encB,k1] at qh ih ⊢
  simp at qh ih
  have hc2:c < c + 1 + 1:=by omega
  simp [hq,hw,encHs,encH,encBs,encB,plK,l1,l2,l3,l4,g1,g2,g3,g4,k1,q1,q2,w1,w2,w3,w4,t1,t2,t3,t4,hc2,qh,ih,put_eqX]
theorem totQ_row (x:Beach) (P:List (List Int)) (t:List Int) (r:Nat):totQ x P t r x.places.toNat = totQ x P t (r + 1) 0:=by
 show _ = sumU (fun r=>sumU (fun p=>(hoursP x P t r p).good) x.places.toNat) (r + 1) + 0
 rw [Int.add_zero]
 rfl
theorem lTr14 (hx:Valid (nB b N)) (hp:isPlanB (nB b N) P = true) (hE:dfsW (nB b N) [] b.winds [] ≠ []) (ht:t ∈ truthsR (nB b N)) (v14:V) (X14:Res):∀ (d r c:Nat),r + d = b.rows.toNat→3≤c→∃ c',3≤c'∧∀ n k,d < k→loopA (execA Tryz.prog ann kn (n+6800) 249) lb12_14 (ann 249 (fstR lb12_14)) k ⟨c,[(3,true,.ptr 0 3 0 0),(7,true,.ptr 0 7 1 0),(9,true,lli P),(10,true,.list false ((playP (nB b N) P t b.rows.toNat).map encHs)),(12,true,.list false ((bndsP (nB b N) (windsA (nB b N)) P b.rows.toNat).map encBs)),(14,true,v14),(20,true,i (totQ (nB b N) P t r 0)),(21,true,i r)],⟨[],[(3,0,.box (cellsB b)),(7,1,box7 b N),(14,2,X14)]⟩⟩ =
  some (.exit 0,⟨c',[(127,true,.bool false),(126,true,i b.rows),(125,true,.ptr 0 3 0 1),(124,true,i b.rows.toNat),(3,true,.ptr 0 3 0 0),(7,true,.ptr 0 7 1 0),(9,true,lli P),(10,true,.list false ((playP (nB b N) P t b.rows.toNat).map encHs)),(12,true,.list false ((bndsP (nB b N) (windsA (nB b N)) P b.rows.toNat).map encBs)),(14,true,v14),(20,true,i (totQ (nB b N) P t b.rows.toNat 0)),(21,true,i b.rows.toNat)],⟨[],[(3,0,.box (cellsB b)),(7,1,box7 b N),(14,2,X14)]⟩⟩)
 | 0,r,c,hd,hc=>by
  have hro:=hx.ro
  simp only [nB] at hro
  have hlt:¬ (r:Int) < b.rows:=by omega
  refine ⟨c,hc,fun n k hk=>?_⟩
  obtain ⟨k,rfl⟩:∃ k',k = k' + 1:=⟨k - 1,by omega⟩
  have hr:b.rows = (r:Int):=by omega
  rw [loopA_succ]
  generalize hA:playP (nB b N) P t b.rows.toNat = A
  generalize hB:bndsP (nB b N) (windsA (nB b N)) P b.rows.toNat = B
  rw [show b.rows.toNat = r by omega]
  simp only [cellsB,box7]
  simp [hlt]
 | d + 1,r,c,hd,hc=>by
  have hro:=hx.ro
  have hpl:=hx.pl
  simp only [nB] at hro hpl
  have hr:(r:Int) < b.rows:=by omega
  have hw:=wrapS (k:=r) (by omega)
  obtain ⟨c1,hc1,q17⟩:=lTr17 hx hp hE ht r (by omega) v14 X14 b.places.toNat 0 c (by omega) hc
  have q17:=fun n k=>q17 n (k + 10) (by omega)
  have er:totQ (nB b N) P t r b.places.toNat = totQ (nB b N) P t (r + 1) 0:=totQ_row (nB b N) P t r
  rw [er] at q17
  obtain ⟨c',hc',ih⟩:=lTr14 hx hp hE ht v14 X14 d (r + 1) c1 (by omega) hc1
  refine ⟨c',hc',fun n k hk=>?_⟩
  obtain ⟨k,rfl⟩:∃ k',k = k' + 1:=⟨k - 1,by omega⟩
  have ih:=ih n k (by omega)
  generalize totQ (nB b N) P t b.rows.toNat 0 = TT at *
  generalize totQ (nB b N) P t (r + 1) 0 = T1 at *
  generalize totQ (nB b N) P t r 0 = T0 at *
  generalize playP (nB b N) P t b.rows.toNat = K at *
  generalize bndsP (nB b N) (windsA (nB b N)) P b.rows.toNat = A at *
  rw [loopA_succ]
  simp only [cellsB,box7] at q17 ih ⊢
  simp at q17 ih
  simp [hr,hw,q17,ih]
end
set_option maxHeartbeats 4000000 in
theorem kTruthL (n:Nat) (b:Beach) (_:okB b) (w:Nat) (hw:w≤65535) (ws:List Nat) (hws:∀ w ∈ ws,w≤65535):call0 Tryz.prog (execA Tryz.prog ann kn (n+7000)) 12 [.agg (cellsB b),.int .u16 w,.list false (ws.map encW)] = some (.bool true):=by
 rw [call0_eq Tryz.func12 b12 rfl (by simp [cellsB,encI,encL,encP,encW])]
 have qr:=fun n=>kReady n b
 cases hR:readyB b with
 | false =>
  rw [hR] at qr
  simp only [cellsB] at qr ⊢
  simp [c12,argFr,qr,encI,encL,encP,encW,kAwakeX]
 | true =>
  rw [hR] at qr
  obtain ⟨hb,_⟩:=ready_of hR
  have hla:=hb.la
  have hro:=hb.ro
  have hpc:=hb.pl
  have hwi:=hb.wi
  have hp:=planW_ok hb ws
  have hpo:=plan_of hp
  have qp:=fun n=>kPlan n b hb ws hws
  have qN:=fun n=>kNoted n b hb w hw ws hws
  have ht:=nth_listed (fun l hl=>hb.ne l hl) (w % manyN b.winds)
  have hk:wordN ws 6 % 6≤5:=by omega
  generalize nthGo b.winds (w % manyN b.winds) = t at *
  generalize wordN ws 6 % 6 = k at *
  have hx:=noted_valid hb ht ws hk
  have htr:=noted_truth hb ht ws k
  have htx:listedGo t (notedB b t ws k).winds = true:=ht
  have hpx:isPlanB (notedB b t ws k) (planOfW b ws) = true:=hp
  have hpox:=plan_of hpx
  have hE:dfsW (notedB b t ws k) [] (notedB b t ws k).winds [] ≠ []:=List.ne_nil_of_mem ((mem_dfs _ _).2 htr)
  have qB:=fun n=>kBeachX n hx
  have qli:=fun n=>kListsX n hb hpo
  have hlt:=listed_len ht
  have hne:t ≠ []:=fun h=>by rw [h] at hlt; simp at hlt; omega
  have qt:=fun n=>kList n t (by omega)
  have qP:=fun n=>kPlayL n _ hx.w40 (planOfW b ws) t
  have qb:=fun n=>kBoundsV n _ hx.w40 (planOfW b ws)
  have qT:=fun n=>kTotal n _ hx.w40 (planOfW b ws)
  have qL:=fun n=>kLeave n _ hx.w40 (fun _=>by rw [leave_none htr]; rfl)
  have qF:=fun n=>kFirst n _ hx.w40
  have qPr:=fun n=>kProveTruth n _ hx.w40 t
  have f0:=fault_of hx
  rw [totalV_ok hx hpx hE] at qT
  unfold boundsV at qb
  rw [if_pos f0,if_pos hpx,if_neg (by simpa using hE)] at qb
  unfold playV at qP
  rw [if_neg (by simp [f0]),if_pos ⟨hpx,htx⟩] at qP
  unfold leaveV at qL
  rw [if_pos f0,leave_none htr] at qL
  unfold firstV at qF
  rw [if_pos f0,first_none' htr] at qF
  rw [f0,htr] at qPr
  have hbl:(bndsP (notedB b t ws k) (windsA (notedB b t ws k)) (planOfW b ws) (notedB b t ws k).rows.toNat).length = b.rows.toNat:=by simp [bndsP]; rfl
  have hpl:(playP (notedB b t ws k) (planOfW b ws) t (notedB b t ws k).rows.toNat).length = b.rows.toNat:=by simp [playP]; rfl
  have hbne:bndsP (notedB b t ws k) (windsA (notedB b t ws k)) (planOfW b ws) (notedB b t ws k).rows.toNat ≠ []:=fun h=>by
   rw [h] at hbl
   simp at hbl
   omega
  have hpne:playP (notedB b t ws k) (planOfW b ws) t (notedB b t ws k).rows.toNat ≠ []:=fun h=>by
   rw [h] at hpl
   simp at hpl
   omega
  have qo:=fun n=>kBounded n (notedB b t ws k) (bndsP (notedB b t ws k) (windsA (notedB b t ws k)) (planOfW b ws) (notedB b t ws k).rows.toNat) (by omega)
  rw [bounded_ok hx] at qo
  have qs:=fun n=>kShaped n (notedB b t ws k) (playP (notedB b t ws k) (planOfW b ws) t (notedB b t ws k).rows.toNat) (by omega)
  rw [shaped_any hx rfl] at qs
  rw [slX hbne] at qb
  rw [slX hpne] at qP
  have hst:sl (t.map encI) = .list false (t.map encI):=slX hne
  rw [hst] at qN
  have slnil:sl ([]:List (List V)) = .nil:=rfl
  have hsn:∀ l:List (Int × Int),sl (l.map encP) = if l = [] then .nil else .list false (l.map encP):=fun l=>by cases l <;> rfl
  have hmem:t ∈ truthsR (notedB b t ws k):=mem_truths.2 htr
  obtain ⟨g5,g6⟩:=totalP_is hx (asked_dfs hx hE) hpox
  have hR1:=g5.le t hmem
  have hR2:=g6.le t hmem
  obtain ⟨c',hc',q14⟩:=lTr14 (b:=b) (N:=notesT t ws (b.last + 1).toNat k) (P:=planOfW b ws) (t:=t) hx hpx hE hmem (.ptr 0 14 2 0) (.box [i (totalP (notedB b t ws k) (windsA (notedB b t ws k)) (planOfW b ws)).1,i (totalP (notedB b t ws k) (windsA (notedB b t ws k)) (planOfW b ws)).2]) b.rows.toNat 0 3 (by omega) (by omega)
  have q14:=fun n k=>q14 n (k + 10) (by omega)
  change totT (notedB b t ws k) (planOfW b ws) t≤_ at hR2
  change _≤totT (notedB b t ws k) (planOfW b ws) t at hR1
  have ef:totQ (nB b (notesT t ws (b.last + 1).toNat k)) (planOfW b ws) t b.rows.toNat 0 = totT (notedB b t ws k) (planOfW b ws) t:=Int.add_zero _
  have e0:totQ (nB b (notesT t ws (b.last + 1).toNat k)) (planOfW b ws) t 0 0 = 0:=rfl
  rw [ef,e0] at q14
  have eA:bndsP (nB b (notesT t ws (b.last + 1).toNat k)) (windsA (nB b (notesT t ws (b.last + 1).toNat k))) (planOfW b ws) b.rows.toNat = bndsP (notedB b t ws k) (windsA (notedB b t ws k)) (planOfW b ws) (notedB b t ws k).rows.toNat:=rfl
  have eK:playP (nB b (notesT t ws (b.last + 1).toNat k)) (planOfW b ws) t b.rows.toNat = playP (notedB b t ws k) (planOfW b ws) t (notedB b t ws k).rows.toNat:=rfl
  rw [eA,eK] at q14
  clear eA eK ef e0 g5 g6
  have qin:=fun n=>kInR n (totT (notedB b t ws k) (planOfW b ws) t) (totalP (notedB b t ws k) (windsA (notedB b t ws k)) (planOfW b ws))
  rw [decide_eq_true hR1,decide_eq_true hR2,Bool.and_self] at qin
  generalize totT (notedB b t ws k) (planOfW b ws) t = TT at *
  generalize bndsP (notedB b t ws k) (windsA (notedB b t ws k)) (planOfW b ws) (notedB b t ws k).rows.toNat = A at *
  generalize playP (notedB b t ws k) (planOfW b ws) t (notedB b t ws k).rows.toNat = K at *
  generalize totalP (notedB b t ws k) (windsA (notedB b t ws k)) (planOfW b ws) = R at *
  generalize planOfW b ws = P at *
  simp only [cellsB,cellsR,box7,encR,List.map_nil,Option.getD_some,slnil,notedB] at qr qp qN qB qP qb qT qL qF qPr qo qs q14 ⊢
  generalize notesT t ws (b.last + 1).toNat k = N at *
  simp at q14
  simp [c12,argFr,encI,encL,encP,encW,encBs,encB,encHs,encH,plK,qr,qp,qN,qB,qli,qt,qP,qb,qT,qL,qF,qPr,qo,qs,q14,qin,kAwakeX]
end Go.Proofs.Tryz.Op
