/- Contracts: out. No condition. -/
import Derived.Test.YtfbbnkaahnpicaaX1
import Derived.Test.YtfbbnkaahnpicaaFz
open Go Go.Pg Go.Proofs
namespace Go.Proofs.Try.Op
set_option maxRecDepth 100000
set_option linter.unusedSimpArgs false
def min1 (x:Int):Int:=if 1 < x then 1 else x
def out4 (l:List Int):List Int:=l.map min1
theorem ow98 (n d t c:Nat) (fr:Fr) (s:St) (a b:Int):stepK Try.prog (envA Try.prog ann kn (n + 200)) (some d) (.call true none (.func 98) [.tmp t]) ⟨c,(t,true,.list true [[.int .i64 a],[.int .i64 b]]) :: fr,s⟩ =
  some ⟨c + 1,(d,true,.int .i64 (if b < a then b else a)) :: (t,true,.list true [[.int .i64 a],[.int .i64 b]]) :: fr,s.put s.up.length d c .dead⟩:=by
 rw [own_call (f:=98) (first:=[]) (cap:=[]) (vs:=[.list true [[.int .i64 a],[.int .i64 b]]]) (r:=.int .i64 (if b < a then b else a)) (by simp) (by simp) (by kernel_rfl) (by simp) (by simpa using k98 n a b)]
 rfl
theorem k118 (n:Nat) (h:List Int) (hl:h.length = 4):callK Try.prog kn (execA Try.prog ann kn (n+300)) 118 [.agg (h.map i)] = some (.agg ((out4 h).map i)):=by
 obtain ⟨a0,a1,a2,a3,rfl⟩:=four hl
 rw [callK_of rfl,call0_eq Try.func118 b118 rfl (by simp)]
 have o1:=fun d t c fr s a b=>ow98 (n + 89) d t c fr s a b
 have o2:=fun d t c fr s a b=>ow98 (n + 88) d t c fr s a b
 simp only [Nat.add_assoc,Nat.reduceAdd] at o1 o2
 simp [c118,argFr,loopA_succ,o1,o2,out4,min1]
structure Mom where
 k:Int
 ch:List Int
 tk:List Int
deriving DecidableEq
structure Mom.ok (m:Mom):Prop where
 ch:m.ch.length = 4
 tk:m.tk.length = 4
 wk:okI m.k
 wc:∀ x ∈ m.ch,okI x
 wt:∀ x ∈ m.tk,okI x
def encM (m:Mom):List V:=i m.k :: (m.ch.map i ++ m.tk.map i)
def encK (p:Mom × Bool):V × V:=(.agg (encM p.1),.bool p.2)
theorem kl3 (d:Nat) {n:Int} (h:(Lit.int .i64 n).wf = true):Try.prog.keyLits (d + 1) 3 [.int .i64 n] = some [.int .i64 n]:=by
 unfold Program.keyLits
 rw [Try.underlying3]
 simp only
 rw [if_pos ⟨trivial,h⟩]
theorem kl111 (d:Nat) {a b c e:Int} (ha:(Lit.int .i64 a).wf = true) (hb:(Lit.int .i64 b).wf = true) (hc:(Lit.int .i64 c).wf = true) (he:(Lit.int .i64 e).wf = true) :
  Try.prog.keyLits (d + 2) 111 [.int .i64 a,.int .i64 b,.int .i64 c,.int .i64 e] = some [.int .i64 a,.int .i64 b,.int .i64 c,.int .i64 e]:=by
 have c3:Try.prog.cellsOf 3 = 1:=cells_3
 unfold Program.keyLits
 rw [Try.underlying111]
 simp only
 rw [if_pos (by rw [cells_111]; rfl),show List.range 4 = [0,1,2,3] from rfl]
 simp [List.mapM_cons,c3,kl3 d ha,kl3 d hb,kl3 d hc,kl3 d he]
theorem kl159 (d:Nat) {k a0 a1 a2 a3 b0 b1 b2 b3:Int} (hk:(Lit.int .i64 k).wf = true) (h0:(Lit.int .i64 a0).wf = true) (h1:(Lit.int .i64 a1).wf = true) (h2:(Lit.int .i64 a2).wf = true) (h3:(Lit.int .i64 a3).wf = true)
  (g0:(Lit.int .i64 b0).wf = true) (g1:(Lit.int .i64 b1).wf = true) (g2:(Lit.int .i64 b2).wf = true) (g3:(Lit.int .i64 b3).wf = true) :
  (Try.prog.keyLits (d + 3) 159 [.int .i64 k,.int .i64 a0,.int .i64 a1,.int .i64 a2,.int .i64 a3,.int .i64 b0,.int .i64 b1,.int .i64 b2,.int .i64 b3]).isSome = true:=by
 have c3:Try.prog.cellsOf 3 = 1:=cells_3
 have c111:Try.prog.cellsOf 111 = 4:=cells_111
 unfold Program.keyLits
 rw [Try.underlying159]
 simp only
 rw [if_pos (by rw [cells_159]; exact ⟨rfl,by decide +kernel⟩)]
 simp [List.mapM_cons,c3,c111,kl3 (d + 1) hk,kl111 d h0 h1 h2 h3,kl111 d g0 g1 g2 g3]
theorem keyT3:Try.prog.keyType 159 = true:=by kernel_rfl
theorem size3:Try.prog.types.size + 1 = (Try.prog.types.size - 2) + 3:=by
 have:2≤Try.prog.types.size:=of_decide_eq_true (by kernel_rfl)
 omega
theorem keyVM (m:Mom) (h:m.ok):keyV Try.prog 159 (.agg (encM m)) = some (encM m):=by
 obtain ⟨k,ch,tk⟩:=m
 obtain ⟨a0,a1,a2,a3,rfl⟩:=four h.ch
 obtain ⟨b0,b1,b2,b3,rfl⟩:=four h.tk
 have hk:=wfI h.wk
 have hc:=h.wc
 have ht:=h.wt
 simp only [List.mem_cons,List.not_mem_nil,or_false,forall_eq_or_imp,forall_eq] at hc ht
 have q:=kl159 (Try.prog.types.size - 2) hk (wfI hc.1) (wfI hc.2.1) (wfI hc.2.2.1) (wfI hc.2.2.2) (wfI ht.1) (wfI ht.2.1) (wfI ht.2.2.1) (wfI ht.2.2.2)
 rw [← size3] at q
 have hf:(Value.agg #[.int .i64 k,.int .i64 a0,.int .i64 a1,.int .i64 a2,.int .i64 a3,.int .i64 b0,.int .i64 b1,.int .i64 b2,.int .i64 b3]).formed Try.prog 159 = true:=by
  unfold Value.formed
  rw [Try.underlying159]
  simp [cells_159]
 have hko:(keyOf Try.prog 159 (.agg #[.int .i64 k,.int .i64 a0,.int .i64 a1,.int .i64 a2,.int .i64 a3,.int .i64 b0,.int .i64 b1,.int .i64 b2,.int .i64 b3])).isSome = true:=by
  unfold keyOf
  rw [Try.underlying159]
  simp only
  rw [if_pos (by rw [keyT3,hf]; rfl),Option.isSome_map]
  exact q
 have hp:plainC (encM ⟨k,[a0,a1,a2,a3],[b0,b1,b2,b3]⟩) = some [.int .i64 k,.int .i64 a0,.int .i64 a1,.int .i64 a2,.int .i64 a3,.int .i64 b0,.int .i64 b1,.int .i64 b2,.int .i64 b3]:=rfl
 unfold keyV
 simp only [hp]
 rw [if_pos hko]
theorem keyT159:keyT Try.prog 159 = true:=by kernel_rfl
theorem mapT151:mapT Try.prog 151 = some (159,4):=by kernel_rfl
theorem eqC_ints:∀ (x y:List Int),x.length = y.length→eqC (x.map i) (y.map i) = some (x == y)
 | [],[],_=>rfl
 | a :: x,b :: y,h=>by
  have ih:=eqC_ints x y (by simpa using h)
  simp only [List.map_cons]
  show (if IntKind.i64 = IntKind.i64 then (match eqC (x.map i) (y.map i) with | some r=>some ((a == b) && r) | none=>none) else none) = _
  rw [if_pos rfl,ih]
  rfl
theorem eqC_M (m n:Mom) (hm:m.ok) (hn:n.ok):eqC (encM m) (encM n) = some (decide (m = n)):=by
 have:=eqC_ints (m.k :: (m.ch ++ m.tk)) (n.k :: (n.ch ++ n.tk)) (by simp [hm.ch,hm.tk,hn.ch,hn.tk])
 simp only [List.map_cons,List.map_append] at this
 show eqC (i m.k :: (m.ch.map i ++ m.tk.map i)) (i n.k :: (n.ch.map i ++ n.tk.map i)) = _
 rw [this]
 congr 1
 obtain ⟨k,ch,tk⟩:=m
 obtain ⟨k',ch',tk'⟩:=n
 have h1:=hm.ch
 have h2:=hn.ch
 simp only at h1 h2
 by_cases h:(⟨k,ch,tk⟩:Mom) = ⟨k',ch',tk'⟩
 ·simp only [Mom.mk.injEq] at h
  obtain ⟨rfl,rfl,rfl⟩:=h
  simp
 ·rw [decide_eq_false h,beq_eq_false_iff_ne]
  intro hh
  simp only [List.cons.injEq] at hh
  obtain ⟨rfl,hh⟩:=hh
  obtain ⟨rfl,rfl⟩:=List.append_inj hh (by rw [h1,h2])
  exact h rfl
def posM (m:Mom):List (Mom × Bool)→Nat→List Nat
 | [],_=>[]
 | p :: L,j=>if p.1 = m then j :: posM m L (j + 1) else posM m L (j + 1)
theorem findV_M (m:Mom) (hm:m.ok):∀ (L:List (Mom × Bool)) (j:Nat),(∀ p ∈ L,p.1.ok)→findV Try.prog 159 (encM m) (L.map encK) j = some (posM m L j)
 | [],_,_=>rfl
 | p :: L,j,h=>by
  have ih:=findV_M m hm L (j + 1) (fun q hq=>h q (by simp [hq]))
  simp only [List.map_cons,encK,findV,keyVM p.1 (h p (by simp)),eqC_M p.1 m (h p (by simp)) hm]
  have ih':findV Try.prog 159 (encM m) (List.map encK L) (j + 1) = some (posM m L (j + 1)):=ih
  rw [ih']
  simp [posM]
def lookM (m:Mom):List (Mom × Bool)→Option Bool
 | []=>none
 | p :: L=>if p.1 = m then some p.2 else lookM m L
def updM (m:Mom) (b:Bool):List (Mom × Bool)→List (Mom × Bool)
 | []=>[(m,b)]
 | p :: L=>if p.1 = m then (m,b) :: L else p :: updM m b L
structure okT (L:List (Mom × Bool)):Prop where
 ok:∀ p ∈ L,p.1.ok
 nd:(L.map (·.1)).Nodup
theorem okT.tail {p:Mom × Bool} {L:List (Mom × Bool)} (h:okT (p :: L)):okT L:=⟨fun q hq=>h.ok q (by simp [hq]),(List.nodup_cons.1 h.nd).2⟩
theorem look_upd (m m':Mom) (b:Bool):∀ L,lookM m' (updM m b L) = if m = m' then some b else lookM m' L
 | []=>by simp [updM,lookM]
 | p :: L=>by
  have ih:=look_upd m m' b L
  unfold updM
  split
  ·rename_i h
   simp only [lookM,h]
   split <;> rfl
  ·rename_i h
   simp only [lookM,ih]
   split
   ·rename_i h2
    rw [if_neg (by rw [← h2]; exact fun hh=>h hh.symm)]
   ·rfl
theorem keys_upd (m:Mom) (b:Bool):∀ L,∀ q ∈ (updM m b L).map (·.1),q = m∨q ∈ L.map (·.1)
 | [],q,hq=>by simp [updM] at hq; exact .inl hq
 | p :: L,q,hq=>by
  unfold updM at hq
  split at hq
  ·simp at hq
   rcases hq with h | h
   ·exact .inl h
   ·exact .inr (by simp [h])
  ·simp only [List.map_cons,List.mem_cons] at hq
   rcases hq with h | h
   ·exact .inr (by simp [h])
   ·rcases keys_upd m b L q h with h | h
    ·exact .inl h
    ·exact .inr (by simp only [List.map_cons,List.mem_cons]; exact .inr h)
theorem okT_upd {m:Mom} (b:Bool) (hm:m.ok):∀ {L},okT L→okT (updM m b L)
 | [],_=>⟨by simp [updM,hm],by simp [updM]⟩
 | p :: L,h=>by
  have ih:=okT_upd b hm h.tail
  unfold updM
  split
  ·rename_i hp
   refine ⟨fun q hq=>?_,?_⟩
   ·simp only [List.mem_cons] at hq
    rcases hq with rfl | hq
    ·exact hm
    ·exact h.ok q (by simp [hq])
   ·have:=h.nd
    simp only [List.map_cons,hp] at this ⊢
    exact this
  ·rename_i hp
   refine ⟨fun q hq=>?_,?_⟩
   ·simp only [List.mem_cons] at hq
    rcases hq with rfl | hq
    ·exact h.ok q (by simp)
    ·exact ih.ok q hq
   ·simp only [List.map_cons,List.nodup_cons]
    refine ⟨fun hh=>?_,ih.nd⟩
    rcases keys_upd m b L p.1 hh with hh | hh
    ·exact hp hh
    ·exact (List.nodup_cons.1 h.nd).1 hh
theorem pos_none (m:Mom):∀ (L:List (Mom × Bool)) (j:Nat),m ∉ L.map (·.1)→posM m L j = []∧lookM m L = none∧∀ b,updM m b L = L ++ [(m,b)]
 | [],j,_=>⟨rfl,rfl,fun _=>rfl⟩
 | p :: L,j,h=>by
  simp only [List.map_cons,List.mem_cons,not_or] at h
  obtain ⟨i1,i2,i3⟩:=pos_none m L (j + 1) h.2
  have hp:¬ p.1 = m:=fun hh=>h.1 hh.symm
  exact ⟨by simp [posM,hp,i1],by simp [lookM,hp,i2],fun b=>by simp [updM,hp,i3]⟩
theorem pos_some (m:Mom):∀ (L:List (Mom × Bool)) (j:Nat),m ∈ L.map (·.1)→(L.map (·.1)).Nodup→∃ k,posM m L j = [j + k]∧(∃ b,L[k]? = some (m,b)∧lookM m L = some b)∧∀ b,updM m b L = L.set k (m,b)
 | p :: L,j,h,hn=>by
  simp only [List.map_cons,List.nodup_cons] at hn
  by_cases hp:p.1 = m
  ·refine ⟨0,?_,⟨p.2,?_,?_⟩,fun b=>?_⟩
   ·simp [posM,hp,(pos_none m L (j + 1) (by rw [← hp]; exact hn.1)).1]
   ·simp [← hp]
   ·simp [lookM,hp]
   ·simp [updM,hp]
  ·simp only [List.map_cons,List.mem_cons] at h
   obtain ⟨k,i1,⟨b,i2,i3⟩,i4⟩:=pos_some m L (j + 1) (h.resolve_left fun hh=>hp hh.symm) hn.2
   refine ⟨k + 1,?_,⟨b,?_,?_⟩,fun b=>?_⟩
   ·simp [posM,hp,i1]; omega
   ·simpa using i2
   ·simp [lookM,hp,i3]
   ·simp [updM,hp,i4]
theorem wholeZ4:wholeZ Try.prog 4 = some (.bool false):=by kernel_rfl
theorem look_run {s:St} {l q g:Nat} {L:List (Mom × Bool)} {m:Mom} (hs:s.get l q = some (g,.map (L.map encK))) (hL:okT L) (hm:m.ok) :
  evLookup Try.prog s 151 (.mp l q g) (.agg (encM m)) true = some (.tup [.bool ((lookM m L).getD false),.bool (lookM m L).isSome]):=by
 unfold evLookup
 simp only [mapT151,hs,keyT159,keyVM m hm,findV_M m hm L 0 hL.ok,and_self,if_true]
 by_cases h:m ∈ L.map (·.1)
 ·obtain ⟨k,i1,⟨b,i2,i3⟩,_⟩:=pos_some m L 0 h hL.nd
  simp [i1,i2,i3,encK]
 ·obtain ⟨i1,i2,_⟩:=pos_none m L 0 h
  simp [i1,i2,wholeZ4]
theorem upd_run {s:St} {l q g:Nat} {L:List (Mom × Bool)} {m:Mom} {b:Bool} (hs:s.get l q = some (g,.map (L.map encK))) (hL:okT L) (hm:m.ok) :
  evUpd Try.prog s 151 (.mp l q g) (.agg (encM m)) (.bool b) = some (l,q,g,(updM m b L).map encK):=by
 unfold evUpd
 simp only [mapT151,hs,keyT159,keyVM m hm,findV_M m hm L 0 hL.ok,and_self,if_true]
 by_cases h:m ∈ L.map (·.1)
 ·obtain ⟨k,i1,_,i4⟩:=pos_some m L 0 h hL.nd
  simp [i1,i4,encK]
 ·obtain ⟨i1,_,i4⟩:=pos_none m L 0 h
  simp [i1,i4,encK]
def endsP (b:Book):Nat→Nat→Scene→Bool
 | 0,k,s=>b.counts.all (countOne s.money k)
 | d + 1,k,s=>b.counts.all (countOne s.money k) && (match b.lines[k]? with
  | some l=>(readingsP b.chairs l).any fun x=>(nextB b.coin s k x).2 && endsP b d (k + 1) (nextB b.coin s k x).1
  | none=>false)
structure Alike (s s':Scene):Prop where
 lc:s.ch.length = s'.ch.length
 lt:s.tk.length = s'.tk.length
 ch:∀ j,s.ch.getD j 0 = 0 ↔ s'.ch.getD j 0 = 0
 tk:∀ j,s.tk.getD j 0 = 0 ↔ s'.tk.getD j 0 = 0
 mo:s.money = s'.money
theorem set_alike {l l':List Int} (hl:l.length = l'.length) (h:∀ j,l.getD j 0 = 0 ↔ l'.getD j 0 = 0) (n:Nat) (v:Int):∀ j,(l.set n v).getD j 0 = 0 ↔ (l'.set n v).getD j 0 = 0:=by
 intro j
 have:=h j
 simp only [List.getD_eq_getElem?_getD,List.getElem?_set] at this ⊢
 by_cases hn:n = j
 ·subst hn
  simp only [if_true,hl]
 ·simp only [hn,if_false]
  exact this
theorem next_alike {coin:Int} {s s':Scene} (h:Alike s s') (k:Int) (l:Line):(nextB coin s k l).2 = (nextB coin s' k l).2∧Alike (nextB coin s k l).1 (nextB coin s' k l).1:=by
 have e1:decide (s.ch.getD l.c.toNat 0 = 0) = decide (s'.ch.getD l.c.toNat 0 = 0):=decide_eq_decide.2 (h.ch _)
 have e2:decide (s.tk.getD l.t.toNat 0 = 0) = decide (s'.tk.getD l.t.toNat 0 = 0):=decide_eq_decide.2 (h.tk _)
 unfold nextB
 simp only [e1,e2]
 split
 ·exact ⟨rfl,h⟩
 ·split
  ·refine ⟨rfl,⟨?_,?_,set_alike h.lc h.ch _ _,set_alike h.lt h.tk _ _,?_⟩⟩
   ·simpa using h.lc
   ·simpa using h.lt
   ·simp only [h.mo]
  ·refine ⟨rfl,⟨?_,?_,set_alike h.lc h.ch _ _,set_alike h.lt h.tk _ _,?_⟩⟩
   ·simpa using h.lc
   ·simpa using h.lt
   ·simp only [h.mo]
theorem ends_alike (b:Book):∀ (d k:Nat) {s s':Scene},Alike s s'→endsP b d k s = endsP b d k s'
 | 0,k,s,s',h=>by simp only [endsP,h.mo]
 | d + 1,k,s,s',h=>by
  simp only [endsP,h.mo]
  cases b.lines[k]? with
  | none=>rfl
  | some l =>
   simp only
   congr 2
   funext x
   obtain ⟨h1,h2⟩:=next_alike (coin:=b.coin) h (k:Int) x
   rw [h1,ends_alike b d (k + 1) h2]
def outs (l:List Int):Int:=((l.filter fun x=>!decide (x = 0)).length:Int)
structure Met (b:Book) (k:Nat) (s:Scene):Prop where
 ok:s.ok
 ch:∀ x ∈ s.ch,0≤x∧x≤k
 tk:∀ x ∈ s.tk,0≤x∧x≤k
 mo:s.money = b.box + b.coin * outs s.ch
def momOf (k:Nat) (s:Scene):Mom:=⟨k,out4 s.ch,out4 s.tk⟩
theorem min1_zero {x:Int} (h:0≤x):min1 x = 0 ↔ x = 0:=by unfold min1; split <;> omega
theorem min1_range {x:Int} (h:0≤x):0≤min1 x∧min1 x≤1:=by unfold min1; split <;> omega
theorem momOf_ok {b:Book} {k:Nat} {s:Scene} (h:Met b k s) (hk:k≤1000):(momOf k s).ok where
 ch:=by simp [momOf,out4,h.ok.ch]
 tk:=by simp [momOf,out4,h.ok.tk]
 wk:=okI_of (by simp only [momOf]; omega) (by simp only [momOf]; omega)
 wc:=by
  intro x hx
  simp only [momOf,out4,List.mem_map] at hx
  obtain ⟨y,hy,rfl⟩:=hx
  have:=min1_range (h.ch y hy).1
  exact okI_of (by omega) (by omega)
 wt:=by
  intro x hx
  simp only [momOf,out4,List.mem_map] at hx
  obtain ⟨y,hy,rfl⟩:=hx
  have:=min1_range (h.tk y hy).1
  exact okI_of (by omega) (by omega)
theorem out4_zero:∀ {l l':List Int},(∀ x ∈ l,0≤x)→(∀ x ∈ l',0≤x)→out4 l = out4 l'→(∀ j,l.getD j 0 = 0 ↔ l'.getD j 0 = 0)∧outs l = outs l'∧l.length = l'.length
 | [],[],_,_,_=>⟨fun _=>Iff.rfl,rfl,rfl⟩
 | [],_ :: _,_,_,h=>by simp [out4] at h
 | _ :: _,[],_,_,h=>by simp [out4] at h
 | a :: l,a' :: l',h1,h2,h=>by
  simp only [out4,List.map_cons,List.cons.injEq] at h
  obtain ⟨i1,i2,i3⟩:=out4_zero (l:=l) (l':=l') (fun x hx=>h1 x (by simp [hx])) (fun x hx=>h2 x (by simp [hx])) h.2
  have e1:=min1_zero (h1 a (by simp))
  have e2:=min1_zero (h2 a' (by simp))
  have e:a = 0 ↔ a' = 0:=by rw [← e1,← e2,h.1]
  refine ⟨fun j=>?_,?_,by simp [i3]⟩
  ·cases j with
   | zero=>simpa using e
   | succ j=>simpa using i1 j
  ·unfold outs at i2 ⊢
   by_cases ha:a = 0
   ·have ha':=e.1 ha
    simp only [List.filter_cons,ha,ha',decide_true,Bool.not_true,Bool.false_eq_true,if_false]
    exact i2
   ·have ha':¬ a' = 0:=fun hh=>ha (e.2 hh)
    simp only [List.filter_cons,ha,ha',decide_false,Bool.not_false,if_true,List.length_cons]
    omega
theorem met_alike {b:Book} {k k':Nat} {s s':Scene} (h:Met b k s) (h':Met b k' s') (e:momOf k s = momOf k' s'):k = k'∧Alike s s':=by
 simp only [momOf,Mom.mk.injEq] at e
 obtain ⟨e0,e1,e2⟩:=e
 obtain ⟨i1,i2,i3⟩:=out4_zero (fun x hx=>(h.ch x hx).1) (fun x hx=>(h'.ch x hx).1) e1
 obtain ⟨j1,j2,j3⟩:=out4_zero (fun x hx=>(h.tk x hx).1) (fun x hx=>(h'.tk x hx).1) e2
 exact ⟨by omega,⟨i3,j3,i1,j1,by rw [h.mo,h'.mo,i2]⟩⟩
def Sound (b:Book) (L:List (Mom × Bool)):Prop:=∀ (k:Nat) (s:Scene) (v:Bool),k≤b.lines.length→Met b k s→lookM (momOf k s) L = some v→v = endsP b (b.lines.length - k) k s
theorem sound_upd {b:Book} {L:List (Mom × Bool)} (h:Sound b L) {k:Nat} {s:Scene} (hm:Met b k s):Sound b (updM (momOf k s) (endsP b (b.lines.length - k) k s) L):=by
 intro k' s' v hk' hm' hv
 rw [look_upd] at hv
 split at hv
 ·rename_i e
  obtain ⟨rfl,ha⟩:=met_alike hm hm' e
  rw [← ends_alike b _ _ ha]
  exact (Option.some.inj hv).symm
 ·exact h k' s' v hk' hm' hv
def one0 (x:Int):Int:=if x = 0 then 0 else 1
theorem outs_cons (a:Int) (l:List Int):outs (a :: l) = one0 a + outs l:=by
 unfold outs one0
 by_cases ha:a = 0
 ·simp [ha]
 ·simp [ha]; omega
theorem outs_set:∀ (l:List Int) (n:Nat) (v:Int),n < l.length→outs (l.set n v) = outs l - one0 (l.getD n 0) + one0 v
 | a :: l,0,v,_=>by simp only [List.set_cons_zero,outs_cons,List.getD_cons_zero]; omega
 | a :: l,n + 1,v,h=>by
  have:=outs_set l n v (by simpa using h)
  simp only [List.set_cons_succ,outs_cons,List.getD_cons_succ,this]
  omega
theorem met_begin (b:Book):Met b 0 (beginB b) where
 ok:=⟨rfl,rfl⟩
 ch:=by intro x hx; simp [beginB] at hx; omega
 tk:=by intro x hx; simp [beginB] at hx; omega
 mo:=by simp [beginB,outs]
theorem set_range {l:List Int} {k:Nat} {n:Nat} {v:Int} (h:∀ x ∈ l,0≤x∧x≤k) (h0:0≤v) (h1:v≤(k + 1:Nat)):∀ x ∈ l.set n v,0≤x∧x≤(k + 1:Nat):=by
 intro x hx
 rcases List.mem_or_eq_of_mem_set hx with hx | rfl
 ·have:=h x hx; omega
 ·exact ⟨h0,h1⟩
theorem met_next {b:Book} {k:Nat} {s:Scene} {l:Line} (h:Met b k s) (hc0:0≤l.c) (hc:l.c < 4) (h2:(nextB b.coin s k l).2 = true):Met b (k + 1) (nextB b.coin s k l).1:=by
 have hlen:l.c.toNat < s.ch.length:=by rw [h.ok.ch]; omega
 have e1:=outs_set s.ch l.c.toNat 0 hlen
 have e2:=outs_set s.ch l.c.toNat ((k:Int) + 1) hlen
 have hz:one0 0 = 0:=rfl
 have hk:one0 ((k:Int) + 1) = 1:=by unfold one0; rw [if_neg (by omega)]
 have hm:=h.mo
 unfold nextB at h2 ⊢
 simp only at h2 ⊢
 by_cases ho:l.k = 2
 ·simp only [ho,decide_true] at h2 ⊢
  split at h2
  ·cases h2
  ·rename_i hn
   simp only [Bool.bne_true,Bool.not_not,Bool.or_eq_true,decide_eq_true_eq,not_or] at hn
   rw [if_neg (by simpa using hn)]
   simp only [if_true]
   refine ⟨⟨by simp [h.ok.ch],by simp [h.ok.tk]⟩,set_range h.ch (by omega) (by omega),set_range h.tk (by omega) (by omega),?_⟩
   simp only
   have h1:one0 (s.ch.getD l.c.toNat 0) = 1:=by unfold one0; rw [if_neg hn.1]
   rw [e1,hm,h1,hz,Int.mul_add,Int.mul_sub]
   omega
 ·simp only [ho,decide_false] at h2 ⊢
  split at h2
  ·cases h2
  ·rename_i hn
   simp only [Bool.bne_false,Bool.or_eq_true,Bool.not_eq_true',decide_eq_false_iff_not,not_or,Decidable.not_not] at hn
   rw [if_neg (by simpa using hn)]
   simp only [Bool.false_eq_true,if_false]
   refine ⟨⟨by simp [h.ok.ch],by simp [h.ok.tk]⟩,set_range h.ch (by omega) (by omega),set_range h.tk (by omega) (by omega),?_⟩
   simp only
   have h1:one0 (s.ch.getD l.c.toNat 0) = 0:=by unfold one0; rw [if_pos hn.1]
   rw [e2,hm,h1,hk,Int.mul_add,Int.mul_sub]
   omega
end Go.Proofs.Try.Op
/- Simp equations for maps: a look, a store, a new one. No condition. -/
open Go Go.Pg Go.Proofs
namespace Go.Pg
variable {P:Program} {E:XE} {d:Option Tmp} {c:Nat} {fr:Fr} {s:St} {r:Operand→Option V}
@[simp] theorem evP_lookup (T:TypeId) (x i:Operand) (ok:Bool):evP P (mkO (.lookup T x i ok)) s r = o2 (fun a b=>evLookup P s T a b ok) (r x) (r i):=by
 show ((r x).bind fun a=>(r i).bind fun b=>evLookup P s T a b ok) = _
 cases r x <;> cases r i <;> rfl
noncomputable def up1 (c:Nat) (fr:Fr) (s:St):Option (Nat × Nat × Nat × List (V × V))→Option XS
 | some (l,q,γ,es)=>Bool.rec none (some ⟨c,fr,s.put l q γ (.map es)⟩) (Nat.blt γ c)
 | none=>none
noncomputable def up3 (P:Program) (T:TypeId) (c:Nat) (fr:Fr) (s:St):Option V→Option V→Option V→Option XS
 | some m,some i,some v=>up1 c fr s (evUpd P s T m i v)
 | _,_,_=>none
@[simp] theorem up3_some (T:TypeId) (m i v:V):up3 P T c fr s (some m) (some i) (some v) = up1 c fr s (evUpd P s T m i v):=rfl
theorem up1_some (l q γ:Nat) (es:List (V × V)) (h:γ < c):up1 c fr s (some (l,q,γ,es)) = some ⟨c,fr,s.put l q γ (.map es)⟩:=by
 have:Nat.blt γ c = true:=by simpa [Nat.blt_eq] using h
 show (Bool.rec none (some ⟨c,fr,s.put l q γ (.map es)⟩) (Nat.blt γ c):Option XS) = _
 rw [this]
@[simp] theorem stepK_upd (T:TypeId) (x i y:Operand):stepK P E none (.upd T x i y) ⟨c,fr,s⟩ = up3 P T c fr s (rdX fr x) (rdX fr i) (rdX fr y):=by
 show xUpd P none T x i y ⟨c,fr,s⟩ = _
 unfold xUpd up3 up1
 simp only
 cases rdX fr x <;> cases rdX fr i <;> cases rdX fr y <;> simp only
 split <;> simp_all
@[simp] theorem evP_nilc (x:Operand):evP P (mkO (.nilCheck x)) s r = o1 evNil (r x):=by
 show (r x).bind evNil = _
 cases r x <;> rfl
@[simp] theorem evNil_ptr (l k g o:Nat):evNil (.ptr l k g o) = some (.ptr l k g o):=rfl
@[simp] theorem rds_nilc (x:Operand) (f:Operand→Option V):rdsK (.oth (.nilCheck x)) f = []:=rfl
@[simp] theorem rds_look (T:TypeId) (x i:Operand) (ok:Bool) (f:Operand→Option V):rdsK (.oth (.lookup T x i ok)) f = placeOf (f x):=rfl
@[simp] theorem closeOX_mp (l k g:Nat):closeOX s (.mp l k g) = some (.mp l k g):=rfl
theorem mapOO_same {α:Type} {f:α→Option α}:∀ {l:List α},(∀ x ∈ l,f x = some x)→mapOO f l = some l
 | [],_=>rfl
 | x :: l,h=>by
  have ih:=mapOO_same (f:=f) (l:=l) fun y hy=>h y (by simp [hy])
  simp only [mapOO,h x (by simp),ih]
theorem unsnoc_snoc':∀ (l:List Level) (b:Level),unsnoc (l ++ [b]) = some (l,b)
 | [],b=>by simp
 | [a],b=>by simp
 | a :: a2 :: l,b=>by
  have:=unsnoc_snoc' (a2 :: l) b
  simp only [List.cons_append] at this ⊢
  simp [this]
@[simp] theorem unsnoc_cs (a:Level) (l:List Level) (b:Level):unsnoc (a :: (l ++ [b])) = some (a :: l,b):=unsnoc_snoc' (a :: l) b
@[simp] theorem placeOf_mp (l k g:Nat):placeOf (some (.mp l k g)) = [(l,k)]:=rfl
@[simp] theorem stepK_mkM (d:Nat):stepK P E (some d) (.mkM none) ⟨c,fr,s⟩ = some ⟨c + 1,(d,true,.mp s.up.length d c) :: fr,s.put s.up.length d c (.map [])⟩:=rfl
end Go.Pg
namespace Go.Proofs.Try.Op
set_option maxRecDepth 100000
set_option linter.unusedSimpArgs false
theorem close_ints (s:St) (f:Nat):∀ l:List Int,(l.map i).mapM (closeX s (f + 1)) = some (l.map i)
 | []=>rfl
 | a :: l=>by
  have e:closeX s (f + 1) (i a) = some (i a):=rfl
  simp only [List.map_cons,List.mapM_cons,e,close_ints s f l]
  rfl
theorem close_M (s:St) (m:Mom):closeOX s (.agg (encM m)) = some (.agg (encM m)):=by
 have:=close_ints s 2 (m.k :: (m.ch ++ m.tk))
 simp only [List.map_cons,List.map_append] at this
 show ((i m.k :: (m.ch.map i ++ m.tk.map i)).mapM (closeX s 3)).map V.agg = _
 rw [this]
 rfl
@[simp] theorem shut_mapM (s:St) (L:List (Mom × Bool)):shutRes s (.map (L.map encK)) = .map (L.map encK):=by
 have:closeResX s (.map (L.map encK)) = some (.map (L.map encK)):=by
  unfold closeResX
  simp only
  rw [mapOO_same]
  intro x hx
  simp only [List.mem_map] at hx
  obtain ⟨p,_,rfl⟩:=hx
  simp only [encK,close_M]
  rfl
 unfold shutRes
 rw [this]
@[simp] theorem build_153 (ps:List (Nat × V)):evBuild Try.prog 153 ps = if (ps.all fun p=>flatOk p.2) = true then ma1 .agg (fillV (fun i=>[(0,5),(5,1)][i]?) [V.int .i64 0,.int .i64 0,.int .i64 0,.nil,.nil,.raw (.map none)] ps) else none:=build_of (by kernel_rfl) Try.underlying153 (by kernel_rfl) (by kernel_rfl) ps
@[simp] theorem rds_mkM (r:Operand→Option V):rdsK (.mkM none) r = []:=rfl
def lvU (b:Book):List (List (Mom × Bool))→Level
 | []=>[(6,2,.box [i b.chairs,i b.coin,i b.box,V.list false (b.lines.map encL),V.list false (b.counts.map encC),.mp 0 4 1]),(4,1,.map []),(1,0,.box [i b.chairs,i b.coin,i b.box,V.list false (b.lines.map encL),V.list false (b.counts.map encC)])]
 | L :: Hs=>(4,1,.map (L.map encK)) :: lvU b Hs
def tabU:List (List (Mom × Bool))→List (Mom × Bool)
 | []=>[]
 | L :: _=>L
@[simp] theorem lvU_6 (b:Book):∀ Hs,(lvU b Hs).get 6 = some (2,.box [i b.chairs,i b.coin,i b.box,V.list false (b.lines.map encL),V.list false (b.counts.map encC),.mp 0 4 1])
 | []=>rfl
 | L :: Hs=>by
  have:=lvU_6 b Hs
  simpa [lvU] using this
@[simp] theorem lvU_4 (b:Book):∀ Hs,(lvU b Hs).get 4 = some (1,.map ((tabU Hs).map encK))
 | []=>rfl
 | L :: Hs=>by simp [lvU,tabU]
@[simp] theorem lvU_put (b:Book) (L:List (Mom × Bool)) (Hs:List (List (Mom × Bool))):Level.put (lvU b Hs) 4 1 (.map (L.map encK)) = lvU b (L :: Hs):=rfl
theorem lvU_shut (b:Book) (t:St) (ht:1≤t.up.length):∀ Hs,shutLv t (lvU b Hs) = lvU b Hs
 | []=>by
  have h0:¬ 0 = t.up.length:=by omega
  obtain ⟨up,loc⟩:=t
  simp [lvU,h0,encL,encC]
  exact shut_mapM _ []
 | L :: Hs=>by
  have:=lvU_shut b t ht Hs
  simp [lvU,this]
def Stays (rs:List Level):Prop:=∀ s:St,rs.length + 1≤s.up.length→rs.map (shutLv s) = rs
def Rec (b:Book) (N k:Nat):Prop:=∀ (rest:List Level) (loc:Level) (s:Scene) (L:List (List (Mom × Bool))) (c dd:Nat) (fr:Fr),2≤c→Stays (rest ++ [loc])→Met b k s→s.bd k→okT (tabU L)→Sound b (tabU L) →
 ∃ L' c',okT (tabU L')∧Sound b (tabU L')∧c≤c'∧ca2 (envA Try.prog ann kn N) (some dd) ⟨c,fr,⟨lvU b L :: rest,loc⟩⟩ 108 [.ptr 0 6 2 0,.agg (cellsS s),i k] =
  some ⟨c',(dd,true,.bool (endsP b (b.lines.length - k) k s)) :: fr,⟨lvU b L' :: rest,loc⟩⟩
def okNext (b:Book) (k:Nat) (s:Scene) (x:Line):Bool:=(nextB b.coin s k x).2 && endsP b (b.lines.length - (k + 1)) (k + 1) (nextB b.coin s k x).1
theorem l108 (n:Nat) (b:Book) (k:Nat) (s:Scene) (rs:List Level) (c0 c1:Nat) (mom:List V) (hst:Stays rs) (hmom:∀ t,shutRes t (.box mom) = .box mom) (xs:List Line) (hxs:∀ x ∈ xs,(0≤x.c∧x.c < 4)∧(0≤x.t∧x.t < 4)) (hlen:xs.length≤100) (hk:k≤100) (hco:1≤b.coin∧b.coin≤99) (hm:Met b k s) (hbd:s.bd k) (hrec:Rec b (n + 692) (k + 1)) :
  ∀ (e j:Nat) (L:List (List (Mom × Bool))) (c m:Nat),j + e = xs.length→e < m→okT (tabU L)→Sound b (tabU L) →
  ∃ L' c',okT (tabU L')∧Sound b (tabU L')∧c≤c'∧loopA (execA Try.prog ann kn (n+700) 94) lb108_10 (some ([0,2,4,7,8,61,62,63],[4,7,61])) m
   ⟨c,[(0,true,.ptr 0 6 2 0),(2,true,i k),(4,true,.ptr (rs.length + 1) 4 c0 0),(7,true,.ptr (rs.length + 1) 7 c1 0),(8,true,.bool false),(61,true,sl (xs.map encL)),(62,true,i xs.length),(63,true,i j)],⟨lvU b L :: rs,[(4,c0,.box (cellsS s)),(7,c1,.box mom)]⟩⟩ =
   bif (xs.drop j).any (okNext b k s) then some (.exit 0,⟨c',[(8,true,.bool true),(0,true,.ptr 0 6 2 0),(7,true,.ptr (rs.length + 1) 7 c1 0)],⟨lvU b L' :: rs,[(7,c1,.box mom)]⟩⟩)
   else some (.exit 0,⟨c',[(64,true,.bool false),(0,true,.ptr 0 6 2 0),(2,true,i k),(4,true,.ptr (rs.length + 1) 4 c0 0),(7,true,.ptr (rs.length + 1) 7 c1 0),(8,true,.bool false),(61,true,sl (xs.map encL)),(62,true,i xs.length),(63,true,i xs.length)],⟨lvU b L' :: rs,[(4,c0,.box (cellsS s)),(7,c1,.box mom)]⟩⟩)
 | 0,j,L,c,m + 1,hd,hmm,hL,hS=>by
  have:j = xs.length:=by omega
  subst this
  refine ⟨L,c,hL,hS,Nat.le_refl _,?_⟩
  simp [loopA_succ]
 | e + 1,j,L,c,m + 1,hd,hmm,hL,hS=>by
  have hj:j < xs.length:=by omega
  have hw:IntKind.i64.wrap ((j:Int) + 1) = (j:Int) + 1:=wrap_i64 (by omega) (by omega)
  have hwk:IntKind.i64.wrap ((k:Int) + 1) = (k:Int) + 1:=wrap_i64 (by omega) (by omega)
  obtain ⟨⟨x1,x2⟩,x3,x4⟩:=hxs _ (List.getElem_mem hj)
  obtain ⟨m0,m1,y0,y1⟩:=hbd
  have q104:=fun n=>k104 n b s k xs[j] hm.ok x1 x2 x3 x4 (by omega) (by omega) (by omega) (by omega) (by omega) (by omega) (by omega) (by omega)
  obtain ⟨a0,a1,a2,a3,b0,b1,b2,b3,hcs⟩:=cells_form hm.ok
  obtain ⟨A0,A1,A2,A3,B0,B1,B2,B3,hcn⟩:=cells_form (next_ok b.coin s k xs[j] hm.ok)
  simp only [cellsT,encL,hcs,hcn] at q104
  cases hn:(nextB b.coin s k xs[j]).2 with
  | false =>
   obtain ⟨L',c',i1,i2,i3,ih⟩:=l108 n b k s rs c0 c1 mom hst hmom xs hxs hlen hk hco hm ⟨m0,m1,y0,y1⟩ hrec e (j + 1) L (c + 2) m (by omega) (by omega) hL hS
   refine ⟨L',c',i1,i2,by omega,?_⟩
   rw [loopA_succ,List.drop_eq_getElem_cons hj]
   simp only [hn] at q104
   have hz:okNext b k s xs[j] = false:=by simp [okNext,hn]
   simp only [List.any_cons,hz,Bool.false_or]
   simp only [hcs] at ih ⊢
   simp at ih
   simp [hj,hw,hwk,encL,encC,q104,ih]
  | true =>
   have hmn:Met b (k + 1) (nextB b.coin s k xs[j]).1:=met_next hm x1 x2 hn
   have hbn:=next_bd (j:=(k:Int)) (l:=xs[j]) (show s.bd k from ⟨m0,m1,y0,y1⟩) hco.1 hco.2
   obtain ⟨L1,C1,g1,g2,g3,gq⟩:=hrec rs [(4,c0,.box (cellsS s)),(7,c1,.box mom),(12,c + 1,.box (cellsS (nextB b.coin s k xs[j]).1))] (nextB b.coin s k xs[j]).1 L (c + 1 + 1) 84
    [(83,true,.int .i64 ((k:Int) + 1)),(82,true,i k),(81,true,.agg (cellsS (nextB b.coin s k xs[j]).1)),(80,true,.ptr 0 6 2 0),(79,true,.bool true),(78,true,.bool true),(0,true,.ptr 0 6 2 0),(2,true,i k),(4,true,.ptr (rs.length + 1) 4 c0 0),
     (7,true,.ptr (rs.length + 1) 7 c1 0),(8,true,.bool false),(12,true,.ptr (rs.length + 1) 12 (c + 1) 0),(13,true,.bool true),(61,true,sl (xs.map encL)),(62,true,i xs.length),(63,true,i j)]
    (by omega) (fun t ht=>by
     have h0:=hst t (by simp at ht; omega)
     simp only [List.map_append,List.map_cons,List.map_nil,h0,hcs,hcn]
     simp [hmom]) hmn hbn hL hS
   have hz:okNext b k s xs[j] = endsP b (b.lines.length - (k + 1)) (k + 1) (nextB b.coin s k xs[j]).1:=by simp [okNext,hn]
   rw [← hz] at gq
   simp only [hn] at q104
   cases hv:okNext b k s xs[j] with
   | true =>
    refine ⟨L1,C1,g1,g2,by omega,?_⟩
    rw [loopA_succ,List.drop_eq_getElem_cons hj]
    simp only [List.any_cons,hv,Bool.true_or]
    rw [hv] at gq
    simp only [hcs,hcn] at gq ⊢
    simp at gq
    simp [hj,hw,hwk,encL,encC,q104,gq]
   | false =>
    obtain ⟨L',c',i1,i2,i3,ih⟩:=l108 n b k s rs c0 c1 mom hst hmom xs hxs hlen hk hco hm ⟨m0,m1,y0,y1⟩ hrec e (j + 1) L1 C1 m (by omega) (by omega) g1 g2
    refine ⟨L',c',i1,i2,by omega,?_⟩
    rw [loopA_succ,List.drop_eq_getElem_cons hj]
    simp only [List.any_cons,hv,Bool.false_or]
    rw [hv] at gq
    simp only [hcs,hcn] at gq ih ⊢
    simp at gq ih
    simp [hj,hw,hwk,encL,encC,q104,gq,ih]
structure Fair (b:Book):Prop where
 ch1:1≤b.chairs
 ch4:b.chairs≤4
 ln:b.lines.length≤8
 cn:b.counts.length≤4
 co1:1≤b.coin
 co2:b.coin≤99
 bx1:0≤b.box
 bx2:b.box≤999
 lok:b.lines.all (lineOk b.chairs) = true
theorem fair_of {b:Book} (h:checkP b = 0):Fair b:=by
 obtain ⟨h1,h4,hl8,hc4,hc1,hc2,hx1,hx2,hok,_,_⟩:=check0 h
 exact ⟨h1,h4,hl8,hc4,hc1,hc2,hx1,hx2,hok⟩
theorem cells_parts {s:Scene} (h:s.ok):∃ a0 a1 a2 a3 b0 b1 b2 b3,s.ch = [a0,a1,a2,a3]∧s.tk = [b0,b1,b2,b3]∧cellsS s = [i a0,i a1,i a2,i a3,i b0,i b1,i b2,i b3,i s.money,i s.mixed]:=by
 obtain ⟨a0,a1,a2,a3,e1⟩:=four h.ch
 obtain ⟨b0,b1,b2,b3,e2⟩:=four h.tk
 exact ⟨a0,a1,a2,a3,b0,b1,b2,b3,e1,e2,by simp [cellsS,e1,e2]⟩
def RecB (b:Book) (N k:Nat):Prop:=∀ (rs:List Level) (s:Scene) (L:List (List (Mom × Bool))) (c dd:Nat) (fr:Fr),2≤c→Stays rs→Met b k s→s.bd k→okT (tabU L)→Sound b (tabU L) →
 ∃ L' c',okT (tabU L')∧Sound b (tabU L')∧c≤c'∧finS Try.prog (some dd) fr Try.f108.results.toList (execA Try.prog ann kn N Try.f108.ntmps c108 ⟨c,argFr 0 [.ptr 0 6 2 0,.agg (cellsS s),i k],⟨lvU b L :: rs,[]⟩⟩) =
  finU (some dd) fr c' (.bool (endsP b (b.lines.length - k) k s)) (unsnoc (lvU b L' :: rs))
theorem rec_of {b:Book} {N k:Nat} (h:RecB b N k):Rec b N k:=by
 intro rest loc s L c dd fr hc hst hm hbd hL hS
 obtain ⟨L',c',h1,h2,h3,h4⟩:=h (rest ++ [loc]) s L c dd fr hc hst hm hbd hL hS
 refine ⟨L',c',h1,h2,h3,?_⟩
 rw [cf_open Try.func108 b108 rfl (by simp),List.cons_append,h4,← List.cons_append,unsnoc_snoc]
 rfl
theorem k108 (b:Book) (hb:Fair b) (hrd:∀ l ∈ b.lines,∀ x ∈ readingsP b.chairs l,(0≤x.c∧x.c < 4)∧(0≤x.t∧x.t < 4)) (hrl:∀ l ∈ b.lines,(readingsP b.chairs l).length≤100) :
  ∀ (d k:Nat),k + d = b.lines.length→∀ n,RecB b (n + 18 * d + 1000) k:=by
 obtain ⟨h1,h4,hl8,hc4,hc1,hc2,hx1,hx2,hok⟩:=hb
 intro d
 induction d with
 | zero =>
  intro k hk n rs s L c dd fr hc2' hst hm hbd hL hS
  have hs1:=fun t:St=>fun h=>hst t h
  obtain ⟨a0,a1,a2,a3,b0,b1,b2,b3,hch,htk,hcs⟩:=cells_parts hm.ok
  have q93:=fun n=>k93 n b s k hm.ok (by omega)
  simp only [cellsT,hcs] at q93
  refine ⟨L,c + 1,hL,hS,by omega,?_⟩
  simp only [show Try.f108.ntmps = 94 from rfl]
  have hkl:k = b.lines.length:=by omega
  have he:decide ((k:Int) = b.lines.length) = true:=by simp [hkl]
  rw [show b.lines.length - k = 0 by omega]
  simp only [endsP,hcs]
  generalize hc:b.counts.all (countOne s.money k) = cc at q93 ⊢
  cases cc
  ·simp [c108,argFr,lvU_shut,hs1,encL,encC,q93]
  ·simp [c108,argFr,lvU_shut,hs1,encL,encC,q93,he]
 | succ d ih =>
  intro k hk n rs s L c dd fr hc2' hst hm hbd hL hS
  have hs1:=fun t:St=>fun h=>hst t h
  have hkl:k < b.lines.length:=by omega
  have hmo:=momOf_ok hm (by omega)
  have ql:∀ (r:List Level) (lo:Level),evLookup Try.prog ⟨lvU b L :: r,lo⟩ 151 (.mp 0 4 1) (.agg (encM (momOf k s))) true = some (.tup [.bool ((lookM (momOf k s) (tabU L)).getD false),.bool (lookM (momOf k s) (tabU L)).isSome]):=fun r lo=>look_run (by simp) hL hmo
  have qu:∀ (r:List Level) (lo:Level) (L':List (List (Mom × Bool))) (v:Bool),okT (tabU L')→evUpd Try.prog ⟨lvU b L' :: r,lo⟩ 151 (.mp 0 4 1) (.agg (encM (momOf k s))) (.bool v) = some (0,4,1,(updM (momOf k s) v (tabU L')).map encK):=fun r lo L' v h=>upd_run (by simp) h hmo
  obtain ⟨a0,a1,a2,a3,b0,b1,b2,b3,hch,htk,hcs⟩:=cells_parts hm.ok
  have q93:=fun n=>k93 n b s k hm.ok (by omega)
  have qa:=fun n=>k118 n [a0,a1,a2,a3] rfl
  have qb:=fun n=>k118 n [b0,b1,b2,b3] rfl
  have q81:=fun n=>k81 n b b.lines[k] h1 h4
  have he:decide ((k:Int) = b.lines.length) = false:=by rw [decide_eq_false_iff_not]; omega
  have hen:encM (momOf k s) = [.int .i64 k,i (min1 a0),i (min1 a1),i (min1 a2),i (min1 a3),i (min1 b0),i (min1 b1),i (min1 b2),i (min1 b3)]:=by
   simp only [encM,momOf,hch,htk,out4,List.map_cons,List.map_nil]
   rfl
  rw [hen] at ql qu
  simp only [cellsT,hcs,List.map_cons,List.map_nil,out4,encL] at q93 qa qb q81
  have hmem:b.lines[k] ∈ b.lines:=List.getElem_mem hkl
  have hr:Rec b (n + 18 * (d + 1) + 290 + 692) (k + 1):=by
   have:=rec_of (ih (k + 1) (by omega) n)
   rwa [show n + 18 * (d + 1) + 290 + 692 = n + 18 * d + 1000 by omega]
  have hl:=l108 (n + 18 * (d + 1) + 290) b k s rs c (c + 1) [.int .i64 k,i (min1 a0),i (min1 a1),i (min1 a2),i (min1 a3),i (min1 b0),i (min1 b1),i (min1 b2),i (min1 b3)] hst (by intro t; simp) (readingsP b.chairs b.lines[k]) (hrd _ hmem) (hrl _ hmem) (by omega) ⟨hc1,hc2⟩ hm hbd hr
  generalize n + 18 * (d + 1) = n2 at hl ⊢
  have hend:endsP b (b.lines.length - k) k s = (b.counts.all (countOne s.money k) && (readingsP b.chairs b.lines[k]).any (okNext b k s)):=by
   rw [show b.lines.length - k = d + 1 by omega]
   simp only [endsP,List.getElem?_eq_getElem hkl]
   congr 2
   funext x
   simp only [okNext]
   rw [show b.lines.length - (k + 1) = d by omega]
  rw [hend]
  generalize hc:b.counts.all (countOne s.money k) = cc at q93 hend ⊢
  cases cc
  ·refine ⟨L,c + 1,hL,hS,by omega,?_⟩
   simp only [show Try.f108.ntmps = 94 from rfl]
   simp only [hcs]
   simp [c108,argFr,lvU_shut,hs1,encL,encC,q93]
  ·simp only [Bool.true_and] at hend ⊢
   cases hlk:lookM (momOf k s) (tabU L) with
   | some v =>
    have:=hS k s v (by omega) hm hlk
    rw [hend] at this
    rw [← this]
    rw [hlk] at ql
    refine ⟨L,c + 2,hL,hS,by omega,?_⟩
    simp only [show Try.f108.ntmps = 94 from rfl]
    simp only [hcs]
    simp [c108,argFr,lvU_shut,ql,qa,qb,hs1,encL,encC,q93,he]
   | none =>
    rw [hlk] at ql
    obtain ⟨L1,C1,g1,g2,g3,gq⟩:=hl (readingsP b.chairs b.lines[k]).length 0 L (c + 1 + 1) (n2 + 990) (by omega) (by have:=hrl _ hmem; omega) hL hS
    simp only [List.drop_zero] at gq
    have hsu:=sound_upd g2 hm
    rw [hend] at hsu
    generalize hv:(readingsP b.chairs b.lines[k]).any (okNext b k s) = v at gq hsu ⊢
    have qu1:=fun r lo v=>qu r lo L1 v g1
    have hu1:=fun fr s es=>up1_some (c:=C1) (fr:=fr) (s:=s) 0 4 1 es (by omega)
    refine ⟨updM (momOf k s) v (tabU L1) :: L1,C1,okT_upd v hmo g1,hsu,by omega,?_⟩
    simp only [show Try.f108.ntmps = 94 from rfl]
    simp only [hcs] at gq ⊢
    simp at gq
    cases v
    ·simp at gq
     simp [c108,argFr,ql,qa,qb,hs1,encL,encC,q93,he,q81,hkl,gq,qu1,hu1,lvU_shut]
    ·simp at gq
     simp [c108,argFr,ql,qa,qb,hs1,encL,encC,q93,he,q81,hkl,gq,qu1,hu1,lvU_shut]
def possP (b:Book):Bool:=endsP b b.lines.length 0 (beginB b)
theorem begin_bd {b:Book} (h:Fair b):(beginB b).bd 0:=by
 have h1:=h.bx1
 have h2:=h.bx2
 exact ⟨by simp [beginB]; omega,by simp [beginB]; omega,by simp [beginB],by simp [beginB]⟩
theorem rd_ok {b:Book} (h:Fair b):∀ l ∈ b.lines,∀ x ∈ readingsP b.chairs l,(0≤x.c∧x.c < 4)∧(0≤x.t∧x.t < 4):=by
 intro l hl x hx
 have h4:=h.ch4
 obtain ⟨_,h2,h3⟩:=readingsP_ok h.ch4 (List.all_eq_true.1 h.lok l hl) hx
 omega
theorem ca108 (n:Nat) (b:Book) (hb:Fair b) (fr:Fr) (dd:Nat):∃ L c',3≤c'∧ca2 (envA Try.prog ann kn (n+1200)) (some dd) ⟨3,fr,⟨[],lvU b []⟩⟩ 108 [.ptr 0 6 2 0,.agg (cellsS (beginB b)),i 0] = some ⟨c',(dd,true,.bool (possP b)) :: fr,⟨[],lvU b L⟩⟩:=by
 have hl:=hb.ln
 have hr:∀ l ∈ b.lines,(readingsP b.chairs l).length≤100:=fun l _=>by have:=readingsP_len b.chairs l hb.ch4; omega
 obtain ⟨L',c',h1,h2,h3,h4⟩:=k108 b hb (rd_ok hb) hr b.lines.length 0 (by omega) (n + 200 - 18 * b.lines.length) [] (beginB b) [] 3 dd fr (by omega) (by intro t _; rfl) (met_begin b) (begin_bd hb) ⟨by simp [tabU],by simp [tabU]⟩ (by intro k s v _ _ h; simp [tabU,lookM] at h)
 rw [show n + 200 - 18 * b.lines.length + 18 * b.lines.length + 1000 = n + 1200 by omega] at h4
 refine ⟨L',c',by omega,?_⟩
 rw [cf_open Try.func108 b108 rfl (by simp)]
 simp only [List.nil_append]
 simp only [Int.natCast_zero] at h4
 rw [h4]
 rfl
theorem k84 (n:Nat) (b:Book) (hb:Fair b):callK Try.prog kn (execA Try.prog ann kn (n+1300)) 84 [.agg (cellsT b)] = some (.bool (possP b)):=by
 rw [callK_of rfl,call0_eq Try.func84 b84 rfl (by simp [cellsT,encL,encC])]
 have q105:=fun n=>k105 n b
 have q108:=fun fr=>ca108 (n + 97) b hb fr 9
 obtain ⟨a0,a1,a2,a3,b0,b1,b2,b3,hch,htk,hcs⟩:=cells_parts (begin_ok b)
 simp only [cellsT,hcs,lvU] at q105 q108
 simp [c84,argFr,cellsT,q105]
 obtain ⟨L,c',h1,h2⟩:=q108 [(6,true,V.ptr 0 6 2 0),(5,true,V.agg [i b.chairs,i b.coin,i b.box,V.list false (List.map encL b.lines),V.list false (List.map encC b.counts),V.mp 0 4 1]),(4,true,V.mp 0 4 1),(8,true,V.agg [i a0,i a1,i a2,i a3,i b0,i b1,i b2,i b3,i (beginB b).money,i (beginB b).mixed]),(7,true,V.agg [i b.chairs,i b.coin,i b.box,V.list false (List.map encL b.lines),V.list false (List.map encC b.counts)]),(3,true,V.agg [i b.chairs,i b.coin,i b.box,V.list false (List.map encL b.lines),V.list false (List.map encC b.counts)]),(1,true,V.ptr 0 1 0 0)]
 simp [h2]
 done
end Go.Proofs.Try.Op
/- The contract of First. No condition. -/
open Go Go.Pg Go.Proofs
namespace Go.Pg
variable {P:Program} {s:St} {r:Operand→Option V}
@[simp] theorem evP_sliceH (T:TypeId) (x h:Operand):evP P (mkO (.slice T x none (some h) none)) s r = o2 (fun a b=>evSlice P s T a none (some b) none) (r x) (r h):=by
 show ((r x).bind fun a=>((some none:Option (Option V))).bind fun l=>((r h).map some).bind fun h=>((some none:Option (Option V))).bind fun m=>evSlice P s T a l h m) = _
 cases r x <;> cases r h <;> rfl
theorem slice_list {T e:TypeId} {es:List (List V)} {h:Int} {b:Bool} (hT:elemT P T = some (none,e)) (hc:0 < P.cellsOf e) (h1:0≤h) (h2:h≤es.length):evSlice P s T (.list b es) none (some (.int .i64 h)) none = some (.list false (es.take h.toNat)):=by
 simp only [evSlice,hT]
 rw [if_pos ⟨h1,h2,hc⟩]
end Go.Pg
namespace Go.Proofs.Try.Op
set_option maxRecDepth 100000
set_option linter.unusedSimpArgs false
def cutB (b:Book) (k:Nat):Book:={ b with lines:=b.lines.take k,counts:=[] }
theorem cut_fair {b:Book} (h:Fair b) (k:Nat):Fair (cutB b k) where
 ch1:=h.ch1
 ch4:=h.ch4
 ln:=by have:=h.ln; simp [cutB]; omega
 cn:=by simp [cutB]
 co1:=h.co1
 co2:=h.co2
 bx1:=h.bx1
 bx2:=h.bx2
 lok:=List.all_eq_true.2 fun x hx=>List.all_eq_true.1 h.lok x (List.mem_of_mem_take hx)
def firstGo (b:Book):Nat→Nat→Option Nat
 | 0,_=>none
 | d + 1,j=>if possP (cutB b (j + 1)) = true then firstGo b d (j + 1) else some j
def firstP (b:Book):Option Nat:=firstGo b b.lines.length 0
noncomputable def w37 (n:Nat) (b:Book) (j:Nat) (ys:List Line) (m:Nat):Option (Exit × XS):=loopA (execA Try.prog ann kn (n+1340) 31) lb37_7 (some ([1,5,16,17],[1,5])) m ⟨2,[(1,true,.ptr 0 1 0 0),(5,true,.ptr 0 5 1 0),(16,true,i b.lines.length),(17,true,i j)],⟨[],[(1,0,.box (cellsT b)),(5,1,.box [i b.chairs,i b.coin,i b.box,.list false (ys.map encL),.nil])]⟩⟩
theorem l37 (n:Nat) (b:Book) (hb:Fair b):∀ (d j:Nat) (ys:List Line) (m:Nat),j + d = b.lines.length→d < m →
  (∀ x,firstGo b d j = some x→w37 n b j ys m = some (.ret,⟨2,[(3,true,.int .i64 0),(2,true,i x),(29,true,i x),(6,true,i x)],⟨[],[]⟩⟩)) ∧
  (firstGo b d j = none→∃ ys':List Line,w37 n b j ys m = some (.exit 0,⟨2,[(18,true,.bool false),(1,true,.ptr 0 1 0 0),(5,true,.ptr 0 5 1 0),(16,true,i b.lines.length),(17,true,i b.lines.length)],⟨[],[(1,0,.box (cellsT b)),(5,1,.box [i b.chairs,i b.coin,i b.box,.list false (ys'.map encL),.nil])]⟩⟩))
 | 0,j,ys,m + 1,hd,hm=>by
  have:j = b.lines.length:=by omega
  subst this
  refine ⟨fun x h=>by simp [firstGo] at h,fun _=>⟨ys,?_⟩⟩
  simp [w37,loopA_succ,cellsT]
 | d + 1,j,ys,m + 1,hd,hm=>by
  have hj:j < b.lines.length:=by omega
  have hl:=hb.ln
  have hw:IntKind.i64.wrap ((j:Int) + 1) = (j:Int) + 1:=wrap_i64 (by omega) (by omega)
  have q84:=fun n=>k84 n (cutB b (j + 1)) (cut_fair hb (j + 1))
  have qs:∀ s,evSlice Try.prog s 32 (V.list false (b.lines.map encL)) none (some (.int .i64 ((j:Int) + 1))) none = some (.list false ((b.lines.take (j + 1)).map encL)):=fun s=>by
   rw [slice_list (e:=96) (by kernel_rfl) (by simp) (by omega) (by simp; omega),List.map_take]
   congr 3
  unfold w37
  rw [loopA_succ]
  obtain ⟨i1,i2⟩:=l37 n b hb d (j + 1) (b.lines.take (j + 1)) m (by omega) (by omega)
  generalize hp:possP (cutB b (j + 1)) = p at q84
  simp only [cutB,cellsT] at q84
  simp only [firstGo,hp]
  unfold w37 at i1 i2
  simp only [cellsT] at i1 i2
  generalize hls:List.take (j + 1) b.lines = ls at q84 qs i1 i2
  have hnil:List.map encC [] = []:=rfl
  rw [hnil] at q84
  cases p with
  | false =>
   refine ⟨fun x h=>?_,fun h=>by simp at h⟩
   simp only [Bool.false_eq_true,if_false,Option.some.injEq] at h
   subst h
   simp [hj,hw,encL,encC,cellsT,qs,q84]
  | true =>
   simp only [if_true]
   refine ⟨fun x h=>?_,fun h=>?_⟩
   ·have:=i1 x h
    simp at this
    simp [hj,hw,encL,encC,cellsT,qs,q84,this]
   ·obtain ⟨ys',this⟩:=i2 h
    refine ⟨ys',?_⟩
    simp at this
    simp [hj,hw,encL,encC,cellsT,qs,q84,this]
def firstV (b:Book):V:=if checkP b = 0 then (match firstP b with
  | some x=>.tup [i x,i 0]
  | none=>.tup [i 0,i 7]) else .tup [i 0,i (checkP b)]
theorem k37 (n:Nat) (b:Book):callK Try.prog kn (execA Try.prog ann kn (n+1400)) 37 [.agg (cellsT b)] = some (firstV b):=by
 rw [callK_of rfl,call0_eq Try.func37 b37 rfl (by simp [cellsT,encL,encC])]
 have q55:=fun n=>k55 n b
 simp only [cellsT] at q55
 unfold firstV
 by_cases he:checkP b = 0
 ·obtain ⟨i1,i2⟩:=l37 (n + 52) b (fair_of he) b.lines.length 0 b.lines (n + 1392) (by omega) (by have:=(fair_of he).ln; omega)
  unfold w37 at i1 i2
  simp only [cellsT,Nat.add_assoc,Nat.reduceAdd] at i1 i2
  rw [he] at q55
  rw [if_pos he]
  cases hf:firstP b with
  | some x =>
   have:=i1 x hf
   simp at this
   simp [c37,argFr,cellsT,q55,encL,encC,this]
   done
  | none =>
   obtain ⟨ys,this⟩:=i2 hf
   simp at this
   simp [c37,argFr,cellsT,q55,encL,encC,this]
   done
 ·have e:decide (checkP b = 0) = false:=by simpa using he
  rw [if_neg he]
  simp [c37,argFr,cellsT,q55,encL,encC,e]
  done
def askedP (b:Book) (fine:Bool):Int:=if checkP b = 0 then (if fine = true then (if possP b = true then 0 else 11) else 2) else checkP b
theorem k68 (n:Nat) (b:Book) (fine:Bool):callK Try.prog kn (execA Try.prog ann kn (n+1400)) 68 [.agg (cellsT b),.bool fine] = some (i (askedP b fine)):=by
 rw [callK_of rfl,call0_eq Try.func68 b68 rfl (by simp [cellsT,encL,encC])]
 have q55:=fun n=>k55 n b
 unfold askedP
 by_cases he:checkP b = 0
 ·have q84:=fun n=>k84 n b (fair_of he)
  rw [he] at q55
  rw [if_pos he]
  simp only [cellsT] at q55 q84
  cases fine
  ·simp [c68,argFr,cellsT,q55,encL,encC,q84]
   done
  ·generalize possP b = p at q84
   cases p
   ·simp [c68,argFr,cellsT,q55,encL,encC,q84]
    done
   ·simp [c68,argFr,cellsT,q55,encL,encC,q84]
    done
 ·have e:decide (checkP b = 0) = false:=by simpa using he
  rw [if_neg he]
  simp only [cellsT] at q55
  simp [c68,argFr,cellsT,q55,encL,encC,e]
  done
end Go.Proofs.Try.Op
