/- The two maps of the search: places of it (an hour, the work that is left, directions) as keys. No condition but numbers of 64 bits. -/
import Derived.Test.YtkemmiljbaneoaaGreatX1
import Derived.Test.YtkemmiljbaneoaaGreatI1
import Derived.Test.YtkemmiljbaneoaaGreatN1
import Derived.Test.YtkemmiljbaneoaaGreatFz
import Derived.Test.YtkemmiljbaneoaaGreatH1
open Go Go.Pg Go.Proofs Go.Wind
namespace Go.Proofs.Tryz.Op
set_option maxRecDepth 100000
set_option linter.unusedSimpArgs false
def okK (k:List Int):Prop:=k.length = 5∧∀ x ∈ k,okI x
def encKy (k:List Int):List V:=k.map i
def encT (p:List Int × V):V × V:=(.agg (encKy p.1),p.2)
theorem five {k:List Int} (h:k.length = 5):∃ a b c d e,k = [a,b,c,d,e]:=by
 match k,h with
 | [a,b,c,d,e],_=>exact ⟨a,b,c,d,e,rfl⟩
theorem kI (d:Nat) {n:Int} (h:okI n):Program.keyLits Tryz.prog (d + 1) 3 [.int .i64 n] = some [.int .i64 n]:=by
 unfold Program.keyLits
 simp [Tryz.underlying3,wfI h]
theorem kF3 (d:Nat) {a b c:Int} (ha:okI a) (hb:okI b) (hc:okI c):Program.keyLits Tryz.prog (d + 2) 149 [.int .i64 a,.int .i64 b,.int .i64 c] = some [.int .i64 a,.int .i64 b,.int .i64 c]:=by
 unfold Program.keyLits
 rw [Tryz.underlying149]
 simp only
 rw [if_pos (by simp),show List.range 3 = [0,1,2] from rfl]
 simp [List.mapM_cons,kI d ha,kI d hb,kI d hc]
theorem kPl (d:Nat) {a b c e f:Int} (ha:okI a) (hb:okI b) (hc:okI c) (he:okI e) (hf:okI f):(Program.keyLits Tryz.prog (d + 3) 152 [.int .i64 a,.int .i64 b,.int .i64 c,.int .i64 e,.int .i64 f]).isSome = true:=by
 unfold Program.keyLits
 simp [Tryz.underlying152,kI (d + 1) ha,kI (d + 1) hb,kF3 d hc he hf]
theorem sizeT:Tryz.prog.types.size + 1 = (Tryz.prog.types.size - 2) + 3:=by
 have:2≤Tryz.prog.types.size:=of_decide_eq_true (by kernel_rfl)
 omega
theorem keyTP:Tryz.prog.keyType 152 = true:=by kernel_rfl
theorem keyTT:keyT Tryz.prog 152 = true:=by kernel_rfl
theorem keyVK (k:List Int) (h:okK k):keyV Tryz.prog 152 (.agg (encKy k)) = some (encKy k):=by
 obtain ⟨hl,ho⟩:=h
 obtain ⟨a,b,c,d,e,rfl⟩:=five hl
 simp only [List.mem_cons,List.not_mem_nil,or_false,forall_eq_or_imp,forall_eq] at ho
 have q:=kPl (Tryz.prog.types.size - 2) ho.1 ho.2.1 ho.2.2.1 ho.2.2.2.1 ho.2.2.2.2
 rw [← sizeT] at q
 have hf:(Value.agg #[.int .i64 a,.int .i64 b,.int .i64 c,.int .i64 d,.int .i64 e]).formed Tryz.prog 152 = true:=by
  unfold Value.formed
  simp [Tryz.underlying152]
 have hko:(keyOf Tryz.prog 152 (.agg #[.int .i64 a,.int .i64 b,.int .i64 c,.int .i64 d,.int .i64 e])).isSome = true:=by
  unfold keyOf
  rw [Tryz.underlying152]
  simp only
  rw [if_pos (by rw [keyTP,hf]; rfl),Option.isSome_map]
  exact q
 have hp:plainC (encKy [a,b,c,d,e]) = some [.int .i64 a,.int .i64 b,.int .i64 c,.int .i64 d,.int .i64 e]:=rfl
 unfold keyV
 simp only [hp]
 rw [if_pos hko]
theorem eqC_ints:∀ (x y:List Int),x.length = y.length→eqC (x.map i) (y.map i) = some (x == y)
 | [],[],_=>rfl
 | a :: x,b :: y,h=>by
  have ih:=eqC_ints x y (by simpa using h)
  simp only [List.map_cons]
  show (if IntKind.i64 = IntKind.i64 then (match eqC (x.map i) (y.map i) with | some r=>some ((a == b) && r) | none=>none) else none) = _
  rw [if_pos rfl,ih]
  rfl
theorem eqC_K (m n:List Int) (hm:okK m) (hn:okK n):eqC (encKy m) (encKy n) = some (decide (m = n)):=by
 show eqC (m.map i) (n.map i) = _
 rw [eqC_ints m n (by rw [hm.1,hn.1])]
 congr 1
 by_cases h:m = n <;> simp [h]
def posT (m:List Int):List (List Int × V)→Nat→List Nat
 | [],_=>[]
 | p :: L,j=>if p.1 = m then j :: posT m L (j + 1) else posT m L (j + 1)
theorem findV_T (m:List Int) (hm:okK m):∀ (L:List (List Int × V)) (j:Nat),(∀ p ∈ L,okK p.1)→findV Tryz.prog 152 (encKy m) (L.map encT) j = some (posT m L j)
 | [],_,_=>rfl
 | p :: L,j,h=>by
  have ih:=findV_T m hm L (j + 1) (fun q hq=>h q (by simp [hq]))
  simp only [List.map_cons,encT,findV,keyVK p.1 (h p (by simp)),eqC_K p.1 m (h p (by simp)) hm]
  have ih':findV Tryz.prog 152 (encKy m) (List.map encT L) (j + 1) = some (posT m L (j + 1)):=ih
  rw [ih']
  simp [posT]
def lookT (m:List Int):List (List Int × V)→Option V
 | []=>none
 | p :: L=>if p.1 = m then some p.2 else lookT m L
def updT (m:List Int) (b:V):List (List Int × V)→List (List Int × V)
 | []=>[(m,b)]
 | p :: L=>if p.1 = m then (m,b) :: L else p :: updT m b L
def FlatV (v:V):Prop:=(∃ l:List Int,v = .agg (l.map i))∨∃ n:Int,v = i n
structure okT (L:List (List Int × V)):Prop where
 ok:∀ p ∈ L,okK p.1
 nd:(L.map (·.1)).Nodup
 fl:∀ p ∈ L,FlatV p.2
theorem okT.tail {p:List Int × V} {L:List (List Int × V)} (h:okT (p :: L)):okT L:=⟨fun q hq=>h.ok q (by simp [hq]),(List.nodup_cons.1 h.nd).2,fun q hq=>h.fl q (by simp [hq])⟩
theorem look_upd (m m':List Int) (b:V):∀ L,lookT m' (updT m b L) = if m = m' then some b else lookT m' L
 | []=>by simp [updT,lookT]
 | p :: L=>by
  have ih:=look_upd m m' b L
  unfold updT
  split
  ·rename_i h
   simp only [lookT,h]
   split <;> rfl
  ·rename_i h
   simp only [lookT,ih]
   split
   ·rename_i h2
    rw [if_neg (by rw [← h2]; exact fun hh=>h hh.symm)]
   ·rfl
theorem keys_upd (m:List Int) (b:V):∀ L,∀ q ∈ (updT m b L).map (·.1),q = m∨q ∈ L.map (·.1)
 | [],q,hq=>by simp [updT] at hq; exact .inl hq
 | p :: L,q,hq=>by
  unfold updT at hq
  split at hq
  ·simp at hq
   rcases hq with h | h
   ·exact .inl h
   ·exact .inr (by simp [h])
  ·simp only [List.map_cons,List.mem_cons] at hq
   rcases hq with h | h
   ·exact .inr (by simp [h])
   ·rcases keys_upd m b L q h with h | h
    ·exact .inl h
    ·exact .inr (by simp only [List.map_cons,List.mem_cons]; exact .inr h)
theorem okT_upd {m:List Int} (b:V) (hb:FlatV b) (hm:okK m):∀ {L},okT L→okT (updT m b L)
 | [],_=>⟨by simp [updT,hm],by simp [updT],by simp [updT,hb]⟩
 | p :: L,h=>by
  have ih:=okT_upd b hb hm h.tail
  unfold updT
  split
  ·rename_i hp
   refine ⟨fun q hq=>?_,?_,fun q hq=>by
    simp only [List.mem_cons] at hq
    rcases hq with rfl | hq
    ·first | exact hb | exact h.fl _ (by simp)
    ·first | exact ih.fl q hq | exact h.fl q (by simp [hq])⟩
   ·simp only [List.mem_cons] at hq
    rcases hq with rfl | hq
    ·exact hm
    ·exact h.ok q (by simp [hq])
   ·have:=h.nd
    simp only [List.map_cons,hp] at this ⊢
    exact this
  ·rename_i hp
   refine ⟨fun q hq=>?_,?_,fun q hq=>by
    simp only [List.mem_cons] at hq
    rcases hq with rfl | hq
    ·first | exact hb | exact h.fl _ (by simp)
    ·first | exact ih.fl q hq | exact h.fl q (by simp [hq])⟩
   ·simp only [List.mem_cons] at hq
    rcases hq with rfl | hq
    ·exact h.ok q (by simp)
    ·exact ih.ok q hq
   ·simp only [List.map_cons,List.nodup_cons]
    refine ⟨fun hh=>?_,ih.nd⟩
    rcases keys_upd m b L p.1 hh with hh | hh
    ·exact hp hh
    ·exact (List.nodup_cons.1 h.nd).1 hh
theorem pos_none (m:List Int):∀ (L:List (List Int × V)) (j:Nat),m ∉ L.map (·.1)→posT m L j = []∧lookT m L = none∧∀ b,updT m b L = L ++ [(m,b)]
 | [],j,_=>⟨rfl,rfl,fun _=>rfl⟩
 | p :: L,j,h=>by
  simp only [List.map_cons,List.mem_cons,not_or] at h
  obtain ⟨i1,i2,i3⟩:=pos_none m L (j + 1) h.2
  have hp:¬ p.1 = m:=fun hh=>h.1 hh.symm
  exact ⟨by simp [posT,hp,i1],by simp [lookT,hp,i2],fun b=>by simp [updT,hp,i3]⟩
theorem pos_some (m:List Int):∀ (L:List (List Int × V)) (j:Nat),m ∈ L.map (·.1)→(L.map (·.1)).Nodup→∃ k,posT m L j = [j + k]∧(∃ b,L[k]? = some (m,b)∧lookT m L = some b)∧∀ b,updT m b L = L.set k (m,b)
 | p :: L,j,h,hn=>by
  simp only [List.map_cons,List.nodup_cons] at hn
  by_cases hp:p.1 = m
  ·refine ⟨0,?_,⟨p.2,?_,?_⟩,fun b=>?_⟩
   ·simp [posT,hp,(pos_none m L (j + 1) (by rw [← hp]; exact hn.1)).1]
   ·simp [← hp]
   ·simp [lookT,hp]
   ·simp [updT,hp]
  ·simp only [List.map_cons,List.mem_cons] at h
   obtain ⟨k,i1,⟨b,i2,i3⟩,i4⟩:=pos_some m L (j + 1) (h.resolve_left fun hh=>hp hh.symm) hn.2
   refine ⟨k + 1,?_,⟨b,?_,?_⟩,fun b=>?_⟩
   ·simp [posT,hp,i1]; omega
   ·simpa using i2
   ·simp [lookT,hp,i3]
   ·simp [updT,hp,i4]
theorem close_intsT (s:St) (f:Nat):∀ l:List Int,(l.map i).mapM (closeX s (f + 1)) = some (l.map i)
 | []=>rfl
 | a :: l=>by
  have e:closeX s (f + 1) (i a) = some (i a):=rfl
  simp only [List.map_cons,List.mapM_cons,e,close_intsT s f l]
  rfl
theorem close_agg (s:St) (l:List Int):closeOX s (.agg (l.map i)) = some (.agg (l.map i)):=by
 have:=close_intsT s 2 l
 show ((l.map i).mapM (closeX s 3)).map V.agg = _
 rw [this]
 rfl
theorem close_flat (s:St) {v:V} (h:FlatV v):closeOX s v = some v:=by
 rcases h with ⟨l,rfl⟩ | ⟨n,rfl⟩
 ·exact close_agg s l
 ·rfl
theorem shut_T (s:St) {L:List (List Int × V)} (h:okT L):shutRes s (.map (L.map encT)) = .map (L.map encT):=by
 have:closeResX s (.map (L.map encT)) = some (.map (L.map encT)):=by
  unfold closeResX
  simp only
  rw [mapOO_same]
  intro x hx
  simp only [List.mem_map] at hx
  obtain ⟨p,hp,rfl⟩:=hx
  simp only [encT,encKy,close_agg,close_flat s (h.fl p hp)]
 unfold shutRes
 rw [this]
theorem mapTA:mapT Tryz.prog 142 = some (152,154):=by kernel_rfl
theorem mapTI:mapT Tryz.prog 143 = some (152,3):=by kernel_rfl
theorem wholeZA:wholeZ Tryz.prog 154 = some (.agg [i 0,i 0,i 0,i 0]):=by kernel_rfl
theorem wholeZI:wholeZ Tryz.prog 3 = some (i 0):=by kernel_rfl
theorem look_A {s:St} {l q g:Nat} {L:List (List Int × V)} {m:List Int} (hs:s.get l q = some (g,.map (L.map encT))) (hL:okT L) (hm:okK m) :
  evLookup Tryz.prog s 142 (.mp l q g) (.agg (encKy m)) true = some (.tup [(lookT m L).getD (.agg [i 0,i 0,i 0,i 0]),.bool (lookT m L).isSome]):=by
 unfold evLookup
 simp only [mapTA,hs,keyTT,keyVK m hm,findV_T m hm L 0 hL.ok,and_self,if_true]
 by_cases h:m ∈ L.map (·.1)
 ·obtain ⟨k,i1,⟨b,i2,i3⟩,_⟩:=pos_some m L 0 h hL.nd
  simp [i1,i2,i3,encT]
 ·obtain ⟨i1,i2,_⟩:=pos_none m L 0 h
  simp [i1,i2,wholeZA]
theorem look_I {s:St} {l q g:Nat} {L:List (List Int × V)} {m:List Int} (hs:s.get l q = some (g,.map (L.map encT))) (hL:okT L) (hm:okK m) :
  evLookup Tryz.prog s 143 (.mp l q g) (.agg (encKy m)) true = some (.tup [(lookT m L).getD (i 0),.bool (lookT m L).isSome]):=by
 unfold evLookup
 simp only [mapTI,hs,keyTT,keyVK m hm,findV_T m hm L 0 hL.ok,and_self,if_true]
 by_cases h:m ∈ L.map (·.1)
 ·obtain ⟨k,i1,⟨b,i2,i3⟩,_⟩:=pos_some m L 0 h hL.nd
  simp [i1,i2,i3,encT]
 ·obtain ⟨i1,i2,_⟩:=pos_none m L 0 h
  simp [i1,i2,wholeZI]
theorem upd_A {s:St} {l q g:Nat} {L:List (List Int × V)} {m:List Int} {v:V} (hs:s.get l q = some (g,.map (L.map encT))) (hL:okT L) (hm:okK m) :
  evUpd Tryz.prog s 142 (.mp l q g) (.agg (encKy m)) v = some (l,q,g,(updT m v L).map encT):=by
 unfold evUpd
 simp only [mapTA,hs,keyTT,keyVK m hm,findV_T m hm L 0 hL.ok,and_self,if_true]
 by_cases h:m ∈ L.map (·.1)
 ·obtain ⟨k,i1,_,i4⟩:=pos_some m L 0 h hL.nd
  simp [i1,i4,encT]
 ·obtain ⟨i1,_,i4⟩:=pos_none m L 0 h
  simp [i1,i4,encT]
theorem upd_I {s:St} {l q g:Nat} {L:List (List Int × V)} {m:List Int} {v:V} (hs:s.get l q = some (g,.map (L.map encT))) (hL:okT L) (hm:okK m) :
  evUpd Tryz.prog s 143 (.mp l q g) (.agg (encKy m)) v = some (l,q,g,(updT m v L).map encT):=by
 unfold evUpd
 simp only [mapTI,hs,keyTT,keyVK m hm,findV_T m hm L 0 hL.ok,and_self,if_true]
 by_cases h:m ∈ L.map (·.1)
 ·obtain ⟨k,i1,_,i4⟩:=pos_some m L 0 h hL.nd
  simp [i1,i4,encT]
 ·obtain ⟨i1,_,i4⟩:=pos_none m L 0 h
  simp [i1,i4,encT]
end Go.Proofs.Tryz.Op
/- The level of the search, and what 'sure' does to it. No condition but a valid beach. -/
open Go Go.Pg Go.Proofs Go.Wind
namespace Go.Proofs.Tryz.Op
set_option maxRecDepth 100000
set_option linter.unusedSimpArgs false
def SoundA (b:Beach) (ws:List (List Int)) (T:List (List Int × V)):Prop:=∀ (d h:Nat) (left:Int) (f:List Int) (v:V),h + d = b.winds.length→f ∈ allF b.rows.toNat→lookT (((h:Nat):Int) :: left :: f) T = some v→v = .agg (i (bestT b ws d h left f).1 :: (bestT b ws d h left f).2.map i)
def SoundI (b:Beach) (ws:List (List Int)) (T:List (List Int × V)):Prop:=∀ (h:Nat) (g:List Int) (v:V),lookT (((h:Nat):Int) :: 0 :: g) T = some v→v = i (sureP b ws h g)
structure Lm (b:Beach) (ws:List (List Int)) (γ:Nat) (B:Level) (L:Level):Prop where
 p0:∃ T,okT T∧SoundA b ws T∧L.get 900 = some (γ,.map (T.map encT))
 p1:∃ T,okT T∧SoundI b ws T∧L.get 901 = some (γ + 1,.map (T.map encT))
 p2:L.get 902 = some (γ + 2,.box (cellsB b ++ [lli ws,.mp 0 900 γ,.mp 0 901 (γ + 1)]))
 st:∀ t:St,1≤t.up.length→shutLv t L = L
 ot:∀ k,¬ k = 900→¬ k = 901→L.get k = B.get k
theorem Lm.put0 {b:Beach} {ws:List (List Int)} {γ:Nat} {B L:Level} (h:Lm b ws γ B L) {T:List (List Int × V)} (h1:okT T) (h2:SoundA b ws T):Lm b ws γ B ((900,γ,.map (T.map encT)) :: L) where
 p0:=⟨T,h1,h2,by simp⟩
 p1:=by
  obtain ⟨T1,a1,a2,a3⟩:=h.p1
  exact ⟨T1,a1,a2,by simpa using a3⟩
 p2:=by simpa using h.p2
 st:=fun t ht=>by rw [shutLv_cons,h.st t ht,shut_T t h1]
 ot:=fun k h1 h2=>by
  rw [← h.ot k h1 h2]
  simp [h1]
theorem Lm.put1 {b:Beach} {ws:List (List Int)} {γ:Nat} {B L:Level} (h:Lm b ws γ B L) {T:List (List Int × V)} (h1:okT T) (h2:SoundI b ws T):Lm b ws γ B ((901,γ + 1,.map (T.map encT)) :: L) where
 p0:=by
  obtain ⟨T1,a1,a2,a3⟩:=h.p0
  exact ⟨T1,a1,a2,by simpa using a3⟩
 p1:=⟨T,h1,h2,by simp⟩
 p2:=by simpa using h.p2
 st:=fun t ht=>by rw [shutLv_cons,h.st t ht,shut_T t h1]
 ot:=fun k h1 h2=>by
  rw [← h.ot k h1 h2]
  simp [h2]
section
variable {b:Beach} {ws:List (List Int)}
theorem allF_small {g0 g1 g2:Int} (hg:[g0,g1,g2] ∈ allF b.rows.toNat):(0≤g0∧g0≤3)∧(0≤g1∧g1≤3)∧0≤g2∧g2≤3:=by
 obtain ⟨l,h1,h2,h3⟩:=mem_allF.1 hg
 have hall:∀ x ∈ [g0,g1,g2],0≤x∧x≤3:=fun x hx=>by
  rw [h3,List.mem_append] at hx
  rcases hx with hx | hx
  ·exact h2 x hx
  ·rw [List.eq_of_mem_replicate hx]; decide
 simpa using hall
theorem soundI_upd {T:List (List Int × V)} (hT:SoundI b ws T) (h:Nat) (g:List Int):SoundI b ws (updT (((h:Nat):Int) :: 0 :: g) (i (sureP b ws h g)) T):=by
 intro h' g' v hv
 rw [look_upd] at hv
 split at hv
 ·rename_i e
  simp only [List.cons.injEq,true_and] at e
  obtain ⟨e1,rfl⟩:=e
  have:h = h':=by omega
  subst this
  cases hv
  rfl
 ·exact hT h' g' v hv
theorem kSureW (hb:Valid b) (hwl:ws.length = b.winds.length) (hok:RowsOK ws) (B:Level) (γ:Nat) (h:Nat) (hh:h < b.winds.length) (g0 g1 g2:Int) (hg:[g0,g1,g2] ∈ allF b.rows.toNat) (L:Level) (hL:Lm b ws γ B L) (rs:List Level) (loc:Level) (hst:Stays (rs ++ [loc])) (c:Nat) (hc:γ + 2 < c) :
  ∃ L' c',Lm b ws γ B L'∧c≤c'∧∀ n dd fr,ca2 (envA Tryz.prog ann kn (n+3000)) (some dd) ⟨c,fr,⟨L :: rs,loc⟩⟩ 125 [.ptr 0 902 (γ + 2) 0,i h,.agg [i g0,i g1,i g2]] = some ⟨c',(dd,true,i (sureP b ws h [g0,g1,g2])) :: fr,⟨L' :: rs,loc⟩⟩:=by
 obtain ⟨T0,a1,a2,a3⟩:=hL.p0
 obtain ⟨T1,b1,b2,b3⟩:=hL.p1
 have p2:=hL.p2
 have hwi:=hb.wi
 have hla:=hb.la
 have hsu:=hb.su
 have hhw:h < ws.length:=by omega
 have hxm:ws.getD h [] ∈ ws:=by
  rw [List.getD_eq_getElem?_getD,List.getElem?_eq_getElem hhw]
  exact List.getElem_mem hhw
 have hx:∀ x ∈ ws.getD h [],0≤x∧x≤3:=hok.lo _ hxm
 have hxl:(ws.getD h []).length≤100:=by have:=hok.len _ hxm; omega
 have qG:=fun n=>kGood (b:=b) (ws:=ws) (h:=h) (g0:=g0) (g1:=g1) (g2:=g2) n hb (by omega) (by omega) hx hxl (fun r hr=>allF_dir hg hr)
 have hg5:=allF_small (b:=b) hg
 have hKo:okK [(h:Int),0,g0,g1,g2]:=by
  refine ⟨rfl,?_⟩
  simp only [List.mem_cons,List.not_mem_nil,or_false,forall_eq_or_imp,forall_eq]
  exact ⟨okI_small (by omega),okI_small (by omega),okI_small (by omega),okI_small (by omega),okI_small (by omega)⟩
 have ql:∀ (r:List Level) (lo:Level),evLookup Tryz.prog ⟨L :: r,lo⟩ 143 (.mp 0 901 (γ + 1)) (.agg [i h,i 0,i g0,i g1,i g2]) true = some (.tup [(lookT [(h:Int),0,g0,g1,g2] T1).getD (i 0),.bool (lookT [(h:Int),0,g0,g1,g2] T1).isSome]):=fun r lo=>look_I (by simpa using b3) b1 hKo
 have qu:∀ (r:List Level) (lo:Level) (v:V),evUpd Tryz.prog ⟨L :: r,lo⟩ 143 (.mp 0 901 (γ + 1)) (.agg [i h,i 0,i g0,i g1,i g2]) v = some (0,901,γ + 1,(updT [(h:Int),0,g0,g1,g2] v T1).map encT):=fun r lo v=>upd_I (by simpa using b3) b1 hKo
 have hs1:=fun t:St=>fun h=>hst t h
 cases hlk:lookT [(h:Int),0,g0,g1,g2] T1 with
 | some v =>
  rw [hlk] at ql
  have hv:=b2 h [g0,g1,g2] v hlk
  subst hv
  refine ⟨L,c + 2,hL,by omega,fun n dd fr=>?_⟩
  rw [cf_open Tryz.func125 b125 rfl (by simp)]
  simp only [cellsB] at p2
  simp [c125,argFr,encI,p2,ql,hL.st,hs1]
 | none =>
  rw [hlk] at ql
  have hL':=hL.put1 (okT_upd (i (sureP b ws h [g0,g1,g2])) (.inr ⟨_,rfl⟩) hKo b1) (soundI_upd b2 h [g0,g1,g2])
  have qu1:=fun r lo=>qu r lo (i (goodR b ws h (dirF [g0,g1,g2])).1)
  have eS:(goodR b ws h (dirF [g0,g1,g2])).1 = sureP b ws h [g0,g1,g2]:=rfl
  have hsh:=fun t:St=>shut_T t (okT_upd (i (sureP b ws h [g0,g1,g2])) (.inr ⟨_,rfl⟩) hKo b1)
  rw [← eS] at hL' hsh ⊢
  generalize (updT [(h:Int),0,g0,g1,g2] (i (goodR b ws h (dirF [g0,g1,g2])).1) T1).map encT = TT at qu1 hL' hsh
  have hu1:=fun c fr s es=>up1_some (c:=c) (fr:=fr) (s:=s) 0 901 (γ + 1) es
  have hc2:γ + 1 < c + 1 + 1:=by omega
  refine ⟨_,c + 2,hL',by omega,fun n dd fr=>?_⟩
  rw [cf_open Tryz.func125 b125 rfl (by simp)]
  simp only [cellsB,cellsWk,encR,encF,List.map_cons,List.map_nil] at p2 qG
  simp [c125,argFr,encI,p2,ql,qG,qu1,hu1,hc2,hsh,hL.st,hs1,put_eq0]
end
end Go.Proofs.Tryz.Op
/- One choice of directions: what the search's best does with it. No condition but a valid beach. -/
open Go Go.Pg Go.Proofs Go.Wind
namespace Go.Proofs.Tryz.Op
set_option maxRecDepth 100000
set_option linter.unusedSimpArgs false
@[simp] theorem anyM_ptr (a b g o:Nat):anyM (.ptr a b g o) = .ptr a b g o:=rfl
theorem y3 (n:Nat) (st:XS):execA Tryz.prog ann kn (n + 1) 44 r124_3 st = toN (runY Tryz.prog (envA Tryz.prog ann kn n) [(false,oq 19 (.ld 127 (tq 1))),(false,oq 20 (.fa 152 (tq 2) 0)),(false,oq 21 (.ld 3 (tq 20))),(false,oq 22 (.ld 149 (tq 4))),(false,oq 24 (.ld 127 (tq 1))),(false,oq 25 (.fa 152 (tq 2) 0)),(false,oq 26 (.ld 3 (tq 25))),(false,oq 27 (.bin .add 3 (tq 26) (ci 1))),(false,oq 28 (.fa 152 (tq 2) 1)),(false,oq 29 (.ld 3 (tq 28))),(false,oq 30 (.mv (tq 5))),(false,oq 31 (.bin .sub 3 (tq 29) (tq 30))),(false,oq 32 (.ld 149 (tq 4))),(false,oq 33 (.build 152 [(0,tq 27),(1,tq 31),(2,tq 32)])),
  (true,oq 23 (.call false none (.func 125) [tq 19,tq 21,tq 22])),(true,oq 34 (.call false none (.func 96) [tq 24,tq 33])),(false,oq 35 (.oth (.field 154 (tq 34) 0))),(false,oq 36 (.bin .add 3 (tq 23) (tq 35))),(false,oq 6 (.mv (tq 36)))] (some (trimO (some ([1,2,3,4,5],[4])) (ghO [] st)))) :=
 exec_regY (by kernel_rfl) (by kernel_rfl) (by kernel_rfl) (by kernel_rfl) rfl (by kernel_rfl) (by kernel_rfl)
theorem runY_nil {P:Program} {E:XE} (r:Option XS):runY P E [] r = r:=rfl
theorem runY_cons {P:Program} {E:XE} (b:Bool) (j:IOp) (l:List (Bool × IOp)) (st:XS):runY P E ((b,j) :: l) (some st) = runY P E l (opYI P E b j st):=rfl
theorem backY_some (st st1:XS):backY st (some st1) = some ⟨st.c,st1.fr,st.s⟩:=rfl
theorem valK_mv {P:Program} (d:Option Tmp) (x:Operand) (st:XS):valK P d (.mv x) st = stepK P (envA Tryz.prog ann kn 0) d (.mv x) st:=rfl
theorem valK_bin {P:Program} (d:Option Tmp) (o:BinOp) (T:TypeId) (x y:Operand) (st:XS):valK P d (.bin o T x y) st = stepK P (envA Tryz.prog ann kn 0) d (.bin o T x y) st:=rfl
theorem valK_fa {P:Program} (d:Option Tmp) (T:TypeId) (x:Operand) (f:Nat) (st:XS):valK P d (.fa T x f) st = stepK P (envA Tryz.prog ann kn 0) d (.fa T x f) st:=rfl
theorem valK_ld {P:Program} (d:Option Tmp) (T:TypeId) (x:Operand) (st:XS):valK P d (.ld T x) st = stepK P (envA Tryz.prog ann kn 0) d (.ld T x) st:=rfl
theorem valK_build {P:Program} (d:Option Tmp) (T:TypeId) (ps:List (Nat × Operand)) (st:XS):valK P d (.build T ps) st = stepK P (envA Tryz.prog ann kn 0) d (.build T ps) st:=rfl
theorem valK_oth {P:Program} (d:Option Tmp) (o:Op) (st:XS):valK P d (.oth o) st = stepK P (envA Tryz.prog ann kn 0) d (.oth o) st:=rfl
theorem opY_val {P:Program} {E:XE} (d:Nat) (k:IK) (st:XS):opYI P E false (oq d k) st = backY st (valK P (some d) k ⟨st.c,st.fr,⟨[],[]⟩⟩):=rfl
theorem opY_cal {P:Program} {E:XE} (d:Nat) (k:IK) (st:XS):opYI P E true (oq d k) st = calK E (some d) k st:=rfl
theorem calK_eq {E:XE} (d:Option Tmp) (a:Bool) (t:Option Tmp) (x:Operand) (args:List Operand) (c:Nat) (fr:Fr) (s:St):calK E d (.call a t x args) ⟨c,fr,s⟩ = cY1 E d ⟨c,fr,s⟩ (rdX fr x) (mapO (rdX fr) args):=rfl
theorem cY1_fn {E:XE} (d:Option Tmp) (st:XS) (f:FuncId) (first cap vs:List V):cY1 E d st (some (.fn f first cap)) (some vs) = ca2 E d st f ((first ++ vs ++ cap).map weakV):=rfl
theorem up_at (RS:List Level) (a:Level) (Y:List Level):(RS ++ a :: Y)[RS.length]? = some a:=by simp
theorem up_set (RS:List Level) (a:Level) (Y:List Level) (f:Level→Level):(RS ++ a :: Y).modify RS.length f = RS ++ f a :: Y:=by
 induction RS with
 | nil=>rfl
 | cons x RS ih=>simpa using ih
structure Lbb (N c4 c7:Nat) (acc:Int × List Int) (L:Level):Prop where
 p4:L.get 4 = some (c4,.box [i 0,i 0,i 0,i 0])
 p7:L.get 7 = some (c7,.box (i acc.1 :: acc.2.map i))
 st:∀ t:St,N + 2≤t.up.length→shutLv t L = L
 n2:L.get 2 = none
 n3:L.get 3 = none
def RecBst (b:Beach) (ws:List (List Int)) (γ:Nat) (B:Level) (M d h:Nat):Prop:=∀ (left f0 f1 f2:Int),[f0,f1,f2] ∈ allF b.rows.toNat→0≤left→left≤99→∀ (L:Level) (RS:List Level) (c:Nat),Lm b ws γ B L→Stays RS→γ + 2 < c →
 ∃ L' c',Lm b ws γ B L'∧c≤c'∧∀ n dd fr,finS Tryz.prog (some dd) fr Tryz.f96.results.toList (execA Tryz.prog ann kn (n + M) 39 c96 ⟨c,argFr 0 [.ptr 0 902 (γ + 2) 0,.agg [i h,i left,i f0,i f1,i f2]],⟨L :: RS,[]⟩⟩) = finU (some dd) fr c' (.agg (i (bestT b ws d h left [f0,f1,f2]).1 :: (bestT b ws d h left [f0,f1,f2]).2.map i)) (unsnoc (L' :: RS))
theorem stays_parts {RS Y:List Level} {a:Level} (h:Stays (RS ++ a :: Y)):(∀ t:St,RS.length + Y.length + 2≤t.up.length→RS.map (shutLv t) = RS)∧∀ t:St,RS.length + Y.length + 2≤t.up.length→Y.map (shutLv t) = Y:=by
 have h2:∀ t:St,RS.length + Y.length + 2≤t.up.length→RS.map (shutLv t) = RS∧(a :: Y).map (shutLv t) = a :: Y:=fun t ht=>by
  have:=h t (by simp; omega)
  rw [List.map_append] at this
  exact List.append_inj this (by simp)
 refine ⟨fun t ht=>(h2 t ht).1,fun t ht=>?_⟩
 have:=(h2 t ht).2
 simp only [List.map_cons,List.cons.injEq] at this
 exact this.2
theorem stays_mid {RS Y:List Level} {a x:Level} (h:Stays (RS ++ a :: Y)) (hx:∀ t:St,RS.length + 2≤t.up.length→shutLv t x = x):Stays (RS ++ x :: Y):=by
 obtain ⟨h1,h2⟩:=stays_parts h
 intro t ht
 have ht':RS.length + Y.length + 2≤t.up.length:=by simp at ht; omega
 rw [List.map_append,List.map_cons,h1 t ht',h2 t ht',hx t (by omega)]
theorem fold_len (work sure:List Int→Int) (left:Int):∀ (l:List (List Int)) (acc:Int × List Int),acc.2.length = 3→(∀ g ∈ l,g.length = 3)→(l.foldl (stepB work sure left) acc).2.length = 3
 | [],_,h,_=>h
 | g :: l,acc,h,hl=>by
  rw [List.foldl_cons]
  refine fold_len work sure left l _ ?_ fun x hx=>hl x (by simp [hx])
  unfold stepB
  split
  ·exact h
  ·split
   ·exact hl g (by simp)
   ·exact h
theorem fold_bd (work sure:List Int→Int) (left m:Int) (hm:0≤m):∀ (l:List (List Int)) (acc:Int × List Int),-1≤acc.1∧acc.1≤m→(∀ g ∈ l,-1≤sure g∧sure g≤m)→-1≤(l.foldl (stepB work sure left) acc).1∧(l.foldl (stepB work sure left) acc).1≤m
 | [],_,h,_=>h
 | g :: l,acc,h,hl=>by
  rw [List.foldl_cons]
  refine fold_bd work sure left m hm l _ ?_ fun x hx=>hl x (by simp [hx])
  unfold stepB
  split
  ·exact h
  ·split
   ·exact hl g (by simp)
   ·exact h
theorem bestT_len {b:Beach} (hb:Valid b) (ws:List (List Int)):∀ (d h:Nat) (left:Int) (f:List Int),(bestT b ws d h left f).2.length = 3
 | 0,_,_,_=>rfl
 | d + 1,h,left,f=>fold_len _ _ left _ _ rfl fun g hg=>allF_len (by have:=hb.ro; omega) hg
theorem bestT_bd {b:Beach} (hb:Valid b) (ws:List (List Int)):∀ (d h:Nat) (left:Int) (f:List Int),-1≤(bestT b ws d h left f).1∧(bestT b ws d h left f).1≤15 * d
 | 0,_,_,_=>by simp [bestT]
 | d + 1,h,left,f=>fold_bd _ _ left _ (by omega) _ _ (by constructor <;> simp <;> omega) fun g hg=>by
  have h1:=sureP_le hb ws h g
  have h2:=bestT_bd hb ws d (h + 1) (left - workF b f g) g
  exact ⟨by omega,by omega⟩
section
variable {b:Beach} {ws:List (List Int)}
theorem kStepX (hb:Valid b) (hwl:ws.length = b.winds.length) (hok:RowsOK ws) (B:Level) (γ:Nat) (d h:Nat) (hh:h + (d + 1) = b.winds.length) (M:Nat) (hrec:RecBst b ws γ B M d (h + 1)) (left f0 f1 f2:Int) (hf:[f0,f1,f2] ∈ allF b.rows.toNat) (hl:0≤left∧left≤99) (g0 g1 g2:Int) (hg:[g0,g1,g2] ∈ allF b.rows.toNat)
  (RS Y:List Level) (L Lb:Level) (c4 c7:Nat) (acc:Int × List Int) (hL:Lm b ws γ B L) (hLb:Lbb RS.length c4 c7 acc Lb) (hst:Stays (RS ++ Lb :: Y)) (c:Nat) (hc:γ + 2 < c) (hc7:c7 < c) (hacc:acc.2.length = 3) :
  ∃ L' Lb' c',Lm b ws γ B L'∧Lbb RS.length c4 c7 (stepB (workF b [f0,f1,f2]) (fun g=>sureP b ws h g + (bestT b ws d (h + 1) (left - workF b [f0,f1,f2] g) g).1) left acc [g0,g1,g2]) Lb'∧c≤c'∧∀ n dd fr,finS Tryz.prog (some dd) fr Tryz.f124.results.toList (execA Tryz.prog ann kn (n + M + 3300) 44 c124 ⟨c,argFr 0 [.agg [i g0,i g1,i g2],.ref [.ptr 0 902 (γ + 2) 0],.ref [i h,i left,i f0,i f1,i f2],.ptr (RS.length + 1) 7 c7 0],⟨L :: (RS ++ Lb :: Y),[]⟩⟩) = finU (some dd) fr c' (.tup []) (unsnoc (L' :: (RS ++ Lb' :: Y))):=by
 have p2:=hL.p2
 obtain ⟨hsR,hsY⟩:=stays_parts hst
 have h5:=hb.hl
 have sR:∀ (A x:Level) (lo:Level),RS.map (shutLv ⟨A :: (RS ++ x :: Y),lo⟩) = RS:=fun A x lo=>hsR _ (by simp <;> omega)
 have sY:∀ (A x:Level) (lo:Level),Y.map (shutLv ⟨A :: (RS ++ x :: Y),lo⟩) = Y:=fun A x lo=>hsY _ (by simp <;> omega)
 have sB:∀ (A x:Level) (lo:Level),shutLv ⟨A :: (RS ++ x :: Y),lo⟩ Lb = Lb:=fun A x lo=>hLb.st _ (by simp <;> omega)
 have sL:∀ (A x:Level) (lo:Level),shutLv ⟨A :: (RS ++ x :: Y),lo⟩ L = L:=fun A x lo=>hL.st _ (by simp)
 have hLb0:=hLb
 obtain ⟨q4,q7,qst,qn2,qn3⟩:=hLb
 have hF:=allF_small hf
 have hG:=allF_small hg
 have qT:=fun n=>kTurned (b:=b) (x0:=f0) (x1:=f1) (x2:=f2) (y0:=g0) (y1:=g1) (y2:=g2) n hb (fun r hr=>allF_dir hf hr) (fun r hr=>allF_dir hg hr)
 have eW:turnedP b (dirF [f0,f1,f2]) (dirF [g0,g1,g2]) = workF b [f0,f1,f2] [g0,g1,g2]:=rfl
 rw [eW] at qT
 have hW:=workF_le hb hf hg
 obtain ⟨acc1,acc2⟩:=acc
 obtain ⟨v0,v1,v2,rfl⟩:=three acc2 hacc
 simp only [stepB]
 by_cases hlt:left < workF b [f0,f1,f2] [g0,g1,g2]
 ·rw [if_pos hlt]
  refine ⟨L,Lb,c + 1,hL,⟨q4,q7,qst,qn2,qn3⟩,by omega,fun n dd fr=>?_⟩
  generalize workF b [f0,f1,f2] [g0,g1,g2] = W at *
  simp only [cellsB] at p2 qT
  simp [c124,argFr,encI,encL,encP,p2,q7,up_at,up_set,qT,hlt,plK,sR,sY,sB,sL]
 ·rw [if_neg hlt]
  have hh1:h < b.winds.length:=by omega
  have hstA:=stays_more hst (loc:=[]) (fun _ _=>rfl)
  obtain ⟨L1,C1,s1,s2,s3⟩:=kSureW hb hwl hok B γ h hh1 g0 g1 g2 hg L hL (RS ++ Lb :: Y) [] hstA (c + 1) (by omega)
  obtain ⟨L2,C2,r1,r2,r3⟩:=hrec (left - workF b [f0,f1,f2] [g0,g1,g2]) g0 g1 g2 hg (by omega) (by omega) L1 ((RS ++ Lb :: Y) ++ [[]]) C1 s1 hstA (by omega)
  have hS:=sureP_le hb ws h [g0,g1,g2]
  have hbd:=bestT_bd hb ws d (h + 1) (left - workF b [f0,f1,f2] [g0,g1,g2]) [g0,g1,g2]
  have hln:=bestT_len hb ws d (h + 1) (left - workF b [f0,f1,f2] [g0,g1,g2]) [g0,g1,g2]
  generalize hWW:workF b [f0,f1,f2] [g0,g1,g2] = W at *
  generalize bestT b ws d (h + 1) (left - W) [g0,g1,g2] = Q at *
  obtain ⟨Q1,Q2⟩:=Q
  obtain ⟨u0,u1,u2,rfl⟩:=three Q2 hln
  simp only at hbd r3 ⊢
  have hcb:∀ n dd fr,ca2 (envA Tryz.prog ann kn (n + M + 3295)) (some dd) ⟨C1,fr,⟨L1 :: (RS ++ Lb :: Y),[]⟩⟩ 96 [.ptr 0 902 (γ + 2) 0,.agg [i ((h:Int) + 1),i (left - W),i g0,i g1,i g2]] = some ⟨C2,(dd,true,.agg [i Q1,i u0,i u1,i u2]) :: fr,⟨L2 :: (RS ++ Lb :: Y),[]⟩⟩:=fun n dd fr=>by
   rw [cf_open Tryz.func96 b96 rfl (by simp)]
   have q:=r3 (n + 3295) dd fr
   rw [show n + 3295 + M = n + M + 3295 by omega] at q
   rw [List.cons_append]
   refine (Eq.trans ?_ q).trans ?_
   ·rfl
   ·rw [← List.cons_append,unsnoc_snoc]
    rfl
  have s3':∀ n dd fr,ca2 (envA Tryz.prog ann kn (n + M + 3295)) (some dd) ⟨c + 1,fr,⟨L :: (RS ++ Lb :: Y),[]⟩⟩ 125 [.ptr 0 902 (γ + 2) 0,i h,.agg [i g0,i g1,i g2]] = some ⟨C1,(dd,true,i (sureP b ws h [g0,g1,g2])) :: fr,⟨L1 :: (RS ++ Lb :: Y),[]⟩⟩:=fun n dd fr=>s3 (n + M + 295) dd fr
  generalize sureP b ws h [g0,g1,g2] = S at *
  simp only [cellsB] at p2 qT
  have w1:IntKind.i64.wrap ((h:Int) + 1) = (h:Int) + 1:=wrap_i64 (by omega) (by omega)
  have w2:IntKind.i64.wrap (left - W) = left - W:=wrap_i64 (by omega) (by omega)
  have w3:IntKind.i64.wrap (S + Q1) = S + Q1:=wrap_i64 (by omega) (by omega)
  have sL2:∀ (A:Level) (x lo:Level),shutLv ⟨A :: (RS ++ x :: Y),lo⟩ L2 = L2:=fun A x lo=>r1.st _ (by simp)
  by_cases hgt:acc1 < S + Q1
  ·rw [if_pos hgt]
   refine ⟨L2,(7,c7,.box [i (S + Q1),i g0,i g1,i g2]) :: Lb,C2,r1,⟨by simpa using q4,by simp,fun t ht=>by rw [shutLv_cons,qst t ht]; simp,by simpa using qn2,by simpa using qn3⟩,by omega,fun n dd fr=>?_⟩
   have hc7':c7 < C2:=by omega
   simp [c124,argFr,encI,encL,encP,p2,q7,up_at,up_set,qT,hlt,plK,sR,sY,sB,sL,sL2,w1,w2,w3,y3,runY_cons,runY_nil,opY_val,opY_cal,backY_some,valK_mv,valK_bin,valK_fa,valK_ld,valK_build,valK_oth,calK_eq,cY1_fn,s3',hcb,hgt,hc7',put_eq0]
  ·rw [if_neg hgt]
   refine ⟨L2,Lb,C2,r1,⟨q4,q7,qst,qn2,qn3⟩,by omega,fun n dd fr=>?_⟩
   simp [c124,argFr,encI,encL,encP,p2,q7,up_at,up_set,qT,hlt,plK,sR,sY,sB,sL,sL2,w1,w2,w3,y3,runY_cons,runY_nil,opY_val,opY_cal,backY_some,valK_mv,valK_bin,valK_fa,valK_ld,valK_build,valK_oth,calK_eq,cY1_fn,s3',hcb,hgt]
end
end Go.Proofs.Tryz.Op
/- All choices of directions, one after another. No condition but a valid beach. -/
open Go Go.Pg Go.Proofs Go.Wind
namespace Go.Wind
def dfsF (R:Nat):Nat→List Int→List (List Int)
 | 0,p=>[p ++ List.replicate (3 - R) 0]
 | k + 1,p=>four.flatMap fun x=>dfsF R k (p ++ [x])
theorem dfsF_eq (R:Nat):∀ (k:Nat) (p:List Int),dfsF R k p = ((prods (List.replicate k four)).map (p ++ ·)).map (· ++ List.replicate (3 - R) 0)
 | 0,p=>by simp [dfsF,prods]
 | k + 1,p=>by
  have e:prods (List.replicate (k + 1) four) = four.flatMap fun x=>(prods (List.replicate k four)).map (x :: ·):=rfl
  rw [e]
  have e2:dfsF R (k + 1) p = four.flatMap fun x=>dfsF R k (p ++ [x]):=rfl
  rw [e2,List.map_flatMap,List.map_flatMap]
  congr 1
  funext x
  rw [dfsF_eq R k (p ++ [x]),List.map_map,List.map_map,List.map_map]
  refine List.map_congr_left fun t _=>?_
  simp
theorem dfsF_len {R:Nat}:∀ {k:Nat} {p:List Int},p.length + k = R→∀ g ∈ dfsF R k p,g.length = R + (3 - R)
 | 0,p,h,g,hg=>by
  simp only [dfsF,List.mem_singleton] at hg
  subst hg
  simp; omega
 | k + 1,p,h,g,hg=>by
  simp only [dfsF,List.mem_flatMap] at hg
  obtain ⟨x,_,hg⟩:=hg
  exact dfsF_len (by simp; omega) g hg
theorem dfsF_all (R:Nat):dfsF R R [] = allF R:=by
 rw [dfsF_eq]
 unfold allF
 congr 1
 simp
end Go.Wind
namespace Go.Proofs.Tryz.Op
set_option maxRecDepth 100000
set_option linter.unusedSimpArgs false
theorem up_at2 (RS:List Level) (a b:Level) (Y:List Level):(RS ++ a :: b :: Y)[RS.length + 1]? = some b:=by simp
theorem up_set2 (RS:List Level) (a b:Level) (Y:List Level) (f:Level→Level):(RS ++ a :: b :: Y).modify (RS.length + 1) f = RS ++ a :: f b :: Y:=by
 induction RS with
 | nil=>rfl
 | cons x RS ih=>simpa using ih
def capB (γ N c7:Nat) (h left f0 f1 f2:Int):List V:=[.ref [.ptr 0 902 (γ + 2) 0],.ref [i h,i left,i f0,i f1,i f2],.ptr (N + 1) 7 c7 0]
structure Lee (γ N c7:Nat) (h left f0 f1 f2:Int) (e2 e3 e4 e5:Nat) (x:List Int) (L:Level):Prop where
 p2:L.get 2 = some (e2,.box [.ptr 0 902 (γ + 2) 0])
 p3:L.get 3 = some (e3,.box [.fn 124 [] (capB γ N c7 h left f0 f1 f2)])
 p4:L.get 4 = some (e4,.box (x.map i))
 p5:L.get 5 = some (e5,.box [.fn 142 [] [.ptr (N + 2) 2 e2 0,.ptr (N + 2) 3 e3 0,.ptr (N + 2) 4 e4 0,.ptr (N + 2) 5 e5 0]])
 st:∀ t:St,N + 3≤t.up.length→shutLv t L = L
section
variable {b:Beach} {ws:List (List Int)}
def stepH (b:Beach) (ws:List (List Int)) (d h:Nat) (left:Int) (f:List Int):Int × List Int→List Int→Int × List Int:=stepB (workF b f) (fun g=>sureP b ws h g + (bestT b ws d (h + 1) (left - workF b f g) g).1) left
def RecE (b:Beach) (ws:List (List Int)) (γ:Nat) (B:Level) (d h:Nat) (left f0 f1 f2:Int) (RS:List Level) (c4 c7 e2 e3 e4 e5 M k r:Nat):Prop :=
 ∀ (p:List Int),p.length = r→(∀ y ∈ p,0≤y∧y≤3)→∀ (acc:Int × List Int) (L Lb Le:Level) (Z:List Level) (x:List Int) (c:Nat),acc.2.length = 3→Lm b ws γ B L→Lbb RS.length c4 c7 acc Lb→Lee γ RS.length c7 h left f0 f1 f2 e2 e3 e4 e5 x Le→x.length = 3→x.take r = p→x.drop b.rows.toNat = List.replicate (3 - b.rows.toNat) 0→Stays (RS ++ Lb :: Le :: Z)→γ + 2 < c→c7 < c→e4 < c →
  ∃ L' Lb' Le' x' c',Lm b ws γ B L'∧Lbb RS.length c4 c7 ((dfsF b.rows.toNat k p).foldl (stepH b ws d h left [f0,f1,f2]) acc) Lb'∧Lee γ RS.length c7 h left f0 f1 f2 e2 e3 e4 e5 x' Le'∧x'.length = 3∧x'.take r = p∧x'.drop b.rows.toNat = List.replicate (3 - b.rows.toNat) 0∧c≤c' ∧
   ∀ n dd fr,finS Tryz.prog (some dd) fr Tryz.f142.results.toList (execA Tryz.prog ann kn (n + M) 28 c142 ⟨c,argFr 0 [i r,.ptr (RS.length + 2) 2 e2 0,.ptr (RS.length + 2) 3 e3 0,.ptr (RS.length + 2) 4 e4 0,.ptr (RS.length + 2) 5 e5 0],⟨L :: (RS ++ Lb :: Le :: Z),[]⟩⟩) = finU (some dd) fr c' (.tup []) (unsnoc (L' :: (RS ++ Lb' :: Le' :: Z)))
theorem kE0 (hb:Valid b) (hwl:ws.length = b.winds.length) (hok:RowsOK ws) (B:Level) (γ:Nat) (d h:Nat) (hh:h + (d + 1) = b.winds.length) (M:Nat) (hrec:RecBst b ws γ B M d (h + 1)) (left f0 f1 f2:Int) (hf:[f0,f1,f2] ∈ allF b.rows.toNat) (hl:0≤left∧left≤99) (RS:List Level) (c4 c7 e2 e3 e4 e5:Nat):RecE b ws γ B d h left f0 f1 f2 RS c4 c7 e2 e3 e4 e5 (M + 3400) 0 b.rows.toNat:=by
 intro p hp hpd acc L Lb Le Z x c hacc hL hLb hLe hx hxt hxd hst hc hc7 he4
 have hro:=hb.ro
 have hLe0:=hLe
 obtain ⟨q2,q3,q4,q5,qst⟩:=hLe
 have hxe:x = p ++ List.replicate (3 - b.rows.toNat) 0:=by rw [← hxt,← hxd,List.take_append_drop]
 have hg:x ∈ allF b.rows.toNat:=mem_allF.2 ⟨p,hp,hpd,hxe⟩
 have hst2:Stays (RS ++ Lb :: (Le :: (Z ++ [[]]))):=by
  have:=stays_more hst (loc:=[]) (fun _ _=>rfl)
  simpa using this
 obtain ⟨g0,g1,g2,rfl⟩:=three x hx
 obtain ⟨L',Lb',c',r1,r2,r3,r4⟩:=kStepX hb hwl hok B γ d h hh M hrec left f0 f1 f2 hf hl g0 g1 g2 hg RS (Le :: (Z ++ [[]])) L Lb c4 c7 acc hL hLb hst2 c hc hc7 hacc
 refine ⟨L',Lb',Le,[g0,g1,g2],c',r1,?_,hLe0,hx,hxt,hxd,r3,fun n dd fr=>?_⟩
 ·show Lbb RS.length c4 c7 (stepH b ws d h left [f0,f1,f2] acc (p ++ List.replicate (3 - b.rows.toNat) 0)) Lb'
  rw [← hxe]
  exact r2
 ·have hmx:max b.rows 0 = b.rows:=by omega
  have p2:=hL.p2
  have hcb:∀ n dd fr,ca2 (envA Tryz.prog ann kn (n + M + 3395)) (some dd) ⟨c,fr,⟨L :: (RS ++ Lb :: Le :: Z),[]⟩⟩ 124 [.agg [i g0,i g1,i g2],.ref [.ptr 0 902 (γ + 2) 0],.ref [i h,i left,i f0,i f1,i f2],.ptr (RS.length + 1) 7 c7 0] = some ⟨c',(dd,true,.tup []) :: fr,⟨L' :: (RS ++ Lb' :: Le :: Z),[]⟩⟩:=fun n dd fr=>by
   rw [cf_open Tryz.func124 b124 rfl (by simp)]
   have q:=r4 (n + 95) dd fr
   rw [show n + 95 + M + 3300 = n + M + 3395 by omega] at q
   have e:L :: (RS ++ Lb :: Le :: Z) ++ [[]] = L :: (RS ++ Lb :: Le :: (Z ++ [[]])):=by simp
   rw [e]
   refine (Eq.trans ?_ q).trans ?_
   ·rfl
   ·have e2:L' :: (RS ++ Lb' :: Le :: (Z ++ [[]])) = (L' :: (RS ++ Lb' :: Le :: Z)) ++ [[]]:=by simp
    rw [e2,unsnoc_snoc]
    rfl
  have hst3:∀ t:St,RS.length + Z.length + 3≤t.up.length→RS.map (shutLv t) = RS∧Z.map (shutLv t) = Z:=fun t ht=>by
   obtain ⟨h1,h2⟩:=stays_parts hst
   have h3:=h2 t (by simp; omega)
   simp only [List.map_cons,List.cons.injEq] at h3
   exact ⟨h1 t (by simp; omega),h3.2⟩
  have sR:∀ (A x y:Level) (lo:Level),RS.map (shutLv ⟨A :: (RS ++ x :: y :: Z),lo⟩) = RS:=fun A x y lo=>(hst3 _ (by simp <;> omega)).1
  have sZ:∀ (A x y:Level) (lo:Level),Z.map (shutLv ⟨A :: (RS ++ x :: y :: Z),lo⟩) = Z:=fun A x y lo=>(hst3 _ (by simp <;> omega)).2
  have sE:∀ (A x y:Level) (lo:Level),shutLv ⟨A :: (RS ++ x :: y :: Z),lo⟩ Le = Le:=fun A x y lo=>qst _ (by simp <;> omega)
  have sB:∀ (A x y:Level) (lo:Level),shutLv ⟨A :: (RS ++ x :: y :: Z),lo⟩ Lb' = Lb':=fun A x y lo=>r2.st _ (by simp <;> omega)
  have sL:∀ (A x y:Level) (lo:Level),shutLv ⟨A :: (RS ++ x :: y :: Z),lo⟩ L' = L':=fun A x y lo=>r1.st _ (by simp)
  simp only [cellsB] at p2
  simp only [capB] at q3
  rw [← Nat.add_assoc n M 3400]
  simp [c142,argFr,encI,encL,encP,p2,q2,q3,q4,q5,up_at,up_at2,up_set2,hmx,hcb,sR,sZ,sE,sB,sL]
theorem lE (hb:Valid b) (hwl:ws.length = b.winds.length) (B:Level) (γ:Nat) (d h:Nat) (left f0 f1 f2:Int) (RS:List Level) (c4 c7 e2 e3 e4 e5 W k r:Nat) (hr:r + (k + 1) = b.rows.toNat) (hrec:RecE b ws γ B d h left f0 f1 f2 RS c4 c7 e2 e3 e4 e5 (W + 3400) k (r + 1)) (p:List Int) (hp:p.length = r) (hpd:∀ y ∈ p,0≤y∧y≤3) (Z:List Level) :
  ∀ (e j:Nat) (acc:Int × List Int) (L Lb Le:Level) (x:List Int) (c:Nat),j + e = 4→acc.2.length = 3→Lm b ws γ B L→Lbb RS.length c4 c7 acc Lb→Lee γ RS.length c7 h left f0 f1 f2 e2 e3 e4 e5 x Le→x.length = 3→x.take r = p→x.drop b.rows.toNat = List.replicate (3 - b.rows.toNat) 0→Stays (RS ++ Lb :: Le :: Z)→γ + 2 < c→c7 < c→e4 < c →
  ∃ L' Lb' Le' x' c' fr',Lm b ws γ B L'∧Lbb RS.length c4 c7 (((four.drop j).flatMap fun y=>dfsF b.rows.toNat k (p ++ [y])).foldl (stepH b ws d h left [f0,f1,f2]) acc) Lb'∧Lee γ RS.length c7 h left f0 f1 f2 e2 e3 e4 e5 x' Le'∧x'.length = 3∧x'.take r = p∧x'.drop b.rows.toNat = List.replicate (3 - b.rows.toNat) 0∧c≤c' ∧
   ∀ n m,e < m→loopA (execA Tryz.prog ann kn (n + W + 3454) 28) lb142_3 (ann 28 (fstR lb142_3)) m ⟨c,[(0,true,i r),(3,true,.ptr (RS.length + 2) 4 e4 0),(4,true,.ptr (RS.length + 2) 5 e5 0),(17,true,i j)],⟨L :: (RS ++ Lb :: Le :: Z),[]⟩⟩ = some (.exit 0,⟨c',fr',⟨L' :: (RS ++ Lb' :: Le' :: Z),[]⟩⟩)
 | 0,j,acc,L,Lb,Le,x,c,hd,hacc,hL,hLb,hLe,hx,hxt,hxd,hst,hc,hc7,he4=>by
  have:j = 4:=by omega
  subst this
  refine ⟨L,Lb,Le,x,c,?fr,hL,hLb,hLe,hx,hxt,hxd,Nat.le_refl _,fun n m hm=>?g⟩
  case g =>
   obtain ⟨m,rfl⟩:∃ m',m = m' + 1:=⟨m - 1,by omega⟩
   rw [loopA_succ]
   simp
   rfl
 | e + 1,j,acc,L,Lb,Le,x,c,hd,hacc,hL,hLb,hLe,hx,hxt,hxd,hst,hc,hc7,he4=>by
  have hro:=hb.ro
  have hLe0:=hLe
  obtain ⟨q2,q3,q4,q5,qst⟩:=hLe
  have hj4:(j:Int) < 4:=by omega
  have hw:=wrapS (k:=j) (by omega)
  have hwr:=wrapS (k:=r) (by omega)
  have hrx:r < x.length:=by omega
  have hx2l:(x.set r (j:Int)).length = 3:=by simpa using hx
  have hLe2:Lee γ RS.length c7 h left f0 f1 f2 e2 e3 e4 e5 (x.set r (j:Int)) ((4,e4,.box ((x.set r (j:Int)).map i)) :: Le):=⟨by simpa using q2,by simpa using q3,by simp,by simpa using q5,fun t ht=>by
   rw [shutLv_cons,qst t ht]
   obtain ⟨a0,a1,a2,ha⟩:=three _ hx2l
   rw [ha]
   simp⟩
  have hst2:Stays (RS ++ Lb :: ((4,e4,.box ((x.set r (j:Int)).map i)) :: Le) :: (Z ++ [[]])):=by
   have h1:Stays ((RS ++ [Lb]) ++ Le :: Z):=by simpa using hst
   have h2:=stays_mid h1 (x:=(4,e4,.box ((x.set r (j:Int)).map i)) :: Le) (fun t ht=>hLe2.st t (by simpa using ht))
   have h3:=stays_more h2 (loc:=[]) (fun _ _=>rfl)
   simpa using h3
  have hdrop:four.drop j = (j:Int) :: four.drop (j + 1):=by
   have:j = 0∨j = 1∨j = 2∨j = 3:=by omega
   rcases this with rfl | rfl | rfl | rfl <;> rfl
  obtain ⟨L1,Lb1,Le1,x1,C1,s1,s2,s3,s4,s5,s6,s7,s8⟩:=hrec (p ++ [(j:Int)]) (by simp [hp]) (fun y hy=>by
   rcases List.mem_append.1 hy with hy | hy
   ·exact hpd y hy
   ·simp at hy; omega) acc L Lb ((4,e4,.box ((x.set r (j:Int)).map i)) :: Le) (Z ++ [[]]) (x.set r (j:Int)) c hacc hL hLb hLe2 hx2l (take_set hxt (by omega)) (by rw [List.drop_set_of_lt (by omega)]; exact hxd) hst2 hc hc7 he4
  have hcb:∀ n dd fr,ca2 (envA Tryz.prog ann kn (n + W + 3447)) (some dd) ⟨c,fr,⟨L :: (RS ++ Lb :: ((4,e4,.box ((x.set r (j:Int)).map i)) :: Le) :: Z),[]⟩⟩ 142 [i ((r:Int) + 1),.ptr (RS.length + 2) 2 e2 0,.ptr (RS.length + 2) 3 e3 0,.ptr (RS.length + 2) 4 e4 0,.ptr (RS.length + 2) 5 e5 0] = some ⟨C1,(dd,true,.tup []) :: fr,⟨L1 :: (RS ++ Lb1 :: Le1 :: Z),[]⟩⟩:=fun n dd fr=>by
   rw [cf_open Tryz.func142 b142 rfl (by simp)]
   have q:=s8 (n + 47) dd fr
   rw [show n + 47 + (W + 3400) = n + W + 3447 by omega] at q
   have e:L :: (RS ++ Lb :: ((4,e4,.box ((x.set r (j:Int)).map i)) :: Le) :: Z) ++ [[]] = L :: (RS ++ Lb :: ((4,e4,.box ((x.set r (j:Int)).map i)) :: Le) :: (Z ++ [[]])):=by simp
   rw [e]
   refine (Eq.trans ?_ q).trans ?_
   ·rfl
   ·have e2:L1 :: (RS ++ Lb1 :: Le1 :: (Z ++ [[]])) = (L1 :: (RS ++ Lb1 :: Le1 :: Z)) ++ [[]]:=by simp
    rw [e2,unsnoc_snoc]
    rfl
  have hst3:Stays (RS ++ Lb1 :: Le1 :: Z):=by
   have h1:=stays_mid hst (x:=Lb1) (fun t ht=>s2.st t ht)
   have h2:Stays ((RS ++ [Lb1]) ++ Le :: Z):=by simpa using h1
   have h3:=stays_mid h2 (x:=Le1) (fun t ht=>s3.st t (by simpa using ht))
   simpa using h3
  obtain ⟨L',Lb',Le',x',c',fr',i1,i2,i3,i4,i5,i6,i7,ih⟩:=lE hb hwl B γ d h left f0 f1 f2 RS c4 c7 e2 e3 e4 e5 W k r hr hrec p hp hpd Z e (j + 1) _ L1 Lb1 Le1 x1 C1 (by omega) (fold_len _ _ _ _ _ hacc fun g hg=>by
   have:=dfsF_len (R:=b.rows.toNat) (k:=k) (p:=p ++ [(j:Int)]) (by simp [hp]; omega) g hg
   omega) s1 s2 s3 s4 (take_less s5 hp) s6 hst3 (by omega) (by omega) (by omega)
  refine ⟨L',Lb',Le',x',c',fr',i1,?_,i3,i4,i5,i6,by omega,fun n m hm=>?_⟩
  ·rw [hdrop,List.flatMap_cons,List.foldl_append]
   exact i2
  ·obtain ⟨m,rfl⟩:∃ m',m = m' + 1:=⟨m - 1,by omega⟩
   have ih:=ih n m (by omega)
   rw [loopA_succ]
   have hbox:(x.set r (j:Int)).map i = List.take r (x.map i) ++ V.int .i64 (j:Int) :: List.drop (r + 1) (x.map i):=by
    rw [List.map_set,List.set_eq_take_append_cons_drop,if_pos (by simpa using hrx)]
   have hr3:(r:Int) < 3:=by omega
   have hrx2:r + 1≤x.length:=by omega
   rw [hbox] at hcb
   simp at ih
   simp [hr3,hrx2,hj4,hw,hwr,q4,q5,up_at2,up_set2,hrx,he4,put_eq0,hcb,ih]
theorem kE (hb:Valid b) (hwl:ws.length = b.winds.length) (hok:RowsOK ws) (B:Level) (γ:Nat) (d h:Nat) (hh:h + (d + 1) = b.winds.length) (M:Nat) (hrec:RecBst b ws γ B M d (h + 1)) (left f0 f1 f2:Int) (hf:[f0,f1,f2] ∈ allF b.rows.toNat) (hl:0≤left∧left≤99) (RS:List Level) (c4 c7 e2 e3 e4 e5:Nat):∀ (k r:Nat),r + k = b.rows.toNat→RecE b ws γ B d h left f0 f1 f2 RS c4 c7 e2 e3 e4 e5 (M + 60 * k + 3400) k r
 | 0,r,hr=>by
  have:r = b.rows.toNat:=by omega
  subst this
  exact kE0 hb hwl hok B γ d h hh M hrec left f0 f1 f2 hf hl RS c4 c7 e2 e3 e4 e5
 | k + 1,r,hr=>by
  have hk:=kE hb hwl hok B γ d h hh M hrec left f0 f1 f2 hf hl RS c4 c7 e2 e3 e4 e5 k (r + 1) (by omega)
  intro p hp hpd acc L Lb Le Z x c hacc hL hLb hLe hx hxt hxd hst hc hc7 he4
  have hro:=hb.ro
  obtain ⟨L',Lb',Le',x',c',fr',i1,i2,i3,i4,i5,i6,i7,i8⟩:=lE hb hwl B γ d h left f0 f1 f2 RS c4 c7 e2 e3 e4 e5 (M + 60 * k) k r hr hk p hp hpd Z 4 0 acc L Lb Le x c rfl hacc hL hLb hLe hx hxt hxd hst hc hc7 he4
  refine ⟨L',Lb',Le',x',c',i1,by simpa [dfsF] using i2,i3,i4,i5,i6,i7,fun n dd fr=>?_⟩
  have hst3:∀ t:St,RS.length + Z.length + 3≤t.up.length→RS.map (shutLv t) = RS∧Z.map (shutLv t) = Z:=fun t ht=>by
   obtain ⟨h1,h2⟩:=stays_parts hst
   have h3:=h2 t (by simp; omega)
   simp only [List.map_cons,List.cons.injEq] at h3
   exact ⟨h1 t (by simp; omega),h3.2⟩
  have sR:∀ (A x y:Level) (lo:Level),RS.map (shutLv ⟨A :: (RS ++ x :: y :: Z),lo⟩) = RS:=fun A x y lo=>(hst3 _ (by simp <;> omega)).1
  have sZ:∀ (A x y:Level) (lo:Level),Z.map (shutLv ⟨A :: (RS ++ x :: y :: Z),lo⟩) = Z:=fun A x y lo=>(hst3 _ (by simp <;> omega)).2
  have sE:∀ (A x y:Level) (lo:Level),shutLv ⟨A :: (RS ++ x :: y :: Z),lo⟩ Le' = Le':=fun A x y lo=>i3.st _ (by simp <;> omega)
  have sB:∀ (A x y:Level) (lo:Level),shutLv ⟨A :: (RS ++ x :: y :: Z),lo⟩ Lb' = Lb':=fun A x y lo=>i2.st _ (by simp <;> omega)
  have sL:∀ (A x y:Level) (lo:Level),shutLv ⟨A :: (RS ++ x :: y :: Z),lo⟩ L' = L':=fun A x y lo=>i1.st _ (by simp)
  obtain ⟨q2,q3,q4,q5,qst⟩:=hLe
  have p2:=hL.p2
  have hne:¬ (r:Int) = b.rows:=by omega
  rw [show n + (M + 60 * (k + 1) + 3400) = n + (M + 60 * k) + 3460 by omega]
  have i8:=fun m=>i8 (n + 2) (m + 10) (by omega)
  simp only [show n + 2 + (M + 60 * k) + 3454 = n + (M + 60 * k) + 3456 by omega] at i8
  generalize n + (M + 60 * k) = n2 at i8 ⊢
  simp only [cellsB] at p2
  simp at i8
  simp [c142,argFr,encI,encL,encP,p2,q2,q3,q4,q5,up_at,up_at2,up_set2,hne,i8,sR,sZ,sE,sB,sL]
end
end Go.Proofs.Tryz.Op
/- The best from one hour on. No condition but a valid beach. -/
open Go Go.Pg Go.Proofs Go.Wind
namespace Go.Proofs.Tryz.Op
set_option maxRecDepth 100000
set_option linter.unusedSimpArgs false
theorem stays_more2 {rs:List Level} {loc:Level} (h:Stays rs) (hl:∀ t:St,rs.length + 2≤t.up.length→shutLv t loc = loc):Stays (rs ++ [loc]):=by
 intro t ht
 have ht':rs.length + 1 + 1≤t.up.length:=by simpa using ht
 simp only [List.map_append,List.map_cons,List.map_nil]
 rw [h t (by omega),hl t (by omega)]
section
variable {b:Beach} {ws:List (List Int)}
theorem kEach (hb:Valid b) (hwl:ws.length = b.winds.length) (hok:RowsOK ws) (B:Level) (γ:Nat) (d h:Nat) (hh:h + (d + 1) = b.winds.length) (M:Nat) (hrec:RecBst b ws γ B M d (h + 1)) (left f0 f1 f2:Int) (hf:[f0,f1,f2] ∈ allF b.rows.toNat) (hl:0≤left∧left≤99) (RS:List Level) (hst:Stays RS) (c4 c7:Nat) (acc:Int × List Int) (hacc:acc.2.length = 3) (L Lb:Level) (hL:Lm b ws γ B L) (hLb:Lbb RS.length c4 c7 acc Lb) (c:Nat) (hc:γ + 2 < c) (hc7:c7 < c) :
  ∃ L' Lb' c',Lm b ws γ B L'∧Lbb RS.length c4 c7 ((allF b.rows.toNat).foldl (stepH b ws d h left [f0,f1,f2]) acc) Lb'∧c≤c'∧∀ n dd fr,ca2 (envA Tryz.prog ann kn (n + M + 3700)) (some dd) ⟨c,fr,⟨L :: RS,Lb⟩⟩ 123 [.ptr 0 902 (γ + 2) 0,.fn 124 [] (capB γ RS.length c7 h left f0 f1 f2)] = some ⟨c',(dd,true,.tup []) :: fr,⟨L' :: RS,Lb'⟩⟩:=by
 have hro:=hb.ro
 let Le:Level:=[(2,c,.box [.ptr 0 902 (γ + 2) 0]),(3,c + 1,.box [.fn 124 [] (capB γ RS.length c7 h left f0 f1 f2)]),(4,c + 1 + 1,.box [i 0,i 0,i 0]),(5,c + 1 + 1 + 1,.box [.fn 142 [] [.ptr (RS.length + 1 + 1) 2 c 0,.ptr (RS.length + 1 + 1) 3 (c + 1) 0,.ptr (RS.length + 1 + 1) 4 (c + 1 + 1) 0,.ptr (RS.length + 1 + 1) 5 (c + 1 + 1 + 1) 0]])]
 have hLe:Lee γ RS.length c7 h left f0 f1 f2 c (c + 1) (c + 1 + 1) (c + 1 + 1 + 1) [0,0,0] Le:=by
  refine ⟨rfl,rfl,rfl,rfl,fun t ht=>?_⟩
  have e0:¬ 0 = t.up.length:=by omega
  have e1:¬ RS.length + 1 = t.up.length:=by omega
  have e2:¬ RS.length + 1 + 1 = t.up.length:=by omega
  obtain ⟨up,loc⟩:=t
  simp only at e0 e1 e2
  simp [Le,capB,e0,e1,e2]
 have hst1:Stays (RS ++ [Lb]):=stays_more2 hst fun t ht=>hLb.st t (by omega)
 have hst2:Stays (RS ++ Lb :: Le :: []):=by
  have:=stays_more2 hst1 (loc:=Le) fun t ht=>hLe.st t (by simp at ht; omega)
  simpa using this
 obtain ⟨L',Lb',Le',x',c',i1,i2,i3,i4,i5,i6,i7,i8⟩:=kE hb hwl hok B γ d h hh M hrec left f0 f1 f2 hf hl RS c4 c7 c (c + 1) (c + 1 + 1) (c + 1 + 1 + 1) b.rows.toNat 0 (by omega) [] rfl (by simp) acc L Lb Le [] [0,0,0] (c + 1 + 1 + 1 + 1) hacc hL hLb hLe rfl rfl (by
  have:b.rows.toNat = 1∨b.rows.toNat = 2∨b.rows.toNat = 3:=by omega
  rcases this with h | h | h <;> rw [h] <;> rfl) hst2 (by omega) (by omega) (by omega)
 rw [dfsF_all] at i2
 refine ⟨L',Lb',c',i1,i2,by omega,fun n dd fr=>?_⟩
 have hcb:∀ dd fr,ca2 (envA Tryz.prog ann kn (n + M + 3695)) (some dd) ⟨c + 1 + 1 + 1 + 1,fr,⟨L :: (RS ++ [Lb]),Le⟩⟩ 142 [i 0,.ptr (RS.length + 1 + 1) 2 c 0,.ptr (RS.length + 1 + 1) 3 (c + 1) 0,.ptr (RS.length + 1 + 1) 4 (c + 1 + 1) 0,.ptr (RS.length + 1 + 1) 5 (c + 1 + 1 + 1) 0] = some ⟨c',(dd,true,.tup []) :: fr,⟨L' :: (RS ++ [Lb']),Le'⟩⟩:=fun dd fr=>by
  rw [cf_open Tryz.func142 b142 rfl (by simp)]
  have q:=i8 (n + 295 - 60 * b.rows.toNat) dd fr
  rw [show n + 295 - 60 * b.rows.toNat + (M + 60 * b.rows.toNat + 3400) = n + M + 3695 by omega] at q
  have e:L :: (RS ++ [Lb]) ++ [Le] = L :: (RS ++ Lb :: Le :: []):=by simp
  rw [e]
  refine (Eq.trans ?_ q).trans ?_
  ·rfl
  ·have e2:L' :: (RS ++ Lb' :: Le' :: []) = (L' :: (RS ++ [Lb'])) ++ [Le']:=by simp
   rw [e2,unsnoc_snoc]
   rfl
 rw [cf_open Tryz.func123 b123 rfl (by simp)]
 have sR:∀ (A x:Level) (lo:Level),RS.map (shutLv ⟨A :: (RS ++ [x]),lo⟩) = RS:=fun A x lo=>hst _ (by simp)
 have sB:∀ (A x:Level) (lo:Level),shutLv ⟨A :: (RS ++ [x]),lo⟩ Lb' = Lb':=fun A x lo=>i2.st _ (by simp)
 have sL:∀ (A x:Level) (lo:Level),shutLv ⟨A :: (RS ++ [x]),lo⟩ L' = L':=fun A x lo=>i1.st _ (by simp)
 simp only [capB,Le] at hcb ⊢
 simp [c123,argFr,hcb,sR,sB,sL]
theorem soundA_upd {T:List (List Int × V)} (hT:SoundA b ws T) {d h:Nat} (hh:h + d = b.winds.length) (left:Int) (f:List Int):SoundA b ws (updT (((h:Nat):Int) :: left :: f) (.agg (i (bestT b ws d h left f).1 :: (bestT b ws d h left f).2.map i)) T):=by
 intro d' h' left' f' v h1 h2 hv
 rw [look_upd] at hv
 split at hv
 ·rename_i e
  simp only [List.cons.injEq] at e
  obtain ⟨e1,rfl,rfl⟩:=e
  have:h = h':=by omega
  subst this
  have:d = d':=by omega
  subst this
  cases hv
  rfl
 ·exact hT d' h' left' f' v h1 h2 hv
theorem kBst (hb:Valid b) (hwl:ws.length = b.winds.length) (hok:RowsOK ws) (B:Level) (γ:Nat):∀ (d h:Nat),h + d = b.winds.length→RecBst b ws γ B (3706 * d + 100) d h
 | 0,h,hh=>by
  intro left f0 f1 f2 hf hl1 hl2 L RS c hL hst hc
  have hwi:=hb.wi
  have hlt:b.last < (h:Int):=by omega
  have p2:=hL.p2
  have sR:∀ (A:Level) (lo:Level),RS.map (shutLv ⟨A :: RS,lo⟩) = RS:=fun A lo=>hst _ (by simp)
  have sL:∀ (A:Level) (lo:Level),shutLv ⟨A :: RS,lo⟩ L = L:=fun A lo=>hL.st _ (by simp)
  refine ⟨L,c + 3,hL,by omega,fun n dd fr=>?_⟩
  simp only [cellsB] at p2
  rw [show n + (3706 * 0 + 100) = n + 100 by omega]
  simp [c96,argFr,encI,encL,encP,p2,hlt,bestT,plK,placeS,placeL,placeOf,sR,sL]
 | d + 1,h,hh=>by
  intro left f0 f1 f2 hf hl1 hl2 L RS c hL hst hc
  have hwi:=hb.wi
  have h5:=hb.hl
  have hlt:¬ b.last < (h:Int):=by omega
  have hF:=allF_small hf
  have p2:=hL.p2
  obtain ⟨T0,a1,a2,a3⟩:=hL.p0
  have hKo:okK [(h:Int),left,f0,f1,f2]:=by
   refine ⟨rfl,?_⟩
   simp only [List.mem_cons,List.not_mem_nil,or_false,forall_eq_or_imp,forall_eq]
   exact ⟨okI_small (by omega),okI_small (by omega),okI_small (by omega),okI_small (by omega),okI_small (by omega)⟩
  have ql:∀ (r:List Level) (lo:Level),evLookup Tryz.prog ⟨L :: r,lo⟩ 142 (.mp 0 900 γ) (.agg [i h,i left,i f0,i f1,i f2]) true = some (.tup [(lookT [(h:Int),left,f0,f1,f2] T0).getD (.agg [i 0,i 0,i 0,i 0]),.bool (lookT [(h:Int),left,f0,f1,f2] T0).isSome]):=fun r lo=>look_A (by simpa using a3) a1 hKo
  have sR:∀ (A:Level) (lo:Level),RS.map (shutLv ⟨A :: RS,lo⟩) = RS:=fun A lo=>hst _ (by simp)
  have sL:∀ (A:Level) (lo:Level),shutLv ⟨A :: RS,lo⟩ L = L:=fun A lo=>hL.st _ (by simp)
  cases hlk:lookT [(h:Int),left,f0,f1,f2] T0 with
  | some v =>
   rw [hlk] at ql
   have hv:=a2 (d + 1) h left [f0,f1,f2] v hh hf hlk
   subst hv
   have hln:=bestT_len hb ws (d + 1) h left [f0,f1,f2]
   generalize bestT b ws (d + 1) h left [f0,f1,f2] = Q at *
   obtain ⟨Q1,Q2⟩:=Q
   obtain ⟨u0,u1,u2,rfl⟩:=three Q2 hln
   refine ⟨L,c + 4,hL,by omega,fun n dd fr=>?_⟩
   rw [show n + (3706 * (d + 1) + 100) = n + (3706 * d + 100) + 3706 by omega]
   generalize n + (3706 * d + 100) = n2
   simp only [cellsB] at p2
   simp [c96,argFr,encI,encL,encP,p2,hlt,ql,plK,placeS,placeL,placeOf,sR,sL,show Nat.beq 4 1 = false from rfl,show Nat.beq 2 1 = false from rfl]
  | none =>
   rw [hlk] at ql
   have hLb:Lbb RS.length (c + 1 + 1) (c + 1 + 1 + 1 + 1) (-1,[0,0,0]) [(4,c + 1 + 1,.box [i 0,i 0,i 0,i 0]),(7,c + 1 + 1 + 1 + 1,.box [i (-1),i 0,i 0,i 0])]:=⟨rfl,rfl,fun t ht=>by simp,rfl,rfl⟩
   obtain ⟨L1,Lb1,C1,s1,s2,s3,s4⟩:=kEach hb hwl hok B γ d h (by omega) (3706 * d + 100) (kBst hb hwl hok B γ d (h + 1) (by omega)) left f0 f1 f2 hf ⟨hl1,hl2⟩ RS hst (c + 1 + 1) (c + 1 + 1 + 1 + 1) (-1,[0,0,0]) rfl L _ hL hLb (c + 1 + 1 + 1 + 1 + 1) (by omega) (by omega)
   have eQ:(allF b.rows.toNat).foldl (stepH b ws d h left [f0,f1,f2]) (-1,[0,0,0]) = bestT b ws (d + 1) h left [f0,f1,f2]:=rfl
   rw [eQ] at s2
   obtain ⟨T1,b1,b2,b3⟩:=s1.p0
   have hQ:=soundA_upd b2 hh left [f0,f1,f2]
   have hln:=bestT_len hb ws (d + 1) h left [f0,f1,f2]
   have p21:=s1.p2
   generalize bestT b ws (d + 1) h left [f0,f1,f2] = Q at *
   obtain ⟨Q1,Q2⟩:=Q
   obtain ⟨u0,u1,u2,rfl⟩:=three Q2 hln
   have hok1:=okT_upd (.agg (i Q1 :: [u0,u1,u2].map i)) (.inl ⟨[Q1,u0,u1,u2],rfl⟩) hKo b1
   have hL2:=s1.put0 hok1 hQ
   have hsh:=fun t:St=>shut_T t hok1
   have qu:∀ (r:List Level) (lo:Level),evUpd Tryz.prog ⟨L1 :: r,lo⟩ 142 (.mp 0 900 γ) (.agg [i h,i left,i f0,i f1,i f2]) (.agg [i Q1,i u0,i u1,i u2]) = some (0,900,γ,(updT [(h:Int),left,f0,f1,f2] (.agg (i Q1 :: [u0,u1,u2].map i)) T1).map encT):=fun r lo=>upd_A (by simpa using b3) b1 hKo
   generalize (updT [(h:Int),left,f0,f1,f2] (.agg (i Q1 :: [u0,u1,u2].map i)) T1).map encT = TT at *
   have hu1:=fun c fr s es=>up1_some (c:=c) (fr:=fr) (s:=s) 0 900 γ es
   obtain ⟨t4,t7,tst,tn2,tn3⟩:=s2
   have sL1:∀ (A:Level) (lo:Level),shutLv ⟨A :: RS,lo⟩ L1 = L1:=fun A lo=>s1.st _ (by simp)
   refine ⟨_,C1,hL2,by omega,fun n dd fr=>?_⟩
   have s4:=s4 n
   rw [show n + (3706 * (d + 1) + 100) = n + (3706 * d + 100) + 3706 by omega]
   generalize n + (3706 * d + 100) = n2 at s4 ⊢
   have hg:γ < C1:=by omega
   have hg4:c + 1 + 1 < C1:=by omega
   simp only [cellsB] at p2 p21
   simp only [capB] at s4
   simp [c96,argFr,encI,encL,encP,p2,p21,hlt,ql,plK,placeS,placeL,placeOf,s4,qu,hu1,hg,hg4,t4,t7,tn2,tn3,put_eq0,hsh,sR,sL,sL1,show Nat.beq 4 1 = false from rfl,show Nat.beq 2 1 = false from rfl]
end
end Go.Proofs.Tryz.Op
/- Best. No condition but a valid beach. -/
open Go Go.Pg Go.Proofs Go.Wind
namespace Go.Proofs.Tryz.Op
set_option maxRecDepth 100000
set_option linter.unusedSimpArgs false
section
variable {b:Beach} {ws:List (List Int)}
theorem kBstO (hb:Valid b) (hwl:ws.length = b.winds.length) (hok:RowsOK ws) (B:Level) (d h:Nat) (hh:h + d = b.winds.length) (left f0 f1 f2:Int) (hf:[f0,f1,f2] ∈ allF b.rows.toNat) (hl:0≤left∧left≤99) (L:Level) (hL:Lm b ws 4 B L) (c:Nat) (hc:6 < c) :
  ∃ L' c',Lm b ws 4 B L'∧c≤c'∧∀ n dd fr,ca2 (envA Tryz.prog ann kn (n + 19000)) (some dd) ⟨c,fr,⟨[],L⟩⟩ 96 [.ptr 0 902 6 0,.agg [i h,i left,i f0,i f1,i f2]] = some ⟨c',(dd,true,.agg (i (bestT b ws d h left [f0,f1,f2]).1 :: (bestT b ws d h left [f0,f1,f2]).2.map i)) :: fr,⟨[],L'⟩⟩:=by
 have h5:=hb.hl
 obtain ⟨L',c',r1,r2,r3⟩:=kBst hb hwl hok B 4 d h hh left f0 f1 f2 hf hl.1 hl.2 L [] c hL (fun _ _=>rfl) (by omega)
 refine ⟨L',c',r1,r2,fun n dd fr=>?_⟩
 rw [cf_open Tryz.func96 b96 rfl (by simp)]
 have q:=r3 (n + 19000 - (3706 * d + 100)) dd fr
 rw [show n + 19000 - (3706 * d + 100) + (3706 * d + 100) = n + 19000 by omega] at q
 refine (Eq.trans ?_ q).trans ?_
 ·rfl
 ·rfl
@[simp] theorem sr_best:sliceR Tryz.prog 96 = false:=by kernel_rfl
theorem orK_f (a z:Option V):orK false a z = z:=by cases a <;> rfl
theorem oc2_n (d c:Nat) (fr:Fr) (s:St) (z:Option XS):oc2 d c fr s none z = z:=rfl
theorem callK_ptr (rec:RecN) (l k g o:Nat) (a:V):callK Tryz.prog kn rec 96 [.ptr l k g o,a] = none:=by
 rw [callK_of rfl]
 unfold call0
 rw [show ([V.ptr l k g o,a].all (closedV 9)) = false from rfl]
theorem xCall_ca (n:Nat) (d:Option Tmp) (x:Operand) (args:List Operand) (c:Nat) (fr:Fr) (s:St):xCall (envA Tryz.prog ann kn n).cf (yldX (execA Tryz.prog ann kn n)) d x args ⟨c,fr,s⟩ = ca1 (envA Tryz.prog ann kn n) d ⟨c,fr,s⟩ (rdX fr x) (mapO (rdX fr) args):=xCall_eq d ⟨c,fr,s⟩ x args
@[simp] theorem weakV_vtl (l k g j n:Nat):weakV (.vtl l k g j n) = .vtl l k g j n:=rfl
theorem told_vN (l k a b g n:Nat):toldV l k none 3 (.vec a b g n) = .vec a b g n:=rfl
theorem told_LsN (l k:Nat) (A:List (List Int)):List.map (List.map (toldV l k none 3) ∘ encL) A = A.map encL:=List.map_congr_left fun _ _=>rfl
theorem elemF:elemT Tryz.prog 149 = some (some 3,3):=by kernel_rfl
theorem slice_faces {s:St} {g:Nat} {cs:List V} {R:Int} (hs:s.get 0 9 = some (g,.box cs)) (hc:cs.length = 4) (h1:0≤R∧R≤3):evSlice Tryz.prog s 149 (.ptr 0 9 g 1) none (some (.int .i64 R)) none = some (.vtl 0 9 g 1 R.toNat):=by
 unfold evSlice
 rw [elemF]
 simp only [hs]
 have hh:hiN 3 (some (.int .i64 R)) = some R.toNat:=by
  unfold hiN
  simp [h1.1]
  omega
 rw [hh]
 simp [hc]
theorem kCloneF (L:Level) (hst:∀ t:St,1≤t.up.length→shutLv t L = L) (g:Nat) (q u0 u1 u2:Int) (R:Nat) (hR:1≤R∧R≤3) (hL:L.get 9 = some (g,.box [i q,i u0,i u1,i u2])) (c:Nat):∃ c',c≤c'∧∀ n fr,ca2 (envA Tryz.prog ann kn (n + 100)) (some 41) ⟨c,fr,⟨[],L⟩⟩ 97 [.vtl 0 9 g 1 R] = some ⟨c',(41,true,.list false (([u0,u1,u2].take R).map encI)) :: fr,⟨[],L⟩⟩:=by
 refine ⟨c + 1,by omega,fun n fr=>?_⟩
 rw [cf_open Tryz.func97 b97 rfl (by rfl)]
 have hs2:∀ lo:Level,shutLv ⟨[L],lo⟩ L = L:=fun lo=>hst _ (by simp)
 have hn:∀ n,evBin Tryz.prog .eql 22 (.vtl 0 9 g 1 (n + 1)) .nil = some (.bool false):=fun n=>by
  unfold evBin
  simp [isNilS]
 have hR3:R = 1∨R = 2∨R = 3:=by omega
 rcases hR3 with rfl | rfl | rfl
 ·have ha:appOK Tryz.prog 3 0 [[i u0]] = true:=by
   rw [appOK_iff (by simp) (by simp)]
   simp [maxLen]
  have hE:elemsOf ⟨[L],[]⟩ (.vtl 0 9 g 1 1) = some [[i u0]]:=by simp [elemsOf,hL]
  simp [c97,argFr,hL,hs2,hn 0,ha,hE,encI]
 ·have ha:appOK Tryz.prog 3 0 [[i u0],[i u1]] = true:=by
   rw [appOK_iff (by simp) (by simp)]
   simp [maxLen]
  have hE:elemsOf ⟨[L],[]⟩ (.vtl 0 9 g 1 2) = some [[i u0],[i u1]]:=by simp [elemsOf,hL]
  simp [c97,argFr,hL,hs2,hn 1,ha,hE,encI]
 ·have ha:appOK Tryz.prog 3 0 [[i u0],[i u1],[i u2]] = true:=by
   rw [appOK_iff (by simp) (by simp)]
   simp [maxLen]
  have hE:elemsOf ⟨[L],[]⟩ (.vtl 0 9 g 1 3) = some [[i u0],[i u1],[i u2]]:=by simp [elemsOf,hL]
  simp [c97,argFr,hL,hs2,hn 2,ha,hE,encI]
def lvL (b:Beach) (ws:List (List Int)) (most:Int) (g8:Nat) (key:List V) (X:Level) (T0 T1:List (List Int × V)):Level:=(2,0,.box (cellsB b)) :: (3,1,.box [i most]) :: (8,g8,.box key) :: (X ++ [(900,4,.map (T0.map encT)),(901,5,.map (T1.map encT)),(902,6,.box (cellsB b ++ [lli ws,.mp 0 900 4,.mp 0 901 5]))])
theorem lvL_ok {most:Int} {g8:Nat} {h left f0 f1 f2:Int} {γ:Nat} {A:List (List Int)} {T0 T1:List (List Int × V)} (a1:okT T0) (a2:SoundA b ws T0) (b1:okT T1) (b2:SoundI b ws T1):Lm b ws 4 (lvL b ws most g8 [i h,i left,i f0,i f1,i f2] (pl 43 γ 22 (A.map encL)) T0 T1) (lvL b ws most g8 [i h,i left,i f0,i f1,i f2] (pl 43 γ 22 (A.map encL)) T0 T1):=by
 have hx:∀ t:St,1≤t.up.length→shutLv t (lvL b ws most g8 [i h,i left,i f0,i f1,i f2] (pl 43 γ 22 (A.map encL)) T0 T1) = lvL b ws most g8 [i h,i left,i f0,i f1,i f2] (pl 43 γ 22 (A.map encL)) T0 T1:=fun t ht=>by
  have e0:¬ 0 = t.up.length:=by omega
  have s0:=shut_T t a1
  have s1:=shut_T t b1
  have s2:shutRes t (.vec 22 (A.map encL)) = .vec 22 (A.map encL):=shut_vec fun e he v hv=>by
   obtain ⟨x,_,rfl⟩:=List.mem_map.1 he
   simp only [encL,List.mem_cons,List.not_mem_nil,or_false] at hv
   rcases hv with rfl; rfl
  obtain ⟨up,loc⟩:=t
  simp only at e0
  unfold lvL
  generalize T0.map encT = U0 at *
  generalize T1.map encT = U1 at *
  cases A with
  | nil=>simp [cellsB,encI,encL,encP,e0,s0,s1]
  | cons x A =>
   have hpl:pl 43 γ 22 ((x :: A).map encL) = [(43,γ,.vec 22 ((x :: A).map encL))]:=rfl
   rw [hpl]
   generalize (x :: A).map encL = E at *
   simp [cellsB,encI,encL,encP,e0,s0,s1,s2]
 refine ⟨⟨T0,a1,a2,?_⟩,⟨T1,b1,b2,?_⟩,?_,hx,fun _ _ _=>rfl⟩ <;> cases A <;> simp [lvL]
def lv9 (b:Beach) (ws:List (List Int)) (most:Int) (g8:Nat) (key:List V) (g9:Nat) (ans:List V) (X:Level) (T0 T1:List (List Int × V)):Level:=(2,0,.box (cellsB b)) :: (3,1,.box [i most]) :: (8,g8,.box key) :: (9,g9,.box ans) :: (X ++ [(900,4,.map (T0.map encT)),(901,5,.map (T1.map encT)),(902,6,.box (cellsB b ++ [lli ws,.mp 0 900 4,.mp 0 901 5]))])
theorem lv9_ok {most:Int} {g8 g9:Nat} {h left f0 f1 f2 q0 q1 q2 q3:Int} {γ:Nat} {A:List (List Int)} {T0 T1:List (List Int × V)} (a1:okT T0) (b1:okT T1):∀ t:St,1≤t.up.length→shutLv t (lv9 b ws most g8 [i h,i left,i f0,i f1,i f2] g9 [i q0,i q1,i q2,i q3] (pl 43 γ 22 (A.map encL)) T0 T1) = lv9 b ws most g8 [i h,i left,i f0,i f1,i f2] g9 [i q0,i q1,i q2,i q3] (pl 43 γ 22 (A.map encL)) T0 T1:=fun t ht=>by
 have e0:¬ 0 = t.up.length:=by omega
 have s0:=shut_T t a1
 have s1:=shut_T t b1
 have s2:shutRes t (.vec 22 (A.map encL)) = .vec 22 (A.map encL):=shut_vec fun e he v hv=>by
  obtain ⟨x,_,rfl⟩:=List.mem_map.1 he
  simp only [encL,List.mem_cons,List.not_mem_nil,or_false] at hv
  rcases hv with rfl; rfl
 obtain ⟨up,loc⟩:=t
 simp only at e0
 unfold lv9
 generalize T0.map encT = U0 at *
 generalize T1.map encT = U1 at *
 cases A with
 | nil=>simp [cellsB,encI,encL,encP,e0,s0,s1]
 | cons x A =>
  have hpl:pl 43 γ 22 ((x :: A).map encL) = [(43,γ,.vec 22 ((x :: A).map encL))]:=rfl
  rw [hpl]
  generalize (x :: A).map encL = E at *
  simp [cellsB,encI,encL,encP,e0,s0,s1,s2]
theorem appLZ {k:Nat} {x:List Int} (h:k≤10000):appOK Tryz.prog 22 k [[.list false (x.map encI)]] = true:=by
 rw [appOK_iff (by simp) (by simp)]
 simp [maxLen]; omega
theorem lBe7 (hb:Valid b) (hwl:ws.length = b.winds.length) (hok:RowsOK ws) (most:Int) (g8:Nat) (h8:6 < g8) (Q1:Int):∀ (d h:Nat) (left f0 f1 f2:Int) (A:List (List Int)) (T0 T1:List (List Int × V)) (c γ:Nat),h + d = b.winds.length→[f0,f1,f2] ∈ allF b.rows.toNat→0≤left∧left≤99→A.length = h→okT T0→SoundA b ws T0→okT T1→SoundI b ws T1→g8 < c →
  ∃ c' γ' key' T0' T1',∀ n m,d < m→loopA (execA Tryz.prog ann kn (n + 20000) 65) lb36_7 (ann 65 (fstR lb36_7)) m ⟨c,[(2,true,.ptr 0 2 0 0),(4,true,pv 43 γ (A.map encL)),(5,true,i Q1),(7,true,.ptr 0 902 6 0),(8,true,.ptr 0 8 g8 0),(30,true,i (b.last + 1)),(31,true,i h)],⟨[],lvL b ws most g8 [i h,i left,i f0,i f1,i f2] (pl 43 γ 22 (A.map encL)) T0 T1⟩⟩ =
   some (.exit 0,⟨c',[(32,true,.bool false),(2,true,.ptr 0 2 0 0),(4,true,pv 43 γ' ((A ++ (bestG b ws d h left [f0,f1,f2]).map (List.take b.rows.toNat)).map encL)),(5,true,i Q1),(7,true,.ptr 0 902 6 0),(8,true,.ptr 0 8 g8 0),(30,true,i (b.last + 1)),(31,true,i (b.last + 1))],⟨[],lvL b ws most g8 key' (pl 43 γ' 22 ((A ++ (bestG b ws d h left [f0,f1,f2]).map (List.take b.rows.toNat)).map encL)) T0' T1'⟩⟩)
 | 0,h,left,f0,f1,f2,A,T0,T1,c,γ,hd,hf,hl,hA,a1,a2,b1,b2,hc=>by
  have hwi:=hb.wi
  have hh:(h:Int) = b.last + 1:=by omega
  refine ⟨c,γ,[i h,i left,i f0,i f1,i f2],T0,T1,fun n m hm=>?_⟩
  obtain ⟨m,rfl⟩:∃ m',m = m' + 1:=⟨m - 1,by omega⟩
  rw [loopA_succ]
  have e:bestG b ws 0 h left [f0,f1,f2] = []:=rfl
  rw [e,List.map_nil,List.append_nil,← hh]
  simp only [lvL]
  cases A <;> simp
 | d + 1,h,left,f0,f1,f2,A,T0,T1,c,γ,hd,hf,hl,hA,a1,a2,b1,b2,hc=>by
  have hwi:=hb.wi
  have h5:=hb.hl
  have hro:=hb.ro
  have hh:(h:Int) < b.last + 1:=by omega
  have hw:=wrapS (k:=h) (by omega)
  obtain ⟨L1,c1,r1,r2,r3⟩:=kBstO hb hwl hok _ (d + 1) h hd left f0 f1 f2 hf hl _ (lvL_ok (b:=b) (ws:=ws) (most:=most) (g8:=g8) (h:=h) (left:=left) (f0:=f0) (f1:=f1) (f2:=f2) (γ:=γ) (A:=A) a1 a2 b1 b2) c (by omega)
  have r3:=fun n=>r3 (n + 994)
  obtain ⟨n1,n2,n3⟩:=bestT_next hb ws d h left [f0,f1,f2] hf hl.1
  have eG:bestG b ws (d + 1) h left [f0,f1,f2] = (bestT b ws (d + 1) h left [f0,f1,f2]).2 :: bestG b ws d (h + 1) (left - workF b [f0,f1,f2] (bestT b ws (d + 1) h left [f0,f1,f2]).2) (bestT b ws (d + 1) h left [f0,f1,f2]).2:=rfl
  rw [eG]
  have hcl:=bestT_len hb ws (d + 1) h left [f0,f1,f2]
  generalize bestT b ws (d + 1) h left [f0,f1,f2] = Q at *
  obtain ⟨Q,Q2⟩:=Q
  obtain ⟨u0,u1,u2,rfl⟩:=three Q2 hcl
  simp only [List.map_cons,List.map_nil] at n1 n2 n3 r3 ⊢
  have o2:L1.get 2 = some (0,.box (cellsB b)):=r1.ot 2 (by decide) (by decide)
  have o3:L1.get 3 = some (1,.box [i most]):=r1.ot 3 (by decide) (by decide)
  have o8:L1.get 8 = some (g8,.box [i h,i left,i f0,i f1,i f2]):=r1.ot 8 (by decide) (by decide)
  obtain ⟨T0',a1',a2',a3'⟩:=r1.p0
  obtain ⟨T1',b1',b2',b3'⟩:=r1.p1
  have o902:=r1.p2
  have hW:=workF_le hb hf n1
  obtain ⟨c2,hc2,qc⟩:=kCloneF (lv9 b ws most g8 [i h,i left,i f0,i f1,i f2] c1 [i Q,i u0,i u1,i u2] (pl 43 γ 22 (A.map encL)) T0' T1') (lv9_ok a1' b1') c1 Q u0 u1 u2 b.rows.toNat (by omega) rfl (c1 + 1)
  have qc:=fun n=>qc (n + 19893)
  have hsl:=slice_faces (s:=⟨[],lv9 b ws most g8 [i h,i left,i f0,i f1,i f2] c1 [i Q,i u0,i u1,i u2] (pl 43 γ 22 (A.map encL)) T0' T1'⟩) (g:=c1) (R:=b.rows) rfl rfl (by omega)
  have happ:=appLZ (k:=A.length) (x:=[u0,u1,u2].take b.rows.toNat) (by omega)
  have hF:=allF_small hf
  have hU:=allF_small n1
  have qT:=fun n=>kTurned (b:=b) (x0:=f0) (x1:=f1) (x2:=f2) (y0:=u0) (y1:=u1) (y2:=u2) n hb (fun r hr=>allF_dir hf hr) (fun r hr=>allF_dir n1 hr)
  have eW:turnedP b (dirF [f0,f1,f2]) (dirF [u0,u1,u2]) = workF b [f0,f1,f2] [u0,u1,u2]:=rfl
  rw [eW] at qT
  have w2:IntKind.i64.wrap (left - workF b [f0,f1,f2] [u0,u1,u2]) = left - workF b [f0,f1,f2] [u0,u1,u2]:=wrap_i64 (by omega) (by omega)
  obtain ⟨c',γ',key',T0'',T1'',ih⟩:=lBe7 hb hwl hok most g8 h8 Q1 d (h + 1) (left - workF b [f0,f1,f2] [u0,u1,u2]) u0 u1 u2 (A ++ [[u0,u1,u2].take b.rows.toNat]) T0' T1' (c2 + 1) c2 (by omega) n1 ⟨by omega,by omega⟩ (by simp [hA]) a1' a2' b1' b2' (by omega)
  refine ⟨c',γ',key',T0'',T1'',fun n m hm=>?_⟩
  obtain ⟨m,rfl⟩:∃ m',m = m' + 1:=⟨m - 1,by omega⟩
  have ih:=ih n m (by omega)
  have eA:A ++ [[u0,u1,u2].take b.rows.toNat] ++ (bestG b ws d (h + 1) (left - workF b [f0,f1,f2] [u0,u1,u2]) [u0,u1,u2]).map (List.take b.rows.toNat) = A ++ [u0,u1,u2].take b.rows.toNat :: (bestG b ws d (h + 1) (left - workF b [f0,f1,f2] [u0,u1,u2]) [u0,u1,u2]).map (List.take b.rows.toNat):=by simp
  rw [eA] at ih
  generalize A ++ [u0,u1,u2].take b.rows.toNat :: (bestG b ws d (h + 1) (left - workF b [f0,f1,f2] [u0,u1,u2]) [u0,u1,u2]).map (List.take b.rows.toNat) = FF at ih ⊢
  generalize workF b [f0,f1,f2] [u0,u1,u2] = W at *
  generalize ([u0,u1,u2].take b.rows.toNat) = RR at *
  have hg8:g8 < c2 + 1:=by omega
  have hg8':g8 < c2:=by omega
  have hg9:c1 < c1 + 1:=by omega
  rw [loopA_succ]
  have o13:L1.get 13 = none:=by
   rw [r1.ot 13 (by decide) (by decide)]
   cases A <;> rfl
  have o41:L1.get 41 = none:=by
   rw [r1.ot 41 (by decide) (by decide)]
   cases A <;> rfl
  cases A with
  | nil =>
   have o43:L1.get 43 = none:=r1.ot 43 (by decide) (by decide)
   simp only [lvL,lv9,cellsB] at r3 o2 o902 qc hsl qT ih ⊢
   simp [encL] at r3 qc hsl ih happ
   simp [hh,hw,r3,o2,o3,o8,o13,o41,o43,o902,a3',b3',encI,encL,encP,orK_f,oc2_n,callK_ptr,xCall_ca,qc,hsl,happ,qT,w2,ih,put_eqX,hg8,hg8',hg9,plK,apK,anyK,celK,placeS,placeL,placeOf,told_vN,told_LsN]
   exact ih
  | cons x A =>
   have o43:L1.get 43 = some (γ,.vec 22 ((x :: A).map encL)):=r1.ot 43 (by decide) (by decide)
   simp only [lvL,lv9,cellsB] at r3 o2 o902 qc hsl qT ih ⊢
   simp [encL] at r3 qc hsl ih happ
   simp [hh,hw,r3,o2,o3,o8,o13,o41,o43,o902,a3',b3',encI,encL,encP,orK_f,oc2_n,callK_ptr,xCall_ca,qc,hsl,happ,qT,w2,ih,put_eqX,hg8,hg8',hg9,plK,apK,anyK,celK,placeS,placeL,placeOf,told_vN,told_LsN]
def lvBe (b:Beach) (most:Int):Level:=[(2,0,.box (cellsB b)),(3,1,.box [i most])]
theorem fineBest (most:Int):FineOK b (lvBe b most) 93 [.ptr 0 3 1 0] 2 (inI most 0 99):=by
 intro n d fr
 rw [cf_open Tryz.func93 b93 rfl (by simp)]
 have q:=fun n=>kWithin n most 0 99
 simp only [cellsB,lvBe]
 simp [c93,argFr,q,encI,encL,encP]
def bestVV (b:Beach) (most:Int):List (List Int) × Int × Int:=if faultB b = 0 then (if inI most 0 99 = true then (if (dfsW b [] b.winds []).isEmpty = true then ([],0,11) else (bestPl b (windsA b) most,bestV b (windsA b) most,0)) else ([],0,2)) else ([],0,faultB b)
theorem kBest (n:Nat) (b:Beach) (h40:∀ l ∈ b.winds,l.length≤40) (most:Int):callK Tryz.prog kn (execA Tryz.prog ann kn (n+30000)) 36 [.agg (cellsB b),i most] = some (.tup [sl ((bestVV b most).1.map encL),i (bestVV b most).2.1,i (bestVV b most).2.2]):=by
 rw [callK_of rfl,call0_eq Tryz.func36 b36 rfl (by simp [cellsB,encI,encL,encP])]
 have hB:∀ t:St,1≤t.up.length→shutLv t (lvBe b most) = lvBe b most:=fun t ht=>by simp [lvBe,cellsB,encI,encL,encP]
 unfold bestVV
 by_cases h:faultB b = 0
 ·have hb:=valid_of h
  have hf:=fineBest (b:=b) most
  rw [if_pos h]
  cases hz:inI most 0 99 with
  | false =>
   rw [hz] at hf
   rw [if_neg (by decide)]
   have q:=fun n=>kAskedPoor (ff:=93) (cap:=[.ptr 0 3 1 0]) hb hB (by simp) (by simp) 2 13 hf [(12,true,.fn 93 [] [.ptr 0 3 1 0]),(11,true,.agg (cellsB b)),(2,true,.ptr 0 2 0 0),(3,true,.ptr 0 3 1 0),(4,true,.nil)] (n + 23997)
   have slnil:sl ([]:List (List V)) = .nil:=rfl
   simp only [cellsB,lvBe,List.map_nil,slnil] at q ⊢
   simp [c36,argFr,encI,encL,encP,q]
  | true =>
   rw [hz] at hf
   rw [if_pos rfl]
   by_cases hT:dfsW b [] b.winds [] = []
   ·obtain ⟨c',hc',q⟩:=kAskedNone (ff:=93) (cap:=[.ptr 0 3 1 0]) hb hB (by simp) (by simp) 2 13 hf hT [(12,true,.fn 93 [] [.ptr 0 3 1 0]),(11,true,.agg (cellsB b)),(2,true,.ptr 0 2 0 0),(3,true,.ptr 0 3 1 0),(4,true,.nil)]
    rw [if_pos (by rw [hT]; rfl)]
    have q:=fun n=>q (n + 23997)
    have slnil:sl ([]:List (List V)) = .nil:=rfl
    simp only [cellsB,lvBe,List.map_nil,slnil] at q ⊢
    simp [c36,argFr,encI,encL,encP,q]
   ·obtain ⟨c',hc',q⟩:=kAskedOK (ff:=93) (cap:=[.ptr 0 3 1 0]) hb hB (by simp) (by simp) 2 13 hf hT [(12,true,.fn 93 [] [.ptr 0 3 1 0]),(11,true,.agg (cellsB b)),(2,true,.ptr 0 2 0 0),(3,true,.ptr 0 3 1 0),(4,true,.nil)]
    rw [if_neg (by simpa using hT)]
    have q:=fun n=>q (n + 23997)
    have hfa:=hb.fa
    have hro:=hb.ro
    have qf:=fun n=>kFacing n b.face (by omega)
    obtain ⟨x0,x1,x2,hx,_⟩:=pad_in (face_in hb).1 (face_in hb).2
    rw [hx] at qf
    simp only [cellsB,lvBe,encF,List.map_cons,List.map_nil,List.cons_append,List.nil_append] at q qf ⊢
    have hwi:=hb.wi
    have hin:=inI_iff.1 hz
    have hfm:=face_mem hb
    rw [hx] at hfm
    have hok:=windsA_ok hb
    have hwl:(windsA b).length = b.winds.length:=askW_len _ _
    let L0:Level:=[(2,0,.box (cellsB b)),(3,1,.box [i most]),(8,c',.box [i 0,i most,i x0,i x1,i x2]),(900,4,.map []),(901,5,.map []),(902,6,.box (cellsB b ++ [lli (windsA b),.mp 0 900 4,.mp 0 901 5]))]
    have hL0:Lm b (windsA b) 4 L0 L0:=⟨⟨[],⟨by simp,by simp,by simp⟩,fun d h left f v _ _ hv=>(by cases hv),rfl⟩,⟨[],⟨by simp,by simp,by simp⟩,fun h g v hv=>(by cases hv),rfl⟩,rfl,fun t ht=>by
     have e0:¬ 0 = t.up.length:=by omega
     obtain ⟨up,loc⟩:=t
     simp only at e0
     simp [L0,cellsB,encI,encL,encP,e0,shut_map0],fun _ _ _=>rfl⟩
    obtain ⟨L1,c1,r1,r2,r3⟩:=kBstO hb hwl hok L0 b.winds.length 0 (by omega) most x0 x1 x2 hfm hin L0 hL0 (c' + 1) (by omega)
    have r3:=fun n=>r3 (n + 10994)
    have hcl:=bestT_len hb (windsA b) b.winds.length 0 most [x0,x1,x2]
    have eV:bestV b (windsA b) most = (bestT b (windsA b) b.winds.length 0 most [x0,x1,x2]).1:=by unfold bestV; rw [hx]
    rw [eV]
    generalize bestT b (windsA b) b.winds.length 0 most [x0,x1,x2] = Q at *
    obtain ⟨Q1,Q2⟩:=Q
    obtain ⟨u0,u1,u2,rfl⟩:=three Q2 hcl
    have o2:L1.get 2 = some (0,.box (cellsB b)):=r1.ot 2 (by decide) (by decide)
    have o3:L1.get 3 = some (1,.box [i most]):=r1.ot 3 (by decide) (by decide)
    have o8:L1.get 8 = some (c',.box [i 0,i most,i x0,i x1,i x2]):=r1.ot 8 (by decide) (by decide)
    have o43:L1.get 43 = none:=r1.ot 43 (by decide) (by decide)
    have o13:L1.get 13 = none:=r1.ot 13 (by decide) (by decide)
    obtain ⟨T0,a1,a2,a3⟩:=r1.p0
    obtain ⟨T1,b1,b2,b3⟩:=r1.p1
    have o902:=r1.p2
    have w1:IntKind.i64.wrap (b.last + 1) = b.last + 1:=wrap_i64 (by have:=hb.la; omega) (by have:=hb.la; omega)
    obtain ⟨c2,γ2,key2,U0,U1,ql⟩:=lBe7 hb hwl hok most c' (by omega) Q1 b.winds.length 0 most x0 x1 x2 [] T0 T1 c1 0 (by omega) hfm hin rfl a1 a2 b1 b2 (by omega)
    have ql:=fun n m=>ql (n + 9991) (m + 100) (by have:=hb.hl; omega)
    have eP:bestPl b (windsA b) most = [] ++ (bestG b (windsA b) b.winds.length 0 most [x0,x1,x2]).map (List.take b.rows.toNat):=by unfold bestPl; rw [hx]; rfl
    rw [← eP] at ql
    clear eP
    have hcE:∀ (f:Nat) (l:List (List Int)),closedV (f + 3) (sl (l.map encL)) = true:=fun f l=>by cases l <;> simp [sl,encL,encI]
    generalize bestPl b (windsA b) most = FF at *
    simp only [cellsB,L0] at o2 o902 r3
    simp only [lvL,cellsB] at ql
    simp at r3 ql
    simp [c36,argFr,encI,encL,encP,q,qf,r3,o2,o3,o8,o13,o43,a3,b3,o902,w1,ql]
    rw [closeX_pv (T:=22) 2 _ 43 γ2 (FF.map encL) (by cases FF <;> simp)]
    simp [hcE]
 ·rw [if_neg h]
  have q:=fun n=>kAskedFault (ff:=93) (cap:=[.ptr 0 3 1 0]) h40 hB (by simp) h 2 13 [(12,true,.fn 93 [] [.ptr 0 3 1 0]),(11,true,.agg (cellsB b)),(2,true,.ptr 0 2 0 0),(3,true,.ptr 0 3 1 0),(4,true,.nil)] (n + 23997)
  have slnil:sl ([]:List (List V)) = .nil:=rfl
  simp only [cellsB,lvBe,List.map_nil,slnil] at q ⊢
  simp at q
  simp [c36,argFr,encI,encL,encP,q,h]
end
end Go.Proofs.Tryz.Op
